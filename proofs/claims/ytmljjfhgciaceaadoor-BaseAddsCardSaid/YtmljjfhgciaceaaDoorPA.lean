/- Texts of mine that come as one: Plain Data Bag Vis All Get RiseP HeightP NodeP WithP AllP SearchP GetP MergedP BaseP Gen Open GenLaid. -/
import Derived.Test.YtmljjfhgciaceaaDoorHd
import Derived.ProofKit
import Derived.SizedLaws
import Derived.Below
import Derived.Carry
import Derived.Test.YtmljjfhgciaceaaDoorRows
import Derived.Lib.SmallJoins
import Derived.Test.YtmljjfhgciaceaaDoorTie
import Derived.LaidMore
import Derived.MakeChecks
import Derived.OpenShut
import Derived.Stop.Joined
import Derived.SevenTiedAt
import Derived.Handed
import Derived.LaidHandle
namespace Go.Proofs.YtmljjfhgciaceaaDoor
section
variable {n m:Int}
structure aw where
 c:Int
 s:Int
 mi:Int
 ma:Int
 t:Int
 l:Int
 deriving DecidableEq,Inhabited
def within (n most:Int):Bool:=decide (-most<=n) && decide (n<=most)
def av (n low high:Int):Bool:=decide (low<=n) && decide (n<=high)
def aw.zero:aw:=⟨0,0,0,0,0,0⟩
def aw.ranged (r:aw):Prop:=0<=r.c/\r.c<=1073741824/\-1125899906842624<=r.s/\r.s<=1125899906842624/\-1000000<=r.mi/\r.mi<=1000000/\-1000000<=r.ma/\r.ma<=1000000 /\
 -1000000<=r.l/\r.l<=1000000/\0<=r.t/\r.t<=1048575
instance (r:aw):Decidable r.ranged:=by unfold aw.ranged;infer_instance
def aw.formed (r:aw):Prop:=r.mi<=r.l/\r.l<=r.ma/\r.c*r.mi<=r.s/\r.s<=r.c*r.ma
instance (r:aw):Decidable r.formed:=by unfold aw.formed;infer_instance
def aq (r:aw):Int:=if r.ranged then(if r.c=0 then(if r=aw.zero then 0 else 4)else if r.formed then 0 else 4)else 2
def fF (time value:Int):aw×Int:=if 0<=time/\time<=1048575/\-1000000<=value/\value<=1000000 then(⟨1,value,value,value,time,value⟩,0) else(aw.zero,2)
def aw.join (a b:aw):aw:=
 if b.c=0 then a else if a.c=0 then b else
 {c:=a.c+b.c,s:=a.s+b.s,mi:=min a.mi b.mi,ma:=max a.ma b.ma,
  t:=if a.t<b.t\/(a.t=b.t/\a.l<b.l)then b.t else a.t,l:=if a.t<b.t\/(a.t=b.t/\a.l<b.l)then b.l else a.l }
def bH (a b:aw):aw×Int:=
 if aq a≠0 then(aw.zero,aq a)else if aq b≠0 then(aw.zero,aq b) else
 if a.c=0\/b.c=0 then(a.join b,0) else
 if a.c+b.c>1073741824\/within (a.s+b.s) 1125899906842624=false then(aw.zero,1) else(a.join b,0)
theorem wY:within n m=true↔-m<=n/\n<=m:=by simp [within]
theorem Cf:within n m=false↔n < -m\/m<n:=by simp [within];omega
theorem acY {l h:Int}:av n l h=true↔l<=n/\n<=h:=by simp [av]
theorem adV {l h:Int}:av n l h=false↔n<l\/h<n:=by simp [av];omega
theorem rc2 {r:aw} (h:¬r.ranged):aq r=2:=by simp [aq,h]
theorem ZR {r:aw} (h:r=aw.zero):aq r=0:=by subst h;decide
theorem ZP {r:aw} (h:r.ranged) (hc:r.c=0) (hz:r≠aw.zero):aq r=4:=by simp [aq,h,hc,hz]
theorem ZT {r:aw} (h:r.ranged) (hc:r.c≠0) (hf:r.formed):aq r=0:=by simp [aq,h,hc,hf]
theorem rc4 {r:aw} (h:r.ranged) (hc:r.c≠0) (hf:¬r.formed):aq r=4:=by simp [aq,h,hc,hf]
theorem r8 {c:Int} (h0:0<=c) (h1:c<=1073741824) (h2 : -1000000<=m) (h3:m<=1000000) : -1073741824000000<=c*m/\c*m<=1073741824000000:=by
 have a1:c*m<=c*1000000:=KH h3 h0
 have a2:c*(-1000000)<=c*m:=KH h2 h0
 omega
end
section
variable {r a b:aw}
structure aC where
 key:Int
 is:aw
 deriving DecidableEq,Inhabited
structure Nd where
 leaf:Bool
 aF:List aC
 keys:List Int
 kids:List Int
 buf:List aC
 deriving DecidableEq,Inhabited
structure Tr where
 nodes:List Nd
 root:Int
 deriving DecidableEq,Inhabited
def aw.Good (r:aw):Prop:=0<r.c/\-1000000<=r.mi/\r.mi<=1000000/\-1000000<=r.ma/\r.ma<=1000000/\-1000000<=r.l/\r.l<=1000000/\0<=r.t/\r.t<=1048575 /\
 r.mi<=r.l/\r.l<=r.ma/\r.c*r.mi<=r.s/\r.s<=r.c*r.ma
def aw.jr (r:aw):Prop:=r=aw.zero\/r.Good
theorem ru (h:r.Good) (hc:r.c<=1073741824) : -1125899906842624<=r.s/\r.s<=1125899906842624:=by
 obtain⟨h0,h1,h2,h3,h4,h5,h6,h7,h8,h9,h10,h11,h12⟩:=h
 have a1:=r8 (c:=r.c) (m:=r.mi) af hc h1 h2
 have a2:=r8 (c:=r.c) (m:=r.ma) af hc h3 h4
 omega
theorem pY (h:r.Good) (hc:r.c<=1073741824):aq r=0:=by
 have hs:=ru h hc
 obtain⟨h0,h1,h2,h3,h4,h5,h6,h7,h8,h9,h10,h11,h12⟩:=h
 exact ZT (by unfold aw.ranged;omega) af (by unfold aw.formed;omega)
theorem dg (h:aq r=0) (hc:r.c≠0):r.Good/\r.c<=1073741824:=by
 unfold aq at h
 split at h
 ·rename_i hr
  split at h
  ·rename_i hf
   unfold aw.ranged at hr;unfold aw.formed at hf
   unfold aw.Good
   omega
  ·cases h
 ·cases h
theorem A9 (h:aq r=0) (hc:r.c=0):r=aw.zero:=by
 unfold aq at h
 split at h
 ·split at h
  ·assumption
  ·cases h
 ·cases h
theorem eY (r:aw):aq r=0↔r.jr/\r.c<=1073741824:=by
 constructor
 ·intro h
  by_cases hc:r.c=0
  ·exact⟨.inl (A9 h hc),af⟩
  ·have:=dg h hc;exact⟨.inr this.1,this.2⟩
 ·rintro⟨rfl|h,hc⟩
  ·decide
  ·exact pY h hc
theorem aw.jr.pos (h:r.jr):0<=r.c:=by
 rcases h with rfl|h
 ·decide
 ·have:=h.1;omega
theorem aw.jr.good (h:r.jr) (hc:r.c≠0):r.Good:=by
 rcases h with rfl|h
 ·exact absurd rfl hc
 ·exact h
theorem wu:aw.zero.jr:= .inl rfl
theorem aw.jr.zero (h:r.jr) (hc:r.c=0):r=aw.zero:=by
 rcases h with rfl|h
 ·rfl
 ·have:=h.1;omega
theorem abL (a:aw):a.join aw.zero=a:=by simp [aw.join,aw.zero]
theorem eV (h:a.jr):aw.zero.join a=a:=by
 rcases h with rfl|h
 ·decide
 ·have:=h.1
  simp only [aw.join]
  rw [ai af,ar (by rfl)]
theorem dF (a b:aw):(a.join b).c=a.c+b.c:=by
 unfold aw.join
 split
 ·omega
 ·split
  ·omega
  ·rfl
theorem sf (ha:a.Good) (hb:b.Good):(a.join b).Good:=by
 obtain⟨h0,h1,h2,h3,h4,h5,h6,h7,h8,h9,h10,h11,h12⟩:=ha
 obtain⟨g0,g1,g2,g3,g4,g5,g6,g7,g8,g9,g10,g11,g12⟩:=hb
 unfold aw.join
 rw [ai af,ai af]
 have l1:(a.c+b.c)*min a.mi b.mi<=a.s+b.s:=by
  have e1:a.c*min a.mi b.mi<=a.c*a.mi:=KH af af
  have e2:b.c*min a.mi b.mi<=b.c*b.mi:=KH af af
  rw [Int.add_mul];omega
 have l2:a.s+b.s<=(a.c+b.c)*max a.ma b.ma:=by
  have e1:a.c*a.ma<=a.c*max a.ma b.ma:=KH af af
  have e2:b.c*b.ma<=b.c*max a.ma b.ma:=KH af af
  rw [Int.add_mul];omega
 unfold aw.Good
 simp only
 refine⟨af,af,af,af,af,?_,?_,?_,?_,?_,?_,l1,l2⟩ <;> split <;> omega
theorem ja (ha:a.jr) (hb:b.jr):(a.join b).jr:=by
 rcases hb with rfl|hb
 ·rw [abL];exact ha
 ·rcases ha with rfl|ha
  ·rw [eV (.inr hb)];exact .inr hb
  ·exact .inr (sf ha hb)
theorem join_eq (ha:a.c≠0) (hb:b.c≠0):a.join b=⟨a.c+b.c,a.s+b.s,min a.mi b.mi,max a.ma b.ma,if a.t<b.t\/(a.t=b.t/\a.l<b.l)then b.t else a.t,if a.t<b.t\/(a.t=b.t/\a.l<b.l)then b.l else a.l⟩:=by
 unfold aw.join;rw [ai hb,ai ha]
theorem Dr (h1:a.c=b.c) (h2:a.s=b.s) (h3:a.mi=b.mi) (h4:a.ma=b.ma) (h5:a.t=b.t) (h6:a.l=b.l):a=b:=by
 cases a;cases b;simp_all
theorem join_comm (ha:a.jr) (hb:b.jr):a.join b=b.join a:=by
 rcases hb with rfl|hb
 ·rw [abL,eV ha]
 ·rcases ha with rfl|ha
  ·rw [abL,eV (.inr hb)]
  ·have:=ha.1;have:=hb.1
   rw [join_eq af af,join_eq af af]
   refine Dr ?_ ?_ ?_ ?_ ?_ ?_ <;> simp only
   ·omega
   ·omega
   ·omega
   ·omega
   ·split <;> split <;> omega
   ·split <;> split <;> omega
theorem join_assoc {c:aw} (ha:a.jr) (hb:b.jr) (hc:c.jr):(a.join b).join c=a.join (b.join c):=by
 rcases hc with rfl|hc
 ·rw [abL,abL]
 ·rcases hb with rfl|hb
  ·rw [abL,eV (.inr hc)]
  ·rcases ha with rfl|ha
   ·rw [eV (.inr hb),eV (.inr (sf hb hc))]
   ·have:=ha.1;have:=hb.1;have:=hc.1
    have e1:(a.join b).c≠0:=by rw [dF];omega
    have e2:(b.join c).c≠0:=by rw [dF];omega
    have f1:a.join b=⟨a.c+b.c,a.s+b.s,min a.mi b.mi,max a.ma b.ma,if a.t<b.t\/(a.t=b.t/\a.l<b.l)then b.t else a.t,if a.t<b.t\/(a.t=b.t/\a.l<b.l)then b.l else a.l⟩:=by
     unfold aw.join;rw [ai af,ai af]
    have f2:b.join c=⟨b.c+c.c,b.s+c.s,min b.mi c.mi,max b.ma c.ma,if b.t<c.t\/(b.t=c.t/\b.l<c.l)then c.t else b.t,if b.t<c.t\/(b.t=c.t/\b.l<c.l)then c.l else b.l⟩:=by
     unfold aw.join;rw [ai af,ai af]
    have g1:∀x:aw,x.c≠0->x.join c=⟨x.c+c.c,x.s+c.s,min x.mi c.mi,max x.ma c.ma,if x.t<c.t\/(x.t=c.t/\x.l<c.l)then c.t else x.t,if x.t<c.t\/(x.t=c.t/\x.l<c.l)then c.l else x.l⟩:=fun x hx=>by
     unfold aw.join;rw [ai af,ai hx]
    have g2:∀x:aw,x.c≠0->a.join x=⟨a.c+x.c,a.s+x.s,min a.mi x.mi,max a.ma x.ma,if a.t<x.t\/(a.t=x.t/\a.l<x.l)then x.t else a.t,if a.t<x.t\/(a.t=x.t/\a.l<x.l)then x.l else a.l⟩:=fun x hx=>by
     unfold aw.join;rw [ai hx,ai af]
    rw [g1 _ e1,g2 _ e2,f1,f2]
    simp only
    refine Dr ?_ ?_ ?_ ?_ ?_ ?_ <;> simp only
    ·omega
    ·omega
    ·omega
    ·omega
    ·by_cases p:a.t<b.t\/(a.t=b.t/\a.l<b.l) <;> by_cases q:b.t<c.t\/(b.t=c.t/\b.l<c.l) <;> simp only [p,q,if_true,if_false] <;> split <;> (try split) <;> omega
    ·by_cases p:a.t<b.t\/(a.t=b.t/\a.l<b.l) <;> by_cases q:b.t<c.t\/(b.t=c.t/\b.l<c.l) <;> simp only [p,q,if_true,if_false] <;> split <;> (try split) <;> omega
theorem iO (ha:aq a=0) (hb:aq b=0):bH a b=if a.c+b.c<=1073741824 then(a.join b,0) else(aw.zero,1):=by
 obtain⟨fa,ca⟩:=(eY a).1 ha
 obtain⟨fb,cb⟩:=(eY b).1 hb
 have pa:=fa.pos
 have pb:=fb.pos
 unfold bH
 rw [ai (by simp [ha]),ai (by simp [hb])]
 by_cases h0:a.c=0\/b.c=0
 ·rw [ar h0,ar af]
 ·rw [ai h0]
  by_cases h1:a.c+b.c<=1073741824
  ·rw [ar h1]
   have hg:=sf (fa.good af) (fb.good af)
   have hc:=dF a b
   have hs:=ru hg af
   have es:(a.join b).s=a.s+b.s:=by unfold aw.join;rw [ai af,ai af]
   rw [es]at hs
   rw [ai]
   simp [within]
   omega
  ·rw [ai h1,ar (.inl af)]
theorem qU (ha:aq a=0) (hb:aq b=0) (hc:a.c+b.c<=1073741824):bH a b=(a.join b,0)/\aq (a.join b)=0:=by
 obtain⟨fa,ca⟩:=(eY a).1 ha
 obtain⟨fb,cb⟩:=(eY b).1 hb
 refine⟨by rw [iO ha hb,ar hc],(eY _).2 ⟨ja fa fb,by rw [dF a b];exact hc⟩⟩
end
section
variable {e x:aC} {k:Int} {l a b m:List aC}
def adC (l:List aC):Prop:=∀e∈l,e.is.jr
def bh (l:List aC):Prop:=∀e∈l,e.is.Good
def Checked (l:List aC):Prop:=∀e∈l,e.is.c≠0/\aq e.is=0
def aT (l:List aC):Prop:=l.Pairwise fun a b=>a.key<b.key
theorem bh.dD (h:bh l):adC l:=fun e he=> .inr (h e he)
theorem Checked.bQ (h:Checked l):bh l:=fun e he=>(dg (h e he).2 (h e he).1).1
theorem adC.cons (h:adC (e::l)):e.is.jr/\adC l:=⟨h e bj,fun x hx=>h x (by simp [hx])⟩
theorem bh.cons (h:bh (e::l)):e.is.Good/\bh l:=⟨h e bj,fun x hx=>h x (by simp [hx])⟩
def look:List aC->Int->aw
 |[],_=>aw.zero
 |e::l,k=>if e.key=k then e.is.join (look l k)else look l k
theorem cV (h:adC l) (k:Int):(look l k).jr:=by
 induction l with
 |nil=>exact wu
 |cons e l ih=>
  have:=h.cons
  unfold look
  split
  ·exact ja this.1 (ih this.2)
  ·exact ih this.2
theorem lY (ha:adC a) (hb:adC b) (k:Int):look (a++b) k=(look a k).join (look b k):=by
 induction a with
 |nil=>simp only [List.nil_append,look];rw [eV (cV hb k)]
 |cons e l ih=>
  have:=ha.cons
  simp only [List.cons_append,look]
  split
  ·rw [ih this.2,join_assoc this.1 (cV this.2 k) (cV hb k)]
  ·exact ih this.2
theorem iA (h:∀e∈l,e.key≠k):look l k=aw.zero:=by
 induction l with
 |nil=>rfl
 |cons e l ih=>
  unfold look
  rw [ai (h e bj)]
  exact ih fun x hx=>h x (by simp [hx])
theorem o9 (h:a.Perm b) (ha:adC a) (k:Int):look a k=look b k:=by
 induction h with
 |nil=>rfl
 |cons x _ ih=>simp only [look];rw [ih ha.cons.2]
 |swap x y l=>
  have h1:=ha.cons
  have h2:=h1.2.cons
  simp only [look]
  split <;> split
  ·rw [<-join_assoc h1.1 h2.1 (cV h2.2 k),<-join_assoc h2.1 h1.1 (cV h2.2 k),join_comm h1.1 h2.1]
  ·rfl
  ·rfl
  ·rfl
 |trans p _ ih1 ih2=>
  rw [ih1 ha,ih2 fun e he=>ha e (p.mem_iff.2 he)]
theorem vW (h:bh l) (hk:∃e∈l,e.key=k):(look l k).Good:=by
 obtain⟨e,he,hk⟩:=hk
 have hf:=cV h.dD k
 refine hf.good ?_
 induction l with
 |nil=>cases he
 |cons x l ih=>
  have hc:=h.cons
  have hf2:=(cV hc.2.dD k)
  have p1:=hf2.pos
  unfold look
  by_cases hx:x.key=k
  ·rw [ar hx,dF];have:=hc.1.1;omega
  ·rw [ai hx]
   rcases fk.1 he with rfl|he
   ·exact absurd hk hx
   ·exact ih hc.2 he hf2
theorem fX (h:aT l) (he:e∈l):look l e.key=e.is:=by
 induction l with
 |nil=>cases he
 |cons x l ih=>
  have hp:=aez.1 h
  unfold look
  rcases fk.1 he with rfl|he
  ·rw [ar rfl,iA (fun y hy=>by have:=hp.1 y hy;omega),abL]
  ·rw [ai (by have:=hp.1 e he;omega)];exact ih hp.2 he
theorem qW:∀{a b:List aC},aT a->aT b->bh a->bh b->(∀k,look a k=look b k)->a=b
 |[],[],_,_,_,_,_=>rfl
 |[],e::l,_,hb,_,gb,h=>by
  have:=vW gb (k:=e.key) ⟨e,bj,rfl⟩
  rw [<-h e.key]at this
  exact absurd this.1 (by simp [look,aw.zero])
 |e::l,[],ha,_,ga,_,h=>by
  have:=vW ga (k:=e.key) ⟨e,bj,rfl⟩
  rw [h e.key]at this
  exact absurd this.1 (by simp [look,aw.zero])
 |e::l,f::m,ha,hb,ga,gb,h=>by
  have pa:=aez.1 ha
  have pb:=aez.1 hb
  have mem:∀{x:aC} {c d:List aC},x∈c->bh c->(∀k,look c k=look d k)->∃y∈d,y.key=x.key:=by
   intro x c d hx gc hcd
   by_cases hd:∃y∈d,y.key=x.key
   ·exact hd
   ·have e1:look d x.key=aw.zero:=iA fun y hy hk=>hd ⟨y,hy,hk⟩
    have e2:=vW gc (k:=x.key) ⟨x,hx,rfl⟩
    rw [hcd,e1]at e2
    exact absurd e2.1 aW
  have hk:e.key=f.key:=by
   obtain⟨y,hy,e1⟩:=mem (x:=e) bj ga h
   obtain⟨z,hz,e2⟩:=mem (x:=f) bj gb fun k=>(h k).symm
   rcases fk.1 hy with rfl|hy
   ·exact e1.symm
   ·rcases fk.1 hz with rfl|hz
    ·exact e2
    ·have:=pb.1 y hy;have:=pa.1 z hz;omega
  have he:e.is=f.is:=by
   have e1:=fX ha (e:=e) bj
   have e2:=fX hb (e:=f) bj
   rw [h e.key,hk,e2]at e1
   exact e1.symm
  have Re:e=f:=by cases e;cases f;simp_all
  subst Re
  congr 1
  refine qW pa.2 pb.2 ga.cons.2 gb.cons.2 fun k=>?_
  by_cases hk':e.key=k
  ·rw [iA (fun y hy=>by have:=pa.1 y hy;omega),iA (fun y hy=>by have:=pb.1 y hy;omega)]
  ·have:=h k
   simpa [look,hk'] using this
def ins:List aC->aC->List aC
 |[],x=>[x]
 |e::l,x=>if e.key<x.key then e::ins l x else if e.key=x.key then⟨x.key,e.is.join x.is⟩::l else x::e::l
def jI:List aC->aC->Option (List aC)
 |[],x=>some [x]
 |e::l,x=>if e.key<x.key then(jI l x).map (e::·)else if e.key=x.key then(if e.is.c+x.is.c<=1073741824 then some (⟨x.key,e.is.join x.is⟩::l)else none)else some (x::e::l)
theorem rh {y:aC} (h:y∈ins l x):y.key=x.key\/∃e∈l,e.key=y.key:=by
 induction l with
 |nil=>simp [ins]at h;exact .inl (by rw [h])
 |cons e l ih=>
  unfold ins at h
  split at h
  ·rcases fk.1 h with rfl|h
   ·exact .inr ⟨y,bj,rfl⟩
   ·rcases ih h with h|⟨z,hz,hk⟩
    ·exact .inl h
    ·exact .inr ⟨z,by simp [hz],hk⟩
  ·split at h
   ·rcases fk.1 h with rfl|h
    ·exact .inl rfl
    ·exact .inr ⟨y,by simp [h],rfl⟩
   ·rcases fk.1 h with rfl|h
    ·exact .inl rfl
    ·exact .inr ⟨y,h,rfl⟩
theorem jH (h:aT l):aT (ins l x):=by
 induction l with
 |nil=>simp [ins,aT]
 |cons e l ih=>
  have hp:=aez.1 h
  unfold ins
  split
  ·refine aez.2 ⟨fun y hy=>?_,ih hp.2⟩
   rcases rh hy with h|⟨z,hz,hk⟩
   ·omega
   ·have:=hp.1 z hz;omega
  ·split
   ·exact aez.2 ⟨fun y hy=>by have:=hp.1 y hy;simp only;omega,hp.2⟩
   ·refine aez.2 ⟨fun y hy=>?_,h⟩
    rcases fk.1 hy with rfl|hy
    ·omega
    ·have:=hp.1 y hy;omega
theorem jR (h:bh l) (hx:x.is.Good):bh (ins l x):=by
 induction l with
 |nil=>intro e he;simp [ins]at he;rw [he];exact hx
 |cons e l ih=>
  have hc:=h.cons
  unfold ins
  split
  ·intro y hy
   rcases fk.1 hy with rfl|hy
   ·exact hc.1
   ·exact ih hc.2 y hy
  ·split
   ·intro y hy
    rcases fk.1 hy with rfl|hy
    ·exact sf hc.1 hx
    ·exact hc.2 y hy
   ·intro y hy
    rcases fk.1 hy with rfl|hy
    ·exact hx
    ·exact h y hy
theorem aau (h:adC l) (hx:x.is.jr) (k:Int):look (ins l x) k=if x.key=k then(look l k).join x.is else look l k:=by
 induction l with
 |nil=>
  simp only [ins,look]
  split
  ·rw [abL,eV hx]
  ·rfl
 |cons e l ih=>
  have hc:=h.cons
  have hf:=cV hc.2 k
  unfold ins
  split
  ·unfold look
   rw [ih hc.2]
   by_cases h1:e.key=k
   ·rw [ar h1,ar h1,ai af,ai af]
   ·rw [ai h1,ai h1]
  ·split
   ·simp only [look]
    by_cases h1:x.key=k
    ·rw [ar h1,ar h1,ar af,join_assoc hc.1 hx hf,join_assoc hc.1 hf hx,join_comm hx hf]
    ·rw [ai h1,ai h1,ai af]
   ·simp only [look]
    by_cases h1:x.key=k
    ·rw [ar h1,ar h1,ai af,join_comm hx hf]
    ·rw [ai h1,ai h1]
theorem yz (h:aT l) (hx:x.is.c<=1073741824):jI l x=if (look l x.key).c+x.is.c<=1073741824 then some (ins l x)else none:=by
 induction l with
 |nil=>
  have:(look [] x.key).c+x.is.c<=1073741824:=by simpa [look,aw.zero] using hx
  rw [ar this];rfl
 |cons e l ih=>
  have hp:=aez.1 h
  by_cases h1:e.key<x.key
  ·have e1:look (e::l) x.key=look l x.key:=by show (if e.key=x.key then _ else _)=_;rw [ai af]
   have e2:ins (e::l) x=e::ins l x:=by show (if e.key<x.key then _ else _)=_;rw [ar h1]
   have e3:jI (e::l) x=(jI l x).map (e::·):=by show (if e.key<x.key then _ else _)=_;rw [ar h1]
   rw [e1,e2,e3,ih hp.2]
   by_cases h2:(look l x.key).c+x.is.c<=1073741824
   ·rw [ar h2,ar h2];rfl
   ·rw [ai h2,ai h2];rfl
  ·have hl:look l x.key=aw.zero:=iA fun y hy=>by have:=hp.1 y hy;omega
   by_cases h2:e.key=x.key
   ·have e1:look (e::l) x.key=e.is:=by show (if e.key=x.key then _ else _)=_;rw [ar h2,hl,abL]
    have e2:ins (e::l) x=⟨x.key,e.is.join x.is⟩::l:=by show (if e.key<x.key then _ else if e.key=x.key then _ else _)=_;rw [ai h1,ar h2]
    have e3:jI (e::l) x=if e.is.c+x.is.c<=1073741824 then some (⟨x.key,e.is.join x.is⟩::l)else none:=by show (if e.key<x.key then _ else if e.key=x.key then _ else _)=_;rw [ai h1,ar h2]
    rw [e1,e2,e3]
   ·have e1:look (e::l) x.key=aw.zero:=by show (if e.key=x.key then _ else _)=_;rw [ai h2,hl]
    have e2:ins (e::l) x=x::e::l:=by show (if e.key<x.key then _ else if e.key=x.key then _ else _)=_;rw [ai h1,ai h2]
    have e3:jI (e::l) x=some (x::e::l):=by show (if e.key<x.key then _ else if e.key=x.key then _ else _)=_;rw [ai h1,ai h2]
    rw [e1,e2,e3,ar (by simpa [aw.zero] using hx)]
def oG (l:List aC):List aC:=l.foldl ins []
def fe (l:List aC):Option (List aC):=l.foldlM jI []
def Small (l:List aC):Prop:=∀k,(look l k).c<=1073741824
theorem wm (hm:aT m/\bh m) (hl:bh l):aT (l.foldl ins m)/\bh (l.foldl ins m)/\∀k,look (l.foldl ins m) k=(look m k).join (look l k):=by
 induction l generalizing m with
 |nil=>exact⟨hm.1,hm.2,fun k=>by simp [look,abL]⟩
 |cons x l ih=>
  have hc:=hl.cons
  obtain⟨a,b,c⟩:=ih ⟨jH hm.1,jR hm.2 hc.1⟩ hc.2
  refine⟨a,b,fun k=>?_⟩
  simp only [List.foldl_cons]
  rw [c,aau hm.2.dD (.inr hc.1)]
  simp only [look]
  by_cases h:x.key=k
  ·rw [ar h,ar h,join_assoc (cV hm.2.dD k) (.inr hc.1) (cV hc.2.dD k)]
  ·rw [ai h,ai h]
theorem dV (hl:bh l):aT (oG l):=(wm (m:=[]) ⟨List.Pairwise.nil,fun _ h=>by cases h⟩ hl).1
theorem fA (hl:bh l):bh (oG l):=(wm (m:=[]) ⟨List.Pairwise.nil,fun _ h=>by cases h⟩ hl).2.1
theorem fY (hl:bh l) (k:Int):look (oG l) k=look l k:=by
 have:=(wm (m:=[]) ⟨List.Pairwise.nil,fun _ h=>by cases h⟩ hl).2.2 k
 simp only [look]at this
 unfold oG;rw [this,eV (cV hl.dD k)]
theorem ND (h:a.Perm b) (ha:bh a):oG a=oG b:=by
 have hb:bh b:=fun e he=>ha e (h.mem_iff.2 he)
 refine qW (dV ha) (dV hb) (fA ha) (fA hb) fun k=>?_
 rw [fY ha,fY hb,o9 h ha.dD]
theorem IU (ha:adC a) (hb:adC b) (k:Int):(look a k).c<=(look (a++b) k).c:=by
 rw [lY ha hb,dF];have:=(cV hb k).pos;omega
theorem bg:bh (a++b)↔bh a/\bh b:=
 ⟨fun h=>⟨fun e he=>h e (by simp [he]),fun e he=>h e (by simp [he])⟩,fun h e he=>by rcases kJ.1 he with he|he;exact h.1 e he;exact h.2 e he⟩
theorem Checked.cons (h:Checked (x::l)):(x.is.c≠0/\aq x.is=0)/\Checked l:=⟨h x bj,fun y hy=>h y (by simp [hy])⟩
theorem Checked.le (h:Checked l):∀e∈l,e.is.c<=1073741824:=fun e he=>(dg (h e he).2 (h e he).1).2
open Classical in
theorem EA (hm:aT m) (gm:bh m) (hl:Checked l) (hs:Small m) :
  l.foldlM jI m=if Small (m++l)then some (l.foldl ins m)else none:=by
 induction l generalizing m with
 |nil=>rw [List.foldlM_nil,ar (by simpa using hs)];rfl
 |cons x l ih=>
  have hc:=hl.bQ.cons
  have e1:look (m++x::l)=look ((ins m x)++l):=by
   funext k
   rw [lY gm.dD hl.bQ.dD,lY (jR gm hc.1).dD hc.2.dD,aau gm.dD (.inr hc.1)]
   simp only [look]
   by_cases h:x.key=k
   ·rw [ar h,ar h,join_assoc (cV gm.dD k) (.inr hc.1) (cV hc.2.dD k)]
   ·rw [ai h,ai h]
  have e2:Small (m++x::l)↔Small ((ins m x)++l):=by unfold Small;rw [e1]
  have hle:∀k,(look (ins m x) k).c<=(look (m++x::l) k).c:=fun k=>by rw [e1];exact IU (jR gm hc.1).dD hc.2.dD k
  have hlx:=aau gm.dD (.inr hc.1:x.is.jr)
  rw [List.foldlM_cons,yz hm (hl.le x bj)]
  by_cases h1:(look m x.key).c+x.is.c<=1073741824
  ·rw [ar h1]
   have hs':Small (ins m x):=fun k=>by
    rw [hlx]
    split
    ·rename_i h;subst h;rw [dF];exact h1
    ·exact hs k
   show List.foldlM jI (ins m x) l=_
   rw [ih (jH hm) (jR gm hc.1) hl.cons.2 hs']
   by_cases h2:Small (m++x::l)
   ·rw [ar (e2.1 h2),ar h2];rfl
   ·rw [ai (fun h=>h2 (e2.2 h)),ai h2]
  ·rw [ai h1,ai]
   ·rfl
   ·intro h
    have:=hle x.key
    rw [hlx,ar rfl,dF]at this
    have:=h x.key
    omega
open Classical in
theorem jC (hl:Checked l):fe l=if Small l then some (oG l)else none:=by
 have:=EA (m:=[]) List.Pairwise.nil (fun _ h=>by cases h) hl (fun k=>by simp [look,aw.zero])
 simpa [fe,oG] using this
theorem mZ (h:a.Perm b) (ha:adC a):Small a↔Small b:=by
 unfold Small;constructor <;> intro hs k
 ·rw [<-o9 h ha];exact hs k
 ·rw [o9 h ha];exact hs k
theorem KA (h:a.Perm b) (ha:Checked a):fe a=fe b:=by
 have hb:Checked b:=fun e he=>ha e (h.mem_iff.2 he)
 rw [jC ha,jC hb,ND h ha.bQ]
 by_cases hs:Small a
 ·rw [ar hs,ar ((mZ h ha.bQ.dD).1 hs)]
 ·rw [ai hs,ai (fun h'=>hs ((mZ h ha.bQ.dD).2 h'))]
theorem xM (hl:bh l) (hs:Small l):Checked (oG l):=fun e he=>by
 have hg:=fA hl e he
 refine⟨by have:=hg.1;omega,pY hg ?_⟩
 rw [<-fX (dV hl) he,fY hl];exact hs _
theorem aaY (hr:aT l) (hl:Checked l) (hx:x.is.Good) (hc:(look l x.key).c+x.is.c<=1073741824):Checked (ins l x):=fun e he=>by
 have hg:=jR hl.bQ hx e he
 refine⟨by have:=hg.1;omega,pY hg ?_⟩
 rw [<-fX (jH hr) he,aau hl.bQ.dD (.inr hx)]
 split
 ·rename_i h;rw [<-h,dF];exact hc
 ·rename_i h
  by_cases hm:∃y∈l,y.key=e.key
  ·obtain⟨y,hy,hk⟩:=hm
   rw [<-hk,fX hr hy];exact hl.le y hy
  ·rw [iA fun y hy hk=>hm ⟨y,hy,hk⟩];decide
end
section
variable {lo hi n d:Int} {l S:List Int} {f h:Nat} {x:Nd} {t:Tr}
def dB (l:List aC) (lo hi:Int):Prop:=Checked l/\(∀e∈l,lo<=e.key/\e.key<hi)/\aT l
def Tr.dh (t:Tr) (n:Int):Option Nd:=if 0<=n then t.nodes[n.toNat]? else none
def mq (t:Tr) (n:Int) (x:Nd) (lo hi:Int):Prop:=x.keys=[]/\x.kids=[]/\x.buf=[]/\x.aF.length<=6/\(x.aF≠[]\/n=t.root)/\dB x.aF lo hi
def qw (x:Nd) (lo hi:Int):Prop:=x.aF=[]/\2<=x.kids.length/\x.kids.length<=4/\x.keys.length+1=x.kids.length/\x.buf.length<=8/\dB x.buf lo hi
def Nd.from (x:Nd) (lo:Int) (i:Nat):Int:=if i=0 then lo else x.keys.getD (i-1) 0
def Nd.upto (x:Nd) (hi:Int) (i:Nat):Int:=if i<x.keys.length then x.keys.getD i 0 else hi
open Classical in
def ct (go:Int->Int->Int->Option (List Int×Nat)) (x:Nd) (lo hi:Int):List Int->Nat->Option (List Int×Nat)
 |[],_=>some ([],0)
 |k::ks,i=>
  if x.from lo i<x.upto hi i/\lo<=x.from lo i/\x.upto hi i<=hi then
   match go k (x.from lo i) (x.upto hi i),ct go x lo hi ks (i+1) with
   |some (l,h),some (l',h')=>if h'=0\/h'=h then some (l++l',h)else none
   |_,_=>none
  else none
open Classical in
noncomputable def mC (t:Tr):Nat->Int->Int->Int->Option (List Int×Nat)
 |0,_,_,_=>none
 |f+1,n,lo,hi=>
  match t.dh n with
  |none=>none
  |some x=>
   if ¬lo<hi then none
   else if x.leaf=true then(if mq t n x lo hi then some ([n],1)else none)
   else if qw x lo hi then(ct (fun k a b=>mC t f k a b) x lo hi x.kids 0).map fun p=>(n::p.1,p.2+1)
   else none
open Classical in
def ni {σ:Type} (go:Int->Int->Int->σ->Option σ) (x:Nd) (lo hi:Int):List Int->Nat->σ->Option σ
 |[],_,s=>some s
 |k::ks,i,s=>
  if x.from lo i<x.upto hi i/\lo<=x.from lo i/\x.upto hi i<=hi then
   match go k (x.from lo i) (x.upto hi i) s with
   |none=>none
   |some s'=>ni go x lo hi ks (i+1) s'
  else none
open Classical in
noncomputable def dQ (t:Tr):Nat->Int->Int->Int->List Int×Int->Option (List Int×Int)
 |0,_,_,_,_=>none
 |f+1,n,lo,hi,s=>
  match t.dh n with
  |none=>none
  |some x=>
   if n∈s.1 then none
   else if x.leaf=true then(if (s.2=0\/s.2=12-(f:Int))/\mq t n x lo hi then some (n::s.1,12-(f:Int))else none)
   else if qw x lo hi then ni (fun k a b s=>dQ t f k a b s) x lo hi x.kids 0 (n::s.1,s.2)
   else none
open Classical in
def aeb (go:Int->Int->Int->List Int->Option (Int×List Int)) (x:Nd) (lo hi:Int):List Int->Nat->Int×List Int->Option (Int×List Int)
 |[],_,s=>some s
 |k::ks,i,s=>
  if lo<=x.upto hi i/\x.upto hi i<=hi then
   match go k (x.from lo i) (x.upto hi i) s.2 with
   |none=>none
   |some (h,s')=>if s.1=0\/h=s.1 then aeb go x lo hi ks (i+1) (h,s')else none
  else none
open Classical in
noncomputable def abB (t:Tr):Nat->Int->Int->Int->List Int->Option (Int×List Int)
 |0,_,_,_,_=>none
 |f+1,n,lo,hi,s=>
  match t.dh n with
  |none=>none
  |some x=>
   if n∈s\/¬lo<hi then none
   else if x.leaf=true then(if mq t n x lo hi then some (12-(f:Int),n::s)else none)
   else if qw x lo hi then aeb (fun k a b s=>abB t f k a b s) x lo hi x.kids 0 (0,n::s)
   else none
theorem qK {go:Int->Int->Int->Option (List Int×Nat)} (hgo:∀k a b l h,go k a b=some (l,h)->1<=h) :
  ∀{ks:List Int} {i:Nat} {l:List Int} {h:Nat},ct go x lo hi ks i=some (l,h)->ks=[]\/1<=h
 |[],_,_,_,_=> .inl rfl
 |k::ks,i,l,h,hv=>by
  unfold ct at hv
  split at hv
  ·split at hv
   ·rename_i l1 h1 l2 h2 e1 e2
    split at hv
    ·simp only [iw,jM]at hv
     exact .inr (hv.2▸hgo _ _ _ _ _ e1)
    ·cases hv
   ·cases hv
  ·cases hv
theorem yt (hv:mC t f n lo hi=some (l,h)):1<=h:=by
 cases f with
 |zero=>cases hv
 |succ f=>
  unfold mC at hv
  split at hv
  ·cases hv
  ·split at hv
   ·cases hv
   ·split at hv
    ·split at hv
     ·simp only [iw,jM]at hv;omega
     ·cases hv
    ·split at hv
     ·obtain⟨p,_,hp⟩:=Option.map_eq_some_iff.1 hv
      simp only [jM]at hp;omega
     ·cases hv
theorem Li (hv:mC t f n lo hi=some (l,h)):lo<hi:=by
 cases f with
 |zero=>cases hv
 |succ f=>
  unfold mC at hv
  split at hv
  ·cases hv
  ·split at hv
   ·cases hv
   ·rename_i h;exact Classical.not_not.1 h
def apart (l S:List Int):Prop:=l.Nodup/\∀x∈l,x∉S
theorem mP {l':List Int}:apart (l++l') S↔apart l S/\apart l' (l.reverse++S):=by
 unfold apart
 rw [List.nodup_append]
 constructor
 ·rintro⟨⟨h1,h2,h3⟩,h4⟩
  refine⟨⟨h1,fun x hx=>h4 x (by simp [hx])⟩,h2,fun x hx hh=>?_⟩
  rcases kJ.1 hh with hh|hh
  ·exact h3 x (by simpa using hh) x hx rfl
  ·exact h4 x (by simp [hx]) hh
 ·rintro⟨⟨h1,h2⟩,h3,h4⟩
  refine⟨⟨h1,h3,fun a ha b hb hab=>?_⟩,fun x hx=>?_⟩
  ·subst hab;exact h4 a hb (by simp [ha])
  ·rcases kJ.1 hx with hx|hx
   ·exact h2 x hx
   ·exact fun hh=>h4 x hx (by simp [hh])
theorem af8:apart (n::l) S↔n∉S/\apart l (n::S):=by
 have:=mP (l:=[n]) (l':=l) (S:=S)
 simp only [List.singleton_append,List.reverse_singleton]at this
 rw [this]
 simp [apart]
theorem KF (S:List Int):apart [] S:=by simp [apart]
open Classical in
theorem JS {go:Int->Int->Int->List Int×Int->Option (List Int×Int)} {gv:Int->Int->Int->Option (List Int×Nat)} (hd:0<=d)
  (hpos:∀k a b l h,gv k a b=some (l,h)->1<=h)
  (hgo:∀k a b S D,a<b->go k a b (S,D)=match gv k a b with|none=>none|some (l,h)=>if apart l S/\(D=0\/D=d+h)then some (l.reverse++S,d+h)else none) :
  ∀(ks:List Int) (i:Nat) (S:List Int) (D:Int),ni go x lo hi ks i (S,D)=match ct gv x lo hi ks i with
   |none=>none
   |some (l,h)=>if apart l S/\(h=0\/D=0\/D=d+h)then some (l.reverse++S,if h=0 then D else d+h)else none:=by
 intro ks
 induction ks with
 |nil=>intro i S D;simp [ni,ct,KF]
 |cons k ks ih=>
  intro i S D
  unfold ni ct
  by_cases hc:x.from lo i<x.upto hi i/\lo<=x.from lo i/\x.upto hi i<=hi
  ·rw [ar hc,ar hc,hgo _ _ _ _ _ hc.1]
   cases hg:gv k (x.from lo i) (x.upto hi i) with
   |none=>rfl
   |some p=>
    obtain⟨l,h⟩:=p
    have hp:=hpos _ _ _ _ _ hg
    simp only
    by_cases h1:apart l S/\(D=0\/D=d+h)
    ·rw [ar h1]
     simp only
     rw [ih]
     cases hk:ct gv x lo hi ks (i+1) with
     |none=>rfl
     |some q=>
      obtain⟨l',h'⟩:=q
      simp only
      by_cases h2:h'=0\/h'=h
      ·rw [ar h2]
       simp only
       by_cases h3:apart l' (l.reverse++S)
       ·have c1:apart l' (l.reverse++S)/\(h'=0\/d+(h:Int)=0\/d+(h:Int)=d+h'):=⟨h3,af⟩
        have c2:apart (l++l') S/\(h=0\/D=0\/D=d+h):=⟨mP.2 ⟨h1.1,h3⟩,af⟩
        rw [ar c1,ar c2,List.reverse_append,jv]
        congr 2
        by_cases h0:h'=0
        ·rw [ar h0,ai af]
        ·rw [ai h0,ai af];omega
       ·rw [ai (fun h=>h3 h.1),ai (fun h=>h3 (mP.1 h.1).2)]
      ·rw [ai h2]
       have c1:¬(apart l' (l.reverse++S)/\(h'=0\/d+(h:Int)=0\/d+(h:Int)=d+h')):=fun h=>af
       rw [ai c1]
    ·rw [ai h1]
     cases hk:ct gv x lo hi ks (i+1) with
     |none=>rfl
     |some q=>
      obtain⟨l',h'⟩:=q
      simp only
      by_cases h2:h'=0\/h'=h
      ·rw [ar h2]
       have c2:¬(apart (l++l') S/\(h=0\/D=0\/D=d+h)):=fun hh=>h1 ⟨(mP.1 hh.1).1,af⟩
       show none=ite _ _ _
       rw [ai c2]
      ·rw [ai h2]
  ·rw [ai hc,ai hc]
open Classical in
theorem JL:∀(f:Nat) (n lo hi:Int) (S:List Int) (D:Int),f<=12->lo<hi->dQ t f n lo hi (S,D)=match mC t f n lo hi with
   |none=>none
   |some (l,h)=>if apart l S/\(D=0\/D=12-f+h)then some (l.reverse++S,12-f+h)else none:=by
 intro f
 induction f with
 |zero=>intro n lo hi S D _ _;rfl
 |succ f ih=>
  intro n lo hi S D hf hlt
  unfold dQ mC
  cases hx:t.dh n with
  |none=>rfl
  |some x=>
   simp only
   rw [ai (jo hlt)]
   by_cases hl:x.leaf=true
   ·rw [ar hl,ar hl]
    by_cases hok:mq t n x lo hi
    ·rw [ar hok]
     simp only [apart,List.nodup_cons,List.not_mem_nil,not_false_eq_true,List.nodup_nil,and_self,mR,forall_eq,true_and,hok,and_true]
     by_cases hn:n∈S
     ·rw [ar hn,ai (fun h=>h.1 hn)]
     ·rw [ai hn]
      by_cases hD:D=0\/D=12-(f:Int)
      ·rw [ar hD,ar ⟨hn,af⟩];simp;omega
      ·rw [ai hD,ai (fun h=>hD af)]
    ·rw [ai hok]
     simp only [hok,and_false,if_false]
     split <;> rfl
   ·rw [ai hl,ai hl]
    by_cases hok:qw x lo hi
    ·rw [ar hok,ar hok,JS (gv:=fun k a b=>mC t f k a b) (d:=12-f) af (fun k a b l h hv=>yt hv) (fun k a b S D hab=>ih k a b S D af hab)]
     cases hk:ct (fun k a b=>mC t f k a b) x lo hi x.kids 0 with
     |none=>simp
     |some q=>
      obtain⟨l,h⟩:=q
      have hp:1<=h:=by
       rcases qK (fun k a b l h hv=>yt hv) hk with h0|h0
       ·have:=hok.2.1;rw [h0]at this;simp at this
       ·exact h0
      simp only [Option.map_some,af8,List.reverse_cons,jv,List.singleton_append]
      by_cases hn:n∈S
      ·rw [ar hn,ai (fun h=>h.1.1 hn)]
      ·rw [ai hn]
       by_cases ha:apart l (n::S)/\(D=0\/D=12-(f:Int)+h)
       ·have c1:apart l (n::S)/\(h=0\/D=0\/D=12-(f:Int)+h):=⟨ha.1, .inr ha.2⟩
        have c2:(n∉S/\apart l (n::S))/\(D=0\/D=12-((f+1:Nat):Int)+((h+1:Nat):Int)):=⟨⟨hn,ha.1⟩,af⟩
        rw [ar c1,ar c2,ai af]
        congr 2;omega
       ·have c1:¬(apart l (n::S)/\(h=0\/D=0\/D=12-(f:Int)+h)):=fun h'=>ha ⟨h'.1,af⟩
        have c2:¬((n∉S/\apart l (n::S))/\(D=0\/D=12-((f+1:Nat):Int)+((h+1:Nat):Int))):=fun h'=>ha ⟨h'.1.2,af⟩
        rw [ai c1,ai c2]
    ·rw [ai hok,ai hok]
     simp
open Classical in
theorem ahs {go:Int->Int->Int->List Int->Option (Int×List Int)} {gv:Int->Int->Int->Option (List Int×Nat)} (hd:0<=d)
  (hpos:∀k a b l h,gv k a b=some (l,h)->1<=h/\a<b)
  (hgo:∀k a b S,go k a b S=match gv k a b with|none=>none|some (l,h)=>if apart l S then some (d+h,l.reverse++S)else none) :
  ∀(ks:List Int) (i:Nat) (S:List Int) (D:Int),(ks=[]\/lo<=x.from lo i)->(∀j,i<=j->j<i+ks.length->x.upto hi j=x.from lo (j+1)\/j+1=i+ks.length)->aeb go x lo hi ks i (D,S)=match ct gv x lo hi ks i with
   |none=>none
   |some (l,h)=>if apart l S/\(h=0\/D=0\/D=d+h)then some (if h=0 then D else d+h,l.reverse++S)else none:=by
 intro ks
 induction ks with
 |nil=>intro i S D _ _;simp [aeb,ct,KF]
 |cons k ks ih=>
  intro i S D hi0 aii
  have hlo:lo<=x.from lo i:=by
   rcases hi0 with h|h
   ·cases h
   ·exact h
  unfold aeb ct
  by_cases hc:lo<=x.upto hi i/\x.upto hi i<=hi
  ·rw [ar hc,hgo]
   cases hg:gv k (x.from lo i) (x.upto hi i) with
   |none=>simp
   |some p=>
    obtain⟨l,h⟩:=p
    have hp:=hpos _ _ _ _ _ hg
    rw [ar ⟨hp.2,hlo,hc.2⟩]
    simp only
    have ih':=fun S D=>ih (i+1) S D (by
     rcases aii i aH bj with h|h
     ·right;rw [<-h];exact hc.1
     ·left;simpa using h)
     (fun j hj hj'=>by
      rcases aii j af (by simp only [gp];omega)with h|h
      ·exact .inl h
      ·right;simp only [gp]at h;omega)
    by_cases h1:apart l S
    ·rw [ar h1]
     simp only
     by_cases h2:D=0\/d+h=D
     ·rw [ar h2,ih']
      cases hk:ct gv x lo hi ks (i+1) with
      |none=>rfl
      |some q=>
       obtain⟨l',h'⟩:=q
       simp only
       by_cases h4:h'=0\/h'=h
       ·rw [ar h4]
        simp only
        by_cases h3:apart l' (l.reverse++S)
        ·have c1:apart l' (l.reverse++S)/\(h'=0\/d+(h:Int)=0\/d+(h:Int)=d+h'):=⟨h3,af⟩
         have c2:apart (l++l') S/\(h=0\/D=0\/D=d+h):=⟨mP.2 ⟨h1,h3⟩,af⟩
         rw [ar c1,ar c2,List.reverse_append,jv]
         congr 2
         by_cases h0:h'=0
         ·rw [ar h0,ai af]
         ·rw [ai h0,ai af];omega
        ·rw [ai (fun h=>h3 h.1),ai (fun h=>h3 (mP.1 h.1).2)]
       ·rw [ai h4]
        have c1:¬(apart l' (l.reverse++S)/\(h'=0\/d+(h:Int)=0\/d+(h:Int)=d+h')):=fun h=>af
        rw [ai c1]
     ·rw [ai h2]
      cases hk:ct gv x lo hi ks (i+1) with
      |none=>rfl
      |some q=>
       obtain⟨l',h'⟩:=q
       simp only
       by_cases h4:h'=0\/h'=h
       ·rw [ar h4]
        have c2:¬(apart (l++l') S/\(h=0\/D=0\/D=d+h)):=fun hh=>af
        show none=ite _ _ _
        rw [ai c2]
       ·rw [ai h4]
    ·rw [ai h1]
     cases hk:ct gv x lo hi ks (i+1) with
     |none=>rfl
     |some q=>
      obtain⟨l',h'⟩:=q
      simp only
      by_cases h4:h'=0\/h'=h
      ·rw [ar h4]
       have c2:¬(apart (l++l') S/\(h=0\/D=0\/D=d+h)):=fun hh=>h1 (mP.1 hh.1).1
       show none=ite _ _ _
       rw [ai c2]
      ·rw [ai h4]
  ·have:¬(x.from lo i<x.upto hi i/\lo<=x.from lo i/\x.upto hi i<=hi):=fun h=>hc ⟨af,h.2.2⟩
   rw [ai hc,ai this]
open Classical in
theorem aeP:∀(f:Nat) (n lo hi:Int) (S:List Int),f<=12->abB t f n lo hi S=match mC t f n lo hi with
   |none=>none
   |some (l,h)=>if apart l S then some (12-f+h,l.reverse++S)else none:=by
 intro f
 induction f with
 |zero=>intro n lo hi S _;rfl
 |succ f ih=>
  intro n lo hi S hf
  unfold abB mC
  cases hx:t.dh n with
  |none=>rfl
  |some x=>
   simp only
   by_cases hlt:lo<hi
   ·rw [ai (jo hlt)]
    by_cases hl:x.leaf=true
    ·rw [ar hl,ar hl]
     by_cases hok:mq t n x lo hi
     ·rw [ar hok,ar hok]
      by_cases hn:n∈S
      ·rw [ar (.inl hn)]
       have:¬apart [n] S:=fun h=>h.2 n bj hn
       show none=ite _ _ _
       rw [ai this]
      ·rw [ai (by simp [hn,hlt])]
       have:apart [n] S:=by simp [apart,hn]
       show _=ite _ _ _
       rw [ar this]
       simp;omega
     ·rw [ai hok,ai hok]
      split <;> rfl
    ·rw [ai hl,ai hl]
     by_cases hok:qw x lo hi
     ·rw [ar hok,ar hok,ahs (gv:=fun k a b=>mC t f k a b) (d:=12-f) af (fun k a b l h hv=>⟨yt hv,Li hv⟩) (fun k a b S=>ih k a b S af) x.kids 0 _ _ (by simp [Nd.from]) (fun j _ hj=>by
       simp only [iW]at hj ⊢
       by_cases h:j+1=x.kids.length
       ·exact .inr h
       ·left
        have:=hok.2.2.2.1
        simp only [Nd.upto,Nd.from,Nat.add_sub_cancel]
        rw [ar af,ai af])]
      cases hk:ct (fun k a b=>mC t f k a b) x lo hi x.kids 0 with
      |none=>simp
      |some q=>
       obtain⟨l,h⟩:=q
       have hp:1<=h:=by
        rcases qK (fun k a b l h hv=>yt hv) hk with h0|h0
        ·have:=hok.2.1;rw [h0]at this;simp at this
        ·exact h0
       simp only [Option.map_some,af8,List.reverse_cons,jv,List.singleton_append]
       by_cases hn:n∈S
       ·rw [ar (.inl hn),ai (fun h=>h.1 hn)]
       ·rw [ai (by simp [hn,hlt])]
        by_cases ha:apart l (n::S)
        ·have c1:apart l (n::S)/\(h=0\/True\/(0:Int)=12-(f:Int)+h):=⟨ha, .inr (.inl trivial)⟩
         have c2:n∉S/\apart l (n::S):=⟨hn,ha⟩
         rw [ar c1,ar c2,ai af]
         congr 2;omega
        ·have c1:¬(apart l (n::S)/\(h=0\/True\/(0:Int)=12-(f:Int)+h)):=fun h'=>ha h'.1
         rw [ai c1,ai (fun h'=>ha h'.2)]
     ·rw [ai hok,ai hok]
      simp
   ·rw [ar (.inr hlt),ar hlt]
def lJ (t:Tr):Prop:=∃l h,mC t 12 t.root 0 1099511627776=some (l,h)/\l.Nodup/\l.length=t.nodes.length
open Classical in
noncomputable def ax (t:Tr):Int:=if 2000<t.nodes.length then 1 else if lJ t then 0 else 7
theorem qL {go:Int->Int->Int->Option (List Int×Nat)} {x:Nd} {lo hi:Int} {P:Int->Prop} (hgo:∀k a b l h,go k a b=some (l,h)->∀y∈l,P y) :
  ∀{ks:List Int} {i:Nat} {l:List Int} {h:Nat},ct go x lo hi ks i=some (l,h)->∀y∈l,P y
 |[],_,l,_,hv=>by simp [ct]at hv;intro y hy;rw [hv.1]at hy;cases hy
 |k::ks,i,l,h,hv=>by
  unfold ct at hv
  split at hv
  ·split at hv
   ·rename_i l1 h1 l2 h2 e1 e2
    split at hv
    ·simp only [iw,jM]at hv
     rw [<-hv.1]
     intro y hy
     rcases kJ.1 hy with hy|hy
     ·exact hgo _ _ _ _ _ e1 y hy
     ·exact qL hgo e2 y hy
    ·cases hv
   ·cases hv
  ·cases hv
theorem BZ (h:t.dh n=some x):0<=n/\n<t.nodes.length:=by
 unfold Tr.dh at h
 split at h
 ·rename_i h0
  have:=(gJ.1 h).1
  omega
 ·cases h
theorem O6:∀{f:Nat} {n lo hi:Int} {l:List Int} {h:Nat},mC t f n lo hi=some (l,h)->∀y∈l,0<=y/\y<t.nodes.length:=by
 intro f
 induction f with
 |zero=>intro n lo hi l h hv;cases hv
 |succ f ih=>
  intro n lo hi l h hv
  unfold mC at hv
  split at hv
  ·cases hv
  ·rename_i x hx
   have hr:=BZ hx
   split at hv
   ·cases hv
   ·split at hv
    ·split at hv
     ·simp only [iw,jM]at hv
      rw [<-hv.1];simp;exact hr
     ·cases hv
    ·split at hv
     ·obtain⟨p,hp,he⟩:=Option.map_eq_some_iff.1 hv
      simp only [jM]at he
      rw [<-he.1]
      intro y hy
      rcases fk.1 hy with rfl|hy
      ·exact hr
      ·exact qL (P:=fun y=>0<=y/\y<t.nodes.length) (fun k a b l h hv=>ih hv) hp y hy
     ·cases hv
theorem iY {α:Type} [DecidableEq α]:∀{l m:List α},l.Nodup->(∀y∈l,y∈m)->l.length<=m.length
 |[],_,_,_=>bj
 |a::l,m,h,hs=>by
  have hn:=List.nodup_cons.1 h
  have ha:=hs a bj
  have:=iY (l:=l) (m:=m.erase a) hn.2 (fun y hy=>(List.mem_erase_of_ne (by rintro rfl;exact hn.1 hy)).2 (hs y (by simp [hy])))
  rw [List.length_erase_of_mem ha]at this
  have:=List.length_pos_of_mem ha
  simp only [gp];omega
theorem zl {α:Type} [DecidableEq α] {l m:List α} (h:l.Nodup) (hs:∀y∈l,y∈m) (hl:m.length<=l.length):∀y∈m,y∈l:=fun y hy=>by
 by_cases C7:y∈l
 ·exact C7
 ·have:=iY (l:=y::l) (m:=m) (List.nodup_cons.2 ⟨C7,h⟩) (fun z hz=>by rcases fk.1 hz with rfl|hz;exact hy;exact hs z hz)
  simp only [gp]at this;omega
def Iy (n:Nat):List Int:=(List.range n).map (fun i:Nat=>(i:Int))
theorem rP {n:Nat} {y:Int}:y∈Iy n↔0<=y/\y<(n:Int):=by
 unfold Iy
 rw [wN]
 constructor
 ·rintro⟨a,ha,rfl⟩;have:=List.mem_range.1 ha;omega
 ·intro h;exact⟨y.toNat,List.mem_range.2 af,af⟩
theorem pF (n:Nat):(Iy n).length=n:=by simp [Iy]
theorem Bl (n:Nat):(Iy n).Nodup:=by
 unfold Iy
 exact List.pairwise_map.2 (List.Pairwise.imp (fun hab e=>hab (Int.ofNat.inj e)) List.nodup_range)
theorem DC {n:Nat} (h:l.Nodup) (hr:∀y∈l,0<=y/\y<(n:Int)):l.length<=n:=by
 have:=iY (m:=Iy n) h (fun y hy=>rP.2 (hr y hy))
 rwa [pF]at this
theorem vU {n:Nat} (h:l.Nodup) (hr:∀y∈l,0<=y/\y<(n:Int)):l.length=n↔∀i:Nat,i<n->(i:Int)∈l:=by
 constructor
 ·intro hl i hi
  exact zl (m:=Iy n) h (fun y hy=>rP.2 (hr y hy)) (by rw [pF,hl];exact km _) i (rP.2 af)
 ·intro hall
  have h1:=DC h hr
  have h2:=iY (l:=Iy n) (m:=l) (Bl n) (fun y hy=>by
   have:=rP.1 hy
   have h3:=hall y.toNat af
   have h4:((y.toNat:Nat):Int)=y:=af
   rwa [h4]at h3)
  rw [pF]at h2
  omega
noncomputable def tM (t:Tr):Int:=if 2000<t.nodes.length then 1 else match dQ t 12 t.root 0 1099511627776 ([],0) with|none=>7|some (S,_)=>if S.length=t.nodes.length then 0 else 7
open Classical in
noncomputable def aej (t:Tr):Int:=if 2000<t.nodes.length then 1 else match abB t 12 t.root 0 1099511627776 [] with|none=>7|some (_,S)=>if ∀i:Nat,i<t.nodes.length->(i:Int)∈S then 0 else 7
theorem E9:apart l []↔l.Nodup:=by simp [apart]
open Classical in
theorem Ku (t:Tr):tM t=ax t:=by
 unfold tM ax
 split
 ·rfl
 ·rw [JL 12 _ _ _ _ _ af af]
  cases hv:mC t 12 t.root 0 1099511627776 with
  |none=>
   rw [ai]
   rintro⟨l,h,e,_⟩
   rw [hv]at e;cases e
  |some p=>
   obtain⟨l,h⟩:=p
   simp only [E9]
   by_cases hn:l.Nodup
   ·rw [ar ⟨hn, .inl trivial⟩]
    simp only [oL,List.length_reverse]
    by_cases hl:l.length=t.nodes.length
    ·rw [ar hl,ar ⟨l,h,hv,hn,hl⟩]
    ·rw [ai hl,ai]
     rintro⟨l',h',e,_,hl'⟩
     rw [hv]at e;simp only [iw,jM]at e
     rw [e.1]at hl;exact hl hl'
   ·rw [ai (fun h=>hn h.1),ai]
    rintro⟨l',h',e,hn',_⟩
    rw [hv]at e;simp only [iw,jM]at e
    rw [e.1]at hn;exact hn hn'
open Classical in
theorem ahA (t:Tr):aej t=ax t:=by
 unfold aej ax
 split
 ·rfl
 ·rw [aeP 12 _ _ _ _ af]
  cases hv:mC t 12 t.root 0 1099511627776 with
  |none=>
   rw [ai]
   rintro⟨l,h,e,_⟩
   rw [hv]at e;cases e
  |some p=>
   obtain⟨l,h⟩:=p
   simp only [E9]
   by_cases hn:l.Nodup
   ·rw [ar hn]
    simp only [oL,List.mem_reverse]
    have hi:=vU (n:=t.nodes.length) hn (O6 hv)
    by_cases hl:l.length=t.nodes.length
    ·rw [ar (hi.1 hl),ar ⟨l,h,hv,hn,hl⟩]
    ·rw [ai (fun h=>hl (hi.2 h)),ai]
     rintro⟨l',h',e,_,hl'⟩
     rw [hv]at e;simp only [iw,jM]at e
     rw [e.1]at hl;exact hl hl'
   ·rw [ai hn,ai]
    rintro⟨l',h',e,hn',_⟩
    rw [hv]at e;simp only [iw,jM]at e
    rw [e.1]at hn;exact hn hn'
end
section
variable {lo hi a b:Int} {l:List aC} {t:Tr}
def aR (lo hi:Int) (e:aC):Bool:=decide (lo<=e.key) && decide (e.key<hi)
def Tr.all (t:Tr):List aC:=t.nodes.flatMap fun x=>x.aF++x.buf
def kI (t:Tr) (lo hi:Int):Option (List aC):=fe (t.all.filter (aR lo hi))
def ie (x:Nd) (lo hi:Int) (i:Nat):Bool:=(decide (i=0) || decide (x.keys.getD (i-1) 0<hi)) && (decide (i=x.keys.length) || decide (lo<x.keys.getD i 0))
def gH (go:Int->List aC) (x:Nd) (lo hi:Int):List Int->Nat->List aC
 |[],_=>[]
 |k::ks,i=>(if ie x lo hi i then go k else [])++gH go x lo hi ks (i+1)
def gG (t:Tr) (lo hi:Int):Nat->Int->List aC
 |0,_=>[]
 |f+1,n=>
  match t.dh n with
  |none=>[]
  |some x=>(x.buf++x.aF).filter (aR lo hi)++gH (fun k=>gG t lo hi f k) x lo hi x.kids 0
def Tr.of (t:Tr) (n:Int):List aC:=match t.dh n with|none=>[]|some x=>x.aF++x.buf
theorem Hh (h:∀e∈l,e.key<lo\/hi<=e.key):l.filter (aR lo hi)=[]:=by
 rw [List.filter_eq_nil_iff]
 intro e he
 have:=h e he
 simp [aR];omega
theorem Gz {x:Nd} {go:Int->List aC} {gv:Int->Int->Int->Option (List Int×Nat)}
  (hgo:∀k a b l h,gv k a b=some (l,h)->(go k).Perm ((l.flatMap t.of).filter (aR lo hi))/\∀e∈l.flatMap t.of,a<=e.key/\e.key<b) :
  ∀(ks:List Int) (i:Nat) (l:List Int) (h:Nat),i+ks.length<=x.keys.length+1->ct gv x a b ks i=some (l,h) ->
   (gH go x lo hi ks i).Perm ((l.flatMap t.of).filter (aR lo hi))/\∀e∈l.flatMap t.of,a<=e.key/\e.key<b:=by
 intro ks
 induction ks with
 |nil=>intro i l h _ hv;simp [ct]at hv;simp [gH,hv.1]
 |cons k ks ih=>
  intro i l h hi0 hv
  simp only [gp]at hi0
  unfold ct at hv
  split at hv
  ·rename_i hc
   split at hv
   ·rename_i l1 h1 l2 h2 e1 e2
    split at hv
    ·simp only [iw,jM]at hv
     obtain⟨rfl,-⟩:=hv
     obtain⟨p1,q1⟩:=hgo _ _ _ _ _ e1
     obtain⟨p2,q2⟩:=ih (i+1) l2 h2 af e2
     rw [tR,rF]
     refine⟨?_,fun e he=>?_⟩
     ·unfold gH
      refine List.Perm.append ?_ p2
      by_cases hg:ie x lo hi i=true
      ·rw [ar hg];exact p1
      ·rw [ai hg]
       rw [Hh]
       intro e he
       have hr:=q1 e he
       simp only [ie,Bool.and_eq_true,Bool.or_eq_true,yi]at hg
       by_cases g1:i=0\/x.keys.getD (i-1) 0<hi
       ·left
        have g2:¬(i=x.keys.length\/lo<x.keys.getD i 0):=fun h=>hg ⟨g1,h⟩
        simp only [Nd.upto]at hr
        rw [ar af]at hr;omega
       ·right
        simp only [Nd.from]at hr
        rw [ai af]at hr;omega
     ·rcases kJ.1 he with he|he
      ·have:=q1 e he;omega
      ·exact q2 e he
    ·cases hv
   ·cases hv
  ·cases hv
theorem pE:∀(f:Nat) (n a b:Int) (l:List Int) (h:Nat),mC t f n a b=some (l,h) ->
  (gG t lo hi f n).Perm ((l.flatMap t.of).filter (aR lo hi))/\(∀e∈l.flatMap t.of,a<=e.key/\e.key<b):=by
 intro f
 induction f with
 |zero=>intro n a b l h hv;cases hv
 |succ f ih=>
  intro n a b l h hv
  unfold mC at hv
  unfold gG
  cases hx:t.dh n with
  |none=>rw [hx]at hv;cases hv
  |some x=>
   rw [hx]at hv
   simp only at hv ⊢
   have hof:t.of n=x.aF++x.buf:=by unfold Tr.of;rw [hx]
   split at hv
   ·cases hv
   ·split at hv
    ·split at hv
     ·rename_i hok
      simp only [iw,jM]at hv
      obtain⟨rfl,-⟩:=hv
      obtain⟨k1,k2,k3,k4,k5,k6⟩:=hok
      simp only [gQ,List.flatMap_nil,oL,hof,k2,k3,gH,List.nil_append]
      exact⟨List.Perm.refl _,k6.2.1⟩
     ·cases hv
    ·split at hv
     ·rename_i hok
      obtain⟨p,hp,he⟩:=Option.map_eq_some_iff.1 hv
      simp only [jM]at he
      obtain⟨rfl,-⟩:=he
      obtain⟨k1,k2,k3,k4,k5,k6⟩:=hok
      obtain⟨q1,q2⟩:=Gz (t:=t) (lo:=lo) (hi:=hi) (go:=fun k=>gG t lo hi f k) (fun k a b l h hv=>ih k a b l h hv) x.kids 0 p.1 p.2 af hp
      simp only [gQ,hof,k1,List.nil_append,oL,rF]
      refine⟨List.Perm.append_left _ q1,fun e he=>?_⟩
      rcases kJ.1 he with he|he
      ·exact k6.2.1 e he
      ·exact q2 e he
     ·cases hv
theorem zT {α:Type} (f:Nd->List α) (g:Nat->List α):∀(xs:List Nd) (s:Nat),(∀j x,xs[j]?=some x->g (s+j)=f x)->(List.range' s xs.length).flatMap g=xs.flatMap f
 |[],s,_=>rfl
 |x::xs,s,h=>by
  rw [gp,List.range'_succ,gQ,gQ,zT f g xs (s+1) (fun j y hy=>by rw [show s+1+j=s+(j+1)from by omega];exact h (j+1) y (by simpa using hy))]
  rw [show g s=f x from by simpa using h 0 x rfl]
theorem ED (t:Tr):(Iy t.nodes.length).flatMap t.of=t.all:=by
 unfold Iy Tr.all
 rw [List.flatMap_map,List.range_eq_range']
 refine zT _ _ t.nodes 0 fun j x hx=>?_
 simp [Tr.of,Tr.dh,hx]
theorem zj {l:List Int} {n:Nat} (h:l.Nodup) (hr:∀y∈l,0<=y/\y<(n:Int)) (hl:l.length=n):l.Perm (Iy n):=by
 refine(List.perm_ext_iff_of_nodup h (Bl n)).2 fun a=>⟨fun ha=>rP.2 (hr a ha),fun ha=>?_⟩
 exact zl (m:=Iy n) h (fun y hy=>rP.2 (hr y hy)) (by rw [pF,hl];exact km _) a ha
theorem lq {l:List Int} {h f:Nat} (hv:mC t f t.root a b=some (l,h)) (hn:l.Nodup) (hl:l.length=t.nodes.length):(l.flatMap t.of).Perm t.all:=by
 rw [<-ED]
 exact List.Perm.flatMap_right _ (zj hn (O6 hv) hl)
theorem qm {t:Tr} {x:Nd} {a b:Int} {gv:Int->Int->Int->Option (List Int×Nat)} (hgo:∀k a b l h,gv k a b=some (l,h)->Checked (l.flatMap t.of)) :
  ∀(ks:List Int) (i:Nat) (l:List Int) (h:Nat),ct gv x a b ks i=some (l,h)->Checked (l.flatMap t.of)
 |[],_,l,_,hv=>by simp [ct]at hv;rw [hv.1];intro e he;simp at he
 |k::ks,i,l,h,hv=>by
  unfold ct at hv
  split at hv
  ·split at hv
   ·rename_i l1 h1 l2 h2 e1 e2
    split at hv
    ·simp only [iw,jM]at hv
     rw [<-hv.1,tR]
     intro e he
     rcases kJ.1 he with he|he
     ·exact hgo _ _ _ _ _ e1 e he
     ·exact qm hgo ks (i+1) l2 h2 e2 e he
    ·cases hv
   ·cases hv
  ·cases hv
theorem Dc:∀(f:Nat) (n a b:Int) (l:List Int) (h:Nat),mC t f n a b=some (l,h)->Checked (l.flatMap t.of):=by
 intro f
 induction f with
 |zero=>intro n a b l h hv;cases hv
 |succ f ih=>
  intro n a b l h hv
  unfold mC at hv
  cases hx:t.dh n with
  |none=>rw [hx]at hv;cases hv
  |some x=>
   rw [hx]at hv
   simp only at hv
   have hof:t.of n=x.aF++x.buf:=by unfold Tr.of;rw [hx]
   split at hv
   ·cases hv
   ·split at hv
    ·split at hv
     ·rename_i hok
      simp only [iw,jM]at hv
      obtain⟨rfl,-⟩:=hv
      obtain⟨k1,k2,k3,k4,k5,k6⟩:=hok
      simp only [gQ,List.flatMap_nil,oL,hof,k3]
      exact k6.1
     ·cases hv
    ·split at hv
     ·rename_i hok
      obtain⟨p,hp,he⟩:=Option.map_eq_some_iff.1 hv
      simp only [jM]at he
      obtain⟨rfl,-⟩:=he
      obtain⟨k1,k2,k3,k4,k5,k6⟩:=hok
      simp only [gQ,hof,k1,List.nil_append]
      intro e he
      rcases kJ.1 he with he|he
      ·exact k6.1 e he
      ·exact qm (fun k a b l h hv=>ih k a b l h hv) x.kids 0 p.1 p.2 hp e he
     ·cases hv
theorem cz (hv:lJ t):Checked t.all:=by
 obtain⟨l,h,e,hn,hl⟩:=hv
 intro x hx
 exact Dc _ _ _ _ _ _ e x ((lq e hn hl).mem_iff.2 hx)
theorem lT (hv:lJ t):∀e∈t.all,0<=e.key/\e.key<1099511627776:=by
 obtain⟨l,h,e,hn,hl⟩:=hv
 intro x hx
 exact(pE (lo:=0) (hi:=0) _ _ _ _ _ _ e).2 x ((lq e hn hl).mem_iff.2 hx)
theorem iT {p:aC->Bool} (h:Checked l):Checked (l.filter p):=fun e he=>h e (mn.1 he).1
theorem all_eq (hv:lJ t) (lo hi:Int):fe (gG t lo hi 12 t.root)=kI t lo hi:=by
 have hc:=cz hv
 obtain⟨l,h,e,hn,hl⟩:=hv
 have hp:=(pE (lo:=lo) (hi:=hi) _ _ _ _ _ _ e).1
 have hq:=(lq e hn hl).filter (aR lo hi)
 exact KA (hp.trans hq) (fun x hx=>iT hc x ((hp.trans hq).mem_iff.1 hx))
end
section
variable {key a b n:Int} {l:List aC} {f h:Nat} {x:Nd} {t:Tr}
def aU (keys:List Int) (key:Int):Nat:=(keys.takeWhile fun k=>decide (k<=key)).length
theorem qY (keys:List Int) (key:Int):aU keys key<=keys.length:=by
 unfold aU
 have:=List.takeWhile_prefix (fun k=>decide (k<=key)) (l:=keys)
 exact this.length_le
theorem DZ {keys:List Int} {j:Nat} (h:j<aU keys key):keys.getD j 0<=key:=by
 unfold aU at h
 have hp:=List.takeWhile_prefix (fun k=>decide (k<=key)) (l:=keys)
 have hl:j<keys.length:=mQ h hp.length_le
 have e:(keys.takeWhile fun k=>decide (k<=key))[j]=keys[j]:=hp.getElem h
 have hm:(keys.takeWhile fun k=>decide (k<=key))[j]∈keys.takeWhile fun k=>decide (k<=key):=fP h
 have:=nK.1 (List.all_takeWhile (p:=fun k=>decide (k<=key)) (l:=keys)) _ hm
 simp only [yi]at this
 rw [List.getD_eq_getElem?_getD,nL hl,Option.getD_some,<-e];exact this
theorem D4 {keys:List Int} (h:aU keys key<keys.length):key<keys.getD (aU keys key) 0:=by
 induction keys with
 |nil=>simp at h
 |cons k ks ih=>
  unfold aU at h ⊢
  by_cases hk:k<=key
  ·have e:((k::ks).takeWhile fun k=>decide (k<=key)).length=aU ks key+1:=by simp [aU,hk]
   rw [e]at h ⊢
   simp only [gp]at h
   simp only [List.getD_cons_succ]
   exact ih af
  ·have e:((k::ks).takeWhile fun k=>decide (k<=key)).length=0:=by simp [hk]
   rw [e]
   simp;omega
def oX (t:Tr) (key:Int):Nat->Int->List aC
 |0,_=>[]
 |f+1,n=>
  match t.dh n with
  |none=>[]
  |some x=>if x.leaf=true then x.aF.filter (fun e=>decide (e.key=key))else x.buf.filter (fun e=>decide (e.key=key))++oX t key f (x.kids.getD (aU x.keys key) 0)
theorem pV (h:∀e∈l,e.key≠key):l.filter (fun e=>decide (e.key=key))=[]:=by
 rw [List.filter_eq_nil_iff];intro e he;simpa using h e he
theorem Cg {gv:Int->Int->Int->Option (List Int×Nat)}
  (hgo:∀k a b l h,gv k a b=some (l,h)->∀e∈l.flatMap t.of,a<=e.key/\e.key<b) :
  ∀(ks:List Int) (i:Nat) (l:List Int) (h:Nat),i+ks.length=x.keys.length+1->ct gv x a b ks i=some (l,h) ->
   (i<=aU x.keys key->∃l' h',gv (ks.getD (aU x.keys key-i) 0) (x.from a (aU x.keys key)) (x.upto b (aU x.keys key))=some (l',h') /\
    (l.flatMap t.of).filter (fun e=>decide (e.key=key))=(l'.flatMap t.of).filter (fun e=>decide (e.key=key))) /\
   (aU x.keys key<i->(ks=[]\/key<x.from a i)->(l.flatMap t.of).filter (fun e=>decide (e.key=key))=[]):=by
 intro ks
 have hle:=qY x.keys key
 induction ks with
 |nil=>
  intro i l h hi hv
  simp [ct]at hv
  refine⟨fun h'=>by simp at hi;omega,fun _ _=>by rw [hv.1];rfl⟩
 |cons k ks ih=>
  intro i l h hi0 hv
  simp only [gp]at hi0
  unfold ct at hv
  split at hv
  ·rename_i hc
   split at hv
   ·rename_i l1 h1 l2 h2 e1 e2
    split at hv
    ·simp only [iw,jM]at hv
     obtain⟨rfl,-⟩:=hv
     have q1:=hgo _ _ _ _ _ e1
     obtain⟨p2,q2⟩:=ih (i+1) l2 h2 af e2
     rw [tR,rF]
     have hup:ks=[]\/x.from a (i+1)=x.upto b i:=by
      by_cases hk:ks=[]
      ·exact .inl hk
      ·right
       have:0<ks.length:=List.length_pos_iff.2 hk
       simp only [Nd.from,Nd.upto,Nat.add_sub_cancel]
       rw [ai af,ar af]
     refine⟨fun hi=>?_,fun hi hk=>?_⟩
     ·by_cases heq:i=aU x.keys key
      ·refine⟨l1,h1,by rw [<-heq];simpa using e1,?_⟩
       have hkey:ks=[]\/key<x.from a (i+1):=by
        rcases hup with h|h
        ·exact .inl h
        ·by_cases hks:ks=[]
         ·exact .inl hks
         ·right
          have:0<ks.length:=List.length_pos_iff.2 hks
          have:=D4 (keys:=x.keys) (key:=key) af
          rw [h];simp only [Nd.upto];rw [ar af,heq];exact this
       rw [q2 af hkey,oL]
      ·have hlt:i<aU x.keys key:=af
       obtain⟨l',h',g1,g2⟩:=p2 af
       refine⟨l',h',?_,?_⟩
       ·rw [show aU x.keys key-i=(aU x.keys key-(i+1))+1 from af,List.getD_cons_succ];exact g1
       ·rw [g2,pV,List.nil_append]
        intro e he
        have hr:=q1 e he
        have:=DZ (keys:=x.keys) (key:=key) hlt
        simp only [Nd.upto]at hr
        rw [ar af]at hr;omega
     ·have hka:key<x.from a i:=by rcases hk with h|h;cases h;exact h
      have hkn:ks=[]\/key<x.from a (i+1):=by
       rcases hup with h|h
       ·exact .inl h
       ·right;rw [h];omega
      rw [q2 af hkn,oL,pV]
      intro e he
      have hr:=q1 e he
      omega
    ·cases hv
   ·cases hv
  ·cases hv
theorem ll {l:List Int} (hv:mC t (f+1) n a b=some (l,h)) (hx:t.dh n=some x) :
  a<b/\((x.leaf=true/\mq t n x a b/\l=[n]/\h=1)\/(x.leaf=false/\qw x a b/\∃l' h',ct (fun k a b=>mC t f k a b) x a b x.kids 0=some (l',h')/\l=n::l'/\h=h'+1)):=by
 have hlt:=Li hv
 refine⟨hlt,?_⟩
 unfold mC at hv
 rw [hx]at hv
 simp only at hv
 rw [ai (jo hlt)]at hv
 split at hv
 ·rename_i hl
  split at hv
  ·rename_i hok
   simp only [iw,jM]at hv
   exact .inl ⟨hl,hok,hv.1.symm,hv.2.symm⟩
  ·cases hv
 ·rename_i hl
  split at hv
  ·rename_i hok
   obtain⟨p,hp,he⟩:=Option.map_eq_some_iff.1 hv
   simp only [jM]at he
   exact .inr ⟨by simpa using hl,hok,p.1,p.2,hp,he.1.symm,he.2.symm⟩
  ·cases hv
theorem yM {l:List Int} (hv:mC t (f+1) n a b=some (l,h)):∃x,t.dh n=some x:=by
 unfold mC at hv
 split at hv
 ·cases hv
 ·exact⟨_,‹_›⟩
theorem Jq {l:List Int} (hv:mC t f n a b=some (l,h)):∀e∈l.flatMap t.of,a<=e.key/\e.key<b:=
 (pE (lo:=0) (hi:=0) _ _ _ _ _ _ hv).2
theorem Ix {l:List Int} (hv:mC t (f+1) n a b=some (l,h)) (hx:t.dh n=some x) (hl:x.leaf=false) (ha:a<=key) (hb:key<b) :
  aU x.keys key<x.kids.length/\∃a' b' l' h',mC t f (x.kids.getD (aU x.keys key) 0) a' b'=some (l',h')/\a'<=key/\key<b' /\
   (l.flatMap t.of).filter (fun e=>decide (e.key=key))=x.buf.filter (fun e=>decide (e.key=key))++(l'.flatMap t.of).filter (fun e=>decide (e.key=key)):=by
 obtain⟨hlt,⟨h1,_⟩|⟨_,hok,l1,h1,hk,rfl,rfl⟩⟩:=ll hv hx
 ·rw [hl]at h1;cases h1
 ·obtain⟨k1,k2,k3,k4,k5,k6⟩:=hok
  have hle:=qY x.keys key
  obtain⟨l',h',g1,g2⟩:=(Cg (t:=t) (key:=key) (fun k a b l h hv=>Jq hv) x.kids 0 l1 h1 af hk).1 (jd _)
  refine⟨af,_,_,l',h',by simpa using g1,?_,?_,?_⟩
  ·unfold Nd.from
   split
   ·exact ha
   ·exact DZ af
  ·unfold Nd.upto
   split
   ·rename_i h;exact D4 h
   ·exact hb
  ·have hof:t.of n=x.aF++x.buf:=by unfold Tr.of;rw [hx]
   rw [gQ,rF,hof,k1,List.nil_append,g2]
theorem LW:∀(f:Nat) (n a b:Int) (l:List Int) (h:Nat),mC t f n a b=some (l,h)->a<=key->key<b ->
  oX t key f n=(l.flatMap t.of).filter (fun e=>decide (e.key=key)):=by
 intro f
 induction f with
 |zero=>intro n a b l h hv;cases hv
 |succ f ih=>
  intro n a b l h hv ha hb
  obtain⟨x,hx⟩:=yM hv
  have hof:t.of n=x.aF++x.buf:=by unfold Tr.of;rw [hx]
  unfold oX
  rw [hx]
  simp only
  cases hl:x.leaf with
  |true=>
   obtain⟨_,⟨_,hok,rfl,_⟩|⟨h1,_⟩⟩:=ll hv hx
   ·rw [ar rfl];simp [hof,hok.2.2.1]
   ·rw [hl]at h1;cases h1
  |false=>
   rw [ai bj]
   obtain⟨_,a',b',l',h',g1,g2,g3,g4⟩:=Ix hv hx hl ha hb
   rw [g4,ih _ _ _ _ _ g1 g2 g3]
def tA (r:aw) (l:List aC):Option aw:=l.foldlM (fun r e=>if r.c+e.is.c<=1073741824 then some (r.join e.is)else none) r
theorem DS:look (l.filter (fun e=>decide (e.key=key))) key=look l key:=by
 induction l with
 |nil=>rfl
 |cons e l ih=>
  by_cases h:e.key=key
  ·rw [rG (by simpa using h)]
   show (if e.key=key then _ else _)=(if e.key=key then _ else _)
   rw [ar h,ar h,ih]
  ·rw [qB (by simpa using h),ih]
   show _=(if e.key=key then _ else _)
   rw [ai h]
theorem JA {r:aw} (hk:∀e∈l,e.key=key) (hl:bh l) (hr:r.jr) (hc:r.c<=1073741824) :
  tA r l=if r.c+(look l key).c<=1073741824 then some (r.join (look l key))else none:=by
 unfold tA
 induction l generalizing r with
 |nil=>
  have h1:r.c+(look [] key).c<=1073741824:=by simpa [look,aw.zero] using hc
  rw [List.foldlM_nil,ar h1]
  show some r=some (r.join aw.zero)
  rw [abL]
 |cons e l ih=>
  have hg:=hl.cons
  have hf:=cV hg.2.dD key
  have hp:=hf.pos
  have e1:look (e::l) key=e.is.join (look l key):=by show (if e.key=key then _ else _)=_;rw [ar (hk e bj)]
  rw [List.foldlM_cons,e1]
  by_cases h1:r.c+e.is.c<=1073741824
  ·rw [ar h1]
   show List.foldlM _ (r.join e.is) l=_
   rw [ih (fun x hx=>hk x (by simp [hx])) hg.2 (ja hr (.inr hg.1)) (by rw [dF];exact h1),dF,dF,join_assoc hr (.inr hg.1) hf,Int.add_assoc]
  ·rw [ai h1,dF,ai af];rfl
def Hc (t:Tr) (key:Int):aw×Int:=if (look t.all key).c<=1073741824 then(look t.all key,0) else(aw.zero,1)
def Ha (t:Tr) (key:Int):aw×Int:=match tA aw.zero (oX t key 12 t.root) with|some r=>(r,0)|none=>(aw.zero,1)
def TR (t:Tr) (key:Int):aw×Int:=match kI t key (key+1) with|none=>(aw.zero,1)|some []=>(aw.zero,0)|some (e::_)=>(e.is,0)
theorem I4 (hv:lJ t) (h0:0<=key) (h1:key<1099511627776):Ha t key=Hc t key:=by
 have hc:=cz hv
 obtain⟨l,h,e,hn,hl⟩:=hv
 have hp:=lq e hn hl
 have hg:bh (l.flatMap t.of):=fun x hx=>hc.bQ x (hp.mem_iff.1 hx)
 unfold Ha Hc
 rw [LW 12 _ _ _ _ _ e h0 h1,JA (key:=key) (fun x hx=>by simpa using (mn.1 hx).2) (fun x hx=>hg x (mn.1 hx).1) wu aW,DS,o9 hp hg.dD,eV (cV hc.bQ.dD _)]
 have:aw.zero.c=0:=rfl
 rw [this,Int.zero_add]
 by_cases hs:(look t.all key).c<=1073741824
 ·rw [ar hs,ar hs]
 ·rw [ai hs,ai hs]
theorem Ed (key:Int):aR key (key+1)=fun e=>decide (e.key=key):=by
 funext e
 simp only [aR]
 by_cases h:e.key=key
 ·simp [h];omega
 ·have:¬(key<=e.key/\e.key<key+1):=af
  simp only [h,decide_false]
  rw [<-Bool.decide_and,wJ this]
theorem F8 (hr:aT l) (hk:∀e∈l,e.key=key):l=[]\/∃e,l=[e]:=by
 match l with
 |[]=>exact .inl rfl
 |[e]=>exact .inr ⟨e,rfl⟩
 |e::f::l=>
  have:=(aez.1 hr).1 f bj
  have:=hk e bj;have:=hk f bj
  omega
theorem Qi (hv:lJ t) (key:Int):TR t key=Hc t key:=by
 have hc:=cz hv
 unfold TR Hc kI
 rw [Ed]
 obtain⟨m,hm⟩:=bP (t.all.filter (fun e=>decide (e.key=key)))
 have hcm:Checked m:=by rw [hm];exact iT hc
 have se:∀e∈m,e.key=key:=fun e he=>by rw [hm]at he;simpa using (mn.1 he).2
 have hlm:look m key=look t.all key:=by rw [hm,DS]
 have hbk:∀e∈oG m,e.key=key:=fun e he=>by
  by_cases h:e.key=key
  ·exact h
  ·have h1:=fX (dV hcm.bQ) he
   rw [fY hcm.bQ,iA (fun y hy hk=>h (by rw [<-hk];exact se y hy))]at h1
   have:=(fA hcm.bQ e he).1
   rw [<-h1]at this;exact absurd this aW
 rw [<-hm,jC hcm,<-hlm]
 by_cases hs:Small m
 ·rw [ar hs,ar (hs key)]
  rcases F8 (dV hcm.bQ) hbk with h|⟨e,h⟩
  ·rw [h,<-fY hcm.bQ,h];rfl
  ·rw [h]
   have h1:=fX (dV hcm.bQ) (e:=e) (by rw [h];simp)
   rw [fY hcm.bQ,hbk e (by rw [h];simp)]at h1
   simp only [h1]
 ·rw [ai hs,ai]
  intro h
  refine hs fun k=>?_
  by_cases hk:k=key
  ·rw [hk];exact h
  ·rw [iA (fun e he=>by rw [se e he];exact fun h=>hk h.symm)];decide
end
section
variable {lo hi:Int} {l:List aC} {k:Nat}
instance (l:List aC) (lo hi:Int):Decidable (dB l lo hi):=by unfold dB Checked aT;infer_instance
def qu (l:List aC) (lo hi:Int):Bool:=decide (dB l lo hi)
theorem pX:qu l lo hi=true↔dB l lo hi:=by simp [qu]
theorem xH:qu l lo hi=false↔¬dB l lo hi:=by simp [qu]
theorem tJ (lo hi:Int):dB [] lo hi:=⟨by simp [Checked],bj,List.Pairwise.nil⟩
theorem EO (hk:k<l.length) (h:dB (l.take k) lo hi) (h1:lo<=l[k].key) (h2:l[k].key<hi) (h3:∀im:0<k,l[k-1].key<l[k].key) (h4:l[k].is.c≠0) (h5:aq l[k].is=0) :
  dB (l.take (k+1)) lo hi:=by
 rw [kK hk]
 refine⟨fun e he=>?_,fun e he=>?_,?_⟩
 ·rcases kJ.1 he with he|he
  ·exact h.1 e he
  ·obtain rfl:=mR.1 he;exact⟨h4,h5⟩
 ·rcases kJ.1 he with he|he
  ·exact h.2.1 e he
  ·obtain rfl:=mR.1 he;exact⟨h1,h2⟩
 ·refine List.pairwise_append.2 ⟨h.2.2,List.pairwise_singleton _ _,fun a ha b hb=>?_⟩
  obtain rfl:=mR.1 hb
  obtain⟨i,hi',rfl⟩:=adU ha
  simp only [eP]at hi'
  rw [wI]
  have im:0<k:=af
  have:=h3 im
  by_cases hik:i=k-1
  ·subst hik;exact this
  ·have hp:=py.1 h.2.2 i (k-1) (by simp;omega) (by simp;omega) af
   rw [wI,wI]at hp
   omega
theorem BQ (h:dB l lo hi) (hk:k<l.length):lo<=l[k].key/\l[k].key<hi/\l[k].is.c≠0/\aq l[k].is=0/\(∀im:0<k,l[k-1].key<l[k].key):=by
 have hm:l[k]∈l:=fP hk
 exact⟨(h.2.1 _ hm).1,(h.2.1 _ hm).2,(h.1 _ hm).1,(h.1 _ hm).2,fun im=>py.1 h.2.2 (k-1) k af hk af⟩
theorem EP (hk:l.length<=k) (h:dB (l.take k) lo hi):dB l lo hi:=by rwa [lI hk]at h
end
section
variable {n lo hi:Int} {s:Int×List Int} {S:List Int} {f i:Nat} {x:Nd} {t:Tr}
theorem afx (h:t.dh n=none):abB t (f+1) n lo hi S=none:=by unfold abB;rw [h]
theorem afw (h:t.dh n=some x) (hs:n∈S\/¬lo<hi):abB t (f+1) n lo hi S=none:=by
 unfold abB;rw [h];simp only;rw [ar hs]
theorem afy (h:t.dh n=some x) (hs:n∉S) (hlt:lo<hi) (hl:x.leaf=true) (hok:mq t n x lo hi) :
  abB t (f+1) n lo hi S=some (12-(f:Int),n::S):=by
 unfold abB;rw [h];simp only;rw [ai (by simp [hs,hlt]),ar hl,ar hok]
theorem af3 (h:t.dh n=some x) (hl:x.leaf=true) (hok:¬mq t n x lo hi):abB t (f+1) n lo hi S=none:=by
 rw [abB,h];simp only [hl,hok,if_true,if_false,ite_self]
theorem aff (h:t.dh n=some x) (hs:n∉S) (hlt:lo<hi) (hl:x.leaf=false) (hok:qw x lo hi) :
  abB t (f+1) n lo hi S=aeb (fun k a b s=>abB t f k a b s) x lo hi x.kids 0 (0,n::S):=by
 rw [abB,h];simp only;rw [ai (by simp [hs,hlt]),ai (by simp [hl]),ar hok]
theorem aeX (h:t.dh n=some x) (hl:x.leaf=false) (hok:¬qw x lo hi):abB t (f+1) n lo hi S=none:=by
 rw [abB,h];simp [hl,hok]
theorem aeQ {h:Int} {S':List Int} (hf:f<=12) (hv:abB t f n lo hi S=some (h,S')):1<=h/\h<=12-f+h/\lo<hi:=by
 rw [aeP f _ _ _ _ hf]at hv
 split at hv
 ·cases hv
 ·rename_i l hh e
  have:=yt e
  have:=Li e
  split at hv
  ·simp only [iw,jM]at hv;omega
  ·cases hv
theorem agP {go:Int->Int->Int->List Int->Option (Int×List Int)} (hi':i<x.kids.length) :
  aeb go x lo hi (x.kids.drop i) i s=if lo<=x.upto hi i/\x.upto hi i<=hi then
   match go x.kids[i] (x.from lo i) (x.upto hi i) s.2 with
   |none=>none
   |some (h,s')=>if s.1=0\/h=s.1 then aeb go x lo hi (x.kids.drop (i+1)) (i+1) (h,s')else none
  else none:=by
 rw [vd hi']
 rfl
theorem aht {go:Int->Int->Int->List Int->Option (Int×List Int)} (hi':x.kids.length<=i):aeb go x lo hi (x.kids.drop i) i s=some s:=by
 rw [Be hi'];rfl
theorem Gv:mq t n x lo hi↔x.keys.length+x.kids.length+x.buf.length=0/\x.aF.length<=6/\(x.aF.length=0->n=t.root)/\qu x.aF lo hi=true:=by
 unfold mq
 rw [pX,<-List.length_eq_zero_iff,<-List.length_eq_zero_iff,<-List.length_eq_zero_iff,ne_eq,<-List.length_eq_zero_iff]
 constructor
 ·rintro⟨a,b,c,d,e,f⟩
  exact⟨af,d,fun h=>by rcases e with e|e;exact absurd h e;exact e,f⟩
 ·rintro⟨a,b,c,d⟩
  exact⟨af,af,af,b,by by_cases h:x.aF.length=0;exact .inr (c h);exact .inl h,d⟩
theorem JY:qw x lo hi↔x.aF.length=0/\2<=x.kids.length/\x.kids.length<=4/\x.keys.length+1=x.kids.length/\x.buf.length<=8/\qu x.buf lo hi=true:=by
 unfold qw
 rw [pX,<-List.length_eq_zero_iff]
end
section
variable {n lo hi:Int} {S:List Int} {s:List Int×Int} {f i:Nat} {x:Nd} {t:Tr} {σ:Type}
theorem zn (h:t.dh n=none):dQ t (f+1) n lo hi s=none:=by rw [dQ,h]
theorem Gk (h:t.dh n=some x) (hs:n∈s.1):dQ t (f+1) n lo hi s=none:=by rw [dQ,h];simp only;rw [ar hs]
theorem Gl (h:t.dh n=some x) (hs:n∉s.1) (hl:x.leaf=true) (hd:s.2=0\/s.2=12-(f:Int)) (hok:mq t n x lo hi) :
  dQ t (f+1) n lo hi s=some (n::s.1,12-(f:Int)):=by
 rw [dQ,h];simp only;rw [ai hs,ar hl,ar ⟨hd,hok⟩]
theorem Ct (h:t.dh n=some x) (hl:x.leaf=true) (hok:¬((s.2=0\/s.2=12-(f:Int))/\mq t n x lo hi)):dQ t (f+1) n lo hi s=none:=by
 rw [dQ,h];simp only;rw [ar hl,ai hok];simp
theorem DG (h:t.dh n=some x) (hs:n∉s.1) (hl:x.leaf=false) (hok:qw x lo hi) :
  dQ t (f+1) n lo hi s=ni (fun k a b s=>dQ t f k a b s) x lo hi x.kids 0 (n::s.1,s.2):=by
 rw [dQ,h];simp only;rw [ai hs,ai (by simp [hl]),ar hok]
theorem AL (h:t.dh n=some x) (hl:x.leaf=false) (hok:¬qw x lo hi):dQ t (f+1) n lo hi s=none:=by
 rw [dQ,h];simp [hl,hok]
theorem Gx {go:Int->Int->Int->σ->Option σ} {s:σ} (hi':i<x.kids.length) :
  ni go x lo hi (x.kids.drop i) i s=if x.from lo i<x.upto hi i/\lo<=x.from lo i/\x.upto hi i<=hi then
   match go x.kids[i] (x.from lo i) (x.upto hi i) s with
   |none=>none
   |some s'=>ni go x lo hi (x.kids.drop (i+1)) (i+1) s'
  else none:=by
 rw [vd hi']
 rfl
theorem JT {go:Int->Int->Int->σ->Option σ} {s:σ} (hi':x.kids.length<=i):ni go x lo hi (x.kids.drop i) i s=some s:=by
 rw [Be hi'];rfl
def FB (t:Tr) (S:List Int):Prop:=S.Nodup/\∀y∈S,0<=y/\y<(t.nodes.length:Int)
theorem FB.le (h:FB t S):S.length<=t.nodes.length:=DC h.1 h.2
theorem FB.cons (h:FB t S) (hn:n∉S) (hx:t.dh n=some x):FB t (n::S):=
 ⟨List.nodup_cons.2 ⟨hn,h.1⟩,fun y hy=>by rcases fk.1 hy with rfl|hy;exact BZ hx;exact h.2 y hy⟩
theorem DF:∀(f:Nat) (n lo hi:Int) (s s':List Int×Int),FB t s.1->dQ t f n lo hi s=some s'->FB t s'.1:=by
 intro f
 induction f with
 |zero=>intro n lo hi s s' _ h;cases h
 |succ f ih=>
  intro n lo hi s s' hs h
  rw [dQ]at h
  split at h
  ·cases h
  ·rename_i x hx
   split at h
   ·cases h
   ·rename_i hn
    split at h
    ·split at h
     ·simp only [iw]at h;rw [<-h];exact hs.cons hn hx
     ·cases h
    ·split at h
     ·have:∀(ks:List Int) (i:Nat) (s s':List Int×Int),FB t s.1->ni (fun k a b s=>dQ t f k a b s) x lo hi ks i s=some s'->FB t s'.1:=by
       intro ks
       induction ks with
       |nil=>intro i s s' hs h;simp only [ni,iw]at h;rw [<-h];exact hs
       |cons k ks ihk=>
        intro i s s' hs h
        unfold ni at h
        split at h
        ·split at h
         ·cases h
         ·rename_i s1 e
          exact ihk (i+1) s1 s' (ih _ _ _ _ _ hs e) h
        ·cases h
      exact this _ _ _ _ (hs.cons hn hx) h
     ·cases h
end
section
variable {x:aC} {xs outs:List aC} {k:Nat}
def adK (xs:List aC) (x:aC) (k:Nat) (done:Bool) (outs:List aC):Prop:=
 outs.length<=k+1/\(done=true->jI xs x=some (outs++xs.drop k))/\(done=false->outs=xs.take k/\jI xs x=(jI (xs.drop k) x).map (fun l=>outs++l))
theorem afc (xs:List aC) (x:aC):adK xs x 0 false []:=⟨bj,bj,bj⟩
theorem afp (hk:k<xs.length) (h:adK xs x k true outs):adK xs x (k+1) true (outs++[xs[k]]):=by
 obtain⟨h1,h2,_⟩:=h
 refine⟨by simp;omega,fun _=>?_,bj⟩
 rw [h2 rfl,vd hk];simp
theorem afn (hk:k<xs.length) (h:adK xs x k false outs) (hl:xs[k].key<x.key):adK xs x (k+1) false (outs++[xs[k]]):=by
 obtain⟨h1,_,h3⟩:=h
 obtain⟨rfl,h5⟩:=h3 rfl
 refine⟨by simp;omega,bj,fun _=>⟨by rw [kK hk],?_⟩⟩
 rw [h5,vd hk]
 show (if xs[k].key<x.key then _ else _:Option (List aC)).map _=_
 rw [ar hl]
 cases jI (xs.drop (k+1)) x with
 |none=>rfl
 |some l=>simp only [Option.map_some];rw [jv];rfl
theorem afm (hk:k<xs.length) (h:adK xs x k false outs) (hl:x.key<xs[k].key):adK xs x (k+1) true (outs++[x]++[xs[k]]):=by
 obtain⟨h1,_,h3⟩:=h
 obtain⟨rfl,h5⟩:=h3 rfl
 refine⟨by simp;omega,fun _=>?_,bj⟩
 rw [h5,vd hk]
 show (if xs[k].key<x.key then _ else if xs[k].key=x.key then _ else _:Option (List aC)).map _=_
 rw [ai af,ai af];simp
theorem afl (hk:k<xs.length) (h:adK xs x k false outs) (hl:xs[k].key=x.key) :
  (xs[k].is.c+x.is.c<=1073741824->adK xs x (k+1) true (outs++[⟨x.key,xs[k].is.join x.is⟩]))/\(¬xs[k].is.c+x.is.c<=1073741824->jI xs x=none):=by
 obtain⟨h1,_,h3⟩:=h
 obtain⟨rfl,h5⟩:=h3 rfl
 rw [vd hk]at h5
 have e:jI (xs[k]::xs.drop (k+1)) x=if xs[k].is.c+x.is.c<=1073741824 then some (⟨x.key,xs[k].is.join x.is⟩::xs.drop (k+1))else none:=by
  show (if xs[k].key<x.key then _ else if xs[k].key=x.key then _ else _:Option (List aC))=_
  rw [ai af,ar hl]
 rw [e]at h5
 refine⟨fun hc=>⟨by simp;omega,fun _=>?_,bj⟩,fun hc=>?_⟩
 ·rw [h5,ar hc];simp
 ·rw [h5,ai hc];rfl
theorem aeN (hk:xs.length<=k):(adK xs x k true outs->jI xs x=some outs)/\(adK xs x k false outs->jI xs x=some (outs++[x])):=by
 refine⟨fun h=>?_,fun h=>?_⟩
 ·rw [h.2.1 rfl,Be hk];simp
 ·rw [(h.2.2 rfl).2,Be hk];rfl
theorem Ec {l:List aC} (h:jI xs x=some l):l.length<=xs.length+1:=by
 induction xs generalizing l with
 |nil=>simp only [jI,iw]at h;rw [<-h];simp
 |cons e xs ih=>
  unfold jI at h
  split at h
  ·obtain⟨m,hm,rfl⟩:=Option.map_eq_some_iff.1 h
   have:=ih hm
   simp only [gp];omega
  ·split at h
   ·split at h
    ·simp only [iw]at h;rw [<-h];simp
    ·cases h
   ·simp only [iw]at h;rw [<-h];simp
end
section
variable {lo hi:Int} {l es:List aC} {i k:Nat} {x:Nd} {t:Tr}
theorem cS (h:ax t=0):t.nodes.length<=2000/\lJ t:=by
 unfold ax at h
 split at h
 ·cases h
 ·split at h
  ·exact⟨af,‹_›⟩
  ·cases h
theorem ug (h:t.nodes.length<=2000) (hv:lJ t):ax t=0:=by
 unfold ax;rw [ai af,ar hv]
theorem Bj:∀{f:Nat} {n lo hi:Int} {l:List Int} {h:Nat},mC t f n lo hi=some (l,h)->∀y∈l,(t.of y).length<=14:=by
 intro f
 induction f with
 |zero=>intro n lo hi l h hv;cases hv
 |succ f ih=>
  intro n lo hi l h hv y hy
  obtain⟨x,hx⟩:=yM hv
  have hof:t.of n=x.aF++x.buf:=by unfold Tr.of;rw [hx]
  obtain⟨_,⟨_,hok,rfl,_⟩|⟨_,hok,l',h',hk,rfl,_⟩⟩:=ll hv hx
  ·obtain rfl:=mR.1 hy
   rw [hof,dO,hok.2.2.1];have:=hok.2.2.2.1;simp;omega
  ·rcases fk.1 hy with rfl|hy
   ·rw [hof,dO,hok.1];have:=hok.2.2.2.2.1;simp;omega
   ·exact qL (P:=fun y=>(t.of y).length<=14) (fun k a b l h hv=>ih hv) hk y hy
theorem EH {α β:Type} {f:α->List β} {m:Nat}:∀{l:List α},(∀y∈l,(f y).length<=m)->(l.flatMap f).length<=m*l.length
 |[],_=>bj
 |a::l,h=>by
  have h1:=h a bj
  have h2:=EH (l:=l) fun y hy=>h y (by simp [hy])
  rw [gQ,dO,gp,Nat.mul_add];omega
theorem Bk (h:lJ t):t.all.length<=14*t.nodes.length:=by
 obtain⟨l,hh,e,hn,hl⟩:=h
 rw [<-(lq e hn hl).length_eq,<-hl]
 exact EH (Bj e)
theorem BW (l:List aC) (y:aC):fe (l++[y])=(fe l).bind fun es=>jI es y:=by
 unfold fe;rw [List.foldlM_append]
 cases h:List.foldlM jI [] l with
 |none=>rfl
 |some es=>simp [List.foldlM_cons]
theorem BX {m:List aC} (h:fe l=none):fe (l++m)=none:=by
 unfold fe at h ⊢;rw [List.foldlM_append,h];rfl
theorem GG (l:List aC) (x:aC):(ins l x).length<=l.length+1:=by
 induction l with
 |nil=>simp [ins]
 |cons e l ih=>
  unfold ins
  split
  ·simp only [gp];omega
  ·split
   ·simp
   ·simp
theorem pj:∀(l m:List aC),(l.foldl ins m).length<=m.length+l.length
 |[],m=>bj
 |x::l,m=>by
  rw [List.foldl_cons,gp]
  have:=pj l (ins m x);have:=GG m x;omega
theorem fR (hl:Checked l) (h:fe l=some es):es=oG l/\Small l/\Checked es/\es.length<=l.length/\aT es:=by
 rw [jC hl]at h
 split at h
 ·rename_i hs
  simp only [iw]at h
  subst h
  refine⟨rfl,hs,xM hl.bQ hs,?_,dV hl.bQ⟩
  have:=pj l [];simpa [oG] using this
 ·cases h
def Nd.all (x:Nd):List aC:=x.aF++x.buf
def upTo (t:Tr) (i:Nat) (x:Nd) (k:Nat):List aC:=(t.nodes.take i).flatMap Nd.all++x.all.take k
theorem afG (hx:t.nodes[i]?=some x) (k:Nat):∃m,t.all=upTo t i x k++m:=by
 obtain⟨hi,rfl⟩:=gJ.1 hx
 refine⟨t.nodes[i].all.drop k++(t.nodes.drop (i+1)).flatMap Nd.all,?_⟩
 show t.nodes.flatMap Nd.all=_
 conv=>lhs;rw [<-wL i t.nodes,vd hi,tR,gQ]
 unfold upTo
 rw [jv]
 congr 1
 rw [<-jv,wL]
def adD (t:Tr) (lo hi:Int) (i:Nat) (x:Nd) (k:Nat) (es:List aC):Prop:=fe ((upTo t i x k).filter (aR lo hi))=some es
theorem afA (t:Tr) (lo hi:Int) (x:Nd):adD t lo hi 0 x 0 []:=by simp [adD,upTo,fe]
theorem agq {y:Nd} (hx:t.nodes[i]?=some x) (hk:x.all.length<=k) (h:adD t lo hi i x k es):adD t lo hi (i+1) y 0 es:=by
 obtain⟨hi,rfl⟩:=gJ.1 hx
 unfold adD upTo at *
 rw [lI hk]at h
 rw [kK hi,tR,List.flatMap_singleton,List.take_zero,oL]
 exact h
theorem agp (hk:k<x.all.length) (h:adD t lo hi i x k es) (hr:aR lo hi x.all[k]=false):adD t lo hi i x (k+1) es:=by
 unfold adD upTo at *
 rw [kK hk,<-jv,rF,qB (by simp [hr]),List.filter_nil,oL]
 exact h
theorem agi {es':List aC} (hk:k<x.all.length) (h:adD t lo hi i x k es) (hr:aR lo hi x.all[k]=true) (hi':jI es x.all[k]=some es'):adD t lo hi i x (k+1) es':=by
 unfold adD upTo at *
 rw [kK hk,<-jv,rF,rG hr,List.filter_nil,BW,h]
 exact hi'
theorem agj (hx:t.nodes[i]?=some x) (hk:k<x.all.length) (h:adD t lo hi i x k es) (hr:aR lo hi x.all[k]=true) (hi':jI es x.all[k]=none):kI t lo hi=none:=by
 obtain⟨m,hm⟩:=afG hx (k+1)
 unfold kI
 rw [hm,rF]
 refine BX ?_
 unfold adD at h
 unfold upTo at *
 rw [kK hk,<-jv,rF,rG hr,List.filter_nil,BW,h]
 exact hi'
theorem ah0 (hi':t.nodes.length<=i) (h:adD t lo hi i x 0 es):kI t lo hi=some es:=by
 unfold adD upTo at h
 rw [lI hi']at h
 rw [List.take_zero,oL]at h
 exact h
theorem agn (hf:ax t=0) (hx:t.nodes[i]?=some x) (h:adD t lo hi i x k es):Checked es/\es.length<=28000:=by
 obtain⟨hn,hv⟩:=cS hf
 obtain⟨m,hm⟩:=afG hx k
 have hc:Checked (upTo t i x k):=fun e he=>cz hv e (by rw [hm];simp [he])
 obtain⟨_,_,h1,h2,_⟩:=fR (iT hc) h
 refine⟨h1,?_⟩
 have h3:=sH (aR lo hi) (upTo t i x k)
 have h4:=Bk hv
 rw [hm,dO]at h4
 omega
theorem agf (hf:ax t=0) (hx:t.nodes[i]?=some x) (hk:k<x.all.length):aq x.all[k].is=0:=by
 obtain⟨hn,hv⟩:=cS hf
 refine(cz hv _ ?_).2
 unfold Tr.all
 exact List.mem_flatMap.2 ⟨x,List.mem_of_getElem? hx,fP hk⟩
end
section
variable {x:Int} {es:List aC} {k:Nat}
theorem aat {α:Type} {p:α->Bool}:∀{l:List α} {k:Nat},k<=l.length->(∀t (ht:t<l.length),t<k->p l[t]=true)->(∀ht:k<l.length,p l[k]=false)->(l.takeWhile p).length=k
 |[],k,hk,_,_=>by simp at hk;simp [hk]
 |a::l,0,_,_,h2=>by
  have:=h2 bj
  simp only [List.getElem_cons_zero]at this
  simp [this]
 |a::l,k+1,hk,h1,h2=>by
  have h0:=h1 0 bj af
  simp only [List.getElem_cons_zero]at h0
  rw [List.takeWhile_cons_of_pos h0,gp,aat (k:=k) (by simpa using hk) (fun t ht htk=>h1 (t+1) (by simpa using ht) af) (fun ht=>h2 (by simpa using ht))]
def LU (zs:List Int) (x:Int):Nat:=(zs.takeWhile fun z=>decide (z<x)).length
def ia (es:List aC) (x:Int):Nat:=(es.takeWhile fun e=>decide (e.key<x)).length
def rq (es:List aC) (x:Int):Bool:=es.any fun e=>decide (e.key=x)
theorem Pj {zs:List Int} (hk:k<=zs.length) (h1:∀t (ht:t<zs.length),t<k->zs[t]<x) (h2:∀t (ht:t<zs.length),k<=t->x<=zs[t]):LU zs x=k:=
 aat hk (fun t ht htk=>by simpa using h1 t ht htk) (fun ht=>by simpa using h2 k ht aH)
theorem Qa {zs:List Int} (hs:zs.Pairwise (·<·)) (h1:∀t (ht:t<zs.length),t<k->zs[t]<x) (h2:∀t (ht:t<zs.length),k<=t->x<=zs[t]):decide (x∈zs)=if h:k<zs.length then decide (zs[k]=x)else false:=by
 by_cases hk:k<zs.length
 ·rw [dif_pos hk,decide_eq_decide]
  constructor
  ·intro hm
   obtain⟨t,ht,rfl⟩:=adU hm
   by_cases h:t<k
   ·have:=h1 t ht h;omega
   ·by_cases h':t=k
    ·subst h';rfl
    ·have:=py.1 hs k t hk ht af
     have:=h2 k hk aH;omega
  ·intro h;rw [<-h];exact fP hk
 ·rw [dif_neg hk,wJ]
  intro hm
  obtain⟨t,ht,rfl⟩:=adU hm
  have:=h1 t ht af;omega
theorem yw (hk:k<=es.length) (h1:∀t (ht:t<es.length),t<k->es[t].key<x) (h2:∀t (ht:t<es.length),k<=t->x<=es[t].key):ia es x=k:=
 aat hk (fun t ht htk=>by simpa using h1 t ht htk) (fun ht=>by simpa using h2 k ht aH)
theorem Qb (hs:aT es) (h1:∀t (ht:t<es.length),t<k->es[t].key<x) (h2:∀t (ht:t<es.length),k<=t->x<=es[t].key):rq es x=if h:k<es.length then decide (es[k].key=x)else false:=by
 by_cases hk:k<es.length
 ·rw [dif_pos hk]
  unfold rq
  rw [Bool.eq_iff_iff,List.any_eq_true,yi]
  constructor
  ·rintro⟨e,he,hm⟩
   have hm:=iy hm
   obtain⟨t,ht,rfl⟩:=adU he
   by_cases h:t<k
   ·have:=h1 t ht h;omega
   ·by_cases h':t=k
    ·subst h';exact hm
    ·have:=py.1 hs k t hk ht af
     have:=h2 k hk aH;omega
  ·intro h;exact⟨es[k],fP hk,by simpa using h⟩
 ·rw [dif_neg hk]
  unfold rq
  rw [List.any_eq_false]
  intro e he
  obtain⟨t,ht,rfl⟩:=adU he
  have:=h1 t ht af;simp;omega
theorem JU {keys:List Int} (hs:keys.Pairwise (·<·)):aU keys x=LU keys x+if x∈keys then 1 else 0:=by
 induction keys with
 |nil=>rfl
 |cons k ks ih=>
  have hp:=aez.1 hs
  have ih:=ih hp.2
  unfold aU LU at *
  by_cases h1:k<x
  ·have h2:k<=x:=af
   rw [List.takeWhile_cons_of_pos (by simpa using h2),List.takeWhile_cons_of_pos (by simpa using h1),gp,gp,ih]
   have:(x∈k::ks)↔x∈ks:=by rw [fk];exact⟨fun h=>h.resolve_left af, .inr⟩
   by_cases h:x∈ks
   ·rw [ar h,ar (this.2 h)]
   ·rw [ai h,ai (fun h'=>h (this.1 h'))]
  ·rw [List.takeWhile_cons_of_neg (p:=fun z=>decide (z<x)) (by simpa using h1)]
   by_cases h2:k=x
   ·subst h2
    rw [List.takeWhile_cons_of_pos bj,gp,ar bj]
    cases ks with
    |nil=>rfl
    |cons y ys=>
     have:=hp.1 y bj
     rw [List.takeWhile_cons_of_neg (by simp;omega)]
   ·have hn:¬x∈k::ks:=fun hm=>by
     rcases fk.1 hm with h|h
     ·exact h2 h.symm
     ·have:=hp.1 x h;omega
    rw [List.takeWhile_cons_of_neg (by simp;omega),ai hn];rfl
theorem qM {go:Int->Int->Int->Option (List Int×Nat)} {x:Nd} {a b:Int}:∀{ks:List Int} {i:Nat} {l:List Int} {h:Nat},ct go x a b ks i=some (l,h)->∀j,j<ks.length->x.from a (i+j)<x.upto b (i+j)/\a<=x.from a (i+j)/\x.upto b (i+j)<=b
 |[],_,_,_,_=>fun j hj=>by simp at hj
 |k::ks,i,l,h,hv=>by
  unfold ct at hv
  split at hv
  ·rename_i hc
   split at hv
   ·rename_i l1 h1 l2 h2 e1 e2
    intro j hj
    cases j with
    |zero=>exact hc
    |succ j=>
     have:=qM e2 j (by simpa using hj)
     rwa [show i+1+j=i+(j+1)from by omega]at this
   ·cases hv
  ·cases hv
theorem Lj {t:Tr} {f:Nat} {n a b:Int} {l:List Int} {h:Nat} {x:Nd} (hv:mC t (f+1) n a b=some (l,h)) (hx:t.dh n=some x) (hl:x.leaf=false):x.keys.Pairwise (·<·)/\∀k∈x.keys,a<=k/\k<=b:=by
 obtain⟨_,⟨h1,_⟩|⟨_,hok,l',h',hk,rfl,_⟩⟩:=ll hv hx
 ·rw [hl]at h1;cases h1
 ·have hb:=qM hk
  have hkl:=hok.2.2.2.1
  have g:∀j (hj:j<x.keys.length),x.upto b (0+j)=x.keys[j]/\x.from a (0+(j+1))=x.keys[j]:=fun j hj=>by
   simp [Nd.upto,Nd.from,hj]
  refine⟨py.2 fun i j hi hj hij=>?_,fun k hk=>?_⟩
  ·have step:∀m (hm:m+1<x.keys.length),x.keys[m]<x.keys[m+1]:=fun m hm=>by
    have h1:=(hb (m+1) af).1
    rw [(g m af).2,(g (m+1) hm).1]at h1
    exact h1
   obtain⟨d,rfl⟩:∃d,j=i+1+d:=⟨j-i-1,af⟩
   clear hij
   induction d with
   |zero=>exact step i hj
   |succ d ih=>
    exact Int.lt_trans (ih af step) (step (i+1+d) af)
  ·obtain⟨j,hj,rfl⟩:=adU hk
   have h1:=hb j af
   rw [(g j hj).1]at h1
   omega
end
section
variable {key:Int} {L path:List aC} {r:aw} {t:Tr}
theorem BL (hs:aT L) (h:rq L key=true):∃(i:Nat) (hi:i<L.length),ia L key=i/\L[i].key=key/\L.filter (fun e=>decide (e.key=key))=[L[i]]:=by
 unfold rq at h
 obtain⟨e,he,hk⟩:=List.any_eq_true.1 h
 have hk:=iy hk
 obtain⟨i,hi,rfl⟩:=adU he
 have hp:=py.1 hs
 have h1:∀t (ht:t<L.length),t<i->L[t].key<key:=fun t ht hti=>by rw [<-hk];exact hp t i ht hi hti
 have h2:∀t (ht:t<L.length),i<t->key<L[t].key:=fun t ht hti=>by rw [<-hk];exact hp i t hi ht hti
 refine⟨i,hi,yw af h1 (fun t ht hti=>?_),hk,?_⟩
 ·by_cases hit:i=t
  ·subst hit;omega
  ·have:=h2 t ht af;omega
 ·conv=>lhs;rw [<-wL i L,vd hi]
  rw [rF,rG (by simpa using hk),pV (fun e he=>?_),pV (fun e he=>?_),List.nil_append]
  ·obtain⟨t,ht,rfl⟩:=adU he
   rw [oI]at ht
   rw [List.getElem_drop]
   have:=h2 (i+1+t) af af;omega
  ·obtain⟨t,ht,rfl⟩:=adU he
   rw [eP]at ht
   rw [wI]
   have:=h1 t af af;omega
theorem G7 (h:rq L key=false):L.filter (fun e=>decide (e.key=key))=[]:=by
 unfold rq at h
 rw [List.filter_eq_nil_iff]
 intro e he
 have:=List.any_eq_false.1 h e he
 simpa using this
def Nd.own (x:Nd):List aC:=if x.leaf=true then x.aF else x.buf
def oN (t:Tr) (key:Int) (r:aw) (path:List aC):Prop:=aq r=0/\Ha t key=match tA r path with|some r=>(r,0)|none=>(aw.zero,1)
theorem Nj (hf:ax t=0) {f:Nat} {n a b:Int} {l:List Int} {h:Nat} {x:Nd} (hv:mC t (f+1) n a b=some (l,h)) (hx:t.dh n=some x) (ha:a<=key) (hb:key<b) :
  aT x.own/\Checked x.own/\(∀e∈x.own,0<=e.key/\e.key<1099511627776) /\
  oX t key (f+1) n=x.own.filter (fun e=>decide (e.key=key))++(if x.leaf=true then []else oX t key f (x.kids.getD (aU x.keys key) 0)) /\
  (x.leaf=false->x.keys.Pairwise (·<·)/\aU x.keys key<x.kids.length/\∃f' a' b' l' h',f=f'+1/\mC t (f'+1) (x.kids.getD (aU x.keys key) 0) a' b'=some (l',h')/\a'<=key/\key<b'):=by
 obtain⟨hn,PL⟩:=cS hf
 have hxm:x∈t.nodes:=by
  unfold Tr.dh at hx
  split at hx
  ·exact List.mem_of_getElem? hx
  ·cases hx
 have hrange:∀e∈x.own,0<=e.key/\e.key<1099511627776:=fun e he=>lT PL e (by
  unfold Tr.all
  refine List.mem_flatMap.2 ⟨x,hxm,?_⟩
  unfold Nd.own at he;split at he <;> simp [he])
 have QX:oX t key (f+1) n=x.own.filter (fun e=>decide (e.key=key))++(if x.leaf=true then []else oX t key f (x.kids.getD (aU x.keys key) 0)):=by
  conv=>lhs;unfold oX
  rw [hx]
  simp only [Nd.own]
  cases hl:x.leaf <;> simp
 obtain⟨_,⟨hl,hok,_⟩|⟨hl,hok,_⟩⟩:=ll hv hx
 ·have ho:x.own=x.aF:=by simp [Nd.own,hl]
  exact⟨by rw [ho];exact hok.2.2.2.2.2.2.2,by rw [ho];exact hok.2.2.2.2.2.1,hrange,QX,fun h=>by rw [hl]at h;cases h⟩
 ·have ho:x.own=x.buf:=by simp [Nd.own,hl]
  refine⟨by rw [ho];exact hok.2.2.2.2.2.2.2,by rw [ho];exact hok.2.2.2.2.2.1,hrange,QX,fun _=>⟨(Lj hv hx hl).1,?_⟩⟩
  obtain⟨h1,a',b',l',h',h2,h3,h4,_⟩:=Ix hv hx hl ha hb
  refine⟨h1,?_⟩
  cases f with
  |zero=>cases h2
  |succ f'=>exact⟨f',a',b',l',h',rfl,h2,h3,h4⟩
theorem Ez (hh:rq L key=false) (h:oN t key r (L.filter (fun e=>decide (e.key=key))++path)):oN t key r path:=by
 rw [G7 hh,List.nil_append]at h;exact h
theorem Ey {i:Nat} {hi:i<L.length} (hc:aq L[i].is=0) (hfl:L.filter (fun e=>decide (e.key=key))=[L[i]]) (h:oN t key r (L.filter (fun e=>decide (e.key=key))++path)) :
  (r.c+L[i].is.c<=1073741824->bH r L[i].is=(r.join L[i].is,0)/\oN t key (r.join L[i].is) path)/\(¬r.c+L[i].is.c<=1073741824->bH r L[i].is=(aw.zero,1)/\Ha t key=(aw.zero,1)):=by
 obtain⟨h1,h2⟩:=h
 rw [hfl]at h2
 have e:tA r ([L[i]]++path)=if r.c+L[i].is.c<=1073741824 then tA (r.join L[i].is) path else none:=by
  unfold tA
  rw [List.singleton_append,List.foldlM_cons]
  split <;> rfl
 rw [e]at h2
 refine⟨fun hle=>?_,fun hle=>?_⟩
 ·obtain⟨m1,m2⟩:=qU h1 hc hle
  rw [ar hle]at h2
  exact⟨m1,m2,h2⟩
 ·rw [ai hle]at h2
  exact⟨(iO h1 hc).trans (ai hle),h2⟩
theorem Hb (h:oN t key r []):Ha t key=(r,0):=h.2
theorem CH:oN t key aw.zero (oX t key 12 t.root):=⟨aW,rfl⟩
end
section
variable {x:aC} {es:List aC}
theorem vY {x:aC}:∀{es:List aC} {k:Nat},k<=es.length->(∀t (ht:t<es.length),t<k->es[t].key<x.key)->jI es x=(jI (es.drop k) x).map (fun l=>es.take k++l)
 |es,0,_,_=>bj
 |[],k+1,hk,_=>by simp at hk
 |e::es,k+1,hk,h=>by
  have h0:=h 0 bj af
  simp only [List.getElem_cons_zero]at h0
  have ih:=vY (es:=es) (k:=k) (by simpa using hk) (fun t ht htk=>h (t+1) (by simpa using ht) af)
  show (if e.key<x.key then _ else _:Option (List aC))=_
  rw [ar h0,ih,List.drop_succ_cons,List.take_succ_cons]
  cases jI (es.drop k) x <;> rfl
theorem qN {α:Type} {p:α->Bool}:∀{l:List α} {k:Nat} (_:(l.takeWhile p).length=k) (h:k<l.length),p l[k]=false
 |[],k,_,h=>by simp at h
 |a::l,k,hk,h=>by
  by_cases hp:p a=true
  ·rw [List.takeWhile_cons_of_pos hp,gp]at hk
   obtain⟨j,rfl⟩:∃j,k=j+1:=⟨k-1,af⟩
   exact qN (l:=l) (k:=j) af (by simpa using h)
  ·rw [List.takeWhile_cons_of_neg hp,List.length_nil]at hk
   subst hk
   simpa using hp
theorem ly {key:Int} (_hs:aT es):ia es key<=es.length/\(∀t (ht:t<es.length),t<ia es key->es[t].key<key)/\(∀ht:ia es key<es.length,key<=es[ia es key].key):=by
 unfold ia
 have hp:=List.takeWhile_prefix (fun e:aC=>decide (e.key<key)) (l:=es)
 refine⟨hp.length_le,fun t ht htk=>?_,fun ht=>?_⟩
 ·have e:(es.takeWhile fun e=>decide (e.key<key))[t]=es[t]:=hp.getElem htk
  have:=nK.1 (List.all_takeWhile (p:=fun e:aC=>decide (e.key<key)) (l:=es)) _ (fP htk)
  rw [e]at this;simpa using this
 ·have:=qN (p:=fun e:aC=>decide (e.key<key)) (l:=es) rfl ht
  have:=Ql this
  omega
theorem Ms (hs:aT es) (hh:rq es x.key=false):jI es x=some (es.take (ia es x.key)++x::es.drop (ia es x.key)):=by
 obtain⟨p1,p2,p3⟩:=ly (key:=x.key) hs
 rw [vY p1 p2]
 by_cases h:ia es x.key<es.length
 ·have h3:=p3 h
  have hne:es[ia es x.key].key≠x.key:=fun e=>by
   have:=List.any_eq_false.1 hh es[ia es x.key] (fP h)
   simp [e]at this
  rw [vd h]
  show (if _<x.key then _ else if _=x.key then _ else _:Option (List aC)).map _=_
  rw [ai af,ai hne];rfl
 ·rw [Be af];rfl
theorem zw {i:Nat} (hi:i<es.length) (hs:aT es) (hp:ia es x.key=i) (hk:es[i].key=x.key) :
  jI es x=if es[i].is.c+x.is.c<=1073741824 then some (es.set i ⟨x.key,es[i].is.join x.is⟩)else none:=by
 obtain⟨p1,p2,p3⟩:=ly (key:=x.key) hs
 rw [hp]at p1 p2
 rw [vY p1 p2,vd hi]
 show (if _<x.key then _ else if _=x.key then _ else _:Option (List aC)).map _=_
 rw [ai af,ar hk]
 split
 ·rw [List.set_eq_take_append_cons_drop,ar hi];rfl
 ·rfl
end
section
variable {P l es:List aC} {t:Tr}
def dX (P:List aC):Prop:=Checked P/\(∀e∈P,0<=e.key/\e.key<1099511627776)/\P.length<=50000
theorem dX.left {Q:List aC} (h:dX (P++Q)):dX P:=
 ⟨fun e he=>h.1 e (by simp [he]),fun e he=>h.2.1 e (by simp [he]),by have:=h.2.2;rw [dO]at this;omega⟩
theorem Al:∀{m:List aC} {e:aC},e∈l.foldl ins m->∃y,(y∈l\/y∈m)/\y.key=e.key:=by
 induction l with
 |nil=>intro m e he;exact⟨e, .inr he,rfl⟩
 |cons x l ih=>
  intro m e he
  rw [List.foldl_cons]at he
  obtain⟨y,hy|hy,hk⟩:=ih he
  ·exact⟨y, .inl (by simp [hy]),hk⟩
  ·rcases rh hy with h|⟨z,hz,h⟩
   ·exact⟨x, .inl bj,af⟩
   ·exact⟨z, .inr hz,af⟩
theorem pL (hP:dX P) (h:fe P=some es):aT es/\(∀e∈es,aq e.is=0)/\(∀e∈es,0<=e.key/\e.key<1099511627776)/\es.length<=50000:=by
 obtain⟨h1,h2,h3,h4,h5⟩:=fR hP.1 h
 refine⟨h5,fun e he=>(h3 e he).2,fun e he=>?_,by have:=hP.2.2;omega⟩
 rw [h1]at he
 obtain⟨y,hy|hy,hk⟩:=Al he
 ·have:=hP.2.1 y hy;omega
 ·cases hy
noncomputable def allT (t:Tr):Option (List aC):=if ax t=0 then kI t 0 1099511627776 else none
theorem Fa (h:ax t=0) (lo hi:Int):dX (t.all.filter (aR lo hi)):=by
 obtain⟨h1,h2⟩:=cS h
 refine⟨iT (cz h2),fun e he=>lT h2 e (mn.1 he).1,?_⟩
 have h3:=Bk h2
 have h4:=sH (aR lo hi) t.all
 omega
theorem oV (hP:dX P) (h:fe P=some es):dX es:=by
 obtain⟨_,_,g3,g4⟩:=pL hP h
 obtain⟨_,_,h3,_,_⟩:=fR hP.1 h
 exact⟨h3,g3,g4⟩
theorem KG {lo hi:Int} (hf:ax t=0) (h:kI t lo hi=some l):aT l/\dX l:=
 ⟨(pL (Fa hf lo hi) h).1,oV (Fa hf lo hi) h⟩
theorem fB (h:allT t=some l):aT l/\dX l:=by
 unfold allT at h
 split at h
 ·rename_i hf;exact KG hf h
 ·cases h
def bucket (size:Int) (e:aC):aC:=⟨e.key-e.key%1048576%size,e.is⟩
def bW (l:List aC) (size:Int):Option (List aC):=fe (l.map (bucket size))
theorem mod_le {m s:Int} (h:0<=m) (hs:0<s):m%s<=m:=by
 rw [Int.emod_def]
 have:=Int.mul_nonneg (Int.le_of_lt hs) (Int.ediv_nonneg h (Int.le_of_lt hs))
 omega
theorem pZ {size:Int} (hs:0<size) {e:aC} (h:0<=e.key/\e.key<1099511627776):0<=(bucket size e).key/\(bucket size e).key<1099511627776:=by
 have h1:=Int.emod_nonneg e.key (show (1048576:Int)≠0 by decide)
 have h2:=Int.emod_nonneg (e.key%1048576) (show size≠0 by omega)
 have h3:e.key%1048576%size<=e.key%1048576:=mod_le h1 hs
 have h4:e.key%1048576<=e.key:=af
 show 0<=e.key-e.key%1048576%size/\e.key-e.key%1048576%size<1099511627776
 omega
theorem eu {size:Int} (hs:0<size) (h:dX l):dX (l.map (bucket size)):=by
 refine⟨fun e he=>?_,fun e he=>?_,by rw [oJ];exact h.2.2⟩
 ·obtain⟨y,hy,rfl⟩:=wN.1 he;exact h.1 y hy
 ·obtain⟨y,hy,rfl⟩:=wN.1 he;exact pZ hs (h.2.1 y hy)
structure Ba where
 names:List ByteArray
 t0:Tr
 t1:Tr
 t2:Tr
 floor:Int
def jn (b:Ba) (e:aC):Bool:=decide (e.key/1048576<b.names.length) && decide (b.floor<=e.key%1048576) && decide (e.is.t=e.key%1048576)
noncomputable def bY (b:Ba):Option (List aC):=match allT b.t0 with|none=>none|some l=>if l.all (jn b)then some l else none
theorem lC {b:Ba} (h:bY b=some l):allT b.t0=some l/\l.all (jn b)=true:=by
 unfold bY at h
 cases ht:allT b.t0 with
 |none=>rw [ht]at h;cases h
 |some m=>
  rw [ht]at h
  simp only at h
  split at h
  ·rename_i hb;simp only [iw]at h;subst h;exact⟨rfl,hb⟩
  ·cases h
noncomputable def fE (l:List aC) (t:Tr) (size:Int):Bool:=match bW l size,allT t with|some a,some c=>decide (a=c)|_,_=>false
def Ba.tree (b:Ba) (k:Nat):Tr:=if k=0 then b.t0 else if k=1 then b.t1 else b.t2
def aQ (k:Nat):Int:=if k=0 then 1 else if k=1 then 60 else 3600
theorem ir (k:Nat):0<aQ k:=by unfold aQ;split;decide;split <;> decide
end
open Go.ChangeShapes Go.WideShapes Go.ChangeAt Go.RowKit
theorem AF {H:Type} {enc:TypeId×Value->H} {P:Program} (hl:laidOutB P=true) {W W':World} (hb:ah W W') :
  ∀{ts:List TypeId} {vs:List Value} {ds:List (DataW H)} {ps:List MemPlace},(∀t∈ts,P.readableRec t=true/\t<P.types.size) ->
   DataW.TrodAll enc P W 0 (fun _=>true) true ts vs ds ps->(∀x∈ps,x.block<W.heap.size) ->
   DataW.TrodAll enc P W' 0 (fun b=>decide (b<W.heap.size)) true ts vs ds ps:=by
 intro ts
 induction ts with
 |nil=>intro vs ds ps _ h _;obtain⟨rfl,rfl,rfl⟩:=trodAll_nil h;exact trodAll_mk0
 |cons t ts ih=>
  intro vs ds ps ht h hlt
  obtain⟨v,vs',d,ds',p,q,rfl,rfl,rfl,h1,h2⟩:=trodAll_cons h
  refine⟨p,q,Below.trod hl (ht t bj).1 (ht t bj).2 h1 hb (fun x hx=>hlt x (by simp [hx])),?_,rfl⟩
  exact ih (fun t' ht'=>ht t' (by simp [ht'])) h2 (fun x hx=>hlt x (by simp [hx]))
section
variable {cs:List Value} {i fuel:Nat} {α:Type}
theorem Tryd.own:ownKnob Tryd.prog.godebug=none:=bT
theorem Tryd.laidOut:laidOutB Tryd.prog=true:=bT
theorem Tryd.E3:Tryd.prog.cellsOf 3=1:=bT
theorem Tryd.ah2:Tryd.prog.cellsOf 42=6:=bT
section
variable {H:Type} {enc:TypeId×Value->H} {w:World} {base:Nat} {sp:Nat->Bool} {held:Bool}
theorem take_one {cs:List α} {v:α} (h:(cs.drop i).take 1=[v]):cs[i]?=some v:=by
 have:=congrArg (fun l=>l[0]?) h
 simpa [qg] using this
theorem ajX {cs:List α} {a b c d e f:α} (hl:cs.length=6) (h0:cs[0]?=some a) (h1:cs[1]?=some b) (h2:cs[2]?=some c) (h3:cs[3]?=some d) (h4:cs[4]?=some e) (h5:cs[5]?=some f):cs=[a,b,c,d,e,f]:=by
 match cs,hl with
 |[x0,x1,x2,x3,x4,x5],_=>simp at h0 h1 h2 h3 h4 h5;simp [h0,h1,h2,h3,h4,h5]
theorem Lg {n:Int} (hw:(Lit.int .i64 n).wf=true) : -9223372036854775808<=n/\n<=9223372036854775807:=by
 simpa [Lit.wf,IntKind.min,IntKind.max,IntKind.signed,IntKind.bits] using hw
theorem nS {x:DataW H×List MemPlace} (h:DataW.trod enc Tryd.prog w base sp held fuel 3 ((cs.drop i).take (Tryd.prog.cellsOf 3))=some x) :
  ∃n,cs[i]?=some (.int .i64 n)/\-9223372036854775808<=n/\n<=9223372036854775807:=by
 obtain⟨n,e,_,hw⟩:=DataW.trod_int Tryd.underlying3 h
 rw [Tryd.E3]at e
 exact⟨n,take_one e,Lg hw⟩
def aw.cells (r:aw):List Value:=[.int .i64 r.c, .int .i64 r.s, .int .i64 r.mi, .int .i64 r.ma, .int .i64 r.t, .int .i64 r.l]
theorem aih {x:DataW H×List MemPlace} (h:DataW.trod enc Tryd.prog w base sp held fuel 42 cs=some x):∃r:aw,cs=r.cells:=by
 obtain⟨xs,n,_,_,hl,hn,hf⟩:=DataW.trod_struct Tryd.underlying42 h
 rw [Tryd.ah2]at hl
 match xs,hn with
 |[x0,x1,x2,x3,x4,x5],_=>
  obtain⟨a,ha,_⟩:=nS (hf 0 _ rfl)
  obtain⟨b,hb,_⟩:=nS (hf 1 _ rfl)
  obtain⟨c,hc,_⟩:=nS (hf 2 _ rfl)
  obtain⟨d,hd,_⟩:=nS (hf 3 _ rfl)
  obtain⟨e,he,_⟩:=nS (hf 4 _ rfl)
  obtain⟨f,hf,_⟩:=nS (hf 5 _ rfl)
  exact⟨⟨a,b,c,d,e,f⟩,ajX hl ha hb hc hd he hf⟩
end
end
theorem ng {H:Type} {enc:TypeId×Value->H} {C:Go.Checked} {os:Os} {f:FuncId} {fn:Func} {s:ChangeSpec} {tb:TypeId} {L:List (String×DataW Unit)}
  (own:ownKnob C.prog.godebug=none) (started:os.Started) (noInit:C.prog.inits.idxOf? f=none) (hfn:C.prog.funcs[f]?=some fn)
  (witness:∃(w:World) (tape:Tape) (i:Input),w.os=os/\(w.forCall tape i).Shaped C.prog/\i.vars=[]/\Input.okWide C.prog (w.forCall tape i) .any w.heap.size f i /\
   ((s.pre enc C.prog fn [] false (w.forCall tape i).memory i.args/\laidMetH C.prog L (w.forCall tape i).memory)/\sizedMet enc C.prog fn (OpenSpec.ofChange s) false (w.forCall tape i).memory i.args)/\({}:Assume).holds C.prog (lone (Frame.enter C.prog f i.args .normal) [] (w.forCall tape i)))
  (hl:laidOutB C.prog=true) (hread:∀t∈fn.params.toList,C.prog.readableRec t=true/\t<C.prog.types.size)
  (hvars:s.vars=[]) (hres:fn.resultTypes=#[tb]) (BH:C.prog.underlying tb=some .bool)
  (MD:∀ds:List (DataW H),ds.length=fn.params.size->s.fn H (ds++[])={ results:=[.lit (.bool true)],args:=ds })
  (contract:∀(W:World) (base:Nat) (args:Array Value) (ds:List (DataW H)) (ps:List MemPlace),
   (∀(j:Nat) t v,fn.params[j]?=some t->args[j]?=some v->Value.okWide C.prog W .any base t v) ->
   DataW.TrodAll enc C.prog W 0 (fun _=>true) true fn.params.toList args.toList ds ps ->
   (∀x∈ps,x.block<W.heap.size) ->
   (DataW.weightsEach C.prog fn.params.toList ds).all (·<=reachBytes)=true->laidMetH C.prog L W ->
   Calls C.prog f args W fun e W'=>e = .returned (.bool true)/\ah W W') :
  ReturnsInHanded {} C os f .any (fun w args=>(s.pre enc C.prog fn [] false w args/\laidMetH C.prog L w)/\sizedMet enc C.prog fn (OpenSpec.ofChange s) false w args) (s.post enc C.prog fn false true false false):=by
 refine returnsInHanded_of_change_and (C:=C) (X:=fun w _=>laidMetH C.prog L w) (fun _ _ _ hh h=>h.of_heap hh) own started noInit hfn witness ?_
 intro W base args ds gs before hval hW _ hsz hL _
 have hW':=hW
 obtain⟨p,q,hA,hV,rfl,hfz,hnd⟩:=hW
 rw [hvars]at hV
 obtain⟨rfl,rfl⟩:=trodVars_none hV
 have hlt:∀x∈p,x.block<W.heap.size:=fun x hx=>hW'.lt x (by simp [hx])
 have PL:s.plain.varTypes C.prog=[]:=by simp [ChangeSpec.plain,DataSpec.varTypes,hvars]
 rw [PL]at hsz
 simp only [oL]at hsz
 refine(contract W base args ds p hval hA hlt hsz hL).mono fun e W' ⟨he,hb⟩=>?_
 subst he
 have hlen:ds.length=fn.params.size:=by
  have:∀{ts:List TypeId} {vs:List Value} {ds:List (DataW H)} {ps:List MemPlace},DataW.TrodAll enc C.prog W 0 (fun _=>true) true ts vs ds ps->ds.length=ts.length:=by
   intro ts
   induction ts with
   |nil=>intro vs ds ps h;obtain⟨rfl,rfl,rfl⟩:=trodAll_nil h;rfl
   |cons t ts ih=>
    intro vs ds ps h
    obtain⟨v,vs',d,ds',p,q,rfl,rfl,rfl,h1,h2⟩:=trodAll_cons h
    simp [ih h2]
  simpa using this hA
 refine⟨_,rfl,ds,[],p++[],[],p,[],hW',?_,?_,?_,hb.frame _,fun h=>by cases h⟩
 ·rw [MD ds hlen,hres]
  exact trodAll_mk1 (shut_bool BH true)
 ·rw [MD ds hlen]
  exact AF hl hb hread hA hlt
 ·rw [MD ds hlen,hvars]
  rfl
structure bL (w:World):Prop where
 lt:0<w.heap.size
 c0:w.cell? ⟨0,0,none⟩=some (.int .i64 1)
 c1:w.cell? ⟨0,1,none⟩=some (.int .i64 60)
 c2:w.cell? ⟨0,2,none⟩=some (.int .i64 3600)
theorem bL.below {w w':World} (h:bL w) (hb:ah w w'):bL w':=
 ⟨mQ h.lt hb.size,(hb.cell (p:=⟨_,_,none⟩) h.lt).trans h.c0,(hb.cell (p:=⟨_,_,none⟩) h.lt).trans h.c1,(hb.cell (p:=⟨_,_,none⟩) h.lt).trans h.c2⟩
theorem zB (w:World):(Instr.index 88 (.agg #[.int .i64 1, .int .i64 60, .int .i64 3600]) (.int .i64 0)).run Tryd.prog w = .ok (.int .i64 1) w:=by
 unfold Instr.index
 simp [go_sem]
theorem zA (w:World):(Instr.index 88 (.agg #[.int .i64 1, .int .i64 60, .int .i64 3600]) (.int .i64 1)).run Tryd.prog w = .ok (.int .i64 60) w:=by
 unfold Instr.index
 simp [go_sem]
theorem zy (w:World):(Instr.index 88 (.agg #[.int .i64 1, .int .i64 60, .int .i64 3600]) (.int .i64 2)).run Tryd.prog w = .ok (.int .i64 3600) w:=by
 unfold Instr.index
 simp [go_sem]
abbrev qX : List (String × DataW Unit) := [("winnower/base.sizes", Rows.laid_winnower_base_sizes)]
theorem Tryd.Nk : Tryd.prog.globalNamed "winnower/base.sizes" = some 0 := by kernel_rfl
theorem Tryd.R6:(Tryd.prog.globals[0]?).map (·.type)=some 88:=bT
theorem Tryd.Hv:Tryd.prog.cellsOf 88=3:=bT
theorem om {W:World} (h:laidMetH Tryd.prog qX W):bL W:=by
 rw [MakeChecks.laidMetH_plain _ _ _ bT]at h
 obtain⟨ps,⟨g0,t0,cs0,f0,p0,q0,hg0,ht0,hv0,hd0,_,_⟩,_⟩:=h
 obtain rfl:=cY (Tryd.Nk.symm.trans hg0)
 obtain rfl:=cY (Tryd.R6.symm.trans ht0)
 obtain⟨xs,m1,rfl,hx1,hlen,U5,hel⟩:=DataW.trod_array Tryd.underlying88 hd0
 rw [Tryd.Hv]at hlen
 simp only [jM]at hx1
 have cells:∀(i:Nat) (n:Int),i<3->(xs.map (·.1))[i]?=some (.lit (.int .i64 n))->cs0[i]?=some (.int .i64 n):=by
  intro i n hi hn
  have hi':i<xs.length:=af
  have h1:=hel i hi
  rw [nL hi']at h1
  obtain⟨k,e1,e2,_⟩:=DataW.trod_int Tryd.underlying3 h1
  rw [Tryd.E3,Nat.mul_one]at e1
  have h2:=take_one e1
  rw [List.getElem?_map,nL hi']at hn
  simp only [Option.map_some,iw]at hn
  have e3:=congrArg (·.1) e2
  simp only at e3
  rw [hn]at e3
  obtain rfl:k=n:=by simpa using e3.symm
  simpa using h2
 have hm:xs.map (·.1)=[.lit (.int .i64 1), .lit (.int .i64 60), .lit (.int .i64 3600)]:=(DataW.agg.inj (show DataW.agg [.lit (.int .i64 1), .lit (.int .i64 60), .lit (.int .i64 3600)]=DataW.agg (xs.map (·.1))from hx1.1)).symm
 have hc:∀(i:Nat) (n:Int),i<3->(xs.map (·.1))[i]?=some (.lit (.int .i64 n))->W.cell? ⟨0,i,none⟩=some (.int .i64 n):=fun i n hi hn=>
  (World.var?_cell Tryd.Nk hv0 i).trans (cells i n hi hn)
 have c0:=hc 0 1 af (by rw [hm];rfl)
 refine⟨?_,c0,hc 1 60 af (by rw [hm];rfl),hc 2 3600 af (by rw [hm];rfl)⟩
 by_cases hb:0<W.heap.size
 ·exact hb
 ·simp [World.cell?,Array.getElem?_eq_none (Nat.le_of_not_lt hb)]at c0
theorem Ad (os:Os) (args:Array Value):laidMetH Tryd.prog qX ((World.doorLaid Tryd.prog 14 os).forCall (fun _ _=>0) ⟨#[],args,[]⟩).memory:=
 laidMetH_of_parts3 (fuel:=8) (laidMet_of_run' 8 bT bT) bT bT
end Go.Proofs.YtmljjfhgciaceaaDoor
