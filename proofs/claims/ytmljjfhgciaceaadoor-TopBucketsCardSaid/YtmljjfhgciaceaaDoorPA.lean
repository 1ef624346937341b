/- Texts of mine that come as one: Plain Data Bag Vis All Get RiseP HeightP NodeP WithP AllP SearchP GetP MergedP BaseP Gen Open GenLaid. -/
import Derived.Test.YtmljjfhgciaceaaDoorHd
import Derived.ProofKit
import Derived.SizedLaws
import Derived.Below
import Derived.Carry
import Derived.Test.YtmljjfhgciaceaaDoorRows
import Derived.Lib.SmallJoins
import Derived.Test.YtmljjfhgciaceaaDoorTie
import Derived.LaidMore
import Derived.MakeChecks
import Derived.OpenShut
import Derived.Stop.Joined
import Derived.SevenTiedAt
import Derived.Handed
import Derived.LaidHandle
namespace Go.Proofs.YtmljjfhgciaceaaDoor
section
variable {n m:Int}
structure au where
 c:Int
 s:Int
 mi:Int
 ma:Int
 t:Int
 l:Int
 deriving DecidableEq,Inhabited
def within (n most:Int):Bool:=decide (-most<=n) && decide (n<=most)
def UR (n low high:Int):Bool:=decide (low<=n) && decide (n<=high)
def au.zero:au:=⟨0,0,0,0,0,0⟩
def au.ranged (r:au):Prop:=0<=r.c/\r.c<=1073741824/\-1125899906842624<=r.s/\r.s<=1125899906842624/\-1000000<=r.mi/\r.mi<=1000000/\-1000000<=r.ma/\r.ma<=1000000 /\
 -1000000<=r.l/\r.l<=1000000/\0<=r.t/\r.t<=1048575
instance (r:au):Decidable r.ranged:=by unfold au.ranged;infer_instance
def au.formed (r:au):Prop:=r.mi<=r.l/\r.l<=r.ma/\r.c*r.mi<=r.s/\r.s<=r.c*r.ma
instance (r:au):Decidable r.formed:=by unfold au.formed;infer_instance
def aj (r:au):Int:=if r.ranged then(if r.c=0 then(if r=au.zero then 0 else 4)else if r.formed then 0 else 4)else 2
def eJ (time value:Int):au×Int:=if 0<=time/\time<=1048575/\-1000000<=value/\value<=1000000 then(⟨1,value,value,value,time,value⟩,0) else(au.zero,2)
def au.join (a b:au):au:=
 if b.c=0 then a else if a.c=0 then b else
 {c:=a.c+b.c,s:=a.s+b.s,mi:=min a.mi b.mi,ma:=max a.ma b.ma,
  t:=if a.t<b.t\/(a.t=b.t/\a.l<b.l)then b.t else a.t,l:=if a.t<b.t\/(a.t=b.t/\a.l<b.l)then b.l else a.l }
def bG (a b:au):au×Int:=
 if aj a≠0 then(au.zero,aj a)else if aj b≠0 then(au.zero,aj b) else
 if a.c=0\/b.c=0 then(a.join b,0) else
 if a.c+b.c>1073741824\/within (a.s+b.s) 1125899906842624=false then(au.zero,1) else(a.join b,0)
theorem wR:within n m=true↔-m<=n/\n<=m:=by simp [within]
theorem BA:within n m=false↔n < -m\/m<n:=by simp [within];omega
theorem rc2 {r:au} (h:¬r.ranged):aj r=2:=by simp [aj,h]
theorem Z0 {r:au} (h:r=au.zero):aj r=0:=by subst h;decide
theorem ZY {r:au} (h:r.ranged) (hc:r.c=0) (hz:r≠au.zero):aj r=4:=by simp [aj,h,hc,hz]
theorem YH {r:au} (h:r.ranged) (hc:r.c≠0) (hf:r.formed):aj r=0:=by simp [aj,h,hc,hf]
theorem rc4 {r:au} (h:r.ranged) (hc:r.c≠0) (hf:¬r.formed):aj r=4:=by simp [aj,h,hc,hf]
theorem rS {c:Int} (h0:0<=c) (h1:c<=1073741824) (h2 : -1000000<=m) (h3:m<=1000000) : -1073741824000000<=c*m/\c*m<=1073741824000000:=by
 have a1:c*m<=c*1000000:=Kv h3 h0
 have a2:c*(-1000000)<=c*m:=Kv h2 h0
 omega
end
section
variable {r a b:au}
structure aA where
 key:Int
 is:au
 deriving DecidableEq,Inhabited
structure Nd where
 leaf:Bool
 aF:List aA
 keys:List Int
 kids:List Int
 buf:List aA
 deriving DecidableEq,Inhabited
structure Tr where
 nodes:List Nd
 root:Int
 deriving DecidableEq,Inhabited
def au.Good (r:au):Prop:=0<r.c/\-1000000<=r.mi/\r.mi<=1000000/\-1000000<=r.ma/\r.ma<=1000000/\-1000000<=r.l/\r.l<=1000000/\0<=r.t/\r.t<=1048575 /\
 r.mi<=r.l/\r.l<=r.ma/\r.c*r.mi<=r.s/\r.s<=r.c*r.ma
def au.iu (r:au):Prop:=r=au.zero\/r.Good
theorem qX (h:r.Good) (hc:r.c<=1073741824) : -1125899906842624<=r.s/\r.s<=1125899906842624:=by
 obtain⟨h0,h1,h2,h3,h4,h5,h6,h7,h8,h9,h10,h11,h12⟩:=h
 have a1:=rS (c:=r.c) (m:=r.mi) af hc h1 h2
 have a2:=rS (c:=r.c) (m:=r.ma) af hc h3 h4
 omega
theorem lA (h:r.Good) (hc:r.c<=1073741824):aj r=0:=by
 have hs:=qX h hc
 obtain⟨h0,h1,h2,h3,h4,h5,h6,h7,h8,h9,h10,h11,h12⟩:=h
 exact YH (by unfold au.ranged;omega) af (by unfold au.formed;omega)
theorem cj (h:aj r=0) (hc:r.c≠0):r.Good/\r.c<=1073741824:=by
 unfold aj at h
 split at h
 ·rename_i hr
  split at h
  ·rename_i hf
   unfold au.ranged at hr;unfold au.formed at hf
   unfold au.Good
   omega
  ·cases h
 ·cases h
theorem Ax (h:aj r=0) (hc:r.c=0):r=au.zero:=by
 unfold aj at h
 split at h
 ·split at h
  ·assumption
  ·cases h
 ·cases h
theorem fk (r:au):aj r=0↔r.iu/\r.c<=1073741824:=by
 constructor
 ·intro h
  by_cases hc:r.c=0
  ·exact⟨.inl (Ax h hc),af⟩
  ·have:=cj h hc;exact⟨.inr this.1,this.2⟩
 ·rintro⟨rfl|h,hc⟩
  ·decide
  ·exact lA h hc
theorem au.iu.pos (h:r.iu):0<=r.c:=by
 rcases h with rfl|h
 ·decide
 ·have:=h.1;omega
theorem au.iu.good (h:r.iu) (hc:r.c≠0):r.Good:=by
 rcases h with rfl|h
 ·exact absurd rfl hc
 ·exact h
theorem rZ:au.zero.iu:= .inl rfl
theorem au.iu.zero (h:r.iu) (hc:r.c=0):r=au.zero:=by
 rcases h with rfl|h
 ·rfl
 ·have:=h.1;omega
theorem cZ (a:au):a.join au.zero=a:=by simp [au.join,au.zero]
theorem eH (h:a.iu):au.zero.join a=a:=by
 rcases h with rfl|h
 ·decide
 ·have:=h.1
  simp only [au.join]
  rw [ai af,ar (by rfl)]
theorem dC (a b:au):(a.join b).c=a.c+b.c:=by
 unfold au.join
 split
 ·omega
 ·split
  ·omega
  ·rfl
theorem rU (ha:a.Good) (hb:b.Good):(a.join b).Good:=by
 obtain⟨h0,h1,h2,h3,h4,h5,h6,h7,h8,h9,h10,h11,h12⟩:=ha
 obtain⟨g0,g1,g2,g3,g4,g5,g6,g7,g8,g9,g10,g11,g12⟩:=hb
 unfold au.join
 rw [ai af,ai af]
 have l1:(a.c+b.c)*min a.mi b.mi<=a.s+b.s:=by
  have e1:a.c*min a.mi b.mi<=a.c*a.mi:=Kv af af
  have e2:b.c*min a.mi b.mi<=b.c*b.mi:=Kv af af
  rw [Int.add_mul];omega
 have l2:a.s+b.s<=(a.c+b.c)*max a.ma b.ma:=by
  have e1:a.c*a.ma<=a.c*max a.ma b.ma:=Kv af af
  have e2:b.c*b.ma<=b.c*max a.ma b.ma:=Kv af af
  rw [Int.add_mul];omega
 unfold au.Good
 simp only
 refine⟨af,af,af,af,af,?_,?_,?_,?_,?_,?_,l1,l2⟩ <;> split <;> omega
theorem iy (ha:a.iu) (hb:b.iu):(a.join b).iu:=by
 rcases hb with rfl|hb
 ·rw [cZ];exact ha
 ·rcases ha with rfl|ha
  ·rw [eH (.inr hb)];exact .inr hb
  ·exact .inr (rU ha hb)
theorem join_eq (ha:a.c≠0) (hb:b.c≠0):a.join b=⟨a.c+b.c,a.s+b.s,min a.mi b.mi,max a.ma b.ma,if a.t<b.t\/(a.t=b.t/\a.l<b.l)then b.t else a.t,if a.t<b.t\/(a.t=b.t/\a.l<b.l)then b.l else a.l⟩:=by
 unfold au.join;rw [ai hb,ai ha]
theorem C7 (h1:a.c=b.c) (h2:a.s=b.s) (h3:a.mi=b.mi) (h4:a.ma=b.ma) (h5:a.t=b.t) (h6:a.l=b.l):a=b:=by
 cases a;cases b;simp_all
theorem join_comm (ha:a.iu) (hb:b.iu):a.join b=b.join a:=by
 rcases hb with rfl|hb
 ·rw [cZ,eH ha]
 ·rcases ha with rfl|ha
  ·rw [cZ,eH (.inr hb)]
  ·have:=ha.1;have:=hb.1
   rw [join_eq af af,join_eq af af]
   refine C7 ?_ ?_ ?_ ?_ ?_ ?_ <;> simp only
   ·omega
   ·omega
   ·omega
   ·omega
   ·split <;> split <;> omega
   ·split <;> split <;> omega
theorem join_assoc {c:au} (ha:a.iu) (hb:b.iu) (hc:c.iu):(a.join b).join c=a.join (b.join c):=by
 rcases hc with rfl|hc
 ·rw [cZ,cZ]
 ·rcases hb with rfl|hb
  ·rw [cZ,eH (.inr hc)]
  ·rcases ha with rfl|ha
   ·rw [eH (.inr hb),eH (.inr (rU hb hc))]
   ·have:=ha.1;have:=hb.1;have:=hc.1
    have e1:(a.join b).c≠0:=by rw [dC];omega
    have e2:(b.join c).c≠0:=by rw [dC];omega
    have f1:a.join b=⟨a.c+b.c,a.s+b.s,min a.mi b.mi,max a.ma b.ma,if a.t<b.t\/(a.t=b.t/\a.l<b.l)then b.t else a.t,if a.t<b.t\/(a.t=b.t/\a.l<b.l)then b.l else a.l⟩:=by
     unfold au.join;rw [ai af,ai af]
    have f2:b.join c=⟨b.c+c.c,b.s+c.s,min b.mi c.mi,max b.ma c.ma,if b.t<c.t\/(b.t=c.t/\b.l<c.l)then c.t else b.t,if b.t<c.t\/(b.t=c.t/\b.l<c.l)then c.l else b.l⟩:=by
     unfold au.join;rw [ai af,ai af]
    have g1:∀x:au,x.c≠0->x.join c=⟨x.c+c.c,x.s+c.s,min x.mi c.mi,max x.ma c.ma,if x.t<c.t\/(x.t=c.t/\x.l<c.l)then c.t else x.t,if x.t<c.t\/(x.t=c.t/\x.l<c.l)then c.l else x.l⟩:=fun x hx=>by
     unfold au.join;rw [ai af,ai hx]
    have g2:∀x:au,x.c≠0->a.join x=⟨a.c+x.c,a.s+x.s,min a.mi x.mi,max a.ma x.ma,if a.t<x.t\/(a.t=x.t/\a.l<x.l)then x.t else a.t,if a.t<x.t\/(a.t=x.t/\a.l<x.l)then x.l else a.l⟩:=fun x hx=>by
     unfold au.join;rw [ai hx,ai af]
    rw [g1 _ e1,g2 _ e2,f1,f2]
    simp only
    refine C7 ?_ ?_ ?_ ?_ ?_ ?_ <;> simp only
    ·omega
    ·omega
    ·omega
    ·omega
    ·by_cases p:a.t<b.t\/(a.t=b.t/\a.l<b.l) <;> by_cases q:b.t<c.t\/(b.t=c.t/\b.l<c.l) <;> simp only [p,q,if_true,if_false] <;> split <;> (try split) <;> omega
    ·by_cases p:a.t<b.t\/(a.t=b.t/\a.l<b.l) <;> by_cases q:b.t<c.t\/(b.t=c.t/\b.l<c.l) <;> simp only [p,q,if_true,if_false] <;> split <;> (try split) <;> omega
theorem iP (ha:aj a=0) (hb:aj b=0):bG a b=if a.c+b.c<=1073741824 then(a.join b,0) else(au.zero,1):=by
 obtain⟨fa,ca⟩:=(fk a).1 ha
 obtain⟨fb,cb⟩:=(fk b).1 hb
 have pa:=fa.pos
 have pb:=fb.pos
 unfold bG
 rw [ai (by simp [ha]),ai (by simp [hb])]
 by_cases h0:a.c=0\/b.c=0
 ·rw [ar h0,ar af]
 ·rw [ai h0]
  by_cases h1:a.c+b.c<=1073741824
  ·rw [ar h1]
   have hg:=rU (fa.good af) (fb.good af)
   have hc:=dC a b
   have hs:=qX hg af
   have es:(a.join b).s=a.s+b.s:=by unfold au.join;rw [ai af,ai af]
   rw [es]at hs
   rw [ai]
   simp [within]
   omega
  ·rw [ai h1,ar (.inl af)]
theorem o8 (ha:aj a=0) (hb:aj b=0) (hc:a.c+b.c<=1073741824):bG a b=(a.join b,0)/\aj (a.join b)=0:=by
 obtain⟨fa,ca⟩:=(fk a).1 ha
 obtain⟨fb,cb⟩:=(fk b).1 hb
 refine⟨by rw [iP ha hb,ar hc],(fk _).2 ⟨iy fa fb,by rw [dC a b];exact hc⟩⟩
end
section
variable {e x:aA} {k:Int} {l a b m:List aA}
def ir (l:List aA):Prop:=∀e∈l,e.is.iu
def aT (l:List aA):Prop:=∀e∈l,e.is.Good
def Checked (l:List aA):Prop:=∀e∈l,e.is.c≠0/\aj e.is=0
def aV (l:List aA):Prop:=l.Pairwise fun a b=>a.key<b.key
theorem aT.dm (h:aT l):ir l:=fun e he=> .inr (h e he)
theorem Checked.bJ (h:Checked l):aT l:=fun e he=>(cj (h e he).2 (h e he).1).1
theorem ir.cons (h:ir (e::l)):e.is.iu/\ir l:=⟨h e bq,fun x hx=>h x (by simp [hx])⟩
theorem aT.cons (h:aT (e::l)):e.is.Good/\aT l:=⟨h e bq,fun x hx=>h x (by simp [hx])⟩
def look:List aA->Int->au
 |[],_=>au.zero
 |e::l,k=>if e.key=k then e.is.join (look l k)else look l k
theorem cY (h:ir l) (k:Int):(look l k).iu:=by
 induction l with
 |nil=>exact rZ
 |cons e l ih=>
  have:=h.cons
  unfold look
  split
  ·exact iy this.1 (ih this.2)
  ·exact ih this.2
theorem l8 (ha:ir a) (hb:ir b) (k:Int):look (a++b) k=(look a k).join (look b k):=by
 induction a with
 |nil=>simp only [List.nil_append,look];rw [eH (cY hb k)]
 |cons e l ih=>
  have:=ha.cons
  simp only [List.cons_append,look]
  split
  ·rw [ih this.2,join_assoc this.1 (cY this.2 k) (cY hb k)]
  ·exact ih this.2
theorem iw (h:∀e∈l,e.key≠k):look l k=au.zero:=by
 induction l with
 |nil=>rfl
 |cons e l ih=>
  unfold look
  rw [ai (h e bq)]
  exact ih fun x hx=>h x (by simp [hx])
theorem o9 (h:a.Perm b) (ha:ir a) (k:Int):look a k=look b k:=by
 induction h with
 |nil=>rfl
 |cons x _ ih=>simp only [look];rw [ih ha.cons.2]
 |swap x y l=>
  have h1:=ha.cons
  have h2:=h1.2.cons
  simp only [look]
  split <;> split
  ·rw [<-join_assoc h1.1 h2.1 (cY h2.2 k),<-join_assoc h2.1 h1.1 (cY h2.2 k),join_comm h1.1 h2.1]
  ·rfl
  ·rfl
  ·rfl
 |trans p _ ih1 ih2=>
  rw [ih1 ha,ih2 fun e he=>ha e (p.mem_iff.2 he)]
theorem vS (h:aT l) (hk:∃e∈l,e.key=k):(look l k).Good:=by
 obtain⟨e,he,hk⟩:=hk
 have hf:=cY h.dm k
 refine hf.good ?_
 induction l with
 |nil=>cases he
 |cons x l ih=>
  have hc:=h.cons
  have hf2:=(cY hc.2.dm k)
  have p1:=hf2.pos
  unfold look
  by_cases hx:x.key=k
  ·rw [ar hx,dC];have:=hc.1.1;omega
  ·rw [ai hx]
   rcases fc.1 he with rfl|he
   ·exact absurd hk hx
   ·exact ih hc.2 he hf2
theorem fY (h:aV l) (he:e∈l):look l e.key=e.is:=by
 induction l with
 |nil=>cases he
 |cons x l ih=>
  have hp:=rz.1 h
  unfold look
  rcases fc.1 he with rfl|he
  ·rw [ar rfl,iw (fun y hy=>by have:=hp.1 y hy;omega),cZ]
  ·rw [ai (by have:=hp.1 e he;omega)];exact ih hp.2 he
theorem nj:∀{a b:List aA},aV a->aV b->aT a->aT b->(∀k,look a k=look b k)->a=b
 |[],[],_,_,_,_,_=>rfl
 |[],e::l,_,hb,_,gb,h=>by
  have:=vS gb (k:=e.key) ⟨e,bq,rfl⟩
  rw [<-h e.key]at this
  exact absurd this.1 (by simp [look,au.zero])
 |e::l,[],ha,_,ga,_,h=>by
  have:=vS ga (k:=e.key) ⟨e,bq,rfl⟩
  rw [h e.key]at this
  exact absurd this.1 (by simp [look,au.zero])
 |e::l,f::m,ha,hb,ga,gb,h=>by
  have pa:=rz.1 ha
  have pb:=rz.1 hb
  have mem:∀{x:aA} {c d:List aA},x∈c->aT c->(∀k,look c k=look d k)->∃y∈d,y.key=x.key:=by
   intro x c d hx gc hcd
   by_cases hd:∃y∈d,y.key=x.key
   ·exact hd
   ·have e1:look d x.key=au.zero:=iw fun y hy hk=>hd ⟨y,hy,hk⟩
    have e2:=vS gc (k:=x.key) ⟨x,hx,rfl⟩
    rw [hcd,e1]at e2
    exact absurd e2.1 aW
  have hk:e.key=f.key:=by
   obtain⟨y,hy,e1⟩:=mem (x:=e) bq ga h
   obtain⟨z,hz,e2⟩:=mem (x:=f) bq gb fun k=>(h k).symm
   rcases fc.1 hy with rfl|hy
   ·exact e1.symm
   ·rcases fc.1 hz with rfl|hz
    ·exact e2
    ·have:=pb.1 y hy;have:=pa.1 z hz;omega
  have he:e.is=f.is:=by
   have e1:=fY ha (e:=e) bq
   have e2:=fY hb (e:=f) bq
   rw [h e.key,hk,e2]at e1
   exact e1.symm
  have Q8:e=f:=by cases e;cases f;simp_all
  subst Q8
  congr 1
  refine nj pa.2 pb.2 ga.cons.2 gb.cons.2 fun k=>?_
  by_cases hk':e.key=k
  ·rw [iw (fun y hy=>by have:=pa.1 y hy;omega),iw (fun y hy=>by have:=pb.1 y hy;omega)]
  ·have:=h k
   simpa [look,hk'] using this
def ins:List aA->aA->List aA
 |[],x=>[x]
 |e::l,x=>if e.key<x.key then e::ins l x else if e.key=x.key then⟨x.key,e.is.join x.is⟩::l else x::e::l
def jG:List aA->aA->Option (List aA)
 |[],x=>some [x]
 |e::l,x=>if e.key<x.key then(jG l x).map (e::·)else if e.key=x.key then(if e.is.c+x.is.c<=1073741824 then some (⟨x.key,e.is.join x.is⟩::l)else none)else some (x::e::l)
theorem qU {y:aA} (h:y∈ins l x):y.key=x.key\/∃e∈l,e.key=y.key:=by
 induction l with
 |nil=>simp [ins]at h;exact .inl (by rw [h])
 |cons e l ih=>
  unfold ins at h
  split at h
  ·rcases fc.1 h with rfl|h
   ·exact .inr ⟨y,bq,rfl⟩
   ·rcases ih h with h|⟨z,hz,hk⟩
    ·exact .inl h
    ·exact .inr ⟨z,by simp [hz],hk⟩
  ·split at h
   ·rcases fc.1 h with rfl|h
    ·exact .inl rfl
    ·exact .inr ⟨y,by simp [h],rfl⟩
   ·rcases fc.1 h with rfl|h
    ·exact .inl rfl
    ·exact .inr ⟨y,h,rfl⟩
theorem jF (h:aV l):aV (ins l x):=by
 induction l with
 |nil=>simp [ins,aV]
 |cons e l ih=>
  have hp:=rz.1 h
  unfold ins
  split
  ·refine rz.2 ⟨fun y hy=>?_,ih hp.2⟩
   rcases qU hy with h|⟨z,hz,hk⟩
   ·omega
   ·have:=hp.1 z hz;omega
  ·split
   ·exact rz.2 ⟨fun y hy=>by have:=hp.1 y hy;simp only;omega,hp.2⟩
   ·refine rz.2 ⟨fun y hy=>?_,h⟩
    rcases fc.1 hy with rfl|hy
    ·omega
    ·have:=hp.1 y hy;omega
theorem jc (h:aT l) (hx:x.is.Good):aT (ins l x):=by
 induction l with
 |nil=>intro e he;simp [ins]at he;rw [he];exact hx
 |cons e l ih=>
  have hc:=h.cons
  unfold ins
  split
  ·intro y hy
   rcases fc.1 hy with rfl|hy
   ·exact hc.1
   ·exact ih hc.2 y hy
  ·split
   ·intro y hy
    rcases fc.1 hy with rfl|hy
    ·exact rU hc.1 hx
    ·exact hc.2 y hy
   ·intro y hy
    rcases fc.1 hy with rfl|hy
    ·exact hx
    ·exact h y hy
theorem pc (h:ir l) (hx:x.is.iu) (k:Int):look (ins l x) k=if x.key=k then(look l k).join x.is else look l k:=by
 induction l with
 |nil=>
  simp only [ins,look]
  split
  ·rw [cZ,eH hx]
  ·rfl
 |cons e l ih=>
  have hc:=h.cons
  have hf:=cY hc.2 k
  unfold ins
  split
  ·unfold look
   rw [ih hc.2]
   by_cases h1:e.key=k
   ·rw [ar h1,ar h1,ai af,ai af]
   ·rw [ai h1,ai h1]
  ·split
   ·simp only [look]
    by_cases h1:x.key=k
    ·rw [ar h1,ar h1,ar af,join_assoc hc.1 hx hf,join_assoc hc.1 hf hx,join_comm hx hf]
    ·rw [ai h1,ai h1,ai af]
   ·simp only [look]
    by_cases h1:x.key=k
    ·rw [ar h1,ar h1,ai af,join_comm hx hf]
    ·rw [ai h1,ai h1]
theorem xW (h:aV l) (hx:x.is.c<=1073741824):jG l x=if (look l x.key).c+x.is.c<=1073741824 then some (ins l x)else none:=by
 induction l with
 |nil=>
  have:(look [] x.key).c+x.is.c<=1073741824:=by simpa [look,au.zero] using hx
  rw [ar this];rfl
 |cons e l ih=>
  have hp:=rz.1 h
  by_cases h1:e.key<x.key
  ·have e1:look (e::l) x.key=look l x.key:=by show (if e.key=x.key then _ else _)=_;rw [ai af]
   have e2:ins (e::l) x=e::ins l x:=by show (if e.key<x.key then _ else _)=_;rw [ar h1]
   have e3:jG (e::l) x=(jG l x).map (e::·):=by show (if e.key<x.key then _ else _)=_;rw [ar h1]
   rw [e1,e2,e3,ih hp.2]
   by_cases h2:(look l x.key).c+x.is.c<=1073741824
   ·rw [ar h2,ar h2];rfl
   ·rw [ai h2,ai h2];rfl
  ·have hl:look l x.key=au.zero:=iw fun y hy=>by have:=hp.1 y hy;omega
   by_cases h2:e.key=x.key
   ·have e1:look (e::l) x.key=e.is:=by show (if e.key=x.key then _ else _)=_;rw [ar h2,hl,cZ]
    have e2:ins (e::l) x=⟨x.key,e.is.join x.is⟩::l:=by show (if e.key<x.key then _ else if e.key=x.key then _ else _)=_;rw [ai h1,ar h2]
    have e3:jG (e::l) x=if e.is.c+x.is.c<=1073741824 then some (⟨x.key,e.is.join x.is⟩::l)else none:=by show (if e.key<x.key then _ else if e.key=x.key then _ else _)=_;rw [ai h1,ar h2]
    rw [e1,e2,e3]
   ·have e1:look (e::l) x.key=au.zero:=by show (if e.key=x.key then _ else _)=_;rw [ai h2,hl]
    have e2:ins (e::l) x=x::e::l:=by show (if e.key<x.key then _ else if e.key=x.key then _ else _)=_;rw [ai h1,ai h2]
    have e3:jG (e::l) x=some (x::e::l):=by show (if e.key<x.key then _ else if e.key=x.key then _ else _)=_;rw [ai h1,ai h2]
    rw [e1,e2,e3,ar (by simpa [au.zero] using hx)]
def jJ (l:List aA):List aA:=l.foldl ins []
def ft (l:List aA):Option (List aA):=l.foldlM jG []
def Small (l:List aA):Prop:=∀k,(look l k).c<=1073741824
theorem vY (hm:aV m/\aT m) (hl:aT l):aV (l.foldl ins m)/\aT (l.foldl ins m)/\∀k,look (l.foldl ins m) k=(look m k).join (look l k):=by
 induction l generalizing m with
 |nil=>exact⟨hm.1,hm.2,fun k=>by simp [look,cZ]⟩
 |cons x l ih=>
  have hc:=hl.cons
  obtain⟨a,b,c⟩:=ih ⟨jF hm.1,jc hm.2 hc.1⟩ hc.2
  refine⟨a,b,fun k=>?_⟩
  simp only [List.foldl_cons]
  rw [c,pc hm.2.dm (.inr hc.1)]
  simp only [look]
  by_cases h:x.key=k
  ·rw [ar h,ar h,join_assoc (cY hm.2.dm k) (.inr hc.1) (cY hc.2.dm k)]
  ·rw [ai h,ai h]
theorem cJ (hl:aT l):aV (jJ l):=(vY (m:=[]) ⟨List.Pairwise.nil,fun _ h=>by cases h⟩ hl).1
theorem dh (hl:aT l):aT (jJ l):=(vY (m:=[]) ⟨List.Pairwise.nil,fun _ h=>by cases h⟩ hl).2.1
theorem eG (hl:aT l) (k:Int):look (jJ l) k=look l k:=by
 have:=(vY (m:=[]) ⟨List.Pairwise.nil,fun _ h=>by cases h⟩ hl).2.2 k
 simp only [look]at this
 unfold jJ;rw [this,eH (cY hl.dm k)]
theorem NA (h:a.Perm b) (ha:aT a):jJ a=jJ b:=by
 have hb:aT b:=fun e he=>ha e (h.mem_iff.2 he)
 refine nj (cJ ha) (cJ hb) (dh ha) (dh hb) fun k=>?_
 rw [eG ha,eG hb,o9 h ha.dm]
theorem zM (hr:aV l) (hl:aT l):jJ l=l:=
 nj (cJ hl) hr (dh hl) hl fun k=>eG hl k
theorem Iy (ha:ir a) (hb:ir b) (k:Int):(look a k).c<=(look (a++b) k).c:=by
 rw [l8 ha hb,dC];have:=(cY hb k).pos;omega
theorem bn:aT (a++b)↔aT a/\aT b:=
 ⟨fun h=>⟨fun e he=>h e (by simp [he]),fun e he=>h e (by simp [he])⟩,fun h e he=>by rcases kI.1 he with he|he;exact h.1 e he;exact h.2 e he⟩
theorem Checked.cons (h:Checked (x::l)):(x.is.c≠0/\aj x.is=0)/\Checked l:=⟨h x bq,fun y hy=>h y (by simp [hy])⟩
theorem Checked.le (h:Checked l):∀e∈l,e.is.c<=1073741824:=fun e he=>(cj (h e he).2 (h e he).1).2
open Classical in
theorem Ef (hm:aV m) (gm:aT m) (hl:Checked l) (hs:Small m) :
  l.foldlM jG m=if Small (m++l)then some (l.foldl ins m)else none:=by
 induction l generalizing m with
 |nil=>rw [List.foldlM_nil,ar (by simpa using hs)];rfl
 |cons x l ih=>
  have hc:=hl.bJ.cons
  have e1:look (m++x::l)=look ((ins m x)++l):=by
   funext k
   rw [l8 gm.dm hl.bJ.dm,l8 (jc gm hc.1).dm hc.2.dm,pc gm.dm (.inr hc.1)]
   simp only [look]
   by_cases h:x.key=k
   ·rw [ar h,ar h,join_assoc (cY gm.dm k) (.inr hc.1) (cY hc.2.dm k)]
   ·rw [ai h,ai h]
  have e2:Small (m++x::l)↔Small ((ins m x)++l):=by unfold Small;rw [e1]
  have hle:∀k,(look (ins m x) k).c<=(look (m++x::l) k).c:=fun k=>by rw [e1];exact Iy (jc gm hc.1).dm hc.2.dm k
  have hlx:=pc gm.dm (.inr hc.1:x.is.iu)
  rw [List.foldlM_cons,xW hm (hl.le x bq)]
  by_cases h1:(look m x.key).c+x.is.c<=1073741824
  ·rw [ar h1]
   have hs':Small (ins m x):=fun k=>by
    rw [hlx]
    split
    ·rename_i h;subst h;rw [dC];exact h1
    ·exact hs k
   show List.foldlM jG (ins m x) l=_
   rw [ih (jF hm) (jc gm hc.1) hl.cons.2 hs']
   by_cases h2:Small (m++x::l)
   ·rw [ar (e2.1 h2),ar h2];rfl
   ·rw [ai (fun h=>h2 (e2.2 h)),ai h2]
  ·rw [ai h1,ai]
   ·rfl
   ·intro h
    have:=hle x.key
    rw [hlx,ar rfl,dC]at this
    have:=h x.key
    omega
open Classical in
theorem jA (hl:Checked l):ft l=if Small l then some (jJ l)else none:=by
 have:=Ef (m:=[]) List.Pairwise.nil (fun _ h=>by cases h) hl (fun k=>by simp [look,au.zero])
 simpa [ft,jJ] using this
theorem na (h:a.Perm b) (ha:ir a):Small a↔Small b:=by
 unfold Small;constructor <;> intro hs k
 ·rw [<-o9 h ha];exact hs k
 ·rw [o9 h ha];exact hs k
theorem Kr (h:a.Perm b) (ha:Checked a):ft a=ft b:=by
 have hb:Checked b:=fun e he=>ha e (h.mem_iff.2 he)
 rw [jA ha,jA hb,NA h ha.bJ]
 by_cases hs:Small a
 ·rw [ar hs,ar ((na h ha.bJ.dm).1 hs)]
 ·rw [ai hs,ai (fun h'=>hs ((na h ha.bJ.dm).2 h'))]
theorem xy (hl:aT l) (hs:Small l):Checked (jJ l):=fun e he=>by
 have hg:=dh hl e he
 refine⟨by have:=hg.1;omega,lA hg ?_⟩
 rw [<-fY (cJ hl) he,eG hl];exact hs _
theorem qV (hr:aV l) (hl:Checked l) (hx:x.is.Good) (hc:(look l x.key).c+x.is.c<=1073741824):Checked (ins l x):=fun e he=>by
 have hg:=jc hl.bJ hx e he
 refine⟨by have:=hg.1;omega,lA hg ?_⟩
 rw [<-fY (jF hr) he,pc hl.bJ.dm (.inr hx)]
 split
 ·rename_i h;rw [<-h,dC];exact hc
 ·rename_i h
  by_cases hm:∃y∈l,y.key=e.key
  ·obtain⟨y,hy,hk⟩:=hm
   rw [<-hk,fY hr hy];exact hl.le y hy
  ·rw [iw fun y hy hk=>hm ⟨y,hy,hk⟩];decide
end
section
variable {lo hi n:Int} {l S:List Int} {f h:Nat} {x:Nd} {t:Tr}
def dF (l:List aA) (lo hi:Int):Prop:=Checked l/\(∀e∈l,lo<=e.key/\e.key<hi)/\aV l
def Tr.dn (t:Tr) (n:Int):Option Nd:=if 0<=n then t.nodes[n.toNat]? else none
def mG (t:Tr) (n:Int) (x:Nd) (lo hi:Int):Prop:=x.keys=[]/\x.kids=[]/\x.buf=[]/\x.aF.length<=6/\(x.aF≠[]\/n=t.root)/\dF x.aF lo hi
def qw (x:Nd) (lo hi:Int):Prop:=x.aF=[]/\2<=x.kids.length/\x.kids.length<=4/\x.keys.length+1=x.kids.length/\x.buf.length<=8/\dF x.buf lo hi
def Nd.from (x:Nd) (lo:Int) (i:Nat):Int:=if i=0 then lo else x.keys.getD (i-1) 0
def Nd.upto (x:Nd) (hi:Int) (i:Nat):Int:=if i<x.keys.length then x.keys.getD i 0 else hi
open Classical in
def ct (go:Int->Int->Int->Option (List Int×Nat)) (x:Nd) (lo hi:Int):List Int->Nat->Option (List Int×Nat)
 |[],_=>some ([],0)
 |k::ks,i=>
  if x.from lo i<x.upto hi i/\lo<=x.from lo i/\x.upto hi i<=hi then
   match go k (x.from lo i) (x.upto hi i),ct go x lo hi ks (i+1) with
   |some (l,h),some (l',h')=>if h'=0\/h'=h then some (l++l',h)else none
   |_,_=>none
  else none
open Classical in
noncomputable def mK (t:Tr):Nat->Int->Int->Int->Option (List Int×Nat)
 |0,_,_,_=>none
 |f+1,n,lo,hi=>
  match t.dn n with
  |none=>none
  |some x=>
   if ¬lo<hi then none
   else if x.leaf=true then(if mG t n x lo hi then some ([n],1)else none)
   else if qw x lo hi then(ct (fun k a b=>mK t f k a b) x lo hi x.kids 0).map fun p=>(n::p.1,p.2+1)
   else none
open Classical in
def np {σ:Type} (go:Int->Int->Int->σ->Option σ) (x:Nd) (lo hi:Int):List Int->Nat->σ->Option σ
 |[],_,s=>some s
 |k::ks,i,s=>
  if x.from lo i<x.upto hi i/\lo<=x.from lo i/\x.upto hi i<=hi then
   match go k (x.from lo i) (x.upto hi i) s with
   |none=>none
   |some s'=>np go x lo hi ks (i+1) s'
  else none
open Classical in
noncomputable def dR (t:Tr):Nat->Int->Int->Int->List Int×Int->Option (List Int×Int)
 |0,_,_,_,_=>none
 |f+1,n,lo,hi,s=>
  match t.dn n with
  |none=>none
  |some x=>
   if n∈s.1 then none
   else if x.leaf=true then(if (s.2=0\/s.2=12-(f:Int))/\mG t n x lo hi then some (n::s.1,12-(f:Int))else none)
   else if qw x lo hi then np (fun k a b s=>dR t f k a b s) x lo hi x.kids 0 (n::s.1,s.2)
   else none
theorem qH {go:Int->Int->Int->Option (List Int×Nat)} (hgo:∀k a b l h,go k a b=some (l,h)->1<=h) :
  ∀{ks:List Int} {i:Nat} {l:List Int} {h:Nat},ct go x lo hi ks i=some (l,h)->ks=[]\/1<=h
 |[],_,_,_,_=> .inl rfl
 |k::ks,i,l,h,hv=>by
  unfold ct at hv
  split at hv
  ·split at hv
   ·rename_i l1 h1 l2 h2 e1 e2
    split at hv
    ·simp only [iE,jK]at hv
     exact .inr (hv.2▸hgo _ _ _ _ _ e1)
    ·cases hv
   ·cases hv
  ·cases hv
theorem xR (hv:mK t f n lo hi=some (l,h)):1<=h:=by
 cases f with
 |zero=>cases hv
 |succ f=>
  unfold mK at hv
  split at hv
  ·cases hv
  ·split at hv
   ·cases hv
   ·split at hv
    ·split at hv
     ·simp only [iE,jK]at hv;omega
     ·cases hv
    ·split at hv
     ·obtain⟨p,_,hp⟩:=Option.map_eq_some_iff.1 hv
      simp only [jK]at hp;omega
     ·cases hv
theorem K8 (hv:mK t f n lo hi=some (l,h)):lo<hi:=by
 cases f with
 |zero=>cases hv
 |succ f=>
  unfold mK at hv
  split at hv
  ·cases hv
  ·split at hv
   ·cases hv
   ·rename_i h;exact Classical.not_not.1 h
def apart (l S:List Int):Prop:=l.Nodup/\∀x∈l,x∉S
theorem mS {l':List Int}:apart (l++l') S↔apart l S/\apart l' (l.reverse++S):=by
 unfold apart
 rw [List.nodup_append]
 constructor
 ·rintro⟨⟨h1,h2,h3⟩,h4⟩
  refine⟨⟨h1,fun x hx=>h4 x (by simp [hx])⟩,h2,fun x hx hh=>?_⟩
  rcases kI.1 hh with hh|hh
  ·exact h3 x (by simpa using hh) x hx rfl
  ·exact h4 x (by simp [hx]) hh
 ·rintro⟨⟨h1,h2⟩,h3,h4⟩
  refine⟨⟨h1,h3,fun a ha b hb hab=>?_⟩,fun x hx=>?_⟩
  ·subst hab;exact h4 a hb (by simp [ha])
  ·rcases kI.1 hx with hx|hx
   ·exact h2 x hx
   ·exact fun hh=>h4 x hx (by simp [hh])
theorem Hl:apart (n::l) S↔n∉S/\apart l (n::S):=by
 have:=mS (l:=[n]) (l':=l) (S:=S)
 simp only [List.singleton_append,List.reverse_singleton]at this
 rw [this]
 simp [apart]
theorem Kt (S:List Int):apart [] S:=by simp [apart]
open Classical in
theorem JK {go:Int->Int->Int->List Int×Int->Option (List Int×Int)} {gv:Int->Int->Int->Option (List Int×Nat)} {d:Int} (hd:0<=d)
  (hpos:∀k a b l h,gv k a b=some (l,h)->1<=h)
  (hgo:∀k a b S D,a<b->go k a b (S,D)=match gv k a b with|none=>none|some (l,h)=>if apart l S/\(D=0\/D=d+h)then some (l.reverse++S,d+h)else none) :
  ∀(ks:List Int) (i:Nat) (S:List Int) (D:Int),np go x lo hi ks i (S,D)=match ct gv x lo hi ks i with
   |none=>none
   |some (l,h)=>if apart l S/\(h=0\/D=0\/D=d+h)then some (l.reverse++S,if h=0 then D else d+h)else none:=by
 intro ks
 induction ks with
 |nil=>intro i S D;simp [np,ct,Kt]
 |cons k ks ih=>
  intro i S D
  unfold np ct
  by_cases hc:x.from lo i<x.upto hi i/\lo<=x.from lo i/\x.upto hi i<=hi
  ·rw [ar hc,ar hc,hgo _ _ _ _ _ hc.1]
   cases hg:gv k (x.from lo i) (x.upto hi i) with
   |none=>rfl
   |some p=>
    obtain⟨l,h⟩:=p
    have hp:=hpos _ _ _ _ _ hg
    simp only
    by_cases h1:apart l S/\(D=0\/D=d+h)
    ·rw [ar h1]
     simp only
     rw [ih]
     cases hk:ct gv x lo hi ks (i+1) with
     |none=>rfl
     |some q=>
      obtain⟨l',h'⟩:=q
      simp only
      by_cases h2:h'=0\/h'=h
      ·rw [ar h2]
       simp only
       by_cases h3:apart l' (l.reverse++S)
       ·have c1:apart l' (l.reverse++S)/\(h'=0\/d+(h:Int)=0\/d+(h:Int)=d+h'):=⟨h3,af⟩
        have c2:apart (l++l') S/\(h=0\/D=0\/D=d+h):=⟨mS.2 ⟨h1.1,h3⟩,af⟩
        rw [ar c1,ar c2,List.reverse_append,jn]
        congr 2
        by_cases h0:h'=0
        ·rw [ar h0,ai af]
        ·rw [ai h0,ai af];omega
       ·rw [ai (fun h=>h3 h.1),ai (fun h=>h3 (mS.1 h.1).2)]
      ·rw [ai h2]
       have c1:¬(apart l' (l.reverse++S)/\(h'=0\/d+(h:Int)=0\/d+(h:Int)=d+h')):=fun h=>af
       rw [ai c1]
    ·rw [ai h1]
     cases hk:ct gv x lo hi ks (i+1) with
     |none=>rfl
     |some q=>
      obtain⟨l',h'⟩:=q
      simp only
      by_cases h2:h'=0\/h'=h
      ·rw [ar h2]
       have c2:¬(apart (l++l') S/\(h=0\/D=0\/D=d+h)):=fun hh=>h1 ⟨(mS.1 hh.1).1,af⟩
       show none=ite _ _ _
       rw [ai c2]
      ·rw [ai h2]
  ·rw [ai hc,ai hc]
open Classical in
theorem JE:∀(f:Nat) (n lo hi:Int) (S:List Int) (D:Int),f<=12->lo<hi->dR t f n lo hi (S,D)=match mK t f n lo hi with
   |none=>none
   |some (l,h)=>if apart l S/\(D=0\/D=12-f+h)then some (l.reverse++S,12-f+h)else none:=by
 intro f
 induction f with
 |zero=>intro n lo hi S D _ _;rfl
 |succ f ih=>
  intro n lo hi S D hf hlt
  unfold dR mK
  cases hx:t.dn n with
  |none=>rfl
  |some x=>
   simp only
   rw [ai (iF hlt)]
   by_cases hl:x.leaf=true
   ·rw [ar hl,ar hl]
    by_cases hok:mG t n x lo hi
    ·rw [ar hok]
     simp only [apart,List.nodup_cons,List.not_mem_nil,not_false_eq_true,List.nodup_nil,and_self,nB,forall_eq,true_and,hok,and_true]
     by_cases hn:n∈S
     ·rw [ar hn,ai (fun h=>h.1 hn)]
     ·rw [ai hn]
      by_cases hD:D=0\/D=12-(f:Int)
      ·rw [ar hD,ar ⟨hn,af⟩];simp;omega
      ·rw [ai hD,ai (fun h=>hD af)]
    ·rw [ai hok]
     simp only [hok,and_false,if_false]
     split <;> rfl
   ·rw [ai hl,ai hl]
    by_cases hok:qw x lo hi
    ·rw [ar hok,ar hok,JK (gv:=fun k a b=>mK t f k a b) (d:=12-f) af (fun k a b l h hv=>xR hv) (fun k a b S D hab=>ih k a b S D af hab)]
     cases hk:ct (fun k a b=>mK t f k a b) x lo hi x.kids 0 with
     |none=>simp
     |some q=>
      obtain⟨l,h⟩:=q
      have hp:1<=h:=by
       rcases qH (fun k a b l h hv=>xR hv) hk with h0|h0
       ·have:=hok.2.1;rw [h0]at this;simp at this
       ·exact h0
      simp only [Option.map_some,Hl,List.reverse_cons,jn,List.singleton_append]
      by_cases hn:n∈S
      ·rw [ar hn,ai (fun h=>h.1.1 hn)]
      ·rw [ai hn]
       by_cases ha:apart l (n::S)/\(D=0\/D=12-(f:Int)+h)
       ·have c1:apart l (n::S)/\(h=0\/D=0\/D=12-(f:Int)+h):=⟨ha.1, .inr ha.2⟩
        have c2:(n∉S/\apart l (n::S))/\(D=0\/D=12-((f+1:Nat):Int)+((h+1:Nat):Int)):=⟨⟨hn,ha.1⟩,af⟩
        rw [ar c1,ar c2,ai af]
        congr 2;omega
       ·have c1:¬(apart l (n::S)/\(h=0\/D=0\/D=12-(f:Int)+h)):=fun h'=>ha ⟨h'.1,af⟩
        have c2:¬((n∉S/\apart l (n::S))/\(D=0\/D=12-((f+1:Nat):Int)+((h+1:Nat):Int))):=fun h'=>ha ⟨h'.1.2,af⟩
        rw [ai c1,ai c2]
    ·rw [ai hok,ai hok]
     simp
def lL (t:Tr):Prop:=∃l h,mK t 12 t.root 0 1099511627776=some (l,h)/\l.Nodup/\l.length=t.nodes.length
open Classical in
noncomputable def ax (t:Tr):Int:=if 2000<t.nodes.length then 1 else if lL t then 0 else 7
theorem qI {go:Int->Int->Int->Option (List Int×Nat)} {x:Nd} {lo hi:Int} {P:Int->Prop} (hgo:∀k a b l h,go k a b=some (l,h)->∀y∈l,P y) :
  ∀{ks:List Int} {i:Nat} {l:List Int} {h:Nat},ct go x lo hi ks i=some (l,h)->∀y∈l,P y
 |[],_,l,_,hv=>by simp [ct]at hv;intro y hy;rw [hv.1]at hy;cases hy
 |k::ks,i,l,h,hv=>by
  unfold ct at hv
  split at hv
  ·split at hv
   ·rename_i l1 h1 l2 h2 e1 e2
    split at hv
    ·simp only [iE,jK]at hv
     rw [<-hv.1]
     intro y hy
     rcases kI.1 hy with hy|hy
     ·exact hgo _ _ _ _ _ e1 y hy
     ·exact qI hgo e2 y hy
    ·cases hv
   ·cases hv
  ·cases hv
theorem Bt (h:t.dn n=some x):0<=n/\n<t.nodes.length:=by
 unfold Tr.dn at h
 split at h
 ·rename_i h0
  have:=(gH.1 h).1
  omega
 ·cases h
theorem O6:∀{f:Nat} {n lo hi:Int} {l:List Int} {h:Nat},mK t f n lo hi=some (l,h)->∀y∈l,0<=y/\y<t.nodes.length:=by
 intro f
 induction f with
 |zero=>intro n lo hi l h hv;cases hv
 |succ f ih=>
  intro n lo hi l h hv
  unfold mK at hv
  split at hv
  ·cases hv
  ·rename_i x hx
   have hr:=Bt hx
   split at hv
   ·cases hv
   ·split at hv
    ·split at hv
     ·simp only [iE,jK]at hv
      rw [<-hv.1];simp;exact hr
     ·cases hv
    ·split at hv
     ·obtain⟨p,hp,he⟩:=Option.map_eq_some_iff.1 hv
      simp only [jK]at he
      rw [<-he.1]
      intro y hy
      rcases fc.1 hy with rfl|hy
      ·exact hr
      ·exact qI (P:=fun y=>0<=y/\y<t.nodes.length) (fun k a b l h hv=>ih hv) hp y hy
     ·cases hv
theorem iZ {α:Type} [DecidableEq α]:∀{l m:List α},l.Nodup->(∀y∈l,y∈m)->l.length<=m.length
 |[],_,_,_=>bq
 |a::l,m,h,hs=>by
  have hn:=List.nodup_cons.1 h
  have ha:=hs a bq
  have:=iZ (l:=l) (m:=m.erase a) hn.2 (fun y hy=>(List.mem_erase_of_ne (by rintro rfl;exact hn.1 hy)).2 (hs y (by simp [hy])))
  rw [List.length_erase_of_mem ha]at this
  have:=List.length_pos_of_mem ha
  simp only [fR];omega
theorem yN {α:Type} [DecidableEq α] {l m:List α} (h:l.Nodup) (hs:∀y∈l,y∈m) (hl:m.length<=l.length):∀y∈m,y∈l:=fun y hy=>by
 by_cases CI:y∈l
 ·exact CI
 ·have:=iZ (l:=y::l) (m:=m) (List.nodup_cons.2 ⟨CI,h⟩) (fun z hz=>by rcases fc.1 hz with rfl|hz;exact hy;exact hs z hz)
  simp only [fR]at this;omega
def Ie (n:Nat):List Int:=(List.range n).map (fun i:Nat=>(i:Int))
theorem rI {n:Nat} {y:Int}:y∈Ie n↔0<=y/\y<(n:Int):=by
 unfold Ie
 rw [lI]
 constructor
 ·rintro⟨a,ha,rfl⟩;have:=List.mem_range.1 ha;omega
 ·intro h;exact⟨y.toNat,List.mem_range.2 af,af⟩
theorem pH (n:Nat):(Ie n).length=n:=by simp [Ie]
theorem AK (n:Nat):(Ie n).Nodup:=by
 unfold Ie
 exact List.pairwise_map.2 (List.Pairwise.imp (fun hab e=>hab (Int.ofNat.inj e)) List.nodup_range)
theorem Dk {n:Nat} (h:l.Nodup) (hr:∀y∈l,0<=y/\y<(n:Int)):l.length<=n:=by
 have:=iZ (m:=Ie n) h (fun y hy=>rI.2 (hr y hy))
 rwa [pH]at this
theorem vQ {n:Nat} (h:l.Nodup) (hr:∀y∈l,0<=y/\y<(n:Int)):l.length=n↔∀i:Nat,i<n->(i:Int)∈l:=by
 constructor
 ·intro hl i hi
  exact yN (m:=Ie n) h (fun y hy=>rI.2 (hr y hy)) (by rw [pH,hl];exact kK _) i (rI.2 af)
 ·intro hall
  have h1:=Dk h hr
  have h2:=iZ (l:=Ie n) (m:=l) (AK n) (fun y hy=>by
   have:=rI.1 hy
   have h3:=hall y.toNat af
   have h4:((y.toNat:Nat):Int)=y:=af
   rwa [h4]at h3)
  rw [pH]at h2
  omega
noncomputable def tG (t:Tr):Int:=if 2000<t.nodes.length then 1 else match dR t 12 t.root 0 1099511627776 ([],0) with|none=>7|some (S,_)=>if S.length=t.nodes.length then 0 else 7
theorem EO:apart l []↔l.Nodup:=by simp [apart]
open Classical in
theorem Kk (t:Tr):tG t=ax t:=by
 unfold tG ax
 split
 ·rfl
 ·rw [JE 12 _ _ _ _ _ af af]
  cases hv:mK t 12 t.root 0 1099511627776 with
  |none=>
   rw [ai]
   rintro⟨l,h,e,_⟩
   rw [hv]at e;cases e
  |some p=>
   obtain⟨l,h⟩:=p
   simp only [EO]
   by_cases hn:l.Nodup
   ·rw [ar ⟨hn, .inl trivial⟩]
    simp only [nM,List.length_reverse]
    by_cases hl:l.length=t.nodes.length
    ·rw [ar hl,ar ⟨l,h,hv,hn,hl⟩]
    ·rw [ai hl,ai]
     rintro⟨l',h',e,_,hl'⟩
     rw [hv]at e;simp only [iE,jK]at e
     rw [e.1]at hl;exact hl hl'
   ·rw [ai (fun h=>hn h.1),ai]
    rintro⟨l',h',e,hn',_⟩
    rw [hv]at e;simp only [iE,jK]at e
    rw [e.1]at hn;exact hn hn'
end
section
variable {lo hi a b:Int} {l:List aA} {t:Tr}
def aU (lo hi:Int) (e:aA):Bool:=decide (lo<=e.key) && decide (e.key<hi)
def Tr.all (t:Tr):List aA:=t.nodes.flatMap fun x=>x.aF++x.buf
def kH (t:Tr) (lo hi:Int):Option (List aA):=ft (t.all.filter (aU lo hi))
def ij (x:Nd) (lo hi:Int) (i:Nat):Bool:=(decide (i=0) || decide (x.keys.getD (i-1) 0<hi)) && (decide (i=x.keys.length) || decide (lo<x.keys.getD i 0))
def gD (go:Int->List aA) (x:Nd) (lo hi:Int):List Int->Nat->List aA
 |[],_=>[]
 |k::ks,i=>(if ij x lo hi i then go k else [])++gD go x lo hi ks (i+1)
def gy (t:Tr) (lo hi:Int):Nat->Int->List aA
 |0,_=>[]
 |f+1,n=>
  match t.dn n with
  |none=>[]
  |some x=>(x.buf++x.aF).filter (aU lo hi)++gD (fun k=>gy t lo hi f k) x lo hi x.kids 0
def Tr.of (t:Tr) (n:Int):List aA:=match t.dn n with|none=>[]|some x=>x.aF++x.buf
theorem G0 (h:∀e∈l,e.key<lo\/hi<=e.key):l.filter (aU lo hi)=[]:=by
 rw [List.filter_eq_nil_iff]
 intro e he
 have:=h e he
 simp [aU];omega
theorem Gh {x:Nd} {go:Int->List aA} {gv:Int->Int->Int->Option (List Int×Nat)}
  (hgo:∀k a b l h,gv k a b=some (l,h)->(go k).Perm ((l.flatMap t.of).filter (aU lo hi))/\∀e∈l.flatMap t.of,a<=e.key/\e.key<b) :
  ∀(ks:List Int) (i:Nat) (l:List Int) (h:Nat),i+ks.length<=x.keys.length+1->ct gv x a b ks i=some (l,h) ->
   (gD go x lo hi ks i).Perm ((l.flatMap t.of).filter (aU lo hi))/\∀e∈l.flatMap t.of,a<=e.key/\e.key<b:=by
 intro ks
 induction ks with
 |nil=>intro i l h _ hv;simp [ct]at hv;simp [gD,hv.1]
 |cons k ks ih=>
  intro i l h hi0 hv
  simp only [fR]at hi0
  unfold ct at hv
  split at hv
  ·rename_i hc
   split at hv
   ·rename_i l1 h1 l2 h2 e1 e2
    split at hv
    ·simp only [iE,jK]at hv
     obtain⟨rfl,-⟩:=hv
     obtain⟨p1,q1⟩:=hgo _ _ _ _ _ e1
     obtain⟨p2,q2⟩:=ih (i+1) l2 h2 af e2
     rw [tM,sw]
     refine⟨?_,fun e he=>?_⟩
     ·unfold gD
      refine List.Perm.append ?_ p2
      by_cases hg:ij x lo hi i=true
      ·rw [ar hg];exact p1
      ·rw [ai hg]
       rw [G0]
       intro e he
       have hr:=q1 e he
       simp only [ij,Bool.and_eq_true,Bool.or_eq_true,sk]at hg
       by_cases g1:i=0\/x.keys.getD (i-1) 0<hi
       ·left
        have g2:¬(i=x.keys.length\/lo<x.keys.getD i 0):=fun h=>hg ⟨g1,h⟩
        simp only [Nd.upto]at hr
        rw [ar af]at hr;omega
       ·right
        simp only [Nd.from]at hr
        rw [ai af]at hr;omega
     ·rcases kI.1 he with he|he
      ·have:=q1 e he;omega
      ·exact q2 e he
    ·cases hv
   ·cases hv
  ·cases hv
theorem pG:∀(f:Nat) (n a b:Int) (l:List Int) (h:Nat),mK t f n a b=some (l,h) ->
  (gy t lo hi f n).Perm ((l.flatMap t.of).filter (aU lo hi))/\(∀e∈l.flatMap t.of,a<=e.key/\e.key<b):=by
 intro f
 induction f with
 |zero=>intro n a b l h hv;cases hv
 |succ f ih=>
  intro n a b l h hv
  unfold mK at hv
  unfold gy
  cases hx:t.dn n with
  |none=>rw [hx]at hv;cases hv
  |some x=>
   rw [hx]at hv
   simp only at hv ⊢
   have hof:t.of n=x.aF++x.buf:=by unfold Tr.of;rw [hx]
   split at hv
   ·cases hv
   ·split at hv
    ·split at hv
     ·rename_i hok
      simp only [iE,jK]at hv
      obtain⟨rfl,-⟩:=hv
      obtain⟨k1,k2,k3,k4,k5,k6⟩:=hok
      simp only [gG,List.flatMap_nil,nM,hof,k2,k3,gD,List.nil_append]
      exact⟨List.Perm.refl _,k6.2.1⟩
     ·cases hv
    ·split at hv
     ·rename_i hok
      obtain⟨p,hp,he⟩:=Option.map_eq_some_iff.1 hv
      simp only [jK]at he
      obtain⟨rfl,-⟩:=he
      obtain⟨k1,k2,k3,k4,k5,k6⟩:=hok
      obtain⟨q1,q2⟩:=Gh (t:=t) (lo:=lo) (hi:=hi) (go:=fun k=>gy t lo hi f k) (fun k a b l h hv=>ih k a b l h hv) x.kids 0 p.1 p.2 af hp
      simp only [gG,hof,k1,List.nil_append,nM,sw]
      refine⟨List.Perm.append_left _ q1,fun e he=>?_⟩
      rcases kI.1 he with he|he
      ·exact k6.2.1 e he
      ·exact q2 e he
     ·cases hv
theorem zx {α:Type} (f:Nd->List α) (g:Nat->List α):∀(xs:List Nd) (s:Nat),(∀j x,xs[j]?=some x->g (s+j)=f x)->(List.range' s xs.length).flatMap g=xs.flatMap f
 |[],s,_=>rfl
 |x::xs,s,h=>by
  rw [fR,List.range'_succ,gG,gG,zx f g xs (s+1) (fun j y hy=>by rw [show s+1+j=s+(j+1)from by omega];exact h (j+1) y (by simpa using hy))]
  rw [show g s=f x from by simpa using h 0 x rfl]
theorem Eh (t:Tr):(Ie t.nodes.length).flatMap t.of=t.all:=by
 unfold Ie Tr.all
 rw [List.flatMap_map,List.range_eq_range']
 refine zx _ _ t.nodes 0 fun j x hx=>?_
 simp [Tr.of,Tr.dn,hx]
theorem yL {l:List Int} {n:Nat} (h:l.Nodup) (hr:∀y∈l,0<=y/\y<(n:Int)) (hl:l.length=n):l.Perm (Ie n):=by
 refine(List.perm_ext_iff_of_nodup h (AK n)).2 fun a=>⟨fun ha=>rI.2 (hr a ha),fun ha=>?_⟩
 exact yN (m:=Ie n) h (fun y hy=>rI.2 (hr y hy)) (by rw [pH,hl];exact kK _) a ha
theorem lq {l:List Int} {h f:Nat} (hv:mK t f t.root a b=some (l,h)) (hn:l.Nodup) (hl:l.length=t.nodes.length):(l.flatMap t.of).Perm t.all:=by
 rw [<-Eh]
 exact List.Perm.flatMap_right _ (yL hn (O6 hv) hl)
theorem ql {t:Tr} {x:Nd} {a b:Int} {gv:Int->Int->Int->Option (List Int×Nat)} (hgo:∀k a b l h,gv k a b=some (l,h)->Checked (l.flatMap t.of)) :
  ∀(ks:List Int) (i:Nat) (l:List Int) (h:Nat),ct gv x a b ks i=some (l,h)->Checked (l.flatMap t.of)
 |[],_,l,_,hv=>by simp [ct]at hv;rw [hv.1];intro e he;simp at he
 |k::ks,i,l,h,hv=>by
  unfold ct at hv
  split at hv
  ·split at hv
   ·rename_i l1 h1 l2 h2 e1 e2
    split at hv
    ·simp only [iE,jK]at hv
     rw [<-hv.1,tM]
     intro e he
     rcases kI.1 he with he|he
     ·exact hgo _ _ _ _ _ e1 e he
     ·exact ql hgo ks (i+1) l2 h2 e2 e he
    ·cases hv
   ·cases hv
  ·cases hv
theorem CQ:∀(f:Nat) (n a b:Int) (l:List Int) (h:Nat),mK t f n a b=some (l,h)->Checked (l.flatMap t.of):=by
 intro f
 induction f with
 |zero=>intro n a b l h hv;cases hv
 |succ f ih=>
  intro n a b l h hv
  unfold mK at hv
  cases hx:t.dn n with
  |none=>rw [hx]at hv;cases hv
  |some x=>
   rw [hx]at hv
   simp only at hv
   have hof:t.of n=x.aF++x.buf:=by unfold Tr.of;rw [hx]
   split at hv
   ·cases hv
   ·split at hv
    ·split at hv
     ·rename_i hok
      simp only [iE,jK]at hv
      obtain⟨rfl,-⟩:=hv
      obtain⟨k1,k2,k3,k4,k5,k6⟩:=hok
      simp only [gG,List.flatMap_nil,nM,hof,k3]
      exact k6.1
     ·cases hv
    ·split at hv
     ·rename_i hok
      obtain⟨p,hp,he⟩:=Option.map_eq_some_iff.1 hv
      simp only [jK]at he
      obtain⟨rfl,-⟩:=he
      obtain⟨k1,k2,k3,k4,k5,k6⟩:=hok
      simp only [gG,hof,k1,List.nil_append]
      intro e he
      rcases kI.1 he with he|he
      ·exact k6.1 e he
      ·exact ql (fun k a b l h hv=>ih k a b l h hv) x.kids 0 p.1 p.2 hp e he
     ·cases hv
theorem cz (hv:lL t):Checked t.all:=by
 obtain⟨l,h,e,hn,hl⟩:=hv
 intro x hx
 exact CQ _ _ _ _ _ _ e x ((lq e hn hl).mem_iff.2 hx)
theorem lU (hv:lL t):∀e∈t.all,0<=e.key/\e.key<1099511627776:=by
 obtain⟨l,h,e,hn,hl⟩:=hv
 intro x hx
 exact(pG (lo:=0) (hi:=0) _ _ _ _ _ _ e).2 x ((lq e hn hl).mem_iff.2 hx)
theorem iU {p:aA->Bool} (h:Checked l):Checked (l.filter p):=fun e he=>h e (js.1 he).1
theorem all_eq (hv:lL t) (lo hi:Int):ft (gy t lo hi 12 t.root)=kH t lo hi:=by
 have hc:=cz hv
 obtain⟨l,h,e,hn,hl⟩:=hv
 have hp:=(pG (lo:=lo) (hi:=hi) _ _ _ _ _ _ e).1
 have hq:=(lq e hn hl).filter (aU lo hi)
 exact Kr (hp.trans hq) (fun x hx=>iU hc x ((hp.trans hq).mem_iff.1 hx))
end
section
variable {key a b n:Int} {l:List aA} {f h:Nat} {x:Nd} {t:Tr}
def aX (keys:List Int) (key:Int):Nat:=(keys.takeWhile fun k=>decide (k<=key)).length
theorem qR (keys:List Int) (key:Int):aX keys key<=keys.length:=by
 unfold aX
 have:=List.takeWhile_prefix (fun k=>decide (k<=key)) (l:=keys)
 exact this.length_le
theorem DB {keys:List Int} {j:Nat} (h:j<aX keys key):keys.getD j 0<=key:=by
 unfold aX at h
 have hp:=List.takeWhile_prefix (fun k=>decide (k<=key)) (l:=keys)
 have hl:j<keys.length:=mE h hp.length_le
 have e:(keys.takeWhile fun k=>decide (k<=key))[j]=keys[j]:=hp.getElem h
 have hm:(keys.takeWhile fun k=>decide (k<=key))[j]∈keys.takeWhile fun k=>decide (k<=key):=fO h
 have:=pA.1 (List.all_takeWhile (p:=fun k=>decide (k<=key)) (l:=keys)) _ hm
 simp only [sk]at this
 rw [List.getD_eq_getElem?_getD,oL hl,Option.getD_some,<-e];exact this
theorem DC {keys:List Int} (h:aX keys key<keys.length):key<keys.getD (aX keys key) 0:=by
 induction keys with
 |nil=>simp at h
 |cons k ks ih=>
  unfold aX at h ⊢
  by_cases hk:k<=key
  ·have e:((k::ks).takeWhile fun k=>decide (k<=key)).length=aX ks key+1:=by simp [aX,hk]
   rw [e]at h ⊢
   simp only [fR]at h
   simp only [List.getD_cons_succ]
   exact ih af
  ·have e:((k::ks).takeWhile fun k=>decide (k<=key)).length=0:=by simp [hk]
   rw [e]
   simp;omega
def oV (t:Tr) (key:Int):Nat->Int->List aA
 |0,_=>[]
 |f+1,n=>
  match t.dn n with
  |none=>[]
  |some x=>if x.leaf=true then x.aF.filter (fun e=>decide (e.key=key))else x.buf.filter (fun e=>decide (e.key=key))++oV t key f (x.kids.getD (aX x.keys key) 0)
theorem pV (h:∀e∈l,e.key≠key):l.filter (fun e=>decide (e.key=key))=[]:=by
 rw [List.filter_eq_nil_iff];intro e he;simpa using h e he
theorem BC {gv:Int->Int->Int->Option (List Int×Nat)}
  (hgo:∀k a b l h,gv k a b=some (l,h)->∀e∈l.flatMap t.of,a<=e.key/\e.key<b) :
  ∀(ks:List Int) (i:Nat) (l:List Int) (h:Nat),i+ks.length=x.keys.length+1->ct gv x a b ks i=some (l,h) ->
   (i<=aX x.keys key->∃l' h',gv (ks.getD (aX x.keys key-i) 0) (x.from a (aX x.keys key)) (x.upto b (aX x.keys key))=some (l',h') /\
    (l.flatMap t.of).filter (fun e=>decide (e.key=key))=(l'.flatMap t.of).filter (fun e=>decide (e.key=key))) /\
   (aX x.keys key<i->(ks=[]\/key<x.from a i)->(l.flatMap t.of).filter (fun e=>decide (e.key=key))=[]):=by
 intro ks
 have hle:=qR x.keys key
 induction ks with
 |nil=>
  intro i l h hi hv
  simp [ct]at hv
  refine⟨fun h'=>by simp at hi;omega,fun _ _=>by rw [hv.1];rfl⟩
 |cons k ks ih=>
  intro i l h hi0 hv
  simp only [fR]at hi0
  unfold ct at hv
  split at hv
  ·rename_i hc
   split at hv
   ·rename_i l1 h1 l2 h2 e1 e2
    split at hv
    ·simp only [iE,jK]at hv
     obtain⟨rfl,-⟩:=hv
     have q1:=hgo _ _ _ _ _ e1
     obtain⟨p2,q2⟩:=ih (i+1) l2 h2 af e2
     rw [tM,sw]
     have hup:ks=[]\/x.from a (i+1)=x.upto b i:=by
      by_cases hk:ks=[]
      ·exact .inl hk
      ·right
       have:0<ks.length:=List.length_pos_iff.2 hk
       simp only [Nd.from,Nd.upto,Nat.add_sub_cancel]
       rw [ai af,ar af]
     refine⟨fun hi=>?_,fun hi hk=>?_⟩
     ·by_cases heq:i=aX x.keys key
      ·refine⟨l1,h1,by rw [<-heq];simpa using e1,?_⟩
       have hkey:ks=[]\/key<x.from a (i+1):=by
        rcases hup with h|h
        ·exact .inl h
        ·by_cases hks:ks=[]
         ·exact .inl hks
         ·right
          have:0<ks.length:=List.length_pos_iff.2 hks
          have:=DC (keys:=x.keys) (key:=key) af
          rw [h];simp only [Nd.upto];rw [ar af,heq];exact this
       rw [q2 af hkey,nM]
      ·have hlt:i<aX x.keys key:=af
       obtain⟨l',h',g1,g2⟩:=p2 af
       refine⟨l',h',?_,?_⟩
       ·rw [show aX x.keys key-i=(aX x.keys key-(i+1))+1 from af,List.getD_cons_succ];exact g1
       ·rw [g2,pV,List.nil_append]
        intro e he
        have hr:=q1 e he
        have:=DB (keys:=x.keys) (key:=key) hlt
        simp only [Nd.upto]at hr
        rw [ar af]at hr;omega
     ·have hka:key<x.from a i:=by rcases hk with h|h;cases h;exact h
      have hkn:ks=[]\/key<x.from a (i+1):=by
       rcases hup with h|h
       ·exact .inl h
       ·right;rw [h];omega
      rw [q2 af hkn,nM,pV]
      intro e he
      have hr:=q1 e he
      omega
    ·cases hv
   ·cases hv
  ·cases hv
theorem ll {l:List Int} (hv:mK t (f+1) n a b=some (l,h)) (hx:t.dn n=some x) :
  a<b/\((x.leaf=true/\mG t n x a b/\l=[n]/\h=1)\/(x.leaf=false/\qw x a b/\∃l' h',ct (fun k a b=>mK t f k a b) x a b x.kids 0=some (l',h')/\l=n::l'/\h=h'+1)):=by
 have hlt:=K8 hv
 refine⟨hlt,?_⟩
 unfold mK at hv
 rw [hx]at hv
 simp only at hv
 rw [ai (iF hlt)]at hv
 split at hv
 ·rename_i hl
  split at hv
  ·rename_i hok
   simp only [iE,jK]at hv
   exact .inl ⟨hl,hok,hv.1.symm,hv.2.symm⟩
  ·cases hv
 ·rename_i hl
  split at hv
  ·rename_i hok
   obtain⟨p,hp,he⟩:=Option.map_eq_some_iff.1 hv
   simp only [jK]at he
   exact .inr ⟨by simpa using hl,hok,p.1,p.2,hp,he.1.symm,he.2.symm⟩
  ·cases hv
theorem yt {l:List Int} (hv:mK t (f+1) n a b=some (l,h)):∃x,t.dn n=some x:=by
 unfold mK at hv
 split at hv
 ·cases hv
 ·exact⟨_,‹_›⟩
theorem Je {l:List Int} (hv:mK t f n a b=some (l,h)):∀e∈l.flatMap t.of,a<=e.key/\e.key<b:=
 (pG (lo:=0) (hi:=0) _ _ _ _ _ _ hv).2
theorem Ic {l:List Int} (hv:mK t (f+1) n a b=some (l,h)) (hx:t.dn n=some x) (hl:x.leaf=false) (ha:a<=key) (hb:key<b) :
  aX x.keys key<x.kids.length/\∃a' b' l' h',mK t f (x.kids.getD (aX x.keys key) 0) a' b'=some (l',h')/\a'<=key/\key<b' /\
   (l.flatMap t.of).filter (fun e=>decide (e.key=key))=x.buf.filter (fun e=>decide (e.key=key))++(l'.flatMap t.of).filter (fun e=>decide (e.key=key)):=by
 obtain⟨hlt,⟨h1,_⟩|⟨_,hok,l1,h1,hk,rfl,rfl⟩⟩:=ll hv hx
 ·rw [hl]at h1;cases h1
 ·obtain⟨k1,k2,k3,k4,k5,k6⟩:=hok
  have hle:=qR x.keys key
  obtain⟨l',h',g1,g2⟩:=(BC (t:=t) (key:=key) (fun k a b l h hv=>Je hv) x.kids 0 l1 h1 af hk).1 (iN _)
  refine⟨af,_,_,l',h',by simpa using g1,?_,?_,?_⟩
  ·unfold Nd.from
   split
   ·exact ha
   ·exact DB af
  ·unfold Nd.upto
   split
   ·rename_i h;exact DC h
   ·exact hb
  ·have hof:t.of n=x.aF++x.buf:=by unfold Tr.of;rw [hx]
   rw [gG,sw,hof,k1,List.nil_append,g2]
theorem LM:∀(f:Nat) (n a b:Int) (l:List Int) (h:Nat),mK t f n a b=some (l,h)->a<=key->key<b ->
  oV t key f n=(l.flatMap t.of).filter (fun e=>decide (e.key=key)):=by
 intro f
 induction f with
 |zero=>intro n a b l h hv;cases hv
 |succ f ih=>
  intro n a b l h hv ha hb
  obtain⟨x,hx⟩:=yt hv
  have hof:t.of n=x.aF++x.buf:=by unfold Tr.of;rw [hx]
  unfold oV
  rw [hx]
  simp only
  cases hl:x.leaf with
  |true=>
   obtain⟨_,⟨_,hok,rfl,_⟩|⟨h1,_⟩⟩:=ll hv hx
   ·rw [ar rfl];simp [hof,hok.2.2.1]
   ·rw [hl]at h1;cases h1
  |false=>
   rw [ai bq]
   obtain⟨_,a',b',l',h',g1,g2,g3,g4⟩:=Ic hv hx hl ha hb
   rw [g4,ih _ _ _ _ _ g1 g2 g3]
def sZ (r:au) (l:List aA):Option au:=l.foldlM (fun r e=>if r.c+e.is.c<=1073741824 then some (r.join e.is)else none) r
theorem Du:look (l.filter (fun e=>decide (e.key=key))) key=look l key:=by
 induction l with
 |nil=>rfl
 |cons e l ih=>
  by_cases h:e.key=key
  ·rw [tN (by simpa using h)]
   show (if e.key=key then _ else _)=(if e.key=key then _ else _)
   rw [ar h,ar h,ih]
  ·rw [sx (by simpa using h),ih]
   show _=(if e.key=key then _ else _)
   rw [ai h]
theorem Jr {r:au} (hk:∀e∈l,e.key=key) (hl:aT l) (hr:r.iu) (hc:r.c<=1073741824) :
  sZ r l=if r.c+(look l key).c<=1073741824 then some (r.join (look l key))else none:=by
 unfold sZ
 induction l generalizing r with
 |nil=>
  have h1:r.c+(look [] key).c<=1073741824:=by simpa [look,au.zero] using hc
  rw [List.foldlM_nil,ar h1]
  show some r=some (r.join au.zero)
  rw [cZ]
 |cons e l ih=>
  have hg:=hl.cons
  have hf:=cY hg.2.dm key
  have hp:=hf.pos
  have e1:look (e::l) key=e.is.join (look l key):=by show (if e.key=key then _ else _)=_;rw [ar (hk e bq)]
  rw [List.foldlM_cons,e1]
  by_cases h1:r.c+e.is.c<=1073741824
  ·rw [ar h1]
   show List.foldlM _ (r.join e.is) l=_
   rw [ih (fun x hx=>hk x (by simp [hx])) hg.2 (iy hr (.inr hg.1)) (by rw [dC];exact h1),dC,dC,join_assoc hr (.inr hg.1) hf,Int.add_assoc]
  ·rw [ai h1,dC,ai af];rfl
def GU (t:Tr) (key:Int):au×Int:=if (look t.all key).c<=1073741824 then(look t.all key,0) else(au.zero,1)
def GQ (t:Tr) (key:Int):au×Int:=match sZ au.zero (oV t key 12 t.root) with|some r=>(r,0)|none=>(au.zero,1)
def TN (t:Tr) (key:Int):au×Int:=match kH t key (key+1) with|none=>(au.zero,1)|some []=>(au.zero,0)|some (e::_)=>(e.is,0)
theorem IP (hv:lL t) (h0:0<=key) (h1:key<1099511627776):GQ t key=GU t key:=by
 have hc:=cz hv
 obtain⟨l,h,e,hn,hl⟩:=hv
 have hp:=lq e hn hl
 have hg:aT (l.flatMap t.of):=fun x hx=>hc.bJ x (hp.mem_iff.1 hx)
 unfold GQ GU
 rw [LM 12 _ _ _ _ _ e h0 h1,Jr (key:=key) (fun x hx=>by simpa using (js.1 hx).2) (fun x hx=>hg x (js.1 hx).1) rZ aW,Du,o9 hp hg.dm,eH (cY hc.bJ.dm _)]
 have:au.zero.c=0:=rfl
 rw [this,Int.zero_add]
 by_cases hs:(look t.all key).c<=1073741824
 ·rw [ar hs,ar hs]
 ·rw [ai hs,ai hs]
theorem DM (key:Int):aU key (key+1)=fun e=>decide (e.key=key):=by
 funext e
 simp only [aU]
 by_cases h:e.key=key
 ·simp [h];omega
 ·have:¬(key<=e.key/\e.key<key+1):=af
  simp only [h,decide_false]
  rw [<-Bool.decide_and,wF this]
theorem FL (hr:aV l) (hk:∀e∈l,e.key=key):l=[]\/∃e,l=[e]:=by
 match l with
 |[]=>exact .inl rfl
 |[e]=>exact .inr ⟨e,rfl⟩
 |e::f::l=>
  have:=(rz.1 hr).1 f bq
  have:=hk e bq;have:=hk f bq
  omega
theorem Qh (hv:lL t) (key:Int):TN t key=GU t key:=by
 have hc:=cz hv
 unfold TN GU kH
 rw [DM]
 obtain⟨m,hm⟩:=bQ (t.all.filter (fun e=>decide (e.key=key)))
 have hcm:Checked m:=by rw [hm];exact iU hc
 have hkm:∀e∈m,e.key=key:=fun e he=>by rw [hm]at he;simpa using (js.1 he).2
 have hlm:look m key=look t.all key:=by rw [hm,Du]
 have hbk:∀e∈jJ m,e.key=key:=fun e he=>by
  by_cases h:e.key=key
  ·exact h
  ·have h1:=fY (cJ hcm.bJ) he
   rw [eG hcm.bJ,iw (fun y hy hk=>h (by rw [<-hk];exact hkm y hy))]at h1
   have:=(dh hcm.bJ e he).1
   rw [<-h1]at this;exact absurd this aW
 rw [<-hm,jA hcm,<-hlm]
 by_cases hs:Small m
 ·rw [ar hs,ar (hs key)]
  rcases FL (cJ hcm.bJ) hbk with h|⟨e,h⟩
  ·rw [h,<-eG hcm.bJ,h];rfl
  ·rw [h]
   have h1:=fY (cJ hcm.bJ) (e:=e) (by rw [h];simp)
   rw [eG hcm.bJ,hbk e (by rw [h];simp)]at h1
   simp only [h1]
 ·rw [ai hs,ai]
  intro h
  refine hs fun k=>?_
  by_cases hk:k=key
  ·rw [hk];exact h
  ·rw [iw (fun e he=>by rw [hkm e he];exact fun h=>hk h.symm)];decide
end
section
variable {lo hi:Int} {l:List aA} {k:Nat}
instance (l:List aA) (lo hi:Int):Decidable (dF l lo hi):=by unfold dF Checked aV;infer_instance
def qu (l:List aA) (lo hi:Int):Bool:=decide (dF l lo hi)
theorem pX:qu l lo hi=true↔dF l lo hi:=by simp [qu]
theorem xq:qu l lo hi=false↔¬dF l lo hi:=by simp [qu]
theorem tD (lo hi:Int):dF [] lo hi:=⟨by simp [Checked],bq,List.Pairwise.nil⟩
theorem Es (hk:k<l.length) (h:dF (l.take k) lo hi) (h1:lo<=l[k].key) (h2:l[k].key<hi) (h3:∀ie:0<k,l[k-1].key<l[k].key) (h4:l[k].is.c≠0) (h5:aj l[k].is=0) :
  dF (l.take (k+1)) lo hi:=by
 rw [mn hk]
 refine⟨fun e he=>?_,fun e he=>?_,?_⟩
 ·rcases kI.1 he with he|he
  ·exact h.1 e he
  ·obtain rfl:=nB.1 he;exact⟨h4,h5⟩
 ·rcases kI.1 he with he|he
  ·exact h.2.1 e he
  ·obtain rfl:=nB.1 he;exact⟨h1,h2⟩
 ·refine List.pairwise_append.2 ⟨h.2.2,List.pairwise_singleton _ _,fun a ha b hb=>?_⟩
  obtain rfl:=nB.1 hb
  obtain⟨i,hi',rfl⟩:=kW ha
  simp only [fw]at hi'
  rw [wC]
  have ie:0<k:=af
  have:=h3 ie
  by_cases hik:i=k-1
  ·subst hik;exact this
  ·have hp:=pz.1 h.2.2 i (k-1) (by simp;omega) (by simp;omega) af
   rw [wC,wC]at hp
   omega
theorem Bk (h:dF l lo hi) (hk:k<l.length):lo<=l[k].key/\l[k].key<hi/\l[k].is.c≠0/\aj l[k].is=0/\(∀ie:0<k,l[k-1].key<l[k].key):=by
 have hm:l[k]∈l:=fO hk
 exact⟨(h.2.1 _ hm).1,(h.2.1 _ hm).2,(h.1 _ hm).1,(h.1 _ hm).2,fun ie=>pz.1 h.2.2 (k-1) k af hk af⟩
theorem Et (hk:l.length<=k) (h:dF (l.take k) lo hi):dF l lo hi:=by rwa [kJ hk]at h
end
section
variable {lo hi:Int} {x:Nd}
theorem Gc {t:Tr} {n:Int}:mG t n x lo hi↔x.keys.length+x.kids.length+x.buf.length=0/\x.aF.length<=6/\(x.aF.length=0->n=t.root)/\qu x.aF lo hi=true:=by
 unfold mG
 rw [pX,<-List.length_eq_zero_iff,<-List.length_eq_zero_iff,<-List.length_eq_zero_iff,ne_eq,<-List.length_eq_zero_iff]
 constructor
 ·rintro⟨a,b,c,d,e,f⟩
  exact⟨af,d,fun h=>by rcases e with e|e;exact absurd h e;exact e,f⟩
 ·rintro⟨a,b,c,d⟩
  exact⟨af,af,af,b,by by_cases h:x.aF.length=0;exact .inr (c h);exact .inl h,d⟩
theorem JP:qw x lo hi↔x.aF.length=0/\2<=x.kids.length/\x.kids.length<=4/\x.keys.length+1=x.kids.length/\x.buf.length<=8/\qu x.buf lo hi=true:=by
 unfold qw
 rw [pX,<-List.length_eq_zero_iff]
end
section
variable {n lo hi:Int} {S:List Int} {s:List Int×Int} {f i:Nat} {x:Nd} {t:Tr} {σ:Type}
theorem yP (h:t.dn n=none):dR t (f+1) n lo hi s=none:=by rw [dR,h]
theorem FZ (h:t.dn n=some x) (hs:n∈s.1):dR t (f+1) n lo hi s=none:=by rw [dR,h];simp only;rw [ar hs]
theorem F3 (h:t.dn n=some x) (hs:n∉s.1) (hl:x.leaf=true) (hd:s.2=0\/s.2=12-(f:Int)) (hok:mG t n x lo hi) :
  dR t (f+1) n lo hi s=some (n::s.1,12-(f:Int)):=by
 rw [dR,h];simp only;rw [ai hs,ar hl,ar ⟨hd,hok⟩]
theorem BQ (h:t.dn n=some x) (hl:x.leaf=true) (hok:¬((s.2=0\/s.2=12-(f:Int))/\mG t n x lo hi)):dR t (f+1) n lo hi s=none:=by
 rw [dR,h];simp only;rw [ar hl,ai hok];simp
theorem Dm (h:t.dn n=some x) (hs:n∉s.1) (hl:x.leaf=false) (hok:qw x lo hi) :
  dR t (f+1) n lo hi s=np (fun k a b s=>dR t f k a b s) x lo hi x.kids 0 (n::s.1,s.2):=by
 rw [dR,h];simp only;rw [ai hs,ai (by simp [hl]),ar hok]
theorem Ah (h:t.dn n=some x) (hl:x.leaf=false) (hok:¬qw x lo hi):dR t (f+1) n lo hi s=none:=by
 rw [dR,h];simp [hl,hok]
theorem Gf {go:Int->Int->Int->σ->Option σ} {s:σ} (hi':i<x.kids.length) :
  np go x lo hi (x.kids.drop i) i s=if x.from lo i<x.upto hi i/\lo<=x.from lo i/\x.upto hi i<=hi then
   match go x.kids[i] (x.from lo i) (x.upto hi i) s with
   |none=>none
   |some s'=>np go x lo hi (x.kids.drop (i+1)) (i+1) s'
  else none:=by
 rw [vg hi']
 rfl
theorem JL {go:Int->Int->Int->σ->Option σ} {s:σ} (hi':x.kids.length<=i):np go x lo hi (x.kids.drop i) i s=some s:=by
 rw [AA hi'];rfl
def Fb (t:Tr) (S:List Int):Prop:=S.Nodup/\∀y∈S,0<=y/\y<(t.nodes.length:Int)
theorem Fb.le (h:Fb t S):S.length<=t.nodes.length:=Dk h.1 h.2
theorem Fb.cons (h:Fb t S) (hn:n∉S) (hx:t.dn n=some x):Fb t (n::S):=
 ⟨List.nodup_cons.2 ⟨hn,h.1⟩,fun y hy=>by rcases fc.1 hy with rfl|hy;exact Bt hx;exact h.2 y hy⟩
theorem Dl:∀(f:Nat) (n lo hi:Int) (s s':List Int×Int),Fb t s.1->dR t f n lo hi s=some s'->Fb t s'.1:=by
 intro f
 induction f with
 |zero=>intro n lo hi s s' _ h;cases h
 |succ f ih=>
  intro n lo hi s s' hs h
  rw [dR]at h
  split at h
  ·cases h
  ·rename_i x hx
   split at h
   ·cases h
   ·rename_i hn
    split at h
    ·split at h
     ·simp only [iE]at h;rw [<-h];exact hs.cons hn hx
     ·cases h
    ·split at h
     ·have:∀(ks:List Int) (i:Nat) (s s':List Int×Int),Fb t s.1->np (fun k a b s=>dR t f k a b s) x lo hi ks i s=some s'->Fb t s'.1:=by
       intro ks
       induction ks with
       |nil=>intro i s s' hs h;simp only [np,iE]at h;rw [<-h];exact hs
       |cons k ks ihk=>
        intro i s s' hs h
        unfold np at h
        split at h
        ·split at h
         ·cases h
         ·rename_i s1 e
          exact ihk (i+1) s1 s' (ih _ _ _ _ _ hs e) h
        ·cases h
      exact this _ _ _ _ (hs.cons hn hx) h
     ·cases h
end
theorem DL {xs:List aA} {x:aA} {l:List aA} (h:jG xs x=some l):l.length<=xs.length+1:=by
 induction xs generalizing l with
 |nil=>simp only [jG,iE]at h;rw [<-h];simp
 |cons e xs ih=>
  unfold jG at h
  split at h
  ·obtain⟨m,hm,rfl⟩:=Option.map_eq_some_iff.1 h
   have:=ih hm
   simp only [fR];omega
  ·split at h
   ·split at h
    ·simp only [iE]at h;rw [<-h];simp
    ·cases h
   ·simp only [iE]at h;rw [<-h];simp
section
variable {l:List aA} {t:Tr}
theorem cW (h:ax t=0):t.nodes.length<=2000/\lL t:=by
 unfold ax at h
 split at h
 ·cases h
 ·split at h
  ·exact⟨af,‹_›⟩
  ·cases h
theorem uf (h:t.nodes.length<=2000) (hv:lL t):ax t=0:=by
 unfold ax;rw [ai af,ar hv]
theorem AH:∀{f:Nat} {n lo hi:Int} {l:List Int} {h:Nat},mK t f n lo hi=some (l,h)->∀y∈l,(t.of y).length<=14:=by
 intro f
 induction f with
 |zero=>intro n lo hi l h hv;cases hv
 |succ f ih=>
  intro n lo hi l h hv y hy
  obtain⟨x,hx⟩:=yt hv
  have hof:t.of n=x.aF++x.buf:=by unfold Tr.of;rw [hx]
  obtain⟨_,⟨_,hok,rfl,_⟩|⟨_,hok,l',h',hk,rfl,_⟩⟩:=ll hv hx
  ·obtain rfl:=nB.1 hy
   rw [hof,eP,hok.2.2.1];have:=hok.2.2.2.1;simp;omega
  ·rcases fc.1 hy with rfl|hy
   ·rw [hof,eP,hok.1];have:=hok.2.2.2.2.1;simp;omega
   ·exact qI (P:=fun y=>(t.of y).length<=14) (fun k a b l h hv=>ih hv) hk y hy
theorem Ek {α β:Type} {f:α->List β} {m:Nat}:∀{l:List α},(∀y∈l,(f y).length<=m)->(l.flatMap f).length<=m*l.length
 |[],_=>bq
 |a::l,h=>by
  have h1:=h a bq
  have h2:=Ek (l:=l) fun y hy=>h y (by simp [hy])
  rw [gG,eP,fR,Nat.mul_add];omega
theorem AJ (h:lL t):t.all.length<=14*t.nodes.length:=by
 obtain⟨l,hh,e,hn,hl⟩:=h
 rw [<-(lq e hn hl).length_eq,<-hl]
 exact Ek (AH e)
theorem Bq (l:List aA) (y:aA):ft (l++[y])=(ft l).bind fun es=>jG es y:=by
 unfold ft;rw [List.foldlM_append]
 cases h:List.foldlM jG [] l with
 |none=>rfl
 |some es=>simp [List.foldlM_cons]
theorem Br {m:List aA} (h:ft l=none):ft (l++m)=none:=by
 unfold ft at h ⊢;rw [List.foldlM_append,h];rfl
theorem Gn (l:List aA) (x:aA):(ins l x).length<=l.length+1:=by
 induction l with
 |nil=>simp [ins]
 |cons e l ih=>
  unfold ins
  split
  ·simp only [fR];omega
  ·split
   ·simp
   ·simp
theorem pn:∀(l m:List aA),(l.foldl ins m).length<=m.length+l.length
 |[],m=>bq
 |x::l,m=>by
  rw [List.foldl_cons,fR]
  have:=pn l (ins m x);have:=Gn m x;omega
theorem fT {es:List aA} (hl:Checked l) (h:ft l=some es):es=jJ l/\Small l/\Checked es/\es.length<=l.length/\aV es:=by
 rw [jA hl]at h
 split at h
 ·rename_i hs
  simp only [iE]at h
  subst h
  refine⟨rfl,hs,xy hl.bJ hs,?_,cJ hl.bJ⟩
  have:=pn l [];simpa [jJ] using this
 ·cases h
def Nd.all (x:Nd):List aA:=x.aF++x.buf
end
section
variable {x:Int} {es:List aA} {k:Nat}
theorem om {α:Type} {p:α->Bool}:∀{l:List α} {k:Nat},k<=l.length->(∀t (ht:t<l.length),t<k->p l[t]=true)->(∀ht:k<l.length,p l[k]=false)->(l.takeWhile p).length=k
 |[],k,hk,_,_=>by simp at hk;simp [hk]
 |a::l,0,_,_,h2=>by
  have:=h2 bq
  simp only [List.getElem_cons_zero]at this
  simp [this]
 |a::l,k+1,hk,h1,h2=>by
  have h0:=h1 0 bq af
  simp only [List.getElem_cons_zero]at h0
  rw [List.takeWhile_cons_of_pos h0,fR,om (k:=k) (by simpa using hk) (fun t ht htk=>h1 (t+1) (by simpa using ht) af) (fun ht=>h2 (by simpa using ht))]
def LJ (zs:List Int) (x:Int):Nat:=(zs.takeWhile fun z=>decide (z<x)).length
def ic (es:List aA) (x:Int):Nat:=(es.takeWhile fun e=>decide (e.key<x)).length
def qW (es:List aA) (x:Int):Bool:=es.any fun e=>decide (e.key=x)
theorem Pk {zs:List Int} (hk:k<=zs.length) (h1:∀t (ht:t<zs.length),t<k->zs[t]<x) (h2:∀t (ht:t<zs.length),k<=t->x<=zs[t]):LJ zs x=k:=
 om hk (fun t ht htk=>by simpa using h1 t ht htk) (fun ht=>by simpa using h2 k ht aI)
theorem P9 {zs:List Int} (hs:zs.Pairwise (·<·)) (h1:∀t (ht:t<zs.length),t<k->zs[t]<x) (h2:∀t (ht:t<zs.length),k<=t->x<=zs[t]):decide (x∈zs)=if h:k<zs.length then decide (zs[k]=x)else false:=by
 by_cases hk:k<zs.length
 ·rw [dif_pos hk,decide_eq_decide]
  constructor
  ·intro hm
   obtain⟨t,ht,rfl⟩:=kW hm
   by_cases h:t<k
   ·have:=h1 t ht h;omega
   ·by_cases h':t=k
    ·subst h';rfl
    ·have:=pz.1 hs k t hk ht af
     have:=h2 k hk aI;omega
  ·intro h;rw [<-h];exact fO hk
 ·rw [dif_neg hk,wF]
  intro hm
  obtain⟨t,ht,rfl⟩:=kW hm
  have:=h1 t ht af;omega
theorem xU (hk:k<=es.length) (h1:∀t (ht:t<es.length),t<k->es[t].key<x) (h2:∀t (ht:t<es.length),k<=t->x<=es[t].key):ic es x=k:=
 om hk (fun t ht htk=>by simpa using h1 t ht htk) (fun ht=>by simpa using h2 k ht aI)
theorem Qa (hs:aV es) (h1:∀t (ht:t<es.length),t<k->es[t].key<x) (h2:∀t (ht:t<es.length),k<=t->x<=es[t].key):qW es x=if h:k<es.length then decide (es[k].key=x)else false:=by
 by_cases hk:k<es.length
 ·rw [dif_pos hk]
  unfold qW
  rw [Bool.eq_iff_iff,List.any_eq_true,sk]
  constructor
  ·rintro⟨e,he,hm⟩
   have hm:=iX hm
   obtain⟨t,ht,rfl⟩:=kW he
   by_cases h:t<k
   ·have:=h1 t ht h;omega
   ·by_cases h':t=k
    ·subst h';exact hm
    ·have:=pz.1 hs k t hk ht af
     have:=h2 k hk aI;omega
  ·intro h;exact⟨es[k],fO hk,by simpa using h⟩
 ·rw [dif_neg hk]
  unfold qW
  rw [List.any_eq_false]
  intro e he
  obtain⟨t,ht,rfl⟩:=kW he
  have:=h1 t ht af;simp;omega
theorem JM {keys:List Int} (hs:keys.Pairwise (·<·)):aX keys x=LJ keys x+if x∈keys then 1 else 0:=by
 induction keys with
 |nil=>rfl
 |cons k ks ih=>
  have hp:=rz.1 hs
  have ih:=ih hp.2
  unfold aX LJ at *
  by_cases h1:k<x
  ·have h2:k<=x:=af
   rw [List.takeWhile_cons_of_pos (by simpa using h2),List.takeWhile_cons_of_pos (by simpa using h1),fR,fR,ih]
   have:(x∈k::ks)↔x∈ks:=by rw [fc];exact⟨fun h=>h.resolve_left af, .inr⟩
   by_cases h:x∈ks
   ·rw [ar h,ar (this.2 h)]
   ·rw [ai h,ai (fun h'=>h (this.1 h'))]
  ·rw [List.takeWhile_cons_of_neg (p:=fun z=>decide (z<x)) (by simpa using h1)]
   by_cases h2:k=x
   ·subst h2
    rw [List.takeWhile_cons_of_pos bq,fR,ar bq]
    cases ks with
    |nil=>rfl
    |cons y ys=>
     have:=hp.1 y bq
     rw [List.takeWhile_cons_of_neg (by simp;omega)]
   ·have hn:¬x∈k::ks:=fun hm=>by
     rcases fc.1 hm with h|h
     ·exact h2 h.symm
     ·have:=hp.1 x h;omega
    rw [List.takeWhile_cons_of_neg (by simp;omega),ai hn];rfl
theorem qJ {go:Int->Int->Int->Option (List Int×Nat)} {x:Nd} {a b:Int}:∀{ks:List Int} {i:Nat} {l:List Int} {h:Nat},ct go x a b ks i=some (l,h)->∀j,j<ks.length->x.from a (i+j)<x.upto b (i+j)/\a<=x.from a (i+j)/\x.upto b (i+j)<=b
 |[],_,_,_,_=>fun j hj=>by simp at hj
 |k::ks,i,l,h,hv=>by
  unfold ct at hv
  split at hv
  ·rename_i hc
   split at hv
   ·rename_i l1 h1 l2 h2 e1 e2
    intro j hj
    cases j with
    |zero=>exact hc
    |succ j=>
     have:=qJ e2 j (by simpa using hj)
     rwa [show i+1+j=i+(j+1)from by omega]at this
   ·cases hv
  ·cases hv
theorem K9 {t:Tr} {f:Nat} {n a b:Int} {l:List Int} {h:Nat} {x:Nd} (hv:mK t (f+1) n a b=some (l,h)) (hx:t.dn n=some x) (hl:x.leaf=false):x.keys.Pairwise (·<·)/\∀k∈x.keys,a<=k/\k<=b:=by
 obtain⟨_,⟨h1,_⟩|⟨_,hok,l',h',hk,rfl,_⟩⟩:=ll hv hx
 ·rw [hl]at h1;cases h1
 ·have hb:=qJ hk
  have hkl:=hok.2.2.2.1
  have g:∀j (hj:j<x.keys.length),x.upto b (0+j)=x.keys[j]/\x.from a (0+(j+1))=x.keys[j]:=fun j hj=>by
   simp [Nd.upto,Nd.from,hj]
  refine⟨pz.2 fun i j hi hj hij=>?_,fun k hk=>?_⟩
  ·have step:∀m (hm:m+1<x.keys.length),x.keys[m]<x.keys[m+1]:=fun m hm=>by
    have h1:=(hb (m+1) af).1
    rw [(g m af).2,(g (m+1) hm).1]at h1
    exact h1
   obtain⟨d,rfl⟩:∃d,j=i+1+d:=⟨j-i-1,af⟩
   clear hij
   induction d with
   |zero=>exact step i hj
   |succ d ih=>
    exact Int.lt_trans (ih af step) (step (i+1+d) af)
  ·obtain⟨j,hj,rfl⟩:=kW hk
   have h1:=hb j af
   rw [(g j hj).1]at h1
   omega
end
section
variable {key:Int} {L path:List aA} {r:au} {t:Tr}
theorem Bg (hs:aV L) (h:qW L key=true):∃(i:Nat) (hi:i<L.length),ic L key=i/\L[i].key=key/\L.filter (fun e=>decide (e.key=key))=[L[i]]:=by
 unfold qW at h
 obtain⟨e,he,hk⟩:=List.any_eq_true.1 h
 have hk:=iX hk
 obtain⟨i,hi,rfl⟩:=kW he
 have hp:=pz.1 hs
 have h1:∀t (ht:t<L.length),t<i->L[t].key<key:=fun t ht hti=>by rw [<-hk];exact hp t i ht hi hti
 have h2:∀t (ht:t<L.length),i<t->key<L[t].key:=fun t ht hti=>by rw [<-hk];exact hp i t hi ht hti
 refine⟨i,hi,xU af h1 (fun t ht hti=>?_),hk,?_⟩
 ·by_cases hit:i=t
  ·subst hit;omega
  ·have:=h2 t ht af;omega
 ·conv=>lhs;rw [<-wG i L,vg hi]
  rw [sw,tN (by simpa using hk),pV (fun e he=>?_),pV (fun e he=>?_),List.nil_append]
  ·obtain⟨t,ht,rfl⟩:=kW he
   rw [oJ]at ht
   rw [List.getElem_drop]
   have:=h2 (i+1+t) af af;omega
  ·obtain⟨t,ht,rfl⟩:=kW he
   rw [fw]at ht
   rw [wC]
   have:=h1 t af af;omega
theorem GK (h:qW L key=false):L.filter (fun e=>decide (e.key=key))=[]:=by
 unfold qW at h
 rw [List.filter_eq_nil_iff]
 intro e he
 have:=List.any_eq_false.1 h e he
 simpa using this
def Nd.own (x:Nd):List aA:=if x.leaf=true then x.aF else x.buf
def oM (t:Tr) (key:Int) (r:au) (path:List aA):Prop:=aj r=0/\GQ t key=match sZ r path with|some r=>(r,0)|none=>(au.zero,1)
theorem Nb (hf:ax t=0) {f:Nat} {n a b:Int} {l:List Int} {h:Nat} {x:Nd} (hv:mK t (f+1) n a b=some (l,h)) (hx:t.dn n=some x) (ha:a<=key) (hb:key<b) :
  aV x.own/\Checked x.own/\(∀e∈x.own,0<=e.key/\e.key<1099511627776) /\
  oV t key (f+1) n=x.own.filter (fun e=>decide (e.key=key))++(if x.leaf=true then []else oV t key f (x.kids.getD (aX x.keys key) 0)) /\
  (x.leaf=false->x.keys.Pairwise (·<·)/\aX x.keys key<x.kids.length/\∃f' a' b' l' h',f=f'+1/\mK t (f'+1) (x.kids.getD (aX x.keys key) 0) a' b'=some (l',h')/\a'<=key/\key<b'):=by
 obtain⟨hn,PL⟩:=cW hf
 have hxm:x∈t.nodes:=by
  unfold Tr.dn at hx
  split at hx
  ·exact List.mem_of_getElem? hx
  ·cases hx
 have hrange:∀e∈x.own,0<=e.key/\e.key<1099511627776:=fun e he=>lU PL e (by
  unfold Tr.all
  refine List.mem_flatMap.2 ⟨x,hxm,?_⟩
  unfold Nd.own at he;split at he <;> simp [he])
 have QU:oV t key (f+1) n=x.own.filter (fun e=>decide (e.key=key))++(if x.leaf=true then []else oV t key f (x.kids.getD (aX x.keys key) 0)):=by
  conv=>lhs;unfold oV
  rw [hx]
  simp only [Nd.own]
  cases hl:x.leaf <;> simp
 obtain⟨_,⟨hl,hok,_⟩|⟨hl,hok,_⟩⟩:=ll hv hx
 ·have ho:x.own=x.aF:=by simp [Nd.own,hl]
  exact⟨by rw [ho];exact hok.2.2.2.2.2.2.2,by rw [ho];exact hok.2.2.2.2.2.1,hrange,QU,fun h=>by rw [hl]at h;cases h⟩
 ·have ho:x.own=x.buf:=by simp [Nd.own,hl]
  refine⟨by rw [ho];exact hok.2.2.2.2.2.2.2,by rw [ho];exact hok.2.2.2.2.2.1,hrange,QU,fun _=>⟨(K9 hv hx hl).1,?_⟩⟩
  obtain⟨h1,a',b',l',h',h2,h3,h4,_⟩:=Ic hv hx hl ha hb
  refine⟨h1,?_⟩
  cases f with
  |zero=>cases h2
  |succ f'=>exact⟨f',a',b',l',h',rfl,h2,h3,h4⟩
theorem Ee (hh:qW L key=false) (h:oM t key r (L.filter (fun e=>decide (e.key=key))++path)):oM t key r path:=by
 rw [GK hh,List.nil_append]at h;exact h
theorem Ed {i:Nat} {hi:i<L.length} (hc:aj L[i].is=0) (hfl:L.filter (fun e=>decide (e.key=key))=[L[i]]) (h:oM t key r (L.filter (fun e=>decide (e.key=key))++path)) :
  (r.c+L[i].is.c<=1073741824->bG r L[i].is=(r.join L[i].is,0)/\oM t key (r.join L[i].is) path)/\(¬r.c+L[i].is.c<=1073741824->bG r L[i].is=(au.zero,1)/\GQ t key=(au.zero,1)):=by
 obtain⟨h1,h2⟩:=h
 rw [hfl]at h2
 have e:sZ r ([L[i]]++path)=if r.c+L[i].is.c<=1073741824 then sZ (r.join L[i].is) path else none:=by
  unfold sZ
  rw [List.singleton_append,List.foldlM_cons]
  split <;> rfl
 rw [e]at h2
 refine⟨fun hle=>?_,fun hle=>?_⟩
 ·obtain⟨m1,m2⟩:=o8 h1 hc hle
  rw [ar hle]at h2
  exact⟨m1,m2,h2⟩
 ·rw [ai hle]at h2
  exact⟨(iP h1 hc).trans (ai hle),h2⟩
theorem GR (h:oM t key r []):GQ t key=(r,0):=h.2
theorem Ci:oM t key au.zero (oV t key 12 t.root):=⟨aW,rfl⟩
end
section
variable {x:aA} {es:List aA}
theorem vU {x:aA}:∀{es:List aA} {k:Nat},k<=es.length->(∀t (ht:t<es.length),t<k->es[t].key<x.key)->jG es x=(jG (es.drop k) x).map (fun l=>es.take k++l)
 |es,0,_,_=>bq
 |[],k+1,hk,_=>by simp at hk
 |e::es,k+1,hk,h=>by
  have h0:=h 0 bq af
  simp only [List.getElem_cons_zero]at h0
  have ih:=vU (es:=es) (k:=k) (by simpa using hk) (fun t ht htk=>h (t+1) (by simpa using ht) af)
  show (if e.key<x.key then _ else _:Option (List aA))=_
  rw [ar h0,ih,List.drop_succ_cons,List.take_succ_cons]
  cases jG (es.drop k) x <;> rfl
theorem qK {α:Type} {p:α->Bool}:∀{l:List α} {k:Nat} (_:(l.takeWhile p).length=k) (h:k<l.length),p l[k]=false
 |[],k,_,h=>by simp at h
 |a::l,k,hk,h=>by
  by_cases hp:p a=true
  ·rw [List.takeWhile_cons_of_pos hp,fR]at hk
   obtain⟨j,rfl⟩:∃j,k=j+1:=⟨k-1,af⟩
   exact qK (l:=l) (k:=j) af (by simpa using h)
  ·rw [List.takeWhile_cons_of_neg hp,List.length_nil]at hk
   subst hk
   simpa using hp
theorem ly {key:Int} (_hs:aV es):ic es key<=es.length/\(∀t (ht:t<es.length),t<ic es key->es[t].key<key)/\(∀ht:ic es key<es.length,key<=es[ic es key].key):=by
 unfold ic
 have hp:=List.takeWhile_prefix (fun e:aA=>decide (e.key<key)) (l:=es)
 refine⟨hp.length_le,fun t ht htk=>?_,fun ht=>?_⟩
 ·have e:(es.takeWhile fun e=>decide (e.key<key))[t]=es[t]:=hp.getElem htk
  have:=pA.1 (List.all_takeWhile (p:=fun e:aA=>decide (e.key<key)) (l:=es)) _ (fO htk)
  rw [e]at this;simpa using this
 ·have:=qK (p:=fun e:aA=>decide (e.key<key)) (l:=es) rfl ht
  have:=XS this
  omega
theorem Mj (hs:aV es) (hh:qW es x.key=false):jG es x=some (es.take (ic es x.key)++x::es.drop (ic es x.key)):=by
 obtain⟨p1,p2,p3⟩:=ly (key:=x.key) hs
 rw [vU p1 p2]
 by_cases h:ic es x.key<es.length
 ·have h3:=p3 h
  have hne:es[ic es x.key].key≠x.key:=fun e=>by
   have:=List.any_eq_false.1 hh es[ic es x.key] (fO h)
   simp [e]at this
  rw [vg h]
  show (if _<x.key then _ else if _=x.key then _ else _:Option (List aA)).map _=_
  rw [ai af,ai hne];rfl
 ·rw [AA af];rfl
theorem yV {i:Nat} (hi:i<es.length) (hs:aV es) (hp:ic es x.key=i) (hk:es[i].key=x.key) :
  jG es x=if es[i].is.c+x.is.c<=1073741824 then some (es.set i ⟨x.key,es[i].is.join x.is⟩)else none:=by
 obtain⟨p1,p2,p3⟩:=ly (key:=x.key) hs
 rw [hp]at p1 p2
 rw [vU p1 p2,vg hi]
 show (if _<x.key then _ else if _=x.key then _ else _:Option (List aA)).map _=_
 rw [ai af,ar hk]
 split
 ·rw [List.set_eq_take_append_cons_drop,ar hi];rfl
 ·rfl
end
section
variable {P l es:List aA} {t:Tr}
def dY (P:List aA):Prop:=Checked P/\(∀e∈P,0<=e.key/\e.key<1099511627776)/\P.length<=50000
theorem dY.left {Q:List aA} (h:dY (P++Q)):dY P:=
 ⟨fun e he=>h.1 e (by simp [he]),fun e he=>h.2.1 e (by simp [he]),by have:=h.2.2;rw [eP]at this;omega⟩
theorem zN:∀{m:List aA} {e:aA},e∈l.foldl ins m->∃y,(y∈l\/y∈m)/\y.key=e.key:=by
 induction l with
 |nil=>intro m e he;exact⟨e, .inr he,rfl⟩
 |cons x l ih=>
  intro m e he
  rw [List.foldl_cons]at he
  obtain⟨y,hy|hy,hk⟩:=ih he
  ·exact⟨y, .inl (by simp [hy]),hk⟩
  ·rcases qU hy with h|⟨z,hz,h⟩
   ·exact⟨x, .inl bq,af⟩
   ·exact⟨z, .inr hz,af⟩
theorem pO (hP:dY P) (h:ft P=some es):aV es/\(∀e∈es,aj e.is=0)/\(∀e∈es,0<=e.key/\e.key<1099511627776)/\es.length<=50000:=by
 obtain⟨h1,h2,h3,h4,h5⟩:=fT hP.1 h
 refine⟨h5,fun e he=>(h3 e he).2,fun e he=>?_,by have:=hP.2.2;omega⟩
 rw [h1]at he
 obtain⟨y,hy|hy,hk⟩:=zN he
 ·have:=hP.2.1 y hy;omega
 ·cases hy
noncomputable def allT (t:Tr):Option (List aA):=if ax t=0 then kH t 0 1099511627776 else none
theorem EP (h:ax t=0) (lo hi:Int):dY (t.all.filter (aU lo hi)):=by
 obtain⟨h1,h2⟩:=cW h
 refine⟨iU (cz h2),fun e he=>lU h2 e (js.1 he).1,?_⟩
 have h3:=AJ h2
 have h4:=tO (aU lo hi) t.all
 omega
theorem oU (hP:dY P) (h:ft P=some es):dY es:=by
 obtain⟨_,_,g3,g4⟩:=pO hP h
 obtain⟨_,_,h3,_,_⟩:=fT hP.1 h
 exact⟨h3,g3,g4⟩
theorem Ku {lo hi:Int} (hf:ax t=0) (h:kH t lo hi=some l):aV l/\dY l:=
 ⟨(pO (EP hf lo hi) h).1,oU (EP hf lo hi) h⟩
theorem fI (h:allT t=some l):aV l/\dY l:=by
 unfold allT at h
 split at h
 ·rename_i hf;exact Ku hf h
 ·cases h
def bucket (size:Int) (e:aA):aA:=⟨e.key-e.key%1048576%size,e.is⟩
def bU (l:List aA) (size:Int):Option (List aA):=ft (l.map (bucket size))
theorem mod_le {m s:Int} (h:0<=m) (hs:0<s):m%s<=m:=by
 rw [Int.emod_def]
 have:=Int.mul_nonneg (Int.le_of_lt hs) (Int.ediv_nonneg h (Int.le_of_lt hs))
 omega
theorem pZ {size:Int} (hs:0<size) {e:aA} (h:0<=e.key/\e.key<1099511627776):0<=(bucket size e).key/\(bucket size e).key<1099511627776:=by
 have h1:=Int.emod_nonneg e.key (show (1048576:Int)≠0 by decide)
 have h2:=Int.emod_nonneg (e.key%1048576) (show size≠0 by omega)
 have h3:e.key%1048576%size<=e.key%1048576:=mod_le h1 hs
 have h4:e.key%1048576<=e.key:=af
 show 0<=e.key-e.key%1048576%size/\e.key-e.key%1048576%size<1099511627776
 omega
theorem eB {size:Int} (hs:0<size) (h:dY l):dY (l.map (bucket size)):=by
 refine⟨fun e he=>?_,fun e he=>?_,by rw [nA];exact h.2.2⟩
 ·obtain⟨y,hy,rfl⟩:=lI.1 he;exact h.1 y hy
 ·obtain⟨y,hy,rfl⟩:=lI.1 he;exact pZ hs (h.2.1 y hy)
structure Ba where
 names:List ByteArray
 t0:Tr
 t1:Tr
 t2:Tr
 floor:Int
def jm (b:Ba) (e:aA):Bool:=decide (e.key/1048576<b.names.length) && decide (b.floor<=e.key%1048576) && decide (e.is.t=e.key%1048576)
noncomputable def bW (b:Ba):Option (List aA):=match allT b.t0 with|none=>none|some l=>if l.all (jm b)then some l else none
theorem lC {b:Ba} (h:bW b=some l):allT b.t0=some l/\l.all (jm b)=true:=by
 unfold bW at h
 cases ht:allT b.t0 with
 |none=>rw [ht]at h;cases h
 |some m=>
  rw [ht]at h
  simp only at h
  split at h
  ·rename_i hb;simp only [iE]at h;subst h;exact⟨rfl,hb⟩
  ·cases h
noncomputable def fL (l:List aA) (t:Tr) (size:Int):Bool:=match bU l size,allT t with|some a,some c=>decide (a=c)|_,_=>false
def Ba.tree (b:Ba) (k:Nat):Tr:=if k=0 then b.t0 else if k=1 then b.t1 else b.t2
def aR (k:Nat):Int:=if k=0 then 1 else if k=1 then 60 else 3600
theorem gJ (k:Nat):0<aR k:=by unfold aR;split;decide;split <;> decide
end
open Go.ChangeShapes Go.WideShapes Go.ChangeAt Go.RowKit
theorem Ab {H:Type} {enc:TypeId×Value->H} {P:Program} (hl:laidOutB P=true) {W W':World} (hb:ah W W') :
  ∀{ts:List TypeId} {vs:List Value} {ds:List (DataW H)} {ps:List MemPlace},(∀t∈ts,P.readableRec t=true/\t<P.types.size) ->
   DataW.TrodAll enc P W 0 (fun _=>true) true ts vs ds ps->(∀x∈ps,x.block<W.heap.size) ->
   DataW.TrodAll enc P W' 0 (fun b=>decide (b<W.heap.size)) true ts vs ds ps:=by
 intro ts
 induction ts with
 |nil=>intro vs ds ps _ h _;obtain⟨rfl,rfl,rfl⟩:=trodAll_nil h;exact trodAll_mk0
 |cons t ts ih=>
  intro vs ds ps ht h hlt
  obtain⟨v,vs',d,ds',p,q,rfl,rfl,rfl,h1,h2⟩:=trodAll_cons h
  refine⟨p,q,Below.trod hl (ht t bq).1 (ht t bq).2 h1 hb (fun x hx=>hlt x (by simp [hx])),?_,rfl⟩
  exact ih (fun t' ht'=>ht t' (by simp [ht'])) h2 (fun x hx=>hlt x (by simp [hx]))
section
set_option maxRecDepth 100000
theorem Tryd.own:ownKnob Tryd.prog.godebug=none:=cy
theorem Tryd.laidOut:laidOutB Tryd.prog=true:=cy
theorem Tryd.EG:Tryd.prog.cellsOf 3=1:=cy
section
variable {H:Type} {enc:TypeId×Value->H} {w:World} {base:Nat} {sp:Nat->Bool} {held:Bool}
theorem take_one {α:Type} {cs:List α} {i:Nat} {v:α} (h:(cs.drop i).take 1=[v]):cs[i]?=some v:=by
 have:=congrArg (fun l=>l[0]?) h
 simpa [qd] using this
theorem K6 {n:Int} (hw:(Lit.int .i64 n).wf=true) : -9223372036854775808<=n/\n<=9223372036854775807:=by
 simpa [Lit.wf,IntKind.min,IntKind.max,IntKind.signed,IntKind.bits] using hw
theorem nT {fuel:Nat} {cs:List Value} {i:Nat} {x:DataW H×List MemPlace} (h:DataW.trod enc Tryd.prog w base sp held fuel 3 ((cs.drop i).take (Tryd.prog.cellsOf 3))=some x) :
  ∃n,cs[i]?=some (.int .i64 n)/\-9223372036854775808<=n/\n<=9223372036854775807:=by
 obtain⟨n,e,_,hw⟩:=DataW.trod_int Tryd.underlying3 h
 rw [Tryd.EG]at e
 exact⟨n,take_one e,K6 hw⟩
def au.cells (r:au):List Value:=[.int .i64 r.c, .int .i64 r.s, .int .i64 r.mi, .int .i64 r.ma, .int .i64 r.t, .int .i64 r.l]
theorem open_int' {r:Reach} {b0:Nat} {v:Value} {d:DataW H} {p:List MemPlace} (hv:Value.okWide Tryd.prog w r b0 3 v) (h:DataW.Trod enc Tryd.prog w base sp held 3 v d p) :
  ∃n,v = .int .i64 n/\-9223372036854775808<=n/\n<=9223372036854775807:=by
 obtain⟨n,rfl,_,_,hw⟩:=open_int Tryd.underlying3 hv h
 exact⟨n,rfl,K6 hw⟩
end
end
theorem yT {H:Type} {enc:TypeId×Value->H} {C:Go.Checked} {os:Os} {f:FuncId} {fn:Func} {s:ChangeSpec} {tb:TypeId} {L:List (String×DataW Unit)}
  (own:ownKnob C.prog.godebug=none) (started:os.Started) (noInit:C.prog.inits.idxOf? f=none) (hfn:C.prog.funcs[f]?=some fn)
  (witness:∃(w:World) (tape:Tape) (i:Input),w.os=os/\(w.forCall tape i).Shaped C.prog/\i.vars=[]/\Input.okWide C.prog (w.forCall tape i) .any w.heap.size f i /\
   ((s.pre enc C.prog fn [] false (w.forCall tape i).memory i.args/\laidMetH C.prog L (w.forCall tape i).memory)/\sizedMet enc C.prog fn (OpenSpec.ofChange s) false (w.forCall tape i).memory i.args)/\({}:Assume).holds C.prog (lone (Frame.enter C.prog f i.args .normal) [] (w.forCall tape i)))
  (hl:laidOutB C.prog=true) (hread:∀t∈fn.params.toList,C.prog.readableRec t=true/\t<C.prog.types.size)
  (hvars:s.vars=[]) (hres:fn.resultTypes=#[tb]) (DZ:C.prog.underlying tb=some .bool)
  (Mw:∀ds:List (DataW H),ds.length=fn.params.size->s.fn H (ds++[])={ results:=[.lit (.bool true)],args:=ds })
  (contract:∀(W:World) (base:Nat) (args:Array Value) (ds:List (DataW H)) (ps:List MemPlace),
   (∀(j:Nat) t v,fn.params[j]?=some t->args[j]?=some v->Value.okWide C.prog W .any base t v) ->
   DataW.TrodAll enc C.prog W 0 (fun _=>true) true fn.params.toList args.toList ds ps ->
   (∀x∈ps,x.block<W.heap.size) ->
   (DataW.weightsEach C.prog fn.params.toList ds).all (·<=reachBytes)=true->laidMetH C.prog L W ->
   Calls C.prog f args W fun e W'=>e = .returned (.bool true)/\ah W W') :
  ReturnsInHanded {} C os f .any (fun w args=>(s.pre enc C.prog fn [] false w args/\laidMetH C.prog L w)/\sizedMet enc C.prog fn (OpenSpec.ofChange s) false w args) (s.post enc C.prog fn false true false false):=by
 refine returnsInHanded_of_change_and (C:=C) (X:=fun w _=>laidMetH C.prog L w) (fun _ _ _ hh h=>h.of_heap hh) own started noInit hfn witness ?_
 intro W base args ds gs before hval hW _ hsz hL _
 have hW':=hW
 obtain⟨p,q,hA,hV,rfl,hfz,hnd⟩:=hW
 rw [hvars]at hV
 obtain⟨rfl,rfl⟩:=trodVars_none hV
 have hlt:∀x∈p,x.block<W.heap.size:=fun x hx=>hW'.lt x (by simp [hx])
 have PL:s.plain.varTypes C.prog=[]:=by simp [ChangeSpec.plain,DataSpec.varTypes,hvars]
 rw [PL]at hsz
 simp only [nM]at hsz
 refine(contract W base args ds p hval hA hlt hsz hL).mono fun e W' ⟨he,hb⟩=>?_
 subst he
 have hlen:ds.length=fn.params.size:=by
  have:∀{ts:List TypeId} {vs:List Value} {ds:List (DataW H)} {ps:List MemPlace},DataW.TrodAll enc C.prog W 0 (fun _=>true) true ts vs ds ps->ds.length=ts.length:=by
   intro ts
   induction ts with
   |nil=>intro vs ds ps h;obtain⟨rfl,rfl,rfl⟩:=trodAll_nil h;rfl
   |cons t ts ih=>
    intro vs ds ps h
    obtain⟨v,vs',d,ds',p,q,rfl,rfl,rfl,h1,h2⟩:=trodAll_cons h
    simp [ih h2]
  simpa using this hA
 refine⟨_,rfl,ds,[],p++[],[],p,[],hW',?_,?_,?_,hb.frame _,fun h=>by cases h⟩
 ·rw [Mw ds hlen,hres]
  exact trodAll_mk1 (shut_bool DZ true)
 ·rw [Mw ds hlen]
  exact Ab hl hb hread hA hlt
 ·rw [Mw ds hlen,hvars]
  rfl
structure bS (w:World):Prop where
 lt:0<w.heap.size
 c0:w.cell? ⟨0,0,none⟩=some (.int .i64 1)
 c1:w.cell? ⟨0,1,none⟩=some (.int .i64 60)
 c2:w.cell? ⟨0,2,none⟩=some (.int .i64 3600)
theorem bS.below {w w':World} (h:bS w) (hb:ah w w'):bS w':=
 ⟨mE h.lt hb.size,(hb.cell (p:=⟨_,_,none⟩) h.lt).trans h.c0,(hb.cell (p:=⟨_,_,none⟩) h.lt).trans h.c1,(hb.cell (p:=⟨_,_,none⟩) h.lt).trans h.c2⟩
theorem za (w:World):(Instr.index 88 (.agg #[.int .i64 1, .int .i64 60, .int .i64 3600]) (.int .i64 0)).run Tryd.prog w = .ok (.int .i64 1) w:=by
 unfold Instr.index
 simp [go_sem]
theorem yZ (w:World):(Instr.index 88 (.agg #[.int .i64 1, .int .i64 60, .int .i64 3600]) (.int .i64 1)).run Tryd.prog w = .ok (.int .i64 60) w:=by
 unfold Instr.index
 simp [go_sem]
theorem yY (w:World):(Instr.index 88 (.agg #[.int .i64 1, .int .i64 60, .int .i64 3600]) (.int .i64 2)).run Tryd.prog w = .ok (.int .i64 3600) w:=by
 unfold Instr.index
 simp [go_sem]
abbrev Dy : List (String × DataW Unit) := [("winnower/base.sizes", Rows.laid_winnower_base_sizes)]
theorem Tryd.Nc : Tryd.prog.globalNamed "winnower/base.sizes" = some 0 := by kernel_rfl
theorem Tryd.R5:(Tryd.prog.globals[0]?).map (·.type)=some 88:=cy
theorem Tryd.Hf:Tryd.prog.cellsOf 88=3:=cy
theorem Ae {W:World} (h:laidMetH Tryd.prog Dy W):bS W:=by
 rw [MakeChecks.laidMetH_plain _ _ _ cy]at h
 obtain⟨ps,⟨g0,t0,cs0,f0,p0,q0,hg0,ht0,hv0,hd0,_,_⟩,_⟩:=h
 obtain rfl:=dw (Tryd.Nc.symm.trans hg0)
 obtain rfl:=dw (Tryd.R5.symm.trans ht0)
 obtain⟨xs,m1,rfl,hx1,hlen,U4,hel⟩:=DataW.trod_array Tryd.underlying88 hd0
 rw [Tryd.Hf]at hlen
 simp only [jK]at hx1
 have cells:∀(i:Nat) (n:Int),i<3->(xs.map (·.1))[i]?=some (.lit (.int .i64 n))->cs0[i]?=some (.int .i64 n):=by
  intro i n hi hn
  have hi':i<xs.length:=af
  have h1:=hel i hi
  rw [oL hi']at h1
  obtain⟨k,e1,e2,_⟩:=DataW.trod_int Tryd.underlying3 h1
  rw [Tryd.EG,Nat.mul_one]at e1
  have h2:=take_one e1
  rw [List.getElem?_map,oL hi']at hn
  simp only [Option.map_some,iE]at hn
  have e3:=congrArg (·.1) e2
  simp only at e3
  rw [hn]at e3
  obtain rfl:k=n:=by simpa using e3.symm
  simpa using h2
 have hm:xs.map (·.1)=[.lit (.int .i64 1), .lit (.int .i64 60), .lit (.int .i64 3600)]:=(DataW.agg.inj (show DataW.agg [.lit (.int .i64 1), .lit (.int .i64 60), .lit (.int .i64 3600)]=DataW.agg (xs.map (·.1))from hx1.1)).symm
 have hc:∀(i:Nat) (n:Int),i<3->(xs.map (·.1))[i]?=some (.lit (.int .i64 n))->W.cell? ⟨0,i,none⟩=some (.int .i64 n):=fun i n hi hn=>
  (World.var?_cell Tryd.Nc hv0 i).trans (cells i n hi hn)
 have c0:=hc 0 1 af (by rw [hm];rfl)
 refine⟨?_,c0,hc 1 60 af (by rw [hm];rfl),hc 2 3600 af (by rw [hm];rfl)⟩
 by_cases hb:0<W.heap.size
 ·exact hb
 ·simp [World.cell?,Array.getElem?_eq_none (Nat.le_of_not_lt hb)]at c0
theorem Ns (os:Os) (args:Array Value):laidMetH Tryd.prog Dy ((World.doorLaid Tryd.prog 14 os).forCall (fun _ _=>0) ⟨#[],args,[]⟩).memory:=
 laidMetH_of_parts3 (fuel:=8) (laidMet_of_run' 8 cy cy) cy cy
end Go.Proofs.YtmljjfhgciaceaaDoor
