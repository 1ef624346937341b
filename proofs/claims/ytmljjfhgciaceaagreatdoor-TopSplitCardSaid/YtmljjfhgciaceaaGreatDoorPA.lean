/- Texts of mine that come as one: Plain Data Bag Vis All Get RiseP HeightP NodeP WithP AllP SearchP GetP MergedP BaseP Gen Open GenLaid. -/
import Derived.Test.YtmljjfhgciaceaaGreatDoorHd
import Derived.ProofKit
import Derived.SizedLaws
import Derived.Below
import Derived.Carry
import Derived.Test.YtmljjfhgciaceaaGreatDoorRows
import Derived.Lib.SmallJoins
import Derived.Test.YtmljjfhgciaceaaGreatDoorTie
import Derived.LaidMore
import Derived.MakeChecks
import Derived.OpenShut
import Derived.Stop.Joined
import Derived.SevenTiedAt
import Derived.Handed
import Derived.LaidHandle
namespace Go.Proofs.YtmljjfhgciaceaaGreatDoor
section
variable {n m:Int}
structure av where
 c:Int
 s:Int
 mi:Int
 ma:Int
 t:Int
 l:Int
 deriving DecidableEq,Inhabited
def within (n most:Int):Bool:=decide (-most<=n) && decide (n<=most)
def inR (n low high:Int):Bool:=decide (low<=n) && decide (n<=high)
def av.zero:av:=⟨0,0,0,0,0,0⟩
def av.ranged (r:av):Prop:=0<=r.c/\r.c<=1073741824/\-1125899906842624<=r.s/\r.s<=1125899906842624/\-1000000<=r.mi/\r.mi<=1000000/\-1000000<=r.ma/\r.ma<=1000000 /\
 -1000000<=r.l/\r.l<=1000000/\0<=r.t/\r.t<=1048575
instance (r:av):Decidable r.ranged:=by unfold av.ranged;infer_instance
def av.formed (r:av):Prop:=r.mi<=r.l/\r.l<=r.ma/\r.c*r.mi<=r.s/\r.s<=r.c*r.ma
instance (r:av):Decidable r.formed:=by unfold av.formed;infer_instance
def aj (r:av):Int:=if r.ranged then(if r.c=0 then(if r=av.zero then 0 else 4)else if r.formed then 0 else 4)else 2
def eH (time value:Int):av×Int:=if 0<=time/\time<=1048575/\-1000000<=value/\value<=1000000 then(⟨1,value,value,value,time,value⟩,0) else(av.zero,2)
def av.join (a b:av):av:=
 if b.c=0 then a else if a.c=0 then b else
 {c:=a.c+b.c,s:=a.s+b.s,mi:=min a.mi b.mi,ma:=max a.ma b.ma,
  t:=if a.t<b.t\/(a.t=b.t/\a.l<b.l)then b.t else a.t,l:=if a.t<b.t\/(a.t=b.t/\a.l<b.l)then b.l else a.l }
def bL (a b:av):av×Int:=
 if aj a≠0 then(av.zero,aj a)else if aj b≠0 then(av.zero,aj b) else
 if a.c=0\/b.c=0 then(a.join b,0) else
 if a.c+b.c>1073741824\/within (a.s+b.s) 1125899906842624=false then(av.zero,1) else(a.join b,0)
theorem wS:within n m=true↔-m<=n/\n<=m:=by simp [within]
theorem BL:within n m=false↔n < -m\/m<n:=by simp [within];omega
theorem rc2 {r:av} (h:¬r.ranged):aj r=2:=by simp [aj,h]
theorem Z3 {r:av} (h:r=av.zero):aj r=0:=by subst h;decide
theorem Z1 {r:av} (h:r.ranged) (hc:r.c=0) (hz:r≠av.zero):aj r=4:=by simp [aj,h,hc,hz]
theorem YO {r:av} (h:r.ranged) (hc:r.c≠0) (hf:r.formed):aj r=0:=by simp [aj,h,hc,hf]
theorem rc4 {r:av} (h:r.ranged) (hc:r.c≠0) (hf:¬r.formed):aj r=4:=by simp [aj,h,hc,hf]
theorem rX {c:Int} (h0:0<=c) (h1:c<=1073741824) (h2 : -1000000<=m) (h3:m<=1000000) : -1073741824000000<=c*m/\c*m<=1073741824000000:=by
 have a1:c*m<=c*1000000:=Ky h3 h0
 have a2:c*(-1000000)<=c*m:=Ky h2 h0
 omega
end
section
variable {r a b:av}
structure aA where
 key:Int
 is:av
 deriving DecidableEq,Inhabited
structure Nd where
 leaf:Bool
 aF:List aA
 keys:List Int
 kids:List Int
 buf:List aA
 deriving DecidableEq,Inhabited
structure Tr where
 nodes:List Nd
 root:Int
 deriving DecidableEq,Inhabited
def av.Good (r:av):Prop:=0<r.c/\-1000000<=r.mi/\r.mi<=1000000/\-1000000<=r.ma/\r.ma<=1000000/\-1000000<=r.l/\r.l<=1000000/\0<=r.t/\r.t<=1048575 /\
 r.mi<=r.l/\r.l<=r.ma/\r.c*r.mi<=r.s/\r.s<=r.c*r.ma
def av.iq (r:av):Prop:=r=av.zero\/r.Good
theorem rq (h:r.Good) (hc:r.c<=1073741824) : -1125899906842624<=r.s/\r.s<=1125899906842624:=by
 obtain⟨h0,h1,h2,h3,h4,h5,h6,h7,h8,h9,h10,h11,h12⟩:=h
 have a1:=rX (c:=r.c) (m:=r.mi) af hc h1 h2
 have a2:=rX (c:=r.c) (m:=r.ma) af hc h3 h4
 omega
theorem nu (h:r.Good) (hc:r.c<=1073741824):aj r=0:=by
 have hs:=rq h hc
 obtain⟨h0,h1,h2,h3,h4,h5,h6,h7,h8,h9,h10,h11,h12⟩:=h
 exact YO (by unfold av.ranged;omega) af (by unfold av.formed;omega)
theorem cp (h:aj r=0) (hc:r.c≠0):r.Good/\r.c<=1073741824:=by
 unfold aj at h
 split at h
 ·rename_i hr
  split at h
  ·rename_i hf
   unfold av.ranged at hr;unfold av.formed at hf
   unfold av.Good
   omega
  ·cases h
 ·cases h
theorem AH (h:aj r=0) (hc:r.c=0):r=av.zero:=by
 unfold aj at h
 split at h
 ·split at h
  ·assumption
  ·cases h
 ·cases h
theorem fh (r:av):aj r=0↔r.iq/\r.c<=1073741824:=by
 constructor
 ·intro h
  by_cases hc:r.c=0
  ·exact⟨.inl (AH h hc),af⟩
  ·have:=cp h hc;exact⟨.inr this.1,this.2⟩
 ·rintro⟨rfl|h,hc⟩
  ·decide
  ·exact nu h hc
theorem av.iq.pos (h:r.iq):0<=r.c:=by
 rcases h with rfl|h
 ·decide
 ·have:=h.1;omega
theorem av.iq.good (h:r.iq) (hc:r.c≠0):r.Good:=by
 rcases h with rfl|h
 ·exact absurd rfl hc
 ·exact h
theorem si:av.zero.iq:= .inl rfl
theorem av.iq.zero (h:r.iq) (hc:r.c=0):r=av.zero:=by
 rcases h with rfl|h
 ·rfl
 ·have:=h.1;omega
theorem cY (a:av):a.join av.zero=a:=by simp [av.join,av.zero]
theorem eF (h:a.iq):av.zero.join a=a:=by
 rcases h with rfl|h
 ·decide
 ·have:=h.1
  simp only [av.join]
  rw [ai af,ar (by rfl)]
theorem dJ (a b:av):(a.join b).c=a.c+b.c:=by
 unfold av.join
 split
 ·omega
 ·split
  ·omega
  ·rfl
theorem rZ (ha:a.Good) (hb:b.Good):(a.join b).Good:=by
 obtain⟨h0,h1,h2,h3,h4,h5,h6,h7,h8,h9,h10,h11,h12⟩:=ha
 obtain⟨g0,g1,g2,g3,g4,g5,g6,g7,g8,g9,g10,g11,g12⟩:=hb
 unfold av.join
 rw [ai af,ai af]
 have l1:(a.c+b.c)*min a.mi b.mi<=a.s+b.s:=by
  have e1:a.c*min a.mi b.mi<=a.c*a.mi:=Ky af af
  have e2:b.c*min a.mi b.mi<=b.c*b.mi:=Ky af af
  rw [Int.add_mul];omega
 have l2:a.s+b.s<=(a.c+b.c)*max a.ma b.ma:=by
  have e1:a.c*a.ma<=a.c*max a.ma b.ma:=Ky af af
  have e2:b.c*b.ma<=b.c*max a.ma b.ma:=Ky af af
  rw [Int.add_mul];omega
 unfold av.Good
 simp only
 refine⟨af,af,af,af,af,?_,?_,?_,?_,?_,?_,l1,l2⟩ <;> split <;> omega
theorem iA (ha:a.iq) (hb:b.iq):(a.join b).iq:=by
 rcases hb with rfl|hb
 ·rw [cY];exact ha
 ·rcases ha with rfl|ha
  ·rw [eF (.inr hb)];exact .inr hb
  ·exact .inr (rZ ha hb)
theorem join_eq (ha:a.c≠0) (hb:b.c≠0):a.join b=⟨a.c+b.c,a.s+b.s,min a.mi b.mi,max a.ma b.ma,if a.t<b.t\/(a.t=b.t/\a.l<b.l)then b.t else a.t,if a.t<b.t\/(a.t=b.t/\a.l<b.l)then b.l else a.l⟩:=by
 unfold av.join;rw [ai hb,ai ha]
theorem Db (h1:a.c=b.c) (h2:a.s=b.s) (h3:a.mi=b.mi) (h4:a.ma=b.ma) (h5:a.t=b.t) (h6:a.l=b.l):a=b:=by
 cases a;cases b;simp_all
theorem join_comm (ha:a.iq) (hb:b.iq):a.join b=b.join a:=by
 rcases hb with rfl|hb
 ·rw [cY,eF ha]
 ·rcases ha with rfl|ha
  ·rw [cY,eF (.inr hb)]
  ·have:=ha.1;have:=hb.1
   rw [join_eq af af,join_eq af af]
   refine Db ?_ ?_ ?_ ?_ ?_ ?_ <;> simp only
   ·omega
   ·omega
   ·omega
   ·omega
   ·split <;> split <;> omega
   ·split <;> split <;> omega
theorem join_assoc {c:av} (ha:a.iq) (hb:b.iq) (hc:c.iq):(a.join b).join c=a.join (b.join c):=by
 rcases hc with rfl|hc
 ·rw [cY,cY]
 ·rcases hb with rfl|hb
  ·rw [cY,eF (.inr hc)]
  ·rcases ha with rfl|ha
   ·rw [eF (.inr hb),eF (.inr (rZ hb hc))]
   ·have:=ha.1;have:=hb.1;have:=hc.1
    have e1:(a.join b).c≠0:=by rw [dJ];omega
    have e2:(b.join c).c≠0:=by rw [dJ];omega
    have f1:a.join b=⟨a.c+b.c,a.s+b.s,min a.mi b.mi,max a.ma b.ma,if a.t<b.t\/(a.t=b.t/\a.l<b.l)then b.t else a.t,if a.t<b.t\/(a.t=b.t/\a.l<b.l)then b.l else a.l⟩:=by
     unfold av.join;rw [ai af,ai af]
    have f2:b.join c=⟨b.c+c.c,b.s+c.s,min b.mi c.mi,max b.ma c.ma,if b.t<c.t\/(b.t=c.t/\b.l<c.l)then c.t else b.t,if b.t<c.t\/(b.t=c.t/\b.l<c.l)then c.l else b.l⟩:=by
     unfold av.join;rw [ai af,ai af]
    have g1:∀x:av,x.c≠0->x.join c=⟨x.c+c.c,x.s+c.s,min x.mi c.mi,max x.ma c.ma,if x.t<c.t\/(x.t=c.t/\x.l<c.l)then c.t else x.t,if x.t<c.t\/(x.t=c.t/\x.l<c.l)then c.l else x.l⟩:=fun x hx=>by
     unfold av.join;rw [ai af,ai hx]
    have g2:∀x:av,x.c≠0->a.join x=⟨a.c+x.c,a.s+x.s,min a.mi x.mi,max a.ma x.ma,if a.t<x.t\/(a.t=x.t/\a.l<x.l)then x.t else a.t,if a.t<x.t\/(a.t=x.t/\a.l<x.l)then x.l else a.l⟩:=fun x hx=>by
     unfold av.join;rw [ai hx,ai af]
    rw [g1 _ e1,g2 _ e2,f1,f2]
    simp only
    refine Db ?_ ?_ ?_ ?_ ?_ ?_ <;> simp only
    ·omega
    ·omega
    ·omega
    ·omega
    ·by_cases p:a.t<b.t\/(a.t=b.t/\a.l<b.l) <;> by_cases q:b.t<c.t\/(b.t=c.t/\b.l<c.l) <;> simp only [p,q,if_true,if_false] <;> split <;> (try split) <;> omega
    ·by_cases p:a.t<b.t\/(a.t=b.t/\a.l<b.l) <;> by_cases q:b.t<c.t\/(b.t=c.t/\b.l<c.l) <;> simp only [p,q,if_true,if_false] <;> split <;> (try split) <;> omega
theorem iP (ha:aj a=0) (hb:aj b=0):bL a b=if a.c+b.c<=1073741824 then(a.join b,0) else(av.zero,1):=by
 obtain⟨fa,ca⟩:=(fh a).1 ha
 obtain⟨fb,cb⟩:=(fh b).1 hb
 have pa:=fa.pos
 have pb:=fb.pos
 unfold bL
 rw [ai (by simp [ha]),ai (by simp [hb])]
 by_cases h0:a.c=0\/b.c=0
 ·rw [ar h0,ar af]
 ·rw [ai h0]
  by_cases h1:a.c+b.c<=1073741824
  ·rw [ar h1]
   have hg:=rZ (fa.good af) (fb.good af)
   have hc:=dJ a b
   have hs:=rq hg af
   have es:(a.join b).s=a.s+b.s:=by unfold av.join;rw [ai af,ai af]
   rw [es]at hs
   rw [ai]
   simp [within]
   omega
  ·rw [ai h1,ar (.inl af)]
theorem oU (ha:aj a=0) (hb:aj b=0) (hc:a.c+b.c<=1073741824):bL a b=(a.join b,0)/\aj (a.join b)=0:=by
 obtain⟨fa,ca⟩:=(fh a).1 ha
 obtain⟨fb,cb⟩:=(fh b).1 hb
 refine⟨by rw [iP ha hb,ar hc],(fh _).2 ⟨iA fa fb,by rw [dJ a b];exact hc⟩⟩
end
section
variable {e x:aA} {k:Int} {l a b m:List aA}
def iy (l:List aA):Prop:=∀e∈l,e.is.iq
def aW (l:List aA):Prop:=∀e∈l,e.is.Good
def Checked (l:List aA):Prop:=∀e∈l,e.is.c≠0/\aj e.is=0
def aX (l:List aA):Prop:=l.Pairwise fun a b=>a.key<b.key
theorem aW.dD (h:aW l):iy l:=fun e he=> .inr (h e he)
theorem Checked.bP (h:Checked l):aW l:=fun e he=>(cp (h e he).2 (h e he).1).1
theorem iy.cons (h:iy (e::l)):e.is.iq/\iy l:=⟨h e bt,fun x hx=>h x (by simp [hx])⟩
theorem aW.cons (h:aW (e::l)):e.is.Good/\aW l:=⟨h e bt,fun x hx=>h x (by simp [hx])⟩
def look:List aA->Int->av
 |[],_=>av.zero
 |e::l,k=>if e.key=k then e.is.join (look l k)else look l k
theorem cX (h:iy l) (k:Int):(look l k).iq:=by
 induction l with
 |nil=>exact si
 |cons e l ih=>
  have:=h.cons
  unfold look
  split
  ·exact iA this.1 (ih this.2)
  ·exact ih this.2
theorem lZ (ha:iy a) (hb:iy b) (k:Int):look (a++b) k=(look a k).join (look b k):=by
 induction a with
 |nil=>simp only [List.nil_append,look];rw [eF (cX hb k)]
 |cons e l ih=>
  have:=ha.cons
  simp only [List.cons_append,look]
  split
  ·rw [ih this.2,join_assoc this.1 (cX this.2 k) (cX hb k)]
  ·exact ih this.2
theorem iz (h:∀e∈l,e.key≠k):look l k=av.zero:=by
 induction l with
 |nil=>rfl
 |cons e l ih=>
  unfold look
  rw [ai (h e bt)]
  exact ih fun x hx=>h x (by simp [hx])
theorem oV (h:a.Perm b) (ha:iy a) (k:Int):look a k=look b k:=by
 induction h with
 |nil=>rfl
 |cons x _ ih=>simp only [look];rw [ih ha.cons.2]
 |swap x y l=>
  have h1:=ha.cons
  have h2:=h1.2.cons
  simp only [look]
  split <;> split
  ·rw [<-join_assoc h1.1 h2.1 (cX h2.2 k),<-join_assoc h2.1 h1.1 (cX h2.2 k),join_comm h1.1 h2.1]
  ·rfl
  ·rfl
  ·rfl
 |trans p _ ih1 ih2=>
  rw [ih1 ha,ih2 fun e he=>ha e (p.mem_iff.2 he)]
theorem vV (h:aW l) (hk:∃e∈l,e.key=k):(look l k).Good:=by
 obtain⟨e,he,hk⟩:=hk
 have hf:=cX h.dD k
 refine hf.good ?_
 induction l with
 |nil=>cases he
 |cons x l ih=>
  have hc:=h.cons
  have hf2:=(cX hc.2.dD k)
  have p1:=hf2.pos
  unfold look
  by_cases hx:x.key=k
  ·rw [ar hx,dJ];have:=hc.1.1;omega
  ·rw [ai hx]
   rcases eZ.1 he with rfl|he
   ·exact absurd hk hx
   ·exact ih hc.2 he hf2
theorem fY (h:aX l) (he:e∈l):look l e.key=e.is:=by
 induction l with
 |nil=>cases he
 |cons x l ih=>
  have hp:=rE.1 h
  unfold look
  rcases eZ.1 he with rfl|he
  ·rw [ar rfl,iz (fun y hy=>by have:=hp.1 y hy;omega),cY]
  ·rw [ai (by have:=hp.1 e he;omega)];exact ih hp.2 he
theorem oY:∀{a b:List aA},aX a->aX b->aW a->aW b->(∀k,look a k=look b k)->a=b
 |[],[],_,_,_,_,_=>rfl
 |[],e::l,_,hb,_,gb,h=>by
  have:=vV gb (k:=e.key) ⟨e,bt,rfl⟩
  rw [<-h e.key]at this
  exact absurd this.1 (by simp [look,av.zero])
 |e::l,[],ha,_,ga,_,h=>by
  have:=vV ga (k:=e.key) ⟨e,bt,rfl⟩
  rw [h e.key]at this
  exact absurd this.1 (by simp [look,av.zero])
 |e::l,f::m,ha,hb,ga,gb,h=>by
  have pa:=rE.1 ha
  have pb:=rE.1 hb
  have mem:∀{x:aA} {c d:List aA},x∈c->aW c->(∀k,look c k=look d k)->∃y∈d,y.key=x.key:=by
   intro x c d hx gc hcd
   by_cases hd:∃y∈d,y.key=x.key
   ·exact hd
   ·have e1:look d x.key=av.zero:=iz fun y hy hk=>hd ⟨y,hy,hk⟩
    have e2:=vV gc (k:=x.key) ⟨x,hx,rfl⟩
    rw [hcd,e1]at e2
    exact absurd e2.1 aY
  have hk:e.key=f.key:=by
   obtain⟨y,hy,e1⟩:=mem (x:=e) bt ga h
   obtain⟨z,hz,e2⟩:=mem (x:=f) bt gb fun k=>(h k).symm
   rcases eZ.1 hy with rfl|hy
   ·exact e1.symm
   ·rcases eZ.1 hz with rfl|hz
    ·exact e2
    ·have:=pb.1 y hy;have:=pa.1 z hz;omega
  have he:e.is=f.is:=by
   have e1:=fY ha (e:=e) bt
   have e2:=fY hb (e:=f) bt
   rw [h e.key,hk,e2]at e1
   exact e1.symm
  have Rg:e=f:=by cases e;cases f;simp_all
  subst Rg
  congr 1
  refine oY pa.2 pb.2 ga.cons.2 gb.cons.2 fun k=>?_
  by_cases hk':e.key=k
  ·rw [iz (fun y hy=>by have:=pa.1 y hy;omega),iz (fun y hy=>by have:=pb.1 y hy;omega)]
  ·have:=h k
   simpa [look,hk'] using this
def ins:List aA->aA->List aA
 |[],x=>[x]
 |e::l,x=>if e.key<x.key then e::ins l x else if e.key=x.key then⟨x.key,e.is.join x.is⟩::l else x::e::l
def jJ:List aA->aA->Option (List aA)
 |[],x=>some [x]
 |e::l,x=>if e.key<x.key then(jJ l x).map (e::·)else if e.key=x.key then(if e.is.c+x.is.c<=1073741824 then some (⟨x.key,e.is.join x.is⟩::l)else none)else some (x::e::l)
theorem qZ {y:aA} (h:y∈ins l x):y.key=x.key\/∃e∈l,e.key=y.key:=by
 induction l with
 |nil=>simp [ins]at h;exact .inl (by rw [h])
 |cons e l ih=>
  unfold ins at h
  split at h
  ·rcases eZ.1 h with rfl|h
   ·exact .inr ⟨y,bt,rfl⟩
   ·rcases ih h with h|⟨z,hz,hk⟩
    ·exact .inl h
    ·exact .inr ⟨z,by simp [hz],hk⟩
  ·split at h
   ·rcases eZ.1 h with rfl|h
    ·exact .inl rfl
    ·exact .inr ⟨y,by simp [h],rfl⟩
   ·rcases eZ.1 h with rfl|h
    ·exact .inl rfl
    ·exact .inr ⟨y,h,rfl⟩
theorem jI (h:aX l):aX (ins l x):=by
 induction l with
 |nil=>simp [ins,aX]
 |cons e l ih=>
  have hp:=rE.1 h
  unfold ins
  split
  ·refine rE.2 ⟨fun y hy=>?_,ih hp.2⟩
   rcases qZ hy with h|⟨z,hz,hk⟩
   ·omega
   ·have:=hp.1 z hz;omega
  ·split
   ·exact rE.2 ⟨fun y hy=>by have:=hp.1 y hy;simp only;omega,hp.2⟩
   ·refine rE.2 ⟨fun y hy=>?_,h⟩
    rcases eZ.1 hy with rfl|hy
    ·omega
    ·have:=hp.1 y hy;omega
theorem jQ (h:aW l) (hx:x.is.Good):aW (ins l x):=by
 induction l with
 |nil=>intro e he;simp [ins]at he;rw [he];exact hx
 |cons e l ih=>
  have hc:=h.cons
  unfold ins
  split
  ·intro y hy
   rcases eZ.1 hy with rfl|hy
   ·exact hc.1
   ·exact ih hc.2 y hy
  ·split
   ·intro y hy
    rcases eZ.1 hy with rfl|hy
    ·exact rZ hc.1 hx
    ·exact hc.2 y hy
   ·intro y hy
    rcases eZ.1 hy with rfl|hy
    ·exact hx
    ·exact h y hy
theorem oX (h:iy l) (hx:x.is.iq) (k:Int):look (ins l x) k=if x.key=k then(look l k).join x.is else look l k:=by
 induction l with
 |nil=>
  simp only [ins,look]
  split
  ·rw [cY,eF hx]
  ·rfl
 |cons e l ih=>
  have hc:=h.cons
  have hf:=cX hc.2 k
  unfold ins
  split
  ·unfold look
   rw [ih hc.2]
   by_cases h1:e.key=k
   ·rw [ar h1,ar h1,ai af,ai af]
   ·rw [ai h1,ai h1]
  ·split
   ·simp only [look]
    by_cases h1:x.key=k
    ·rw [ar h1,ar h1,ar af,join_assoc hc.1 hx hf,join_assoc hc.1 hf hx,join_comm hx hf]
    ·rw [ai h1,ai h1,ai af]
   ·simp only [look]
    by_cases h1:x.key=k
    ·rw [ar h1,ar h1,ai af,join_comm hx hf]
    ·rw [ai h1,ai h1]
theorem xZ (h:aX l) (hx:x.is.c<=1073741824):jJ l x=if (look l x.key).c+x.is.c<=1073741824 then some (ins l x)else none:=by
 induction l with
 |nil=>
  have:(look [] x.key).c+x.is.c<=1073741824:=by simpa [look,av.zero] using hx
  rw [ar this];rfl
 |cons e l ih=>
  have hp:=rE.1 h
  by_cases h1:e.key<x.key
  ·have e1:look (e::l) x.key=look l x.key:=by show (if e.key=x.key then _ else _)=_;rw [ai af]
   have e2:ins (e::l) x=e::ins l x:=by show (if e.key<x.key then _ else _)=_;rw [ar h1]
   have e3:jJ (e::l) x=(jJ l x).map (e::·):=by show (if e.key<x.key then _ else _)=_;rw [ar h1]
   rw [e1,e2,e3,ih hp.2]
   by_cases h2:(look l x.key).c+x.is.c<=1073741824
   ·rw [ar h2,ar h2];rfl
   ·rw [ai h2,ai h2];rfl
  ·have hl:look l x.key=av.zero:=iz fun y hy=>by have:=hp.1 y hy;omega
   by_cases h2:e.key=x.key
   ·have e1:look (e::l) x.key=e.is:=by show (if e.key=x.key then _ else _)=_;rw [ar h2,hl,cY]
    have e2:ins (e::l) x=⟨x.key,e.is.join x.is⟩::l:=by show (if e.key<x.key then _ else if e.key=x.key then _ else _)=_;rw [ai h1,ar h2]
    have e3:jJ (e::l) x=if e.is.c+x.is.c<=1073741824 then some (⟨x.key,e.is.join x.is⟩::l)else none:=by show (if e.key<x.key then _ else if e.key=x.key then _ else _)=_;rw [ai h1,ar h2]
    rw [e1,e2,e3]
   ·have e1:look (e::l) x.key=av.zero:=by show (if e.key=x.key then _ else _)=_;rw [ai h2,hl]
    have e2:ins (e::l) x=x::e::l:=by show (if e.key<x.key then _ else if e.key=x.key then _ else _)=_;rw [ai h1,ai h2]
    have e3:jJ (e::l) x=some (x::e::l):=by show (if e.key<x.key then _ else if e.key=x.key then _ else _)=_;rw [ai h1,ai h2]
    rw [e1,e2,e3,ar (by simpa [av.zero] using hx)]
def mo (l:List aA):List aA:=l.foldl ins []
def fo (l:List aA):Option (List aA):=l.foldlM jJ []
def Small (l:List aA):Prop:=∀k,(look l k).c<=1073741824
theorem wj (hm:aX m/\aW m) (hl:aW l):aX (l.foldl ins m)/\aW (l.foldl ins m)/\∀k,look (l.foldl ins m) k=(look m k).join (look l k):=by
 induction l generalizing m with
 |nil=>exact⟨hm.1,hm.2,fun k=>by simp [look,cY]⟩
 |cons x l ih=>
  have hc:=hl.cons
  obtain⟨a,b,c⟩:=ih ⟨jI hm.1,jQ hm.2 hc.1⟩ hc.2
  refine⟨a,b,fun k=>?_⟩
  simp only [List.foldl_cons]
  rw [c,oX hm.2.dD (.inr hc.1)]
  simp only [look]
  by_cases h:x.key=k
  ·rw [ar h,ar h,join_assoc (cX hm.2.dD k) (.inr hc.1) (cX hc.2.dD k)]
  ·rw [ai h,ai h]
theorem di (hl:aW l):aX (mo l):=(wj (m:=[]) ⟨List.Pairwise.nil,fun _ h=>by cases h⟩ hl).1
theorem eK (hl:aW l):aW (mo l):=(wj (m:=[]) ⟨List.Pairwise.nil,fun _ h=>by cases h⟩ hl).2.1
theorem fu (hl:aW l) (k:Int):look (mo l) k=look l k:=by
 have:=(wj (m:=[]) ⟨List.Pairwise.nil,fun _ h=>by cases h⟩ hl).2.2 k
 simp only [look]at this
 unfold mo;rw [this,eF (cX hl.dD k)]
theorem NC (h:a.Perm b) (ha:aW a):mo a=mo b:=by
 have hb:aW b:=fun e he=>ha e (h.mem_iff.2 he)
 refine oY (di ha) (di hb) (eK ha) (eK hb) fun k=>?_
 rw [fu ha,fu hb,oV h ha.dD]
theorem zR (hr:aX l) (hl:aW l):mo l=l:=
 oY (di hl) hr (eK hl) hl fun k=>fu hl k
theorem IG (ha:iy a) (hb:iy b) (k:Int):(look a k).c<=(look (a++b) k).c:=by
 rw [lZ ha hb,dJ];have:=(cX hb k).pos;omega
theorem bq:aW (a++b)↔aW a/\aW b:=
 ⟨fun h=>⟨fun e he=>h e (by simp [he]),fun e he=>h e (by simp [he])⟩,fun h e he=>by rcases kH.1 he with he|he;exact h.1 e he;exact h.2 e he⟩
theorem Checked.cons (h:Checked (x::l)):(x.is.c≠0/\aj x.is=0)/\Checked l:=⟨h x bt,fun y hy=>h y (by simp [hy])⟩
theorem Checked.le (h:Checked l):∀e∈l,e.is.c<=1073741824:=fun e he=>(cp (h e he).2 (h e he).1).2
open Classical in
theorem Ei (hm:aX m) (gm:aW m) (hl:Checked l) (hs:Small m) :
  l.foldlM jJ m=if Small (m++l)then some (l.foldl ins m)else none:=by
 induction l generalizing m with
 |nil=>rw [List.foldlM_nil,ar (by simpa using hs)];rfl
 |cons x l ih=>
  have hc:=hl.bP.cons
  have e1:look (m++x::l)=look ((ins m x)++l):=by
   funext k
   rw [lZ gm.dD hl.bP.dD,lZ (jQ gm hc.1).dD hc.2.dD,oX gm.dD (.inr hc.1)]
   simp only [look]
   by_cases h:x.key=k
   ·rw [ar h,ar h,join_assoc (cX gm.dD k) (.inr hc.1) (cX hc.2.dD k)]
   ·rw [ai h,ai h]
  have e2:Small (m++x::l)↔Small ((ins m x)++l):=by unfold Small;rw [e1]
  have hle:∀k,(look (ins m x) k).c<=(look (m++x::l) k).c:=fun k=>by rw [e1];exact IG (jQ gm hc.1).dD hc.2.dD k
  have hlx:=oX gm.dD (.inr hc.1:x.is.iq)
  rw [List.foldlM_cons,xZ hm (hl.le x bt)]
  by_cases h1:(look m x.key).c+x.is.c<=1073741824
  ·rw [ar h1]
   have hs':Small (ins m x):=fun k=>by
    rw [hlx]
    split
    ·rename_i h;subst h;rw [dJ];exact h1
    ·exact hs k
   show List.foldlM jJ (ins m x) l=_
   rw [ih (jI hm) (jQ gm hc.1) hl.cons.2 hs']
   by_cases h2:Small (m++x::l)
   ·rw [ar (e2.1 h2),ar h2];rfl
   ·rw [ai (fun h=>h2 (e2.2 h)),ai h2]
  ·rw [ai h1,ai]
   ·rfl
   ·intro h
    have:=hle x.key
    rw [hlx,ar rfl,dJ]at this
    have:=h x.key
    omega
open Classical in
theorem jD (hl:Checked l):fo l=if Small l then some (mo l)else none:=by
 have:=Ei (m:=[]) List.Pairwise.nil (fun _ h=>by cases h) hl (fun k=>by simp [look,av.zero])
 simpa [fo,mo] using this
theorem mZ (h:a.Perm b) (ha:iy a):Small a↔Small b:=by
 unfold Small;constructor <;> intro hs k
 ·rw [<-oV h ha];exact hs k
 ·rw [oV h ha];exact hs k
theorem Kt (h:a.Perm b) (ha:Checked a):fo a=fo b:=by
 have hb:Checked b:=fun e he=>ha e (h.mem_iff.2 he)
 rw [jD ha,jD hb,NC h ha.bP]
 by_cases hs:Small a
 ·rw [ar hs,ar ((mZ h ha.bP.dD).1 hs)]
 ·rw [ai hs,ai (fun h'=>hs ((mZ h ha.bP.dD).2 h'))]
theorem xy (hl:aW l) (hs:Small l):Checked (mo l):=fun e he=>by
 have hg:=eK hl e he
 refine⟨by have:=hg.1;omega,nu hg ?_⟩
 rw [<-fY (di hl) he,fu hl];exact hs _
theorem rh (hr:aX l) (hl:Checked l) (hx:x.is.Good) (hc:(look l x.key).c+x.is.c<=1073741824):Checked (ins l x):=fun e he=>by
 have hg:=jQ hl.bP hx e he
 refine⟨by have:=hg.1;omega,nu hg ?_⟩
 rw [<-fY (jI hr) he,oX hl.bP.dD (.inr hx)]
 split
 ·rename_i h;rw [<-h,dJ];exact hc
 ·rename_i h
  by_cases hm:∃y∈l,y.key=e.key
  ·obtain⟨y,hy,hk⟩:=hm
   rw [<-hk,fY hr hy];exact hl.le y hy
  ·rw [iz fun y hy hk=>hm ⟨y,hy,hk⟩];decide
end
section
variable {lo hi n:Int} {l S:List Int} {f h:Nat} {x:Nd} {t:Tr}
def dF (l:List aA) (lo hi:Int):Prop:=Checked l/\(∀e∈l,lo<=e.key/\e.key<hi)/\aX l
def Tr.dm (t:Tr) (n:Int):Option Nd:=if 0<=n then t.nodes[n.toNat]? else none
def mC (t:Tr) (n:Int) (x:Nd) (lo hi:Int):Prop:=x.keys=[]/\x.kids=[]/\x.buf=[]/\x.aF.length<=6/\(x.aF≠[]\/n=t.root)/\dF x.aF lo hi
def qq (x:Nd) (lo hi:Int):Prop:=x.aF=[]/\2<=x.kids.length/\x.kids.length<=4/\x.keys.length+1=x.kids.length/\x.buf.length<=8/\dF x.buf lo hi
def Nd.from (x:Nd) (lo:Int) (i:Nat):Int:=if i=0 then lo else x.keys.getD (i-1) 0
def Nd.upto (x:Nd) (hi:Int) (i:Nat):Int:=if i<x.keys.length then x.keys.getD i 0 else hi
open Classical in
def ct (go:Int->Int->Int->Option (List Int×Nat)) (x:Nd) (lo hi:Int):List Int->Nat->Option (List Int×Nat)
 |[],_=>some ([],0)
 |k::ks,i=>
  if x.from lo i<x.upto hi i/\lo<=x.from lo i/\x.upto hi i<=hi then
   match go k (x.from lo i) (x.upto hi i),ct go x lo hi ks (i+1) with
   |some (l,h),some (l',h')=>if h'=0\/h'=h then some (l++l',h)else none
   |_,_=>none
  else none
open Classical in
noncomputable def mH (t:Tr):Nat->Int->Int->Int->Option (List Int×Nat)
 |0,_,_,_=>none
 |f+1,n,lo,hi=>
  match t.dm n with
  |none=>none
  |some x=>
   if ¬lo<hi then none
   else if x.leaf=true then(if mC t n x lo hi then some ([n],1)else none)
   else if qq x lo hi then(ct (fun k a b=>mH t f k a b) x lo hi x.kids 0).map fun p=>(n::p.1,p.2+1)
   else none
open Classical in
def ni {σ:Type} (go:Int->Int->Int->σ->Option σ) (x:Nd) (lo hi:Int):List Int->Nat->σ->Option σ
 |[],_,s=>some s
 |k::ks,i,s=>
  if x.from lo i<x.upto hi i/\lo<=x.from lo i/\x.upto hi i<=hi then
   match go k (x.from lo i) (x.upto hi i) s with
   |none=>none
   |some s'=>ni go x lo hi ks (i+1) s'
  else none
open Classical in
noncomputable def dQ (t:Tr):Nat->Int->Int->Int->List Int×Int->Option (List Int×Int)
 |0,_,_,_,_=>none
 |f+1,n,lo,hi,s=>
  match t.dm n with
  |none=>none
  |some x=>
   if n∈s.1 then none
   else if x.leaf=true then(if (s.2=0\/s.2=12-(f:Int))/\mC t n x lo hi then some (n::s.1,12-(f:Int))else none)
   else if qq x lo hi then ni (fun k a b s=>dQ t f k a b s) x lo hi x.kids 0 (n::s.1,s.2)
   else none
theorem qL {go:Int->Int->Int->Option (List Int×Nat)} (hgo:∀k a b l h,go k a b=some (l,h)->1<=h) :
  ∀{ks:List Int} {i:Nat} {l:List Int} {h:Nat},ct go x lo hi ks i=some (l,h)->ks=[]\/1<=h
 |[],_,_,_,_=> .inl rfl
 |k::ks,i,l,h,hv=>by
  unfold ct at hv
  split at hv
  ·split at hv
   ·rename_i l1 h1 l2 h2 e1 e2
    split at hv
    ·simp only [iE,jM]at hv
     exact .inr (hv.2▸hgo _ _ _ _ _ e1)
    ·cases hv
   ·cases hv
  ·cases hv
theorem xV (hv:mH t f n lo hi=some (l,h)):1<=h:=by
 cases f with
 |zero=>cases hv
 |succ f=>
  unfold mH at hv
  split at hv
  ·cases hv
  ·split at hv
   ·cases hv
   ·split at hv
    ·split at hv
     ·simp only [iE,jM]at hv;omega
     ·cases hv
    ·split at hv
     ·obtain⟨p,_,hp⟩:=Option.map_eq_some_iff.1 hv
      simp only [jM]at hp;omega
     ·cases hv
theorem La (hv:mH t f n lo hi=some (l,h)):lo<hi:=by
 cases f with
 |zero=>cases hv
 |succ f=>
  unfold mH at hv
  split at hv
  ·cases hv
  ·split at hv
   ·cases hv
   ·rename_i h;exact Classical.not_not.1 h
def apart (l S:List Int):Prop:=l.Nodup/\∀x∈l,x∉S
theorem mQ {l':List Int}:apart (l++l') S↔apart l S/\apart l' (l.reverse++S):=by
 unfold apart
 rw [List.nodup_append]
 constructor
 ·rintro⟨⟨h1,h2,h3⟩,h4⟩
  refine⟨⟨h1,fun x hx=>h4 x (by simp [hx])⟩,h2,fun x hx hh=>?_⟩
  rcases kH.1 hh with hh|hh
  ·exact h3 x (by simpa using hh) x hx rfl
  ·exact h4 x (by simp [hx]) hh
 ·rintro⟨⟨h1,h2⟩,h3,h4⟩
  refine⟨⟨h1,h3,fun a ha b hb hab=>?_⟩,fun x hx=>?_⟩
  ·subst hab;exact h4 a hb (by simp [ha])
  ·rcases kH.1 hx with hx|hx
   ·exact h2 x hx
   ·exact fun hh=>h4 x hx (by simp [hh])
theorem Hq:apart (n::l) S↔n∉S/\apart l (n::S):=by
 have:=mQ (l:=[n]) (l':=l) (S:=S)
 simp only [List.singleton_append,List.reverse_singleton]at this
 rw [this]
 simp [apart]
theorem Kv (S:List Int):apart [] S:=by simp [apart]
open Classical in
theorem JM {go:Int->Int->Int->List Int×Int->Option (List Int×Int)} {gv:Int->Int->Int->Option (List Int×Nat)} {d:Int} (hd:0<=d)
  (hpos:∀k a b l h,gv k a b=some (l,h)->1<=h)
  (hgo:∀k a b S D,a<b->go k a b (S,D)=match gv k a b with|none=>none|some (l,h)=>if apart l S/\(D=0\/D=d+h)then some (l.reverse++S,d+h)else none) :
  ∀(ks:List Int) (i:Nat) (S:List Int) (D:Int),ni go x lo hi ks i (S,D)=match ct gv x lo hi ks i with
   |none=>none
   |some (l,h)=>if apart l S/\(h=0\/D=0\/D=d+h)then some (l.reverse++S,if h=0 then D else d+h)else none:=by
 intro ks
 induction ks with
 |nil=>intro i S D;simp [ni,ct,Kv]
 |cons k ks ih=>
  intro i S D
  unfold ni ct
  by_cases hc:x.from lo i<x.upto hi i/\lo<=x.from lo i/\x.upto hi i<=hi
  ·rw [ar hc,ar hc,hgo _ _ _ _ _ hc.1]
   cases hg:gv k (x.from lo i) (x.upto hi i) with
   |none=>rfl
   |some p=>
    obtain⟨l,h⟩:=p
    have hp:=hpos _ _ _ _ _ hg
    simp only
    by_cases h1:apart l S/\(D=0\/D=d+h)
    ·rw [ar h1]
     simp only
     rw [ih]
     cases hk:ct gv x lo hi ks (i+1) with
     |none=>rfl
     |some q=>
      obtain⟨l',h'⟩:=q
      simp only
      by_cases h2:h'=0\/h'=h
      ·rw [ar h2]
       simp only
       by_cases h3:apart l' (l.reverse++S)
       ·have c1:apart l' (l.reverse++S)/\(h'=0\/d+(h:Int)=0\/d+(h:Int)=d+h'):=⟨h3,af⟩
        have c2:apart (l++l') S/\(h=0\/D=0\/D=d+h):=⟨mQ.2 ⟨h1.1,h3⟩,af⟩
        rw [ar c1,ar c2,List.reverse_append,jn]
        congr 2
        by_cases h0:h'=0
        ·rw [ar h0,ai af]
        ·rw [ai h0,ai af];omega
       ·rw [ai (fun h=>h3 h.1),ai (fun h=>h3 (mQ.1 h.1).2)]
      ·rw [ai h2]
       have c1:¬(apart l' (l.reverse++S)/\(h'=0\/d+(h:Int)=0\/d+(h:Int)=d+h')):=fun h=>af
       rw [ai c1]
    ·rw [ai h1]
     cases hk:ct gv x lo hi ks (i+1) with
     |none=>rfl
     |some q=>
      obtain⟨l',h'⟩:=q
      simp only
      by_cases h2:h'=0\/h'=h
      ·rw [ar h2]
       have c2:¬(apart (l++l') S/\(h=0\/D=0\/D=d+h)):=fun hh=>h1 ⟨(mQ.1 hh.1).1,af⟩
       show none=ite _ _ _
       rw [ai c2]
      ·rw [ai h2]
  ·rw [ai hc,ai hc]
open Classical in
theorem JG:∀(f:Nat) (n lo hi:Int) (S:List Int) (D:Int),f<=12->lo<hi->dQ t f n lo hi (S,D)=match mH t f n lo hi with
   |none=>none
   |some (l,h)=>if apart l S/\(D=0\/D=12-f+h)then some (l.reverse++S,12-f+h)else none:=by
 intro f
 induction f with
 |zero=>intro n lo hi S D _ _;rfl
 |succ f ih=>
  intro n lo hi S D hf hlt
  unfold dQ mH
  cases hx:t.dm n with
  |none=>rfl
  |some x=>
   simp only
   rw [ai (iM hlt)]
   by_cases hl:x.leaf=true
   ·rw [ar hl,ar hl]
    by_cases hok:mC t n x lo hi
    ·rw [ar hok]
     simp only [apart,List.nodup_cons,List.not_mem_nil,not_false_eq_true,List.nodup_nil,and_self,ny,forall_eq,true_and,hok,and_true]
     by_cases hn:n∈S
     ·rw [ar hn,ai (fun h=>h.1 hn)]
     ·rw [ai hn]
      by_cases hD:D=0\/D=12-(f:Int)
      ·rw [ar hD,ar ⟨hn,af⟩];simp;omega
      ·rw [ai hD,ai (fun h=>hD af)]
    ·rw [ai hok]
     simp only [hok,and_false,if_false]
     split <;> rfl
   ·rw [ai hl,ai hl]
    by_cases hok:qq x lo hi
    ·rw [ar hok,ar hok,JM (gv:=fun k a b=>mH t f k a b) (d:=12-f) af (fun k a b l h hv=>xV hv) (fun k a b S D hab=>ih k a b S D af hab)]
     cases hk:ct (fun k a b=>mH t f k a b) x lo hi x.kids 0 with
     |none=>simp
     |some q=>
      obtain⟨l,h⟩:=q
      have hp:1<=h:=by
       rcases qL (fun k a b l h hv=>xV hv) hk with h0|h0
       ·have:=hok.2.1;rw [h0]at this;simp at this
       ·exact h0
      simp only [Option.map_some,Hq,List.reverse_cons,jn,List.singleton_append]
      by_cases hn:n∈S
      ·rw [ar hn,ai (fun h=>h.1.1 hn)]
      ·rw [ai hn]
       by_cases ha:apart l (n::S)/\(D=0\/D=12-(f:Int)+h)
       ·have c1:apart l (n::S)/\(h=0\/D=0\/D=12-(f:Int)+h):=⟨ha.1, .inr ha.2⟩
        have c2:(n∉S/\apart l (n::S))/\(D=0\/D=12-((f+1:Nat):Int)+((h+1:Nat):Int)):=⟨⟨hn,ha.1⟩,af⟩
        rw [ar c1,ar c2,ai af]
        congr 2;omega
       ·have c1:¬(apart l (n::S)/\(h=0\/D=0\/D=12-(f:Int)+h)):=fun h'=>ha ⟨h'.1,af⟩
        have c2:¬((n∉S/\apart l (n::S))/\(D=0\/D=12-((f+1:Nat):Int)+((h+1:Nat):Int))):=fun h'=>ha ⟨h'.1.2,af⟩
        rw [ai c1,ai c2]
    ·rw [ai hok,ai hok]
     simp
def lJ (t:Tr):Prop:=∃l h,mH t 12 t.root 0 1099511627776=some (l,h)/\l.Nodup/\l.length=t.nodes.length
open Classical in
noncomputable def ax (t:Tr):Int:=if 2000<t.nodes.length then 1 else if lJ t then 0 else 7
theorem qM {go:Int->Int->Int->Option (List Int×Nat)} {x:Nd} {lo hi:Int} {P:Int->Prop} (hgo:∀k a b l h,go k a b=some (l,h)->∀y∈l,P y) :
  ∀{ks:List Int} {i:Nat} {l:List Int} {h:Nat},ct go x lo hi ks i=some (l,h)->∀y∈l,P y
 |[],_,l,_,hv=>by simp [ct]at hv;intro y hy;rw [hv.1]at hy;cases hy
 |k::ks,i,l,h,hv=>by
  unfold ct at hv
  split at hv
  ·split at hv
   ·rename_i l1 h1 l2 h2 e1 e2
    split at hv
    ·simp only [iE,jM]at hv
     rw [<-hv.1]
     intro y hy
     rcases kH.1 hy with hy|hy
     ·exact hgo _ _ _ _ _ e1 y hy
     ·exact qM hgo e2 y hy
    ·cases hv
   ·cases hv
  ·cases hv
theorem BC (h:t.dm n=some x):0<=n/\n<t.nodes.length:=by
 unfold Tr.dm at h
 split at h
 ·rename_i h0
  have:=(gJ.1 h).1
  omega
 ·cases h
theorem Pb:∀{f:Nat} {n lo hi:Int} {l:List Int} {h:Nat},mH t f n lo hi=some (l,h)->∀y∈l,0<=y/\y<t.nodes.length:=by
 intro f
 induction f with
 |zero=>intro n lo hi l h hv;cases hv
 |succ f ih=>
  intro n lo hi l h hv
  unfold mH at hv
  split at hv
  ·cases hv
  ·rename_i x hx
   have hr:=BC hx
   split at hv
   ·cases hv
   ·split at hv
    ·split at hv
     ·simp only [iE,jM]at hv
      rw [<-hv.1];simp;exact hr
     ·cases hv
    ·split at hv
     ·obtain⟨p,hp,he⟩:=Option.map_eq_some_iff.1 hv
      simp only [jM]at he
      rw [<-he.1]
      intro y hy
      rcases eZ.1 hy with rfl|hy
      ·exact hr
      ·exact qM (P:=fun y=>0<=y/\y<t.nodes.length) (fun k a b l h hv=>ih hv) hp y hy
     ·cases hv
theorem ja {α:Type} [DecidableEq α]:∀{l m:List α},l.Nodup->(∀y∈l,y∈m)->l.length<=m.length
 |[],_,_,_=>bt
 |a::l,m,h,hs=>by
  have hn:=List.nodup_cons.1 h
  have ha:=hs a bt
  have:=ja (l:=l) (m:=m.erase a) hn.2 (fun y hy=>(List.mem_erase_of_ne (by rintro rfl;exact hn.1 hy)).2 (hs y (by simp [hy])))
  rw [List.length_erase_of_mem ha]at this
  have:=List.length_pos_of_mem ha
  simp only [fR];omega
theorem yS {α:Type} [DecidableEq α] {l m:List α} (h:l.Nodup) (hs:∀y∈l,y∈m) (hl:m.length<=l.length):∀y∈m,y∈l:=fun y hy=>by
 by_cases CN:y∈l
 ·exact CN
 ·have:=ja (l:=y::l) (m:=m) (List.nodup_cons.2 ⟨CN,h⟩) (fun z hz=>by rcases eZ.1 hz with rfl|hz;exact hy;exact hs z hz)
  simp only [fR]at this;omega
def Il (n:Nat):List Int:=(List.range n).map (fun i:Nat=>(i:Int))
theorem rN {n:Nat} {y:Int}:y∈Il n↔0<=y/\y<(n:Int):=by
 unfold Il
 rw [pn]
 constructor
 ·rintro⟨a,ha,rfl⟩;have:=List.mem_range.1 ha;omega
 ·intro h;exact⟨y.toNat,List.mem_range.2 af,af⟩
theorem pF (n:Nat):(Il n).length=n:=by simp [Il]
theorem AV (n:Nat):(Il n).Nodup:=by
 unfold Il
 exact List.pairwise_map.2 (List.Pairwise.imp (fun hab e=>hab (Int.ofNat.inj e)) List.nodup_range)
theorem Dn {n:Nat} (h:l.Nodup) (hr:∀y∈l,0<=y/\y<(n:Int)):l.length<=n:=by
 have:=ja (m:=Il n) h (fun y hy=>rN.2 (hr y hy))
 rwa [pF]at this
theorem vT {n:Nat} (h:l.Nodup) (hr:∀y∈l,0<=y/\y<(n:Int)):l.length=n↔∀i:Nat,i<n->(i:Int)∈l:=by
 constructor
 ·intro hl i hi
  exact yS (m:=Il n) h (fun y hy=>rN.2 (hr y hy)) (by rw [pF,hl];exact kT _) i (rN.2 af)
 ·intro hall
  have h1:=Dn h hr
  have h2:=ja (l:=Il n) (m:=l) (AV n) (fun y hy=>by
   have:=rN.1 hy
   have h3:=hall y.toNat af
   have h4:((y.toNat:Nat):Int)=y:=af
   rwa [h4]at h3)
  rw [pF]at h2
  omega
noncomputable def tK (t:Tr):Int:=if 2000<t.nodes.length then 1 else match dQ t 12 t.root 0 1099511627776 ([],0) with|none=>7|some (S,_)=>if S.length=t.nodes.length then 0 else 7
theorem ER:apart l []↔l.Nodup:=by simp [apart]
open Classical in
theorem Km (t:Tr):tK t=ax t:=by
 unfold tK ax
 split
 ·rfl
 ·rw [JG 12 _ _ _ _ _ af af]
  cases hv:mH t 12 t.root 0 1099511627776 with
  |none=>
   rw [ai]
   rintro⟨l,h,e,_⟩
   rw [hv]at e;cases e
  |some p=>
   obtain⟨l,h⟩:=p
   simp only [ER]
   by_cases hn:l.Nodup
   ·rw [ar ⟨hn, .inl trivial⟩]
    simp only [pq,List.length_reverse]
    by_cases hl:l.length=t.nodes.length
    ·rw [ar hl,ar ⟨l,h,hv,hn,hl⟩]
    ·rw [ai hl,ai]
     rintro⟨l',h',e,_,hl'⟩
     rw [hv]at e;simp only [iE,jM]at e
     rw [e.1]at hl;exact hl hl'
   ·rw [ai (fun h=>hn h.1),ai]
    rintro⟨l',h',e,hn',_⟩
    rw [hv]at e;simp only [iE,jM]at e
    rw [e.1]at hn;exact hn hn'
end
section
variable {lo hi a b:Int} {l:List aA} {t:Tr}
def aT (lo hi:Int) (e:aA):Bool:=decide (lo<=e.key) && decide (e.key<hi)
def Tr.all (t:Tr):List aA:=t.nodes.flatMap fun x=>x.aF++x.buf
def kG (t:Tr) (lo hi:Int):Option (List aA):=fo (t.all.filter (aT lo hi))
def ij (x:Nd) (lo hi:Int) (i:Nat):Bool:=(decide (i=0) || decide (x.keys.getD (i-1) 0<hi)) && (decide (i=x.keys.length) || decide (lo<x.keys.getD i 0))
def gH (go:Int->List aA) (x:Nd) (lo hi:Int):List Int->Nat->List aA
 |[],_=>[]
 |k::ks,i=>(if ij x lo hi i then go k else [])++gH go x lo hi ks (i+1)
def gG (t:Tr) (lo hi:Int):Nat->Int->List aA
 |0,_=>[]
 |f+1,n=>
  match t.dm n with
  |none=>[]
  |some x=>(x.buf++x.aF).filter (aT lo hi)++gH (fun k=>gG t lo hi f k) x lo hi x.kids 0
def Tr.of (t:Tr) (n:Int):List aA:=match t.dm n with|none=>[]|some x=>x.aF++x.buf
theorem G5 (h:∀e∈l,e.key<lo\/hi<=e.key):l.filter (aT lo hi)=[]:=by
 rw [List.filter_eq_nil_iff]
 intro e he
 have:=h e he
 simp [aT];omega
theorem Gk {x:Nd} {go:Int->List aA} {gv:Int->Int->Int->Option (List Int×Nat)}
  (hgo:∀k a b l h,gv k a b=some (l,h)->(go k).Perm ((l.flatMap t.of).filter (aT lo hi))/\∀e∈l.flatMap t.of,a<=e.key/\e.key<b) :
  ∀(ks:List Int) (i:Nat) (l:List Int) (h:Nat),i+ks.length<=x.keys.length+1->ct gv x a b ks i=some (l,h) ->
   (gH go x lo hi ks i).Perm ((l.flatMap t.of).filter (aT lo hi))/\∀e∈l.flatMap t.of,a<=e.key/\e.key<b:=by
 intro ks
 induction ks with
 |nil=>intro i l h _ hv;simp [ct]at hv;simp [gH,hv.1]
 |cons k ks ih=>
  intro i l h hi0 hv
  simp only [fR]at hi0
  unfold ct at hv
  split at hv
  ·rename_i hc
   split at hv
   ·rename_i l1 h1 l2 h2 e1 e2
    split at hv
    ·simp only [iE,jM]at hv
     obtain⟨rfl,-⟩:=hv
     obtain⟨p1,q1⟩:=hgo _ _ _ _ _ e1
     obtain⟨p2,q2⟩:=ih (i+1) l2 h2 af e2
     rw [sF,sG]
     refine⟨?_,fun e he=>?_⟩
     ·unfold gH
      refine List.Perm.append ?_ p2
      by_cases hg:ij x lo hi i=true
      ·rw [ar hg];exact p1
      ·rw [ai hg]
       rw [G5]
       intro e he
       have hr:=q1 e he
       simp only [ij,Bool.and_eq_true,Bool.or_eq_true,wI]at hg
       by_cases g1:i=0\/x.keys.getD (i-1) 0<hi
       ·left
        have g2:¬(i=x.keys.length\/lo<x.keys.getD i 0):=fun h=>hg ⟨g1,h⟩
        simp only [Nd.upto]at hr
        rw [ar af]at hr;omega
       ·right
        simp only [Nd.from]at hr
        rw [ai af]at hr;omega
     ·rcases kH.1 he with he|he
      ·have:=q1 e he;omega
      ·exact q2 e he
    ·cases hv
   ·cases hv
  ·cases hv
theorem pE:∀(f:Nat) (n a b:Int) (l:List Int) (h:Nat),mH t f n a b=some (l,h) ->
  (gG t lo hi f n).Perm ((l.flatMap t.of).filter (aT lo hi))/\(∀e∈l.flatMap t.of,a<=e.key/\e.key<b):=by
 intro f
 induction f with
 |zero=>intro n a b l h hv;cases hv
 |succ f ih=>
  intro n a b l h hv
  unfold mH at hv
  unfold gG
  cases hx:t.dm n with
  |none=>rw [hx]at hv;cases hv
  |some x=>
   rw [hx]at hv
   simp only at hv ⊢
   have hof:t.of n=x.aF++x.buf:=by unfold Tr.of;rw [hx]
   split at hv
   ·cases hv
   ·split at hv
    ·split at hv
     ·rename_i hok
      simp only [iE,jM]at hv
      obtain⟨rfl,-⟩:=hv
      obtain⟨k1,k2,k3,k4,k5,k6⟩:=hok
      simp only [gI,List.flatMap_nil,pq,hof,k2,k3,gH,List.nil_append]
      exact⟨List.Perm.refl _,k6.2.1⟩
     ·cases hv
    ·split at hv
     ·rename_i hok
      obtain⟨p,hp,he⟩:=Option.map_eq_some_iff.1 hv
      simp only [jM]at he
      obtain⟨rfl,-⟩:=he
      obtain⟨k1,k2,k3,k4,k5,k6⟩:=hok
      obtain⟨q1,q2⟩:=Gk (t:=t) (lo:=lo) (hi:=hi) (go:=fun k=>gG t lo hi f k) (fun k a b l h hv=>ih k a b l h hv) x.kids 0 p.1 p.2 af hp
      simp only [gI,hof,k1,List.nil_append,pq,sG]
      refine⟨List.Perm.append_left _ q1,fun e he=>?_⟩
      rcases kH.1 he with he|he
      ·exact k6.2.1 e he
      ·exact q2 e he
     ·cases hv
theorem zD {α:Type} (f:Nd->List α) (g:Nat->List α):∀(xs:List Nd) (s:Nat),(∀j x,xs[j]?=some x->g (s+j)=f x)->(List.range' s xs.length).flatMap g=xs.flatMap f
 |[],s,_=>rfl
 |x::xs,s,h=>by
  rw [fR,List.range'_succ,gI,gI,zD f g xs (s+1) (fun j y hy=>by rw [show s+1+j=s+(j+1)from by omega];exact h (j+1) y (by simpa using hy))]
  rw [show g s=f x from by simpa using h 0 x rfl]
theorem Ek (t:Tr):(Il t.nodes.length).flatMap t.of=t.all:=by
 unfold Il Tr.all
 rw [List.flatMap_map,List.range_eq_range']
 refine zD _ _ t.nodes 0 fun j x hx=>?_
 simp [Tr.of,Tr.dm,hx]
theorem yQ {l:List Int} {n:Nat} (h:l.Nodup) (hr:∀y∈l,0<=y/\y<(n:Int)) (hl:l.length=n):l.Perm (Il n):=by
 refine(List.perm_ext_iff_of_nodup h (AV n)).2 fun a=>⟨fun ha=>rN.2 (hr a ha),fun ha=>?_⟩
 exact yS (m:=Il n) h (fun y hy=>rN.2 (hr y hy)) (by rw [pF,hl];exact kT _) a ha
theorem ll {l:List Int} {h f:Nat} (hv:mH t f t.root a b=some (l,h)) (hn:l.Nodup) (hl:l.length=t.nodes.length):(l.flatMap t.of).Perm t.all:=by
 rw [<-Ek]
 exact List.Perm.flatMap_right _ (yQ hn (Pb hv) hl)
theorem qj {t:Tr} {x:Nd} {a b:Int} {gv:Int->Int->Int->Option (List Int×Nat)} (hgo:∀k a b l h,gv k a b=some (l,h)->Checked (l.flatMap t.of)) :
  ∀(ks:List Int) (i:Nat) (l:List Int) (h:Nat),ct gv x a b ks i=some (l,h)->Checked (l.flatMap t.of)
 |[],_,l,_,hv=>by simp [ct]at hv;rw [hv.1];intro e he;simp at he
 |k::ks,i,l,h,hv=>by
  unfold ct at hv
  split at hv
  ·split at hv
   ·rename_i l1 h1 l2 h2 e1 e2
    split at hv
    ·simp only [iE,jM]at hv
     rw [<-hv.1,sF]
     intro e he
     rcases kH.1 he with he|he
     ·exact hgo _ _ _ _ _ e1 e he
     ·exact qj hgo ks (i+1) l2 h2 e2 e he
    ·cases hv
   ·cases hv
  ·cases hv
theorem CV:∀(f:Nat) (n a b:Int) (l:List Int) (h:Nat),mH t f n a b=some (l,h)->Checked (l.flatMap t.of):=by
 intro f
 induction f with
 |zero=>intro n a b l h hv;cases hv
 |succ f ih=>
  intro n a b l h hv
  unfold mH at hv
  cases hx:t.dm n with
  |none=>rw [hx]at hv;cases hv
  |some x=>
   rw [hx]at hv
   simp only at hv
   have hof:t.of n=x.aF++x.buf:=by unfold Tr.of;rw [hx]
   split at hv
   ·cases hv
   ·split at hv
    ·split at hv
     ·rename_i hok
      simp only [iE,jM]at hv
      obtain⟨rfl,-⟩:=hv
      obtain⟨k1,k2,k3,k4,k5,k6⟩:=hok
      simp only [gI,List.flatMap_nil,pq,hof,k3]
      exact k6.1
     ·cases hv
    ·split at hv
     ·rename_i hok
      obtain⟨p,hp,he⟩:=Option.map_eq_some_iff.1 hv
      simp only [jM]at he
      obtain⟨rfl,-⟩:=he
      obtain⟨k1,k2,k3,k4,k5,k6⟩:=hok
      simp only [gI,hof,k1,List.nil_append]
      intro e he
      rcases kH.1 he with he|he
      ·exact k6.1 e he
      ·exact qj (fun k a b l h hv=>ih k a b l h hv) x.kids 0 p.1 p.2 hp e he
     ·cases hv
theorem cF (hv:lJ t):Checked t.all:=by
 obtain⟨l,h,e,hn,hl⟩:=hv
 intro x hx
 exact CV _ _ _ _ _ _ e x ((ll e hn hl).mem_iff.2 hx)
theorem lT (hv:lJ t):∀e∈t.all,0<=e.key/\e.key<1099511627776:=by
 obtain⟨l,h,e,hn,hl⟩:=hv
 intro x hx
 exact(pE (lo:=0) (hi:=0) _ _ _ _ _ _ e).2 x ((ll e hn hl).mem_iff.2 hx)
theorem iU {p:aA->Bool} (h:Checked l):Checked (l.filter p):=fun e he=>h e (ju.1 he).1
theorem all_eq (hv:lJ t) (lo hi:Int):fo (gG t lo hi 12 t.root)=kG t lo hi:=by
 have hc:=cF hv
 obtain⟨l,h,e,hn,hl⟩:=hv
 have hp:=(pE (lo:=lo) (hi:=hi) _ _ _ _ _ _ e).1
 have hq:=(ll e hn hl).filter (aT lo hi)
 exact Kt (hp.trans hq) (fun x hx=>iU hc x ((hp.trans hq).mem_iff.1 hx))
end
section
variable {key a b n:Int} {l:List aA} {f h:Nat} {x:Nd} {t:Tr}
def aZ (keys:List Int) (key:Int):Nat:=(keys.takeWhile fun k=>decide (k<=key)).length
theorem qX (keys:List Int) (key:Int):aZ keys key<=keys.length:=by
 unfold aZ
 have:=List.takeWhile_prefix (fun k=>decide (k<=key)) (l:=keys)
 exact this.length_le
theorem DG {keys:List Int} {j:Nat} (h:j<aZ keys key):keys.getD j 0<=key:=by
 unfold aZ at h
 have hp:=List.takeWhile_prefix (fun k=>decide (k<=key)) (l:=keys)
 have hl:j<keys.length:=mR h hp.length_le
 have e:(keys.takeWhile fun k=>decide (k<=key))[j]=keys[j]:=hp.getElem h
 have hm:(keys.takeWhile fun k=>decide (k<=key))[j]∈keys.takeWhile fun k=>decide (k<=key):=gj h
 have:=py.1 (List.all_takeWhile (p:=fun k=>decide (k<=key)) (l:=keys)) _ hm
 simp only [wI]at this
 rw [List.getD_eq_getElem?_getD,oG hl,Option.getD_some,<-e];exact this
theorem DI {keys:List Int} (h:aZ keys key<keys.length):key<keys.getD (aZ keys key) 0:=by
 induction keys with
 |nil=>simp at h
 |cons k ks ih=>
  unfold aZ at h ⊢
  by_cases hk:k<=key
  ·have e:((k::ks).takeWhile fun k=>decide (k<=key)).length=aZ ks key+1:=by simp [aZ,hk]
   rw [e]at h ⊢
   simp only [fR]at h
   simp only [List.getD_cons_succ]
   exact ih af
  ·have e:((k::ks).takeWhile fun k=>decide (k<=key)).length=0:=by simp [hk]
   rw [e]
   simp;omega
def oN (t:Tr) (key:Int):Nat->Int->List aA
 |0,_=>[]
 |f+1,n=>
  match t.dm n with
  |none=>[]
  |some x=>if x.leaf=true then x.aF.filter (fun e=>decide (e.key=key))else x.buf.filter (fun e=>decide (e.key=key))++oN t key f (x.kids.getD (aZ x.keys key) 0)
theorem pU (h:∀e∈l,e.key≠key):l.filter (fun e=>decide (e.key=key))=[]:=by
 rw [List.filter_eq_nil_iff];intro e he;simpa using h e he
theorem BM {gv:Int->Int->Int->Option (List Int×Nat)}
  (hgo:∀k a b l h,gv k a b=some (l,h)->∀e∈l.flatMap t.of,a<=e.key/\e.key<b) :
  ∀(ks:List Int) (i:Nat) (l:List Int) (h:Nat),i+ks.length=x.keys.length+1->ct gv x a b ks i=some (l,h) ->
   (i<=aZ x.keys key->∃l' h',gv (ks.getD (aZ x.keys key-i) 0) (x.from a (aZ x.keys key)) (x.upto b (aZ x.keys key))=some (l',h') /\
    (l.flatMap t.of).filter (fun e=>decide (e.key=key))=(l'.flatMap t.of).filter (fun e=>decide (e.key=key))) /\
   (aZ x.keys key<i->(ks=[]\/key<x.from a i)->(l.flatMap t.of).filter (fun e=>decide (e.key=key))=[]):=by
 intro ks
 have hle:=qX x.keys key
 induction ks with
 |nil=>
  intro i l h hi hv
  simp [ct]at hv
  refine⟨fun h'=>by simp at hi;omega,fun _ _=>by rw [hv.1];rfl⟩
 |cons k ks ih=>
  intro i l h hi0 hv
  simp only [fR]at hi0
  unfold ct at hv
  split at hv
  ·rename_i hc
   split at hv
   ·rename_i l1 h1 l2 h2 e1 e2
    split at hv
    ·simp only [iE,jM]at hv
     obtain⟨rfl,-⟩:=hv
     have q1:=hgo _ _ _ _ _ e1
     obtain⟨p2,q2⟩:=ih (i+1) l2 h2 af e2
     rw [sF,sG]
     have hup:ks=[]\/x.from a (i+1)=x.upto b i:=by
      by_cases hk:ks=[]
      ·exact .inl hk
      ·right
       have:0<ks.length:=List.length_pos_iff.2 hk
       simp only [Nd.from,Nd.upto,Nat.add_sub_cancel]
       rw [ai af,ar af]
     refine⟨fun hi=>?_,fun hi hk=>?_⟩
     ·by_cases heq:i=aZ x.keys key
      ·refine⟨l1,h1,by rw [<-heq];simpa using e1,?_⟩
       have hkey:ks=[]\/key<x.from a (i+1):=by
        rcases hup with h|h
        ·exact .inl h
        ·by_cases hks:ks=[]
         ·exact .inl hks
         ·right
          have:0<ks.length:=List.length_pos_iff.2 hks
          have:=DI (keys:=x.keys) (key:=key) af
          rw [h];simp only [Nd.upto];rw [ar af,heq];exact this
       rw [q2 af hkey,pq]
      ·have hlt:i<aZ x.keys key:=af
       obtain⟨l',h',g1,g2⟩:=p2 af
       refine⟨l',h',?_,?_⟩
       ·rw [show aZ x.keys key-i=(aZ x.keys key-(i+1))+1 from af,List.getD_cons_succ];exact g1
       ·rw [g2,pU,List.nil_append]
        intro e he
        have hr:=q1 e he
        have:=DG (keys:=x.keys) (key:=key) hlt
        simp only [Nd.upto]at hr
        rw [ar af]at hr;omega
     ·have hka:key<x.from a i:=by rcases hk with h|h;cases h;exact h
      have hkn:ks=[]\/key<x.from a (i+1):=by
       rcases hup with h|h
       ·exact .inl h
       ·right;rw [h];omega
      rw [q2 af hkn,pq,pU]
      intro e he
      have hr:=q1 e he
      omega
    ·cases hv
   ·cases hv
  ·cases hv
theorem lh {l:List Int} (hv:mH t (f+1) n a b=some (l,h)) (hx:t.dm n=some x) :
  a<b/\((x.leaf=true/\mC t n x a b/\l=[n]/\h=1)\/(x.leaf=false/\qq x a b/\∃l' h',ct (fun k a b=>mH t f k a b) x a b x.kids 0=some (l',h')/\l=n::l'/\h=h'+1)):=by
 have hlt:=La hv
 refine⟨hlt,?_⟩
 unfold mH at hv
 rw [hx]at hv
 simp only at hv
 rw [ai (iM hlt)]at hv
 split at hv
 ·rename_i hl
  split at hv
  ·rename_i hok
   simp only [iE,jM]at hv
   exact .inl ⟨hl,hok,hv.1.symm,hv.2.symm⟩
  ·cases hv
 ·rename_i hl
  split at hv
  ·rename_i hok
   obtain⟨p,hp,he⟩:=Option.map_eq_some_iff.1 hv
   simp only [jM]at he
   exact .inr ⟨by simpa using hl,hok,p.1,p.2,hp,he.1.symm,he.2.symm⟩
  ·cases hv
theorem yA {l:List Int} (hv:mH t (f+1) n a b=some (l,h)):∃x,t.dm n=some x:=by
 unfold mH at hv
 split at hv
 ·cases hv
 ·exact⟨_,‹_›⟩
theorem Jg {l:List Int} (hv:mH t f n a b=some (l,h)):∀e∈l.flatMap t.of,a<=e.key/\e.key<b:=
 (pE (lo:=0) (hi:=0) _ _ _ _ _ _ hv).2
theorem Ik {l:List Int} (hv:mH t (f+1) n a b=some (l,h)) (hx:t.dm n=some x) (hl:x.leaf=false) (ha:a<=key) (hb:key<b) :
  aZ x.keys key<x.kids.length/\∃a' b' l' h',mH t f (x.kids.getD (aZ x.keys key) 0) a' b'=some (l',h')/\a'<=key/\key<b' /\
   (l.flatMap t.of).filter (fun e=>decide (e.key=key))=x.buf.filter (fun e=>decide (e.key=key))++(l'.flatMap t.of).filter (fun e=>decide (e.key=key)):=by
 obtain⟨hlt,⟨h1,_⟩|⟨_,hok,l1,h1,hk,rfl,rfl⟩⟩:=lh hv hx
 ·rw [hl]at h1;cases h1
 ·obtain⟨k1,k2,k3,k4,k5,k6⟩:=hok
  have hle:=qX x.keys key
  obtain⟨l',h',g1,g2⟩:=(BM (t:=t) (key:=key) (fun k a b l h hv=>Jg hv) x.kids 0 l1 h1 af hk).1 (jf _)
  refine⟨af,_,_,l',h',by simpa using g1,?_,?_,?_⟩
  ·unfold Nd.from
   split
   ·exact ha
   ·exact DG af
  ·unfold Nd.upto
   split
   ·rename_i h;exact DI h
   ·exact hb
  ·have hof:t.of n=x.aF++x.buf:=by unfold Tr.of;rw [hx]
   rw [gI,sG,hof,k1,List.nil_append,g2]
theorem LN:∀(f:Nat) (n a b:Int) (l:List Int) (h:Nat),mH t f n a b=some (l,h)->a<=key->key<b ->
  oN t key f n=(l.flatMap t.of).filter (fun e=>decide (e.key=key)):=by
 intro f
 induction f with
 |zero=>intro n a b l h hv;cases hv
 |succ f ih=>
  intro n a b l h hv ha hb
  obtain⟨x,hx⟩:=yA hv
  have hof:t.of n=x.aF++x.buf:=by unfold Tr.of;rw [hx]
  unfold oN
  rw [hx]
  simp only
  cases hl:x.leaf with
  |true=>
   obtain⟨_,⟨_,hok,rfl,_⟩|⟨h1,_⟩⟩:=lh hv hx
   ·rw [ar rfl];simp [hof,hok.2.2.1]
   ·rw [hl]at h1;cases h1
  |false=>
   rw [ai bt]
   obtain⟨_,a',b',l',h',g1,g2,g3,g4⟩:=Ik hv hx hl ha hb
   rw [g4,ih _ _ _ _ _ g1 g2 g3]
def tq (r:av) (l:List aA):Option av:=l.foldlM (fun r e=>if r.c+e.is.c<=1073741824 then some (r.join e.is)else none) r
theorem Dx:look (l.filter (fun e=>decide (e.key=key))) key=look l key:=by
 induction l with
 |nil=>rfl
 |cons e l ih=>
  by_cases h:e.key=key
  ·rw [tP (by simpa using h)]
   show (if e.key=key then _ else _)=(if e.key=key then _ else _)
   rw [ar h,ar h,ih]
  ·rw [sH (by simpa using h),ih]
   show _=(if e.key=key then _ else _)
   rw [ai h]
theorem Ju {r:av} (hk:∀e∈l,e.key=key) (hl:aW l) (hr:r.iq) (hc:r.c<=1073741824) :
  tq r l=if r.c+(look l key).c<=1073741824 then some (r.join (look l key))else none:=by
 unfold tq
 induction l generalizing r with
 |nil=>
  have h1:r.c+(look [] key).c<=1073741824:=by simpa [look,av.zero] using hc
  rw [List.foldlM_nil,ar h1]
  show some r=some (r.join av.zero)
  rw [cY]
 |cons e l ih=>
  have hg:=hl.cons
  have hf:=cX hg.2.dD key
  have hp:=hf.pos
  have e1:look (e::l) key=e.is.join (look l key):=by show (if e.key=key then _ else _)=_;rw [ar (hk e bt)]
  rw [List.foldlM_cons,e1]
  by_cases h1:r.c+e.is.c<=1073741824
  ·rw [ar h1]
   show List.foldlM _ (r.join e.is) l=_
   rw [ih (fun x hx=>hk x (by simp [hx])) hg.2 (iA hr (.inr hg.1)) (by rw [dJ];exact h1),dJ,dJ,join_assoc hr (.inr hg.1) hf,Int.add_assoc]
  ·rw [ai h1,dJ,ai af];rfl
def GY (t:Tr) (key:Int):av×Int:=if (look t.all key).c<=1073741824 then(look t.all key,0) else(av.zero,1)
def GV (t:Tr) (key:Int):av×Int:=match tq av.zero (oN t key 12 t.root) with|some r=>(r,0)|none=>(av.zero,1)
def TZ (t:Tr) (key:Int):av×Int:=match kG t key (key+1) with|none=>(av.zero,1)|some []=>(av.zero,0)|some (e::_)=>(e.is,0)
theorem IV (hv:lJ t) (h0:0<=key) (h1:key<1099511627776):GV t key=GY t key:=by
 have hc:=cF hv
 obtain⟨l,h,e,hn,hl⟩:=hv
 have hp:=ll e hn hl
 have hg:aW (l.flatMap t.of):=fun x hx=>hc.bP x (hp.mem_iff.1 hx)
 unfold GV GY
 rw [LN 12 _ _ _ _ _ e h0 h1,Ju (key:=key) (fun x hx=>by simpa using (ju.1 hx).2) (fun x hx=>hg x (ju.1 hx).1) si aY,Dx,oV hp hg.dD,eF (cX hc.bP.dD _)]
 have:av.zero.c=0:=rfl
 rw [this,Int.zero_add]
 by_cases hs:(look t.all key).c<=1073741824
 ·rw [ar hs,ar hs]
 ·rw [ai hs,ai hs]
theorem DV (key:Int):aT key (key+1)=fun e=>decide (e.key=key):=by
 funext e
 simp only [aT]
 by_cases h:e.key=key
 ·simp [h];omega
 ·have:¬(key<=e.key/\e.key<key+1):=af
  simp only [h,decide_false]
  rw [<-Bool.decide_and,tO this]
theorem FO (hr:aX l) (hk:∀e∈l,e.key=key):l=[]\/∃e,l=[e]:=by
 match l with
 |[]=>exact .inl rfl
 |[e]=>exact .inr ⟨e,rfl⟩
 |e::f::l=>
  have:=(rE.1 hr).1 f bt
  have:=hk e bt;have:=hk f bt
  omega
theorem Qm (hv:lJ t) (key:Int):TZ t key=GY t key:=by
 have hc:=cF hv
 unfold TZ GY kG
 rw [DV]
 obtain⟨m,hm⟩:=bR (t.all.filter (fun e=>decide (e.key=key)))
 have hcm:Checked m:=by rw [hm];exact iU hc
 have hkm:∀e∈m,e.key=key:=fun e he=>by rw [hm]at he;simpa using (ju.1 he).2
 have hlm:look m key=look t.all key:=by rw [hm,Dx]
 have hbk:∀e∈mo m,e.key=key:=fun e he=>by
  by_cases h:e.key=key
  ·exact h
  ·have h1:=fY (di hcm.bP) he
   rw [fu hcm.bP,iz (fun y hy hk=>h (by rw [<-hk];exact hkm y hy))]at h1
   have:=(eK hcm.bP e he).1
   rw [<-h1]at this;exact absurd this aY
 rw [<-hm,jD hcm,<-hlm]
 by_cases hs:Small m
 ·rw [ar hs,ar (hs key)]
  rcases FO (di hcm.bP) hbk with h|⟨e,h⟩
  ·rw [h,<-fu hcm.bP,h];rfl
  ·rw [h]
   have h1:=fY (di hcm.bP) (e:=e) (by rw [h];simp)
   rw [fu hcm.bP,hbk e (by rw [h];simp)]at h1
   simp only [h1]
 ·rw [ai hs,ai]
  intro h
  refine hs fun k=>?_
  by_cases hk:k=key
  ·rw [hk];exact h
  ·rw [iz (fun e he=>by rw [hkm e he];exact fun h=>hk h.symm)];decide
end
section
variable {lo hi:Int} {l:List aA} {k:Nat}
instance (l:List aA) (lo hi:Int):Decidable (dF l lo hi):=by unfold dF Checked aX;infer_instance
def qp (l:List aA) (lo hi:Int):Bool:=decide (dF l lo hi)
theorem pW:qp l lo hi=true↔dF l lo hi:=by simp [qp]
theorem xq:qp l lo hi=false↔¬dF l lo hi:=by simp [qp]
theorem tH (lo hi:Int):dF [] lo hi:=⟨by simp [Checked],bt,List.Pairwise.nil⟩
theorem Ev (hk:k<l.length) (h:dF (l.take k) lo hi) (h1:lo<=l[k].key) (h2:l[k].key<hi) (h3:∀ie:0<k,l[k-1].key<l[k].key) (h4:l[k].is.c≠0) (h5:aj l[k].is=0) :
  dF (l.take (k+1)) lo hi:=by
 rw [mf hk]
 refine⟨fun e he=>?_,fun e he=>?_,?_⟩
 ·rcases kH.1 he with he|he
  ·exact h.1 e he
  ·obtain rfl:=ny.1 he;exact⟨h4,h5⟩
 ·rcases kH.1 he with he|he
  ·exact h.2.1 e he
  ·obtain rfl:=ny.1 he;exact⟨h1,h2⟩
 ·refine List.pairwise_append.2 ⟨h.2.2,List.pairwise_singleton _ _,fun a ha b hb=>?_⟩
  obtain rfl:=ny.1 hb
  obtain⟨i,hi',rfl⟩:=kS ha
  simp only [fx]at hi'
  rw [wH]
  have ie:0<k:=af
  have:=h3 ie
  by_cases hik:i=k-1
  ·subst hik;exact this
  ·have hp:=px.1 h.2.2 i (k-1) (by simp;omega) (by simp;omega) af
   rw [wH,wH]at hp
   omega
theorem Br (h:dF l lo hi) (hk:k<l.length):lo<=l[k].key/\l[k].key<hi/\l[k].is.c≠0/\aj l[k].is=0/\(∀ie:0<k,l[k-1].key<l[k].key):=by
 have hm:l[k]∈l:=gj hk
 exact⟨(h.2.1 _ hm).1,(h.2.1 _ hm).2,(h.1 _ hm).1,(h.1 _ hm).2,fun ie=>px.1 h.2.2 (k-1) k af hk af⟩
theorem Ew (hk:l.length<=k) (h:dF (l.take k) lo hi):dF l lo hi:=by rwa [kI hk]at h
end
section
variable {lo hi:Int} {x:Nd}
theorem Gf {t:Tr} {n:Int}:mC t n x lo hi↔x.keys.length+x.kids.length+x.buf.length=0/\x.aF.length<=6/\(x.aF.length=0->n=t.root)/\qp x.aF lo hi=true:=by
 unfold mC
 rw [pW,<-List.length_eq_zero_iff,<-List.length_eq_zero_iff,<-List.length_eq_zero_iff,ne_eq,<-List.length_eq_zero_iff]
 constructor
 ·rintro⟨a,b,c,d,e,f⟩
  exact⟨af,d,fun h=>by rcases e with e|e;exact absurd h e;exact e,f⟩
 ·rintro⟨a,b,c,d⟩
  exact⟨af,af,af,b,by by_cases h:x.aF.length=0;exact .inr (c h);exact .inl h,d⟩
theorem JR:qq x lo hi↔x.aF.length=0/\2<=x.kids.length/\x.kids.length<=4/\x.keys.length+1=x.kids.length/\x.buf.length<=8/\qp x.buf lo hi=true:=by
 unfold qq
 rw [pW,<-List.length_eq_zero_iff]
end
section
variable {n lo hi:Int} {S:List Int} {s:List Int×Int} {f i:Nat} {x:Nd} {t:Tr} {σ:Type}
theorem yU (h:t.dm n=none):dQ t (f+1) n lo hi s=none:=by rw [dQ,h]
theorem F5 (h:t.dm n=some x) (hs:n∈s.1):dQ t (f+1) n lo hi s=none:=by rw [dQ,h];simp only;rw [ar hs]
theorem F6 (h:t.dm n=some x) (hs:n∉s.1) (hl:x.leaf=true) (hd:s.2=0\/s.2=12-(f:Int)) (hok:mC t n x lo hi) :
  dQ t (f+1) n lo hi s=some (n::s.1,12-(f:Int)):=by
 rw [dQ,h];simp only;rw [ai hs,ar hl,ar ⟨hd,hok⟩]
theorem BZ (h:t.dm n=some x) (hl:x.leaf=true) (hok:¬((s.2=0\/s.2=12-(f:Int))/\mC t n x lo hi)):dQ t (f+1) n lo hi s=none:=by
 rw [dQ,h];simp only;rw [ar hl,ai hok];simp
theorem Dq (h:t.dm n=some x) (hs:n∉s.1) (hl:x.leaf=false) (hok:qq x lo hi) :
  dQ t (f+1) n lo hi s=ni (fun k a b s=>dQ t f k a b s) x lo hi x.kids 0 (n::s.1,s.2):=by
 rw [dQ,h];simp only;rw [ai hs,ai (by simp [hl]),ar hok]
theorem Aq (h:t.dm n=some x) (hl:x.leaf=false) (hok:¬qq x lo hi):dQ t (f+1) n lo hi s=none:=by
 rw [dQ,h];simp [hl,hok]
theorem Gi {go:Int->Int->Int->σ->Option σ} {s:σ} (hi':i<x.kids.length) :
  ni go x lo hi (x.kids.drop i) i s=if x.from lo i<x.upto hi i/\lo<=x.from lo i/\x.upto hi i<=hi then
   match go x.kids[i] (x.from lo i) (x.upto hi i) s with
   |none=>none
   |some s'=>ni go x lo hi (x.kids.drop (i+1)) (i+1) s'
  else none:=by
 rw [vh hi']
 rfl
theorem JN {go:Int->Int->Int->σ->Option σ} {s:σ} (hi':x.kids.length<=i):ni go x lo hi (x.kids.drop i) i s=some s:=by
 rw [AL hi'];rfl
def Ff (t:Tr) (S:List Int):Prop:=S.Nodup/\∀y∈S,0<=y/\y<(t.nodes.length:Int)
theorem Ff.le (h:Ff t S):S.length<=t.nodes.length:=Dn h.1 h.2
theorem Ff.cons (h:Ff t S) (hn:n∉S) (hx:t.dm n=some x):Ff t (n::S):=
 ⟨List.nodup_cons.2 ⟨hn,h.1⟩,fun y hy=>by rcases eZ.1 hy with rfl|hy;exact BC hx;exact h.2 y hy⟩
theorem Dp:∀(f:Nat) (n lo hi:Int) (s s':List Int×Int),Ff t s.1->dQ t f n lo hi s=some s'->Ff t s'.1:=by
 intro f
 induction f with
 |zero=>intro n lo hi s s' _ h;cases h
 |succ f ih=>
  intro n lo hi s s' hs h
  rw [dQ]at h
  split at h
  ·cases h
  ·rename_i x hx
   split at h
   ·cases h
   ·rename_i hn
    split at h
    ·split at h
     ·simp only [iE]at h;rw [<-h];exact hs.cons hn hx
     ·cases h
    ·split at h
     ·have:∀(ks:List Int) (i:Nat) (s s':List Int×Int),Ff t s.1->ni (fun k a b s=>dQ t f k a b s) x lo hi ks i s=some s'->Ff t s'.1:=by
       intro ks
       induction ks with
       |nil=>intro i s s' hs h;simp only [ni,iE]at h;rw [<-h];exact hs
       |cons k ks ihk=>
        intro i s s' hs h
        unfold ni at h
        split at h
        ·split at h
         ·cases h
         ·rename_i s1 e
          exact ihk (i+1) s1 s' (ih _ _ _ _ _ hs e) h
        ·cases h
      exact this _ _ _ _ (hs.cons hn hx) h
     ·cases h
end
theorem DU {xs:List aA} {x:aA} {l:List aA} (h:jJ xs x=some l):l.length<=xs.length+1:=by
 induction xs generalizing l with
 |nil=>simp only [jJ,iE]at h;rw [<-h];simp
 |cons e xs ih=>
  unfold jJ at h
  split at h
  ·obtain⟨m,hm,rfl⟩:=Option.map_eq_some_iff.1 h
   have:=ih hm
   simp only [fR];omega
  ·split at h
   ·split at h
    ·simp only [iE]at h;rw [<-h];simp
    ·cases h
   ·simp only [iE]at h;rw [<-h];simp
section
variable {l:List aA} {t:Tr}
theorem cW (h:ax t=0):t.nodes.length<=2000/\lJ t:=by
 unfold ax at h
 split at h
 ·cases h
 ·split at h
  ·exact⟨af,‹_›⟩
  ·cases h
theorem ui (h:t.nodes.length<=2000) (hv:lJ t):ax t=0:=by
 unfold ax;rw [ai af,ar hv]
theorem AR:∀{f:Nat} {n lo hi:Int} {l:List Int} {h:Nat},mH t f n lo hi=some (l,h)->∀y∈l,(t.of y).length<=14:=by
 intro f
 induction f with
 |zero=>intro n lo hi l h hv;cases hv
 |succ f ih=>
  intro n lo hi l h hv y hy
  obtain⟨x,hx⟩:=yA hv
  have hof:t.of n=x.aF++x.buf:=by unfold Tr.of;rw [hx]
  obtain⟨_,⟨_,hok,rfl,_⟩|⟨_,hok,l',h',hk,rfl,_⟩⟩:=lh hv hx
  ·obtain rfl:=ny.1 hy
   rw [hof,eO,hok.2.2.1];have:=hok.2.2.2.1;simp;omega
  ·rcases eZ.1 hy with rfl|hy
   ·rw [hof,eO,hok.1];have:=hok.2.2.2.2.1;simp;omega
   ·exact qM (P:=fun y=>(t.of y).length<=14) (fun k a b l h hv=>ih hv) hk y hy
theorem En {α β:Type} {f:α->List β} {m:Nat}:∀{l:List α},(∀y∈l,(f y).length<=m)->(l.flatMap f).length<=m*l.length
 |[],_=>bt
 |a::l,h=>by
  have h1:=h a bt
  have h2:=En (l:=l) fun y hy=>h y (by simp [hy])
  rw [gI,eO,fR,Nat.mul_add];omega
theorem AU (h:lJ t):t.all.length<=14*t.nodes.length:=by
 obtain⟨l,hh,e,hn,hl⟩:=h
 rw [<-(ll e hn hl).length_eq,<-hl]
 exact En (AR e)
theorem Bz (l:List aA) (y:aA):fo (l++[y])=(fo l).bind fun es=>jJ es y:=by
 unfold fo;rw [List.foldlM_append]
 cases h:List.foldlM jJ [] l with
 |none=>rfl
 |some es=>simp [List.foldlM_cons]
theorem BA {m:List aA} (h:fo l=none):fo (l++m)=none:=by
 unfold fo at h ⊢;rw [List.foldlM_append,h];rfl
theorem Gr (l:List aA) (x:aA):(ins l x).length<=l.length+1:=by
 induction l with
 |nil=>simp [ins]
 |cons e l ih=>
  unfold ins
  split
  ·simp only [fR];omega
  ·split
   ·simp
   ·simp
theorem o9:∀(l m:List aA),(l.foldl ins m).length<=m.length+l.length
 |[],m=>bt
 |x::l,m=>by
  rw [List.foldl_cons,fR]
  have:=o9 l (ins m x);have:=Gr m x;omega
theorem fT {es:List aA} (hl:Checked l) (h:fo l=some es):es=mo l/\Small l/\Checked es/\es.length<=l.length/\aX es:=by
 rw [jD hl]at h
 split at h
 ·rename_i hs
  simp only [iE]at h
  subst h
  refine⟨rfl,hs,xy hl.bP hs,?_,di hl.bP⟩
  have:=o9 l [];simpa [mo] using this
 ·cases h
def Nd.all (x:Nd):List aA:=x.aF++x.buf
end
section
variable {x:Int} {es:List aA} {k:Nat}
theorem n7 {α:Type} {p:α->Bool}:∀{l:List α} {k:Nat},k<=l.length->(∀t (ht:t<l.length),t<k->p l[t]=true)->(∀ht:k<l.length,p l[k]=false)->(l.takeWhile p).length=k
 |[],k,hk,_,_=>by simp at hk;simp [hk]
 |a::l,0,_,_,h2=>by
  have:=h2 bt
  simp only [List.getElem_cons_zero]at this
  simp [this]
 |a::l,k+1,hk,h1,h2=>by
  have h0:=h1 0 bt af
  simp only [List.getElem_cons_zero]at h0
  rw [List.takeWhile_cons_of_pos h0,fR,n7 (k:=k) (by simpa using hk) (fun t ht htk=>h1 (t+1) (by simpa using ht) af) (fun ht=>h2 (by simpa using ht))]
def LJ (zs:List Int) (x:Int):Nat:=(zs.takeWhile fun z=>decide (z<x)).length
def ic (es:List aA) (x:Int):Nat:=(es.takeWhile fun e=>decide (e.key<x)).length
def rp (es:List aA) (x:Int):Bool:=es.any fun e=>decide (e.key=x)
theorem Pp {zs:List Int} (hk:k<=zs.length) (h1:∀t (ht:t<zs.length),t<k->zs[t]<x) (h2:∀t (ht:t<zs.length),k<=t->x<=zs[t]):LJ zs x=k:=
 n7 hk (fun t ht htk=>by simpa using h1 t ht htk) (fun ht=>by simpa using h2 k ht aI)
theorem Qe {zs:List Int} (hs:zs.Pairwise (·<·)) (h1:∀t (ht:t<zs.length),t<k->zs[t]<x) (h2:∀t (ht:t<zs.length),k<=t->x<=zs[t]):decide (x∈zs)=if h:k<zs.length then decide (zs[k]=x)else false:=by
 by_cases hk:k<zs.length
 ·rw [dif_pos hk,decide_eq_decide]
  constructor
  ·intro hm
   obtain⟨t,ht,rfl⟩:=kS hm
   by_cases h:t<k
   ·have:=h1 t ht h;omega
   ·by_cases h':t=k
    ·subst h';rfl
    ·have:=px.1 hs k t hk ht af
     have:=h2 k hk aI;omega
  ·intro h;rw [<-h];exact gj hk
 ·rw [dif_neg hk,tO]
  intro hm
  obtain⟨t,ht,rfl⟩:=kS hm
  have:=h1 t ht af;omega
theorem xX (hk:k<=es.length) (h1:∀t (ht:t<es.length),t<k->es[t].key<x) (h2:∀t (ht:t<es.length),k<=t->x<=es[t].key):ic es x=k:=
 n7 hk (fun t ht htk=>by simpa using h1 t ht htk) (fun ht=>by simpa using h2 k ht aI)
theorem Qf (hs:aX es) (h1:∀t (ht:t<es.length),t<k->es[t].key<x) (h2:∀t (ht:t<es.length),k<=t->x<=es[t].key):rp es x=if h:k<es.length then decide (es[k].key=x)else false:=by
 by_cases hk:k<es.length
 ·rw [dif_pos hk]
  unfold rp
  rw [Bool.eq_iff_iff,List.any_eq_true,wI]
  constructor
  ·rintro⟨e,he,hm⟩
   have hm:=iY hm
   obtain⟨t,ht,rfl⟩:=kS he
   by_cases h:t<k
   ·have:=h1 t ht h;omega
   ·by_cases h':t=k
    ·subst h';exact hm
    ·have:=px.1 hs k t hk ht af
     have:=h2 k hk aI;omega
  ·intro h;exact⟨es[k],gj hk,by simpa using h⟩
 ·rw [dif_neg hk]
  unfold rp
  rw [List.any_eq_false]
  intro e he
  obtain⟨t,ht,rfl⟩:=kS he
  have:=h1 t ht af;simp;omega
theorem JO {keys:List Int} (hs:keys.Pairwise (·<·)):aZ keys x=LJ keys x+if x∈keys then 1 else 0:=by
 induction keys with
 |nil=>rfl
 |cons k ks ih=>
  have hp:=rE.1 hs
  have ih:=ih hp.2
  unfold aZ LJ at *
  by_cases h1:k<x
  ·have h2:k<=x:=af
   rw [List.takeWhile_cons_of_pos (by simpa using h2),List.takeWhile_cons_of_pos (by simpa using h1),fR,fR,ih]
   have:(x∈k::ks)↔x∈ks:=by rw [eZ];exact⟨fun h=>h.resolve_left af, .inr⟩
   by_cases h:x∈ks
   ·rw [ar h,ar (this.2 h)]
   ·rw [ai h,ai (fun h'=>h (this.1 h'))]
  ·rw [List.takeWhile_cons_of_neg (p:=fun z=>decide (z<x)) (by simpa using h1)]
   by_cases h2:k=x
   ·subst h2
    rw [List.takeWhile_cons_of_pos bt,fR,ar bt]
    cases ks with
    |nil=>rfl
    |cons y ys=>
     have:=hp.1 y bt
     rw [List.takeWhile_cons_of_neg (by simp;omega)]
   ·have hn:¬x∈k::ks:=fun hm=>by
     rcases eZ.1 hm with h|h
     ·exact h2 h.symm
     ·have:=hp.1 x h;omega
    rw [List.takeWhile_cons_of_neg (by simp;omega),ai hn];rfl
theorem qN {go:Int->Int->Int->Option (List Int×Nat)} {x:Nd} {a b:Int}:∀{ks:List Int} {i:Nat} {l:List Int} {h:Nat},ct go x a b ks i=some (l,h)->∀j,j<ks.length->x.from a (i+j)<x.upto b (i+j)/\a<=x.from a (i+j)/\x.upto b (i+j)<=b
 |[],_,_,_,_=>fun j hj=>by simp at hj
 |k::ks,i,l,h,hv=>by
  unfold ct at hv
  split at hv
  ·rename_i hc
   split at hv
   ·rename_i l1 h1 l2 h2 e1 e2
    intro j hj
    cases j with
    |zero=>exact hc
    |succ j=>
     have:=qN e2 j (by simpa using hj)
     rwa [show i+1+j=i+(j+1)from by omega]at this
   ·cases hv
  ·cases hv
theorem Lb {t:Tr} {f:Nat} {n a b:Int} {l:List Int} {h:Nat} {x:Nd} (hv:mH t (f+1) n a b=some (l,h)) (hx:t.dm n=some x) (hl:x.leaf=false):x.keys.Pairwise (·<·)/\∀k∈x.keys,a<=k/\k<=b:=by
 obtain⟨_,⟨h1,_⟩|⟨_,hok,l',h',hk,rfl,_⟩⟩:=lh hv hx
 ·rw [hl]at h1;cases h1
 ·have hb:=qN hk
  have hkl:=hok.2.2.2.1
  have g:∀j (hj:j<x.keys.length),x.upto b (0+j)=x.keys[j]/\x.from a (0+(j+1))=x.keys[j]:=fun j hj=>by
   simp [Nd.upto,Nd.from,hj]
  refine⟨px.2 fun i j hi hj hij=>?_,fun k hk=>?_⟩
  ·have step:∀m (hm:m+1<x.keys.length),x.keys[m]<x.keys[m+1]:=fun m hm=>by
    have h1:=(hb (m+1) af).1
    rw [(g m af).2,(g (m+1) hm).1]at h1
    exact h1
   obtain⟨d,rfl⟩:∃d,j=i+1+d:=⟨j-i-1,af⟩
   clear hij
   induction d with
   |zero=>exact step i hj
   |succ d ih=>
    exact Int.lt_trans (ih af step) (step (i+1+d) af)
  ·obtain⟨j,hj,rfl⟩:=kS hk
   have h1:=hb j af
   rw [(g j hj).1]at h1
   omega
end
section
variable {key:Int} {L path:List aA} {r:av} {t:Tr}
theorem Bn (hs:aX L) (h:rp L key=true):∃(i:Nat) (hi:i<L.length),ic L key=i/\L[i].key=key/\L.filter (fun e=>decide (e.key=key))=[L[i]]:=by
 unfold rp at h
 obtain⟨e,he,hk⟩:=List.any_eq_true.1 h
 have hk:=iY hk
 obtain⟨i,hi,rfl⟩:=kS he
 have hp:=px.1 hs
 have h1:∀t (ht:t<L.length),t<i->L[t].key<key:=fun t ht hti=>by rw [<-hk];exact hp t i ht hi hti
 have h2:∀t (ht:t<L.length),i<t->key<L[t].key:=fun t ht hti=>by rw [<-hk];exact hp i t hi ht hti
 refine⟨i,hi,xX af h1 (fun t ht hti=>?_),hk,?_⟩
 ·by_cases hit:i=t
  ·subst hit;omega
  ·have:=h2 t ht af;omega
 ·conv=>lhs;rw [<-wL i L,vh hi]
  rw [sG,tP (by simpa using hk),pU (fun e he=>?_),pU (fun e he=>?_),List.nil_append]
  ·obtain⟨t,ht,rfl⟩:=kS he
   rw [oF]at ht
   rw [List.getElem_drop]
   have:=h2 (i+1+t) af af;omega
  ·obtain⟨t,ht,rfl⟩:=kS he
   rw [fx]at ht
   rw [wH]
   have:=h1 t af af;omega
theorem GN (h:rp L key=false):L.filter (fun e=>decide (e.key=key))=[]:=by
 unfold rp at h
 rw [List.filter_eq_nil_iff]
 intro e he
 have:=List.any_eq_false.1 h e he
 simpa using this
def Nd.own (x:Nd):List aA:=if x.leaf=true then x.aF else x.buf
def oH (t:Tr) (key:Int) (r:av) (path:List aA):Prop:=aj r=0/\GV t key=match tq r path with|some r=>(r,0)|none=>(av.zero,1)
theorem Ng (hf:ax t=0) {f:Nat} {n a b:Int} {l:List Int} {h:Nat} {x:Nd} (hv:mH t (f+1) n a b=some (l,h)) (hx:t.dm n=some x) (ha:a<=key) (hb:key<b) :
  aX x.own/\Checked x.own/\(∀e∈x.own,0<=e.key/\e.key<1099511627776) /\
  oN t key (f+1) n=x.own.filter (fun e=>decide (e.key=key))++(if x.leaf=true then []else oN t key f (x.kids.getD (aZ x.keys key) 0)) /\
  (x.leaf=false->x.keys.Pairwise (·<·)/\aZ x.keys key<x.kids.length/\∃f' a' b' l' h',f=f'+1/\mH t (f'+1) (x.kids.getD (aZ x.keys key) 0) a' b'=some (l',h')/\a'<=key/\key<b'):=by
 obtain⟨hn,PQ⟩:=cW hf
 have hxm:x∈t.nodes:=by
  unfold Tr.dm at hx
  split at hx
  ·exact List.mem_of_getElem? hx
  ·cases hx
 have hrange:∀e∈x.own,0<=e.key/\e.key<1099511627776:=fun e he=>lT PQ e (by
  unfold Tr.all
  refine List.mem_flatMap.2 ⟨x,hxm,?_⟩
  unfold Nd.own at he;split at he <;> simp [he])
 have Q3:oN t key (f+1) n=x.own.filter (fun e=>decide (e.key=key))++(if x.leaf=true then []else oN t key f (x.kids.getD (aZ x.keys key) 0)):=by
  conv=>lhs;unfold oN
  rw [hx]
  simp only [Nd.own]
  cases hl:x.leaf <;> simp
 obtain⟨_,⟨hl,hok,_⟩|⟨hl,hok,_⟩⟩:=lh hv hx
 ·have ho:x.own=x.aF:=by simp [Nd.own,hl]
  exact⟨by rw [ho];exact hok.2.2.2.2.2.2.2,by rw [ho];exact hok.2.2.2.2.2.1,hrange,Q3,fun h=>by rw [hl]at h;cases h⟩
 ·have ho:x.own=x.buf:=by simp [Nd.own,hl]
  refine⟨by rw [ho];exact hok.2.2.2.2.2.2.2,by rw [ho];exact hok.2.2.2.2.2.1,hrange,Q3,fun _=>⟨(Lb hv hx hl).1,?_⟩⟩
  obtain⟨h1,a',b',l',h',h2,h3,h4,_⟩:=Ik hv hx hl ha hb
  refine⟨h1,?_⟩
  cases f with
  |zero=>cases h2
  |succ f'=>exact⟨f',a',b',l',h',rfl,h2,h3,h4⟩
theorem Eh (hh:rp L key=false) (h:oH t key r (L.filter (fun e=>decide (e.key=key))++path)):oH t key r path:=by
 rw [GN hh,List.nil_append]at h;exact h
theorem Eg {i:Nat} {hi:i<L.length} (hc:aj L[i].is=0) (hfl:L.filter (fun e=>decide (e.key=key))=[L[i]]) (h:oH t key r (L.filter (fun e=>decide (e.key=key))++path)) :
  (r.c+L[i].is.c<=1073741824->bL r L[i].is=(r.join L[i].is,0)/\oH t key (r.join L[i].is) path)/\(¬r.c+L[i].is.c<=1073741824->bL r L[i].is=(av.zero,1)/\GV t key=(av.zero,1)):=by
 obtain⟨h1,h2⟩:=h
 rw [hfl]at h2
 have e:tq r ([L[i]]++path)=if r.c+L[i].is.c<=1073741824 then tq (r.join L[i].is) path else none:=by
  unfold tq
  rw [List.singleton_append,List.foldlM_cons]
  split <;> rfl
 rw [e]at h2
 refine⟨fun hle=>?_,fun hle=>?_⟩
 ·obtain⟨m1,m2⟩:=oU h1 hc hle
  rw [ar hle]at h2
  exact⟨m1,m2,h2⟩
 ·rw [ai hle]at h2
  exact⟨(iP h1 hc).trans (ai hle),h2⟩
theorem GX (h:oH t key r []):GV t key=(r,0):=h.2
theorem Cq:oH t key av.zero (oN t key 12 t.root):=⟨aY,rfl⟩
end
section
variable {x:aA} {es:List aA}
theorem vX {x:aA}:∀{es:List aA} {k:Nat},k<=es.length->(∀t (ht:t<es.length),t<k->es[t].key<x.key)->jJ es x=(jJ (es.drop k) x).map (fun l=>es.take k++l)
 |es,0,_,_=>bt
 |[],k+1,hk,_=>by simp at hk
 |e::es,k+1,hk,h=>by
  have h0:=h 0 bt af
  simp only [List.getElem_cons_zero]at h0
  have ih:=vX (es:=es) (k:=k) (by simpa using hk) (fun t ht htk=>h (t+1) (by simpa using ht) af)
  show (if e.key<x.key then _ else _:Option (List aA))=_
  rw [ar h0,ih,List.drop_succ_cons,List.take_succ_cons]
  cases jJ (es.drop k) x <;> rfl
theorem qO {α:Type} {p:α->Bool}:∀{l:List α} {k:Nat} (_:(l.takeWhile p).length=k) (h:k<l.length),p l[k]=false
 |[],k,_,h=>by simp at h
 |a::l,k,hk,h=>by
  by_cases hp:p a=true
  ·rw [List.takeWhile_cons_of_pos hp,fR]at hk
   obtain⟨j,rfl⟩:∃j,k=j+1:=⟨k-1,af⟩
   exact qO (l:=l) (k:=j) af (by simpa using h)
  ·rw [List.takeWhile_cons_of_neg hp,List.length_nil]at hk
   subst hk
   simpa using hp
theorem ly {key:Int} (_hs:aX es):ic es key<=es.length/\(∀t (ht:t<es.length),t<ic es key->es[t].key<key)/\(∀ht:ic es key<es.length,key<=es[ic es key].key):=by
 unfold ic
 have hp:=List.takeWhile_prefix (fun e:aA=>decide (e.key<key)) (l:=es)
 refine⟨hp.length_le,fun t ht htk=>?_,fun ht=>?_⟩
 ·have e:(es.takeWhile fun e=>decide (e.key<key))[t]=es[t]:=hp.getElem htk
  have:=py.1 (List.all_takeWhile (p:=fun e:aA=>decide (e.key<key)) (l:=es)) _ (gj htk)
  rw [e]at this;simpa using this
 ·have:=qO (p:=fun e:aA=>decide (e.key<key)) (l:=es) rfl ht
  have:=XW this
  omega
theorem Ml (hs:aX es) (hh:rp es x.key=false):jJ es x=some (es.take (ic es x.key)++x::es.drop (ic es x.key)):=by
 obtain⟨p1,p2,p3⟩:=ly (key:=x.key) hs
 rw [vX p1 p2]
 by_cases h:ic es x.key<es.length
 ·have h3:=p3 h
  have hne:es[ic es x.key].key≠x.key:=fun e=>by
   have:=List.any_eq_false.1 hh es[ic es x.key] (gj h)
   simp [e]at this
  rw [vh h]
  show (if _<x.key then _ else if _=x.key then _ else _:Option (List aA)).map _=_
  rw [ai af,ai hne];rfl
 ·rw [AL af];rfl
theorem ze {i:Nat} (hi:i<es.length) (hs:aX es) (hp:ic es x.key=i) (hk:es[i].key=x.key) :
  jJ es x=if es[i].is.c+x.is.c<=1073741824 then some (es.set i ⟨x.key,es[i].is.join x.is⟩)else none:=by
 obtain⟨p1,p2,p3⟩:=ly (key:=x.key) hs
 rw [hp]at p1 p2
 rw [vX p1 p2,vh hi]
 show (if _<x.key then _ else if _=x.key then _ else _:Option (List aA)).map _=_
 rw [ai af,ar hk]
 split
 ·rw [List.set_eq_take_append_cons_drop,ar hi];rfl
 ·rfl
end
section
variable {P l es:List aA} {t:Tr}
def dY (P:List aA):Prop:=Checked P/\(∀e∈P,0<=e.key/\e.key<1099511627776)/\P.length<=50000
theorem dY.left {Q:List aA} (h:dY (P++Q)):dY P:=
 ⟨fun e he=>h.1 e (by simp [he]),fun e he=>h.2.1 e (by simp [he]),by have:=h.2.2;rw [eO]at this;omega⟩
theorem zS:∀{m:List aA} {e:aA},e∈l.foldl ins m->∃y,(y∈l\/y∈m)/\y.key=e.key:=by
 induction l with
 |nil=>intro m e he;exact⟨e, .inr he,rfl⟩
 |cons x l ih=>
  intro m e he
  rw [List.foldl_cons]at he
  obtain⟨y,hy|hy,hk⟩:=ih he
  ·exact⟨y, .inl (by simp [hy]),hk⟩
  ·rcases qZ hy with h|⟨z,hz,h⟩
   ·exact⟨x, .inl bt,af⟩
   ·exact⟨z, .inr hz,af⟩
theorem pM (hP:dY P) (h:fo P=some es):aX es/\(∀e∈es,aj e.is=0)/\(∀e∈es,0<=e.key/\e.key<1099511627776)/\es.length<=50000:=by
 obtain⟨h1,h2,h3,h4,h5⟩:=fT hP.1 h
 refine⟨h5,fun e he=>(h3 e he).2,fun e he=>?_,by have:=hP.2.2;omega⟩
 rw [h1]at he
 obtain⟨y,hy|hy,hk⟩:=zS he
 ·have:=hP.2.1 y hy;omega
 ·cases hy
noncomputable def allT (t:Tr):Option (List aA):=if ax t=0 then kG t 0 1099511627776 else none
theorem ES (h:ax t=0) (lo hi:Int):dY (t.all.filter (aT lo hi)):=by
 obtain⟨h1,h2⟩:=cW h
 refine⟨iU (cF h2),fun e he=>lT h2 e (ju.1 he).1,?_⟩
 have h3:=AU h2
 have h4:=tQ (aT lo hi) t.all
 omega
theorem oM (hP:dY P) (h:fo P=some es):dY es:=by
 obtain⟨_,_,g3,g4⟩:=pM hP h
 obtain⟨_,_,h3,_,_⟩:=fT hP.1 h
 exact⟨h3,g3,g4⟩
theorem Kw {lo hi:Int} (hf:ax t=0) (h:kG t lo hi=some l):aX l/\dY l:=
 ⟨(pM (ES hf lo hi) h).1,oM (ES hf lo hi) h⟩
theorem fJ (h:allT t=some l):aX l/\dY l:=by
 unfold allT at h
 split at h
 ·rename_i hf;exact Kw hf h
 ·cases h
def bucket (size:Int) (e:aA):aA:=⟨e.key-e.key%1048576%size,e.is⟩
def bV (l:List aA) (size:Int):Option (List aA):=fo (l.map (bucket size))
theorem mod_le {m s:Int} (h:0<=m) (hs:0<s):m%s<=m:=by
 rw [Int.emod_def]
 have:=Int.mul_nonneg (Int.le_of_lt hs) (Int.ediv_nonneg h (Int.le_of_lt hs))
 omega
theorem pZ {size:Int} (hs:0<size) {e:aA} (h:0<=e.key/\e.key<1099511627776):0<=(bucket size e).key/\(bucket size e).key<1099511627776:=by
 have h1:=Int.emod_nonneg e.key (show (1048576:Int)≠0 by decide)
 have h2:=Int.emod_nonneg (e.key%1048576) (show size≠0 by omega)
 have h3:e.key%1048576%size<=e.key%1048576:=mod_le h1 hs
 have h4:e.key%1048576<=e.key:=af
 show 0<=e.key-e.key%1048576%size/\e.key-e.key%1048576%size<1099511627776
 omega
theorem eA {size:Int} (hs:0<size) (h:dY l):dY (l.map (bucket size)):=by
 refine⟨fun e he=>?_,fun e he=>?_,by rw [po];exact h.2.2⟩
 ·obtain⟨y,hy,rfl⟩:=pn.1 he;exact h.1 y hy
 ·obtain⟨y,hy,rfl⟩:=pn.1 he;exact pZ hs (h.2.1 y hy)
structure Ba where
 names:List ByteArray
 t0:Tr
 t1:Tr
 t2:Tr
 floor:Int
def jm (b:Ba) (e:aA):Bool:=decide (e.key/1048576<b.names.length) && decide (b.floor<=e.key%1048576) && decide (e.is.t=e.key%1048576)
noncomputable def bX (b:Ba):Option (List aA):=match allT b.t0 with|none=>none|some l=>if l.all (jm b)then some l else none
theorem lC {b:Ba} (h:bX b=some l):allT b.t0=some l/\l.all (jm b)=true:=by
 unfold bX at h
 cases ht:allT b.t0 with
 |none=>rw [ht]at h;cases h
 |some m=>
  rw [ht]at h
  simp only at h
  split at h
  ·rename_i hb;simp only [iE]at h;subst h;exact⟨rfl,hb⟩
  ·cases h
noncomputable def fL (l:List aA) (t:Tr) (size:Int):Bool:=match bV l size,allT t with|some a,some c=>decide (a=c)|_,_=>false
def Ba.tree (b:Ba) (k:Nat):Tr:=if k=0 then b.t0 else if k=1 then b.t1 else b.t2
def aS (k:Nat):Int:=if k=0 then 1 else if k=1 then 60 else 3600
theorem iu (k:Nat):0<aS k:=by unfold aS;split;decide;split <;> decide
end
open Go.ChangeShapes Go.WideShapes Go.ChangeAt Go.RowKit
theorem Aj {H:Type} {enc:TypeId×Value->H} {P:Program} (hl:laidOutB P=true) {W W':World} (hb:ah W W') :
  ∀{ts:List TypeId} {vs:List Value} {ds:List (DataW H)} {ps:List MemPlace},(∀t∈ts,P.readableRec t=true/\t<P.types.size) ->
   DataW.TrodAll enc P W 0 (fun _=>true) true ts vs ds ps->(∀x∈ps,x.block<W.heap.size) ->
   DataW.TrodAll enc P W' 0 (fun b=>decide (b<W.heap.size)) true ts vs ds ps:=by
 intro ts
 induction ts with
 |nil=>intro vs ds ps _ h _;obtain⟨rfl,rfl,rfl⟩:=trodAll_nil h;exact trodAll_mk0
 |cons t ts ih=>
  intro vs ds ps ht h hlt
  obtain⟨v,vs',d,ds',p,q,rfl,rfl,rfl,h1,h2⟩:=trodAll_cons h
  refine⟨p,q,Below.trod hl (ht t bt).1 (ht t bt).2 h1 hb (fun x hx=>hlt x (by simp [hx])),?_,rfl⟩
  exact ih (fun t' ht'=>ht t' (by simp [ht'])) h2 (fun x hx=>hlt x (by simp [hx]))
section
set_option maxRecDepth 100000
theorem Tryz.own:ownKnob Tryz.prog.godebug=none:=cv
theorem Tryz.laidOut:laidOutB Tryz.prog=true:=cv
theorem Tryz.EK:Tryz.prog.cellsOf 3=1:=cv
section
variable {H:Type} {enc:TypeId×Value->H} {w:World} {base:Nat} {sp:Nat->Bool} {held:Bool}
theorem take_one {α:Type} {cs:List α} {i:Nat} {v:α} (h:(cs.drop i).take 1=[v]):cs[i]?=some v:=by
 have:=congrArg (fun l=>l[0]?) h
 simpa [qE] using this
theorem K8 {n:Int} (hw:(Lit.int .i64 n).wf=true) : -9223372036854775808<=n/\n<=9223372036854775807:=by
 simpa [Lit.wf,IntKind.min,IntKind.max,IntKind.signed,IntKind.bits] using hw
theorem nO {fuel:Nat} {cs:List Value} {i:Nat} {x:DataW H×List MemPlace} (h:DataW.trod enc Tryz.prog w base sp held fuel 3 ((cs.drop i).take (Tryz.prog.cellsOf 3))=some x) :
  ∃n,cs[i]?=some (.int .i64 n)/\-9223372036854775808<=n/\n<=9223372036854775807:=by
 obtain⟨n,e,_,hw⟩:=DataW.trod_int Tryz.underlying3 h
 rw [Tryz.EK]at e
 exact⟨n,take_one e,K8 hw⟩
def av.cells (r:av):List Value:=[.int .i64 r.c, .int .i64 r.s, .int .i64 r.mi, .int .i64 r.ma, .int .i64 r.t, .int .i64 r.l]
theorem vQ {r:Reach} {b0:Nat} {v:Value} {d:DataW H} {p:List MemPlace} (hv:Value.okWide Tryz.prog w r b0 3 v) (h:DataW.Trod enc Tryz.prog w base sp held 3 v d p) :
  ∃n,v = .int .i64 n/\-9223372036854775808<=n/\n<=9223372036854775807:=by
 obtain⟨n,rfl,_,_,hw⟩:=open_int Tryz.underlying3 hv h
 exact⟨n,rfl,K8 hw⟩
end
end
theorem za {H:Type} {enc:TypeId×Value->H} {C:Go.Checked} {os:Os} {f:FuncId} {fn:Func} {s:ChangeSpec} {tb:TypeId} {L:List (String×DataW Unit)}
  (own:ownKnob C.prog.godebug=none) (started:os.Started) (noInit:C.prog.inits.idxOf? f=none) (hfn:C.prog.funcs[f]?=some fn)
  (witness:∃(w:World) (tape:Tape) (i:Input),w.os=os/\(w.forCall tape i).Shaped C.prog/\i.vars=[]/\Input.okWide C.prog (w.forCall tape i) .any w.heap.size f i /\
   ((s.pre enc C.prog fn [] false (w.forCall tape i).memory i.args/\laidMetH C.prog L (w.forCall tape i).memory)/\sizedMet enc C.prog fn (OpenSpec.ofChange s) false (w.forCall tape i).memory i.args)/\({}:Assume).holds C.prog (lone (Frame.enter C.prog f i.args .normal) [] (w.forCall tape i)))
  (hl:laidOutB C.prog=true) (hread:∀t∈fn.params.toList,C.prog.readableRec t=true/\t<C.prog.types.size)
  (hvars:s.vars=[]) (hres:fn.resultTypes=#[tb]) (D6:C.prog.underlying tb=some .bool)
  (My:∀ds:List (DataW H),ds.length=fn.params.size->s.fn H (ds++[])={ results:=[.lit (.bool true)],args:=ds })
  (contract:∀(W:World) (base:Nat) (args:Array Value) (ds:List (DataW H)) (ps:List MemPlace),
   (∀(j:Nat) t v,fn.params[j]?=some t->args[j]?=some v->Value.okWide C.prog W .any base t v) ->
   DataW.TrodAll enc C.prog W 0 (fun _=>true) true fn.params.toList args.toList ds ps ->
   (∀x∈ps,x.block<W.heap.size) ->
   (DataW.weightsEach C.prog fn.params.toList ds).all (·<=reachBytes)=true->laidMetH C.prog L W ->
   Calls C.prog f args W fun e W'=>e = .returned (.bool true)/\ah W W') :
  ReturnsInHanded {} C os f .any (fun w args=>(s.pre enc C.prog fn [] false w args/\laidMetH C.prog L w)/\sizedMet enc C.prog fn (OpenSpec.ofChange s) false w args) (s.post enc C.prog fn false true false false):=by
 refine returnsInHanded_of_change_and (C:=C) (X:=fun w _=>laidMetH C.prog L w) (fun _ _ _ hh h=>h.of_heap hh) own started noInit hfn witness ?_
 intro W base args ds gs before hval hW _ hsz hL _
 have hW':=hW
 obtain⟨p,q,hA,hV,rfl,hfz,hnd⟩:=hW
 rw [hvars]at hV
 obtain⟨rfl,rfl⟩:=trodVars_none hV
 have hlt:∀x∈p,x.block<W.heap.size:=fun x hx=>hW'.lt x (by simp [hx])
 have PQ:s.plain.varTypes C.prog=[]:=by simp [ChangeSpec.plain,DataSpec.varTypes,hvars]
 rw [PQ]at hsz
 simp only [pq]at hsz
 refine(contract W base args ds p hval hA hlt hsz hL).mono fun e W' ⟨he,hb⟩=>?_
 subst he
 have hlen:ds.length=fn.params.size:=by
  have:∀{ts:List TypeId} {vs:List Value} {ds:List (DataW H)} {ps:List MemPlace},DataW.TrodAll enc C.prog W 0 (fun _=>true) true ts vs ds ps->ds.length=ts.length:=by
   intro ts
   induction ts with
   |nil=>intro vs ds ps h;obtain⟨rfl,rfl,rfl⟩:=trodAll_nil h;rfl
   |cons t ts ih=>
    intro vs ds ps h
    obtain⟨v,vs',d,ds',p,q,rfl,rfl,rfl,h1,h2⟩:=trodAll_cons h
    simp [ih h2]
  simpa using this hA
 refine⟨_,rfl,ds,[],p++[],[],p,[],hW',?_,?_,?_,hb.frame _,fun h=>by cases h⟩
 ·rw [My ds hlen,hres]
  exact trodAll_mk1 (shut_bool D6 true)
 ·rw [My ds hlen]
  exact Aj hl hb hread hA hlt
 ·rw [My ds hlen,hvars]
  rfl
structure bS (w:World):Prop where
 lt:0<w.heap.size
 c0:w.cell? ⟨0,0,none⟩=some (.int .i64 1)
 c1:w.cell? ⟨0,1,none⟩=some (.int .i64 60)
 c2:w.cell? ⟨0,2,none⟩=some (.int .i64 3600)
theorem bS.below {w w':World} (h:bS w) (hb:ah w w'):bS w':=
 ⟨mR h.lt hb.size,(hb.cell (p:=⟨_,_,none⟩) h.lt).trans h.c0,(hb.cell (p:=⟨_,_,none⟩) h.lt).trans h.c1,(hb.cell (p:=⟨_,_,none⟩) h.lt).trans h.c2⟩
theorem zj (w:World):(Instr.index 127 (.agg #[.int .i64 1, .int .i64 60, .int .i64 3600]) (.int .i64 0)).run Tryz.prog w = .ok (.int .i64 1) w:=by
 unfold Instr.index
 simp [go_sem]
theorem zi (w:World):(Instr.index 127 (.agg #[.int .i64 1, .int .i64 60, .int .i64 3600]) (.int .i64 1)).run Tryz.prog w = .ok (.int .i64 60) w:=by
 unfold Instr.index
 simp [go_sem]
theorem zh (w:World):(Instr.index 127 (.agg #[.int .i64 1, .int .i64 60, .int .i64 3600]) (.int .i64 2)).run Tryz.prog w = .ok (.int .i64 3600) w:=by
 unfold Instr.index
 simp [go_sem]
abbrev DB : List (String × DataW Unit) := [("winnower/base.sizes", Rows.laid_winnower_base_sizes)]
theorem Tryz.Nh : Tryz.prog.globalNamed "winnower/base.sizes" = some 0 := by kernel_rfl
theorem Tryz.Sg:(Tryz.prog.globals[0]?).map (·.type)=some 127:=cv
theorem Tryz.Hj:Tryz.prog.cellsOf 127=3:=cv
theorem Am {W:World} (h:laidMetH Tryz.prog DB W):bS W:=by
 rw [MakeChecks.laidMetH_plain _ _ _ cv]at h
 obtain⟨ps,⟨g0,t0,cs0,f0,p0,q0,hg0,ht0,hv0,hd0,_,_⟩,_⟩:=h
 obtain rfl:=dt (Tryz.Nh.symm.trans hg0)
 obtain rfl:=dt (Tryz.Sg.symm.trans ht0)
 obtain⟨xs,m1,rfl,hx1,hlen,Ve,hel⟩:=DataW.trod_array Tryz.underlying127 hd0
 rw [Tryz.Hj]at hlen
 simp only [jM]at hx1
 have cells:∀(i:Nat) (n:Int),i<3->(xs.map (·.1))[i]?=some (.lit (.int .i64 n))->cs0[i]?=some (.int .i64 n):=by
  intro i n hi hn
  have hi':i<xs.length:=af
  have h1:=hel i hi
  rw [oG hi']at h1
  obtain⟨k,e1,e2,_⟩:=DataW.trod_int Tryz.underlying3 h1
  rw [Tryz.EK,Nat.mul_one]at e1
  have h2:=take_one e1
  rw [List.getElem?_map,oG hi']at hn
  simp only [Option.map_some,iE]at hn
  have e3:=congrArg (·.1) e2
  simp only at e3
  rw [hn]at e3
  obtain rfl:k=n:=by simpa using e3.symm
  simpa using h2
 have hm:xs.map (·.1)=[.lit (.int .i64 1), .lit (.int .i64 60), .lit (.int .i64 3600)]:=(DataW.agg.inj (show DataW.agg [.lit (.int .i64 1), .lit (.int .i64 60), .lit (.int .i64 3600)]=DataW.agg (xs.map (·.1))from hx1.1)).symm
 have hc:∀(i:Nat) (n:Int),i<3->(xs.map (·.1))[i]?=some (.lit (.int .i64 n))->W.cell? ⟨0,i,none⟩=some (.int .i64 n):=fun i n hi hn=>
  (World.var?_cell Tryz.Nh hv0 i).trans (cells i n hi hn)
 have c0:=hc 0 1 af (by rw [hm];rfl)
 refine⟨?_,c0,hc 1 60 af (by rw [hm];rfl),hc 2 3600 af (by rw [hm];rfl)⟩
 by_cases hb:0<W.heap.size
 ·exact hb
 ·simp [World.cell?,Array.getElem?_eq_none (Nat.le_of_not_lt hb)]at c0
theorem Nu (os:Os) (args:Array Value):laidMetH Tryz.prog DB ((World.doorLaid Tryz.prog 14 os).forCall (fun _ _=>0) ⟨#[],args,[]⟩).memory:=
 laidMetH_of_parts3 (fuel:=8) (laidMet_of_run' 8 cv cv) cv cv
end Go.Proofs.YtmljjfhgciaceaaGreatDoor
