/- Lemmas of the proof. -/
import Derived.Test.YtmljjfhgciaceaaGreatDoorHd
import Derived.Test.YtmljjfhgciaceaaGreatDoorCz
import Derived.ProofKit
import Derived.SizedLaws
import Derived.Below
import Derived.Carry
import Derived.Test.YtmljjfhgciaceaaGreatDoorRows
import Derived.Lib.SmallJoins
import Derived.Test.YtmljjfhgciaceaaGreatDoorTie
import Derived.LaidMore
import Derived.MakeChecks
import Derived.OpenShut
import Derived.Stop.Joined
import Derived.SevenTiedAt
import Derived.Handed
import Derived.LaidHandle
namespace Go.Proofs.YtmljjfhgciaceaaGreatDoor
open Go.ChangeShapes Go.WideShapes Go.ChangeAt Go.RowKit
section
variable {n m:Int}
structure ax where
 c:Int
 s:Int
 mi:Int
 ma:Int
 t:Int
 l:Int
 deriving DecidableEq,Inhabited
def within (n most:Int):Bool:=decide (-most<=n) && decide (n<=most)
def mn (n low high:Int):Bool:=decide (low<=n) && decide (n<=high)
def ax.zero:ax:=⟨0,0,0,0,0,0⟩
def ax.ranged (r:ax):Prop:=0<=r.c/\r.c<=1073741824/\-1125899906842624<=r.s/\r.s<=1125899906842624/\-1000000<=r.mi/\r.mi<=1000000/\-1000000<=r.ma/\r.ma<=1000000 /\
 -1000000<=r.l/\r.l<=1000000/\0<=r.t/\r.t<=1048575
instance (r:ax):Decidable r.ranged:=by unfold ax.ranged;infer_instance
def ax.formed (r:ax):Prop:=r.mi<=r.l/\r.l<=r.ma/\r.c*r.mi<=r.s/\r.s<=r.c*r.ma
instance (r:ax):Decidable r.formed:=by unfold ax.formed;infer_instance
def av (r:ax):Int:=if r.ranged then(if r.c=0 then(if r=ax.zero then 0 else 4)else if r.formed then 0 else 4)else 2
def ej (time value:Int):ax×Int:=if 0<=time/\time<=1048575/\-1000000<=value/\value<=1000000 then(⟨1,value,value,value,time,value⟩,0) else(ax.zero,2)
def ax.join (a b:ax):ax:=
 if b.c=0 then a else if a.c=0 then b else
 {c:=a.c+b.c,s:=a.s+b.s,mi:=min a.mi b.mi,ma:=max a.ma b.ma,
  t:=if a.t<b.t\/(a.t=b.t/\a.l<b.l)then b.t else a.t,l:=if a.t<b.t\/(a.t=b.t/\a.l<b.l)then b.l else a.l }
def bF (a b:ax):ax×Int:=
 if av a≠0 then(ax.zero,av a)else if av b≠0 then(ax.zero,av b) else
 if a.c=0\/b.c=0 then(a.join b,0) else
 if a.c+b.c>1073741824\/within (a.s+b.s) 1125899906842624=false then(ax.zero,1) else(a.join b,0)
theorem Ae:within n m=true↔-m<=n/\n<=m:=by simp [within]
theorem Fu:within n m=false↔n < -m\/m<n:=by simp [within];omega
theorem gX {l h:Int}:mn n l h=true↔l<=n/\n<=h:=by simp [mn]
theorem nK {l h:Int}:mn n l h=false↔n<l\/h<n:=by simp [mn];omega
theorem rc2 {r:ax} (h:¬r.ranged):av r=2:=by simp [av,h]
theorem ab1 {r:ax} (h:r=ax.zero):av r=0:=by subst h;decide
theorem ab0 {r:ax} (h:r.ranged) (hc:r.c=0) (hz:r≠ax.zero):av r=4:=by simp [av,h,hc,hz]
theorem rc0 {r:ax} (h:r.ranged) (hc:r.c≠0) (hf:r.formed):av r=0:=by simp [av,h,hc,hf]
theorem rc4 {r:ax} (h:r.ranged) (hc:r.c≠0) (hf:¬r.formed):av r=4:=by simp [av,h,hc,hf]
theorem pP {c:Int} (h0:0<=c) (h1:c<=1073741824) (h2 : -1000000<=m) (h3:m<=1000000) : -1073741824000000<=c*m/\c*m<=1073741824000000:=by
 have a1:c*m<=c*1000000:=PS h3 h0;have a2:c*(-1000000)<=c*m:=PS h2 h0;omega
end
section
variable {r a b:ax}
structure aH where
 key:Int
 is:ax
 deriving DecidableEq,Inhabited
structure Nd where
 leaf:Bool
 aI:List aH
 keys:List Int
 kids:List Int
 buf:List aH
 deriving DecidableEq,Inhabited
structure Tr where
 nodes:List Nd
 root:Int
 deriving DecidableEq,Inhabited
def ax.Good (r:ax):Prop:=0<r.c/\-1000000<=r.mi/\r.mi<=1000000/\-1000000<=r.ma/\r.ma<=1000000/\-1000000<=r.l/\r.l<=1000000/\0<=r.t/\r.t<=1048575 /\
 r.mi<=r.l/\r.l<=r.ma/\r.c*r.mi<=r.s/\r.s<=r.c*r.ma
def ax.kO (r:ax):Prop:=r=ax.zero\/r.Good
theorem uH (h:r.Good) (hc:r.c<=1073741824) : -1125899906842624<=r.s/\r.s<=1125899906842624:=by
 obtain⟨h0,h1,h2,h3,h4,h5,h6,h7,h8,h9,h10,h11,h12⟩:=h;have a1:=pP (c:=r.c) (m:=r.mi) ai hc h1 h2;have a2:=pP (c:=r.c) (m:=r.ma) ai hc h3 h4;omega
theorem tF (h:r.Good) (hc:r.c<=1073741824):av r=0:=by
 have hs:=uH h hc;obtain⟨h0,h1,h2,h3,h4,h5,h6,h7,h8,h9,h10,h11,h12⟩:=h;exact rc0 (by unfold ax.ranged;omega) ai (by unfold ax.formed;omega)
theorem dC (h:av r=0) (hc:r.c≠0):r.Good/\r.c<=1073741824:=by
 unfold av at h
 split at h
 ·rename_i hr
  split at h
  ·rename_i hf
   unfold ax.ranged at hr;unfold ax.formed at hf;unfold ax.Good;omega
  ·cases h
 ·cases h
theorem Ep (h:av r=0) (hc:r.c=0):r=ax.zero:=by
 unfold av at h
 split at h
 ·split at h
  ·assumption
  ·cases h
 ·cases h
theorem fG (r:ax):av r=0↔r.kO/\r.c<=1073741824:=by
 constructor
 ·intro h;by_cases hc:r.c=0
  ·exact⟨.inl (Ep h hc),ai⟩
  ·have:=dC h hc;exact⟨.inr this.1,this.2⟩
 ·rintro⟨rfl|h,hc⟩
  ·decide
  ·exact tF h hc
theorem ax.kO.pos (h:r.kO):0<=r.c:=by
 rcases h with rfl|h
 ·decide
 ·have:=h.1;omega
theorem ax.kO.good (h:r.kO) (hc:r.c≠0):r.Good:=by
 rcases h with rfl|h
 ·exact absurd rfl hc
 ·exact h
theorem zM:ax.zero.kO:= .inl rfl
theorem ax.kO.zero (h:r.kO) (hc:r.c=0):r=ax.zero:=by
 rcases h with rfl|h
 ·rfl
 ·have:=h.1;omega
theorem dN (a:ax):a.join ax.zero=a:=by simp [ax.join,ax.zero]
theorem fB (h:a.kO):ax.zero.join a=a:=by
 rcases h with rfl|h
 ·decide
 ·have:=h.1;simp only [ax.join];rw [ar ai,aw (by rfl)]
theorem dO (a b:ax):(a.join b).c=a.c+b.c:=by
 unfold ax.join
 split
 ·omega
 ·split
  ·omega
  ·rfl
theorem vP (ha:a.Good) (hb:b.Good):(a.join b).Good:=by
 obtain⟨h0,h1,h2,h3,h4,h5,h6,h7,h8,h9,h10,h11,h12⟩:=ha;obtain⟨g0,g1,g2,g3,g4,g5,g6,g7,g8,g9,g10,g11,g12⟩:=hb;unfold ax.join;rw [ar ai,ar ai];have l1:(a.c+b.c)*min a.mi b.mi<=a.s+b.s:=by
  have e1:a.c*min a.mi b.mi<=a.c*a.mi:=PS ai ai;have e2:b.c*min a.mi b.mi<=b.c*b.mi:=PS ai ai;rw [Int.add_mul];omega
 have l2:a.s+b.s<=(a.c+b.c)*max a.ma b.ma:=by
  have e1:a.c*a.ma<=a.c*max a.ma b.ma:=PS ai ai;have e2:b.c*b.ma<=b.c*max a.ma b.ma:=PS ai ai;rw [Int.add_mul];omega
 unfold ax.Good;simp only;refine⟨ai,ai,ai,ai,ai,?_,?_,?_,?_,?_,?_,l1,l2⟩ <;> split <;> omega
theorem kq (ha:a.kO) (hb:b.kO):(a.join b).kO:=by
 rcases hb with rfl|hb
 ·rw [dN];exact ha
 ·rcases ha with rfl|ha
  ·rw [fB (.inr hb)];exact .inr hb
  ·exact .inr (vP ha hb)
theorem join_eq (ha:a.c≠0) (hb:b.c≠0):a.join b=⟨a.c+b.c,a.s+b.s,min a.mi b.mi,max a.ma b.ma,if a.t<b.t\/(a.t=b.t/\a.l<b.l)then b.t else a.t,if a.t<b.t\/(a.t=b.t/\a.l<b.l)then b.l else a.l⟩:=by
 unfold ax.join;rw [ar hb,ar ha]
theorem Hq (h1:a.c=b.c) (h2:a.s=b.s) (h3:a.mi=b.mi) (h4:a.ma=b.ma) (h5:a.t=b.t) (h6:a.l=b.l):a=b:=by
 cases a;cases b;simp_all
theorem join_comm (ha:a.kO) (hb:b.kO):a.join b=b.join a:=by
 rcases hb with rfl|hb
 ·rw [dN,fB ha]
 ·rcases ha with rfl|ha
  ·rw [dN,fB (.inr hb)]
  ·have:=ha.1;have:=hb.1;rw [join_eq ai ai,join_eq ai ai];refine Hq ?_ ?_ ?_ ?_ ?_ ?_ <;> simp only
   ·omega
   ·omega
   ·omega
   ·omega
   ·split <;> split <;> omega
   ·split <;> split <;> omega
theorem join_assoc {c:ax} (ha:a.kO) (hb:b.kO) (hc:c.kO):(a.join b).join c=a.join (b.join c):=by
 rcases hc with rfl|hc
 ·rw [dN,dN]
 ·rcases hb with rfl|hb
  ·rw [dN,fB (.inr hc)]
  ·rcases ha with rfl|ha
   ·rw [fB (.inr hb),fB (.inr (vP hb hc))]
   ·have:=ha.1;have:=hb.1;have:=hc.1;have e1:(a.join b).c≠0:=(by rw [dO];omega);have e2:(b.join c).c≠0:=(by rw [dO];omega);have f1:a.join b=⟨a.c+b.c,a.s+b.s,min a.mi b.mi,max a.ma b.ma,if a.t<b.t\/(a.t=b.t/\a.l<b.l)then b.t else a.t,if a.t<b.t\/(a.t=b.t/\a.l<b.l)then b.l else a.l⟩:=by
     unfold ax.join;rw [ar ai,ar ai]
    have f2:b.join c=⟨b.c+c.c,b.s+c.s,min b.mi c.mi,max b.ma c.ma,if b.t<c.t\/(b.t=c.t/\b.l<c.l)then c.t else b.t,if b.t<c.t\/(b.t=c.t/\b.l<c.l)then c.l else b.l⟩:=by
     unfold ax.join;rw [ar ai,ar ai]
    have g1:∀x:ax,x.c≠0->x.join c=⟨x.c+c.c,x.s+c.s,min x.mi c.mi,max x.ma c.ma,if x.t<c.t\/(x.t=c.t/\x.l<c.l)then c.t else x.t,if x.t<c.t\/(x.t=c.t/\x.l<c.l)then c.l else x.l⟩:=fun x hx=>by
     unfold ax.join;rw [ar ai,ar hx]
    have g2:∀x:ax,x.c≠0->a.join x=⟨a.c+x.c,a.s+x.s,min a.mi x.mi,max a.ma x.ma,if a.t<x.t\/(a.t=x.t/\a.l<x.l)then x.t else a.t,if a.t<x.t\/(a.t=x.t/\a.l<x.l)then x.l else a.l⟩:=fun x hx=>by
     unfold ax.join;rw [ar hx,ar ai]
    rw [g1 _ e1,g2 _ e2,f1,f2];simp only;refine Hq ?_ ?_ ?_ ?_ ?_ ?_ <;> simp only
    ·omega
    ·omega
    ·omega
    ·omega
    ·by_cases p:a.t<b.t\/(a.t=b.t/\a.l<b.l) <;> by_cases q:b.t<c.t\/(b.t=c.t/\b.l<c.l) <;> simp only [p,q,if_true,if_false] <;> split <;> (try split) <;> omega
    ·by_cases p:a.t<b.t\/(a.t=b.t/\a.l<b.l) <;> by_cases q:b.t<c.t\/(b.t=c.t/\b.l<c.l) <;> simp only [p,q,if_true,if_false] <;> split <;> (try split) <;> omega
theorem iL (ha:av a=0) (hb:av b=0):bF a b=if a.c+b.c<=1073741824 then(a.join b,0) else(ax.zero,1):=by
 obtain⟨fa,ca⟩:=(fG a).1 ha;obtain⟨fb,cb⟩:=(fG b).1 hb;have pa:=fa.pos;have pb:=fb.pos;unfold bF;rw [ar (by simp [ha]),ar (by simp [hb])];by_cases h0:a.c=0\/b.c=0
 ·rw [aw h0,aw ai]
 ·rw [ar h0];by_cases h1:a.c+b.c<=1073741824
  ·rw [aw h1];have hg:=vP (fa.good ai) (fb.good ai);have hc:=dO a b;have hs:=uH hg ai;have es:(a.join b).s=a.s+b.s:=by unfold ax.join;rw [ar ai,ar ai]
   rw [es]at hs;rw [ar];simp [within];omega
  ·rw [ar h1,aw (.inl ai)]
theorem qh (ha:av a=0) (hb:av b=0) (hc:a.c+b.c<=1073741824):bF a b=(a.join b,0)/\av (a.join b)=0:=by
 obtain⟨fa,ca⟩:=(fG a).1 ha;obtain⟨fb,cb⟩:=(fG b).1 hb;refine⟨by rw [iL ha hb,aw hc],(fG _).2 ⟨kq fa fb,by rw [dO a b];exact hc⟩⟩
end
section
variable {e x:aH} {l a b m:List aH}
def je (l:List aH):Prop:=∀e∈l,e.is.kO
def bQ (l:List aH):Prop:=∀e∈l,e.is.Good
def Checked (l:List aH):Prop:=∀e∈l,e.is.c≠0/\av e.is=0
def aY (l:List aH):Prop:=l.Pairwise fun a b=>a.key<b.key
theorem bQ.dV (h:bQ l):je l:=fun e he=> .inr (h e he)
theorem Checked.cp (h:Checked l):bQ l:=fun e he=>(dC (h e he).2 (h e he).1).1
theorem je.cons (h:je (e::l)):e.is.kO/\je l:=⟨h e bh,fun x hx=>h x (by simp [hx])⟩
theorem bQ.cons (h:bQ (e::l)):e.is.Good/\bQ l:=⟨h e bh,fun x hx=>h x (by simp [hx])⟩
def look:List aH->Int->ax
 |[],_=>ax.zero
 |e::l,k=>if e.key=k then e.is.join (look l k)else look l k
theorem dM (h:je l) (k:Int):(look l k).kO:=by
 induction l with
 |nil=>exact zM
 |cons e l ih=>
  have:=h.cons;unfold look
  split
  ·exact kq this.1 (ih this.2)
  ·exact ih this.2
theorem oq (ha:je a) (hb:je b) (k:Int):look (a++b) k=(look a k).join (look b k):=by
 induction a with
 |nil=>simp only [List.nil_append,look];rw [fB (dM hb k)]
 |cons e l ih=>
  have:=ha.cons;simp only [List.cons_append,look]
  split
  ·rw [ih this.2,join_assoc this.1 (dM this.2 k) (dM hb k)]
  ·exact ih this.2
theorem jz {k:Int} (h:∀e∈l,e.key≠k):look l k=ax.zero:=by
 induction l with
 |nil=>rfl
 |cons e l ih=>
  unfold look;rw [ar (h e bh)];exact ih fun x hx=>h x (by simp [hx])
theorem rW (h:a.Perm b) (ha:je a) (k:Int):look a k=look b k:=by
 induction h with
 |nil=>rfl
 |cons x _ ih=>simp only [look];rw [ih ha.cons.2]
 |swap x y l=>
  have h1:=ha.cons;have h2:=h1.2.cons;simp only [look]
  split <;> split
  ·rw [<-join_assoc h1.1 h2.1 (dM h2.2 k),<-join_assoc h2.1 h1.1 (dM h2.2 k),join_comm h1.1 h2.1]
  ·rfl
  ·rfl
  ·rfl
 |trans p _ ih1 ih2=>
  rw [ih1 ha,ih2 fun e he=>ha e (p.mem_iff.2 he)]
theorem zD (h:bQ l) {k:Int} (hk:∃e∈l,e.key=k):(look l k).Good:=by
 obtain⟨e,he,hk⟩:=hk;have hf:=dM h.dV k;refine hf.good ?_
 induction l with
 |nil=>cases he
 |cons x l ih=>
  have hc:=h.cons;have hf2:=(dM hc.2.dV k);have p1:=hf2.pos;unfold look;by_cases hx:x.key=k
  ·rw [aw hx,dO];have:=hc.1.1;omega
  ·rw [ar hx];rcases fy.1 he with rfl|he
   ·exact absurd hk hx
   ·exact ih hc.2 he hf2
theorem iF (h:aY l) (he:e∈l):look l e.key=e.is:=by
 induction l with
 |nil=>cases he
 |cons x l ih=>
  have hp:=tZ.1 h;unfold look;rcases fy.1 he with rfl|he
  ·rw [aw rfl,jz (fun y hy=>by have:=hp.1 y hy;omega),dN]
  ·rw [ar (by have:=hp.1 e he;omega)];exact ih hp.2 he
theorem uC:∀{a b:List aH},aY a->aY b->bQ a->bQ b->(∀k,look a k=look b k)->a=b
 |[],[],_,_,_,_,_=>rfl
 |[],e::l,_,hb,_,gb,h=>by
  have:=zD gb (k:=e.key) ⟨e,bh,rfl⟩;rw [<-h e.key]at this;exact absurd this.1 (by simp [look,ax.zero])
 |e::l,[],ha,_,ga,_,h=>by
  have:=zD ga (k:=e.key) ⟨e,bh,rfl⟩;rw [h e.key]at this;exact absurd this.1 (by simp [look,ax.zero])
 |e::l,f::m,ha,hb,ga,gb,h=>by
  have pa:=tZ.1 ha;have pb:=tZ.1 hb;have mem:∀{x:aH} {c d:List aH},x∈c->bQ c->(∀k,look c k=look d k)->∃y∈d,y.key=x.key:=by
   intro x c d hx gc hcd;by_cases hd:∃y∈d,y.key=x.key
   ·exact hd
   ·have e1:look d x.key=ax.zero:=jz fun y hy hk=>hd ⟨y,hy,hk⟩;have e2:=zD gc (k:=x.key) ⟨x,hx,rfl⟩;rw [hcd,e1]at e2;exact absurd e2.1 bY
  have hk:e.key=f.key:=by
   obtain⟨y,hy,e1⟩:=mem (x:=e) bh ga h;obtain⟨z,hz,e2⟩:=mem (x:=f) bh gb fun k=>(h k).symm;rcases fy.1 hy with rfl|hy
   ·exact e1.symm
   ·rcases fy.1 hz with rfl|hz
    ·exact e2
    ·have:=pb.1 y hy;have:=pa.1 z hz;omega
  have he:e.is=f.is:=by
   have e1:=iF ha (e:=e) bh;have e2:=iF hb (e:=f) bh;rw [h e.key,hk,e2]at e1;exact e1.symm
  have DM:e=f:=by cases e;cases f;simp_all
  subst DM
  congr 1
  refine uC pa.2 pb.2 ga.cons.2 gb.cons.2 fun k=>?_;by_cases hk':e.key=k
  ·rw [jz (fun y hy=>by have:=pa.1 y hy;omega),jz (fun y hy=>by have:=pb.1 y hy;omega)]
  ·have:=h k;simpa [look,hk'] using this
def ins:List aH->aH->List aH
 |[],x=>[x]
 |e::l,x=>if e.key<x.key then e::ins l x else if e.key=x.key then⟨x.key,e.is.join x.is⟩::l else x::e::l
def gJ:List aH->aH->Option (List aH)
 |[],x=>some [x]
 |e::l,x=>if e.key<x.key then(gJ l x).map (e::·)else if e.key=x.key then(if e.is.c+x.is.c<=1073741824 then some (⟨x.key,e.is.join x.is⟩::l)else none)else some (x::e::l)
theorem uE {y:aH} (h:y∈ins l x):y.key=x.key\/∃e∈l,e.key=y.key:=by
 induction l with
 |nil=>simp [ins]at h;exact .inl (by rw [h])
 |cons e l ih=>
  unfold ins at h
  split at h
  ·rcases fy.1 h with rfl|h
   ·exact .inr ⟨y,bh,rfl⟩
   ·rcases ih h with h|⟨z,hz,hk⟩
    ·exact .inl h
    ·exact .inr ⟨z,by simp [hz],hk⟩
  ·split at h
   ·rcases fy.1 h with rfl|h
    ·exact .inl rfl
    ·exact .inr ⟨y,by simp [h],rfl⟩
   ·rcases fy.1 h with rfl|h
    ·exact .inl rfl
    ·exact .inr ⟨y,h,rfl⟩
theorem lH (h:aY l):aY (ins l x):=by
 induction l with
 |nil=>simp [ins,aY]
 |cons e l ih=>
  have hp:=tZ.1 h;unfold ins
  split
  ·refine tZ.2 ⟨fun y hy=>?_,ih hp.2⟩;rcases uE hy with h|⟨z,hz,hk⟩
   ·omega
   ·have:=hp.1 z hz;omega
  ·split
   ·exact tZ.2 ⟨fun y hy=>by have:=hp.1 y hy;simp only;omega,hp.2⟩
   ·refine tZ.2 ⟨fun y hy=>?_,h⟩;rcases fy.1 hy with rfl|hy
    ·omega
    ·have:=hp.1 y hy;omega
theorem lV (h:bQ l) (hx:x.is.Good):bQ (ins l x):=by
 induction l with
 |nil=>intro e he;simp [ins]at he;rw [he];exact hx
 |cons e l ih=>
  have hc:=h.cons;unfold ins
  split
  ·intro y hy;rcases fy.1 hy with rfl|hy
   ·exact hc.1
   ·exact ih hc.2 y hy
  ·split
   ·intro y hy;rcases fy.1 hy with rfl|hy
    ·exact vP hc.1 hx
    ·exact hc.2 y hy
   ·intro y hy;rcases fy.1 hy with rfl|hy
    ·exact hx
    ·exact h y hy
theorem rX (h:je l) (hx:x.is.kO) (k:Int):look (ins l x) k=if x.key=k then(look l k).join x.is else look l k:=by
 induction l with
 |nil=>
  simp only [ins,look]
  split
  ·rw [dN,fB hx]
  ·rfl
 |cons e l ih=>
  have hc:=h.cons;have hf:=dM hc.2 k;unfold ins
  split
  ·unfold look;rw [ih hc.2];by_cases h1:e.key=k
   ·rw [aw h1,aw h1,ar ai,ar ai]
   ·rw [ar h1,ar h1]
  ·split
   ·simp only [look];by_cases h1:x.key=k
    ·rw [aw h1,aw h1,aw ai,join_assoc hc.1 hx hf,join_assoc hc.1 hf hx,join_comm hx hf]
    ·rw [ar h1,ar h1,ar ai]
   ·simp only [look];by_cases h1:x.key=k
    ·rw [aw h1,aw h1,ar ai,join_comm hx hf]
    ·rw [ar h1,ar h1]
theorem yj (h:aY l) (hx:x.is.c<=1073741824):gJ l x=if (look l x.key).c+x.is.c<=1073741824 then some (ins l x)else none:=by
 induction l with
 |nil=>
  have:(look [] x.key).c+x.is.c<=1073741824:=by simpa [look,ax.zero] using hx
  rw [aw this];rfl
 |cons e l ih=>
  have hp:=tZ.1 h;by_cases h1:e.key<x.key
  ·have e1:look (e::l) x.key=look l x.key:=by show (if e.key=x.key then _ else _)=_;rw [ar ai]
   have e2:ins (e::l) x=e::ins l x:=by show (if e.key<x.key then _ else _)=_;rw [aw h1]
   have e3:gJ (e::l) x=(gJ l x).map (e::·):=by show (if e.key<x.key then _ else _)=_;rw [aw h1]
   rw [e1,e2,e3,ih hp.2];by_cases h2:(look l x.key).c+x.is.c<=1073741824
   ·rw [aw h2,aw h2];rfl
   ·rw [ar h2,ar h2];rfl
  ·have hl:look l x.key=ax.zero:=jz fun y hy=>by have:=hp.1 y hy;omega
   by_cases h2:e.key=x.key
   ·have e1:look (e::l) x.key=e.is:=(by show (if e.key=x.key then _ else _)=_;rw [aw h2,hl,dN]);have e2:ins (e::l) x=⟨x.key,e.is.join x.is⟩::l:=(by show (if e.key<x.key then _ else if e.key=x.key then _ else _)=_;rw [ar h1,aw h2]);have e3:gJ (e::l) x=if e.is.c+x.is.c<=1073741824 then some (⟨x.key,e.is.join x.is⟩::l)else none:=(by show (if e.key<x.key then _ else if e.key=x.key then _ else _)=_;rw [ar h1,aw h2]);rw [e1,e2,e3]
   ·have e1:look (e::l) x.key=ax.zero:=(by show (if e.key=x.key then _ else _)=_;rw [ar h2,hl]);have e2:ins (e::l) x=x::e::l:=(by show (if e.key<x.key then _ else if e.key=x.key then _ else _)=_;rw [ar h1,ar h2]);have e3:gJ (e::l) x=some (x::e::l):=(by show (if e.key<x.key then _ else if e.key=x.key then _ else _)=_;rw [ar h1,ar h2]);rw [e1,e2,e3,aw (by simpa [ax.zero] using hx)]
def pH (l:List aH):List aH:=l.foldl ins []
def ft (l:List aH):Option (List aH):=l.foldlM gJ []
def Small (l:List aH):Prop:=∀k,(look l k).c<=1073741824
theorem zL (hm:aY m/\bQ m) (hl:bQ l):aY (l.foldl ins m)/\bQ (l.foldl ins m)/\∀k,look (l.foldl ins m) k=(look m k).join (look l k):=by
 induction l generalizing m with
 |nil=>exact⟨hm.1,hm.2,fun k=>by simp [look,dN]⟩
 |cons x l ih=>
  have hc:=hl.cons;obtain⟨a,b,c⟩:=ih ⟨lH hm.1,lV hm.2 hc.1⟩ hc.2;refine⟨a,b,fun k=>?_⟩;simp only [List.foldl_cons];rw [c,rX hm.2.dV (.inr hc.1)];simp only [look];by_cases h:x.key=k
  ·rw [aw h,aw h,join_assoc (dM hm.2.dV k) (.inr hc.1) (dM hc.2.dV k)]
  ·rw [ar h,ar h]
theorem eW (hl:bQ l):aY (pH l):=(zL (m:=[]) ⟨List.Pairwise.nil,fun _ h=>by cases h⟩ hl).1
theorem gU (hl:bQ l):bQ (pH l):=(zL (m:=[]) ⟨List.Pairwise.nil,fun _ h=>by cases h⟩ hl).2.1
theorem iG (hl:bQ l) (k:Int):look (pH l) k=look l k:=by
 have:=(zL (m:=[]) ⟨List.Pairwise.nil,fun _ h=>by cases h⟩ hl).2.2 k;simp only [look]at this;unfold pH;rw [this,fB (dM hl.dV k)]
theorem SL (h:a.Perm b) (ha:bQ a):pH a=pH b:=by
 have hb:bQ b:=fun e he=>ha e (h.mem_iff.2 he);refine uC (eW ha) (eW hb) (gU ha) (gU hb) fun k=>?_;rw [iG ha,iG hb,rW h ha.dV]
theorem yU (hr:aY l) (hl:bQ l):pH l=l:=
 uC (eW hl) hr (gU hl) hl fun k=>iG hl k
theorem Nr (ha:je a) (hb:je b) (k:Int):(look a k).c<=(look (a++b) k).c:=by
 rw [oq ha hb,dO];have:=(dM hb k).pos;omega
theorem bO:bQ (a++b)↔bQ a/\bQ b:=
 ⟨fun h=>⟨fun e he=>h e (by simp [he]),fun e he=>h e (by simp [he])⟩,fun h e he=>by rcases kW.1 he with he|he;exact h.1 e he;exact h.2 e he⟩
theorem Checked.cons (h:Checked (x::l)):(x.is.c≠0/\av x.is=0)/\Checked l:=⟨h x bh,fun y hy=>h y (by simp [hy])⟩
theorem Checked.le (h:Checked l):∀e∈l,e.is.c<=1073741824:=fun e he=>(dC (h e he).2 (h e he).1).2
open Classical in
theorem Jh (hm:aY m) (gm:bQ m) (hl:Checked l) (hs:Small m) :
  l.foldlM gJ m=if Small (m++l)then some (l.foldl ins m)else none:=by
 induction l generalizing m with
 |nil=>rw [List.foldlM_nil,aw (by simpa using hs)];rfl
 |cons x l ih=>
  have hc:=hl.cp.cons;have e1:look (m++x::l)=look ((ins m x)++l):=by
   funext k
   rw [oq gm.dV hl.cp.dV,oq (lV gm hc.1).dV hc.2.dV,rX gm.dV (.inr hc.1)];simp only [look];by_cases h:x.key=k
   ·rw [aw h,aw h,join_assoc (dM gm.dV k) (.inr hc.1) (dM hc.2.dV k)]
   ·rw [ar h,ar h]
  have e2:Small (m++x::l)↔Small ((ins m x)++l):=by unfold Small;rw [e1]
  have hle:∀k,(look (ins m x) k).c<=(look (m++x::l) k).c:=fun k=>by rw [e1];exact Nr (lV gm hc.1).dV hc.2.dV k
  have hlx:=rX gm.dV (.inr hc.1:x.is.kO);rw [List.foldlM_cons,yj hm (hl.le x bh)];by_cases h1:(look m x.key).c+x.is.c<=1073741824
  ·rw [aw h1];have hs':Small (ins m x):=fun k=>by
    rw [hlx]
    split
    ·rename_i h;subst h;rw [dO];exact h1
    ·exact hs k
   show List.foldlM gJ (ins m x) l=_;rw [ih (lH hm) (lV gm hc.1) hl.cons.2 hs'];by_cases h2:Small (m++x::l)
   ·rw [aw (e2.1 h2),aw h2];rfl
   ·rw [ar (fun h=>h2 (e2.2 h)),ar h2]
  ·rw [ar h1,ar]
   ·rfl
   ·intro h;have:=hle x.key;rw [hlx,aw rfl,dO]at this;have:=h x.key;omega
open Classical in
theorem ky (hl:Checked l):ft l=if Small l then some (pH l)else none:=by
 have:=Jh (m:=[]) List.Pairwise.nil (fun _ h=>by cases h) hl (fun k=>by simp [look,ax.zero]);simpa [ft,pH] using this
theorem pW (h:a.Perm b) (ha:je a):Small a↔Small b:=by
 unfold Small;constructor <;> intro hs k
 ·rw [<-rW h ha];exact hs k
 ·rw [rW h ha];exact hs k
theorem PO (h:a.Perm b) (ha:Checked a):ft a=ft b:=by
 have hb:Checked b:=fun e he=>ha e (h.mem_iff.2 he);rw [ky ha,ky hb,SL h ha.cp];by_cases hs:Small a
 ·rw [aw hs,aw ((pW h ha.cp.dV).1 hs)]
 ·rw [ar hs,ar (fun h'=>hs ((pW h ha.cp.dV).2 h'))]
theorem AK (hl:bQ l) (hs:Small l):Checked (pH l):=fun e he=>by
 have hg:=gU hl e he;refine⟨by have:=hg.1;omega,tF hg ?_⟩;rw [<-iF (eW hl) he,iG hl];exact hs _
theorem qU (hr:aY l) (hl:Checked l) (hx:x.is.Good) (hc:(look l x.key).c+x.is.c<=1073741824):Checked (ins l x):=fun e he=>by
 have hg:=lV hl.cp hx e he;refine⟨by have:=hg.1;omega,tF hg ?_⟩;rw [<-iF (lH hr) he,rX hl.cp.dV (.inr hx)]
 split
 ·rename_i h;rw [<-h,dO];exact hc
 ·rename_i h
  by_cases hm:∃y∈l,y.key=e.key
  ·obtain⟨y,hy,hk⟩:=hm;rw [<-hk,iF hr hy];exact hl.le y hy
  ·rw [jz fun y hy hk=>hm ⟨y,hy,hk⟩];decide
end
section
variable {lo hi n d:Int} {l S:List Int} {f h:Nat} {x:Nd} {t:Tr}
def dK (l:List aH) (lo hi:Int):Prop:=Checked l/\(∀e∈l,lo<=e.key/\e.key<hi)/\aY l
def Tr.dm (t:Tr) (n:Int):Option Nd:=if 0<=n then t.nodes[n.toNat]? else none
def jI (t:Tr) (n:Int) (x:Nd) (lo hi:Int):Prop:=x.keys=[]/\x.kids=[]/\x.buf=[]/\x.aI.length<=6/\(x.aI≠[]\/n=t.root)/\dK x.aI lo hi
def mW (x:Nd) (lo hi:Int):Prop:=x.aI=[]/\2<=x.kids.length/\x.kids.length<=4/\x.keys+1=x.kids.length/\x.buf.length<=8/\dK x.buf lo hi
def Nd.from (x:Nd) (lo:Int) (i:Nat):Int:=if i=0 then lo else x.keys.getD (i-1) 0
def Nd.upto (x:Nd) (hi:Int) (i:Nat):Int:=if i<x.keys then x.keys.getD i 0 else hi
open Classical in
def cu (go:Int->Int->Int->Option (List Int×Nat)) (x:Nd) (lo hi:Int):List Int->Nat->Option (List Int×Nat)
 |[],_=>some ([],0)
 |k::ks,i=>
  if x.from lo i<x.upto hi i/\lo<=x.from lo i/\x.upto hi i<=hi then
   match go k (x.from lo i) (x.upto hi i),cu go x lo hi ks (i+1) with
   |some (l,h),some (l',h')=>if h'=0\/h'=h then some (l++l',h)else none
   |_,_=>none
  else none
open Classical in
noncomputable def nU (t:Tr):Nat->Int->Int->Int->Option (List Int×Nat)
 |0,_,_,_=>none
 |f+1,n,lo,hi=>
  match t.dm n with
  |none=>none
  |some x=>
   if ¬lo<hi then none
   else if x.leaf=true then(if jI t n x lo hi then some ([n],1)else none)
   else if mW x lo hi then(cu (fun k a b=>nU t f k a b) x lo hi x.kids 0).map fun p=>(n::p.1,p.2+1)
   else none
open Classical in
def qi {σ:Type} (go:Int->Int->Int->σ->Option σ) (x:Nd) (lo hi:Int):List Int->Nat->σ->Option σ
 |[],_,s=>some s
 |k::ks,i,s=>
  if x.from lo i<x.upto hi i/\lo<=x.from lo i/\x.upto hi i<=hi then
   match go k (x.from lo i) (x.upto hi i) s with
   |none=>none
   |some s'=>qi go x lo hi ks (i+1) s'
  else none
open Classical in
noncomputable def eO (t:Tr):Nat->Int->Int->Int->List Int×Int->Option (List Int×Int)
 |0,_,_,_,_=>none
 |f+1,n,lo,hi,s=>
  match t.dm n with
  |none=>none
  |some x=>
   if n∈s.1 then none
   else if x.leaf=true then(if (s.2=0\/s.2=12-(f:Int))/\jI t n x lo hi then some (n::s.1,12-(f:Int))else none)
   else if mW x lo hi then qi (fun k a b s=>eO t f k a b s) x lo hi x.kids 0 (n::s.1,s.2)
   else none
open Classical in
def tR (go:Int->Int->Int->List Int->Option (Int×List Int)) (x:Nd) (lo hi:Int):List Int->Nat->Int×List Int->Option (Int×List Int)
 |[],_,s=>some s
 |k::ks,i,s=>
  if lo<=x.upto hi i/\x.upto hi i<=hi then
   match go k (x.from lo i) (x.upto hi i) s.2 with
   |none=>none
   |some (h,s')=>if s.1=0\/h=s.1 then tR go x lo hi ks (i+1) (h,s')else none
  else none
open Classical in
noncomputable def cv (t:Tr):Nat->Int->Int->Int->List Int->Option (Int×List Int)
 |0,_,_,_,_=>none
 |f+1,n,lo,hi,s=>
  match t.dm n with
  |none=>none
  |some x=>
   if n∈s\/¬lo<hi then none
   else if x.leaf=true then(if jI t n x lo hi then some (12-(f:Int),n::s)else none)
   else if mW x lo hi then tR (fun k a b s=>cv t f k a b s) x lo hi x.kids 0 (0,n::s)
   else none
theorem qO {go:Int->Int->Int->Option (List Int×Nat)} (hgo:∀k a b l h,go k a b=some (l,h)->1<=h) :
  ∀{ks:List Int} {i:Nat} {l:List Int} {h:Nat},cu go x lo hi ks i=some (l,h)->ks=[]\/1<=h
 |[],_,_,_,_=> .inl rfl
 |k::ks,i,l,h,hv=>by
  unfold cu at hv
  split at hv
  ·split at hv
   ·rename_i l1 h1 l2 h2 e1 e2
    split at hv
    ·simp only [iJ,kC]at hv;exact .inr (hv.2▸hgo _ _ _ _ _ e1)
    ·cases hv
   ·cases hv
  ·cases hv
theorem sU (hv:nU t f n lo hi=some (l,h)):1<=h:=by
 cases f with
 |zero=>cases hv
 |succ f=>
  unfold nU at hv
  split at hv
  ·cases hv
  ·split at hv
   ·cases hv
   ·split at hv
    ·split at hv
     ·simp only [iJ,kC]at hv;omega
     ·cases hv
    ·split at hv
     ·obtain⟨p,_,hp⟩:=Option.map_eq_some_iff.1 hv;simp only [kC]at hp;omega
     ·cases hv
theorem Fz (hv:nU t f n lo hi=some (l,h)):lo<hi:=by
 cases f with
 |zero=>cases hv
 |succ f=>
  unfold nU at hv
  split at hv
  ·cases hv
  ·split at hv
   ·cases hv
   ·rename_i h;exact Classical.not_not.1 h
def apart (l S:List Int):Prop:=l.Nodup/\∀x∈l,x∉S
theorem jt {l':List Int}:apart (l++l') S↔apart l S/\apart l' (l.reverse++S):=by
 unfold apart;rw [List.nodup_append]
 constructor
 ·rintro⟨⟨h1,h2,h3⟩,h4⟩;refine⟨⟨h1,fun x hx=>h4 x (by simp [hx])⟩,h2,fun x hx hh=>?_⟩;rcases kW.1 hh with hh|hh
  ·exact h3 x (by simpa using hh) x hx rfl
  ·exact h4 x (by simp [hx]) hh
 ·rintro⟨⟨h1,h2⟩,h3,h4⟩;refine⟨⟨h1,h3,fun a ha b hb hab=>?_⟩,fun x hx=>?_⟩
  ·subst hab;exact h4 a hb (by simp [ha])
  ·rcases kW.1 hx with hx|hx
   ·exact h2 x hx
   ·exact fun hh=>h4 x hx (by simp [hh])
theorem Dk:apart (n::l) S↔n∉S/\apart l (n::S):=by
 have:=jt (l:=[n]) (l':=l) (S:=S);simp only [List.singleton_append,List.reverse_singleton]at this;rw [this];simp [apart]
theorem Fi (S:List Int):apart [] S:=by simp [apart]
open Classical in
theorem OP {go:Int->Int->Int->List Int×Int->Option (List Int×Int)} {gv:Int->Int->Int->Option (List Int×Nat)} (hd:0<=d)
  (hpos:∀k a b l h,gv k a b=some (l,h)->1<=h)
  (hgo:∀k a b S D,a<b->go k a b (S,D)=match gv k a b with|none=>none|some (l,h)=>if apart l S/\(D=0\/D=d+h)then some (l.reverse++S,d+h)else none) :
  ∀(ks:List Int) (i:Nat) (S:List Int) (D:Int),qi go x lo hi ks i (S,D)=match cu gv x lo hi ks i with
   |none=>none
   |some (l,h)=>if apart l S/\(h=0\/D=0\/D=d+h)then some (l.reverse++S,if h=0 then D else d+h)else none:=by
 intro ks
 induction ks with
 |nil=>intro i S D;simp [qi,cu,Fi]
 |cons k ks ih=>
  intro i S D;unfold qi cu;by_cases hc:x.from lo i<x.upto hi i/\lo<=x.from lo i/\x.upto hi i<=hi
  ·rw [aw hc,aw hc,hgo _ _ _ _ _ hc.1]
   cases hg:gv k (x.from lo i) (x.upto hi i) with
   |none=>rfl
   |some p=>
    obtain⟨l,h⟩:=p;have hp:=hpos _ _ _ _ _ hg;simp only;by_cases h1:apart l S/\(D=0\/D=d+h)
    ·rw [aw h1];simp only;rw [ih]
     cases hk:cu gv x lo hi ks (i+1) with
     |none=>rfl
     |some q=>
      obtain⟨l',h'⟩:=q;simp only;by_cases h2:h'=0\/h'=h
      ·rw [aw h2];simp only;by_cases h3:apart l' (l.reverse++S)
       ·have c1:apart l' (l.reverse++S)/\(h'=0\/d+(h:Int)=0\/d+(h:Int)=d+h'):=⟨h3,ai⟩;have c2:apart (l++l') S/\(h=0\/D=0\/D=d+h):=⟨jt.2 ⟨h1.1,h3⟩,ai⟩;rw [aw c1,aw c2,List.reverse_append,iT]
        congr 2
        by_cases h0:h'=0
        ·rw [aw h0,ar ai]
        ·rw [ar h0,ar ai];omega
       ·rw [ar (fun h=>h3 h.1),ar (fun h=>h3 (jt.1 h.1).2)]
      ·rw [ar h2];have c1:¬(apart l' (l.reverse++S)/\(h'=0\/d+(h:Int)=0\/d+(h:Int)=d+h')):=fun h=>ai;rw [ar c1]
    ·rw [ar h1]
     cases hk:cu gv x lo hi ks (i+1) with
     |none=>rfl
     |some q=>
      obtain⟨l',h'⟩:=q;simp only;by_cases h2:h'=0\/h'=h
      ·rw [aw h2];have c2:¬(apart (l++l') S/\(h=0\/D=0\/D=d+h)):=fun hh=>h1 ⟨(jt.1 hh.1).1,ai⟩;show none=ite _ _ _;rw [ar c2]
      ·rw [ar h2]
  ·rw [ar hc,ar hc]
open Classical in
theorem OI:∀(f:Nat) (n lo hi:Int) (S:List Int) (D:Int),f<=12->lo<hi->eO t f n lo hi (S,D)=match nU t f n lo hi with
   |none=>none
   |some (l,h)=>if apart l S/\(D=0\/D=12-f+h)then some (l.reverse++S,12-f+h)else none:=by
 intro f
 induction f with
 |zero=>intro n lo hi S D _ _;rfl
 |succ f ih=>
  intro n lo hi S D hf hlt;unfold eO nU
  cases hx:t.dm n with
  |none=>rfl
  |some x=>
   simp only;rw [ar (jw hlt)];by_cases hl:x.leaf=true
   ·rw [aw hl,aw hl];by_cases hok:jI t n x lo hi
    ·rw [aw hok];simp only [apart,List.nodup_cons,List.not_mem_nil,not_false_eq_true,List.nodup_nil,and_self,oY,forall_eq,true_and,hok,and_true];by_cases hn:n∈S
     ·rw [aw hn,ar (fun h=>h.1 hn)]
     ·rw [ar hn];by_cases hD:D=0\/D=12-(f:Int)
      ·rw [aw hD,aw ⟨hn,ai⟩];simp;omega
      ·rw [ar hD,ar (fun h=>hD ai)]
    ·rw [ar hok];simp only [hok,and_false,if_false]
     split <;> rfl
   ·rw [ar hl,ar hl];by_cases hok:mW x lo hi
    ·rw [aw hok,aw hok,OP (gv:=fun k a b=>nU t f k a b) (d:=12-f) ai (fun k a b l h hv=>sU hv) (fun k a b S D hab=>ih k a b S D ai hab)]
     cases hk:cu (fun k a b=>nU t f k a b) x lo hi x.kids 0 with
     |none=>simp
     |some q=>
      obtain⟨l,h⟩:=q;have hp:1<=h:=by
       rcases qO (fun k a b l h hv=>sU hv) hk with h0|h0
       ·have:=hok.2.1;rw [h0]at this;simp at this
       ·exact h0
      simp only [Option.map_some,Dk,List.reverse_cons,iT,List.singleton_append];by_cases hn:n∈S
      ·rw [aw hn,ar (fun h=>h.1.1 hn)]
      ·rw [ar hn];by_cases ha:apart l (n::S)/\(D=0\/D=12-(f:Int)+h)
       ·have c1:apart l (n::S)/\(h=0\/D=0\/D=12-(f:Int)+h):=⟨ha.1, .inr ha.2⟩;have c2:(n∉S/\apart l (n::S))/\(D=0\/D=12-((f+1:Nat):Int)+((h+1:Nat):Int)):=⟨⟨hn,ha.1⟩,ai⟩;rw [aw c1,aw c2,ar ai]
        congr 2;omega
       ·have c1:¬(apart l (n::S)/\(h=0\/D=0\/D=12-(f:Int)+h)):=fun h'=>ha ⟨h'.1,ai⟩;have c2:¬((n∉S/\apart l (n::S))/\(D=0\/D=12-((f+1:Nat):Int)+((h+1:Nat):Int))):=fun h'=>ha ⟨h'.1.2,ai⟩;rw [ar c1,ar c2]
    ·rw [ar hok,ar hok];simp
open Classical in
theorem OS {go:Int->Int->Int->List Int->Option (Int×List Int)} {gv:Int->Int->Int->Option (List Int×Nat)} (hd:0<=d)
  (hpos:∀k a b l h,gv k a b=some (l,h)->1<=h/\a<b)
  (hgo:∀k a b S,go k a b S=match gv k a b with|none=>none|some (l,h)=>if apart l S then some (d+h,l.reverse++S)else none) :
  ∀(ks:List Int) (i:Nat) (S:List Int) (D:Int),(ks=[]\/lo<=x.from lo i)->(∀j,i<=j->j<i+ks->x.upto hi j=x.from lo (j+1)\/j+1=i+ks)->tR go x lo hi ks i (D,S)=match cu gv x lo hi ks i with
   |none=>none
   |some (l,h)=>if apart l S/\(h=0\/D=0\/D=d+h)then some (if h=0 then D else d+h,l.reverse++S)else none:=by
 intro ks
 induction ks with
 |nil=>intro i S D _ _;simp [tR,cu,Fi]
 |cons k ks ih=>
  intro i S D hi0 WD;have hlo:lo<=x.from lo i:=by
   rcases hi0 with h|h
   ·cases h
   ·exact h
  unfold tR cu;by_cases hc:lo<=x.upto hi i/\x.upto hi i<=hi
  ·rw [aw hc,hgo]
   cases hg:gv k (x.from lo i) (x.upto hi i) with
   |none=>simp
   |some p=>
    obtain⟨l,h⟩:=p;have hp:=hpos _ _ _ _ _ hg;rw [aw ⟨hp.2,hlo,hc.2⟩];simp only;have ih':=fun S D=>ih (i+1) S D (by
     rcases WD i aO bh with h|h
     ·right;rw [<-h];exact hc.1
     ·left;simpa using h)
     (fun j hj hj'=>by
      rcases WD j ai (by simp only [gD];omega)with h|h
      ·exact .inl h
      ·right;simp only [gD]at h;omega)
    by_cases h1:apart l S
    ·rw [aw h1];simp only;by_cases h2:D=0\/d+h=D
     ·rw [aw h2,ih']
      cases hk:cu gv x lo hi ks (i+1) with
      |none=>rfl
      |some q=>
       obtain⟨l',h'⟩:=q;simp only;by_cases h4:h'=0\/h'=h
       ·rw [aw h4];simp only;by_cases h3:apart l' (l.reverse++S)
        ·have c1:apart l' (l.reverse++S)/\(h'=0\/d+(h:Int)=0\/d+(h:Int)=d+h'):=⟨h3,ai⟩;have c2:apart (l++l') S/\(h=0\/D=0\/D=d+h):=⟨jt.2 ⟨h1,h3⟩,ai⟩;rw [aw c1,aw c2,List.reverse_append,iT]
         congr 2
         by_cases h0:h'=0
         ·rw [aw h0,ar ai]
         ·rw [ar h0,ar ai];omega
        ·rw [ar (fun h=>h3 h.1),ar (fun h=>h3 (jt.1 h.1).2)]
       ·rw [ar h4];have c1:¬(apart l' (l.reverse++S)/\(h'=0\/d+(h:Int)=0\/d+(h:Int)=d+h')):=fun h=>ai;rw [ar c1]
     ·rw [ar h2]
      cases hk:cu gv x lo hi ks (i+1) with
      |none=>rfl
      |some q=>
       obtain⟨l',h'⟩:=q;simp only;by_cases h4:h'=0\/h'=h
       ·rw [aw h4];have c2:¬(apart (l++l') S/\(h=0\/D=0\/D=d+h)):=fun hh=>ai;show none=ite _ _ _;rw [ar c2]
       ·rw [ar h4]
    ·rw [ar h1]
     cases hk:cu gv x lo hi ks (i+1) with
     |none=>rfl
     |some q=>
      obtain⟨l',h'⟩:=q;simp only;by_cases h4:h'=0\/h'=h
      ·rw [aw h4];have c2:¬(apart (l++l') S/\(h=0\/D=0\/D=d+h)):=fun hh=>h1 (jt.1 hh.1).1;show none=ite _ _ _;rw [ar c2]
      ·rw [ar h4]
  ·have:¬(x.from lo i<x.upto hi i/\lo<=x.from lo i/\x.upto hi i<=hi):=fun h=>hc ⟨ai,h.2.2⟩;rw [ar hc,ar this]
open Classical in
theorem Ax:∀(f:Nat) (n lo hi:Int) (S:List Int),f<=12->cv t f n lo hi S=match nU t f n lo hi with
   |none=>none
   |some (l,h)=>if apart l S then some (12-f+h,l.reverse++S)else none:=by
 intro f
 induction f with
 |zero=>intro n lo hi S _;rfl
 |succ f ih=>
  intro n lo hi S hf;unfold cv nU
  cases hx:t.dm n with
  |none=>rfl
  |some x=>
   simp only;by_cases hlt:lo<hi
   ·rw [ar (jw hlt)];by_cases hl:x.leaf=true
    ·rw [aw hl,aw hl];by_cases hok:jI t n x lo hi
     ·rw [aw hok,aw hok];by_cases hn:n∈S
      ·rw [aw (.inl hn)];have:¬apart [n] S:=fun h=>h.2 n bh hn;show none=ite _ _ _;rw [ar this]
      ·rw [ar (by simp [hn,hlt])];have:apart [n] S:=(by simp [apart,hn]);show _=ite _ _ _;rw [aw this];simp;omega
     ·rw [ar hok,ar hok]
      split <;> rfl
    ·rw [ar hl,ar hl];by_cases hok:mW x lo hi
     ·rw [aw hok,aw hok,OS (gv:=fun k a b=>nU t f k a b) (d:=12-f) ai (fun k a b l h hv=>⟨sU hv,Fz hv⟩) (fun k a b S=>ih k a b S ai) x.kids 0 _ _ (by simp [Nd.from]) (fun j _ hj=>by
       simp only [iR]at hj ⊢;by_cases h:j+1=x.kids
       ·exact .inr h
       ·left;have:=hok.2.2.2.1;simp only [Nd.upto,Nd.from,Nat.add_sub_cancel];rw [aw ai,ar ai])]
      cases hk:cu (fun k a b=>nU t f k a b) x lo hi x.kids 0 with
      |none=>simp
      |some q=>
       obtain⟨l,h⟩:=q;have hp:1<=h:=by
        rcases qO (fun k a b l h hv=>sU hv) hk with h0|h0
        ·have:=hok.2.1;rw [h0]at this;simp at this
        ·exact h0
       simp only [Option.map_some,Dk,List.reverse_cons,iT,List.singleton_append];by_cases hn:n∈S
       ·rw [aw (.inl hn),ar (fun h=>h.1 hn)]
       ·rw [ar (by simp [hn,hlt])];by_cases ha:apart l (n::S)
        ·have c1:apart l (n::S)/\(h=0\/True\/(0:Int)=12-(f:Int)+h):=⟨ha, .inr (.inl trivial)⟩;have c2:n∉S/\apart l (n::S):=⟨hn,ha⟩;rw [aw c1,aw c2,ar ai]
         congr 2;omega
        ·have c1:¬(apart l (n::S)/\(h=0\/True\/(0:Int)=12-(f:Int)+h)):=fun h'=>ha h'.1;rw [ar c1,ar (fun h'=>ha h'.2)]
     ·rw [ar hok,ar hok];simp
   ·rw [aw (.inr hlt),aw hlt]
def nR (t:Tr):Prop:=∃l h,nU t 12 t.root 0 1099511627776=some (l,h)/\l.Nodup/\l=t.nodes.length
open Classical in
noncomputable def aC (t:Tr):Int:=if 2000<t.nodes.length then 1 else if nR t then 0 else 7
theorem uj {go:Int->Int->Int->Option (List Int×Nat)} {x:Nd} {lo hi:Int} {P:Int->Prop} (hgo:∀k a b l h,go k a b=some (l,h)->∀y∈l,P y) :
  ∀{ks:List Int} {i:Nat} {l:List Int} {h:Nat},cu go x lo hi ks i=some (l,h)->∀y∈l,P y
 |[],_,l,_,hv=>by simp [cu]at hv;intro y hy;rw [hv.1]at hy;cases hy
 |k::ks,i,l,h,hv=>by
  unfold cu at hv
  split at hv
  ·split at hv
   ·rename_i l1 h1 l2 h2 e1 e2
    split at hv
    ·simp only [iJ,kC]at hv;rw [<-hv.1];intro y hy;rcases kW.1 hy with hy|hy
     ·exact hgo _ _ _ _ _ e1 y hy
     ·exact uj hgo e2 y hy
    ·cases hv
   ·cases hv
  ·cases hv
theorem Fh (h:t.dm n=some x):0<=n/\n<t.nodes:=by
 unfold Tr.dm at h
 split at h
 ·rename_i h0
  have:=(dW.1 h).1;omega
 ·cases h
theorem MZ:∀{f:Nat} {n lo hi:Int} {l:List Int} {h:Nat},nU t f n lo hi=some (l,h)->∀y∈l,0<=y/\y<t.nodes:=by
 intro f
 induction f with
 |zero=>intro n lo hi l h hv;cases hv
 |succ f ih=>
  intro n lo hi l h hv;unfold nU at hv
  split at hv
  ·cases hv
  ·rename_i x hx
   have hr:=Fh hx
   split at hv
   ·cases hv
   ·split at hv
    ·split at hv
     ·simp only [iJ,kC]at hv;rw [<-hv.1];simp;exact hr
     ·cases hv
    ·split at hv
     ·obtain⟨p,hp,he⟩:=Option.map_eq_some_iff.1 hv;simp only [kC]at he;rw [<-he.1];intro y hy;rcases fy.1 hy with rfl|hy
      ·exact hr
      ·exact uj (P:=fun y=>0<=y/\y<t.nodes.length) (fun k a b l h hv=>ih hv) hp y hy
     ·cases hv
theorem km {α:Type} [DecidableEq α]:∀{l m:List α},l.Nodup->(∀y∈l,y∈m)->l<=m.length
 |[],_,_,_=>bh
 |a::l,m,h,hs=>by
  have hn:=List.nodup_cons.1 h;have ha:=hs a bh;have:=km (l:=l) (m:=m.erase a) hn.2 (fun y hy=>(List.mem_erase_of_ne (by rintro rfl;exact hn.1 hy)).2 (hs y (by simp [hy])));rw [List.length_erase_of_mem ha]at this;have:=List.length_pos_of_mem ha;simp only [gD];omega
theorem Cm {α:Type} [DecidableEq α] {l m:List α} (h:l.Nodup) (hs:∀y∈l,y∈m) (hl:m<=l.length):∀y∈m,y∈l:=fun y hy=>by
 by_cases wG:y∈l
 ·exact wG
 ·have:=km (l:=y::l) (m:=m) (List.nodup_cons.2 ⟨wG,h⟩) (fun z hz=>by rcases fy.1 hz with rfl|hz;exact hy;exact hs z hz);simp only [gD]at this;omega
def KC (n:Nat):List Int:=(List.range n).map (fun i:Nat=>(i:Int))
theorem vp {n:Nat} {y:Int}:y∈KC n↔0<=y/\y<(n:Int):=by
 unfold KC;rw [ua]
 constructor
 ·rintro⟨a,ha,rfl⟩;have:=List.mem_range.1 ha;omega
 ·intro h;exact⟨y.toNat,List.mem_range.2 ai,ai⟩
theorem sV (n:Nat):(KC n).length=n:=by simp [KC]
theorem Ez (n:Nat):(KC n).Nodup:=by
 unfold KC;exact List.pairwise_map.2 (List.Pairwise.imp (fun hab e=>hab (Int.ofNat.inj e)) List.nodup_range)
theorem Ia {n:Nat} (h:l.Nodup) (hr:∀y∈l,0<=y/\y<(n:Int)):l<=n:=by
 have:=km (m:=KC n) h (fun y hy=>vp.2 (hr y hy))
 rwa [sV]at this
theorem vM {n:Nat} (h:l.Nodup) (hr:∀y∈l,0<=y/\y<(n:Int)):l=n↔∀i:Nat,i<n->(i:Int)∈l:=by
 constructor
 ·intro hl i hi;exact Cm (m:=KC n) h (fun y hy=>vp.2 (hr y hy)) (by rw [sV,hl];exact nu _) i (vp.2 ai)
 ·intro hall;have h1:=Ia h hr;have h2:=km (l:=KC n) (m:=l) (Ez n) (fun y hy=>by
   have:=vp.1 hy;have h3:=hall y.toNat ai;have h4:((y.toNat:Nat):Int)=y:=ai
   rwa [h4]at h3)
  rw [sV]at h2;omega
noncomputable def xp (t:Tr):Int:=if 2000<t.nodes.length then 1 else match eO t 12 t.root 0 1099511627776 ([],0) with|none=>7|some (S,_)=>if S=t.nodes.length then 0 else 7
open Classical in
noncomputable def uJ (t:Tr):Int:=if 2000<t.nodes.length then 1 else match cv t 12 t.root 0 1099511627776 [] with|none=>7|some (_,S)=>if ∀i:Nat,i<t.nodes->(i:Int)∈S then 0 else 7
theorem AL:apart l []↔l.Nodup:=by simp [apart]
open Classical in
theorem PK (t:Tr):xp t=aC t:=by
 unfold xp aC
 split
 ·rfl
 ·rw [OI 12 _ _ _ _ _ ai ai]
  cases hv:nU t 12 t.root 0 1099511627776 with
  |none=>
   rw [ar];rintro⟨l,h,e,_⟩;rw [hv]at e;cases e
  |some p=>
   obtain⟨l,h⟩:=p;simp only [AL];by_cases hn:l.Nodup
   ·rw [aw ⟨hn, .inl trivial⟩];simp only [nQ,List.length_reverse];by_cases hl:l=t.nodes.length
    ·rw [aw hl,aw ⟨l,h,hv,hn,hl⟩]
    ·rw [ar hl,ar];rintro⟨l',h',e,_,hl'⟩;rw [hv]at e;simp only [iJ,kC]at e;rw [e.1]at hl;exact hl hl'
   ·rw [ar (fun h=>hn h.1),ar];rintro⟨l',h',e,hn',_⟩;rw [hv]at e;simp only [iJ,kC]at e;rw [e.1]at hn;exact hn hn'
open Classical in
theorem Pz (t:Tr):uJ t=aC t:=by
 unfold uJ aC
 split
 ·rfl
 ·rw [Ax 12 _ _ _ _ ai]
  cases hv:nU t 12 t.root 0 1099511627776 with
  |none=>
   rw [ar];rintro⟨l,h,e,_⟩;rw [hv]at e;cases e
  |some p=>
   obtain⟨l,h⟩:=p;simp only [AL];by_cases hn:l.Nodup
   ·rw [aw hn];simp only [nQ,List.mem_reverse];have hi:=vM (n:=t.nodes.length) hn (MZ hv);by_cases hl:l=t.nodes.length
    ·rw [aw (hi.1 hl),aw ⟨l,h,hv,hn,hl⟩]
    ·rw [ar (fun h=>hl (hi.2 h)),ar];rintro⟨l',h',e,_,hl'⟩;rw [hv]at e;simp only [iJ,kC]at e;rw [e.1]at hl;exact hl hl'
   ·rw [ar hn,ar];rintro⟨l',h',e,hn',_⟩;rw [hv]at e;simp only [iJ,kC]at e;rw [e.1]at hn;exact hn hn'
end
section
variable {lo hi a b:Int} {l:List aH} {t:Tr}
def aV (lo hi:Int) (e:aH):Bool:=decide (lo<=e.key) && decide (e.key<hi)
def Tr.all (t:Tr):List aH:=t.nodes.flatMap fun x=>x.aI++x.buf
def mz (t:Tr) (lo hi:Int):Option (List aH):=ft (t.all.filter (aV lo hi))
def js (x:Nd) (lo hi:Int) (i:Nat):Bool:=(decide (i=0) || decide (x.keys.getD (i-1) 0<hi)) && (decide (i=x.keys) || decide (lo<x.keys.getD i 0))
def iP (go:Int->List aH) (x:Nd) (lo hi:Int):List Int->Nat->List aH
 |[],_=>[]
 |k::ks,i=>(if js x lo hi i then go k else [])++iP go x lo hi ks (i+1)
def iO (t:Tr) (lo hi:Int):Nat->Int->List aH
 |0,_=>[]
 |f+1,n=>
  match t.dm n with
  |none=>[]
  |some x=>(x.buf++x.aI).filter (aV lo hi)++iP (fun k=>iO t lo hi f k) x lo hi x.kids 0
def Tr.of (t:Tr) (n:Int):List aH:=match t.dm n with|none=>[]|some x=>x.aI++x.buf
theorem Me (h:∀e∈l,e.key<lo\/hi<=e.key):l.filter (aV lo hi)=[]:=by
 rw [List.filter_eq_nil_iff];intro e he;have:=h e he;simp [aV];omega
theorem Lu {x:Nd} {go:Int->List aH} {gv:Int->Int->Int->Option (List Int×Nat)}
  (hgo:∀k a b l h,gv k a b=some (l,h)->(go k).Perm ((l.flatMap t.of).filter (aV lo hi))/\∀e∈l.flatMap t.of,a<=e.key/\e.key<b) :
  ∀(ks:List Int) (i:Nat) (l:List Int) (h:Nat),i+ks<=x.keys+1->cu gv x a b ks i=some (l,h) ->
   (iP go x lo hi ks i).Perm ((l.flatMap t.of).filter (aV lo hi))/\∀e∈l.flatMap t.of,a<=e.key/\e.key<b:=by
 intro ks
 induction ks with
 |nil=>intro i l h _ hv;simp [cu]at hv;simp [iP,hv.1]
 |cons k ks ih=>
  intro i l h hi0 hv;simp only [gD]at hi0;unfold cu at hv
  split at hv
  ·rename_i hc
   split at hv
   ·rename_i l1 h1 l2 h2 e1 e2
    split at hv
    ·simp only [iJ,kC]at hv;obtain⟨rfl,-⟩:=hv;obtain⟨p1,q1⟩:=hgo _ _ _ _ _ e1;obtain⟨p2,q2⟩:=ih (i+1) l2 h2 ai e2;rw [pK,qH];refine⟨?_,fun e he=>?_⟩
     ·unfold iP;refine List.Perm.append ?_ p2;by_cases hg:js x lo hi i=true
      ·rw [aw hg];exact p1
      ·rw [ar hg];rw [Me];intro e he;have hr:=q1 e he;simp only [js,Bool.and_eq_true,Bool.or_eq_true,Du]at hg;by_cases g1:i=0\/x.keys.getD (i-1) 0<hi
       ·left;have g2:¬(i=x.keys\/lo<x.keys.getD i 0):=fun h=>hg ⟨g1,h⟩;simp only [Nd.upto]at hr;rw [aw ai]at hr;omega
       ·right;simp only [Nd.from]at hr;rw [ar ai]at hr;omega
     ·rcases kW.1 he with he|he
      ·have:=q1 e he;omega
      ·exact q2 e he
    ·cases hv
   ·cases hv
  ·cases hv
theorem sS:∀(f:Nat) (n a b:Int) (l:List Int) (h:Nat),nU t f n a b=some (l,h) ->
  (iO t lo hi f n).Perm ((l.flatMap t.of).filter (aV lo hi))/\(∀e∈l.flatMap t.of,a<=e.key/\e.key<b):=by
 intro f
 induction f with
 |zero=>intro n a b l h hv;cases hv
 |succ f ih=>
  intro n a b l h hv;unfold nU at hv;unfold iO
  cases hx:t.dm n with
  |none=>rw [hx]at hv;cases hv
  |some x=>
   rw [hx]at hv;simp only at hv ⊢;have hof:t.of n=x.aI++x.buf:=by unfold Tr.of;rw [hx]
   split at hv
   ·cases hv
   ·split at hv
    ·split at hv
     ·rename_i hok
      simp only [iJ,kC]at hv;obtain⟨rfl,-⟩:=hv;obtain⟨k1,k2,k3,k4,k5,k6⟩:=hok;simp only [fO,List.flatMap_nil,nQ,hof,k2,k3,iP,List.nil_append];exact⟨List.Perm.refl _,k6.2.1⟩
     ·cases hv
    ·split at hv
     ·rename_i hok
      obtain⟨p,hp,he⟩:=Option.map_eq_some_iff.1 hv;simp only [kC]at he;obtain⟨rfl,-⟩:=he;obtain⟨k1,k2,k3,k4,k5,k6⟩:=hok;obtain⟨q1,q2⟩:=Lu (t:=t) (lo:=lo) (hi:=hi) (go:=fun k=>iO t lo hi f k) (fun k a b l h hv=>ih k a b l h hv) x.kids 0 p.1 p.2 ai hp;simp only [fO,hof,k1,List.nil_append,nQ,qH];refine⟨List.Perm.append_left _ q1,fun e he=>?_⟩;rcases kW.1 he with he|he
      ·exact k6.2.1 e he
      ·exact q2 e he
     ·cases hv
theorem CZ {α:Type} (f:Nd->List α) (g:Nat->List α):∀(xs:List Nd) (s:Nat),(∀j x,xs[j]?=some x->g (s+j)=f x)->(List.range' s xs).flatMap g=xs.flatMap f
 |[],s,_=>rfl
 |x::xs,s,h=>by
  rw [gD,List.range'_succ,fO,fO,CZ f g xs (s+1) (fun j y hy=>by rw [show s+1+j=s+(j+1)from by omega];exact h (j+1) y (by simpa using hy))];rw [show g s=f x from by simpa using h 0 x rfl]
theorem Jj (t:Tr):(KC t.nodes).flatMap t.of=t.all:=by
 unfold KC Tr.all;rw [List.flatMap_map,List.range_eq_range'];refine CZ _ _ t.nodes 0 fun j x hx=>?_;simp [Tr.of,Tr.dm,hx]
theorem Ck {l:List Int} {n:Nat} (h:l.Nodup) (hr:∀y∈l,0<=y/\y<(n:Int)) (hl:l=n):l.Perm (KC n):=by
 refine(List.perm_ext_iff_of_nodup h (Ez n)).2 fun a=>⟨fun ha=>vp.2 (hr a ha),fun ha=>?_⟩;exact Cm (m:=KC n) h (fun y hy=>vp.2 (hr y hy)) (by rw [sV,hl];exact nu _) a ha
theorem nD {l:List Int} {h f:Nat} (hv:nU t f t.root a b=some (l,h)) (hn:l.Nodup) (hl:l=t.nodes.length):(l.flatMap t.of).Perm t.all:=by
 rw [<-Jj];exact List.Perm.flatMap_right _ (Ck hn (MZ hv) hl)
theorem tN {t:Tr} {x:Nd} {a b:Int} {gv:Int->Int->Int->Option (List Int×Nat)} (hgo:∀k a b l h,gv k a b=some (l,h)->Checked (l.flatMap t.of)) :
  ∀(ks:List Int) (i:Nat) (l:List Int) (h:Nat),cu gv x a b ks i=some (l,h)->Checked (l.flatMap t.of)
 |[],_,l,_,hv=>by simp [cu]at hv;rw [hv.1];intro e he;simp at he
 |k::ks,i,l,h,hv=>by
  unfold cu at hv
  split at hv
  ·split at hv
   ·rename_i l1 h1 l2 h2 e1 e2
    split at hv
    ·simp only [iJ,kC]at hv;rw [<-hv.1,pK];intro e he;rcases kW.1 he with he|he
     ·exact hgo _ _ _ _ _ e1 e he
     ·exact tN hgo ks (i+1) l2 h2 e2 e he
    ·cases hv
   ·cases hv
  ·cases hv
theorem G3:∀(f:Nat) (n a b:Int) (l:List Int) (h:Nat),nU t f n a b=some (l,h)->Checked (l.flatMap t.of):=by
 intro f
 induction f with
 |zero=>intro n a b l h hv;cases hv
 |succ f ih=>
  intro n a b l h hv;unfold nU at hv
  cases hx:t.dm n with
  |none=>rw [hx]at hv;cases hv
  |some x=>
   rw [hx]at hv;simp only at hv;have hof:t.of n=x.aI++x.buf:=by unfold Tr.of;rw [hx]
   split at hv
   ·cases hv
   ·split at hv
    ·split at hv
     ·rename_i hok
      simp only [iJ,kC]at hv;obtain⟨rfl,-⟩:=hv;obtain⟨k1,k2,k3,k4,k5,k6⟩:=hok;simp only [fO,List.flatMap_nil,nQ,hof,k3];exact k6.1
     ·cases hv
    ·split at hv
     ·rename_i hok
      obtain⟨p,hp,he⟩:=Option.map_eq_some_iff.1 hv;simp only [kC]at he;obtain⟨rfl,-⟩:=he;obtain⟨k1,k2,k3,k4,k5,k6⟩:=hok;simp only [fO,hof,k1,List.nil_append];intro e he;rcases kW.1 he with he|he
      ·exact k6.1 e he
      ·exact tN (fun k a b l h hv=>ih k a b l h hv) x.kids 0 p.1 p.2 hp e he
     ·cases hv
theorem cP (hv:nR t):Checked t.all:=by
 obtain⟨l,h,e,hn,hl⟩:=hv;intro x hx;exact G3 _ _ _ _ _ _ e x ((nD e hn hl).mem_iff.2 hx)
theorem nZ (hv:nR t):∀e∈t.all,0<=e.key/\e.key<1099511627776:=by
 obtain⟨l,h,e,hn,hl⟩:=hv;intro x hx;exact(sS (lo:=0) (hi:=0) _ _ _ _ _ _ e).2 x ((nD e hn hl).mem_iff.2 hx)
theorem iX {p:aH->Bool} (h:Checked l):Checked (l.filter p):=fun e he=>h e (nt.1 he).1
theorem all_eq (hv:nR t) (lo hi:Int):ft (iO t lo hi 12 t.root)=mz t lo hi:=by
 have hc:=cP hv;obtain⟨l,h,e,hn,hl⟩:=hv;have hp:=(sS (lo:=lo) (hi:=hi) _ _ _ _ _ _ e).1;have hq:=(nD e hn hl).filter (aV lo hi);exact PO (hp.trans hq) (fun x hx=>iX hc x ((hp.trans hq).mem_iff.1 hx))
end
section
variable {key a b n:Int} {l:List aH} {f h:Nat} {x:Nd} {t:Tr}
def bL (keys:List Int) (key:Int):Nat:=(keys.takeWhile fun k=>decide (k<=key)).length
theorem uD (keys:List Int) (key:Int):bL keys key<=keys:=by
 unfold bL;have:=List.takeWhile_prefix (fun k=>decide (k<=key)) (l:=keys);exact this.length_le
theorem IC {keys:List Int} {j:Nat} (h:j<bL keys key):keys.getD j 0<=key:=by
 unfold bL at h;have hp:=List.takeWhile_prefix (fun k=>decide (k<=key)) (l:=keys);have hl:j<keys:=oI h hp.length_le;have e:(keys.takeWhile fun k=>decide (k<=key))[j]=keys[j]:=hp.getElem h;have hm:(keys.takeWhile fun k=>decide (k<=key))[j]∈keys.takeWhile fun k=>decide (k<=key):=eZ h;have:=rH.1 (List.all_takeWhile (p:=fun k=>decide (k<=key)) (l:=keys)) _ hm;simp only [Du]at this;rw [List.getD_eq_getElem?_getD,oZ hl,Option.getD_some,<-e];exact this
theorem ID {keys:List Int} (h:bL keys key<keys):key<keys.getD (bL keys key) 0:=by
 induction keys with
 |nil=>simp at h
 |cons k ks ih=>
  unfold bL at h ⊢;by_cases hk:k<=key
  ·have e:((k::ks).takeWhile fun k=>decide (k<=key)).length=bL ks key+1:=by simp [bL,hk]
   rw [e]at h ⊢;simp only [gD]at h;simp only [List.getD_cons_succ];exact ih ai
  ·have e:((k::ks).takeWhile fun k=>decide (k<=key)).length=0:=by simp [hk]
   rw [e];simp;omega
def rS (t:Tr) (key:Int):Nat->Int->List aH
 |0,_=>[]
 |f+1,n=>
  match t.dm n with
  |none=>[]
  |some x=>if x.leaf=true then x.aI.filter (fun e=>decide (e.key=key))else x.buf.filter (fun e=>decide (e.key=key))++rS t key f (x.kids.getD (bL x.keys key) 0)
theorem tD (h:∀e∈l,e.key≠key):l.filter (fun e=>decide (e.key=key))=[]:=by
 rw [List.filter_eq_nil_iff];intro e he;simpa using h e he
theorem FA {gv:Int->Int->Int->Option (List Int×Nat)}
  (hgo:∀k a b l h,gv k a b=some (l,h)->∀e∈l.flatMap t.of,a<=e.key/\e.key<b) :
  ∀(ks:List Int) (i:Nat) (l:List Int) (h:Nat),i+ks=x.keys+1->cu gv x a b ks i=some (l,h) ->
   (i<=bL x.keys key->∃l' h',gv (ks.getD (bL x.keys key-i) 0) (x.from a (bL x.keys key)) (x.upto b (bL x.keys key))=some (l',h') /\
    (l.flatMap t.of).filter (fun e=>decide (e.key=key))=(l'.flatMap t.of).filter (fun e=>decide (e.key=key))) /\
   (bL x.keys key<i->(ks=[]\/key<x.from a i)->(l.flatMap t.of).filter (fun e=>decide (e.key=key))=[]):=by
 intro ks;have hle:=uD x.keys key
 induction ks with
 |nil=>
  intro i l h hi hv;simp [cu]at hv;refine⟨fun h'=>by simp at hi;omega,fun _ _=>by rw [hv.1];rfl⟩
 |cons k ks ih=>
  intro i l h hi0 hv;simp only [gD]at hi0;unfold cu at hv
  split at hv
  ·rename_i hc
   split at hv
   ·rename_i l1 h1 l2 h2 e1 e2
    split at hv
    ·simp only [iJ,kC]at hv;obtain⟨rfl,-⟩:=hv;have q1:=hgo _ _ _ _ _ e1;obtain⟨p2,q2⟩:=ih (i+1) l2 h2 ai e2;rw [pK,qH];have hup:ks=[]\/x.from a (i+1)=x.upto b i:=by
      by_cases hk:ks=[]
      ·exact .inl hk
      ·right;have:0<ks.length:=List.length_pos_iff.2 hk;simp only [Nd.from,Nd.upto,Nat.add_sub_cancel];rw [ar ai,aw ai]
     refine⟨fun hi=>?_,fun hi hk=>?_⟩
     ·by_cases heq:i=bL x.keys key
      ·refine⟨l1,h1,by rw [<-heq];simpa using e1,?_⟩;have hkey:ks=[]\/key<x.from a (i+1):=by
        rcases hup with h|h
        ·exact .inl h
        ·by_cases hks:ks=[]
         ·exact .inl hks
         ·right;have:0<ks.length:=List.length_pos_iff.2 hks;have:=ID (keys:=x.keys) (key:=key) ai;rw [h];simp only [Nd.upto];rw [aw ai,heq];exact this
       rw [q2 ai hkey,nQ]
      ·have hlt:i<bL x.keys key:=ai;obtain⟨l',h',g1,g2⟩:=p2 ai;refine⟨l',h',?_,?_⟩
       ·rw [show bL x.keys key-i=(bL x.keys key-(i+1))+1 from ai,List.getD_cons_succ];exact g1
       ·rw [g2,tD,List.nil_append];intro e he;have hr:=q1 e he;have:=IC (keys:=x.keys) (key:=key) hlt;simp only [Nd.upto]at hr;rw [aw ai]at hr;omega
     ·have hka:key<x.from a i:=(by rcases hk with h|h;cases h;exact h);have hkn:ks=[]\/key<x.from a (i+1):=by
       rcases hup with h|h
       ·exact .inl h
       ·right;rw [h];omega
      rw [q2 ai hkn,nQ,tD];intro e he;have hr:=q1 e he;omega
    ·cases hv
   ·cases hv
  ·cases hv
theorem nC {l:List Int} (hv:nU t (f+1) n a b=some (l,h)) (hx:t.dm n=some x) :
  a<b/\((x.leaf=true/\jI t n x a b/\l=[n]/\h=1)\/(x.leaf=false/\mW x a b/\∃l' h',cu (fun k a b=>nU t f k a b) x a b x.kids 0=some (l',h')/\l=n::l'/\h=h'+1)):=by
 have hlt:=Fz hv;refine⟨hlt,?_⟩;unfold nU at hv;rw [hx]at hv;simp only at hv;rw [ar (jw hlt)]at hv
 split at hv
 ·rename_i hl
  split at hv
  ·rename_i hok
   simp only [iJ,kC]at hv;exact .inl ⟨hl,hok,hv.1.symm,hv.2.symm⟩
  ·cases hv
 ·rename_i hl
  split at hv
  ·rename_i hok
   obtain⟨p,hp,he⟩:=Option.map_eq_some_iff.1 hv;simp only [kC]at he;exact .inr ⟨by simpa using hl,hok,p.1,p.2,hp,he.1.symm,he.2.symm⟩
  ·cases hv
theorem BL {l:List Int} (hv:nU t (f+1) n a b=some (l,h)):∃x,t.dm n=some x:=by
 unfold nU at hv
 split at hv
 ·cases hv
 ·exact⟨_,‹_›⟩
theorem Ob {l:List Int} (hv:nU t f n a b=some (l,h)):∀e∈l.flatMap t.of,a<=e.key/\e.key<b:=
 (sS (lo:=0) (hi:=0) _ _ _ _ _ _ hv).2
theorem M0 {l:List Int} (hv:nU t (f+1) n a b=some (l,h)) (hx:t.dm n=some x) (hl:x.leaf=false) (ha:a<=key) (hb:key<b) :
  bL x.keys key<x.kids/\∃a' b' l' h',nU t f (x.kids.getD (bL x.keys key) 0) a' b'=some (l',h')/\a'<=key/\key<b' /\
   (l.flatMap t.of).filter (fun e=>decide (e.key=key))=x.buf.filter (fun e=>decide (e.key=key))++(l'.flatMap t.of).filter (fun e=>decide (e.key=key)):=by
 obtain⟨hlt,⟨h1,_⟩|⟨_,hok,l1,h1,hk,rfl,rfl⟩⟩:=nC hv hx
 ·rw [hl]at h1;cases h1
 ·obtain⟨k1,k2,k3,k4,k5,k6⟩:=hok;have hle:=uD x.keys key;obtain⟨l',h',g1,g2⟩:=(FA (t:=t) (key:=key) (fun k a b l h hv=>Ob hv) x.kids 0 l1 h1 ai hk).1 (eY _);refine⟨ai,_,_,l',h',by simpa using g1,?_,?_,?_⟩
  ·unfold Nd.from
   split
   ·exact ha
   ·exact IC ai
  ·unfold Nd.upto
   split
   ·rename_i h;exact ID h
   ·exact hb
  ·have hof:t.of n=x.aI++x.buf:=by unfold Tr.of;rw [hx]
   rw [fO,qH,hof,k1,List.nil_append,g2]
theorem QP:∀(f:Nat) (n a b:Int) (l:List Int) (h:Nat),nU t f n a b=some (l,h)->a<=key->key<b ->
  rS t key f n=(l.flatMap t.of).filter (fun e=>decide (e.key=key)):=by
 intro f
 induction f with
 |zero=>intro n a b l h hv;cases hv
 |succ f ih=>
  intro n a b l h hv ha hb;obtain⟨x,hx⟩:=BL hv;have hof:t.of n=x.aI++x.buf:=by unfold Tr.of;rw [hx]
  unfold rS;rw [hx];simp only
  cases hl:x.leaf with
  |true=>
   obtain⟨_,⟨_,hok,rfl,_⟩|⟨h1,_⟩⟩:=nC hv hx
   ·rw [aw rfl];simp [hof,hok.2.2.1]
   ·rw [hl]at h1;cases h1
  |false=>
   rw [ar bh];obtain⟨_,a',b',l',h',g1,g2,g3,g4⟩:=M0 hv hx hl ha hb;rw [g4,ih _ _ _ _ _ g1 g2 g3]
def wY (r:ax) (l:List aH):Option ax:=l.foldlM (fun r e=>if r.c+e.is.c<=1073741824 then some (r.join e.is)else none) r
theorem Ip:look (l.filter (fun e=>decide (e.key=key))) key=look l key:=by
 induction l with
 |nil=>rfl
 |cons e l ih=>
  by_cases h:e.key=key
  ·rw [uS (by simpa using h)];show (if e.key=key then _ else _)=(if e.key=key then _ else _);rw [aw h,aw h,ih]
  ·rw [uR (by simpa using h),ih];show _=(if e.key=key then _ else _);rw [ar h]
theorem Ou {r:ax} (hk:∀e∈l,e.key=key) (hl:bQ l) (hr:r.kO) (hc:r.c<=1073741824) :
  wY r l=if r.c+(look l key).c<=1073741824 then some (r.join (look l key))else none:=by
 unfold wY
 induction l generalizing r with
 |nil=>
  have h1:r.c+(look [] key).c<=1073741824:=by simpa [look,ax.zero] using hc
  rw [List.foldlM_nil,aw h1];show some r=some (r.join ax.zero);rw [dN]
 |cons e l ih=>
  have hg:=hl.cons;have hf:=dM hg.2.dV key;have hp:=hf.pos;have e1:look (e::l) key=e.is.join (look l key):=by show (if e.key=key then _ else _)=_;rw [aw (hk e bh)]
  rw [List.foldlM_cons,e1];by_cases h1:r.c+e.is.c<=1073741824
  ·rw [aw h1];show List.foldlM _ (r.join e.is) l=_;rw [ih (fun x hx=>hk x (by simp [hx])) hg.2 (kq hr (.inr hg.1)) (by rw [dO];exact h1),dO,dO,join_assoc hr (.inr hg.1) hf,Int.add_assoc]
  ·rw [ar h1,dO,ar ai];rfl
def L8 (t:Tr) (key:Int):ax×Int:=if (look t.all key).c<=1073741824 then(look t.all key,0) else(ax.zero,1)
def L5 (t:Tr) (key:Int):ax×Int:=match wY ax.zero (rS t key 12 t.root) with|some r=>(r,0)|none=>(ax.zero,1)
def Y6 (t:Tr) (key:Int):ax×Int:=match mz t key (key+1) with|none=>(ax.zero,1)|some []=>(ax.zero,0)|some (e::_)=>(e.is,0)
theorem ND (hv:nR t) (h0:0<=key) (h1:key<1099511627776):L5 t key=L8 t key:=by
 have hc:=cP hv;obtain⟨l,h,e,hn,hl⟩:=hv;have hp:=nD e hn hl;have hg:bQ (l.flatMap t.of):=fun x hx=>hc.cp x (hp.mem_iff.1 hx);unfold L5 L8;rw [QP 12 _ _ _ _ _ e h0 h1,Ou (key:=key) (fun x hx=>by simpa using (nt.1 hx).2) (fun x hx=>hg x (nt.1 hx).1) zM bY,Ip,rW hp hg.dV,fB (dM hc.cp.dV _)];have:ax.zero.c=0:=rfl;rw [this,Int.zero_add];by_cases hs:(look t.all key).c<=1073741824
 ·rw [aw hs,aw hs]
 ·rw [ar hs,ar hs]
theorem IQ (key:Int):aV key (key+1)=fun e=>decide (e.key=key):=by
 funext e
 simp only [aV];by_cases h:e.key=key
 ·simp [h];omega
 ·have:¬(key<=e.key/\e.key<key+1):=ai;simp only [h,decide_false];rw [<-Bool.decide_and,xA this]
theorem KV (hr:aY l) (hk:∀e∈l,e.key=key):l=[]\/∃e,l=[e]:=by
 match l with
 |[]=>exact .inl rfl
 |[e]=>exact .inr ⟨e,rfl⟩
 |e::f::l=>
  have:=(tZ.1 hr).1 f bh;have:=hk e bh;have:=hk f bh;omega
theorem Vx (hv:nR t) (key:Int):Y6 t key=L8 t key:=by
 have hc:=cP hv;unfold Y6 L8 mz;rw [IQ];obtain⟨m,hm⟩:=cd (t.all.filter (fun e=>decide (e.key=key)));have hcm:Checked m:=by rw [hm];exact iX hc
 have hkm:∀e∈m,e.key=key:=fun e he=>by rw [hm]at he;simpa using (nt.1 he).2
 have hlm:look m key=look t.all key:=by rw [hm,Ip]
 have hbk:∀e∈pH m,e.key=key:=fun e he=>by
  by_cases h:e.key=key
  ·exact h
  ·have h1:=iF (eW hcm.cp) he;rw [iG hcm.cp,jz (fun y hy hk=>h (by rw [<-hk];exact hkm y hy))]at h1;have:=(gU hcm.cp e he).1;rw [<-h1]at this;exact absurd this bY
 rw [<-hm,ky hcm,<-hlm];by_cases hs:Small m
 ·rw [aw hs,aw (hs key)];rcases KV (eW hcm.cp) hbk with h|⟨e,h⟩
  ·rw [h,<-iG hcm.cp,h];rfl
  ·rw [h];have h1:=iF (eW hcm.cp) (e:=e) (by rw [h];simp);rw [iG hcm.cp,hbk e (by rw [h];simp)]at h1;simp only [h1]
 ·rw [ar hs,ar];intro h;refine hs fun k=>?_;by_cases hk:k=key
  ·rw [hk];exact h
  ·rw [jz (fun e he=>by rw [hkm e he];exact fun h=>hk h.symm)];decide
end
section
variable {lo hi:Int} {l:List aH}
instance (l:List aH) (lo hi:Int):Decidable (dK l lo hi):=by unfold dK Checked aY;infer_instance
def nA (l:List aH) (lo hi:Int):Bool:=decide (dK l lo hi)
theorem nL:nA l lo hi=true↔dK l lo hi:=by simp [nA]
theorem qY:nA l lo hi=false↔¬dK l lo hi:=by simp [nA]
theorem lJ (lo hi:Int):dK [] lo hi:=⟨by simp [Checked],bh,List.Pairwise.nil⟩
theorem AB {k:Nat} (hk:k<l) (h:dK (l.take k) lo hi) (h1:lo<=l[k].key) (h2:l[k].key<hi) (h3:∀iy:0<k,l[k-1].key<l[k].key) (h4:l[k].is.c≠0) (h5:av l[k].is=0) :
  dK (l.take (k+1)) lo hi:=by
 rw [ja hk];refine⟨fun e he=>?_,fun e he=>?_,?_⟩
 ·rcases kW.1 he with he|he
  ·exact h.1 e he
  ·obtain rfl:=oY.1 he;exact⟨h4,h5⟩
 ·rcases kW.1 he with he|he
  ·exact h.2.1 e he
  ·obtain rfl:=oY.1 he;exact⟨h1,h2⟩
 ·refine List.pairwise_append.2 ⟨h.2.2,List.pairwise_singleton _ _,fun a ha b hb=>?_⟩;obtain rfl:=oY.1 hb;obtain⟨i,hi',rfl⟩:=nr ha;simp only [gh]at hi';rw [zW];have iy:0<k:=ai;have:=h3 iy;by_cases hik:i=k-1
  ·subst hik;exact this
  ·have hp:=sI.1 h.2.2 i (k-1) fk fk ai;rw [zW,zW]at hp;omega
theorem vT (h:dK l lo hi) {k:Nat} (hk:k<l):lo<=l[k].key/\l[k].key<hi/\l[k].is.c≠0/\av l[k].is=0/\(∀iy:0<k,l[k-1].key<l[k].key):=by
 have hm:l[k]∈l:=eZ hk;exact⟨(h.2.1 _ hm).1,(h.2.1 _ hm).2,(h.1 _ hm).1,(h.1 _ hm).2,fun iy=>sI.1 h.2.2 (k-1) k ai hk ai⟩
theorem AE {k:Nat} (hk:l<=k) (h:dK (l.take k) lo hi):dK l lo hi:=by rwa [iM hk]at h
end
section
variable {n lo hi:Int} {s:Int×List Int} {S:List Int} {f i:Nat} {x:Nd} {t:Tr}
theorem F3 (h:t.dm n=none):cv t (f+1) n lo hi S=none:=by unfold cv;rw [h]
theorem FZ (h:t.dm n=some x) (hs:n∈S\/¬lo<hi):cv t (f+1) n lo hi S=none:=by
 unfold cv;rw [h];simp only;rw [aw hs]
theorem F4 (h:t.dm n=some x) (hs:n∉S) (hlt:lo<hi) (hl:x.leaf=true) (hok:jI t n x lo hi) :
  cv t (f+1) n lo hi S=some (12-(f:Int),n::S):=by
 unfold cv;rw [h];simp only;rw [ar (by simp [hs,hlt]),aw hl,aw hok]
theorem CQ (h:t.dm n=some x) (hl:x.leaf=true) (hok:¬jI t n x lo hi):cv t (f+1) n lo hi S=none:=by
 rw [cv,h];simp only [hl,hok,if_true,if_false,ite_self]
theorem Eh (h:t.dm n=some x) (hs:n∉S) (hlt:lo<hi) (hl:x.leaf=false) (hok:mW x lo hi) :
  cv t (f+1) n lo hi S=tR (fun k a b s=>cv t f k a b s) x lo hi x.kids 0 (0,n::S):=by
 rw [cv,h];simp only;rw [ar (by simp [hs,hlt]),ar (by simp [hl]),aw hok]
theorem A9 (h:t.dm n=some x) (hl:x.leaf=false) (hok:¬mW x lo hi):cv t (f+1) n lo hi S=none:=by
 rw [cv,h];simp [hl,hok]
theorem Ay {h:Int} {S':List Int} (hf:f<=12) (hv:cv t f n lo hi S=some (h,S')):1<=h/\h<=12-f+h/\lo<hi:=by
 rw [Ax f _ _ _ _ hf]at hv
 split at hv
 ·cases hv
 ·rename_i l hh e
  have:=sU e;have:=Fz e
  split at hv
  ·simp only [iJ,kC]at hv;omega
  ·cases hv
theorem Ls {go:Int->Int->Int->List Int->Option (Int×List Int)} (hi':i<x.kids) :
  tR go x lo hi (x.kids.drop i) i s=if lo<=x.upto hi i/\x.upto hi i<=hi then
   match go x.kids[i] (x.from lo i) (x.upto hi i) s.2 with
   |none=>none
   |some (h,s')=>if s.1=0\/h=s.1 then tR go x lo hi (x.kids.drop (i+1)) (i+1) (h,s')else none
  else none:=by
 rw [qI hi'];rfl
theorem OT {go:Int->Int->Int->List Int->Option (Int×List Int)} (hi':x.kids<=i):tR go x lo hi (x.kids.drop i) i s=some s:=by
 rw [zX hi'];rfl
theorem Cy:jI t n x lo hi↔x.keys+x.kids+x.buf.length=0/\x.aI.length<=6/\(x.aI.length=0->n=t.root)/\nA x.aI lo hi=true:=by
 unfold jI;rw [nL,<-List.length_eq_zero_iff,<-List.length_eq_zero_iff,<-List.length_eq_zero_iff,ne_eq,<-List.length_eq_zero_iff]
 constructor
 ·rintro⟨a,b,c,d,e,f⟩;exact⟨ai,d,fun h=>by rcases e with e|e;exact absurd h e;exact e,f⟩
 ·rintro⟨a,b,c,d⟩;exact⟨ai,ai,ai,b,by by_cases h:x.aI.length=0;exact .inr (c h);exact .inl h,d⟩
theorem EZ:mW x lo hi↔x.aI.length=0/\2<=x.kids.length/\x.kids.length<=4/\x.keys+1=x.kids.length/\x.buf.length<=8/\nA x.buf lo hi=true:=by
 unfold mW;rw [nL,<-List.length_eq_zero_iff]
end
section
variable {n lo hi:Int} {S:List Int} {s:List Int×Int} {f i:Nat} {x:Nd} {t:Tr} {σ:Type}
theorem Co (h:t.dm n=none):eO t (f+1) n lo hi s=none:=by rw [eO,h]
theorem Lf (h:t.dm n=some x) (hs:n∈s.1):eO t (f+1) n lo hi s=none:=by rw [eO,h];simp only;rw [aw hs]
theorem Lg (h:t.dm n=some x) (hs:n∉s.1) (hl:x.leaf=true) (hd:s.2=0\/s.2=12-(f:Int)) (hok:jI t n x lo hi) :
  eO t (f+1) n lo hi s=some (n::s.1,12-(f:Int)):=by
 rw [eO,h];simp only;rw [ar hs,aw hl,aw ⟨hd,hok⟩]
theorem FN (h:t.dm n=some x) (hl:x.leaf=true) (hok:¬((s.2=0\/s.2=12-(f:Int))/\jI t n x lo hi)):eO t (f+1) n lo hi s=none:=by
 rw [eO,h];simp only;rw [aw hl,ar hok];simp
theorem Ic (h:t.dm n=some x) (hs:n∉s.1) (hl:x.leaf=false) (hok:mW x lo hi) :
  eO t (f+1) n lo hi s=qi (fun k a b s=>eO t f k a b s) x lo hi x.kids 0 (n::s.1,s.2):=by
 rw [eO,h];simp only;rw [ar hs,ar (by simp [hl]),aw hok]
theorem Eb (h:t.dm n=some x) (hl:x.leaf=false) (hok:¬mW x lo hi):eO t (f+1) n lo hi s=none:=by
 rw [eO,h];simp [hl,hok]
theorem Lr {go:Int->Int->Int->σ->Option σ} {s:σ} (hi':i<x.kids) :
  qi go x lo hi (x.kids.drop i) i s=if x.from lo i<x.upto hi i/\lo<=x.from lo i/\x.upto hi i<=hi then
   match go x.kids[i] (x.from lo i) (x.upto hi i) s with
   |none=>none
   |some s'=>qi go x lo hi (x.kids.drop (i+1)) (i+1) s'
  else none:=by
 rw [qI hi'];rfl
theorem OQ {go:Int->Int->Int->σ->Option σ} {s:σ} (hi':x.kids<=i):qi go x lo hi (x.kids.drop i) i s=some s:=by
 rw [zX hi'];rfl
def Ks (t:Tr) (S:List Int):Prop:=S.Nodup/\∀y∈S,0<=y/\y<(t.nodes.length:Int)
theorem Ks.le (h:Ks t S):S<=t.nodes.length:=Ia h.1 h.2
theorem Ks.cons (h:Ks t S) (hn:n∉S) (hx:t.dm n=some x):Ks t (n::S):=
 ⟨List.nodup_cons.2 ⟨hn,h.1⟩,fun y hy=>by rcases fy.1 hy with rfl|hy;exact Fh hx;exact h.2 y hy⟩
theorem Ib:∀(f:Nat) (n lo hi:Int) (s s':List Int×Int),Ks t s.1->eO t f n lo hi s=some s'->Ks t s'.1:=by
 intro f
 induction f with
 |zero=>intro n lo hi s s' _ h;cases h
 |succ f ih=>
  intro n lo hi s s' hs h;rw [eO]at h
  split at h
  ·cases h
  ·rename_i x hx
   split at h
   ·cases h
   ·rename_i hn
    split at h
    ·split at h
     ·simp only [iJ]at h;rw [<-h];exact hs.cons hn hx
     ·cases h
    ·split at h
     ·have:∀(ks:List Int) (i:Nat) (s s':List Int×Int),Ks t s.1->qi (fun k a b s=>eO t f k a b s) x lo hi ks i s=some s'->Ks t s'.1:=by
       intro ks
       induction ks with
       |nil=>intro i s s' hs h;simp only [qi,iJ]at h;rw [<-h];exact hs
       |cons k ks ihk=>
        intro i s s' hs h;unfold qi at h
        split at h
        ·split at h
         ·cases h
         ·rename_i s1 e
          exact ihk (i+1) s1 s' (ih _ _ _ _ _ hs e) h
        ·cases h
      exact this _ _ _ _ (hs.cons hn hx) h
     ·cases h
end
section
variable {x:aH} {xs outs:List aH}
def kF (xs:List aH) (x:aH) (k:Nat) (done:Bool) (outs:List aH):Prop:=
 outs<=k+1/\(done=true->gJ xs x=some (outs++xs.drop k))/\(done=false->outs=xs.take k/\gJ xs x=(gJ (xs.drop k) x).map (fun l=>outs++l))
theorem DX (xs:List aH) (x:aH):kF xs x 0 false []:=⟨bh,bh,bh⟩
theorem Fy {k:Nat} (hk:k<xs) (h:kF xs x k true outs):kF xs x (k+1) true (outs++[xs[k]]):=by
 obtain⟨h1,h2,_⟩:=h;refine⟨by simp;omega,fun _=>?_,bh⟩;rw [h2 rfl,qI hk];simp
theorem Fx {k:Nat} (hk:k<xs) (h:kF xs x k false outs) (hl:xs[k].key<x.key):kF xs x (k+1) false (outs++[xs[k]]):=by
 obtain⟨h1,_,h3⟩:=h;obtain⟨rfl,h5⟩:=h3 rfl;refine⟨by simp;omega,bh,fun _=>⟨by rw [ja hk],?_⟩⟩;rw [h5,qI hk];show (if xs[k].key<x.key then _ else _:Option (List aH)).map _=_;rw [aw hl]
 cases gJ (xs.drop (k+1)) x with
 |none=>rfl
 |some l=>simp only [Option.map_some];rw [iT];rfl
theorem Fw {k:Nat} (hk:k<xs) (h:kF xs x k false outs) (hl:x.key<xs[k].key):kF xs x (k+1) true (outs++[x]++[xs[k]]):=by
 obtain⟨h1,_,h3⟩:=h;obtain⟨rfl,h5⟩:=h3 rfl;refine⟨by simp;omega,fun _=>?_,bh⟩;rw [h5,qI hk];show (if xs[k].key<x.key then _ else if xs[k].key=x.key then _ else _:Option (List aH)).map _=_;rw [ar ai,ar ai];simp
theorem Fv {k:Nat} (hk:k<xs) (h:kF xs x k false outs) (hl:xs[k].key=x.key) :
  (xs[k].is.c+x.is.c<=1073741824->kF xs x (k+1) true (outs++[⟨x.key,xs[k].is.join x.is⟩]))/\(¬xs[k].is.c+x.is.c<=1073741824->gJ xs x=none):=by
 obtain⟨h1,_,h3⟩:=h;obtain⟨rfl,h5⟩:=h3 rfl;rw [qI hk]at h5;have e:gJ (xs[k]::xs.drop (k+1)) x=if xs[k].is.c+x.is.c<=1073741824 then some (⟨x.key,xs[k].is.join x.is⟩::xs.drop (k+1))else none:=by
  show (if xs[k].key<x.key then _ else if xs[k].key=x.key then _ else _:Option (List aH))=_;rw [ar ai,aw hl]
 rw [e]at h5;refine⟨fun hc=>⟨by simp;omega,fun _=>?_,bh⟩,fun hc=>?_⟩
 ·rw [h5,aw hc];simp
 ·rw [h5,ar hc];rfl
theorem Af {k:Nat} (hk:xs<=k):(kF xs x k true outs->gJ xs x=some outs)/\(kF xs x k false outs->gJ xs x=some (outs++[x])):=by
 refine⟨fun h=>?_,fun h=>?_⟩
 ·rw [h.2.1 rfl,zX hk];simp
 ·rw [(h.2.2 rfl).2,zX hk];rfl
theorem IP {l:List aH} (h:gJ xs x=some l):l<=xs.length+1:=by
 induction xs generalizing l with
 |nil=>simp only [gJ,iJ]at h;rw [<-h];simp
 |cons e xs ih=>
  unfold gJ at h
  split at h
  ·obtain⟨m,hm,rfl⟩:=Option.map_eq_some_iff.1 h;have:=ih hm;simp only [gD];omega
  ·split at h
   ·split at h
    ·simp only [iJ]at h;rw [<-h];simp
    ·cases h
   ·simp only [iJ]at h;rw [<-h];simp
end
section
variable {lo hi:Int} {l es:List aH} {i:Nat} {x:Nd} {t:Tr}
theorem cZ (h:aC t=0):t.nodes.length<=2000/\nR t:=by
 unfold aC at h
 split at h
 ·cases h
 ·split at h
  ·exact⟨ai,‹_›⟩
  ·cases h
theorem xN (h:t.nodes.length<=2000) (hv:nR t):aC t=0:=by
 unfold aC;rw [ar ai,aw hv]
theorem Ey:∀{f:Nat} {n lo hi:Int} {l:List Int} {h:Nat},nU t f n lo hi=some (l,h)->∀y∈l,(t.of y).length<=14:=by
 intro f
 induction f with
 |zero=>intro n lo hi l h hv;cases hv
 |succ f ih=>
  intro n lo hi l h hv y hy;obtain⟨x,hx⟩:=BL hv;have hof:t.of n=x.aI++x.buf:=by unfold Tr.of;rw [hx]
  obtain⟨_,⟨_,hok,rfl,_⟩|⟨_,hok,l',h',hk,rfl,_⟩⟩:=nC hv hx
  ·obtain rfl:=oY.1 hy;rw [hof,dF,hok.2.2.1];have:=hok.2.2.2.1;simp;omega
  ·rcases fy.1 hy with rfl|hy
   ·rw [hof,dF,hok.1];have:=hok.2.2.2.2.1;simp;omega
   ·exact uj (P:=fun y=>(t.of y).length<=14) (fun k a b l h hv=>ih hv) hk y hy
theorem Jm {α β:Type} {f:α->List β} {m:Nat}:∀{l:List α},(∀y∈l,(f y).length<=m)->(l.flatMap f).length<=m*l
 |[],_=>bh
 |a::l,h=>by
  have h1:=h a bh;have h2:=Jm (l:=l) fun y hy=>h y (by simp [hy]);rw [fO,dF,gD,Nat.mul_add];omega
theorem vk (h:nR t):t.all<=14*t.nodes.length:=by
 obtain⟨l,hh,e,hn,hl⟩:=h;rw [<-(nD e hn hl).length_eq,<-hl];exact Jm (Ey e)
theorem sF (l:List aH) (y:aH):ft (l++[y])=(ft l).bind fun es=>gJ es y:=by
 unfold ft;rw [List.foldlM_append]
 cases h:List.foldlM gJ [] l with
 |none=>rfl
 |some es=>simp [List.foldlM_cons]
theorem vW {m:List aH} (h:ft l=none):ft (l++m)=none:=by
 unfold ft at h ⊢;rw [List.foldlM_append,h];rfl
theorem CA (l:List aH) (x:aH):(ins l x).length<=l+1:=by
 induction l with
 |nil=>simp [ins]
 |cons e l ih=>
  unfold ins
  split
  ·simp only [gD];omega
  ·split
   ·simp
   ·simp
theorem si:∀(l m:List aH),(l.foldl ins m).length<=m+l
 |[],m=>bh
 |x::l,m=>by
  rw [List.foldl_cons,gD];have:=si l (ins m x);have:=CA m x;omega
theorem fL (hl:Checked l) (h:ft l=some es):es=pH l/\Small l/\Checked es/\es<=l.length/\aY es:=by
 rw [ky hl]at h
 split at h
 ·rename_i hs
  simp only [iJ]at h;subst h;refine⟨rfl,hs,AK hl.cp hs,?_,eW hl.cp⟩;have:=si l [];simpa [pH] using this
 ·cases h
def Nd.all (x:Nd):List aH:=x.aI++x.buf
def upTo (t:Tr) (i:Nat) (x:Nd) (k:Nat):List aH:=(t.nodes.take i).flatMap Nd.all++x.all.take k
theorem G5 (hx:t.nodes[i]?=some x) (k:Nat):∃m,t.all=upTo t i x k++m:=by
 obtain⟨hi,rfl⟩:=dW.1 hx;refine⟨t.nodes[i].all.drop k++(t.nodes.drop (i+1)).flatMap Nd.all,?_⟩;show t.nodes.flatMap Nd.all=_
 conv=>lhs;rw [<-rG i t.nodes,qI hi,pK,fO]
 unfold upTo;rw [iT]
 congr 1
 rw [<-iT,rG]
def jJ (t:Tr) (lo hi:Int) (i:Nat) (x:Nd) (k:Nat) (es:List aH):Prop:=ft ((upTo t i x k).filter (aV lo hi))=some es
theorem Gr (t:Tr) (lo hi:Int) (x:Nd):jJ t lo hi 0 x 0 []:=by simp [jJ,upTo,ft]
theorem JX {y:Nd} {k:Nat} (hx:t.nodes[i]?=some x) (hk:x.all<=k) (h:jJ t lo hi i x k es):jJ t lo hi (i+1) y 0 es:=by
 obtain⟨hi,rfl⟩:=dW.1 hx;unfold jJ upTo at *;rw [iM hk]at h;rw [ja hi,pK,List.flatMap_singleton,List.take_zero,nQ];exact h
theorem JW {k:Nat} (hk:k<x.all) (h:jJ t lo hi i x k es) (hr:aV lo hi x.all[k]=false):jJ t lo hi i x (k+1) es:=by
 unfold jJ upTo at *;rw [ja hk,<-iT,qH,uR (by simp [hr]),List.filter_nil,nQ];exact h
theorem JT {k:Nat} {es':List aH} (hk:k<x.all) (h:jJ t lo hi i x k es) (hr:aV lo hi x.all[k]=true) (hi':gJ es x.all[k]=some es'):jJ t lo hi i x (k+1) es':=by
 unfold jJ upTo at *;rw [ja hk,<-iT,qH,uS hr,List.filter_nil,sF,h];exact hi'
theorem JU {k:Nat} (hx:t.nodes[i]?=some x) (hk:k<x.all) (h:jJ t lo hi i x k es) (hr:aV lo hi x.all[k]=true) (hi':gJ es x.all[k]=none):mz t lo hi=none:=by
 obtain⟨m,hm⟩:=G5 hx (k+1);unfold mz;rw [hm,qH];refine vW ?_;unfold jJ at h;unfold upTo at *;rw [ja hk,<-iT,qH,uS hr,List.filter_nil,sF,h];exact hi'
theorem MG (hi':t.nodes<=i) (h:jJ t lo hi i x 0 es):mz t lo hi=some es:=by
 unfold jJ upTo at h;rw [iM hi']at h;rw [List.take_zero,nQ]at h;exact h
theorem JV {k:Nat} (hf:aC t=0) (hx:t.nodes[i]?=some x) (h:jJ t lo hi i x k es):Checked es/\es.length<=28000:=by
 obtain⟨hn,hv⟩:=cZ hf;obtain⟨m,hm⟩:=G5 hx k;have hc:Checked (upTo t i x k):=fun e he=>cP hv e (by rw [hm];simp [he]);obtain⟨_,_,h1,h2,_⟩:=fL (iX hc) h;refine⟨h1,?_⟩;have h3:=ub (aV lo hi) (upTo t i x k);have h4:=vk hv;rw [hm,dF]at h4;omega
theorem JS {k:Nat} (hf:aC t=0) (hx:t.nodes[i]?=some x) (hk:k<x.all):av x.all[k].is=0:=by
 obtain⟨hn,hv⟩:=cZ hf;refine(cP hv _ ?_).2;unfold Tr.all;exact List.mem_flatMap.2 ⟨x,uO hx,eZ hk⟩
end
section
variable {x:Int} {es:List aH}
theorem rA {α:Type} {p:α->Bool}:∀{l:List α} {k:Nat},k<=l.length->(∀t (ht:t<l.length),t<k->p l[t]=true)->(∀ht:k<l.length,p l[k]=false)->(l.takeWhile p).length=k
 |[],k,hk,_,_=>by simp at hk;simp [hk]
 |a::l,0,_,_,h2=>by
  have:=h2 bh;simp only [List.getElem_cons_zero]at this;simp [this]
 |a::l,k+1,hk,h1,h2=>by
  have h0:=h1 0 bh ai;simp only [List.getElem_cons_zero]at h0;rw [List.takeWhile_cons_of_pos h0,gD,rA (k:=k) (by simpa using hk) (fun t ht htk=>h1 (t+1) (by simpa using ht) ai) (fun ht=>h2 (by simpa using ht))]
def QN (zs:List Int) (x:Int):Nat:=(zs.takeWhile fun z=>decide (z<x)).length
def jr (es:List aH) (x:Int):Nat:=(es.takeWhile fun e=>decide (e.key<x)).length
def uG (es:List aH) (x:Int):Bool:=es.any fun e=>decide (e.key=x)
theorem UC {zs:List Int} {k:Nat} (hk:k<=zs.length) (h1:∀t (ht:t<zs.length),t<k->zs[t]<x) (h2:∀t (ht:t<zs.length),k<=t->x<=zs[t]):QN zs x=k:=
 rA hk (fun t ht htk=>by simpa using h1 t ht htk) (fun ht=>by simpa using h2 k ht aO)
theorem Vp {zs:List Int} {k:Nat} (hs:zs.Pairwise (·<·)) (h1:∀t (ht:t<zs.length),t<k->zs[t]<x) (h2:∀t (ht:t<zs.length),k<=t->x<=zs[t]):decide (x∈zs)=if h:k<zs.length then decide (zs[k]=x)else false:=by
 by_cases hk:k<zs.length
 ·rw [dif_pos hk,decide_eq_decide]
  constructor
  ·intro hm;obtain⟨t,ht,rfl⟩:=nr hm;by_cases h:t<k
   ·have:=h1 t ht h;omega
   ·by_cases h':t=k
    ·subst h';rfl
    ·have:=sI.1 hs k t hk ht ai;have:=h2 k hk aO;omega
  ·intro h;rw [<-h];exact eZ hk
 ·rw [dif_neg hk,xA];intro hm;obtain⟨t,ht,rfl⟩:=nr hm;have:=h1 t ht ai;omega
theorem Bp {k:Nat} (hk:k<=es.length) (h1:∀t (ht:t<es.length),t<k->es[t].key<x) (h2:∀t (ht:t<es.length),k<=t->x<=es[t].key):jr es x=k:=
 rA hk (fun t ht htk=>by simpa using h1 t ht htk) (fun ht=>by simpa using h2 k ht aO)
theorem Vq {k:Nat} (hs:aY es) (h1:∀t (ht:t<es.length),t<k->es[t].key<x) (h2:∀t (ht:t<es.length),k<=t->x<=es[t].key):uG es x=if h:k<es.length then decide (es[k].key=x)else false:=by
 by_cases hk:k<es.length
 ·rw [dif_pos hk];unfold uG;rw [Bool.eq_iff_iff,List.any_eq_true,Du]
  constructor
  ·rintro⟨e,he,hm⟩;have hm:=kD hm;obtain⟨t,ht,rfl⟩:=nr he;by_cases h:t<k
   ·have:=h1 t ht h;omega
   ·by_cases h':t=k
    ·subst h';exact hm
    ·have:=sI.1 hs k t hk ht ai;have:=h2 k hk aO;omega
  ·intro h;exact⟨es[k],eZ hk,by simpa using h⟩
 ·rw [dif_neg hk];unfold uG;rw [List.any_eq_false];intro e he;obtain⟨t,ht,rfl⟩:=nr he;have:=h1 t ht ai;simp;omega
theorem OU {keys:List Int} (hs:keys.Pairwise (·<·)):bL keys x=QN keys x+if x∈keys then 1 else 0:=by
 induction keys with
 |nil=>rfl
 |cons k ks ih=>
  have hp:=tZ.1 hs;have ih:=ih hp.2;unfold bL QN at *;by_cases h1:k<x
  ·have h2:k<=x:=ai;rw [List.takeWhile_cons_of_pos (by simpa using h2),List.takeWhile_cons_of_pos (by simpa using h1),gD,gD,ih];have:(x∈k::ks)↔x∈ks:=by rw [fy];exact⟨fun h=>h.resolve_left ai, .inr⟩
   by_cases h:x∈ks
   ·rw [aw h,aw (this.2 h)]
   ·rw [ar h,ar (fun h'=>h (this.1 h'))]
  ·rw [List.takeWhile_cons_of_neg (p:=fun z=>decide (z<x)) (by simpa using h1)];by_cases h2:k=x
   ·subst h2;rw [List.takeWhile_cons_of_pos bh,gD,aw bh]
    cases ks with
    |nil=>rfl
    |cons y ys=>
     have:=hp.1 y bh;rw [List.takeWhile_cons_of_neg fk]
   ·have hn:¬x∈k::ks:=fun hm=>by
     rcases fy.1 hm with h|h
     ·exact h2 h.symm
     ·have:=hp.1 x h;omega
    rw [List.takeWhile_cons_of_neg fk,ar hn];rfl
theorem uk {go:Int->Int->Int->Option (List Int×Nat)} {x:Nd} {a b:Int}:∀{ks:List Int} {i:Nat} {l:List Int} {h:Nat},cu go x a b ks i=some (l,h)->∀j,j<ks.length->x.from a (i+j)<x.upto b (i+j)/\a<=x.from a (i+j)/\x.upto b (i+j)<=b
 |[],_,_,_,_=>fun j hj=>by simp at hj
 |k::ks,i,l,h,hv=>by
  unfold cu at hv
  split at hv
  ·rename_i hc
   split at hv
   ·rename_i l1 h1 l2 h2 e1 e2
    intro j hj
    cases j with
    |zero=>exact hc
    |succ j=>
     have:=uk e2 j (by simpa using hj)
     rwa [show i+1+j=i+(j+1)from by omega]at this
   ·cases hv
  ·cases hv
theorem Qs {t:Tr} {f:Nat} {n a b:Int} {l:List Int} {h:Nat} {x:Nd} (hv:nU t (f+1) n a b=some (l,h)) (hx:t.dm n=some x) (hl:x.leaf=false):x.keys.Pairwise (·<·)/\∀k∈x.keys,a<=k/\k<=b:=by
 obtain⟨_,⟨h1,_⟩|⟨_,hok,l',h',hk,rfl,_⟩⟩:=nC hv hx
 ·rw [hl]at h1;cases h1
 ·have hb:=uk hk;have hkl:=hok.2.2.2.1;have g:∀j (hj:j<x.keys.length),x.upto b (0+j)=x.keys[j]/\x.from a (0+(j+1))=x.keys[j]:=fun j hj=>by
   simp [Nd.upto,Nd.from,hj]
  refine⟨sI.2 fun i j hi hj hij=>?_,fun k hk=>?_⟩
  ·have step:∀m (hm:m+1<x.keys.length),x.keys[m]<x.keys[m+1]:=fun m hm=>by
    have h1:=(hb (m+1) ai).1;rw [(g m ai).2,(g (m+1) hm).1]at h1;exact h1
   obtain⟨d,rfl⟩:∃d,j=i+1+d:=⟨j-i-1,ai⟩;clear hij
   induction d with
   |zero=>exact step i hj
   |succ d ih=>
    exact Int.lt_trans (ih ai step) (step (i+1+d) ai)
  ·obtain⟨j,hj,rfl⟩:=nr hk;have h1:=hb j ai;rw [(g j hj).1]at h1;omega
end
section
variable {key:Int} {L path:List aH} {r:ax} {t:Tr}
theorem E6 (hs:aY L) (h:uG L key=true):∃(i:Nat) (hi:i<L),jr L key=i/\L[i].key=key/\L.filter (fun e=>decide (e.key=key))=[L[i]]:=by
 unfold uG at h;obtain⟨e,he,hk⟩:=List.any_eq_true.1 h;have hk:=kD hk;obtain⟨i,hi,rfl⟩:=nr he;have hp:=sI.1 hs;have h1:∀t (ht:t<L.length),t<i->L[t].key<key:=fun t ht hti=>by rw [<-hk];exact hp t i ht hi hti
 have h2:∀t (ht:t<L.length),i<t->key<L[t].key:=fun t ht hti=>by rw [<-hk];exact hp i t hi ht hti
 refine⟨i,hi,Bp ai h1 (fun t ht hti=>?_),hk,?_⟩
 ·by_cases hit:i=t
  ·subst hit;omega
  ·have:=h2 t ht ai;omega
 ·conv=>lhs;rw [<-rG i L,qI hi]
  rw [qH,uS (by simpa using hk),tD (fun e he=>?_),tD (fun e he=>?_),List.nil_append]
  ·obtain⟨t,ht,rfl⟩:=nr he;rw [qG]at ht;rw [List.getElem_drop];have:=h2 (i+1+t) ai ai;omega
  ·obtain⟨t,ht,rfl⟩:=nr he;rw [gh]at ht;rw [zW];have:=h1 t ai ai;omega
theorem LZ (h:uG L key=false):L.filter (fun e=>decide (e.key=key))=[]:=by
 unfold uG at h;rw [List.filter_eq_nil_iff];intro e he;have:=List.any_eq_false.1 h e he;simpa using this
def Nd.own (x:Nd):List aH:=if x.leaf=true then x.aI else x.buf
def rK (t:Tr) (key:Int) (r:ax) (path:List aH):Prop:=av r=0/\L5 t key=match wY r path with|some r=>(r,0)|none=>(ax.zero,1)
theorem Sk (hf:aC t=0) {f:Nat} {n a b:Int} {l:List Int} {h:Nat} {x:Nd} (hv:nU t (f+1) n a b=some (l,h)) (hx:t.dm n=some x) (ha:a<=key) (hb:key<b) :
  aY x.own/\Checked x.own/\(∀e∈x.own,0<=e.key/\e.key<1099511627776) /\
  rS t key (f+1) n=x.own.filter (fun e=>decide (e.key=key))++(if x.leaf=true then []else rS t key f (x.kids.getD (bL x.keys key) 0)) /\
  (x.leaf=false->x.keys.Pairwise (·<·)/\bL x.keys key<x.kids/\∃f' a' b' l' h',f=f'+1/\nU t (f'+1) (x.kids.getD (bL x.keys key) 0) a' b'=some (l',h')/\a'<=key/\key<b'):=by
 obtain⟨hn,U6⟩:=cZ hf;have hxm:x∈t.nodes:=by
  unfold Tr.dm at hx
  split at hx
  ·exact uO hx
  ·cases hx
 have hrange:∀e∈x.own,0<=e.key/\e.key<1099511627776:=fun e he=>nZ U6 e (by
  unfold Tr.all;refine List.mem_flatMap.2 ⟨x,hxm,?_⟩;unfold Nd.own at he;split at he <;> simp [he])
 have Wy:rS t key (f+1) n=x.own.filter (fun e=>decide (e.key=key))++(if x.leaf=true then []else rS t key f (x.kids.getD (bL x.keys key) 0)):=by
  conv=>lhs;unfold rS
  rw [hx];simp only [Nd.own]
  cases hl:x.leaf <;> simp
 obtain⟨_,⟨hl,hok,_⟩|⟨hl,hok,_⟩⟩:=nC hv hx
 ·have ho:x.own=x.aI:=by simp [Nd.own,hl]
  exact⟨by rw [ho];exact hok.2.2.2.2.2.2.2,by rw [ho];exact hok.2.2.2.2.2.1,hrange,Wy,fun h=>by rw [hl]at h;cases h⟩
 ·have ho:x.own=x.buf:=by simp [Nd.own,hl]
  refine⟨by rw [ho];exact hok.2.2.2.2.2.2.2,by rw [ho];exact hok.2.2.2.2.2.1,hrange,Wy,fun _=>⟨(Qs hv hx hl).1,?_⟩⟩;obtain⟨h1,a',b',l',h',h2,h3,h4,_⟩:=M0 hv hx hl ha hb;refine⟨h1,?_⟩
  cases f with
  |zero=>cases h2
  |succ f'=>exact⟨f',a',b',l',h',rfl,h2,h3,h4⟩
theorem Jg (hh:uG L key=false) (h:rK t key r (L.filter (fun e=>decide (e.key=key))++path)):rK t key r path:=by
 rw [LZ hh,List.nil_append]at h;exact h
theorem Jf {i:Nat} {hi:i<L} (hc:av L[i].is=0) (hfl:L.filter (fun e=>decide (e.key=key))=[L[i]]) (h:rK t key r (L.filter (fun e=>decide (e.key=key))++path)) :
  (r.c+L[i].is.c<=1073741824->bF r L[i].is=(r.join L[i].is,0)/\rK t key (r.join L[i].is) path)/\(¬r.c+L[i].is.c<=1073741824->bF r L[i].is=(ax.zero,1)/\L5 t key=(ax.zero,1)):=by
 obtain⟨h1,h2⟩:=h;rw [hfl]at h2;have e:wY r ([L[i]]++path)=if r.c+L[i].is.c<=1073741824 then wY (r.join L[i].is) path else none:=by
  unfold wY;rw [List.singleton_append,List.foldlM_cons]
  split <;> rfl
 rw [e]at h2;refine⟨fun hle=>?_,fun hle=>?_⟩
 ·obtain⟨m1,m2⟩:=qh h1 hc hle;rw [aw hle]at h2;exact⟨m1,m2,h2⟩
 ·rw [ar hle]at h2;exact⟨(iL h1 hc).trans (ar hle),h2⟩
theorem L6 (h:rK t key r []):L5 t key=(r,0):=h.2
theorem F8:rK t key ax.zero (rS t key 12 t.root):=⟨bY,rfl⟩
end
section
variable {x:aH} {es:List aH}
theorem zG {x:aH}:∀{es:List aH} {k:Nat},k<=es.length->(∀t (ht:t<es.length),t<k->es[t].key<x.key)->gJ es x=(gJ (es.drop k) x).map (fun l=>es.take k++l)
 |es,0,_,_=>bh
 |[],k+1,hk,_=>by simp at hk
 |e::es,k+1,hk,h=>by
  have h0:=h 0 bh ai;simp only [List.getElem_cons_zero]at h0;have ih:=zG (es:=es) (k:=k) (by simpa using hk) (fun t ht htk=>h (t+1) (by simpa using ht) ai);show (if e.key<x.key then _ else _:Option (List aH))=_;rw [aw h0,ih,List.drop_succ_cons,List.take_succ_cons]
  cases gJ (es.drop k) x <;> rfl
theorem uo {α:Type} {p:α->Bool}:∀{l:List α} {k:Nat} (_:(l.takeWhile p).length=k) (h:k<l),p l[k]=false
 |[],k,_,h=>by simp at h
 |a::l,k,hk,h=>by
  by_cases hp:p a=true
  ·rw [List.takeWhile_cons_of_pos hp,gD]at hk;obtain⟨j,rfl⟩:∃j,k=j+1:=⟨k-1,ai⟩;exact uo (l:=l) (k:=j) ai (by simpa using h)
  ·rw [List.takeWhile_cons_of_neg hp,List.length_nil]at hk;subst hk;simpa using hp
theorem nJ {key:Int} (_hs:aY es):jr es key<=es.length/\(∀t (ht:t<es.length),t<jr es key->es[t].key<key)/\(∀ht:jr es key<es.length,key<=es[jr es key].key):=by
 unfold jr;have hp:=List.takeWhile_prefix (fun e:aH=>decide (e.key<key)) (l:=es);refine⟨hp.length_le,fun t ht htk=>?_,fun ht=>?_⟩
 ·have e:(es.takeWhile fun e=>decide (e.key<key))[t]=es[t]:=hp.getElem htk;have:=rH.1 (List.all_takeWhile (p:=fun e:aH=>decide (e.key<key)) (l:=es)) _ (eZ htk);rw [e]at this;simpa using this
 ·have:=uo (p:=fun e:aH=>decide (e.key<key)) (l:=es) rfl ht;have:=Zj this;omega
theorem Ri (hs:aY es) (hh:uG es x.key=false):gJ es x=some (es.take (jr es x.key)++x::es.drop (jr es x.key)):=by
 obtain⟨p1,p2,p3⟩:=nJ (key:=x.key) hs;rw [zG p1 p2];by_cases h:jr es x.key<es
 ·have h3:=p3 h;have hne:es[jr es x.key].key≠x.key:=fun e=>by
   have:=List.any_eq_false.1 hh es[jr es x.key] (eZ h);simp [e]at this
  rw [qI h];show (if _<x.key then _ else if _=x.key then _ else _:Option (List aH)).map _=_;rw [ar ai,ar hne];rfl
 ·rw [zX ai];rfl
theorem CB {i:Nat} (hi:i<es) (hs:aY es) (hp:jr es x.key=i) (hk:es[i].key=x.key) :
  gJ es x=if es[i].is.c+x.is.c<=1073741824 then some (es.set i ⟨x.key,es[i].is.join x.is⟩)else none:=by
 obtain⟨p1,p2,p3⟩:=nJ (key:=x.key) hs;rw [hp]at p1 p2;rw [zG p1 p2,qI hi];show (if _<x.key then _ else if _=x.key then _ else _:Option (List aH)).map _=_;rw [ar ai,aw hk]
 split
 ·rw [List.set_eq_take_append_cons_drop,aw hi];rfl
 ·rfl
end
section
variable {P l es:List aH} {t:Tr}
def dX (P:List aH):Prop:=Checked P/\(∀e∈P,0<=e.key/\e.key<1099511627776)/\P.length<=50000
theorem dX.left {Q:List aH} (h:dX (P++Q)):dX P:=
 ⟨fun e he=>h.1 e (by simp [he]),fun e he=>h.2.1 e (by simp [he]),by have:=h.2.2;rw [dF]at this;omega⟩
theorem Di:∀{m:List aH} {e:aH},e∈l.foldl ins m->∃y,(y∈l\/y∈m)/\y.key=e.key:=by
 induction l with
 |nil=>intro m e he;exact⟨e, .inr he,rfl⟩
 |cons x l ih=>
  intro m e he;rw [List.foldl_cons]at he;obtain⟨y,hy|hy,hk⟩:=ih he
  ·exact⟨y, .inl (by simp [hy]),hk⟩
  ·rcases uE hy with h|⟨z,hz,h⟩
   ·exact⟨x, .inl bh,ai⟩
   ·exact⟨z, .inr hz,ai⟩
theorem qc (hP:dX P) (h:ft P=some es):aY es/\(∀e∈es,av e.is=0)/\(∀e∈es,0<=e.key/\e.key<1099511627776)/\es.length<=50000:=by
 obtain⟨h1,h2,h3,h4,h5⟩:=fL hP.1 h;refine⟨h5,fun e he=>(h3 e he).2,fun e he=>?_,by have:=hP.2.2;omega⟩;rw [h1]at he;obtain⟨y,hy|hy,hk⟩:=Di he
 ·have:=hP.2.1 y hy;omega
 ·cases hy
noncomputable def allT (t:Tr):Option (List aH):=if aC t=0 then mz t 0 1099511627776 else none
theorem Dl (h:aC t=0) (lo hi:Int):dX (t.all.filter (aV lo hi)):=by
 obtain⟨h1,h2⟩:=cZ h;refine⟨iX (cP h2),fun e he=>nZ h2 e (nt.1 he).1,?_⟩;have h3:=vk h2;have h4:=ub (aV lo hi) t.all;omega
theorem vH (hP:dX P) (h:ft P=some es):dX es:=by
 obtain⟨_,_,g3,g4⟩:=qc hP h;obtain⟨_,_,h3,_,_⟩:=fL hP.1 h;exact⟨h3,g3,g4⟩
theorem PR {lo hi:Int} (hf:aC t=0) (h:mz t lo hi=some l):aY l/\dX l:=
 ⟨(qc (Dl hf lo hi) h).1,vH (Dl hf lo hi) h⟩
theorem fg (h:allT t=some l):aY l/\dX l:=by
 unfold allT at h
 split at h
 ·rename_i hf;exact PR hf h
 ·cases h
def bucket (size:Int) (e:aH):aH:=⟨e.key-e.key%1048576%size,e.is⟩
def bw (l:List aH) (size:Int):Option (List aH):=ft (l.map (bucket size))
theorem mod_le {m s:Int} (h:0<=m) (hs:0<s):m%s<=m:=by
 rw [Int.emod_def];have:=Int.mul_nonneg (Int.le_of_lt hs) (Int.ediv_nonneg h (Int.le_of_lt hs));omega
theorem pG {size:Int} (hs:0<size) {e:aH} (h:0<=e.key/\e.key<1099511627776):0<=(bucket size e).key/\(bucket size e).key<1099511627776:=by
 have h1:=Int.emod_nonneg e.key (show (1048576:Int)≠0 by decide);have h2:=Int.emod_nonneg (e.key%1048576) (show size≠0 by omega);have h3:e.key%1048576%size<=e.key%1048576:=mod_le h1 hs;have h4:e.key%1048576<=e.key:=ai;show 0<=e.key-e.key%1048576%size/\e.key-e.key%1048576%size<1099511627776;omega
theorem eF {size:Int} (hs:0<size) (h:dX l):dX (l.map (bucket size)):=by
 refine⟨fun e he=>?_,fun e he=>?_,by rw [oX];exact h.2.2⟩
 ·obtain⟨y,hy,rfl⟩:=ua.1 he;exact h.1 y hy
 ·obtain⟨y,hy,rfl⟩:=ua.1 he;exact pG hs (h.2.1 y hy)
structure Ba where
 names:List ByteArray
 t0:Tr
 t1:Tr
 t2:Tr
 floor:Int
def iu (b:Ba) (e:aH):Bool:=decide (e.key/1048576<b.names) && decide (b.floor<=e.key%1048576) && decide (e.is.t=e.key%1048576)
noncomputable def cx (b:Ba):Option (List aH):=match allT b.t0 with|none=>none|some l=>if l.all (iu b)then some l else none
theorem lM {b:Ba} (h:cx b=some l):allT b.t0=some l/\l.all (iu b)=true:=by
 unfold cx at h
 cases ht:allT b.t0 with
 |none=>rw [ht]at h;cases h
 |some m=>
  rw [ht]at h;simp only at h
  split at h
  ·rename_i hb;simp only [iJ]at h;subst h;exact⟨rfl,hb⟩
  ·cases h
noncomputable def kK (l:List aH) (t:Tr) (size:Int):Bool:=match bw l size,allT t with|some a,some c=>decide (a=c)|_,_=>false
def Ba.tree (b:Ba) (k:Nat):Tr:=if k=0 then b.t0 else if k=1 then b.t1 else b.t2
def bp (k:Nat):Int:=if k=0 then 1 else if k=1 then 60 else 3600
theorem eB (k:Nat):0<bp k:=by unfold bp;split;decide;split <;> decide
end
theorem DY {H:Type} {enc:TypeId×Value->H} {P:Program} (hl:laidOutB P=true) {W W':World} (hb:aq W W') :
  ∀{ts:List TypeId} {vs:List Value} {ds:List (DataW H)} {ps:List MemPlace},(∀t∈ts,P.readableRec t=true/\t<P.types.size) ->
   DataW.TrodAll enc P W 0 (fun _=>true) true ts vs ds ps->(∀x∈ps,x.block<W) ->
   DataW.TrodAll enc P W' 0 (fun b=>decide (b<W.heap.size)) true ts vs ds ps:=by
 intro ts
 induction ts with
 |nil=>intro vs ds ps _ h _;obtain⟨rfl,rfl,rfl⟩:=trodAll_nil h;exact trodAll_mk0
 |cons t ts ih=>
  intro vs ds ps ht h hlt;obtain⟨v,vs',d,ds',p,q,rfl,rfl,rfl,h1,h2⟩:=trodAll_cons h;refine⟨p,q,Below.trod hl (ht t bh).1 (ht t bh).2 h1 hb (fun x hx=>hlt x (by simp [hx])),?_,rfl⟩;exact ih (fun t' ht'=>ht t' (by simp [ht'])) h2 (fun x hx=>hlt x (by simp [hx]))
theorem Tryz.own:ownKnob Tryz.prog.godebug=none:=cV
theorem Tryz.laidOut:laidOutB Tryz.prog=true:=cV
theorem Tryz.JF:Tryz.prog.cellsOf 3=1:=cV
section
variable {H:Type} {enc:TypeId×Value->H} {w:World} {base:Nat} {sp:Nat->Bool} {held:Bool}
theorem take_one {α:Type} {cs:List α} {i:Nat} {v:α} (h:(cs.drop i).take 1=[v]):cs[i]?=some v:=by
 have:=congrArg (fun l=>l[0]?) h;simpa [rF] using this
theorem Xt {n:Int} (hw:(Lit.int .i64 n).wf=true) : -9223372036854775808<=n/\n<=9223372036854775807:=by
 simpa [Lit.wf,IntKind.min,IntKind.max,IntKind.signed,IntKind.bits] using hw
theorem om {fuel:Nat} {cs:List Value} {i:Nat} {x:DataW H×List MemPlace} (h:DataW.trod enc Tryz.prog w base sp held fuel 3 ((cs.drop i).take (Tryz.prog.cellsOf 3))=some x) :
  ∃n,cs[i]?=some (af n)/\-9223372036854775808<=n/\n<=9223372036854775807:=by
 obtain⟨n,e,_,hw⟩:=DataW.trod_int Tryz.underlying3 h;rw [Tryz.JF]at e;exact⟨n,take_one e,Xt hw⟩
def ax.cells (r:ax):List Value:=[af r.c,af r.s,af r.mi,af r.ma,af r.t,af r.l]
end
theorem Cx {H:Type} {enc:TypeId×Value->H} {C:Go.Checked} {os:Os} {f:FuncId} {fn:Func} {s:ChangeSpec} {tb:TypeId} {L:List (String×DataW Unit)}
  (own:ownKnob C.prog.godebug=none) (started:os.Started) (noInit:C.prog.inits.idxOf? f=none) (hfn:C.prog.funcs[f]?=some fn)
  (witness:∃(w:World) (tape:Tape) (i:Input),w.os=os/\(w.forCall tape i).Shaped C.prog/\i.vars=[]/\Input.okWide C.prog (w.forCall tape i) .any w f i /\
   ((s.pre enc C.prog fn [] false (w.forCall tape i).memory i.args/\laidMetH C.prog L (w.forCall tape i).memory)/\sizedMet enc C.prog fn (OpenSpec.ofChange s) false (w.forCall tape i).memory i.args)/\({}:Assume).holds C.prog (lone (Frame.enter C.prog f i.args .normal) [] (w.forCall tape i)))
  (hl:laidOutB C.prog=true) (hread:∀t∈fn.params.toList,C.prog.readableRec t=true/\t<C.prog.types.size)
  (hvars:s.vars=[]) (hres:fn.resultTypes=#[tb]) (IY:C.prog.underlying tb=some .bool)
  (Rx:∀ds:List (DataW H),ds=fn.params.size->s.fn H (ds++[])={ results:=[.lit (.bool true)],args:=ds })
  (contract:∀(W:World) (base:Nat) (args:Array Value) (ds:List (DataW H)) (ps:List MemPlace),
   (∀(j:Nat) t v,fn.params[j]?=some t->args[j]?=some v->Value.okWide C.prog W .any base t v) ->
   DataW.TrodAll enc C.prog W 0 (fun _=>true) true fn.params.toList args.toList ds ps ->
   (∀x∈ps,x.block<W) ->
   (DataW.weightsEach C.prog fn.params.toList ds).all (·<=reachBytes)=true->laidMetH C.prog L W ->
   Calls C.prog f args W fun e W'=>e = .returned (.bool true)/\aq W W') :
  ReturnsInHanded {} C os f .any (fun w args=>(s.pre enc C.prog fn [] false w args/\laidMetH C.prog L w)/\sizedMet enc C.prog fn (OpenSpec.ofChange s) false w args) (s.post enc C.prog fn false true false false):=by
 refine returnsInHanded_of_change_and (C:=C) (X:=fun w _=>laidMetH C.prog L w) (fun _ _ _ hh h=>h.of_heap hh) own started noInit hfn witness ?_;intro W base args ds gs before hval hW _ hsz hL _;have hW':=hW;obtain⟨p,q,hA,hV,rfl,hfz,hnd⟩:=hW;rw [hvars]at hV;obtain⟨rfl,rfl⟩:=trodVars_none hV;have hlt:∀x∈p,x.block<W:=fun x hx=>hW'.lt x (by simp [hx]);have U6:s.plain.varTypes C.prog=[]:=by simp [ChangeSpec.plain,DataSpec.varTypes,hvars]
 rw [U6]at hsz;simp only [nQ]at hsz;refine(contract W base args ds p hval hA hlt hsz hL).mono fun e W' ⟨he,hb⟩=>?_;subst he;have hlen:ds=fn.params.size:=by
  have:∀{ts:List TypeId} {vs:List Value} {ds:List (DataW H)} {ps:List MemPlace},DataW.TrodAll enc C.prog W 0 (fun _=>true) true ts vs ds ps->ds=ts.length:=by
   intro ts
   induction ts with
   |nil=>intro vs ds ps h;obtain⟨rfl,rfl,rfl⟩:=trodAll_nil h;rfl
   |cons t ts ih=>
    intro vs ds ps h;obtain⟨v,vs',d,ds',p,q,rfl,rfl,rfl,h1,h2⟩:=trodAll_cons h;simp [ih h2]
  simpa using this hA
 refine⟨_,rfl,ds,[],p++[],[],p,[],hW',?_,?_,?_,hb.frame _,fun h=>by cases h⟩
 ·rw [Rx ds hlen,hres];exact trodAll_mk1 (shut_bool IY true)
 ·rw [Rx ds hlen];exact DY hl hb hread hA hlt
 ·rw [Rx ds hlen,hvars];rfl
structure cI (w:World):Prop where
 lt:0<w.heap.size
 c0:w.cell? (0,0)=some (af 1)
 c1:w.cell? (0,1)=some (af 60)
 c2:w.cell? (0,2)=some (af 3600)
theorem cI.below {w w':World} (h:cI w) (hb:aq w w'):cI w':=
 ⟨oI h.lt hb.size,(hb.cell (p:=⟨_,_,none⟩) h.lt).trans h.c0,(hb.cell (p:=⟨_,_,none⟩) h.lt).trans h.c1,(hb.cell (p:=⟨_,_,none⟩) h.lt).trans h.c2⟩
theorem CF (w:World):(Instr.index 127 (.agg #[af 1,af 60,af 3600]) (af 0)).run Tryz.prog w = .ok (af 1) w:=by
 unfold Instr.index;simp [go_sem]
theorem CE (w:World):(Instr.index 127 (.agg #[af 1,af 60,af 3600]) (af 1)).run Tryz.prog w = .ok (af 60) w:=by
 unfold Instr.index;simp [go_sem]
theorem CD (w:World):(Instr.index 127 (.agg #[af 1,af 60,af 3600]) (af 2)).run Tryz.prog w = .ok (af 3600) w:=by
 unfold Instr.index;simp [go_sem]
abbrev Iy : List (String × DataW Unit) := [("winnower/base.sizes", Rows.laid_winnower_base_sizes)]
theorem Tryz.Sl : Tryz.prog.globalNamed "winnower/base.sizes" = some 0 := by kernel_rfl
theorem Tryz.Xx:(Tryz.prog.globals[0]?).map (·.type)=some 127:=cV
theorem Tryz.Mt:Tryz.prog.cellsOf 127=3:=cV
theorem D6 {W:World} (h:laidMetH Tryz.prog Iy W):cI W:=by
 rw [MakeChecks.laidMetH_plain _ _ _ cV]at h;obtain⟨ps,⟨g0,t0,cs0,f0,p0,q0,hg0,ht0,hv0,hd0,_,_⟩,_⟩:=h;obtain rfl:=dh (Tryz.Sl.symm.trans hg0);obtain rfl:=dh (Tryz.Xx.symm.trans ht0);obtain⟨xs,m1,rfl,hx1,hlen,FW,hel⟩:=DataW.trod_array Tryz.underlying127 hd0;rw [Tryz.Mt]at hlen;simp only [kC]at hx1;have cells:∀(i:Nat) (n:Int),i<3->(xs.map (·.1))[i]?=some (.lit (.int .i64 n))->cs0[i]?=some (.int .i64 n):=by
  intro i n hi hn;have hi':i<xs:=ai;have h1:=hel i hi;rw [oZ hi']at h1;obtain⟨k,e1,e2,_⟩:=DataW.trod_int Tryz.underlying3 h1;rw [Tryz.JF,Nat.mul_one]at e1;have h2:=take_one e1;rw [List.getElem?_map,oZ hi']at hn;simp only [Option.map_some,iJ]at hn;have e3:=congrArg (·.1) e2;simp only at e3;rw [hn]at e3;obtain rfl:k=n:=by simpa using e3.symm
  simpa using h2
 have hm:xs.map (·.1)=[.lit (.int .i64 1), .lit (.int .i64 60), .lit (.int .i64 3600)]:=(DataW.agg.inj (show DataW.agg [.lit (.int .i64 1), .lit (.int .i64 60), .lit (.int .i64 3600)]=DataW.agg (xs.map (·.1))from hx1.1)).symm;have hc:∀(i:Nat) (n:Int),i<3->(xs.map (·.1))[i]?=some (.lit (.int .i64 n))->W.cell? ⟨0,i,none⟩=some (.int .i64 n):=fun i n hi hn=>
  (World.var?_cell Tryz.Sl hv0 i).trans (cells i n hi hn)
 have c0:=hc 0 1 ai (by rw [hm];rfl);refine⟨?_,c0,hc 1 60 ai (by rw [hm];rfl),hc 2 3600 ai (by rw [hm];rfl)⟩;by_cases hb:0<W.heap.size
 ·exact hb
 ·simp [World.cell?,Array.getElem?_eq_none (Nat.le_of_not_lt hb)]at c0
theorem SB (os:Os) (args:Array Value):laidMetH Tryz.prog Iy ((World.doorLaid Tryz.prog 14 os).forCall (fun _ _=>0) ⟨#[],args,[]⟩).memory:=
 laidMetH_of_parts3 (fuel:=8) (laidMet_of_run' 8 cV cV) cV cV
end Go.Proofs.YtmljjfhgciaceaaGreatDoor
