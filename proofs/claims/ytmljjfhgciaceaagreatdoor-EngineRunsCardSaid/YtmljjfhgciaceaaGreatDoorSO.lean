/- Lemmas of the proof. -/
import Derived.Test.YtmljjfhgciaceaaGreatDoorHd
import Derived.Test.YtmljjfhgciaceaaGreatDoorCz
import Derived.StillTailTactics
import Derived.RegionTactic
import Derived.OrdersHeld
import Derived.Deep.RegionHeld3
namespace Go.Proofs.YtmljjfhgciaceaaGreatDoor
open Go
section
variable {a:Act} {listed:Array Bool} {l:List (Oper×Nat)} {i:Nat} {o:Oper} {w:World}
section
variable {P:Program} {ops:Array Oper} {Q:Exit->Act->World->Prop} {md:Region.Mode} {S:World->Prop} {z:Nat}
def Till (S:World->Prop) (z:Nat) (listed:Array Bool) (w:World):Prop:=listed.getD z true=false->S w
def mX (md:Region.Mode) (ops:Array Oper) (listed:Array Bool):Prop:=listed.size=ops.size/\∀j oj,ops[j]?=some oj->listed.getD j false=true->∀e∈oj.after,Region.binds md e=true->listed.getD e.on false=true
theorem mX.set {j:Nat} (h:mX md ops listed) (hj:j∈Region.ready md ops listed):mX md ops (listed.setIfInBounds j true):=by
 refine⟨by simp [h.1],fun k ok hk hl e he hb=>?_⟩;by_cases hjk:j=k
 ·subst hjk;obtain⟨_,o,ho,hall⟩:=mem_ready.1 hj;obtain rfl:o=ok:=dh (ho.symm.trans hk);exact getD_set_true (hall e he hb)
 ·rw [getD_set_ne false hjk]at hl;exact getD_set_true (h.2 k ok hk hl e he hb)
def EO (md:Region.Mode) (ops:Array Oper) (z:Nat):Nat->Nat->Bool
 |0,_=>false
 |f+1,i=>(List.range ops.size).any fun j=>Region.waitsFor md ops j i && (decide (j=z) || EO md ops z f j)
theorem EN {listed:Array Bool} (inv:mX md ops listed):∀{f i:Nat},EO md ops z f i=true->listed.getD i true=false->listed.getD z true=false/\z∉Region.ready md ops listed
 |0,_,h,_=>by cases h
 |f+1,i,h,hu=>by
  obtain⟨j,hj,h2⟩:=List.any_eq_true.1 h;obtain⟨h3,h4⟩:=dQ.1 h2;obtain⟨oj,I3,e,he,hb,RA⟩:=Region.waitsFor_spec h3;have hju:listed.getD j true=false:=by
   refine getD_in (by rw [inv.1];exact List.mem_range.1 hj) ?_
   cases nW:listed.getD j false with
   |false=>rfl
   |true=>
    have h5:=inv.2 j oj I3 nW e he hb;rw [RA,getD_both hu]at h5;cases h5
  rcases Bool.or_eq_true_iff.1 h4 with h4|h4
  ·have RM:=kD h4;subst RM;refine⟨hju,fun hr=>?_⟩;obtain⟨_,o,ho,hall⟩:=mem_ready.1 hr;obtain rfl:o=oj:=dh (ho.symm.trans I3);have h5:=hall e he hb;rw [RA,getD_both hu]at h5;cases h5
  ·exact EN inv h4 hju
def uh (P:Program) (md:Region.Mode) (ops:Array Oper) (Q:Exit->Act->World->Prop) (S:World->Prop) (z:Nat):Nat->Array Bool->Act->World->Prop
 |0,listed,a,w=>Region.ready md ops listed=[]/\Q .normal a w
 |fuel+1,listed,a,w=>
  (Region.ready md ops listed=[]->Q .normal a w) /\
  ∀i∈Region.ready md ops listed,wpOp P ops Q i (fun a' w'=>Till S z (listed.setIfInBounds i true) w'/\uh P md ops Q S z fuel (listed.setIfInBounds i true) a' w') a w
theorem kP:∀(fuel:Nat) (listed:Array Bool) (a:Act) (w:World),uh P md ops Q S z fuel listed a w->wpAny P md ops Q fuel listed a w
 |0,_,_,_,h=>h
 |fuel+1,_,_,_,h=>⟨h.1,fun i hi=>wpOp_mono (fun a' w' h'=>kP fuel _ a' w' h'.2) (h.2 i hi)⟩
theorem iD (h:Till S z listed w) (ou:i≠z):Till S z (listed.setIfInBounds i true) w:=fun hz=>h (by rw [getD_set_ne true ou]at hz;exact hz)
theorem fQ {S':World->Prop} {oi:Oper} {v:Value} (hi:ops[i]?=some oi) (fh:∀(j:Nat) (o:Oper) cs b,ops[j]?=some o->o.op ≠ .select cs b)
  (hQ:∀c a w,Q (.panic c) (a.put oi.dst v) w->Q (.panic c) a w) (ou:i≠z) (hk:(∃f,EO md ops z f i=true/\∀w,S w->S' w)\/∀w,S' w) :
  ∀(fuel:Nat) (listed:Array Bool) (a:Act) (w:World),mX md ops listed ->
   (∀j oj,ops[j]?=some oj->j≠i->listed.getD j true=false->(∀e∈oj.after,Region.binds md e=true->e.on≠i)->oi.apart ops oj=true) ->
   i∈Region.ready md ops listed->YieldsIf P ops S' oi v a->Till S z listed w ->
   uh P md ops Q S z fuel (listed.setIfInBounds i true) (a.put oi.dst v) w->uh P md ops Q S z (fuel+1) listed a w:=by
 have sat:∀listed w,mX md ops listed->i∈Region.ready md ops listed->Till S z listed w->S' w:=fun listed w inv hr ht=>by
  rcases hk with ⟨f,hf,hs⟩|hs
  ·exact hs w (ht (EN inv hf (mem_ready.1 hr).1).1)
  ·exact hs w
 have ald:∀listed,mX md ops listed->i∈Region.ready md ops listed->True:=fun _ _ _=>trivial;intro fuel
 induction fuel with
 |zero=>
  intro listed a w inv _ hr hy hS H;refine⟨fun h=>(by rw [h]at hr;cases hr),fun j hj=>?_⟩;by_cases GQ:j=i
  ·subst GQ;exact hy.wpOp hi (sat _ _ inv hr hS) ⟨iD hS ou,H⟩
  ·have:=ready_mono hj GQ;rw [H.1]at this
   cases this
 |succ fuel ih=>
  intro listed a w inv hfree hr hy hS H;refine⟨fun h=>(by rw [h]at hr;cases hr),fun j hj=>?_⟩;by_cases GQ:j=i
  ·subst GQ;exact hy.wpOp hi (sat _ _ inv hr hS) ⟨iD hS ou,H⟩
  ·have h1:=H.2 j (ready_mono hj GQ);obtain⟨RO,oj,I3,hall⟩:=mem_ready.1 hj;have RF:∀e∈oj.after,Region.binds md e=true->e.on≠i:=fun e he hb heq=>by
    have h1:=hall e he hb;rw [heq,getD_both (mem_ready.1 hr).1]at h1
    cases h1
   have h2:=wpOp_putIf I3 (hfree j oj I3 GQ RO RF) (fun cs b=>fh i oi cs b hi) (fun cs b=>fh j oj cs b I3) hQ hy h1;have Yz:∀k ok,ops[k]?=some ok->k≠i->(listed.setIfInBounds j true).getD k true=false ->
     (∀e∈ok.after,Region.binds md e=true->e.on≠i)->oi.apart ops ok=true:=fun k ok hk RL hun hno=>by
    refine hfree k ok hk RL ?_ hno;by_cases hjk:j=k
    ·subst hjk;exact RO
    ·rw [getD_set_ne true hjk]at hun;exact hun
   refine wpOp_mono (fun a' w' h3=>?_) h2;have ht:Till S z (listed.setIfInBounds j true) w':=fun hz=>h3.2.1 (by
    rw [Array.setIfInBounds_comm _ _ (Ne.symm GQ),getD_set_ne true ou];exact hz)
   refine⟨ht,ih (listed.setIfInBounds j true) a' w' (inv.set hj) Yz (ready_mono hr (Ne.symm GQ)) h3.1 ht ?_⟩;rw [Array.setIfInBounds_comm _ _ GQ];exact h3.2.2
def wW (md:Region.Mode) (ops:Array Oper) (z:Nat):List (Nat×Nat)->Array Bool->Bool
 |[],listed=>decide (Region.ready md ops listed=[])
 |(i,0)::r,listed=>(Region.ready md ops listed).contains i && Region.free md ops listed i && !decide (i=z) && EO md ops z ops.size i && wW md ops z r (listed.setIfInBounds i true)
 |(i,1)::r,listed=>(Region.ready md ops listed).contains i && Region.free md ops listed i && !decide (i=z) && wW md ops z r (listed.setIfInBounds i true)
 |(i,2)::r,listed=>decide (Region.ready md ops listed=[i]) && !decide (i=z) && wW md ops z r (listed.setIfInBounds i true)
 |(i,_+3)::r,listed=>decide (Region.ready md ops listed=[i]) && decide (i=z) && wW md ops z r (listed.setIfInBounds i true)
def iB (P:Program) (Q:Exit->Act->World->Prop) (S:World->Prop):List (Oper×Nat)->Act->World->Prop
 |[],a,w=>Q .normal a w
 |(o,0)::l,a,w=>o.guard=none/\∃v,(∀W,S W->(execOp a.eval o).run P W = .ok (.value v) W)/\iB P Q S l (a.put o.dst v) w
 |(o,1)::l,a,w=>o.guard=none/\∃v,(∀W,(execOp a.eval o).run P W = .ok (.value v) W)/\iB P Q S l (a.put o.dst v) w
 |(o,2)::l,a,w=>o.guard=none/\∀K:Act->World->Prop,(∀a' w',S w'->iB P Q S l a' w'->K a' w')->Oper.wp P o a w K Q
 |(o,_+3)::l,a,w=>o.guard=none/\∀K:Act->World->Prop,(∀a' w',iB P Q S l a' w'->K a' w')->Oper.wp P o a w K Q
def bV (l:List Oper) (s:List (Nat×Nat)):List (Oper×Nat):=s.filterMap fun p=>(l[p.1]?).map fun o=>(o,p.2)
theorem bM (h:o.guard=none) (x:Nat->Option Bool):Region.wanted o x=true:=by simp [Region.wanted,h]
theorem od (fh:Region.noSelect ops=true) (hQ:∀c a d v w,Q (.panic c) (a.put d v) w->Q (.panic c) a w) :
  ∀(s:List (Nat×Nat)) (listed:Array Bool) (a:Act) (w:World),mX md ops listed->wW md ops z s listed=true->Till S z listed w->iB P Q S (bV ops.toList s) a w->uh P md ops Q S z s listed a w
 |[],listed,a,w,_,hB,_,h=>⟨kD hB,h⟩
 |(i,0)::r,listed,a,w,inv,hB,hS,h=>by
  obtain⟨hB,h5⟩:=dQ.1 hB;obtain⟨hB,h4⟩:=dQ.1 hB;obtain⟨hB,h3⟩:=dQ.1 hB;obtain⟨h1,h2⟩:=dQ.1 hB;have hr:i∈Region.ready md ops listed:=by simpa using h1
  have ou:i≠z:=by simpa using h3
  obtain⟨_,oi,hi,_⟩:=mem_ready.1 hr;have e:bV ops.toList ((i,0)::r)=(oi,0)::bV ops.toList r:=by
   have:ops.toList[i]?=some oi:=by simpa using hi
   unfold bV;rw [List.filterMap_cons,this];rfl
  rw [e]at h;obtain⟨hg,v,hy,hl⟩:=h;exact fQ (S':=S) hi (Dp fh) (fun c a w=>hQ c a _ _ w) ou (.inl ⟨_,h4,fun _ h=>h⟩) r listed a w inv (Et hi h2) hr (.inl ⟨bM hg _,hy⟩) hS
   (od fh hQ r _ _ _ (inv.set hr) h5 (iD hS ou) hl)
 |(i,1)::r,listed,a,w,inv,hB,hS,h=>by
  obtain⟨hB,h5⟩:=dQ.1 hB;obtain⟨hB,h3⟩:=dQ.1 hB;obtain⟨h1,h2⟩:=dQ.1 hB;have hr:i∈Region.ready md ops listed:=by simpa using h1
  have ou:i≠z:=by simpa using h3
  obtain⟨_,oi,hi,_⟩:=mem_ready.1 hr;have e:bV ops.toList ((i,1)::r)=(oi,1)::bV ops.toList r:=by
   have:ops.toList[i]?=some oi:=by simpa using hi
   unfold bV;rw [List.filterMap_cons,this];rfl
  rw [e]at h;obtain⟨hg,v,hy,hl⟩:=h;exact fQ (S':=fun _=>True) hi (Dp fh) (fun c a w=>hQ c a _ _ w) ou (.inr fun _=>trivial) r listed a w inv (Et hi h2) hr (.inl ⟨bM hg _,fun w _=>hy w⟩) hS
   (od fh hQ r _ _ _ (inv.set hr) h5 (iD hS ou) hl)
 |(i,2)::r,listed,a,w,inv,hB,hS,h=>by
  obtain⟨hB,h5⟩:=dQ.1 hB;obtain⟨h1,h3⟩:=dQ.1 hB;have hr:=kD h1;have ou:i≠z:=by simpa using h3
  have hm:i∈Region.ready md ops listed:=by rw [hr];simp
  obtain⟨_,oi,hi,_⟩:=mem_ready.1 hm;have e:bV ops.toList ((i,2)::r)=(oi,2)::bV ops.toList r:=by
   have:ops.toList[i]?=some oi:=by simpa using hi
   unfold bV;rw [List.filterMap_cons,this];rfl
  rw [e]at h;obtain⟨hg,hl⟩:=h;refine⟨fun h0=>(by rw [h0]at hm;cases hm),fun j hj=>?_⟩;rw [hr]at hj;obtain rfl:j=i:=oY.1 hj;refine wpOp_step hi fun K' hK'=>?_;rw [aw (bM hg _)];exact hl K' fun a' w' hs hh=>hK' a' w' ⟨fun _=>hs,od fh hQ r _ _ _ (inv.set hm) h5 (fun _=>hs) hh⟩
 |(i,k+3)::r,listed,a,w,inv,hB,hS,h=>by
  obtain⟨hB,h5⟩:=dQ.1 hB;obtain⟨h1,h3⟩:=dQ.1 hB;have hr:=kD h1;have ou:=kD h3;have hm:i∈Region.ready md ops listed:=by rw [hr];simp
  obtain⟨_,oi,hi,_⟩:=mem_ready.1 hm;have e:bV ops.toList ((i,k+3)::r)=(oi,k+3)::bV ops.toList r:=by
   have:ops.toList[i]?=some oi:=by simpa using hi
   unfold bV;rw [List.filterMap_cons,this];rfl
  rw [e]at h;obtain⟨hg,hl⟩:=h;refine⟨fun h0=>(by rw [h0]at hm;cases hm),fun j hj=>?_⟩;rw [hr]at hj;obtain rfl:j=i:=oY.1 hj;refine wpOp_step hi fun K' hK'=>?_;rw [aw (bM hg _)];have ht:∀w',Till S z (listed.setIfInBounds j true) w':=fun w' hz=>by
   rw [<-ou]at hz;have hlt:j<listed.size:=by rw [inv.1];exact(eJ.1 hi).1
   simp [hlt]at hz
  exact hl K' fun a' w' hh=>hK' a' w' ⟨ht w',od fh hQ r _ _ _ (inv.set hm) h5 (ht w') hh⟩
def Qz (md:Region.Mode) (ops:Array Oper) (z:Nat) (s:List (Nat×Nat)):Bool:=Region.noSelect ops && decide (s=ops.size) && wW md ops z s (Array.replicate ops.size false)
theorem bN {id:Nat} {l:List Oper} (s:List (Nat×Nat)) (z:Nat) (S:World->Prop) (hm:P.follows .mixedOrders=true) (hB:Qz .any l.toArray z s=true)
  (hS:S w.drew) (h:iB P (NoPanic Q) S (bV l s) a w.drew):(Code.region id l.toArray true).wp P Q a w:=by
 obtain⟨DN,h3⟩:=dQ.1 hB;obtain⟨h1,h2⟩:=dQ.1 DN;refine wp_region_noPanic (wp_region_any hm (kP (S:=S) (z:=z) _ _ _ _ ?_));have:=od (md:= .any) (ops:=l.toArray) (S:=S) (z:=z) (P:=P) (Q:=NoPanic Q) h1 (fun _ _ _ _ _ h=>h) s (Array.replicate l.toArray.size false) a w.drew
  ⟨bh,fun j oj _ hl=>(by rw [getD_replicate_false]at hl;cases hl)⟩ h3 (fun _=>hS) h
 rw [kD h2]at this;exact this
theorem aP (hg:o.guard=none) (h:∀K:Act->World->Prop,(∀a' w',S w'->iB P Q S l a' w'->K a' w')->Oper.wp P o a w K Q):iB P Q S ((o,2)::l) a w:=⟨hg,h⟩
theorem bq (hg:o.guard=none) (h:∀K:Act->World->Prop,(∀a' w',iB P Q S l a' w'->K a' w')->Oper.wp P o a w K Q):iB P Q S ((o,3)::l) a w:=⟨hg,h⟩
theorem bg {v:Value} (hl:iB P Q S l (a.put o.dst v) w) (hg:o.guard=none:=by rfl) (h:∀W,(execOp a.eval o).run P W = .ok (.value v) W:=by(intro W;go_simp;(try with_reducible rfl);done)):iB P Q S ((o,1)::l) a w:=⟨hg,v,h,hl⟩
theorem aZ {v:Value} (hl:iB P Q S l (a.put o.dst v) w) (hg:o.guard=none:=by rfl) (h:∀W,S W->(execOp a.eval o).run P W = .ok (.value v) W:=by(intro W hW;(try dsimp only at hW);go_simp;(try with_reducible rfl);done)):iB P Q S ((o,0)::l) a w:=⟨hg,v,h,hl⟩
theorem cC (h:Q .normal a w):iB P (NoPanic Q) S [] a w:=h
end
end
section
variable {a:Act} {l:List Oper} {i:Nat} {o:Oper} {w:World}
inductive tK where
 |nil
 |step (i k:Nat) (r:tK)
 |fork (i j:Nat) (a b:tK)
def tK.len:tK->Nat
 |nil=>0
 |step _ _ r=>r.len+1
 |fork _ _ a _=>a.len+1
def tK.of:List (Nat×Nat)->tK->tK
 |[],r=>r
 |(i,k)::l,r=> .step i k (tK.of l r)
section
variable {P:Program} {ops:Array Oper} {Q:Exit->Act->World->Prop} {md:Region.Mode} {S:World->Prop} {z:Nat}
def Hg (md:Region.Mode) (ops:Array Oper) (z:Nat):tK->Array Bool->Bool
 |.nil,listed=>decide (Region.ready md ops listed=[])
 |.step i 0 r,listed=>(Region.ready md ops listed).contains i && Region.free md ops listed i && !decide (i=z) && EO md ops z ops.size i && Hg md ops z r (listed.setIfInBounds i true)
 |.step i 1 r,listed=>(Region.ready md ops listed).contains i && Region.free md ops listed i && !decide (i=z) && Hg md ops z r (listed.setIfInBounds i true)
 |.step i 2 r,listed=>decide (Region.ready md ops listed=[i]) && !decide (i=z) && Hg md ops z r (listed.setIfInBounds i true)
 |.step i (_+3) r,listed=>decide (Region.ready md ops listed=[i]) && decide (i=z) && Hg md ops z r (listed.setIfInBounds i true)
 |.fork i j a b,listed=>decide (Region.ready md ops listed=[i,j]) && !decide (i=z) && !decide (j=z) && decide (a.len=b.len) && Hg md ops z a (listed.setIfInBounds i true) && Hg md ops z b (listed.setIfInBounds j true)
def lN (P:Program) (Q:Exit->Act->World->Prop) (S:World->Prop) (l:List Oper):tK->Act->World->Prop
 |.nil,a,w=>Q .normal a w
 |.step i 0 r,a,w=>∃o,l[i]?=some o/\o.guard=none/\∃v,(∀W,S W->(execOp a.eval o).run P W = .ok (.value v) W)/\lN P Q S l r (a.put o.dst v) w
 |.step i 1 r,a,w=>∃o,l[i]?=some o/\o.guard=none/\∃v,(∀W,(execOp a.eval o).run P W = .ok (.value v) W)/\lN P Q S l r (a.put o.dst v) w
 |.step i 2 r,a,w=>∃o,l[i]?=some o/\o.guard=none/\∀K:Act->World->Prop,(∀a' w',S w'->lN P Q S l r a' w'->K a' w')->Oper.wp P o a w K Q
 |.step i (_+3) r,a,w=>∃o,l[i]?=some o/\o.guard=none/\∀K:Act->World->Prop,(∀a' w',lN P Q S l r a' w'->K a' w')->Oper.wp P o a w K Q
 |.fork i j ra rb,a,w=>(∃o,l[i]?=some o/\o.guard=none/\∀K:Act->World->Prop,(∀a' w',S w'->lN P Q S l ra a' w'->K a' w')->Oper.wp P o a w K Q) /\
   ∃o,l[j]?=some o/\o.guard=none/\∀K:Act->World->Prop,(∀a' w',S w'->lN P Q S l rb a' w'->K a' w')->Oper.wp P o a w K Q
theorem nH (fh:Region.noSelect ops=true) (hQ:∀c a d v w,Q (.panic c) (a.put d v) w->Q (.panic c) a w) :
  ∀(s:tK) (listed:Array Bool) (a:Act) (w:World),mX md ops listed->Hg md ops z s listed=true->Till S z listed w->lN P Q S ops.toList s a w->uh P md ops Q S z s.len listed a w
 |.nil,listed,a,w,_,hB,_,h=>⟨kD hB,h⟩
 |.step i 0 r,listed,a,w,inv,hB,hS,h=>by
  obtain⟨hB,h5⟩:=dQ.1 hB;obtain⟨hB,h4⟩:=dQ.1 hB;obtain⟨hB,h3⟩:=dQ.1 hB;obtain⟨h1,h2⟩:=dQ.1 hB;have hr:i∈Region.ready md ops listed:=by simpa using h1
  have ou:i≠z:=by simpa using h3
  obtain⟨oi,hoi,hg,v,hy,hl⟩:=h;have hi:ops[i]?=some oi:=by simpa using hoi
  exact fQ (S':=S) hi (Dp fh) (fun c a w=>hQ c a _ _ w) ou (.inl ⟨_,h4,fun _ h=>h⟩) r.len listed a w inv (Et hi h2) hr (.inl ⟨bM hg _,hy⟩) hS
   (nH fh hQ r _ _ _ (inv.set hr) h5 (iD hS ou) hl)
 |.step i 1 r,listed,a,w,inv,hB,hS,h=>by
  obtain⟨hB,h5⟩:=dQ.1 hB;obtain⟨hB,h3⟩:=dQ.1 hB;obtain⟨h1,h2⟩:=dQ.1 hB;have hr:i∈Region.ready md ops listed:=by simpa using h1
  have ou:i≠z:=by simpa using h3
  obtain⟨oi,hoi,hg,v,hy,hl⟩:=h;have hi:ops[i]?=some oi:=by simpa using hoi
  exact fQ (S':=fun _=>True) hi (Dp fh) (fun c a w=>hQ c a _ _ w) ou (.inr fun _=>trivial) r.len listed a w inv (Et hi h2) hr (.inl ⟨bM hg _,fun w _=>hy w⟩) hS
   (nH fh hQ r _ _ _ (inv.set hr) h5 (iD hS ou) hl)
 |.step i 2 r,listed,a,w,inv,hB,hS,h=>by
  obtain⟨hB,h5⟩:=dQ.1 hB;obtain⟨h1,h3⟩:=dQ.1 hB;have hr:=kD h1;have ou:i≠z:=by simpa using h3
  have hm:i∈Region.ready md ops listed:=by rw [hr];simp
  obtain⟨oi,hoi,hg,hl⟩:=h;have hi:ops[i]?=some oi:=by simpa using hoi
  refine⟨fun h0=>(by rw [h0]at hm;cases hm),fun j hj=>?_⟩;rw [hr]at hj;obtain rfl:j=i:=oY.1 hj;refine wpOp_step hi fun K' hK'=>?_;rw [aw (bM hg _)];exact hl K' fun a' w' hs hh=>hK' a' w' ⟨fun _=>hs,nH fh hQ r _ _ _ (inv.set hm) h5 (fun _=>hs) hh⟩
 |.step i (k+3) r,listed,a,w,inv,hB,hS,h=>by
  obtain⟨hB,h5⟩:=dQ.1 hB;obtain⟨h1,h3⟩:=dQ.1 hB;have hr:=kD h1;have ou:=kD h3;have hm:i∈Region.ready md ops listed:=by rw [hr];simp
  obtain⟨oi,hoi,hg,hl⟩:=h;have hi:ops[i]?=some oi:=by simpa using hoi
  refine⟨fun h0=>(by rw [h0]at hm;cases hm),fun j hj=>?_⟩;rw [hr]at hj;obtain rfl:j=i:=oY.1 hj;refine wpOp_step hi fun K' hK'=>?_;rw [aw (bM hg _)];have ht:∀w',Till S z (listed.setIfInBounds j true) w':=fun w' hz=>by
   rw [<-ou]at hz;have hlt:j<listed.size:=by rw [inv.1];exact(eJ.1 hi).1
   simp [hlt]at hz
  exact hl K' fun a' w' hh=>hK' a' w' ⟨ht w',nH fh hQ r _ _ _ (inv.set hm) h5 (ht w') hh⟩
 |.fork i j ra rb,listed,a,w,inv,hB,hS,h=>by
  obtain⟨hB,h7⟩:=dQ.1 hB;obtain⟨hB,h6⟩:=dQ.1 hB;obtain⟨hB,h5⟩:=dQ.1 hB;obtain⟨hB,h4⟩:=dQ.1 hB;obtain⟨h1,h3⟩:=dQ.1 hB;have hr:=kD h1;have hl5:=kD h5;have hmi:i∈Region.ready md ops listed:=by rw [hr];simp
  have hmj:j∈Region.ready md ops listed:=by rw [hr];simp
  obtain⟨⟨oi,hoi,hg,hl⟩,oj,I3,hgj,nW⟩:=h;have hi:ops[i]?=some oi:=by simpa using hoi
  have hj':ops[j]?=some oj:=by simpa using I3
  refine⟨fun h0=>(by rw [h0]at hmi;cases hmi),fun k hk=>?_⟩;rw [hr]at hk;rcases fy.1 hk with rfl|hk
  ·refine wpOp_step hi fun K' hK'=>?_;rw [aw (bM hg _)];exact hl K' fun a' w' hs hh=>hK' a' w' ⟨fun _=>hs,nH fh hQ ra _ _ _ (inv.set hmi) h6 (fun _=>hs) hh⟩
  ·obtain rfl:k=j:=oY.1 hk;refine wpOp_step hj' fun K' hK'=>?_;rw [aw (bM hgj _)];refine nW K' fun a' w' hs hh=>hK' a' w' ⟨fun _=>hs,?_⟩;have:=nH fh hQ rb _ _ _ (inv.set hmj) h7 (fun _=>hs) hh;rw [<-hl5]at this;exact this
def Xy (md:Region.Mode) (ops:Array Oper) (z:Nat) (s:tK):Bool:=Region.noSelect ops && decide (s.len=ops.size) && Hg md ops z s (Array.replicate ops.size false)
theorem jR {id:Nat} (s:tK) (z:Nat) (S:World->Prop) (hm:P.follows .mixedOrders=true) (hB:Xy .any l.toArray z s=true)
  (hS:S w.drew) (h:lN P (NoPanic Q) S l s a w.drew):(Code.region id l.toArray true).wp P Q a w:=by
 obtain⟨DN,h3⟩:=dQ.1 hB;obtain⟨h1,h2⟩:=dQ.1 DN;refine wp_region_noPanic (wp_region_any hm (kP (S:=S) (z:=z) _ _ _ _ ?_));have:=nH (md:= .any) (ops:=l.toArray) (S:=S) (z:=z) (P:=P) (Q:=NoPanic Q) h1 (fun _ _ _ _ _ h=>h) s (Array.replicate l.toArray.size false) a w.drew
  ⟨bh,fun j oj _ hl=>(by rw [getD_replicate_false]at hl;cases hl)⟩ h3 (fun _=>hS) h
 rw [kD h2]at this;exact this
theorem gq {r:tK} (ho:l[i]?=some o) (hg:o.guard=none) (h:∀K:Act->World->Prop,(∀a' w',S w'->lN P Q S l r a' w'->K a' w')->Oper.wp P o a w K Q):lN P Q S l (.step i 2 r) a w:=⟨o,ho,hg,h⟩
theorem jC {r:tK} (ho:l[i]?=some o) (hg:o.guard=none) (h:∀K:Act->World->Prop,(∀a' w',lN P Q S l r a' w'->K a' w')->Oper.wp P o a w K Q):lN P Q S l (.step i 3 r) a w:=⟨o,ho,hg,h⟩
theorem rZ {j:Nat} {oi oj:Oper} {ra rb:tK} (hoi:l[i]?=some oi) (hgi:oi.guard=none) (I3:l[j]?=some oj) (hgj:oj.guard=none)
  (hi:∀K:Act->World->Prop,(∀a' w',S w'->lN P Q S l ra a' w'->K a' w')->Oper.wp P oi a w K Q) (hj:∀K:Act->World->Prop,(∀a' w',S w'->lN P Q S l rb a' w'->K a' w')->Oper.wp P oj a w K Q):lN P Q S l (.fork i j ra rb) a w:=⟨⟨oi,hoi,hgi,hi⟩,oj,I3,hgj,hj⟩
theorem gZ {r:tK} {v:Value} (hl:lN P Q S l r (a.put o.dst v) w) (ho:l[i]?=some o:=by rfl) (hg:o.guard=none:=by rfl) (h:∀W,(execOp a.eval o).run P W = .ok (.value v) W:=by(intro W;go_simp;(try with_reducible rfl);done)):lN P Q S l (.step i 1 r) a w:=⟨o,ho,hg,v,h,hl⟩
theorem gY {r:tK} {v:Value} (hl:lN P Q S l r (a.put o.dst v) w) (ho:l[i]?=some o:=by rfl) (hg:o.guard=none:=by rfl) (h:∀W,S W->(execOp a.eval o).run P W = .ok (.value v) W:=by(intro W hW;(try dsimp only at hW);go_simp;(try with_reducible rfl);done)):lN P Q S l (.step i 0 r) a w:=⟨o,ho,hg,v,h,hl⟩
theorem kT (h:Q .normal a w):lN P (NoPanic Q) S l .nil a w:=h
end
end
section
variable {a:Act} {ops:Array Oper} {b:Bool} {j d n:Nat} {o oj:Oper}
section
variable {P:Program} {ops:Array Oper} {Q:Exit->Act->World->Prop} {md:Region.Mode} {S:World->Prop} {z:Nat}
def dG (P:Program) (ops:Array Oper) (Q:Exit->Act->World->Prop) (S:World->Prop):List (Oper×Nat)->Act->World->Prop
 |[],a,w=>Q .normal a w
 |(o,0)::l,a,w=>(Region.wanted o (yielded ops a.tmps)=true/\∃v,(∀W,S W->(execOp a.eval o).run P W = .ok (.value v) W)/\dG P ops Q S l (a.put o.dst v) w)\/(Region.wanted o (yielded ops a.tmps)=false/\dG P ops Q S l (a.put o.dst undef) w)
 |(o,1)::l,a,w=>(Region.wanted o (yielded ops a.tmps)=true/\∃v,(∀W,(execOp a.eval o).run P W = .ok (.value v) W)/\dG P ops Q S l (a.put o.dst v) w)\/(Region.wanted o (yielded ops a.tmps)=false/\dG P ops Q S l (a.put o.dst undef) w)
 |(o,2)::l,a,w=>(Region.wanted o (yielded ops a.tmps)=true/\∀K:Act->World->Prop,(∀a' w',S w'->dG P ops Q S l a' w'->K a' w')->Oper.wp P o a w K Q)\/(Region.wanted o (yielded ops a.tmps)=false/\dG P ops Q S l (a.put o.dst undef) w)
 |(o,_+3)::l,a,w=>(Region.wanted o (yielded ops a.tmps)=true/\∀K:Act->World->Prop,(∀a' w',dG P ops Q S l a' w'->K a' w')->Oper.wp P o a w K Q)\/(Region.wanted o (yielded ops a.tmps)=false/\dG P ops Q S l (a.put o.dst undef) w)
theorem gI (fh:Region.noSelect ops=true) (hQ:∀c a d v w,Q (.panic c) (a.put d v) w->Q (.panic c) a w) :
  ∀(s:List (Nat×Nat)) (listed:Array Bool) (a:Act) (w:World),mX md ops listed->wW md ops z s listed=true->Till S z listed w->dG P ops Q S (bV ops.toList s) a w->uh P md ops Q S z s listed a w
 |[],listed,a,w,_,hB,_,h=>⟨kD hB,h⟩
 |(i,0)::r,listed,a,w,inv,hB,hS,h=>by
  obtain⟨hB,h5⟩:=dQ.1 hB;obtain⟨hB,h4⟩:=dQ.1 hB;obtain⟨hB,h3⟩:=dQ.1 hB;obtain⟨h1,h2⟩:=dQ.1 hB;have hr:i∈Region.ready md ops listed:=by simpa using h1
  have ou:i≠z:=by simpa using h3
  obtain⟨_,oi,hi,_⟩:=mem_ready.1 hr;have e:bV ops.toList ((i,0)::r)=(oi,0)::bV ops.toList r:=by
   have:ops.toList[i]?=some oi:=by simpa using hi
   unfold bV;rw [List.filterMap_cons,this];rfl
  rw [e]at h;rcases h with ⟨hg,v,hy,hl⟩|⟨hg,hl⟩
  ·exact fQ (S':=S) hi (Dp fh) (fun c a w=>hQ c a _ _ w) ou (.inl ⟨_,h4,fun _ h=>h⟩) r listed a w inv (Et hi h2) hr (.inl ⟨hg,hy⟩) hS
    (gI fh hQ r _ _ _ (inv.set hr) h5 (iD hS ou) hl)
  ·exact fQ (S':=S) hi (Dp fh) (fun c a w=>hQ c a _ _ w) ou (.inl ⟨_,h4,fun _ h=>h⟩) r listed a w inv (Et hi h2) hr (.inr ⟨hg,rfl⟩) hS
    (gI fh hQ r _ _ _ (inv.set hr) h5 (iD hS ou) hl)
 |(i,1)::r,listed,a,w,inv,hB,hS,h=>by
  obtain⟨hB,h5⟩:=dQ.1 hB;obtain⟨hB,h3⟩:=dQ.1 hB;obtain⟨h1,h2⟩:=dQ.1 hB;have hr:i∈Region.ready md ops listed:=by simpa using h1
  have ou:i≠z:=by simpa using h3
  obtain⟨_,oi,hi,_⟩:=mem_ready.1 hr;have e:bV ops.toList ((i,1)::r)=(oi,1)::bV ops.toList r:=by
   have:ops.toList[i]?=some oi:=by simpa using hi
   unfold bV;rw [List.filterMap_cons,this];rfl
  rw [e]at h;rcases h with ⟨hg,v,hy,hl⟩|⟨hg,hl⟩
  ·exact fQ (S':=fun _=>True) hi (Dp fh) (fun c a w=>hQ c a _ _ w) ou (.inr fun _=>trivial) r listed a w inv (Et hi h2) hr (.inl ⟨hg,fun w _=>hy w⟩) hS
    (gI fh hQ r _ _ _ (inv.set hr) h5 (iD hS ou) hl)
  ·exact fQ (S':=fun _=>True) hi (Dp fh) (fun c a w=>hQ c a _ _ w) ou (.inr fun _=>trivial) r listed a w inv (Et hi h2) hr (.inr ⟨hg,rfl⟩) hS
    (gI fh hQ r _ _ _ (inv.set hr) h5 (iD hS ou) hl)
 |(i,2)::r,listed,a,w,inv,hB,hS,h=>by
  obtain⟨hB,h5⟩:=dQ.1 hB;obtain⟨h1,h3⟩:=dQ.1 hB;have hr:=kD h1;have ou:i≠z:=by simpa using h3
  have hm:i∈Region.ready md ops listed:=by rw [hr];simp
  obtain⟨_,oi,hi,_⟩:=mem_ready.1 hm;have e:bV ops.toList ((i,2)::r)=(oi,2)::bV ops.toList r:=by
   have:ops.toList[i]?=some oi:=by simpa using hi
   unfold bV;rw [List.filterMap_cons,this];rfl
  rw [e]at h;refine⟨fun h0=>(by rw [h0]at hm;cases hm),fun j hj=>?_⟩;rw [hr]at hj;obtain rfl:j=i:=oY.1 hj;refine wpOp_step hi fun K' hK'=>?_;rcases h with ⟨hg,hl⟩|⟨hg,hl⟩
  ·rw [aw hg];exact hl K' fun a' w' hs hh=>hK' a' w' ⟨fun _=>hs,gI fh hQ r _ _ _ (inv.set hm) h5 (fun _=>hs) hh⟩
  ·rw [ar (by simp [hg])];exact hK' _ _ ⟨iD hS ou,gI fh hQ r _ _ _ (inv.set hm) h5 (iD hS ou) hl⟩
 |(i,k+3)::r,listed,a,w,inv,hB,hS,h=>by
  obtain⟨hB,h5⟩:=dQ.1 hB;obtain⟨h1,h3⟩:=dQ.1 hB;have hr:=kD h1;have ou:=kD h3;have hm:i∈Region.ready md ops listed:=by rw [hr];simp
  obtain⟨_,oi,hi,_⟩:=mem_ready.1 hm;have e:bV ops.toList ((i,k+3)::r)=(oi,k+3)::bV ops.toList r:=by
   have:ops.toList[i]?=some oi:=by simpa using hi
   unfold bV;rw [List.filterMap_cons,this];rfl
  rw [e]at h;refine⟨fun h0=>(by rw [h0]at hm;cases hm),fun j hj=>?_⟩;rw [hr]at hj;obtain rfl:j=i:=oY.1 hj;have ht:∀w',Till S z (listed.setIfInBounds j true) w':=fun w' hz=>by
   rw [<-ou]at hz;have hlt:j<listed.size:=by rw [inv.1];exact(eJ.1 hi).1
   simp [hlt]at hz
  refine wpOp_step hi fun K' hK'=>?_;rcases h with ⟨hg,hl⟩|⟨hg,hl⟩
  ·rw [aw hg];exact hl K' fun a' w' hh=>hK' a' w' ⟨ht w',gI fh hQ r _ _ _ (inv.set hm) h5 (ht w') hh⟩
  ·rw [ar (by simp [hg])];exact hK' _ _ ⟨ht w,gI fh hQ r _ _ _ (inv.set hm) h5 (ht w) hl⟩
theorem eA {id:Nat} {w:World} {l:List Oper} (s:List (Nat×Nat)) (z:Nat) (S:World->Prop) (hm:P.follows .mixedOrders=true) (hB:Qz .any l.toArray z s=true)
  (hS:S w.drew) (h:dG P l.toArray (NoPanic Q) S (bV l s) a w.drew):(Code.region id l.toArray true).wp P Q a w:=by
 obtain⟨DN,h3⟩:=dQ.1 hB;obtain⟨h1,h2⟩:=dQ.1 DN;refine wp_region_noPanic (wp_region_any hm (kP (S:=S) (z:=z) _ _ _ _ ?_));have:=gI (md:= .any) (ops:=l.toArray) (S:=S) (z:=z) (P:=P) (Q:=NoPanic Q) h1 (fun _ _ _ _ _ h=>h) s (Array.replicate l.toArray.size false) a w.drew
  ⟨bh,fun j oj _ hl=>(by rw [getD_replicate_false]at hl;cases hl)⟩ h3 (fun _=>hS) h
 rw [kD h2]at this;exact this
theorem xJ {want:Bool} (hg:o.guard=some (j,want)) (hj:ops[j]?=some oj) (hd:oj.dst=some d) (ht:a.tmps[d]?=some (.bool b)):Region.wanted o (yielded ops a.tmps)=(b == want):=by
 simp [Region.wanted,yielded,hg,hj,hd,ht]
theorem eK (hg:o.guard=some (j,b)) (hj:ops[j]?=some oj) (hd:oj.dst=some d) (ht:a.tmps[d]?=some (.bool b)):Region.wanted o (yielded ops a.tmps)=true:=by
 rw [xJ hg hj hd ht];simp
theorem N9 (hg:o.guard=some (j,b)) (hj:ops[j]?=some oj) (hd:oj.dst=some d) (ht:a.tmps[d]?=some (.bool !b)):Region.wanted o (yielded ops a.tmps)=false:=by
 rw [xJ hg hj hd ht];cases b <;> rfl
variable {o:Oper} {l:List (Oper×Nat)} {a:Act} {w:World}
theorem qQ (hg:Region.wanted o (yielded ops a.tmps)=true) (h:∀K:Act->World->Prop,(∀a' w',S w'->dG P ops Q S l a' w'->K a' w')->Oper.wp P o a w K Q):dG P ops Q S ((o,2)::l) a w:= .inl ⟨hg,h⟩
theorem jk (hg:Region.wanted o (yielded ops a.tmps)=true) (h:∀K:Act->World->Prop,(∀a' w',dG P ops Q S l a' w'->K a' w')->Oper.wp P o a w K Q):dG P ops Q S ((o,3)::l) a w:= .inl ⟨hg,h⟩
theorem Hf (hg:Region.wanted o (yielded ops a.tmps)=false) (hl:dG P ops Q S l (a.put o.dst undef) w):dG P ops Q S ((o,n)::l) a w:=
 match n with
 |0=> .inr ⟨hg,hl⟩
 |1=> .inr ⟨hg,hl⟩
 |2=> .inr ⟨hg,hl⟩
 |_+3=> .inr ⟨hg,hl⟩
theorem lh {v:Value} (hl:dG P ops Q S l (a.put o.dst v) w) (hg:Region.wanted o (yielded ops a.tmps)=true:=by first|exact bM rfl _|exact eK rfl rfl rfl rfl) (h:∀W,(execOp a.eval o).run P W = .ok (.value v) W:=by(intro W;go_simp;(try with_reducible rfl);done)):dG P ops Q S ((o,1)::l) a w:= .inl ⟨hg,v,h,hl⟩
theorem lg {v:Value} (hl:dG P ops Q S l (a.put o.dst v) w) (hg:Region.wanted o (yielded ops a.tmps)=true:=by first|exact bM rfl _|exact eK rfl rfl rfl rfl) (h:∀W,S W->(execOp a.eval o).run P W = .ok (.value v) W:=by(intro W hW;(try dsimp only at hW);go_simp;(try with_reducible rfl);done)):dG P ops Q S ((o,0)::l) a w:= .inl ⟨hg,v,h,hl⟩
theorem kZ (hl:dG P ops Q S l (a.put o.dst undef) w) (hg:Region.wanted o (yielded ops a.tmps)=false:=by exact N9 rfl rfl rfl rfl):dG P ops Q S ((o,n)::l) a w:=Hf hg hl
theorem jU (h:Q .normal a w):dG P ops (NoPanic Q) S [] a w:=h
end
end
section
variable {P:Program} {ops:Array Oper} {Q:Exit->Act->World->Prop} {md:Region.Mode} {S:World->Prop} {z:Nat}
def vz (md:Region.Mode) (ops:Array Oper) (z:Nat):List (Nat×Nat)->Array Bool->Bool
 |[],listed=>decide (Region.ready md ops listed=[])
 |(i,0)::r,listed=>(Region.ready md ops listed).contains i && Region.free md ops listed i && !decide (i=z) && EO md ops z ops.size i && vz md ops z r (listed.setIfInBounds i true)
 |(i,1)::r,listed=>(Region.ready md ops listed).contains i && Region.free md ops listed i && !decide (i=z) && vz md ops z r (listed.setIfInBounds i true)
 |(i,2)::r,listed=>decide (Region.ready md ops listed=[i]) && !decide (i=z) && vz md ops z r (listed.setIfInBounds i true)
 |(i,_+3)::r,listed=>decide (Region.ready md ops listed=[i]) && (decide (i=z) || listed.getD z false) && vz md ops z r (listed.setIfInBounds i true)
theorem mK (fh:Region.noSelect ops=true) (hQ:∀c a d v w,Q (.panic c) (a.put d v) w->Q (.panic c) a w) :
  ∀(s:List (Nat×Nat)) (listed:Array Bool) (a:Act) (w:World),mX md ops listed->vz md ops z s listed=true->Till S z listed w->iB P Q S (bV ops.toList s) a w->uh P md ops Q S z s listed a w
 |[],listed,a,w,_,hB,_,h=>⟨kD hB,h⟩
 |(i,0)::r,listed,a,w,inv,hB,hS,h=>by
  obtain⟨hB,h5⟩:=dQ.1 hB;obtain⟨hB,h4⟩:=dQ.1 hB;obtain⟨hB,h3⟩:=dQ.1 hB;obtain⟨h1,h2⟩:=dQ.1 hB;have hr:i∈Region.ready md ops listed:=by simpa using h1
  have ou:i≠z:=by simpa using h3
  obtain⟨_,oi,hi,_⟩:=mem_ready.1 hr;have e:bV ops.toList ((i,0)::r)=(oi,0)::bV ops.toList r:=by
   have:ops.toList[i]?=some oi:=by simpa using hi
   unfold bV;rw [List.filterMap_cons,this];rfl
  rw [e]at h;obtain⟨hg,v,hy,hl⟩:=h;exact fQ (S':=S) hi (Dp fh) (fun c a w=>hQ c a _ _ w) ou (.inl ⟨_,h4,fun _ h=>h⟩) r listed a w inv (Et hi h2) hr (.inl ⟨bM hg _,hy⟩) hS
   (mK fh hQ r _ _ _ (inv.set hr) h5 (iD hS ou) hl)
 |(i,1)::r,listed,a,w,inv,hB,hS,h=>by
  obtain⟨hB,h5⟩:=dQ.1 hB;obtain⟨hB,h3⟩:=dQ.1 hB;obtain⟨h1,h2⟩:=dQ.1 hB;have hr:i∈Region.ready md ops listed:=by simpa using h1
  have ou:i≠z:=by simpa using h3
  obtain⟨_,oi,hi,_⟩:=mem_ready.1 hr;have e:bV ops.toList ((i,1)::r)=(oi,1)::bV ops.toList r:=by
   have:ops.toList[i]?=some oi:=by simpa using hi
   unfold bV;rw [List.filterMap_cons,this];rfl
  rw [e]at h;obtain⟨hg,v,hy,hl⟩:=h;exact fQ (S':=fun _=>True) hi (Dp fh) (fun c a w=>hQ c a _ _ w) ou (.inr fun _=>trivial) r listed a w inv (Et hi h2) hr (.inl ⟨bM hg _,fun w _=>hy w⟩) hS
   (mK fh hQ r _ _ _ (inv.set hr) h5 (iD hS ou) hl)
 |(i,2)::r,listed,a,w,inv,hB,hS,h=>by
  obtain⟨hB,h5⟩:=dQ.1 hB;obtain⟨h1,h3⟩:=dQ.1 hB;have hr:=kD h1;have ou:i≠z:=by simpa using h3
  have hm:i∈Region.ready md ops listed:=by rw [hr];simp
  obtain⟨_,oi,hi,_⟩:=mem_ready.1 hm;have e:bV ops.toList ((i,2)::r)=(oi,2)::bV ops.toList r:=by
   have:ops.toList[i]?=some oi:=by simpa using hi
   unfold bV;rw [List.filterMap_cons,this];rfl
  rw [e]at h;obtain⟨hg,hl⟩:=h;refine⟨fun h0=>(by rw [h0]at hm;cases hm),fun j hj=>?_⟩;rw [hr]at hj;obtain rfl:j=i:=oY.1 hj;refine wpOp_step hi fun K' hK'=>?_;rw [aw (bM hg _)];exact hl K' fun a' w' hs hh=>hK' a' w' ⟨fun _=>hs,mK fh hQ r _ _ _ (inv.set hm) h5 (fun _=>hs) hh⟩
 |(i,k+3)::r,listed,a,w,inv,hB,hS,h=>by
  obtain⟨hB,h5⟩:=dQ.1 hB;obtain⟨h1,h3⟩:=dQ.1 hB;have hr:=kD h1;have hm:i∈Region.ready md ops listed:=by rw [hr];simp
  obtain⟨_,oi,hi,_⟩:=mem_ready.1 hm;have e:bV ops.toList ((i,k+3)::r)=(oi,k+3)::bV ops.toList r:=by
   have:ops.toList[i]?=some oi:=by simpa using hi
   unfold bV;rw [List.filterMap_cons,this];rfl
  rw [e]at h;obtain⟨hg,hl⟩:=h;refine⟨fun h0=>(by rw [h0]at hm;cases hm),fun j hj=>?_⟩;rw [hr]at hj;obtain rfl:j=i:=oY.1 hj;refine wpOp_step hi fun K' hK'=>?_;rw [aw (bM hg _)];have ht:∀w',Till S z (listed.setIfInBounds j true) w':=fun w' hz=>by
   exfalso
   rcases Bool.or_eq_true_iff.1 h3 with h3|h3
   ·have ou:=kD h3;rw [<-ou]at hz;have hlt:j<listed.size:=(by rw [inv.1];exact(eJ.1 hi).1);simp [hlt]at hz
   ·have h6:=getD_set_true (i:=j) h3;rw [getD_both hz]at h6
    cases h6
  exact hl K' fun a' w' hh=>hK' a' w' ⟨ht w',mK fh hQ r _ _ _ (inv.set hm) h5 (ht w') hh⟩
def Uu (md:Region.Mode) (ops:Array Oper) (z:Nat) (s:List (Nat×Nat)):Bool:=Region.noSelect ops && decide (s=ops.size) && vz md ops z s (Array.replicate ops.size false)
theorem fD {id:Nat} {a:Act} {w:World} {l:List Oper} (s:List (Nat×Nat)) (z:Nat) (S:World->Prop) (hm:P.follows .mixedOrders=true) (hB:Uu .any l.toArray z s=true)
  (hS:S w.drew) (h:iB P (NoPanic Q) S (bV l s) a w.drew):(Code.region id l.toArray true).wp P Q a w:=by
 obtain⟨DN,h3⟩:=dQ.1 hB;obtain⟨h1,h2⟩:=dQ.1 DN;refine wp_region_noPanic (wp_region_any hm (kP (S:=S) (z:=z) _ _ _ _ ?_));have:=mK (md:= .any) (ops:=l.toArray) (S:=S) (z:=z) (P:=P) (Q:=NoPanic Q) h1 (fun _ _ _ _ _ h=>h) s (Array.replicate l.toArray.size false) a w.drew
  ⟨bh,fun j oj _ hl=>(by rw [getD_replicate_false]at hl;cases hl)⟩ h3 (fun _=>hS) h
 rw [kD h2]at this;exact this
end
section
variable {P:Program} {ops:Array Oper} {md:Region.Mode} {w:World}
def Wj (md:Region.Mode) (ops:Array Oper) (n:Nat):Bool:=
 (List.range ops.size).all fun t=>decide (t<=n) || (List.range t).any fun u=>decide (n<=u) && Region.waitsFor md ops t u
theorem Lp {n:Nat} {listed:Array Bool} (hs:Region.sinkB md ops n=true) (hl:Wj md ops n=true) (inv:HeadInv md ops n listed) :
  ∀(d i:Nat),n-i=d->i<n->listed.getD i true=false->∀t,n<=t->t∉Region.ready md ops listed:=by
 intro d
 induction d using Nat.strongRecOn with
 |_ d ih=>
  intro i hd hi hun t ht hr;obtain⟨_,ot,hot,hall⟩:=mem_ready.1 hr;have ag4:t<ops.size:=(eJ.1 hot).1;rcases mA n t with htn|htn
  ·have h1:=rH.1 hl t (List.mem_range.2 ag4);rcases Bool.or_eq_true_iff.1 h1 with h1|h1
   ·have:=kD h1;omega
   ·obtain⟨u,hu,h2⟩:=List.any_eq_true.1 h1;obtain⟨h3,h4⟩:=dQ.1 h2;have hut:=List.mem_range.1 hu;have hnu:=kD h3;obtain⟨o',ho',e,he,hb,RA⟩:=Region.waitsFor_spec h4;obtain rfl:o'=ot:=dh (ho'.symm.trans hot);have h5:=hall e he hb;rw [RA,getD_both (inv.tail u hnu ai)]at h5
    cases h5
  ·obtain rfl:t=n:=ai;obtain⟨j,hj,h2⟩:=List.any_eq_true.1 (rH.1 hs i (List.mem_range.2 hi));obtain⟨h3,h4⟩:=dQ.1 h2;have hij:=kD h3;have hjr:=List.mem_range.1 hj;obtain⟨oj,I3,e,he,hb,RA⟩:=Region.waitsFor_spec h4;rcases mA j t with hjt|hjt
   ·cases nW:listed.getD j false with
    |true=>
     have h5:=inv.closed j oj I3 nW e he hb;rw [RA,getD_both hun]at h5
     cases h5
    |false=>exact ih (t-j) ai j rfl hjt (getD_in (by rw [inv.size];omega) nW) t aO hr
   ·obtain rfl:j=t:=ai;obtain rfl:oj=ot:=dh (I3.symm.trans hot);have h5:=hall e he hb;rw [RA,getD_both hun]at h5
    cases h5
theorem LW {n i:Nat} {oi:Oper} {v:Value} {L:Array Bool->Act->Prop} (hi:ops[i]?=some oi) (fh:∀(j:Nat) (o:Oper) cs b,ops[j]?=some o->o.op ≠ .select cs b)
  (hw:∀listed,HeadInv md ops n listed->∀i,i<n->listed.getD i true=false->∀t,n<=t->t∉Region.ready md ops listed) (hin:i<n)
  (hdone:∀listed a,L listed a->∀j∈Region.ready md ops listed,n<=j) (f:Nat) :
  ∀(listed:Array Bool) (a:Act),HeadInv md ops n listed ->
   (∀j oj,ops[j]?=some oj->j≠i->listed.getD j true=false->(∀e∈oj.after,Region.binds md e=true->e.on≠i)->oi.apart ops oj=true) ->
   i∈Region.ready md ops listed->YieldsAt P ops w oi v a ->
   wpAnyL P md ops w n L f (listed.setIfInBounds i true) (a.put oi.dst v)->wpAnyL P md ops w n L (f+1) listed a:=by
 induction f with
 |zero=>
  intro listed a inv _ hr hy H;refine⟨List.ne_nil_of_mem hr,fun j hj=>?_⟩;have hjn:j<n:=Nat.lt_of_not_le fun h=>hw listed inv i hin (mem_ready.1 hr).1 j h hj;refine⟨hjn,?_⟩;by_cases GQ:j=i
  ·subst GQ;exact hy.stOp hi H
  ·exact absurd (hdone _ _ H j (ready_mono hj GQ)) ai
 |succ f ih=>
  intro listed a inv hfree hr hy H;refine⟨List.ne_nil_of_mem hr,fun j hj=>?_⟩;have hjn:j<n:=Nat.lt_of_not_le fun h=>hw listed inv i hin (mem_ready.1 hr).1 j h hj;refine⟨hjn,?_⟩;by_cases GQ:j=i
  ·subst GQ;exact hy.stOp hi H
  ·obtain⟨RO,oj,I3,hall⟩:=mem_ready.1 hj;have RF:∀e∈oj.after,Region.binds md e=true->e.on≠i:=fun e he hb heq=>by
    have h1:=hall e he hb;rw [heq,getD_both (mem_ready.1 hr).1]at h1
    cases h1
   have hun:∀k,(listed.setIfInBounds j true).getD k true=false->listed.getD k true=false:=fun k hk=>by
    by_cases hjk:j=k
    ·subst hjk;exact RO
    ·rwa [getD_set_ne true hjk]at hk
   have h2:=stOp_put I3 (hfree j oj I3 GQ RO RF) (fun cs b=>fh i oi cs b hi) (fun cs b=>fh j oj cs b I3) hy (H.2 j (ready_mono hj GQ)).2;refine stOp_mono (fun a' h3=>ih (listed.setIfInBounds j true) a' (inv.set hj hjn) (fun k ok hk RL hku hno=>hfree k ok hk RL (hun k hku) hno) (ready_mono hr (Ne.symm GQ)) h3.1 ?_) h2;rw [Array.setIfInBounds_comm _ _ GQ];exact h3.2
def zr (md:Region.Mode) (ops:Array Oper) (g:Nat):Nat->Nat->Array Bool->Bool
 |0,k,listed=>decide (Region.ready md ops listed=[k]) && Region.lexFrom md ops g (k+1) (listed.setIfInBounds k true)
 |f+1,k,listed=>(Region.ready md ops listed).contains k && Region.free md ops listed k && zr md ops g f (k+1) (listed.setIfInBounds k true)
def XG (md:Region.Mode) (ops:Array Oper) (n:Nat):Bool:=
 Region.noSelect ops && decide (n<ops.size) && Region.sinkB md ops n && Wj md ops n && zr md ops (ops.size-n-1) n 0 (Array.replicate ops.size false)
theorem Ja {n g:Nat} {Lq:Act->Prop} (fh:Region.noSelect ops=true) (hw:∀listed,HeadInv md ops n listed->∀i,i<n->listed.getD i true=false->∀t,n<=t->t∉Region.ready md ops listed) :
  ∀(l:List Oper) (k:Nat) (listed:Array Bool) (a:Act),(∀j,j<l.length->l[j]?=ops[k+j]?)->k+l=n->HeadInv md ops n listed ->
  zr md ops g l k listed=true->wpStill P ops w Lq l a ->
  wpAnyL P md ops w n (fun listed' a'=>(Region.ready md ops listed'=[n]/\Region.lexFrom md ops g (n+1) (listed'.setIfInBounds n true)=true)/\Lq a') l listed a
 |[],k,listed,a,_,hk,_,hB,h=>by
  obtain rfl:k=n:=by simpa using hk
  obtain⟨h1,h2⟩:=dQ.1 hB;exact⟨⟨kD h1,h2⟩,h⟩
 |o::l,k,listed,a,hl,hk,inv,hB,h=>by
  have h0:ops[k]?=some o:=by simpa using (hl 0 bh).symm
  obtain⟨DN,hB'⟩:=dQ.1 hB;obtain⟨hr,hf⟩:=dQ.1 DN;have hkn:k<n:=by rw [gD]at hk;omega
  have hr':k∈Region.ready md ops listed:=by simpa using hr
  have hst:stOp P ops w k (wpStill P ops w Lq l) a:=by unfold stOp;simp only [h0];exact h
  obtain⟨v,hy,hK⟩:=yieldsAt_of_stOp h0 hst;exact LW h0 (Dp fh) hw hkn (fun listed' a' hL j hj=>by rw [hL.1.1]at hj;exact Nat.le_of_eq (oY.1 hj).symm) l listed a inv (Et h0 hf) hr' hy
   (Ja fh hw l (k+1) _ _ (fun j hj=>by have:=hl (j+1) fk;simpa [Nat.add_assoc,Nat.add_comm 1 j] using this) (by rw [gD]at hk;omega) (inv.set hr' hkn) hB' hK)
theorem iw {id:Nat} {Q:Exit->Act->World->Prop} {a:Act} {l:List Oper} (n:Nat) (o:Oper) (ho:l[n]?=some o) (hm:P.follows .mixedOrders=true) (hB:XG .any l.toArray n=true)
  (h:wpStill P l.toArray w.drew (fun a'=>∀K:Act->World->Prop,(∀a1 w1,wpStill P l.toArray w1 (fun a2=>Q .normal a2 w1) (l.drop (n+1)) a1->K a1 w1)->if Region.wanted o (yielded l.toArray a'.tmps)=true then Oper.wp P o a' w.drew K Q else K (a'.put o.dst undef) w.drew) (l.take n) a):(Code.region id l.toArray true).wp P Q a w:=by
 obtain⟨DN,agw⟩:=dQ.1 hB;obtain⟨Y4,abX⟩:=dQ.1 DN;obtain⟨hB3,hs⟩:=dQ.1 Y4;obtain⟨fh,hn⟩:=dQ.1 hB3;have hn':n<l:=by simpa using kD hn
 have htl:(l.take n).length=n:=by simp;omega
 have afL:HeadInv .any l.toArray n (Array.replicate l.toArray.size false):=
  ⟨bh,fun j oj _ hl=>(by rw [getD_replicate_false]at hl;cases hl),fun t _ ht=>getD_in (by simpa using ht) (getD_replicate_false _ _)⟩
 have H:=Ja (md:= .any) (g:=l.toArray.size-n-1) fh (fun listed inv i hi hun=>Lp hs abX inv _ i rfl hi hun) (l.take n) 0 _ a (fun j hj=>by
  have hj':j<n:=by rw [htl]at hj;exact hj
  simp [hj']) (by simpa using htl) afL (by rw [htl];exact agw) h
 refine wp_region_any hm ?_;have:=wpAny_of_head (Q':=Q) (g:=(l.toArray.size-n-1)+1) (fun listed a' hL=>by
  obtain⟨⟨hr,hx⟩,hq⟩:=hL;refine⟨fun h0=>(by rw [hr]at h0;cases h0),fun i hi=>?_⟩;rw [hr]at hi;obtain rfl:i=n:=oY.1 hi;have CT:(l.drop (i+1)).length=l.toArray.size-i-1:=by simp;omega
  refine wpOp_step (by simpa using ho) fun K' hK'=>hq K' fun a1 w1 h1=>hK' a1 w1 (wpAny_of_still (Q:=fun a2=>Q .normal a2 w1) (fun _ h=>h) _ _ _ ?_);have:=wpAnyS_lex (md:= .any) fh (l.drop (i+1)) (i+1) (listed.setIfInBounds i true) a1 (fun j=>by simp [List.getElem?_drop]) (by rw [CT];exact hx) h1
  rwa [CT]at this) _ _ _ H
 rw [htl,show n+(l.toArray.size-n-1+1)=l.toArray.size by simp;omega]at this;exact this
end
end Go.Proofs.YtmljjfhgciaceaaGreatDoor
