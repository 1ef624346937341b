/- Texts of mine that come as one: Sched Fork SchedG SchedH Pivot. -/
import Derived.Test.YtmljjfhgciaceaaDoorHd
import Derived.StillTailTactics
import Derived.RegionTactic
import Derived.OrdersHeld
import Derived.Deep.RegionHeld3
namespace Go.Proofs.YtmljjfhgciaceaaDoor
open Go
section
variable {a:Act} {listed:Array Bool} {l:List (Oper×Nat)} {i:Nat} {o:Oper} {w:World}
section
variable {P:Program} {ops:Array Oper} {Q:Exit->Act->World->Prop} {md:Region.Mode} {S:World->Prop} {z:Nat}
def Till (S:World->Prop) (z:Nat) (listed:Array Bool) (w:World):Prop:=listed.getD z true=false->S w
def kM (md:Region.Mode) (ops:Array Oper) (listed:Array Bool):Prop:=listed.size=ops.size/\∀j oj,ops[j]?=some oj->listed.getD j false=true->∀e∈oj.after,Region.binds md e=true->listed.getD e.on false=true
theorem kM.set {j:Nat} (h:kM md ops listed) (hj:j∈Region.ready md ops listed):kM md ops (listed.setIfInBounds j true):=by
 refine⟨by simp [h.1],fun k ok hk hl e he hb=>?_⟩
 by_cases hjk:j=k
 ·subst hjk
  obtain⟨_,o,ho,hall⟩:=mem_ready.1 hj
  obtain rfl:o=ok:=dw (ho.symm.trans hk)
  exact getD_set_true (hall e he hb)
 ·rw [getD_set_ne false hjk]at hl
  exact getD_set_true (h.2 k ok hk hl e he hb)
def AZ (md:Region.Mode) (ops:Array Oper) (z:Nat):Nat->Nat->Bool
 |0,_=>false
 |f+1,i=>(List.range ops.size).any fun j=>Region.waitsFor md ops j i && (decide (j=z) || AZ md ops z f j)
theorem AY {listed:Array Bool} (inv:kM md ops listed):∀{f i:Nat},AZ md ops z f i=true->listed.getD i true=false->listed.getD z true=false/\z∉Region.ready md ops listed
 |0,_,h,_=>by cases h
 |f+1,i,h,hu=>by
  obtain⟨j,hj,h2⟩:=List.any_eq_true.1 h
  obtain⟨h3,h4⟩:=dt.1 h2
  obtain⟨oj,D6,e,he,hb,MA⟩:=Region.waitsFor_spec h3
  have hju:listed.getD j true=false:=by
   refine getD_in (by rw [inv.1];exact List.mem_range.1 hj) ?_
   cases nG:listed.getD j false with
   |false=>rfl
   |true=>
    have h5:=inv.2 j oj D6 nG e he hb
    rw [MA,getD_both hu]at h5;cases h5
  rcases Bool.or_eq_true_iff.1 h4 with h4|h4
  ·have U8:=iX h4
   subst U8
   refine⟨hju,fun hr=>?_⟩
   obtain⟨_,o,ho,hall⟩:=mem_ready.1 hr
   obtain rfl:o=oj:=dw (ho.symm.trans D6)
   have h5:=hall e he hb
   rw [MA,getD_both hu]at h5;cases h5
  ·exact AY inv h4 hju
def qF (P:Program) (md:Region.Mode) (ops:Array Oper) (Q:Exit->Act->World->Prop) (S:World->Prop) (z:Nat):Nat->Array Bool->Act->World->Prop
 |0,listed,a,w=>Region.ready md ops listed=[]/\Q .normal a w
 |fuel+1,listed,a,w=>
  (Region.ready md ops listed=[]->Q .normal a w) /\
  ∀i∈Region.ready md ops listed,wpOp P ops Q i (fun a' w'=>Till S z (listed.setIfInBounds i true) w'/\qF P md ops Q S z fuel (listed.setIfInBounds i true) a' w') a w
theorem jq:∀(fuel:Nat) (listed:Array Bool) (a:Act) (w:World),qF P md ops Q S z fuel listed a w->wpAny P md ops Q fuel listed a w
 |0,_,_,_,h=>h
 |fuel+1,_,_,_,h=>⟨h.1,fun i hi=>wpOp_mono (fun a' w' h'=>jq fuel _ a' w' h'.2) (h.2 i hi)⟩
theorem fW (h:Till S z listed w) (kT:i≠z):Till S z (listed.setIfInBounds i true) w:=fun hz=>h (by rw [getD_set_ne true kT]at hz;exact hz)
theorem eT {S':World->Prop} {oi:Oper} {v:Value} (hi:ops[i]?=some oi) (eo:∀(j:Nat) (o:Oper) cs b,ops[j]?=some o->o.op ≠ .select cs b)
  (hQ:∀c a w,Q (.panic c) (a.put oi.dst v) w->Q (.panic c) a w) (kT:i≠z) (hk:(∃f,AZ md ops z f i=true/\∀w,S w->S' w)\/∀w,S' w) :
  ∀(fuel:Nat) (listed:Array Bool) (a:Act) (w:World),kM md ops listed ->
   (∀j oj,ops[j]?=some oj->j≠i->listed.getD j true=false->(∀e∈oj.after,Region.binds md e=true->e.on≠i)->oi.apart ops oj=true) ->
   i∈Region.ready md ops listed->YieldsIf P ops S' oi v a->Till S z listed w ->
   qF P md ops Q S z fuel (listed.setIfInBounds i true) (a.put oi.dst v) w->qF P md ops Q S z (fuel+1) listed a w:=by
 have sat:∀listed w,kM md ops listed->i∈Region.ready md ops listed->Till S z listed w->S' w:=fun listed w inv hr ht=>by
  rcases hk with ⟨f,hf,hs⟩|hs
  ·exact hs w (ht (AY inv hf (mem_ready.1 hr).1).1)
  ·exact hs w
 have afk:∀listed,kM md ops listed->i∈Region.ready md ops listed->True:=fun _ _ _=>trivial
 intro fuel
 induction fuel with
 |zero=>
  intro listed a w inv _ hr hy hS H
  refine⟨fun h=>(by rw [h]at hr;cases hr),fun j hj=>?_⟩
  by_cases CK:j=i
  ·subst CK;exact hy.wpOp hi (sat _ _ inv hr hS) ⟨fW hS kT,H⟩
  ·have:=ready_mono hj CK
   rw [H.1]at this
   cases this
 |succ fuel ih=>
  intro listed a w inv hfree hr hy hS H
  refine⟨fun h=>(by rw [h]at hr;cases hr),fun j hj=>?_⟩
  by_cases CK:j=i
  ·subst CK;exact hy.wpOp hi (sat _ _ inv hr hS) ⟨fW hS kT,H⟩
  ·have h1:=H.2 j (ready_mono hj CK)
   obtain⟨MI,oj,D6,hall⟩:=mem_ready.1 hj
   have MB:∀e∈oj.after,Region.binds md e=true->e.on≠i:=fun e he hb heq=>by
    have h1:=hall e he hb
    rw [heq,getD_both (mem_ready.1 hr).1]at h1
    cases h1
   have h2:=wpOp_putIf D6 (hfree j oj D6 CK MI MB) (fun cs b=>eo i oi cs b hi) (fun cs b=>eo j oj cs b D6) hQ hy h1
   have Td:∀k ok,ops[k]?=some ok->k≠i->(listed.setIfInBounds j true).getD k true=false ->
     (∀e∈ok.after,Region.binds md e=true->e.on≠i)->oi.apart ops ok=true:=fun k ok hk MH hun hno=>by
    refine hfree k ok hk MH ?_ hno
    by_cases hjk:j=k
    ·subst hjk;exact MI
    ·rw [getD_set_ne true hjk]at hun;exact hun
   refine wpOp_mono (fun a' w' h3=>?_) h2
   have ht:Till S z (listed.setIfInBounds j true) w':=fun hz=>h3.2.1 (by
    rw [Array.setIfInBounds_comm _ _ (Ne.symm CK),getD_set_ne true kT];exact hz)
   refine⟨ht,ih (listed.setIfInBounds j true) a' w' (inv.set hj) Td (ready_mono hr (Ne.symm CK)) h3.1 ht ?_⟩
   rw [Array.setIfInBounds_comm _ _ CK]
   exact h3.2.2
def sY (md:Region.Mode) (ops:Array Oper) (z:Nat):List (Nat×Nat)->Array Bool->Bool
 |[],listed=>decide (Region.ready md ops listed=[])
 |(i,0)::r,listed=>(Region.ready md ops listed).contains i && Region.free md ops listed i && !decide (i=z) && AZ md ops z ops.size i && sY md ops z r (listed.setIfInBounds i true)
 |(i,1)::r,listed=>(Region.ready md ops listed).contains i && Region.free md ops listed i && !decide (i=z) && sY md ops z r (listed.setIfInBounds i true)
 |(i,2)::r,listed=>decide (Region.ready md ops listed=[i]) && !decide (i=z) && sY md ops z r (listed.setIfInBounds i true)
 |(i,_+3)::r,listed=>decide (Region.ready md ops listed=[i]) && decide (i=z) && sY md ops z r (listed.setIfInBounds i true)
def fU (P:Program) (Q:Exit->Act->World->Prop) (S:World->Prop):List (Oper×Nat)->Act->World->Prop
 |[],a,w=>Q .normal a w
 |(o,0)::l,a,w=>o.guard=none/\∃v,(∀W,S W->(execOp a.eval o).run P W = .ok (.value v) W)/\fU P Q S l (a.put o.dst v) w
 |(o,1)::l,a,w=>o.guard=none/\∃v,(∀W,(execOp a.eval o).run P W = .ok (.value v) W)/\fU P Q S l (a.put o.dst v) w
 |(o,2)::l,a,w=>o.guard=none/\∀K:Act->World->Prop,(∀a' w',S w'->fU P Q S l a' w'->K a' w')->Oper.wp P o a w K Q
 |(o,_+3)::l,a,w=>o.guard=none/\∀K:Act->World->Prop,(∀a' w',fU P Q S l a' w'->K a' w')->Oper.wp P o a w K Q
def bF (l:List Oper) (s:List (Nat×Nat)):List (Oper×Nat):=s.filterMap fun p=>(l[p.1]?).map fun o=>(o,p.2)
theorem bh (h:o.guard=none) (x:Nat->Option Bool):Region.wanted o x=true:=by simp [Region.wanted,h]
theorem lY (eo:Region.noSelect ops=true) (hQ:∀c a d v w,Q (.panic c) (a.put d v) w->Q (.panic c) a w) :
  ∀(s:List (Nat×Nat)) (listed:Array Bool) (a:Act) (w:World),kM md ops listed->sY md ops z s listed=true->Till S z listed w->fU P Q S (bF ops.toList s) a w->qF P md ops Q S z s.length listed a w
 |[],listed,a,w,_,hB,_,h=>⟨iX hB,h⟩
 |(i,0)::r,listed,a,w,inv,hB,hS,h=>by
  obtain⟨hB,h5⟩:=dt.1 hB
  obtain⟨hB,h4⟩:=dt.1 hB
  obtain⟨hB,h3⟩:=dt.1 hB
  obtain⟨h1,h2⟩:=dt.1 hB
  have hr:i∈Region.ready md ops listed:=by simpa using h1
  have kT:i≠z:=by simpa using h3
  obtain⟨_,oi,hi,_⟩:=mem_ready.1 hr
  have e:bF ops.toList ((i,0)::r)=(oi,0)::bF ops.toList r:=by
   have:ops.toList[i]?=some oi:=by simpa using hi
   unfold bF;rw [List.filterMap_cons,this];rfl
  rw [e]at h
  obtain⟨hg,v,hy,hl⟩:=h
  exact eT (S':=S) hi (Region.noSelect_spec eo) (fun c a w=>hQ c a _ _ w) kT (.inl ⟨_,h4,fun _ h=>h⟩) r.length listed a w inv (Region.free_spec hi h2) hr (.inl ⟨bh hg _,hy⟩) hS
   (lY eo hQ r _ _ _ (inv.set hr) h5 (fW hS kT) hl)
 |(i,1)::r,listed,a,w,inv,hB,hS,h=>by
  obtain⟨hB,h5⟩:=dt.1 hB
  obtain⟨hB,h3⟩:=dt.1 hB
  obtain⟨h1,h2⟩:=dt.1 hB
  have hr:i∈Region.ready md ops listed:=by simpa using h1
  have kT:i≠z:=by simpa using h3
  obtain⟨_,oi,hi,_⟩:=mem_ready.1 hr
  have e:bF ops.toList ((i,1)::r)=(oi,1)::bF ops.toList r:=by
   have:ops.toList[i]?=some oi:=by simpa using hi
   unfold bF;rw [List.filterMap_cons,this];rfl
  rw [e]at h
  obtain⟨hg,v,hy,hl⟩:=h
  exact eT (S':=fun _=>True) hi (Region.noSelect_spec eo) (fun c a w=>hQ c a _ _ w) kT (.inr fun _=>trivial) r.length listed a w inv (Region.free_spec hi h2) hr (.inl ⟨bh hg _,fun w _=>hy w⟩) hS
   (lY eo hQ r _ _ _ (inv.set hr) h5 (fW hS kT) hl)
 |(i,2)::r,listed,a,w,inv,hB,hS,h=>by
  obtain⟨hB,h5⟩:=dt.1 hB
  obtain⟨h1,h3⟩:=dt.1 hB
  have hr:=iX h1
  have kT:i≠z:=by simpa using h3
  have hm:i∈Region.ready md ops listed:=by rw [hr];simp
  obtain⟨_,oi,hi,_⟩:=mem_ready.1 hm
  have e:bF ops.toList ((i,2)::r)=(oi,2)::bF ops.toList r:=by
   have:ops.toList[i]?=some oi:=by simpa using hi
   unfold bF;rw [List.filterMap_cons,this];rfl
  rw [e]at h
  obtain⟨hg,hl⟩:=h
  refine⟨fun h0=>(by rw [h0]at hm;cases hm),fun j hj=>?_⟩
  rw [hr]at hj
  obtain rfl:j=i:=nB.1 hj
  refine wpOp_step hi fun K' hK'=>?_
  rw [ar (bh hg _)]
  exact hl K' fun a' w' hs hh=>hK' a' w' ⟨fun _=>hs,lY eo hQ r _ _ _ (inv.set hm) h5 (fun _=>hs) hh⟩
 |(i,k+3)::r,listed,a,w,inv,hB,hS,h=>by
  obtain⟨hB,h5⟩:=dt.1 hB
  obtain⟨h1,h3⟩:=dt.1 hB
  have hr:=iX h1
  have kT:=iX h3
  have hm:i∈Region.ready md ops listed:=by rw [hr];simp
  obtain⟨_,oi,hi,_⟩:=mem_ready.1 hm
  have e:bF ops.toList ((i,k+3)::r)=(oi,k+3)::bF ops.toList r:=by
   have:ops.toList[i]?=some oi:=by simpa using hi
   unfold bF;rw [List.filterMap_cons,this];rfl
  rw [e]at h
  obtain⟨hg,hl⟩:=h
  refine⟨fun h0=>(by rw [h0]at hm;cases hm),fun j hj=>?_⟩
  rw [hr]at hj
  obtain rfl:j=i:=nB.1 hj
  refine wpOp_step hi fun K' hK'=>?_
  rw [ar (bh hg _)]
  have ht:∀w',Till S z (listed.setIfInBounds j true) w':=fun w' hz=>by
   rw [<-kT]at hz
   have hlt:j<listed.size:=by rw [inv.1];exact(eW.1 hi).1
   simp [hlt]at hz
  exact hl K' fun a' w' hh=>hK' a' w' ⟨ht w',lY eo hQ r _ _ _ (inv.set hm) h5 (ht w') hh⟩
def Li (md:Region.Mode) (ops:Array Oper) (z:Nat) (s:List (Nat×Nat)):Bool:=Region.noSelect ops && decide (s.length=ops.size) && sY md ops z s (Array.replicate ops.size false)
theorem bI {id:Nat} {l:List Oper} (s:List (Nat×Nat)) (z:Nat) (S:World->Prop) (hm:P.follows .mixedOrders=true) (hB:Li .any l.toArray z s=true)
  (hS:S w.drew) (h:fU P (NoPanic Q) S (bF l s) a w.drew):(Code.region id l.toArray true).wp P Q a w:=by
 obtain⟨Bh,h3⟩:=dt.1 hB
 obtain⟨h1,h2⟩:=dt.1 Bh
 refine wp_region_noPanic (wp_region_any hm (jq (S:=S) (z:=z) _ _ _ _ ?_))
 have:=lY (md:= .any) (ops:=l.toArray) (S:=S) (z:=z) (P:=P) (Q:=NoPanic Q) h1 (fun _ _ _ _ _ h=>h) s (Array.replicate l.toArray.size false) a w.drew
  ⟨bq,fun j oj _ hl=>(by rw [getD_replicate_false]at hl;cases hl)⟩ h3 (fun _=>hS) h
 rw [iX h2]at this
 exact this
theorem aS (hg:o.guard=none) (h:∀K:Act->World->Prop,(∀a' w',S w'->fU P Q S l a' w'->K a' w')->Oper.wp P o a w K Q):fU P Q S ((o,2)::l) a w:=⟨hg,h⟩
theorem bp (hg:o.guard=none) (h:∀K:Act->World->Prop,(∀a' w',fU P Q S l a' w'->K a' w')->Oper.wp P o a w K Q):fU P Q S ((o,3)::l) a w:=⟨hg,h⟩
theorem bg {v:Value} (hl:fU P Q S l (a.put o.dst v) w) (hg:o.guard=none:=by rfl) (h:∀W,(execOp a.eval o).run P W = .ok (.value v) W:=by(intro W;go_simp;(try with_reducible rfl);done)):fU P Q S ((o,1)::l) a w:=⟨hg,v,h,hl⟩
theorem aZ {v:Value} (hl:fU P Q S l (a.put o.dst v) w) (hg:o.guard=none:=by rfl) (h:∀W,S W->(execOp a.eval o).run P W = .ok (.value v) W:=by(intro W hW;(try dsimp only at hW);go_simp;(try with_reducible rfl);done)):fU P Q S ((o,0)::l) a w:=⟨hg,v,h,hl⟩
theorem cv (h:Q .normal a w):fU P (NoPanic Q) S [] a w:=h
end
end
section
variable {a:Act} {l:List Oper} {i:Nat} {o:Oper} {w:World}
inductive mF where
 |nil
 |step (i k:Nat) (r:mF)
 |fork (i j:Nat) (a b:mF)
def mF.len:mF->Nat
 |nil=>0
 |step _ _ r=>r.len+1
 |fork _ _ a _=>a.len+1
def mF.of:List (Nat×Nat)->mF->mF
 |[],r=>r
 |(i,k)::l,r=> .step i k (mF.of l r)
section
variable {P:Program} {ops:Array Oper} {Q:Exit->Act->World->Prop} {md:Region.Mode} {S:World->Prop} {z:Nat}
def C0 (md:Region.Mode) (ops:Array Oper) (z:Nat):mF->Array Bool->Bool
 |.nil,listed=>decide (Region.ready md ops listed=[])
 |.step i 0 r,listed=>(Region.ready md ops listed).contains i && Region.free md ops listed i && !decide (i=z) && AZ md ops z ops.size i && C0 md ops z r (listed.setIfInBounds i true)
 |.step i 1 r,listed=>(Region.ready md ops listed).contains i && Region.free md ops listed i && !decide (i=z) && C0 md ops z r (listed.setIfInBounds i true)
 |.step i 2 r,listed=>decide (Region.ready md ops listed=[i]) && !decide (i=z) && C0 md ops z r (listed.setIfInBounds i true)
 |.step i (_+3) r,listed=>decide (Region.ready md ops listed=[i]) && decide (i=z) && C0 md ops z r (listed.setIfInBounds i true)
 |.fork i j a b,listed=>decide (Region.ready md ops listed=[i,j]) && !decide (i=z) && !decide (j=z) && decide (a.len=b.len) && C0 md ops z a (listed.setIfInBounds i true) && C0 md ops z b (listed.setIfInBounds j true)
def jN (P:Program) (Q:Exit->Act->World->Prop) (S:World->Prop) (l:List Oper):mF->Act->World->Prop
 |.nil,a,w=>Q .normal a w
 |.step i 0 r,a,w=>∃o,l[i]?=some o/\o.guard=none/\∃v,(∀W,S W->(execOp a.eval o).run P W = .ok (.value v) W)/\jN P Q S l r (a.put o.dst v) w
 |.step i 1 r,a,w=>∃o,l[i]?=some o/\o.guard=none/\∃v,(∀W,(execOp a.eval o).run P W = .ok (.value v) W)/\jN P Q S l r (a.put o.dst v) w
 |.step i 2 r,a,w=>∃o,l[i]?=some o/\o.guard=none/\∀K:Act->World->Prop,(∀a' w',S w'->jN P Q S l r a' w'->K a' w')->Oper.wp P o a w K Q
 |.step i (_+3) r,a,w=>∃o,l[i]?=some o/\o.guard=none/\∀K:Act->World->Prop,(∀a' w',jN P Q S l r a' w'->K a' w')->Oper.wp P o a w K Q
 |.fork i j ra rb,a,w=>(∃o,l[i]?=some o/\o.guard=none/\∀K:Act->World->Prop,(∀a' w',S w'->jN P Q S l ra a' w'->K a' w')->Oper.wp P o a w K Q) /\
   ∃o,l[j]?=some o/\o.guard=none/\∀K:Act->World->Prop,(∀a' w',S w'->jN P Q S l rb a' w'->K a' w')->Oper.wp P o a w K Q
theorem lu (eo:Region.noSelect ops=true) (hQ:∀c a d v w,Q (.panic c) (a.put d v) w->Q (.panic c) a w) :
  ∀(s:mF) (listed:Array Bool) (a:Act) (w:World),kM md ops listed->C0 md ops z s listed=true->Till S z listed w->jN P Q S ops.toList s a w->qF P md ops Q S z s.len listed a w
 |.nil,listed,a,w,_,hB,_,h=>⟨iX hB,h⟩
 |.step i 0 r,listed,a,w,inv,hB,hS,h=>by
  obtain⟨hB,h5⟩:=dt.1 hB
  obtain⟨hB,h4⟩:=dt.1 hB
  obtain⟨hB,h3⟩:=dt.1 hB
  obtain⟨h1,h2⟩:=dt.1 hB
  have hr:i∈Region.ready md ops listed:=by simpa using h1
  have kT:i≠z:=by simpa using h3
  obtain⟨oi,hoi,hg,v,hy,hl⟩:=h
  have hi:ops[i]?=some oi:=by simpa using hoi
  exact eT (S':=S) hi (Region.noSelect_spec eo) (fun c a w=>hQ c a _ _ w) kT (.inl ⟨_,h4,fun _ h=>h⟩) r.len listed a w inv (Region.free_spec hi h2) hr (.inl ⟨bh hg _,hy⟩) hS
   (lu eo hQ r _ _ _ (inv.set hr) h5 (fW hS kT) hl)
 |.step i 1 r,listed,a,w,inv,hB,hS,h=>by
  obtain⟨hB,h5⟩:=dt.1 hB
  obtain⟨hB,h3⟩:=dt.1 hB
  obtain⟨h1,h2⟩:=dt.1 hB
  have hr:i∈Region.ready md ops listed:=by simpa using h1
  have kT:i≠z:=by simpa using h3
  obtain⟨oi,hoi,hg,v,hy,hl⟩:=h
  have hi:ops[i]?=some oi:=by simpa using hoi
  exact eT (S':=fun _=>True) hi (Region.noSelect_spec eo) (fun c a w=>hQ c a _ _ w) kT (.inr fun _=>trivial) r.len listed a w inv (Region.free_spec hi h2) hr (.inl ⟨bh hg _,fun w _=>hy w⟩) hS
   (lu eo hQ r _ _ _ (inv.set hr) h5 (fW hS kT) hl)
 |.step i 2 r,listed,a,w,inv,hB,hS,h=>by
  obtain⟨hB,h5⟩:=dt.1 hB
  obtain⟨h1,h3⟩:=dt.1 hB
  have hr:=iX h1
  have kT:i≠z:=by simpa using h3
  have hm:i∈Region.ready md ops listed:=by rw [hr];simp
  obtain⟨oi,hoi,hg,hl⟩:=h
  have hi:ops[i]?=some oi:=by simpa using hoi
  refine⟨fun h0=>(by rw [h0]at hm;cases hm),fun j hj=>?_⟩
  rw [hr]at hj
  obtain rfl:j=i:=nB.1 hj
  refine wpOp_step hi fun K' hK'=>?_
  rw [ar (bh hg _)]
  exact hl K' fun a' w' hs hh=>hK' a' w' ⟨fun _=>hs,lu eo hQ r _ _ _ (inv.set hm) h5 (fun _=>hs) hh⟩
 |.step i (k+3) r,listed,a,w,inv,hB,hS,h=>by
  obtain⟨hB,h5⟩:=dt.1 hB
  obtain⟨h1,h3⟩:=dt.1 hB
  have hr:=iX h1
  have kT:=iX h3
  have hm:i∈Region.ready md ops listed:=by rw [hr];simp
  obtain⟨oi,hoi,hg,hl⟩:=h
  have hi:ops[i]?=some oi:=by simpa using hoi
  refine⟨fun h0=>(by rw [h0]at hm;cases hm),fun j hj=>?_⟩
  rw [hr]at hj
  obtain rfl:j=i:=nB.1 hj
  refine wpOp_step hi fun K' hK'=>?_
  rw [ar (bh hg _)]
  have ht:∀w',Till S z (listed.setIfInBounds j true) w':=fun w' hz=>by
   rw [<-kT]at hz
   have hlt:j<listed.size:=by rw [inv.1];exact(eW.1 hi).1
   simp [hlt]at hz
  exact hl K' fun a' w' hh=>hK' a' w' ⟨ht w',lu eo hQ r _ _ _ (inv.set hm) h5 (ht w') hh⟩
 |.fork i j ra rb,listed,a,w,inv,hB,hS,h=>by
  obtain⟨hB,h7⟩:=dt.1 hB
  obtain⟨hB,h6⟩:=dt.1 hB
  obtain⟨hB,h5⟩:=dt.1 hB
  obtain⟨hB,h4⟩:=dt.1 hB
  obtain⟨h1,h3⟩:=dt.1 hB
  have hr:=iX h1
  have U7:=iX h5
  have WD:i∈Region.ready md ops listed:=by rw [hr];simp
  have hmj:j∈Region.ready md ops listed:=by rw [hr];simp
  obtain⟨⟨oi,hoi,hg,hl⟩,oj,D6,hgj,nG⟩:=h
  have hi:ops[i]?=some oi:=by simpa using hoi
  have hj':ops[j]?=some oj:=by simpa using D6
  refine⟨fun h0=>(by rw [h0]at WD;cases WD),fun k hk=>?_⟩
  rw [hr]at hk
  rcases fc.1 hk with rfl|hk
  ·refine wpOp_step hi fun K' hK'=>?_
   rw [ar (bh hg _)]
   exact hl K' fun a' w' hs hh=>hK' a' w' ⟨fun _=>hs,lu eo hQ ra _ _ _ (inv.set WD) h6 (fun _=>hs) hh⟩
  ·obtain rfl:k=j:=nB.1 hk
   refine wpOp_step hj' fun K' hK'=>?_
   rw [ar (bh hgj _)]
   refine nG K' fun a' w' hs hh=>hK' a' w' ⟨fun _=>hs,?_⟩
   have:=lu eo hQ rb _ _ _ (inv.set hmj) h7 (fun _=>hs) hh
   rw [<-U7]at this;exact this
def R6 (md:Region.Mode) (ops:Array Oper) (z:Nat) (s:mF):Bool:=Region.noSelect ops && decide (s.len=ops.size) && C0 md ops z s (Array.replicate ops.size false)
theorem fJ {id:Nat} (s:mF) (z:Nat) (S:World->Prop) (hm:P.follows .mixedOrders=true) (hB:R6 .any l.toArray z s=true)
  (hS:S w.drew) (h:jN P (NoPanic Q) S l s a w.drew):(Code.region id l.toArray true).wp P Q a w:=by
 obtain⟨Bh,h3⟩:=dt.1 hB
 obtain⟨h1,h2⟩:=dt.1 Bh
 refine wp_region_noPanic (wp_region_any hm (jq (S:=S) (z:=z) _ _ _ _ ?_))
 have:=lu (md:= .any) (ops:=l.toArray) (S:=S) (z:=z) (P:=P) (Q:=NoPanic Q) h1 (fun _ _ _ _ _ h=>h) s (Array.replicate l.toArray.size false) a w.drew
  ⟨bq,fun j oj _ hl=>(by rw [getD_replicate_false]at hl;cases hl)⟩ h3 (fun _=>hS) h
 rw [iX h2]at this
 exact this
theorem bz {r:mF} (ho:l[i]?=some o) (hg:o.guard=none) (h:∀K:Act->World->Prop,(∀a' w',S w'->jN P Q S l r a' w'->K a' w')->Oper.wp P o a w K Q):jN P Q S l (.step i 2 r) a w:=⟨o,ho,hg,h⟩
theorem dK {r:mF} (ho:l[i]?=some o) (hg:o.guard=none) (h:∀K:Act->World->Prop,(∀a' w',jN P Q S l r a' w'->K a' w')->Oper.wp P o a w K Q):jN P Q S l (.step i 3 r) a w:=⟨o,ho,hg,h⟩
theorem iz {j:Nat} {oi oj:Oper} {ra rb:mF} (hoi:l[i]?=some oi) (hgi:oi.guard=none) (D6:l[j]?=some oj) (hgj:oj.guard=none)
  (hi:∀K:Act->World->Prop,(∀a' w',S w'->jN P Q S l ra a' w'->K a' w')->Oper.wp P oi a w K Q) (hj:∀K:Act->World->Prop,(∀a' w',S w'->jN P Q S l rb a' w'->K a' w')->Oper.wp P oj a w K Q):jN P Q S l (.fork i j ra rb) a w:=⟨⟨oi,hoi,hgi,hi⟩,oj,D6,hgj,hj⟩
theorem bP {r:mF} {v:Value} (hl:jN P Q S l r (a.put o.dst v) w) (ho:l[i]?=some o:=by rfl) (hg:o.guard=none:=by rfl) (h:∀W,(execOp a.eval o).run P W = .ok (.value v) W:=by(intro W;go_simp;(try with_reducible rfl);done)):jN P Q S l (.step i 1 r) a w:=⟨o,ho,hg,v,h,hl⟩
theorem bO {r:mF} {v:Value} (hl:jN P Q S l r (a.put o.dst v) w) (ho:l[i]?=some o:=by rfl) (hg:o.guard=none:=by rfl) (h:∀W,S W->(execOp a.eval o).run P W = .ok (.value v) W:=by(intro W hW;(try dsimp only at hW);go_simp;(try with_reducible rfl);done)):jN P Q S l (.step i 0 r) a w:=⟨o,ho,hg,v,h,hl⟩
theorem eY (h:Q .normal a w):jN P (NoPanic Q) S l .nil a w:=h
end
end
section
variable {a:Act} {ops:Array Oper} {b:Bool} {j d n:Nat} {o oj:Oper}
section
variable {P:Program} {ops:Array Oper} {Q:Exit->Act->World->Prop} {md:Region.Mode} {S:World->Prop} {z:Nat}
def cT (P:Program) (ops:Array Oper) (Q:Exit->Act->World->Prop) (S:World->Prop):List (Oper×Nat)->Act->World->Prop
 |[],a,w=>Q .normal a w
 |(o,0)::l,a,w=>(Region.wanted o (yielded ops a.tmps)=true/\∃v,(∀W,S W->(execOp a.eval o).run P W = .ok (.value v) W)/\cT P ops Q S l (a.put o.dst v) w)\/(Region.wanted o (yielded ops a.tmps)=false/\cT P ops Q S l (a.put o.dst undef) w)
 |(o,1)::l,a,w=>(Region.wanted o (yielded ops a.tmps)=true/\∃v,(∀W,(execOp a.eval o).run P W = .ok (.value v) W)/\cT P ops Q S l (a.put o.dst v) w)\/(Region.wanted o (yielded ops a.tmps)=false/\cT P ops Q S l (a.put o.dst undef) w)
 |(o,2)::l,a,w=>(Region.wanted o (yielded ops a.tmps)=true/\∀K:Act->World->Prop,(∀a' w',S w'->cT P ops Q S l a' w'->K a' w')->Oper.wp P o a w K Q)\/(Region.wanted o (yielded ops a.tmps)=false/\cT P ops Q S l (a.put o.dst undef) w)
 |(o,_+3)::l,a,w=>(Region.wanted o (yielded ops a.tmps)=true/\∀K:Act->World->Prop,(∀a' w',cT P ops Q S l a' w'->K a' w')->Oper.wp P o a w K Q)\/(Region.wanted o (yielded ops a.tmps)=false/\cT P ops Q S l (a.put o.dst undef) w)
theorem fx (eo:Region.noSelect ops=true) (hQ:∀c a d v w,Q (.panic c) (a.put d v) w->Q (.panic c) a w) :
  ∀(s:List (Nat×Nat)) (listed:Array Bool) (a:Act) (w:World),kM md ops listed->sY md ops z s listed=true->Till S z listed w->cT P ops Q S (bF ops.toList s) a w->qF P md ops Q S z s.length listed a w
 |[],listed,a,w,_,hB,_,h=>⟨iX hB,h⟩
 |(i,0)::r,listed,a,w,inv,hB,hS,h=>by
  obtain⟨hB,h5⟩:=dt.1 hB
  obtain⟨hB,h4⟩:=dt.1 hB
  obtain⟨hB,h3⟩:=dt.1 hB
  obtain⟨h1,h2⟩:=dt.1 hB
  have hr:i∈Region.ready md ops listed:=by simpa using h1
  have kT:i≠z:=by simpa using h3
  obtain⟨_,oi,hi,_⟩:=mem_ready.1 hr
  have e:bF ops.toList ((i,0)::r)=(oi,0)::bF ops.toList r:=by
   have:ops.toList[i]?=some oi:=by simpa using hi
   unfold bF;rw [List.filterMap_cons,this];rfl
  rw [e]at h
  rcases h with ⟨hg,v,hy,hl⟩|⟨hg,hl⟩
  ·exact eT (S':=S) hi (Region.noSelect_spec eo) (fun c a w=>hQ c a _ _ w) kT (.inl ⟨_,h4,fun _ h=>h⟩) r.length listed a w inv (Region.free_spec hi h2) hr (.inl ⟨hg,hy⟩) hS
    (fx eo hQ r _ _ _ (inv.set hr) h5 (fW hS kT) hl)
  ·exact eT (S':=S) hi (Region.noSelect_spec eo) (fun c a w=>hQ c a _ _ w) kT (.inl ⟨_,h4,fun _ h=>h⟩) r.length listed a w inv (Region.free_spec hi h2) hr (.inr ⟨hg,rfl⟩) hS
    (fx eo hQ r _ _ _ (inv.set hr) h5 (fW hS kT) hl)
 |(i,1)::r,listed,a,w,inv,hB,hS,h=>by
  obtain⟨hB,h5⟩:=dt.1 hB
  obtain⟨hB,h3⟩:=dt.1 hB
  obtain⟨h1,h2⟩:=dt.1 hB
  have hr:i∈Region.ready md ops listed:=by simpa using h1
  have kT:i≠z:=by simpa using h3
  obtain⟨_,oi,hi,_⟩:=mem_ready.1 hr
  have e:bF ops.toList ((i,1)::r)=(oi,1)::bF ops.toList r:=by
   have:ops.toList[i]?=some oi:=by simpa using hi
   unfold bF;rw [List.filterMap_cons,this];rfl
  rw [e]at h
  rcases h with ⟨hg,v,hy,hl⟩|⟨hg,hl⟩
  ·exact eT (S':=fun _=>True) hi (Region.noSelect_spec eo) (fun c a w=>hQ c a _ _ w) kT (.inr fun _=>trivial) r.length listed a w inv (Region.free_spec hi h2) hr (.inl ⟨hg,fun w _=>hy w⟩) hS
    (fx eo hQ r _ _ _ (inv.set hr) h5 (fW hS kT) hl)
  ·exact eT (S':=fun _=>True) hi (Region.noSelect_spec eo) (fun c a w=>hQ c a _ _ w) kT (.inr fun _=>trivial) r.length listed a w inv (Region.free_spec hi h2) hr (.inr ⟨hg,rfl⟩) hS
    (fx eo hQ r _ _ _ (inv.set hr) h5 (fW hS kT) hl)
 |(i,2)::r,listed,a,w,inv,hB,hS,h=>by
  obtain⟨hB,h5⟩:=dt.1 hB
  obtain⟨h1,h3⟩:=dt.1 hB
  have hr:=iX h1
  have kT:i≠z:=by simpa using h3
  have hm:i∈Region.ready md ops listed:=by rw [hr];simp
  obtain⟨_,oi,hi,_⟩:=mem_ready.1 hm
  have e:bF ops.toList ((i,2)::r)=(oi,2)::bF ops.toList r:=by
   have:ops.toList[i]?=some oi:=by simpa using hi
   unfold bF;rw [List.filterMap_cons,this];rfl
  rw [e]at h
  refine⟨fun h0=>(by rw [h0]at hm;cases hm),fun j hj=>?_⟩
  rw [hr]at hj
  obtain rfl:j=i:=nB.1 hj
  refine wpOp_step hi fun K' hK'=>?_
  rcases h with ⟨hg,hl⟩|⟨hg,hl⟩
  ·rw [ar hg]
   exact hl K' fun a' w' hs hh=>hK' a' w' ⟨fun _=>hs,fx eo hQ r _ _ _ (inv.set hm) h5 (fun _=>hs) hh⟩
  ·rw [ai (by simp [hg])]
   exact hK' _ _ ⟨fW hS kT,fx eo hQ r _ _ _ (inv.set hm) h5 (fW hS kT) hl⟩
 |(i,k+3)::r,listed,a,w,inv,hB,hS,h=>by
  obtain⟨hB,h5⟩:=dt.1 hB
  obtain⟨h1,h3⟩:=dt.1 hB
  have hr:=iX h1
  have kT:=iX h3
  have hm:i∈Region.ready md ops listed:=by rw [hr];simp
  obtain⟨_,oi,hi,_⟩:=mem_ready.1 hm
  have e:bF ops.toList ((i,k+3)::r)=(oi,k+3)::bF ops.toList r:=by
   have:ops.toList[i]?=some oi:=by simpa using hi
   unfold bF;rw [List.filterMap_cons,this];rfl
  rw [e]at h
  refine⟨fun h0=>(by rw [h0]at hm;cases hm),fun j hj=>?_⟩
  rw [hr]at hj
  obtain rfl:j=i:=nB.1 hj
  have ht:∀w',Till S z (listed.setIfInBounds j true) w':=fun w' hz=>by
   rw [<-kT]at hz
   have hlt:j<listed.size:=by rw [inv.1];exact(eW.1 hi).1
   simp [hlt]at hz
  refine wpOp_step hi fun K' hK'=>?_
  rcases h with ⟨hg,hl⟩|⟨hg,hl⟩
  ·rw [ar hg]
   exact hl K' fun a' w' hh=>hK' a' w' ⟨ht w',fx eo hQ r _ _ _ (inv.set hm) h5 (ht w') hh⟩
  ·rw [ai (by simp [hg])]
   exact hK' _ _ ⟨ht w,fx eo hQ r _ _ _ (inv.set hm) h5 (ht w) hl⟩
theorem cV {id:Nat} {w:World} {l:List Oper} (s:List (Nat×Nat)) (z:Nat) (S:World->Prop) (hm:P.follows .mixedOrders=true) (hB:Li .any l.toArray z s=true)
  (hS:S w.drew) (h:cT P l.toArray (NoPanic Q) S (bF l s) a w.drew):(Code.region id l.toArray true).wp P Q a w:=by
 obtain⟨Bh,h3⟩:=dt.1 hB
 obtain⟨h1,h2⟩:=dt.1 Bh
 refine wp_region_noPanic (wp_region_any hm (jq (S:=S) (z:=z) _ _ _ _ ?_))
 have:=fx (md:= .any) (ops:=l.toArray) (S:=S) (z:=z) (P:=P) (Q:=NoPanic Q) h1 (fun _ _ _ _ _ h=>h) s (Array.replicate l.toArray.size false) a w.drew
  ⟨bq,fun j oj _ hl=>(by rw [getD_replicate_false]at hl;cases hl)⟩ h3 (fun _=>hS) h
 rw [iX h2]at this
 exact this
theorem ub {want:Bool} (hg:o.guard=some (j,want)) (hj:ops[j]?=some oj) (hd:oj.dst=some d) (ht:a.tmps[d]?=some (.bool b)):Region.wanted o (yielded ops a.tmps)=(b == want):=by
 simp [Region.wanted,yielded,hg,hj,hd,ht]
theorem dP (hg:o.guard=some (j,b)) (hj:ops[j]?=some oj) (hd:oj.dst=some d) (ht:a.tmps[d]?=some (.bool b)):Region.wanted o (yielded ops a.tmps)=true:=by
 rw [ub hg hj hd ht];simp
theorem Jc (hg:o.guard=some (j,b)) (hj:ops[j]?=some oj) (hd:oj.dst=some d) (ht:a.tmps[d]?=some (.bool !b)):Region.wanted o (yielded ops a.tmps)=false:=by
 rw [ub hg hj hd ht];cases b <;> rfl
variable {o:Oper} {l:List (Oper×Nat)} {a:Act} {w:World}
theorem qM (hg:Region.wanted o (yielded ops a.tmps)=true) (h:∀K:Act->World->Prop,(∀a' w',S w'->cT P ops Q S l a' w'->K a' w')->Oper.wp P o a w K Q):cT P ops Q S ((o,2)::l) a w:= .inl ⟨hg,h⟩
theorem fX (hg:Region.wanted o (yielded ops a.tmps)=true) (h:∀K:Act->World->Prop,(∀a' w',cT P ops Q S l a' w'->K a' w')->Oper.wp P o a w K Q):cT P ops Q S ((o,3)::l) a w:= .inl ⟨hg,h⟩
theorem CZ (hg:Region.wanted o (yielded ops a.tmps)=false) (hl:cT P ops Q S l (a.put o.dst undef) w):cT P ops Q S ((o,n)::l) a w:=
 match n with
 |0=> .inr ⟨hg,hl⟩
 |1=> .inr ⟨hg,hl⟩
 |2=> .inr ⟨hg,hl⟩
 |_+3=> .inr ⟨hg,hl⟩
theorem jy {v:Value} (hl:cT P ops Q S l (a.put o.dst v) w) (hg:Region.wanted o (yielded ops a.tmps)=true:=by first|exact bh rfl _|exact dP rfl rfl rfl rfl) (h:∀W,(execOp a.eval o).run P W = .ok (.value v) W:=by(intro W;go_simp;(try with_reducible rfl);done)):cT P ops Q S ((o,1)::l) a w:= .inl ⟨hg,v,h,hl⟩
theorem jx {v:Value} (hl:cT P ops Q S l (a.put o.dst v) w) (hg:Region.wanted o (yielded ops a.tmps)=true:=by first|exact bh rfl _|exact dP rfl rfl rfl rfl) (h:∀W,S W->(execOp a.eval o).run P W = .ok (.value v) W:=by(intro W hW;(try dsimp only at hW);go_simp;(try with_reducible rfl);done)):cT P ops Q S ((o,0)::l) a w:= .inl ⟨hg,v,h,hl⟩
theorem jw (hl:cT P ops Q S l (a.put o.dst undef) w) (hg:Region.wanted o (yielded ops a.tmps)=false:=by exact Jc rfl rfl rfl rfl):cT P ops Q S ((o,n)::l) a w:=CZ hg hl
theorem gZ (h:Q .normal a w):cT P ops (NoPanic Q) S [] a w:=h
end
end
section
variable {P:Program} {ops:Array Oper} {Q:Exit->Act->World->Prop} {md:Region.Mode} {S:World->Prop} {z:Nat}
def rM (md:Region.Mode) (ops:Array Oper) (z:Nat):List (Nat×Nat)->Array Bool->Bool
 |[],listed=>decide (Region.ready md ops listed=[])
 |(i,0)::r,listed=>(Region.ready md ops listed).contains i && Region.free md ops listed i && !decide (i=z) && AZ md ops z ops.size i && rM md ops z r (listed.setIfInBounds i true)
 |(i,1)::r,listed=>(Region.ready md ops listed).contains i && Region.free md ops listed i && !decide (i=z) && rM md ops z r (listed.setIfInBounds i true)
 |(i,2)::r,listed=>decide (Region.ready md ops listed=[i]) && !decide (i=z) && rM md ops z r (listed.setIfInBounds i true)
 |(i,_+3)::r,listed=>decide (Region.ready md ops listed=[i]) && (decide (i=z) || listed.getD z false) && rM md ops z r (listed.setIfInBounds i true)
theorem ki (eo:Region.noSelect ops=true) (hQ:∀c a d v w,Q (.panic c) (a.put d v) w->Q (.panic c) a w) :
  ∀(s:List (Nat×Nat)) (listed:Array Bool) (a:Act) (w:World),kM md ops listed->rM md ops z s listed=true->Till S z listed w->fU P Q S (bF ops.toList s) a w->qF P md ops Q S z s.length listed a w
 |[],listed,a,w,_,hB,_,h=>⟨iX hB,h⟩
 |(i,0)::r,listed,a,w,inv,hB,hS,h=>by
  obtain⟨hB,h5⟩:=dt.1 hB
  obtain⟨hB,h4⟩:=dt.1 hB
  obtain⟨hB,h3⟩:=dt.1 hB
  obtain⟨h1,h2⟩:=dt.1 hB
  have hr:i∈Region.ready md ops listed:=by simpa using h1
  have kT:i≠z:=by simpa using h3
  obtain⟨_,oi,hi,_⟩:=mem_ready.1 hr
  have e:bF ops.toList ((i,0)::r)=(oi,0)::bF ops.toList r:=by
   have:ops.toList[i]?=some oi:=by simpa using hi
   unfold bF;rw [List.filterMap_cons,this];rfl
  rw [e]at h
  obtain⟨hg,v,hy,hl⟩:=h
  exact eT (S':=S) hi (Region.noSelect_spec eo) (fun c a w=>hQ c a _ _ w) kT (.inl ⟨_,h4,fun _ h=>h⟩) r.length listed a w inv (Region.free_spec hi h2) hr (.inl ⟨bh hg _,hy⟩) hS
   (ki eo hQ r _ _ _ (inv.set hr) h5 (fW hS kT) hl)
 |(i,1)::r,listed,a,w,inv,hB,hS,h=>by
  obtain⟨hB,h5⟩:=dt.1 hB
  obtain⟨hB,h3⟩:=dt.1 hB
  obtain⟨h1,h2⟩:=dt.1 hB
  have hr:i∈Region.ready md ops listed:=by simpa using h1
  have kT:i≠z:=by simpa using h3
  obtain⟨_,oi,hi,_⟩:=mem_ready.1 hr
  have e:bF ops.toList ((i,1)::r)=(oi,1)::bF ops.toList r:=by
   have:ops.toList[i]?=some oi:=by simpa using hi
   unfold bF;rw [List.filterMap_cons,this];rfl
  rw [e]at h
  obtain⟨hg,v,hy,hl⟩:=h
  exact eT (S':=fun _=>True) hi (Region.noSelect_spec eo) (fun c a w=>hQ c a _ _ w) kT (.inr fun _=>trivial) r.length listed a w inv (Region.free_spec hi h2) hr (.inl ⟨bh hg _,fun w _=>hy w⟩) hS
   (ki eo hQ r _ _ _ (inv.set hr) h5 (fW hS kT) hl)
 |(i,2)::r,listed,a,w,inv,hB,hS,h=>by
  obtain⟨hB,h5⟩:=dt.1 hB
  obtain⟨h1,h3⟩:=dt.1 hB
  have hr:=iX h1
  have kT:i≠z:=by simpa using h3
  have hm:i∈Region.ready md ops listed:=by rw [hr];simp
  obtain⟨_,oi,hi,_⟩:=mem_ready.1 hm
  have e:bF ops.toList ((i,2)::r)=(oi,2)::bF ops.toList r:=by
   have:ops.toList[i]?=some oi:=by simpa using hi
   unfold bF;rw [List.filterMap_cons,this];rfl
  rw [e]at h
  obtain⟨hg,hl⟩:=h
  refine⟨fun h0=>(by rw [h0]at hm;cases hm),fun j hj=>?_⟩
  rw [hr]at hj
  obtain rfl:j=i:=nB.1 hj
  refine wpOp_step hi fun K' hK'=>?_
  rw [ar (bh hg _)]
  exact hl K' fun a' w' hs hh=>hK' a' w' ⟨fun _=>hs,ki eo hQ r _ _ _ (inv.set hm) h5 (fun _=>hs) hh⟩
 |(i,k+3)::r,listed,a,w,inv,hB,hS,h=>by
  obtain⟨hB,h5⟩:=dt.1 hB
  obtain⟨h1,h3⟩:=dt.1 hB
  have hr:=iX h1
  have hm:i∈Region.ready md ops listed:=by rw [hr];simp
  obtain⟨_,oi,hi,_⟩:=mem_ready.1 hm
  have e:bF ops.toList ((i,k+3)::r)=(oi,k+3)::bF ops.toList r:=by
   have:ops.toList[i]?=some oi:=by simpa using hi
   unfold bF;rw [List.filterMap_cons,this];rfl
  rw [e]at h
  obtain⟨hg,hl⟩:=h
  refine⟨fun h0=>(by rw [h0]at hm;cases hm),fun j hj=>?_⟩
  rw [hr]at hj
  obtain rfl:j=i:=nB.1 hj
  refine wpOp_step hi fun K' hK'=>?_
  rw [ar (bh hg _)]
  have ht:∀w',Till S z (listed.setIfInBounds j true) w':=fun w' hz=>by
   exfalso
   rcases Bool.or_eq_true_iff.1 h3 with h3|h3
   ·have kT:=iX h3
    rw [<-kT]at hz
    have hlt:j<listed.size:=by rw [inv.1];exact(eW.1 hi).1
    simp [hlt]at hz
   ·have h6:=getD_set_true (i:=j) h3
    rw [getD_both hz]at h6
    cases h6
  exact hl K' fun a' w' hh=>hK' a' w' ⟨ht w',ki eo hQ r _ _ _ (inv.set hm) h5 (ht w') hh⟩
def Pc (md:Region.Mode) (ops:Array Oper) (z:Nat) (s:List (Nat×Nat)):Bool:=Region.noSelect ops && decide (s.length=ops.size) && rM md ops z s (Array.replicate ops.size false)
theorem eI {id:Nat} {a:Act} {w:World} {l:List Oper} (s:List (Nat×Nat)) (z:Nat) (S:World->Prop) (hm:P.follows .mixedOrders=true) (hB:Pc .any l.toArray z s=true)
  (hS:S w.drew) (h:fU P (NoPanic Q) S (bF l s) a w.drew):(Code.region id l.toArray true).wp P Q a w:=by
 obtain⟨Bh,h3⟩:=dt.1 hB
 obtain⟨h1,h2⟩:=dt.1 Bh
 refine wp_region_noPanic (wp_region_any hm (jq (S:=S) (z:=z) _ _ _ _ ?_))
 have:=ki (md:= .any) (ops:=l.toArray) (S:=S) (z:=z) (P:=P) (Q:=NoPanic Q) h1 (fun _ _ _ _ _ h=>h) s (Array.replicate l.toArray.size false) a w.drew
  ⟨bq,fun j oj _ hl=>(by rw [getD_replicate_false]at hl;cases hl)⟩ h3 (fun _=>hS) h
 rw [iX h2]at this
 exact this
end
section
variable {P:Program} {ops:Array Oper} {md:Region.Mode} {w:World}
def QN (md:Region.Mode) (ops:Array Oper) (n:Nat):Bool:=
 (List.range ops.size).all fun t=>decide (t<=n) || (List.range t).any fun u=>decide (n<=u) && Region.waitsFor md ops t u
theorem Gd {n:Nat} {listed:Array Bool} (hs:Region.sinkB md ops n=true) (hl:QN md ops n=true) (inv:HeadInv md ops n listed) :
  ∀(d i:Nat),n-i=d->i<n->listed.getD i true=false->∀t,n<=t->t∉Region.ready md ops listed:=by
 intro d
 induction d using Nat.strongRecOn with
 |_ d ih=>
  intro i hd hi hun t ht hr
  obtain⟨_,ot,hot,hall⟩:=mem_ready.1 hr
  have aal:t<ops.size:=(eW.1 hot).1
  rcases lH n t with htn|htn
  ·have h1:=pA.1 hl t (List.mem_range.2 aal)
   rcases Bool.or_eq_true_iff.1 h1 with h1|h1
   ·have:=iX h1;omega
   ·obtain⟨u,hu,h2⟩:=List.any_eq_true.1 h1
    obtain⟨h3,h4⟩:=dt.1 h2
    have hut:=List.mem_range.1 hu
    have hnu:=iX h3
    obtain⟨o',ho',e,he,hb,MA⟩:=Region.waitsFor_spec h4
    obtain rfl:o'=ot:=dw (ho'.symm.trans hot)
    have h5:=hall e he hb
    rw [MA,getD_both (inv.tail u hnu af)]at h5
    cases h5
  ·obtain rfl:t=n:=af
   obtain⟨j,hj,h2⟩:=List.any_eq_true.1 (pA.1 hs i (List.mem_range.2 hi))
   obtain⟨h3,h4⟩:=dt.1 h2
   have hij:=iX h3
   have hjr:=List.mem_range.1 hj
   obtain⟨oj,D6,e,he,hb,MA⟩:=Region.waitsFor_spec h4
   rcases lH j t with hjt|hjt
   ·cases nG:listed.getD j false with
    |true=>
     have h5:=inv.closed j oj D6 nG e he hb
     rw [MA,getD_both hun]at h5
     cases h5
    |false=>exact ih (t-j) af j rfl hjt (getD_in (by rw [inv.size];omega) nG) t aI hr
   ·obtain rfl:j=t:=af
    obtain rfl:oj=ot:=dw (D6.symm.trans hot)
    have h5:=hall e he hb
    rw [MA,getD_both hun]at h5
    cases h5
theorem GI {n i:Nat} {oi:Oper} {v:Value} {L:Array Bool->Act->Prop} (hi:ops[i]?=some oi) (eo:∀(j:Nat) (o:Oper) cs b,ops[j]?=some o->o.op ≠ .select cs b)
  (hw:∀listed,HeadInv md ops n listed->∀i,i<n->listed.getD i true=false->∀t,n<=t->t∉Region.ready md ops listed) (hin:i<n)
  (hdone:∀listed a,L listed a->∀j∈Region.ready md ops listed,n<=j) (f:Nat) :
  ∀(listed:Array Bool) (a:Act),HeadInv md ops n listed ->
   (∀j oj,ops[j]?=some oj->j≠i->listed.getD j true=false->(∀e∈oj.after,Region.binds md e=true->e.on≠i)->oi.apart ops oj=true) ->
   i∈Region.ready md ops listed->YieldsAt P ops w oi v a ->
   wpAnyL P md ops w n L f (listed.setIfInBounds i true) (a.put oi.dst v)->wpAnyL P md ops w n L (f+1) listed a:=by
 induction f with
 |zero=>
  intro listed a inv _ hr hy H
  refine⟨List.ne_nil_of_mem hr,fun j hj=>?_⟩
  have hjn:j<n:=Nat.lt_of_not_le fun h=>hw listed inv i hin (mem_ready.1 hr).1 j h hj
  refine⟨hjn,?_⟩
  by_cases CK:j=i
  ·subst CK;exact hy.stOp hi H
  ·exact absurd (hdone _ _ H j (ready_mono hj CK)) af
 |succ f ih=>
  intro listed a inv hfree hr hy H
  refine⟨List.ne_nil_of_mem hr,fun j hj=>?_⟩
  have hjn:j<n:=Nat.lt_of_not_le fun h=>hw listed inv i hin (mem_ready.1 hr).1 j h hj
  refine⟨hjn,?_⟩
  by_cases CK:j=i
  ·subst CK;exact hy.stOp hi H
  ·obtain⟨MI,oj,D6,hall⟩:=mem_ready.1 hj
   have MB:∀e∈oj.after,Region.binds md e=true->e.on≠i:=fun e he hb heq=>by
    have h1:=hall e he hb
    rw [heq,getD_both (mem_ready.1 hr).1]at h1
    cases h1
   have hun:∀k,(listed.setIfInBounds j true).getD k true=false->listed.getD k true=false:=fun k hk=>by
    by_cases hjk:j=k
    ·subst hjk;exact MI
    ·rwa [getD_set_ne true hjk]at hk
   have h2:=stOp_put D6 (hfree j oj D6 CK MI MB) (fun cs b=>eo i oi cs b hi) (fun cs b=>eo j oj cs b D6) hy (H.2 j (ready_mono hj CK)).2
   refine stOp_mono (fun a' h3=>ih (listed.setIfInBounds j true) a' (inv.set hj hjn) (fun k ok hk MH hku hno=>hfree k ok hk MH (hun k hku) hno) (ready_mono hr (Ne.symm CK)) h3.1 ?_) h2
   rw [Array.setIfInBounds_comm _ _ CK]
   exact h3.2
def vN (md:Region.Mode) (ops:Array Oper) (g:Nat):Nat->Nat->Array Bool->Bool
 |0,k,listed=>decide (Region.ready md ops listed=[k]) && Region.lexFrom md ops g (k+1) (listed.setIfInBounds k true)
 |f+1,k,listed=>(Region.ready md ops listed).contains k && Region.free md ops listed k && vN md ops g f (k+1) (listed.setIfInBounds k true)
def Sa (md:Region.Mode) (ops:Array Oper) (n:Nat):Bool:=
 Region.noSelect ops && decide (n<ops.size) && Region.sinkB md ops n && QN md ops n && vN md ops (ops.size-n-1) n 0 (Array.replicate ops.size false)
theorem D7 {n g:Nat} {Lq:Act->Prop} (eo:Region.noSelect ops=true) (hw:∀listed,HeadInv md ops n listed->∀i,i<n->listed.getD i true=false->∀t,n<=t->t∉Region.ready md ops listed) :
  ∀(l:List Oper) (k:Nat) (listed:Array Bool) (a:Act),(∀j,j<l.length->l[j]?=ops[k+j]?)->k+l.length=n->HeadInv md ops n listed ->
  vN md ops g l.length k listed=true->wpStill P ops w Lq l a ->
  wpAnyL P md ops w n (fun listed' a'=>(Region.ready md ops listed'=[n]/\Region.lexFrom md ops g (n+1) (listed'.setIfInBounds n true)=true)/\Lq a') l.length listed a
 |[],k,listed,a,_,hk,_,hB,h=>by
  obtain rfl:k=n:=by simpa using hk
  obtain⟨h1,h2⟩:=dt.1 hB
  exact⟨⟨iX h1,h2⟩,h⟩
 |o::l,k,listed,a,hl,hk,inv,hB,h=>by
  have h0:ops[k]?=some o:=by simpa using (hl 0 bq).symm
  obtain⟨Bh,hB'⟩:=dt.1 hB
  obtain⟨hr,hf⟩:=dt.1 Bh
  have hkn:k<n:=by rw [fR]at hk;omega
  have hr':k∈Region.ready md ops listed:=by simpa using hr
  have hst:stOp P ops w k (wpStill P ops w Lq l) a:=by unfold stOp;simp only [h0];exact h
  obtain⟨v,hy,hK⟩:=yieldsAt_of_stOp h0 hst
  exact GI h0 (Region.noSelect_spec eo) hw hkn (fun listed' a' hL j hj=>by rw [hL.1.1]at hj;exact Nat.le_of_eq (nB.1 hj).symm) l.length listed a inv (Region.free_spec h0 hf) hr' hy
   (D7 eo hw l (k+1) _ _ (fun j hj=>by have:=hl (j+1) (by simp;omega);simpa [Nat.add_assoc,Nat.add_comm 1 j] using this) (by rw [fR]at hk;omega) (inv.set hr' hkn) hB' hK)
theorem fS {id:Nat} {Q:Exit->Act->World->Prop} {a:Act} {l:List Oper} (n:Nat) (o:Oper) (ho:l[n]?=some o) (hm:P.follows .mixedOrders=true) (hB:Sa .any l.toArray n=true)
  (h:wpStill P l.toArray w.drew (fun a'=>∀K:Act->World->Prop,(∀a1 w1,wpStill P l.toArray w1 (fun a2=>Q .normal a2 w1) (l.drop (n+1)) a1->K a1 w1)->if Region.wanted o (yielded l.toArray a'.tmps)=true then Oper.wp P o a' w.drew K Q else K (a'.put o.dst undef) w.drew) (l.take n) a):(Code.region id l.toArray true).wp P Q a w:=by
 obtain⟨Bh,aaO⟩:=dt.1 hB
 obtain⟨TM,WI⟩:=dt.1 Bh
 obtain⟨XI,hs⟩:=dt.1 TM
 obtain⟨eo,hn⟩:=dt.1 XI
 have hn':n<l.length:=by simpa using iX hn
 have htl:(l.take n).length=n:=by simp;omega
 have aa1:HeadInv .any l.toArray n (Array.replicate l.toArray.size false):=
  ⟨bq,fun j oj _ hl=>(by rw [getD_replicate_false]at hl;cases hl),fun t _ ht=>getD_in (by simpa using ht) (getD_replicate_false _ _)⟩
 have H:=D7 (md:= .any) (g:=l.toArray.size-n-1) eo (fun listed inv i hi hun=>Gd hs WI inv _ i rfl hi hun) (l.take n) 0 _ a (fun j hj=>by
  have hj':j<n:=by rw [htl]at hj;exact hj
  simp [hj']) (by simpa using htl) aa1 (by rw [htl];exact aaO) h
 refine wp_region_any hm ?_
 have:=wpAny_of_head (Q':=Q) (g:=(l.toArray.size-n-1)+1) (fun listed a' hL=>by
  obtain⟨⟨hr,hx⟩,hq⟩:=hL
  refine⟨fun h0=>(by rw [hr]at h0;cases h0),fun i hi=>?_⟩
  rw [hr]at hi
  obtain rfl:i=n:=nB.1 hi
  have zq:(l.drop (i+1)).length=l.toArray.size-i-1:=by simp;omega
  refine wpOp_step (by simpa using ho) fun K' hK'=>hq K' fun a1 w1 h1=>hK' a1 w1 (wpAny_of_still (Q:=fun a2=>Q .normal a2 w1) (fun _ h=>h) _ _ _ ?_)
  have:=wpAnyS_lex (md:= .any) eo (l.drop (i+1)) (i+1) (listed.setIfInBounds i true) a1 (fun j=>by simp [List.getElem?_drop]) (by rw [zq];exact hx) h1
  rwa [zq]at this) _ _ _ H
 rw [htl,show n+(l.toArray.size-n-1+1)=l.toArray.size by simp;omega]at this
 exact this
end
end Go.Proofs.YtmljjfhgciaceaaDoor
