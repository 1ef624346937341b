/- Texts of mine that come as one: Sched Fork SchedG Pivot. -/
import Derived.StillTailTactics
import Derived.RegionTactic
import Derived.OrdersHeld
import Derived.Deep.RegionHeld3
/- A region that draws its order: reads that yield the same wherever they stand, and the operations that do something, in the one order that the region forces. -/
namespace Go.Proofs.YtnjfkcimboidnaaDoor
open Go
section
variable {P:Program} {ops:Array Oper} {Q:Exit→Act→World→Prop} {md:Region.Mode} {S:World→Prop} {z:Nat}
def Till (S:World→Prop) (z:Nat) (listed:Array Bool) (w:World):Prop:=listed.getD z true=false→S w
def InOrder (md:Region.Mode) (ops:Array Oper) (listed:Array Bool):Prop:=listed.size=ops.size∧∀j oj,ops[j]?=some oj→listed.getD j false=true→∀e∈oj.after,Region.binds md e=true→listed.getD e.on false=true
theorem InOrder.set {listed:Array Bool} {j:Nat} (h:InOrder md ops listed) (hj:j∈Region.ready md ops listed):InOrder md ops (listed.setIfInBounds j true):=by
 refine⟨by simp [h.1],fun k ok hk hl e he hb=>?_⟩
 by_cases hjk:j=k
 ·subst hjk
  obtain⟨_,o,ho,hall⟩:=mem_ready.1 hj
  obtain rfl:o=ok:=Option.some.inj (ho.symm.trans hk)
  exact getD_set_true (hall e he hb)
 ·rw [getD_set_ne false hjk]at hl
  exact getD_set_true (h.2 k ok hk hl e he hb)
def pathB (md:Region.Mode) (ops:Array Oper) (z:Nat):Nat→Nat→Bool
 |0,_=>false
 |f+1,i=>(List.range ops.size).any fun j=>Region.waitsFor md ops j i && (decide (j=z) || pathB md ops z f j)
theorem path_late {listed:Array Bool} (inv:InOrder md ops listed):∀{f i:Nat},pathB md ops z f i=true→listed.getD i true=false→listed.getD z true=false∧z∉Region.ready md ops listed
 |0,_,h,_=>by cases h
 |f+1,i,h,hu=>by
  obtain⟨j,hj,h2⟩:=List.any_eq_true.1 h
  obtain⟨h3,h4⟩:=Bool.and_eq_true_iff.1 h2
  obtain⟨oj,hoj,e,he,hb,hon⟩:=Region.waitsFor_spec h3
  have hju:listed.getD j true=false:=by
   refine getD_in (by rw [inv.1];exact List.mem_range.1 hj) ?_
   cases hlj:listed.getD j false with
   |false=>rfl
   |true=>
    have h5:=inv.2 j oj hoj hlj e he hb
    rw [hon,getD_both hu]at h5;cases h5
  rcases Bool.or_eq_true_iff.1 h4 with h4|h4
  ·have hjz:=of_decide_eq_true h4
   subst hjz
   refine⟨hju,fun hr=>?_⟩
   obtain⟨_,o,ho,hall⟩:=mem_ready.1 hr
   obtain rfl:o=oj:=Option.some.inj (ho.symm.trans hoj)
   have h5:=hall e he hb
   rw [hon,getD_both hu]at h5;cases h5
  ·exact path_late inv h4 hju
def wpAnyZ (P:Program) (md:Region.Mode) (ops:Array Oper) (Q:Exit→Act→World→Prop) (S:World→Prop) (z:Nat):Nat→Array Bool→Act→World→Prop
 |0,listed,a,w=>Region.ready md ops listed=[]∧Q .normal a w
 |fuel+1,listed,a,w=>
  (Region.ready md ops listed=[]→Q .normal a w) ∧
  ∀i∈Region.ready md ops listed,wpOp P ops Q i (fun a' w'=>Till S z (listed.setIfInBounds i true) w'∧wpAnyZ P md ops Q S z fuel (listed.setIfInBounds i true) a' w') a w
theorem wpAny_of_till:∀(fuel:Nat) (listed:Array Bool) (a:Act) (w:World),wpAnyZ P md ops Q S z fuel listed a w→wpAny P md ops Q fuel listed a w
 |0,_,_,_,h=>h
 |fuel+1,_,_,_,h=>⟨h.1,fun i hi=>wpOp_mono (fun a' w' h'=>wpAny_of_till fuel _ a' w' h'.2) (h.2 i hi)⟩
theorem till_set {listed:Array Bool} {i:Nat} {w:World} (h:Till S z listed w) (hiz:i≠z):Till S z (listed.setIfInBounds i true) w:=fun hz=>h (by rw [getD_set_ne true hiz]at hz;exact hz)
theorem wpAnyZ_first {S':World→Prop} {i:Nat} {oi:Oper} {v:Value} (hi:ops[i]?=some oi) (hsel:∀(j:Nat) (o:Oper) cs b,ops[j]?=some o→o.op ≠ .select cs b)
  (hQ:∀c a w,Q (.panic c) (a.put oi.dst v) w→Q (.panic c) a w) (hiz:i≠z) (hk:(∃f,pathB md ops z f i=true∧∀w,S w→S' w)∨∀w,S' w) :
  ∀(fuel:Nat) (listed:Array Bool) (a:Act) (w:World),InOrder md ops listed →
   (∀j oj,ops[j]?=some oj→j≠i→listed.getD j true=false→(∀e∈oj.after,Region.binds md e=true→e.on≠i)→oi.apart ops oj=true) →
   i∈Region.ready md ops listed→YieldsIf P ops S' oi v a→Till S z listed w →
   wpAnyZ P md ops Q S z fuel (listed.setIfInBounds i true) (a.put oi.dst v) w→wpAnyZ P md ops Q S z (fuel+1) listed a w:=by
 have sat:∀listed w,InOrder md ops listed→i∈Region.ready md ops listed→Till S z listed w→S' w:=fun listed w inv hr ht=>by
  rcases hk with ⟨f,hf,hs⟩|hs
  ·exact hs w (ht (path_late inv hf (mem_ready.1 hr).1).1)
  ·exact hs w
 have notz:∀listed,InOrder md ops listed→i∈Region.ready md ops listed→True:=fun _ _ _=>trivial
 intro fuel
 induction fuel with
 |zero=>
  intro listed a w inv _ hr hy hS H
  refine⟨fun h=>(by rw [h]at hr;cases hr),fun j hj=>?_⟩
  by_cases hji:j=i
  ·subst hji;exact hy.wpOp hi (sat _ _ inv hr hS) ⟨till_set hS hiz,H⟩
  ·have:=ready_mono hj hji
   rw [H.1]at this
   cases this
 |succ fuel ih=>
  intro listed a w inv hfree hr hy hS H
  refine⟨fun h=>(by rw [h]at hr;cases hr),fun j hj=>?_⟩
  by_cases hji:j=i
  ·subst hji;exact hy.wpOp hi (sat _ _ inv hr hS) ⟨till_set hS hiz,H⟩
  ·have h1:=H.2 j (ready_mono hj hji)
   obtain⟨hjun,oj,hoj,hall⟩:=mem_ready.1 hj
   have hnot:∀e∈oj.after,Region.binds md e=true→e.on≠i:=fun e he hb heq=>by
    have h1:=hall e he hb
    rw [heq,getD_both (mem_ready.1 hr).1]at h1
    cases h1
   have h2:=wpOp_putIf hoj (hfree j oj hoj hji hjun hnot) (fun cs b=>hsel i oi cs b hi) (fun cs b=>hsel j oj cs b hoj) hQ hy h1
   have hfree':∀k ok,ops[k]?=some ok→k≠i→(listed.setIfInBounds j true).getD k true=false →
     (∀e∈ok.after,Region.binds md e=true→e.on≠i)→oi.apart ops ok=true:=fun k ok hk hki hun hno=>by
    refine hfree k ok hk hki ?_ hno
    by_cases hjk:j=k
    ·subst hjk;exact hjun
    ·rw [getD_set_ne true hjk]at hun;exact hun
   refine wpOp_mono (fun a' w' h3=>?_) h2
   have ht:Till S z (listed.setIfInBounds j true) w':=fun hz=>h3.2.1 (by
    rw [Array.setIfInBounds_comm _ _ (Ne.symm hji),getD_set_ne true hiz];exact hz)
   refine⟨ht,ih (listed.setIfInBounds j true) a' w' (inv.set hj) hfree' (ready_mono hr (Ne.symm hji)) h3.1 ht ?_⟩
   rw [Array.setIfInBounds_comm _ _ hji]
   exact h3.2.2
def schedB (md:Region.Mode) (ops:Array Oper) (z:Nat):List (Nat×Nat)→Array Bool→Bool
 |[],listed=>decide (Region.ready md ops listed=[])
 |(i,0)::r,listed=>(Region.ready md ops listed).contains i && Region.free md ops listed i && !decide (i=z) && pathB md ops z ops.size i && schedB md ops z r (listed.setIfInBounds i true)
 |(i,1)::r,listed=>(Region.ready md ops listed).contains i && Region.free md ops listed i && !decide (i=z) && schedB md ops z r (listed.setIfInBounds i true)
 |(i,2)::r,listed=>decide (Region.ready md ops listed=[i]) && !decide (i=z) && schedB md ops z r (listed.setIfInBounds i true)
 |(i,_+3)::r,listed=>decide (Region.ready md ops listed=[i]) && decide (i=z) && schedB md ops z r (listed.setIfInBounds i true)
def wpSched (P:Program) (Q:Exit→Act→World→Prop) (S:World→Prop):List (Oper×Nat)→Act→World→Prop
 |[],a,w=>Q .normal a w
 |(o,0)::l,a,w=>o.guard=none∧∃v,(∀W,S W→(execOp a.eval o).run P W = .ok (.value v) W)∧wpSched P Q S l (a.put o.dst v) w
 |(o,1)::l,a,w=>o.guard=none∧∃v,(∀W,(execOp a.eval o).run P W = .ok (.value v) W)∧wpSched P Q S l (a.put o.dst v) w
 |(o,2)::l,a,w=>o.guard=none∧∀K:Act→World→Prop,(∀a' w',S w'→wpSched P Q S l a' w'→K a' w')→Oper.wp P o a w K Q
 |(o,_+3)::l,a,w=>o.guard=none∧∀K:Act→World→Prop,(∀a' w',wpSched P Q S l a' w'→K a' w')→Oper.wp P o a w K Q
def pickS (l:List Oper) (s:List (Nat×Nat)):List (Oper×Nat):=s.filterMap fun p=>(l[p.1]?).map fun o=>(o,p.2)
theorem wanted_bare {o:Oper} (h:o.guard=none) (x:Nat→Option Bool):Region.wanted o x=true:=by simp [Region.wanted,h]
theorem sched_sound (hsel:Region.noSelect ops=true) (hQ:∀c a d v w,Q (.panic c) (a.put d v) w→Q (.panic c) a w) :
  ∀(s:List (Nat×Nat)) (listed:Array Bool) (a:Act) (w:World),InOrder md ops listed→schedB md ops z s listed=true→Till S z listed w→wpSched P Q S (pickS ops.toList s) a w→wpAnyZ P md ops Q S z s.length listed a w
 |[],listed,a,w,_,hB,_,h=>⟨of_decide_eq_true hB,h⟩
 |(i,0)::r,listed,a,w,inv,hB,hS,h=>by
  obtain⟨hB,h5⟩:=Bool.and_eq_true_iff.1 hB
  obtain⟨hB,h4⟩:=Bool.and_eq_true_iff.1 hB
  obtain⟨hB,h3⟩:=Bool.and_eq_true_iff.1 hB
  obtain⟨h1,h2⟩:=Bool.and_eq_true_iff.1 hB
  have hr:i∈Region.ready md ops listed:=by simpa using h1
  have hiz:i≠z:=by simpa using h3
  obtain⟨_,oi,hi,_⟩:=mem_ready.1 hr
  have e:pickS ops.toList ((i,0)::r)=(oi,0)::pickS ops.toList r:=by
   have:ops.toList[i]?=some oi:=by simpa using hi
   unfold pickS;rw [List.filterMap_cons,this];rfl
  rw [e]at h
  obtain⟨hg,v,hy,hl⟩:=h
  exact wpAnyZ_first (S':=S) hi (Region.noSelect_spec hsel) (fun c a w=>hQ c a _ _ w) hiz (.inl ⟨_,h4,fun _ h=>h⟩) r.length listed a w inv (Region.free_spec hi h2) hr (.inl ⟨wanted_bare hg _,hy⟩) hS
   (sched_sound hsel hQ r _ _ _ (inv.set hr) h5 (till_set hS hiz) hl)
 |(i,1)::r,listed,a,w,inv,hB,hS,h=>by
  obtain⟨hB,h5⟩:=Bool.and_eq_true_iff.1 hB
  obtain⟨hB,h3⟩:=Bool.and_eq_true_iff.1 hB
  obtain⟨h1,h2⟩:=Bool.and_eq_true_iff.1 hB
  have hr:i∈Region.ready md ops listed:=by simpa using h1
  have hiz:i≠z:=by simpa using h3
  obtain⟨_,oi,hi,_⟩:=mem_ready.1 hr
  have e:pickS ops.toList ((i,1)::r)=(oi,1)::pickS ops.toList r:=by
   have:ops.toList[i]?=some oi:=by simpa using hi
   unfold pickS;rw [List.filterMap_cons,this];rfl
  rw [e]at h
  obtain⟨hg,v,hy,hl⟩:=h
  exact wpAnyZ_first (S':=fun _=>True) hi (Region.noSelect_spec hsel) (fun c a w=>hQ c a _ _ w) hiz (.inr fun _=>trivial) r.length listed a w inv (Region.free_spec hi h2) hr (.inl ⟨wanted_bare hg _,fun w _=>hy w⟩) hS
   (sched_sound hsel hQ r _ _ _ (inv.set hr) h5 (till_set hS hiz) hl)
 |(i,2)::r,listed,a,w,inv,hB,hS,h=>by
  obtain⟨hB,h5⟩:=Bool.and_eq_true_iff.1 hB
  obtain⟨h1,h3⟩:=Bool.and_eq_true_iff.1 hB
  have hr:=of_decide_eq_true h1
  have hiz:i≠z:=by simpa using h3
  have hm:i∈Region.ready md ops listed:=by rw [hr];simp
  obtain⟨_,oi,hi,_⟩:=mem_ready.1 hm
  have e:pickS ops.toList ((i,2)::r)=(oi,2)::pickS ops.toList r:=by
   have:ops.toList[i]?=some oi:=by simpa using hi
   unfold pickS;rw [List.filterMap_cons,this];rfl
  rw [e]at h
  obtain⟨hg,hl⟩:=h
  refine⟨fun h0=>(by rw [h0]at hm;cases hm),fun j hj=>?_⟩
  rw [hr]at hj
  obtain rfl:j=i:=List.mem_singleton.1 hj
  refine wpOp_step hi fun K' hK'=>?_
  rw [if_pos (wanted_bare hg _)]
  exact hl K' fun a' w' hs hh=>hK' a' w' ⟨fun _=>hs,sched_sound hsel hQ r _ _ _ (inv.set hm) h5 (fun _=>hs) hh⟩
 |(i,k+3)::r,listed,a,w,inv,hB,hS,h=>by
  obtain⟨hB,h5⟩:=Bool.and_eq_true_iff.1 hB
  obtain⟨h1,h3⟩:=Bool.and_eq_true_iff.1 hB
  have hr:=of_decide_eq_true h1
  have hiz:=of_decide_eq_true h3
  have hm:i∈Region.ready md ops listed:=by rw [hr];simp
  obtain⟨_,oi,hi,_⟩:=mem_ready.1 hm
  have e:pickS ops.toList ((i,k+3)::r)=(oi,k+3)::pickS ops.toList r:=by
   have:ops.toList[i]?=some oi:=by simpa using hi
   unfold pickS;rw [List.filterMap_cons,this];rfl
  rw [e]at h
  obtain⟨hg,hl⟩:=h
  refine⟨fun h0=>(by rw [h0]at hm;cases hm),fun j hj=>?_⟩
  rw [hr]at hj
  obtain rfl:j=i:=List.mem_singleton.1 hj
  refine wpOp_step hi fun K' hK'=>?_
  rw [if_pos (wanted_bare hg _)]
  have ht:∀w',Till S z (listed.setIfInBounds j true) w':=fun w' hz=>by
   rw [←hiz]at hz
   have hlt:j<listed.size:=by rw [inv.1];exact(Array.getElem?_eq_some_iff.1 hi).1
   simp [hlt]at hz
  exact hl K' fun a' w' hh=>hK' a' w' ⟨ht w',sched_sound hsel hQ r _ _ _ (inv.set hm) h5 (ht w') hh⟩
def startB (md:Region.Mode) (ops:Array Oper) (z:Nat) (s:List (Nat×Nat)):Bool:=Region.noSelect ops && decide (s.length=ops.size) && schedB md ops z s (Array.replicate ops.size false)
theorem wp_region_sched {id:Nat} {a:Act} {w:World} {l:List Oper} (s:List (Nat×Nat)) (z:Nat) (S:World→Prop) (hm:P.follows .mixedOrders=true) (hB:startB .any l.toArray z s=true)
  (hS:S w.drew) (h:wpSched P (NoPanic Q) S (pickS l s) a w.drew):(Code.region id l.toArray true).wp P Q a w:=by
 obtain⟨hB1,h3⟩:=Bool.and_eq_true_iff.1 hB
 obtain⟨h1,h2⟩:=Bool.and_eq_true_iff.1 hB1
 refine wp_region_noPanic (wp_region_any hm (wpAny_of_till (S:=S) (z:=z) _ _ _ _ ?_))
 have:=sched_sound (md:= .any) (ops:=l.toArray) (S:=S) (z:=z) (P:=P) (Q:=NoPanic Q) h1 (fun _ _ _ _ _ h=>h) s (Array.replicate l.toArray.size false) a w.drew
  ⟨by simp,fun j oj _ hl=>(by rw [getD_replicate_false]at hl;cases hl)⟩ h3 (fun _=>hS) h
 rw [of_decide_eq_true h2]at this
 exact this
theorem sched_read {o:Oper} {l:List (Oper×Nat)} {a:Act} {w:World} {v:Value} (hg:o.guard=none) (h:∀W,S W→(execOp a.eval o).run P W = .ok (.value v) W) (hl:wpSched P Q S l (a.put o.dst v) w):wpSched P Q S ((o,0)::l) a w:=⟨hg,v,h,hl⟩
theorem sched_pure {o:Oper} {l:List (Oper×Nat)} {a:Act} {w:World} {v:Value} (hg:o.guard=none) (h:∀W,(execOp a.eval o).run P W = .ok (.value v) W) (hl:wpSched P Q S l (a.put o.dst v) w):wpSched P Q S ((o,1)::l) a w:=⟨hg,v,h,hl⟩
theorem sched_does {o:Oper} {l:List (Oper×Nat)} {a:Act} {w:World} (hg:o.guard=none) (h:∀K:Act→World→Prop,(∀a' w',S w'→wpSched P Q S l a' w'→K a' w')→Oper.wp P o a w K Q):wpSched P Q S ((o,2)::l) a w:=⟨hg,h⟩
theorem sched_last {o:Oper} {l:List (Oper×Nat)} {a:Act} {w:World} (hg:o.guard=none) (h:∀K:Act→World→Prop,(∀a' w',wpSched P Q S l a' w'→K a' w')→Oper.wp P o a w K Q):wpSched P Q S ((o,3)::l) a w:=⟨hg,h⟩
theorem sched_end {a:Act} {w:World} (h:Q .normal a w):wpSched P (NoPanic Q) S [] a w:=h
end
end Go.Proofs.YtnjfkcimboidnaaDoor

/- A region that draws its order, where two operations that do something may come in either order. -/
namespace Go.Proofs.YtnjfkcimboidnaaDoor
open Go
inductive Sch where
 |nil
 |step (i k:Nat) (r:Sch)
 |fork (i j:Nat) (a b:Sch)
def Sch.len:Sch→Nat
 |nil=>0
 |step _ _ r=>r.len+1
 |fork _ _ a _=>a.len+1
def Sch.of:List (Nat×Nat)→Sch→Sch
 |[],r=>r
 |(i,k)::l,r=> .step i k (Sch.of l r)
section
variable {P:Program} {ops:Array Oper} {Q:Exit→Act→World→Prop} {md:Region.Mode} {S:World→Prop} {z:Nat}
def schB (md:Region.Mode) (ops:Array Oper) (z:Nat):Sch→Array Bool→Bool
 |.nil,listed=>decide (Region.ready md ops listed=[])
 |.step i 0 r,listed=>(Region.ready md ops listed).contains i && Region.free md ops listed i && !decide (i=z) && pathB md ops z ops.size i && schB md ops z r (listed.setIfInBounds i true)
 |.step i 1 r,listed=>(Region.ready md ops listed).contains i && Region.free md ops listed i && !decide (i=z) && schB md ops z r (listed.setIfInBounds i true)
 |.step i 2 r,listed=>decide (Region.ready md ops listed=[i]) && !decide (i=z) && schB md ops z r (listed.setIfInBounds i true)
 |.step i (_+3) r,listed=>decide (Region.ready md ops listed=[i]) && decide (i=z) && schB md ops z r (listed.setIfInBounds i true)
 |.fork i j a b,listed=>decide (Region.ready md ops listed=[i,j]) && !decide (i=z) && !decide (j=z) && decide (a.len=b.len) && schB md ops z a (listed.setIfInBounds i true) && schB md ops z b (listed.setIfInBounds j true)
def wpSch (P:Program) (Q:Exit→Act→World→Prop) (S:World→Prop) (l:List Oper):Sch→Act→World→Prop
 |.nil,a,w=>Q .normal a w
 |.step i 0 r,a,w=>∃o,l[i]?=some o∧o.guard=none∧∃v,(∀W,S W→(execOp a.eval o).run P W = .ok (.value v) W)∧wpSch P Q S l r (a.put o.dst v) w
 |.step i 1 r,a,w=>∃o,l[i]?=some o∧o.guard=none∧∃v,(∀W,(execOp a.eval o).run P W = .ok (.value v) W)∧wpSch P Q S l r (a.put o.dst v) w
 |.step i 2 r,a,w=>∃o,l[i]?=some o∧o.guard=none∧∀K:Act→World→Prop,(∀a' w',S w'→wpSch P Q S l r a' w'→K a' w')→Oper.wp P o a w K Q
 |.step i (_+3) r,a,w=>∃o,l[i]?=some o∧o.guard=none∧∀K:Act→World→Prop,(∀a' w',wpSch P Q S l r a' w'→K a' w')→Oper.wp P o a w K Q
 |.fork i j ra rb,a,w=>(∃o,l[i]?=some o∧o.guard=none∧∀K:Act→World→Prop,(∀a' w',S w'→wpSch P Q S l ra a' w'→K a' w')→Oper.wp P o a w K Q) ∧
   ∃o,l[j]?=some o∧o.guard=none∧∀K:Act→World→Prop,(∀a' w',S w'→wpSch P Q S l rb a' w'→K a' w')→Oper.wp P o a w K Q
theorem sch_sound (hsel:Region.noSelect ops=true) (hQ:∀c a d v w,Q (.panic c) (a.put d v) w→Q (.panic c) a w) :
  ∀(s:Sch) (listed:Array Bool) (a:Act) (w:World),InOrder md ops listed→schB md ops z s listed=true→Till S z listed w→wpSch P Q S ops.toList s a w→wpAnyZ P md ops Q S z s.len listed a w
 |.nil,listed,a,w,_,hB,_,h=>⟨of_decide_eq_true hB,h⟩
 |.step i 0 r,listed,a,w,inv,hB,hS,h=>by
  obtain⟨hB,h5⟩:=Bool.and_eq_true_iff.1 hB
  obtain⟨hB,h4⟩:=Bool.and_eq_true_iff.1 hB
  obtain⟨hB,h3⟩:=Bool.and_eq_true_iff.1 hB
  obtain⟨h1,h2⟩:=Bool.and_eq_true_iff.1 hB
  have hr:i∈Region.ready md ops listed:=by simpa using h1
  have hiz:i≠z:=by simpa using h3
  obtain⟨oi,hoi,hg,v,hy,hl⟩:=h
  have hi:ops[i]?=some oi:=by simpa using hoi
  exact wpAnyZ_first (S':=S) hi (Region.noSelect_spec hsel) (fun c a w=>hQ c a _ _ w) hiz (.inl ⟨_,h4,fun _ h=>h⟩) r.len listed a w inv (Region.free_spec hi h2) hr (.inl ⟨wanted_bare hg _,hy⟩) hS
   (sch_sound hsel hQ r _ _ _ (inv.set hr) h5 (till_set hS hiz) hl)
 |.step i 1 r,listed,a,w,inv,hB,hS,h=>by
  obtain⟨hB,h5⟩:=Bool.and_eq_true_iff.1 hB
  obtain⟨hB,h3⟩:=Bool.and_eq_true_iff.1 hB
  obtain⟨h1,h2⟩:=Bool.and_eq_true_iff.1 hB
  have hr:i∈Region.ready md ops listed:=by simpa using h1
  have hiz:i≠z:=by simpa using h3
  obtain⟨oi,hoi,hg,v,hy,hl⟩:=h
  have hi:ops[i]?=some oi:=by simpa using hoi
  exact wpAnyZ_first (S':=fun _=>True) hi (Region.noSelect_spec hsel) (fun c a w=>hQ c a _ _ w) hiz (.inr fun _=>trivial) r.len listed a w inv (Region.free_spec hi h2) hr (.inl ⟨wanted_bare hg _,fun w _=>hy w⟩) hS
   (sch_sound hsel hQ r _ _ _ (inv.set hr) h5 (till_set hS hiz) hl)
 |.step i 2 r,listed,a,w,inv,hB,hS,h=>by
  obtain⟨hB,h5⟩:=Bool.and_eq_true_iff.1 hB
  obtain⟨h1,h3⟩:=Bool.and_eq_true_iff.1 hB
  have hr:=of_decide_eq_true h1
  have hiz:i≠z:=by simpa using h3
  have hm:i∈Region.ready md ops listed:=by rw [hr];simp
  obtain⟨oi,hoi,hg,hl⟩:=h
  have hi:ops[i]?=some oi:=by simpa using hoi
  refine⟨fun h0=>(by rw [h0]at hm;cases hm),fun j hj=>?_⟩
  rw [hr]at hj
  obtain rfl:j=i:=List.mem_singleton.1 hj
  refine wpOp_step hi fun K' hK'=>?_
  rw [if_pos (wanted_bare hg _)]
  exact hl K' fun a' w' hs hh=>hK' a' w' ⟨fun _=>hs,sch_sound hsel hQ r _ _ _ (inv.set hm) h5 (fun _=>hs) hh⟩
 |.step i (k+3) r,listed,a,w,inv,hB,hS,h=>by
  obtain⟨hB,h5⟩:=Bool.and_eq_true_iff.1 hB
  obtain⟨h1,h3⟩:=Bool.and_eq_true_iff.1 hB
  have hr:=of_decide_eq_true h1
  have hiz:=of_decide_eq_true h3
  have hm:i∈Region.ready md ops listed:=by rw [hr];simp
  obtain⟨oi,hoi,hg,hl⟩:=h
  have hi:ops[i]?=some oi:=by simpa using hoi
  refine⟨fun h0=>(by rw [h0]at hm;cases hm),fun j hj=>?_⟩
  rw [hr]at hj
  obtain rfl:j=i:=List.mem_singleton.1 hj
  refine wpOp_step hi fun K' hK'=>?_
  rw [if_pos (wanted_bare hg _)]
  have ht:∀w',Till S z (listed.setIfInBounds j true) w':=fun w' hz=>by
   rw [←hiz]at hz
   have hlt:j<listed.size:=by rw [inv.1];exact(Array.getElem?_eq_some_iff.1 hi).1
   simp [hlt]at hz
  exact hl K' fun a' w' hh=>hK' a' w' ⟨ht w',sch_sound hsel hQ r _ _ _ (inv.set hm) h5 (ht w') hh⟩
 |.fork i j ra rb,listed,a,w,inv,hB,hS,h=>by
  obtain⟨hB,h7⟩:=Bool.and_eq_true_iff.1 hB
  obtain⟨hB,h6⟩:=Bool.and_eq_true_iff.1 hB
  obtain⟨hB,h5⟩:=Bool.and_eq_true_iff.1 hB
  obtain⟨hB,h4⟩:=Bool.and_eq_true_iff.1 hB
  obtain⟨h1,h3⟩:=Bool.and_eq_true_iff.1 hB
  have hr:=of_decide_eq_true h1
  have hl5:=of_decide_eq_true h5
  have hmi:i∈Region.ready md ops listed:=by rw [hr];simp
  have hmj:j∈Region.ready md ops listed:=by rw [hr];simp
  obtain⟨⟨oi,hoi,hg,hl⟩,oj,hoj,hgj,hlj⟩:=h
  have hi:ops[i]?=some oi:=by simpa using hoi
  have hj':ops[j]?=some oj:=by simpa using hoj
  refine⟨fun h0=>(by rw [h0]at hmi;cases hmi),fun k hk=>?_⟩
  rw [hr]at hk
  rcases List.mem_cons.1 hk with rfl|hk
  ·refine wpOp_step hi fun K' hK'=>?_
   rw [if_pos (wanted_bare hg _)]
   exact hl K' fun a' w' hs hh=>hK' a' w' ⟨fun _=>hs,sch_sound hsel hQ ra _ _ _ (inv.set hmi) h6 (fun _=>hs) hh⟩
  ·obtain rfl:k=j:=List.mem_singleton.1 hk
   refine wpOp_step hj' fun K' hK'=>?_
   rw [if_pos (wanted_bare hgj _)]
   refine hlj K' fun a' w' hs hh=>hK' a' w' ⟨fun _=>hs,?_⟩
   have:=sch_sound hsel hQ rb _ _ _ (inv.set hmj) h7 (fun _=>hs) hh
   rw [←hl5]at this;exact this
def startF (md:Region.Mode) (ops:Array Oper) (z:Nat) (s:Sch):Bool:=Region.noSelect ops && decide (s.len=ops.size) && schB md ops z s (Array.replicate ops.size false)
theorem wp_region_fork {id:Nat} {a:Act} {w:World} {l:List Oper} (s:Sch) (z:Nat) (S:World→Prop) (hm:P.follows .mixedOrders=true) (hB:startF .any l.toArray z s=true)
  (hS:S w.drew) (h:wpSch P (NoPanic Q) S l s a w.drew):(Code.region id l.toArray true).wp P Q a w:=by
 obtain⟨hB1,h3⟩:=Bool.and_eq_true_iff.1 hB
 obtain⟨h1,h2⟩:=Bool.and_eq_true_iff.1 hB1
 refine wp_region_noPanic (wp_region_any hm (wpAny_of_till (S:=S) (z:=z) _ _ _ _ ?_))
 have:=sch_sound (md:= .any) (ops:=l.toArray) (S:=S) (z:=z) (P:=P) (Q:=NoPanic Q) h1 (fun _ _ _ _ _ h=>h) s (Array.replicate l.toArray.size false) a w.drew
  ⟨by simp,fun j oj _ hl=>(by rw [getD_replicate_false]at hl;cases hl)⟩ h3 (fun _=>hS) h
 rw [of_decide_eq_true h2]at this
 exact this
theorem fork_read {l:List Oper} {i:Nat} {o:Oper} {r:Sch} {a:Act} {w:World} {v:Value} (ho:l[i]?=some o) (hg:o.guard=none) (h:∀W,S W→(execOp a.eval o).run P W = .ok (.value v) W) (hl:wpSch P Q S l r (a.put o.dst v) w):wpSch P Q S l (.step i 0 r) a w:=⟨o,ho,hg,v,h,hl⟩
theorem fork_pure {l:List Oper} {i:Nat} {o:Oper} {r:Sch} {a:Act} {w:World} {v:Value} (ho:l[i]?=some o) (hg:o.guard=none) (h:∀W,(execOp a.eval o).run P W = .ok (.value v) W) (hl:wpSch P Q S l r (a.put o.dst v) w):wpSch P Q S l (.step i 1 r) a w:=⟨o,ho,hg,v,h,hl⟩
theorem fork_does {l:List Oper} {i:Nat} {o:Oper} {r:Sch} {a:Act} {w:World} (ho:l[i]?=some o) (hg:o.guard=none) (h:∀K:Act→World→Prop,(∀a' w',S w'→wpSch P Q S l r a' w'→K a' w')→Oper.wp P o a w K Q):wpSch P Q S l (.step i 2 r) a w:=⟨o,ho,hg,h⟩
theorem fork_last {l:List Oper} {i:Nat} {o:Oper} {r:Sch} {a:Act} {w:World} (ho:l[i]?=some o) (hg:o.guard=none) (h:∀K:Act→World→Prop,(∀a' w',wpSch P Q S l r a' w'→K a' w')→Oper.wp P o a w K Q):wpSch P Q S l (.step i 3 r) a w:=⟨o,ho,hg,h⟩
theorem fork_both {l:List Oper} {i j:Nat} {oi oj:Oper} {ra rb:Sch} {a:Act} {w:World} (hoi:l[i]?=some oi) (hgi:oi.guard=none) (hoj:l[j]?=some oj) (hgj:oj.guard=none)
  (hi:∀K:Act→World→Prop,(∀a' w',S w'→wpSch P Q S l ra a' w'→K a' w')→Oper.wp P oi a w K Q) (hj:∀K:Act→World→Prop,(∀a' w',S w'→wpSch P Q S l rb a' w'→K a' w')→Oper.wp P oj a w K Q):wpSch P Q S l (.fork i j ra rb) a w:=⟨⟨oi,hoi,hgi,hi⟩,oj,hoj,hgj,hj⟩
theorem fork_end {l:List Oper} {a:Act} {w:World} (h:Q .normal a w):wpSch P (NoPanic Q) S l .nil a w:=h
end
end Go.Proofs.YtnjfkcimboidnaaDoor

/- A region that draws its order and in which operations are guarded: walked in one order; what a guard leaves out is skipped. -/
namespace Go.Proofs.YtnjfkcimboidnaaDoor
open Go
section
variable {P:Program} {ops:Array Oper} {Q:Exit→Act→World→Prop} {md:Region.Mode} {S:World→Prop} {z:Nat}
def wpSchedG (P:Program) (ops:Array Oper) (Q:Exit→Act→World→Prop) (S:World→Prop):List (Oper×Nat)→Act→World→Prop
 |[],a,w=>Q .normal a w
 |(o,0)::l,a,w=>(Region.wanted o (yielded ops a.tmps)=true∧∃v,(∀W,S W→(execOp a.eval o).run P W = .ok (.value v) W)∧wpSchedG P ops Q S l (a.put o.dst v) w)∨(Region.wanted o (yielded ops a.tmps)=false∧wpSchedG P ops Q S l (a.put o.dst undef) w)
 |(o,1)::l,a,w=>(Region.wanted o (yielded ops a.tmps)=true∧∃v,(∀W,(execOp a.eval o).run P W = .ok (.value v) W)∧wpSchedG P ops Q S l (a.put o.dst v) w)∨(Region.wanted o (yielded ops a.tmps)=false∧wpSchedG P ops Q S l (a.put o.dst undef) w)
 |(o,2)::l,a,w=>(Region.wanted o (yielded ops a.tmps)=true∧∀K:Act→World→Prop,(∀a' w',S w'→wpSchedG P ops Q S l a' w'→K a' w')→Oper.wp P o a w K Q)∨(Region.wanted o (yielded ops a.tmps)=false∧wpSchedG P ops Q S l (a.put o.dst undef) w)
 |(o,_+3)::l,a,w=>(Region.wanted o (yielded ops a.tmps)=true∧∀K:Act→World→Prop,(∀a' w',wpSchedG P ops Q S l a' w'→K a' w')→Oper.wp P o a w K Q)∨(Region.wanted o (yielded ops a.tmps)=false∧wpSchedG P ops Q S l (a.put o.dst undef) w)
theorem schedG_sound (hsel:Region.noSelect ops=true) (hQ:∀c a d v w,Q (.panic c) (a.put d v) w→Q (.panic c) a w) :
  ∀(s:List (Nat×Nat)) (listed:Array Bool) (a:Act) (w:World),InOrder md ops listed→schedB md ops z s listed=true→Till S z listed w→wpSchedG P ops Q S (pickS ops.toList s) a w→wpAnyZ P md ops Q S z s.length listed a w
 |[],listed,a,w,_,hB,_,h=>⟨of_decide_eq_true hB,h⟩
 |(i,0)::r,listed,a,w,inv,hB,hS,h=>by
  obtain⟨hB,h5⟩:=Bool.and_eq_true_iff.1 hB
  obtain⟨hB,h4⟩:=Bool.and_eq_true_iff.1 hB
  obtain⟨hB,h3⟩:=Bool.and_eq_true_iff.1 hB
  obtain⟨h1,h2⟩:=Bool.and_eq_true_iff.1 hB
  have hr:i∈Region.ready md ops listed:=by simpa using h1
  have hiz:i≠z:=by simpa using h3
  obtain⟨_,oi,hi,_⟩:=mem_ready.1 hr
  have e:pickS ops.toList ((i,0)::r)=(oi,0)::pickS ops.toList r:=by
   have:ops.toList[i]?=some oi:=by simpa using hi
   unfold pickS;rw [List.filterMap_cons,this];rfl
  rw [e]at h
  rcases h with ⟨hg,v,hy,hl⟩|⟨hg,hl⟩
  ·exact wpAnyZ_first (S':=S) hi (Region.noSelect_spec hsel) (fun c a w=>hQ c a _ _ w) hiz (.inl ⟨_,h4,fun _ h=>h⟩) r.length listed a w inv (Region.free_spec hi h2) hr (.inl ⟨hg,hy⟩) hS
    (schedG_sound hsel hQ r _ _ _ (inv.set hr) h5 (till_set hS hiz) hl)
  ·exact wpAnyZ_first (S':=S) hi (Region.noSelect_spec hsel) (fun c a w=>hQ c a _ _ w) hiz (.inl ⟨_,h4,fun _ h=>h⟩) r.length listed a w inv (Region.free_spec hi h2) hr (.inr ⟨hg,rfl⟩) hS
    (schedG_sound hsel hQ r _ _ _ (inv.set hr) h5 (till_set hS hiz) hl)
 |(i,1)::r,listed,a,w,inv,hB,hS,h=>by
  obtain⟨hB,h5⟩:=Bool.and_eq_true_iff.1 hB
  obtain⟨hB,h3⟩:=Bool.and_eq_true_iff.1 hB
  obtain⟨h1,h2⟩:=Bool.and_eq_true_iff.1 hB
  have hr:i∈Region.ready md ops listed:=by simpa using h1
  have hiz:i≠z:=by simpa using h3
  obtain⟨_,oi,hi,_⟩:=mem_ready.1 hr
  have e:pickS ops.toList ((i,1)::r)=(oi,1)::pickS ops.toList r:=by
   have:ops.toList[i]?=some oi:=by simpa using hi
   unfold pickS;rw [List.filterMap_cons,this];rfl
  rw [e]at h
  rcases h with ⟨hg,v,hy,hl⟩|⟨hg,hl⟩
  ·exact wpAnyZ_first (S':=fun _=>True) hi (Region.noSelect_spec hsel) (fun c a w=>hQ c a _ _ w) hiz (.inr fun _=>trivial) r.length listed a w inv (Region.free_spec hi h2) hr (.inl ⟨hg,fun w _=>hy w⟩) hS
    (schedG_sound hsel hQ r _ _ _ (inv.set hr) h5 (till_set hS hiz) hl)
  ·exact wpAnyZ_first (S':=fun _=>True) hi (Region.noSelect_spec hsel) (fun c a w=>hQ c a _ _ w) hiz (.inr fun _=>trivial) r.length listed a w inv (Region.free_spec hi h2) hr (.inr ⟨hg,rfl⟩) hS
    (schedG_sound hsel hQ r _ _ _ (inv.set hr) h5 (till_set hS hiz) hl)
 |(i,2)::r,listed,a,w,inv,hB,hS,h=>by
  obtain⟨hB,h5⟩:=Bool.and_eq_true_iff.1 hB
  obtain⟨h1,h3⟩:=Bool.and_eq_true_iff.1 hB
  have hr:=of_decide_eq_true h1
  have hiz:i≠z:=by simpa using h3
  have hm:i∈Region.ready md ops listed:=by rw [hr];simp
  obtain⟨_,oi,hi,_⟩:=mem_ready.1 hm
  have e:pickS ops.toList ((i,2)::r)=(oi,2)::pickS ops.toList r:=by
   have:ops.toList[i]?=some oi:=by simpa using hi
   unfold pickS;rw [List.filterMap_cons,this];rfl
  rw [e]at h
  refine⟨fun h0=>(by rw [h0]at hm;cases hm),fun j hj=>?_⟩
  rw [hr]at hj
  obtain rfl:j=i:=List.mem_singleton.1 hj
  refine wpOp_step hi fun K' hK'=>?_
  rcases h with ⟨hg,hl⟩|⟨hg,hl⟩
  ·rw [if_pos hg]
   exact hl K' fun a' w' hs hh=>hK' a' w' ⟨fun _=>hs,schedG_sound hsel hQ r _ _ _ (inv.set hm) h5 (fun _=>hs) hh⟩
  ·rw [if_neg (by simp [hg])]
   exact hK' _ _ ⟨till_set hS hiz,schedG_sound hsel hQ r _ _ _ (inv.set hm) h5 (till_set hS hiz) hl⟩
 |(i,k+3)::r,listed,a,w,inv,hB,hS,h=>by
  obtain⟨hB,h5⟩:=Bool.and_eq_true_iff.1 hB
  obtain⟨h1,h3⟩:=Bool.and_eq_true_iff.1 hB
  have hr:=of_decide_eq_true h1
  have hiz:=of_decide_eq_true h3
  have hm:i∈Region.ready md ops listed:=by rw [hr];simp
  obtain⟨_,oi,hi,_⟩:=mem_ready.1 hm
  have e:pickS ops.toList ((i,k+3)::r)=(oi,k+3)::pickS ops.toList r:=by
   have:ops.toList[i]?=some oi:=by simpa using hi
   unfold pickS;rw [List.filterMap_cons,this];rfl
  rw [e]at h
  refine⟨fun h0=>(by rw [h0]at hm;cases hm),fun j hj=>?_⟩
  rw [hr]at hj
  obtain rfl:j=i:=List.mem_singleton.1 hj
  have ht:∀w',Till S z (listed.setIfInBounds j true) w':=fun w' hz=>by
   rw [←hiz]at hz
   have hlt:j<listed.size:=by rw [inv.1];exact(Array.getElem?_eq_some_iff.1 hi).1
   simp [hlt]at hz
  refine wpOp_step hi fun K' hK'=>?_
  rcases h with ⟨hg,hl⟩|⟨hg,hl⟩
  ·rw [if_pos hg]
   exact hl K' fun a' w' hh=>hK' a' w' ⟨ht w',schedG_sound hsel hQ r _ _ _ (inv.set hm) h5 (ht w') hh⟩
  ·rw [if_neg (by simp [hg])]
   exact hK' _ _ ⟨ht w,schedG_sound hsel hQ r _ _ _ (inv.set hm) h5 (ht w) hl⟩
theorem wp_region_schedG {id:Nat} {a:Act} {w:World} {l:List Oper} (s:List (Nat×Nat)) (z:Nat) (S:World→Prop) (hm:P.follows .mixedOrders=true) (hB:startB .any l.toArray z s=true)
  (hS:S w.drew) (h:wpSchedG P l.toArray (NoPanic Q) S (pickS l s) a w.drew):(Code.region id l.toArray true).wp P Q a w:=by
 obtain⟨hB1,h3⟩:=Bool.and_eq_true_iff.1 hB
 obtain⟨h1,h2⟩:=Bool.and_eq_true_iff.1 hB1
 refine wp_region_noPanic (wp_region_any hm (wpAny_of_till (S:=S) (z:=z) _ _ _ _ ?_))
 have:=schedG_sound (md:= .any) (ops:=l.toArray) (S:=S) (z:=z) (P:=P) (Q:=NoPanic Q) h1 (fun _ _ _ _ _ h=>h) s (Array.replicate l.toArray.size false) a w.drew
  ⟨by simp,fun j oj _ hl=>(by rw [getD_replicate_false]at hl;cases hl)⟩ h3 (fun _=>hS) h
 rw [of_decide_eq_true h2]at this
 exact this
theorem wanted_guard {o oj:Oper} {ops:Array Oper} {a:Act} {j d:Nat} {want b:Bool} (hg:o.guard=some (j,want)) (hj:ops[j]?=some oj) (hd:oj.dst=some d) (ht:a.tmps[d]?=some (.bool b)):Region.wanted o (yielded ops a.tmps)=(b == want):=by
 simp [Region.wanted,yielded,hg,hj,hd,ht]
theorem wanted_yes {o oj:Oper} {ops:Array Oper} {a:Act} {j d:Nat} {b:Bool} (hg:o.guard=some (j,b)) (hj:ops[j]?=some oj) (hd:oj.dst=some d) (ht:a.tmps[d]?=some (.bool b)):Region.wanted o (yielded ops a.tmps)=true:=by
 rw [wanted_guard hg hj hd ht];simp
theorem wanted_no {o oj:Oper} {ops:Array Oper} {a:Act} {j d:Nat} {b:Bool} (hg:o.guard=some (j,b)) (hj:ops[j]?=some oj) (hd:oj.dst=some d) (ht:a.tmps[d]?=some (.bool !b)):Region.wanted o (yielded ops a.tmps)=false:=by
 rw [wanted_guard hg hj hd ht];cases b <;> rfl
variable {o:Oper} {l:List (Oper×Nat)} {a:Act} {w:World}
theorem schedG_read {v:Value} (hg:Region.wanted o (yielded ops a.tmps)=true) (h:∀W,S W→(execOp a.eval o).run P W = .ok (.value v) W) (hl:wpSchedG P ops Q S l (a.put o.dst v) w):wpSchedG P ops Q S ((o,0)::l) a w:= .inl ⟨hg,v,h,hl⟩
theorem schedG_pure {v:Value} (hg:Region.wanted o (yielded ops a.tmps)=true) (h:∀W,(execOp a.eval o).run P W = .ok (.value v) W) (hl:wpSchedG P ops Q S l (a.put o.dst v) w):wpSchedG P ops Q S ((o,1)::l) a w:= .inl ⟨hg,v,h,hl⟩
theorem schedG_does (hg:Region.wanted o (yielded ops a.tmps)=true) (h:∀K:Act→World→Prop,(∀a' w',S w'→wpSchedG P ops Q S l a' w'→K a' w')→Oper.wp P o a w K Q):wpSchedG P ops Q S ((o,2)::l) a w:= .inl ⟨hg,h⟩
theorem schedG_last (hg:Region.wanted o (yielded ops a.tmps)=true) (h:∀K:Act→World→Prop,(∀a' w',wpSchedG P ops Q S l a' w'→K a' w')→Oper.wp P o a w K Q):wpSchedG P ops Q S ((o,3)::l) a w:= .inl ⟨hg,h⟩
theorem schedG_skip {n:Nat} (hg:Region.wanted o (yielded ops a.tmps)=false) (hl:wpSchedG P ops Q S l (a.put o.dst undef) w):wpSchedG P ops Q S ((o,n)::l) a w:=
 match n with
 |0=> .inr ⟨hg,hl⟩
 |1=> .inr ⟨hg,hl⟩
 |2=> .inr ⟨hg,hl⟩
 |_+3=> .inr ⟨hg,hl⟩
theorem schedG_end (h:Q .normal a w):wpSchedG P ops (NoPanic Q) S [] a w:=h
end
end Go.Proofs.YtnjfkcimboidnaaDoor

/- A region that draws its order: operations that only read, then one that may do anything, then operations that only read, each of which waits for that one. -/
namespace Go.Proofs.YtnjfkcimboidnaaDoor
open Go
section
variable {P:Program} {ops:Array Oper} {md:Region.Mode} {w:World}
def lateB (md:Region.Mode) (ops:Array Oper) (n:Nat):Bool:=
 (List.range ops.size).all fun t=>decide (t≤n) || (List.range t).any fun u=>decide (n≤u) && Region.waitsFor md ops t u
theorem late_waits {n:Nat} {listed:Array Bool} (hs:Region.sinkB md ops n=true) (hl:lateB md ops n=true) (inv:HeadInv md ops n listed) :
  ∀(d i:Nat),n-i=d→i<n→listed.getD i true=false→∀t,n≤t→t∉Region.ready md ops listed:=by
 intro d
 induction d using Nat.strongRecOn with
 |_ d ih=>
  intro i hd hi hun t ht hr
  obtain⟨_,ot,hot,hall⟩:=mem_ready.1 hr
  have htlt:t<ops.size:=(Array.getElem?_eq_some_iff.1 hot).1
  rcases Nat.lt_or_ge n t with htn|htn
  ·have h1:=List.all_eq_true.1 hl t (List.mem_range.2 htlt)
   rcases Bool.or_eq_true_iff.1 h1 with h1|h1
   ·have:=of_decide_eq_true h1;omega
   ·obtain⟨u,hu,h2⟩:=List.any_eq_true.1 h1
    obtain⟨h3,h4⟩:=Bool.and_eq_true_iff.1 h2
    have hut:=List.mem_range.1 hu
    have hnu:=of_decide_eq_true h3
    obtain⟨o',ho',e,he,hb,hon⟩:=Region.waitsFor_spec h4
    obtain rfl:o'=ot:=Option.some.inj (ho'.symm.trans hot)
    have h5:=hall e he hb
    rw [hon,getD_both (inv.tail u hnu (by omega))]at h5
    cases h5
  ·obtain rfl:t=n:=by omega
   obtain⟨j,hj,h2⟩:=List.any_eq_true.1 (List.all_eq_true.1 hs i (List.mem_range.2 hi))
   obtain⟨h3,h4⟩:=Bool.and_eq_true_iff.1 h2
   have hij:=of_decide_eq_true h3
   have hjr:=List.mem_range.1 hj
   obtain⟨oj,hoj,e,he,hb,hon⟩:=Region.waitsFor_spec h4
   rcases Nat.lt_or_ge j t with hjt|hjt
   ·cases hlj:listed.getD j false with
    |true=>
     have h5:=inv.closed j oj hoj hlj e he hb
     rw [hon,getD_both hun]at h5
     cases h5
    |false=>exact ih (t-j) (by omega) j rfl hjt (getD_in (by rw [inv.size];omega) hlj) t (Nat.le_refl _) hr
   ·obtain rfl:j=t:=by omega
    obtain rfl:oj=ot:=Option.some.inj (hoj.symm.trans hot)
    have h5:=hall e he hb
    rw [hon,getD_both hun]at h5
    cases h5
theorem head_first {n i:Nat} {oi:Oper} {v:Value} {L:Array Bool→Act→Prop} (hi:ops[i]?=some oi) (hsel:∀(j:Nat) (o:Oper) cs b,ops[j]?=some o→o.op ≠ .select cs b)
  (hw:∀listed,HeadInv md ops n listed→∀i,i<n→listed.getD i true=false→∀t,n≤t→t∉Region.ready md ops listed) (hin:i<n)
  (hdone:∀listed a,L listed a→∀j∈Region.ready md ops listed,n≤j) (f:Nat) :
  ∀(listed:Array Bool) (a:Act),HeadInv md ops n listed →
   (∀j oj,ops[j]?=some oj→j≠i→listed.getD j true=false→(∀e∈oj.after,Region.binds md e=true→e.on≠i)→oi.apart ops oj=true) →
   i∈Region.ready md ops listed→YieldsAt P ops w oi v a →
   wpAnyL P md ops w n L f (listed.setIfInBounds i true) (a.put oi.dst v)→wpAnyL P md ops w n L (f+1) listed a:=by
 induction f with
 |zero=>
  intro listed a inv _ hr hy H
  refine⟨List.ne_nil_of_mem hr,fun j hj=>?_⟩
  have hjn:j<n:=Nat.lt_of_not_le fun h=>hw listed inv i hin (mem_ready.1 hr).1 j h hj
  refine⟨hjn,?_⟩
  by_cases hji:j=i
  ·subst hji;exact hy.stOp hi H
  ·exact absurd (hdone _ _ H j (ready_mono hj hji)) (by omega)
 |succ f ih=>
  intro listed a inv hfree hr hy H
  refine⟨List.ne_nil_of_mem hr,fun j hj=>?_⟩
  have hjn:j<n:=Nat.lt_of_not_le fun h=>hw listed inv i hin (mem_ready.1 hr).1 j h hj
  refine⟨hjn,?_⟩
  by_cases hji:j=i
  ·subst hji;exact hy.stOp hi H
  ·obtain⟨hjun,oj,hoj,hall⟩:=mem_ready.1 hj
   have hnot:∀e∈oj.after,Region.binds md e=true→e.on≠i:=fun e he hb heq=>by
    have h1:=hall e he hb
    rw [heq,getD_both (mem_ready.1 hr).1]at h1
    cases h1
   have hun:∀k,(listed.setIfInBounds j true).getD k true=false→listed.getD k true=false:=fun k hk=>by
    by_cases hjk:j=k
    ·subst hjk;exact hjun
    ·rwa [getD_set_ne true hjk]at hk
   have h2:=stOp_put hoj (hfree j oj hoj hji hjun hnot) (fun cs b=>hsel i oi cs b hi) (fun cs b=>hsel j oj cs b hoj) hy (H.2 j (ready_mono hj hji)).2
   refine stOp_mono (fun a' h3=>ih (listed.setIfInBounds j true) a' (inv.set hj hjn) (fun k ok hk hki hku hno=>hfree k ok hk hki (hun k hku) hno) (ready_mono hr (Ne.symm hji)) h3.1 ?_) h2
   rw [Array.setIfInBounds_comm _ _ hji]
   exact h3.2
def pivotFrom (md:Region.Mode) (ops:Array Oper) (g:Nat):Nat→Nat→Array Bool→Bool
 |0,k,listed=>decide (Region.ready md ops listed=[k]) && Region.lexFrom md ops g (k+1) (listed.setIfInBounds k true)
 |f+1,k,listed=>(Region.ready md ops listed).contains k && Region.free md ops listed k && pivotFrom md ops g f (k+1) (listed.setIfInBounds k true)
def pivotB (md:Region.Mode) (ops:Array Oper) (n:Nat):Bool:=
 Region.noSelect ops && decide (n<ops.size) && Region.sinkB md ops n && lateB md ops n && pivotFrom md ops (ops.size-n-1) n 0 (Array.replicate ops.size false)
theorem head_lex {n g:Nat} {Lq:Act→Prop} (hsel:Region.noSelect ops=true) (hw:∀listed,HeadInv md ops n listed→∀i,i<n→listed.getD i true=false→∀t,n≤t→t∉Region.ready md ops listed) :
  ∀(l:List Oper) (k:Nat) (listed:Array Bool) (a:Act),(∀j,j<l.length→l[j]?=ops[k+j]?)→k+l.length=n→HeadInv md ops n listed →
  pivotFrom md ops g l.length k listed=true→wpStill P ops w Lq l a →
  wpAnyL P md ops w n (fun listed' a'=>(Region.ready md ops listed'=[n]∧Region.lexFrom md ops g (n+1) (listed'.setIfInBounds n true)=true)∧Lq a') l.length listed a
 |[],k,listed,a,_,hk,_,hB,h=>by
  obtain rfl:k=n:=by simpa using hk
  obtain⟨h1,h2⟩:=Bool.and_eq_true_iff.1 hB
  exact⟨⟨of_decide_eq_true h1,h2⟩,h⟩
 |o::l,k,listed,a,hl,hk,inv,hB,h=>by
  have h0:ops[k]?=some o:=by simpa using (hl 0 (by simp)).symm
  obtain⟨hB1,hB'⟩:=Bool.and_eq_true_iff.1 hB
  obtain⟨hr,hf⟩:=Bool.and_eq_true_iff.1 hB1
  have hkn:k<n:=by rw [List.length_cons]at hk;omega
  have hr':k∈Region.ready md ops listed:=by simpa using hr
  have hst:stOp P ops w k (wpStill P ops w Lq l) a:=by unfold stOp;simp only [h0];exact h
  obtain⟨v,hy,hK⟩:=yieldsAt_of_stOp h0 hst
  exact head_first h0 (Region.noSelect_spec hsel) hw hkn (fun listed' a' hL j hj=>by rw [hL.1.1]at hj;exact Nat.le_of_eq (List.mem_singleton.1 hj).symm) l.length listed a inv (Region.free_spec h0 hf) hr' hy
   (head_lex hsel hw l (k+1) _ _ (fun j hj=>by have:=hl (j+1) (by simp;omega);simpa [Nat.add_assoc,Nat.add_comm 1 j] using this) (by rw [List.length_cons]at hk;omega) (inv.set hr' hkn) hB' hK)
theorem wp_region_pivot {id:Nat} {Q:Exit→Act→World→Prop} {a:Act} {l:List Oper} (n:Nat) (o:Oper) (ho:l[n]?=some o) (hm:P.follows .mixedOrders=true) (hB:pivotB .any l.toArray n=true)
  (h:wpStill P l.toArray w.drew (fun a'=>∀K:Act→World→Prop,(∀a1 w1,wpStill P l.toArray w1 (fun a2=>Q .normal a2 w1) (l.drop (n+1)) a1→K a1 w1)→if Region.wanted o (yielded l.toArray a'.tmps)=true then Oper.wp P o a' w.drew K Q else K (a'.put o.dst undef) w.drew) (l.take n) a):(Code.region id l.toArray true).wp P Q a w:=by
 obtain⟨hB1,hlex⟩:=Bool.and_eq_true_iff.1 hB
 obtain⟨hB2,hlate⟩:=Bool.and_eq_true_iff.1 hB1
 obtain⟨hB3,hs⟩:=Bool.and_eq_true_iff.1 hB2
 obtain⟨hsel,hn⟩:=Bool.and_eq_true_iff.1 hB3
 have hn':n<l.length:=by simpa using of_decide_eq_true hn
 have htl:(l.take n).length=n:=by simp;omega
 have inv0:HeadInv .any l.toArray n (Array.replicate l.toArray.size false):=
  ⟨by simp,fun j oj _ hl=>(by rw [getD_replicate_false]at hl;cases hl),fun t _ ht=>getD_in (by simpa using ht) (getD_replicate_false _ _)⟩
 have H:=head_lex (md:= .any) (g:=l.toArray.size-n-1) hsel (fun listed inv i hi hun=>late_waits hs hlate inv _ i rfl hi hun) (l.take n) 0 _ a (fun j hj=>by
  have hj':j<n:=by rw [htl]at hj;exact hj
  simp [hj']) (by simpa using htl) inv0 (by rw [htl];exact hlex) h
 refine wp_region_any hm ?_
 have:=wpAny_of_head (Q':=Q) (g:=(l.toArray.size-n-1)+1) (fun listed a' hL=>by
  obtain⟨⟨hr,hx⟩,hq⟩:=hL
  refine⟨fun h0=>(by rw [hr]at h0;cases h0),fun i hi=>?_⟩
  rw [hr]at hi
  obtain rfl:i=n:=List.mem_singleton.1 hi
  have hdl:(l.drop (i+1)).length=l.toArray.size-i-1:=by simp;omega
  refine wpOp_step (by simpa using ho) fun K' hK'=>hq K' fun a1 w1 h1=>hK' a1 w1 (wpAny_of_still (Q:=fun a2=>Q .normal a2 w1) (fun _ h=>h) _ _ _ ?_)
  have:=wpAnyS_lex (md:= .any) hsel (l.drop (i+1)) (i+1) (listed.setIfInBounds i true) a1 (fun j=>by simp [List.getElem?_drop]) (by rw [hdl];exact hx) h1
  rwa [hdl]at this) _ _ _ H
 rw [htl,show n+(l.toArray.size-n-1+1)=l.toArray.size by simp;omega]at this
 exact this
end
end Go.Proofs.YtnjfkcimboidnaaDoor
