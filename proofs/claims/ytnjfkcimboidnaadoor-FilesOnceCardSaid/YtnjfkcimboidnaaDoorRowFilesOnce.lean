/- The law FilesOnce: for every input that can be read it returns true, and every argument reads afterwards as it read before. No condition. -/
import Derived.Test.YtnjfkcimboidnaaDoorPA
import Derived.Test.YtnjfkcimboidnaaDoorCards
import Derived.Test.YtnjfkcimboidnaaDoorLawFilesOnce
import Derived.Test.YtnjfkcimboidnaaDoorOpenBy
namespace Go.Proofs.YtnjfkcimboidnaaDoor
open Go.ChangeShapes Go.WideShapes Go.ChangeAt Go.RowKit
theorem filesOnce_spec {H:Type}:∀ds:List (DataW H),ds.length=Tryd.f6.params.size→Rows.filesOnceSpec.fn H (ds++[])={ results:=[.lit (.bool true)],args:=ds }:=by
 intro ds hds
 match ds,hds with
 |[_],_=>rfl
set_option maxRecDepth 100000 in
theorem filesOnce_lifted (os:Os) (started:os.Started) (H:Type) (enc:TypeId×Value→H) :
  ReturnsInHanded {} Tryd.checked os 6 .any (fun w args=>(Rows.filesOnceSpec.pre enc Tryd.prog Tryd.f6 [] false w args∧laidMetH Tryd.prog laidL w)∧sizedMet enc Tryd.prog Tryd.f6 (OpenSpec.ofChange Rows.filesOnceSpec) false w args) (Rows.filesOnceSpec.post enc Tryd.prog Tryd.f6 false true false false):=by
 refine lifted_of_laid (C:=Tryd.checked) (tb:=4) (L:=laidL) Tryd.own started (by kernel_rfl) Tryd.func6
  (ChangeSpec.witness_shaped (enc:=enc) (C:=Tryd.checked) (os:=os) (X:=fun w _=>laidMetH Tryd.prog laidL w) false (World.doorLaid Tryd.prog 14 os) #[.slice none 0 0] 8 rfl (World.shaped_of_RefB (by kernel_rfl) (by kernel_rfl)) (by kernel_rfl) (by kernel_rfl) (by kernel_rfl) (door_met os _))
  Tryd.laidOut (by rw [show Tryd.f6.params=_ from Tryd.params6];intro t ht;simp at ht;subst ht;exact⟨by kernel_rfl,of_decide_eq_true (by kernel_rfl)⟩) rfl rfl Tryd.underlying4 filesOnce_spec ?_
 intro W base args ds ps hval0 hA0 hlt hsz0 hL
 have SZ:=sizes_of_laid hL
 have hval:∀(j:Nat) t v,Tryd.f6.params[j]?=some t→args[j]?=some v→Value.okWide Tryd.prog W .any base t v:=hval0
 have hA:DataW.TrodAll enc Tryd.prog W 0 (fun _=>true) true Tryd.f6.params.toList args.toList ds ps:=hA0
 have hsz:(DataW.weightsEach Tryd.prog Tryd.f6.params.toList ds).all (·≤reachBytes)=true:=hsz0
 rw [Tryd.params6]at hA hval hsz
 clear hA0 hval0 hsz0
 obtain⟨v0,d0,rfl,rfl,h0⟩:=trodAll_one hA
 obtain⟨x0,a0,q0⟩:=open_bytes' (hval 0 _ v0 rfl rfl) h0 (fun m hm=>weights_le hsz (j:=0) rfl rfl m hm)
 exact filesOnce_any a0 q0 SZ
theorem filesOnce_holds:Rows.FilesOnceSaid:=
 OpenClaim.holds_of_wide 6 Tryd.f6 rfl rfl rfl rfl rfl rfl rfl ⟨rfl,rfl,rfl,rfl,rfl⟩ rfl rfl rfl rfl rfl (by kernel_rfl) Tryd.func6 (by kernel_rfl)
  (of_decide_eq_true (by kernel_rfl)) (by unfold Func.isWrapper;rw [if_neg (of_decide_eq_false (by kernel_rfl))];exact⟨rfl,rfl⟩)
  (fun os started H enc _=>filesOnce_lifted os started H enc)
theorem filesOnce_card:Rows.FilesOnceCardSaid:=
 Claim7.holds_tied_plain_at .later [] [.widerDeep] true _ false
  filesOnce_holds (fun _ h=>by cases h) (by kernel_rfl) (fun _ h=>by cases h) filesOnce_row_tie rfl ⟨rfl,rfl⟩ (by kernel_rfl) rfl
  (fun f fn hf hfn=>by
   obtain rfl : f = 6 := Option.some.inj ((show Tryd.prog.funcNamed "winnower/winnowerkeep.FilesOnce" = some 6 by kernel_rfl).symm.trans hf) |>.symm
   obtain rfl:fn=Tryd.f6:=(Option.some.inj (Tryd.func6.symm.trans hfn)).symm
   exact⟨by kernel_rfl,fun j t ht=>by
    rw [Tryd.params6]at ht
    have hm:t∈[54]:=by simpa using Array.mem_of_getElem? ht
    have hall:([54].all fun u=>!Tryd.prog.wantsStandIn u)=true:=by kernel_rfl
    exact(show Tryd.prog.wantsStandIn t=false by simpa using List.all_eq_true.1 hall t hm)⟩)
  (by kernel_rfl)
#print axioms filesOnce_card
end Go.Proofs.YtnjfkcimboidnaaDoor
