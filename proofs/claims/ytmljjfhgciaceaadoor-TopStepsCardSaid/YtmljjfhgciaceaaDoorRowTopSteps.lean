import Derived.Test.YtmljjfhgciaceaaDoorHd
import Derived.Test.YtmljjfhgciaceaaDoorPA
import Derived.Test.YtmljjfhgciaceaaDoorCards
import Derived.Test.YtmljjfhgciaceaaDoorLawTopSteps
import Derived.Test.YtmljjfhgciaceaaDoorKT
namespace Go.Proofs.YtmljjfhgciaceaaDoor
open Go.ChangeShapes Go.WideShapes Go.ChangeAt Go.RowKit
set_option maxRecDepth 100000
theorem abN {H:Type}:∀ds:List (DataW H),ds.length=Tryd.f9.params.size->Rows.topStepsSpec.fn H (ds++[])={ results:=[.lit (.bool true)],args:=ds }:=by
 intro ds hds
 match ds,hds with
 |[_,_],_=>rfl
theorem aby (os:Os) (started:os.Started) (H:Type) (enc:TypeId×Value->H) :
  ReturnsInHanded {} Tryd.checked os 9 .any (fun w args=>(Rows.topStepsSpec.pre enc Tryd.prog Tryd.f9 [] false w args/\laidMetH Tryd.prog qX w)/\sizedMet enc Tryd.prog Tryd.f9 (OpenSpec.ofChange Rows.topStepsSpec) false w args) (Rows.topStepsSpec.post enc Tryd.prog Tryd.f9 false true false false):=by
 refine ng (C:=Tryd.checked) (tb:=4) (L:=qX) Tryd.own started bT Tryd.func9
  (ChangeSpec.witness_shaped (enc:=enc) (C:=Tryd.checked) (os:=os) (X:=fun w _=>laidMetH Tryd.prog qX w) false (World.doorLaid Tryd.prog 14 os) #[.slice none 0 0, .int .i64 0] 8 rfl (World.shaped_of_RefB bT bT) bT bT bT (Ad os _))
  Tryd.laidOut (by rw [show Tryd.f9.params=_ from Tryd.params9];intro t ht;simp at ht;rcases ht with ht|ht <;> subst ht <;> exact⟨bT,iy bT⟩) rfl rfl Tryd.underlying4 abN ?_
 intro W base args ds ps hval0 hA0 hlt Ek hL
 have SZ:=om hL
 have hval:∀(j:Nat) t v,Tryd.f9.params[j]?=some t->args[j]?=some v->Value.okWide Tryd.prog W .any base t v:=hval0
 have hA:DataW.TrodAll enc Tryd.prog W 0 (fun _=>true) true Tryd.f9.params.toList args.toList ds ps:=hA0
 have hsz:(DataW.weightsEach Tryd.prog Tryd.f9.params.toList ds).all (·<=reachBytes)=true:=Ek
 rw [Tryd.params9]at hA hval hsz
 clear hA0 hval0 Ek
 obtain⟨v0,v1,d0,d1,p0,p1,rfl,rfl,rfl,h0,h1⟩:=trodAll_two hA
 obtain⟨x0,a0,q0⟩:=pO (hval 0 _ v0 rfl rfl) h0 (fun m hm=>pD hsz (j:=0) rfl rfl m hm)
 obtain⟨n1,rfl,wl1,wh1⟩:=JJ (hval 1 _ v1 rfl rfl) h1
 exact abW a0 q0 ⟨wl1,wh1⟩ SZ
theorem topSteps_holds:Rows.TopStepsSaid:=
 OpenClaim.holds_of_wide 9 Tryd.f9 rfl rfl rfl rfl rfl rfl rfl ⟨rfl,rfl,rfl,rfl,rfl⟩ rfl rfl rfl rfl rfl bT Tryd.func9 bT
  (iy bT) (by unfold Func.isWrapper;rw [ai (Ql bT)];exact⟨rfl,rfl⟩)
  (fun os started H enc _=>aby os started H enc)
theorem topSteps_card:Rows.TopStepsCardSaid:=
 Claim7.holds_tied_plain_at .later [] [.widerDeep] true _ false
  topSteps_holds (fun _ h=>by cases h) bT (fun _ h=>by cases h) topSteps_row_tie rfl ⟨rfl,rfl⟩ bT rfl
  (fun f fn hf hfn=>by
   obtain rfl : f = 9 := Option.some.inj ((show Tryd.prog.funcNamed "winnower/winnowertop.TopSteps" = some 9 by kernel_rfl).symm.trans hf) |>.symm
   obtain rfl:fn=Tryd.f9:=(cY (Tryd.func9.symm.trans hfn)).symm
   exact⟨bT,fun j t ht=>by
    rw [Tryd.params9]at ht
    have hm:t∈[22,3]:=by simpa using Uc ht
    have hall:([22,3].all fun u=>!Tryd.prog.wantsStandIn u)=true:=bT
    exact(show Tryd.prog.wantsStandIn t=false by simpa using nK.1 hall t hm)⟩)
  bT
#print axioms topSteps_card
end Go.Proofs.YtmljjfhgciaceaaDoor
