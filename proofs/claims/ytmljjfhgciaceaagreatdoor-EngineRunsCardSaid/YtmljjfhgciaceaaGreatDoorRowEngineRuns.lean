/- The law EngineRuns: for every input that can be read it returns true, and every argument reads afterwards as it read before. No condition. -/
import Derived.Test.YtmljjfhgciaceaaGreatDoorHd
import Derived.Test.YtmljjfhgciaceaaGreatDoorCz
import Derived.Test.YtmljjfhgciaceaaGreatDoorPA
import Derived.Test.YtmljjfhgciaceaaGreatDoorCards
import Derived.Test.YtmljjfhgciaceaaGreatDoorLawEngineRuns
import Derived.Test.YtmljjfhgciaceaaGreatDoorAE
namespace Go.Proofs.YtmljjfhgciaceaaGreatDoor
open Go.ChangeShapes Go.WideShapes Go.ChangeAt Go.RowKit
set_option maxRecDepth 100000
theorem Be {H:Type}:∀ds:List (DataW H),ds=Tryz.f3.params.size->Rows.engineRunsSpec.fn H (ds++[])={ results:=[.lit (.bool true)],args:=ds }:=by
 intro ds hds
 match ds,hds with
 |[_],_=>rfl
theorem yL (os:Os) (started:os.Started) (H:Type) (enc:TypeId×Value->H) :
  ReturnsInHanded {} Tryz.checked os 3 .any (fun w args=>(Rows.engineRunsSpec.pre enc Tryz.prog Tryz.f3 [] false w args/\laidMetH Tryz.prog Iy w)/\sizedMet enc Tryz.prog Tryz.f3 (OpenSpec.ofChange Rows.engineRunsSpec) false w args) (Rows.engineRunsSpec.post enc Tryz.prog Tryz.f3 false true false false):=by
 refine Cx (C:=Tryz.checked) (tb:=4) (L:=Iy) Tryz.own started cV Tryz.func3
  (ChangeSpec.witness_shaped (enc:=enc) (C:=Tryz.checked) (os:=os) (X:=fun w _=>laidMetH Tryz.prog Iy w) false (World.doorLaid Tryz.prog 14 os) #[az 0 0] 8 rfl (World.shaped_of_RefB cV cV) cV cV cV (SB os _))
  Tryz.laidOut (by rw [show Tryz.f3.params=_ from Tryz.params3];intro t ht;simp at ht;subst ht;exact⟨cV,kD cV⟩) rfl rfl Tryz.underlying4 Be ?_
 intro W base args ds ps hval0 hA0 hlt Eg hL;have SZ:=D6 hL;have hval:∀(j:Nat) t v,Tryz.f3.params[j]?=some t->args[j]?=some v->Value.okWide Tryz.prog W .any base t v:=hval0;have hA:DataW.TrodAll enc Tryz.prog W 0 (fun _=>true) true Tryz.f3.params.toList args.toList ds ps:=hA0;have hsz:(DataW.weightsEach Tryz.prog Tryz.f3.params.toList ds).all (·<=reachBytes)=true:=Eg;rw [Tryz.params3]at hA hval hsz;clear hA0 hval0 Eg;obtain⟨v0,d0,rfl,rfl,h0⟩:=trodAll_one hA;obtain⟨x0,a0,q0⟩:=K8 (hval 0 _ v0 rfl rfl) h0 (fun m hm=>KA hsz (j:=0) rfl rfl m hm);exact C8 a0 q0 SZ
theorem engineRuns_holds:Rows.EngineRunsSaid:=
 OpenClaim.holds_of_wide 3 Tryz.f3 rfl rfl rfl rfl rfl rfl rfl ⟨rfl,rfl,rfl,rfl,rfl⟩ rfl rfl rfl rfl rfl cV Tryz.func3 cV
  (kD cV) (by unfold Func.isWrapper;rw [ar (Zj cV)];exact⟨rfl,rfl⟩)
  (fun os started H enc _=>yL os started H enc)
theorem engineRuns_card:Rows.EngineRunsCardSaid:=
 Claim7.holds_tied_plain_at .later [] [.widerDeep] true _ false
  engineRuns_holds (fun _ h=>by cases h) cV (fun _ h=>by cases h) engineRuns_row_tie rfl ⟨rfl,rfl⟩ cV rfl
  (fun f fn hf hfn=>by
   obtain rfl : f = 3 := Option.some.inj ((show Tryz.prog.funcNamed "winnower/winnowerlaw.EngineRuns" = some 3 by kernel_rfl).symm.trans hf) |>.symm;obtain rfl:fn=Tryz.f3:=(dh (Tryz.func3.symm.trans hfn)).symm;exact⟨cV,fun j t ht=>by
    rw [Tryz.params3]at ht;have hm:t∈[22]:=(by simpa using ahM ht);have hall:([22].all fun u=>!Tryz.prog.wantsStandIn u)=true:=cV;exact(show Tryz.prog.wantsStandIn t=false by simpa using rH.1 hall t hm)⟩)
  cV
#print axioms engineRuns_card
end Go.Proofs.YtmljjfhgciaceaaGreatDoor
