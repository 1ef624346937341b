import Derived.Test.YtmljjfhgciaceaaDoorHd
import Derived.Test.YtmljjfhgciaceaaDoorPA
import Derived.Test.YtmljjfhgciaceaaDoorCards
import Derived.Test.YtmljjfhgciaceaaDoorLawTopSwap
import Derived.Test.YtmljjfhgciaceaaDoorKT
namespace Go.Proofs.YtmljjfhgciaceaaDoor
open Go.ChangeShapes Go.WideShapes Go.ChangeAt Go.RowKit
set_option maxRecDepth 100000
theorem abV {H:Type}:∀ds:List (DataW H),ds.length=Tryd.f8.params.size->Rows.topSwapSpec.fn H (ds++[])={ results:=[.lit (.bool true)],args:=ds }:=by
 intro ds hds
 match ds,hds with
 |[_,_,_],_=>rfl
theorem abD (os:Os) (started:os.Started) (H:Type) (enc:TypeId×Value->H) :
  ReturnsInHanded {} Tryd.checked os 8 .any (fun w args=>(Rows.topSwapSpec.pre enc Tryd.prog Tryd.f8 [] false w args/\laidMetH Tryd.prog qX w)/\sizedMet enc Tryd.prog Tryd.f8 (OpenSpec.ofChange Rows.topSwapSpec) false w args) (Rows.topSwapSpec.post enc Tryd.prog Tryd.f8 false true false false):=by
 refine ng (C:=Tryd.checked) (tb:=4) (L:=qX) Tryd.own started bT Tryd.func8
  (ChangeSpec.witness_shaped (enc:=enc) (C:=Tryd.checked) (os:=os) (X:=fun w _=>laidMetH Tryd.prog qX w) false (World.doorLaid Tryd.prog 14 os) #[.slice none 0 0, .agg #[.int .i64 0, .int .i64 0, .int .i64 0, .int .i64 0], .agg #[.int .i64 0, .int .i64 0, .int .i64 0, .int .i64 0]] 8 rfl (World.shaped_of_RefB bT bT) bT bT bT (Ad os _))
  Tryd.laidOut (by rw [show Tryd.f8.params=_ from Tryd.params8];intro t ht;simp at ht;rcases ht with ht|ht <;> subst ht <;> exact⟨bT,iy bT⟩) rfl rfl Tryd.underlying4 abV ?_
 intro W base args ds ps hval0 hA0 hlt Ek hL
 have SZ:=om hL
 have hval:∀(j:Nat) t v,Tryd.f8.params[j]?=some t->args[j]?=some v->Value.okWide Tryd.prog W .any base t v:=hval0
 have hA:DataW.TrodAll enc Tryd.prog W 0 (fun _=>true) true Tryd.f8.params.toList args.toList ds ps:=hA0
 have hsz:(DataW.weightsEach Tryd.prog Tryd.f8.params.toList ds).all (·<=reachBytes)=true:=Ek
 rw [Tryd.params8]at hA hval hsz
 clear hA0 hval0 Ek
 obtain⟨v0,v1,v2,d0,d1,d2,p0,p1,p2,rfl,rfl,rfl,h0,h1,h2⟩:=trodAll_three hA
 obtain⟨x0,a0,q0⟩:=pO (hval 0 _ v0 rfl rfl) h0 (fun m hm=>pD hsz (j:=0) rfl rfl m hm)
 obtain⟨r1,rfl,q1⟩:=abU (hval 1 _ v1 rfl rfl) h1
 obtain⟨r2,rfl,q2⟩:=abU (hval 2 _ v2 rfl rfl) h2
 exact ac6 a0 q0 q1 q2 SZ
theorem topSwap_holds:Rows.TopSwapSaid:=
 OpenClaim.holds_of_wide 8 Tryd.f8 rfl rfl rfl rfl rfl rfl rfl ⟨rfl,rfl,rfl,rfl,rfl⟩ rfl rfl rfl rfl rfl bT Tryd.func8 bT
  (iy bT) (by unfold Func.isWrapper;rw [ai (Ql bT)];exact⟨rfl,rfl⟩)
  (fun os started H enc _=>abD os started H enc)
theorem topSwap_card:Rows.TopSwapCardSaid:=
 Claim7.holds_tied_plain_at .later [] [.widerDeep] true _ false
  topSwap_holds (fun _ h=>by cases h) bT (fun _ h=>by cases h) topSwap_row_tie rfl ⟨rfl,rfl⟩ bT rfl
  (fun f fn hf hfn=>by
   obtain rfl : f = 8 := Option.some.inj ((show Tryd.prog.funcNamed "winnower/winnowertop.TopSwap" = some 8 by kernel_rfl).symm.trans hf) |>.symm
   obtain rfl:fn=Tryd.f8:=(cY (Tryd.func8.symm.trans hfn)).symm
   exact⟨bT,fun j t ht=>by
    rw [Tryd.params8]at ht
    have hm:t∈[22,75]:=by simpa using Uc ht
    have hall:([22,75].all fun u=>!Tryd.prog.wantsStandIn u)=true:=bT
    exact(show Tryd.prog.wantsStandIn t=false by simpa using nK.1 hall t hm)⟩)
  bT
#print axioms topSwap_card
end Go.Proofs.YtmljjfhgciaceaaDoor
