import Derived.Test.YtmljjfhgciaceaaDoorHd
import Derived.Test.YtmljjfhgciaceaaDoorPA
import Derived.Test.YtmljjfhgciaceaaDoorCards
import Derived.Test.YtmljjfhgciaceaaDoorLawTopSaved
import Derived.Test.YtmljjfhgciaceaaDoorKT
namespace Go.Proofs.YtmljjfhgciaceaaDoor
open Go.ChangeShapes Go.WideShapes Go.ChangeAt Go.RowKit
set_option maxRecDepth 100000
theorem abP {H:Type}:∀ds:List (DataW H),ds.length=Tryd.f11.params.size->Rows.topSavedSpec.fn H (ds++[])={ results:=[.lit (.bool true)],args:=ds }:=by
 intro ds hds
 match ds,hds with
 |[_,_],_=>rfl
theorem abz (os:Os) (started:os.Started) (H:Type) (enc:TypeId×Value->H) :
  ReturnsInHanded {} Tryd.checked os 11 .any (fun w args=>(Rows.topSavedSpec.pre enc Tryd.prog Tryd.f11 [] false w args/\laidMetH Tryd.prog qX w)/\sizedMet enc Tryd.prog Tryd.f11 (OpenSpec.ofChange Rows.topSavedSpec) false w args) (Rows.topSavedSpec.post enc Tryd.prog Tryd.f11 false true false false):=by
 refine ng (C:=Tryd.checked) (tb:=4) (L:=qX) Tryd.own started bT Tryd.func11
  (ChangeSpec.witness_shaped (enc:=enc) (C:=Tryd.checked) (os:=os) (X:=fun w _=>laidMetH Tryd.prog qX w) false (World.doorLaid Tryd.prog 14 os) #[.slice none 0 0, .slice none 0 0] 8 rfl (World.shaped_of_RefB bT bT) bT bT bT (Ad os _))
  Tryd.laidOut (by rw [show Tryd.f11.params=_ from Tryd.params11];intro t ht;simp at ht;first|(subst ht;exact⟨bT,iy bT⟩)|(rcases ht with ht|ht <;> subst ht <;> exact⟨bT,iy bT⟩)) rfl rfl Tryd.underlying4 abP ?_
 intro W base args ds ps hval0 hA0 hlt Ek hL
 have SZ:=om hL
 have hval:∀(j:Nat) t v,Tryd.f11.params[j]?=some t->args[j]?=some v->Value.okWide Tryd.prog W .any base t v:=hval0
 have hA:DataW.TrodAll enc Tryd.prog W 0 (fun _=>true) true Tryd.f11.params.toList args.toList ds ps:=hA0
 have hsz:(DataW.weightsEach Tryd.prog Tryd.f11.params.toList ds).all (·<=reachBytes)=true:=Ek
 rw [Tryd.params11]at hA hval hsz
 clear hA0 hval0 Ek
 obtain⟨v0,v1,d0,d1,p0,p1,rfl,rfl,rfl,h0,h1⟩:=trodAll_two hA
 obtain⟨x0,a0,q0⟩:=pO (hval 0 _ v0 rfl rfl) h0 (fun m hm=>pD hsz (j:=0) rfl rfl m hm)
 obtain⟨x1,a1,q1⟩:=pO (hval 1 _ v1 rfl rfl) h1 (fun m hm=>pD hsz (j:=1) rfl rfl m hm)
 exact abX a0 q0 a1 q1 SZ
theorem topSaved_holds:Rows.TopSavedSaid:=
 OpenClaim.holds_of_wide 11 Tryd.f11 rfl rfl rfl rfl rfl rfl rfl ⟨rfl,rfl,rfl,rfl,rfl⟩ rfl rfl rfl rfl rfl bT Tryd.func11 bT
  (iy bT) (by unfold Func.isWrapper;rw [ai (Ql bT)];exact⟨rfl,rfl⟩)
  (fun os started H enc _=>abz os started H enc)
theorem topSaved_card:Rows.TopSavedCardSaid:=
 Claim7.holds_tied_plain_at .later [] [.widerDeep] true _ false
  topSaved_holds (fun _ h=>by cases h) bT (fun _ h=>by cases h) topSaved_row_tie rfl ⟨rfl,rfl⟩ bT rfl
  (fun f fn hf hfn=>by
   obtain rfl : f = 11 := Option.some.inj ((show Tryd.prog.funcNamed "winnower/winnowertop.TopSaved" = some 11 by kernel_rfl).symm.trans hf) |>.symm
   obtain rfl:fn=Tryd.f11:=(cY (Tryd.func11.symm.trans hfn)).symm
   exact⟨bT,fun j t ht=>by
    rw [Tryd.params11]at ht
    have hm:t∈[22]:=by simpa using Uc ht
    have hall:([22].all fun u=>!Tryd.prog.wantsStandIn u)=true:=bT
    exact(show Tryd.prog.wantsStandIn t=false by simpa using nK.1 hall t hm)⟩)
  bT
#print axioms topSaved_card
end Go.Proofs.YtmljjfhgciaceaaDoor
