import Derived.Test.YtmljjfhgciaceaaDoorHd
import Derived.Test.YtmljjfhgciaceaaDoorPA
import Derived.Test.YtmljjfhgciaceaaDoorCards
import Derived.Test.YtmljjfhgciaceaaDoorLawTopTotals
import Derived.Test.YtmljjfhgciaceaaDoorKT
namespace Go.Proofs.YtmljjfhgciaceaaDoor
open Go.ChangeShapes Go.WideShapes Go.ChangeAt Go.RowKit
set_option maxRecDepth 100000
theorem abC {H:Type}:∀ds:List (DataW H),ds.length=Tryd.f3.params.size->Rows.topTotalsSpec.fn H (ds++[])={ results:=[.lit (.bool true)],args:=ds }:=by
 intro ds hds
 match ds,hds with
 |[_,_,_],_=>rfl
theorem abt (os:Os) (started:os.Started) (H:Type) (enc:TypeId×Value->H) :
  ReturnsInHanded {} Tryd.checked os 3 .any (fun w args=>(Rows.topTotalsSpec.pre enc Tryd.prog Tryd.f3 [] false w args/\laidMetH Tryd.prog qX w)/\sizedMet enc Tryd.prog Tryd.f3 (OpenSpec.ofChange Rows.topTotalsSpec) false w args) (Rows.topTotalsSpec.post enc Tryd.prog Tryd.f3 false true false false):=by
 refine ng (C:=Tryd.checked) (tb:=4) (L:=qX) Tryd.own started bT Tryd.func3
  (ChangeSpec.witness_shaped (enc:=enc) (C:=Tryd.checked) (os:=os) (X:=fun w _=>laidMetH Tryd.prog qX w) false (World.doorLaid Tryd.prog 14 os) #[.slice none 0 0, .int .i64 0, .int .i64 0] 8 rfl (World.shaped_of_RefB bT bT) bT bT bT (Ad os _))
  Tryd.laidOut (by rw [show Tryd.f3.params=_ from Tryd.params3];intro t ht;simp at ht;rcases ht with ht|ht <;> subst ht <;> exact⟨bT,iy bT⟩) rfl rfl Tryd.underlying4 abC ?_
 intro W base args ds ps hval0 hA0 hlt Ek hL
 have SZ:=om hL
 have hval:∀(j:Nat) t v,Tryd.f3.params[j]?=some t->args[j]?=some v->Value.okWide Tryd.prog W .any base t v:=hval0
 have hA:DataW.TrodAll enc Tryd.prog W 0 (fun _=>true) true Tryd.f3.params.toList args.toList ds ps:=hA0
 have hsz:(DataW.weightsEach Tryd.prog Tryd.f3.params.toList ds).all (·<=reachBytes)=true:=Ek
 rw [Tryd.params3]at hA hval hsz
 clear hA0 hval0 Ek
 obtain⟨v0,v1,v2,d0,d1,d2,p0,p1,p2,rfl,rfl,rfl,h0,h1,h2⟩:=trodAll_three hA
 obtain⟨x0,a0,q0⟩:=pO (hval 0 _ v0 rfl rfl) h0 (fun m hm=>pD hsz (j:=0) rfl rfl m hm)
 obtain⟨n1,rfl,wl1,wh1⟩:=JJ (hval 1 _ v1 rfl rfl) h1
 obtain⟨n2,rfl,wl2,wh2⟩:=JJ (hval 2 _ v2 rfl rfl) h2
 exact abM a0 q0 ⟨wl1,wh1⟩ ⟨wl2,wh2⟩ SZ
theorem topTotals_holds:Rows.TopTotalsSaid:=
 OpenClaim.holds_of_wide 3 Tryd.f3 rfl rfl rfl rfl rfl rfl rfl ⟨rfl,rfl,rfl,rfl,rfl⟩ rfl rfl rfl rfl rfl bT Tryd.func3 bT
  (iy bT) (by unfold Func.isWrapper;rw [ai (Ql bT)];exact⟨rfl,rfl⟩)
  (fun os started H enc _=>abt os started H enc)
theorem topTotals_card:Rows.TopTotalsCardSaid:=
 Claim7.holds_tied_plain_at .later [] [.widerDeep] true _ false
  topTotals_holds (fun _ h=>by cases h) bT (fun _ h=>by cases h) topTotals_row_tie rfl ⟨rfl,rfl⟩ bT rfl
  (fun f fn hf hfn=>by
   obtain rfl : f = 3 := Option.some.inj ((show Tryd.prog.funcNamed "winnower/winnowertop.TopTotals" = some 3 by kernel_rfl).symm.trans hf) |>.symm
   obtain rfl:fn=Tryd.f3:=(cY (Tryd.func3.symm.trans hfn)).symm
   exact⟨bT,fun j t ht=>by
    rw [Tryd.params3]at ht
    have hm:t∈[22,3]:=by simpa using Uc ht
    have hall:([22,3].all fun u=>!Tryd.prog.wantsStandIn u)=true:=bT
    exact(show Tryd.prog.wantsStandIn t=false by simpa using nK.1 hall t hm)⟩)
  bT
#print axioms topTotals_card
end Go.Proofs.YtmljjfhgciaceaaDoor
