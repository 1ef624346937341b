import Derived.Test.YtmljjfhgciaceaaGreatDoorHd
import Derived.Test.YtmljjfhgciaceaaGreatDoorPA
import Derived.Test.YtmljjfhgciaceaaGreatDoorCards
import Derived.Test.YtmljjfhgciaceaaGreatDoorLawTopSplit
import Derived.Test.YtmljjfhgciaceaaGreatDoorKT
namespace Go.Proofs.YtmljjfhgciaceaaGreatDoor
open Go.ChangeShapes Go.WideShapes Go.ChangeAt Go.RowKit
set_option maxRecDepth 100000
theorem Ak {H:Type}:∀ds:List (DataW H),ds.length=Tryz.f4.params.size->Rows.topSplitSpec.fn H (ds++[])={ results:=[.lit (.bool true)],args:=ds }:=by
 intro ds hds
 match ds,hds with
 |[_,_,_,_],_=>rfl
theorem xG (os:Os) (started:os.Started) (H:Type) (enc:TypeId×Value->H) :
  ReturnsInHanded {} Tryz.checked os 4 .any (fun w args=>(Rows.topSplitSpec.pre enc Tryz.prog Tryz.f4 [] false w args/\laidMetH Tryz.prog DB w)/\sizedMet enc Tryz.prog Tryz.f4 (OpenSpec.ofChange Rows.topSplitSpec) false w args) (Rows.topSplitSpec.post enc Tryz.prog Tryz.f4 false true false false):=by
 refine za (C:=Tryz.checked) (tb:=4) (L:=DB) Tryz.own started cv Tryz.func4
  (ChangeSpec.witness_shaped (enc:=enc) (C:=Tryz.checked) (os:=os) (X:=fun w _=>laidMetH Tryz.prog DB w) false (World.doorLaid Tryz.prog 14 os) #[.slice none 0 0, .int .i64 0, .int .i64 0, .int .i64 0] 8 rfl (World.shaped_of_RefB cv cv) cv cv cv (Nu os _))
  Tryz.laidOut (by rw [show Tryz.f4.params=_ from Tryz.params4];intro t ht;simp at ht;rcases ht with ht|ht <;> subst ht <;> exact⟨cv,iY cv⟩) rfl rfl Tryz.underlying4 Ak ?_
 intro W base args ds ps hval0 hA0 hlt Wn hL
 have SZ:=Am hL
 have hval:∀(j:Nat) t v,Tryz.f4.params[j]?=some t->args[j]?=some v->Value.okWide Tryz.prog W .any base t v:=hval0
 have hA:DataW.TrodAll enc Tryz.prog W 0 (fun _=>true) true Tryz.f4.params.toList args.toList ds ps:=hA0
 have hsz:(DataW.weightsEach Tryz.prog Tryz.f4.params.toList ds).all (·<=reachBytes)=true:=Wn
 rw [Tryz.params4]at hA hval hsz
 clear hA0 hval0 Wn
 obtain⟨v0,v1,v2,v3,d0,d1,d2,d3,p0,p1,p2,p3,rfl,rfl,rfl,h0,h1,h2,h3⟩:=trodAll_four hA
 obtain⟨x0,a0,q0⟩:=FW (hval 0 _ v0 rfl rfl) h0 (fun m hm=>Fq hsz (j:=0) rfl rfl m hm)
 obtain⟨n1,rfl,wl1,wh1⟩:=vQ (hval 1 _ v1 rfl rfl) h1
 obtain⟨n2,rfl,wl2,wh2⟩:=vQ (hval 2 _ v2 rfl rfl) h2
 obtain⟨n3,rfl,wl3,wh3⟩:=vQ (hval 3 _ v3 rfl rfl) h3
 exact BP a0 q0 ⟨wl1,wh1⟩ ⟨wl2,wh2⟩ ⟨wl3,wh3⟩ SZ
theorem topSplit_holds:Rows.TopSplitSaid:=
 OpenClaim.holds_of_wide 4 Tryz.f4 rfl rfl rfl rfl rfl rfl rfl ⟨rfl,rfl,rfl,rfl,rfl⟩ rfl rfl rfl rfl rfl cv Tryz.func4 cv
  (iY cv) (by unfold Func.isWrapper;rw [ai (XW cv)];exact⟨rfl,rfl⟩)
  (fun os started H enc _=>xG os started H enc)
theorem topSplit_card:Rows.TopSplitCardSaid:=
 Claim7.holds_tied_plain_at .later [] [.widerDeep] true _ false
  topSplit_holds (fun _ h=>by cases h) cv (fun _ h=>by cases h) topSplit_row_tie rfl ⟨rfl,rfl⟩ cv rfl
  (fun f fn hf hfn=>by
   obtain rfl : f = 4 := Option.some.inj ((show Tryz.prog.funcNamed "winnower/winnowertop.TopSplit" = some 4 by kernel_rfl).symm.trans hf) |>.symm
   obtain rfl:fn=Tryz.f4:=(dt (Tryz.func4.symm.trans hfn)).symm
   exact⟨cv,fun j t ht=>by
    rw [Tryz.params4]at ht
    have hm:t∈[50,3]:=by simpa using ac8 ht
    have hall:([50,3].all fun u=>!Tryz.prog.wantsStandIn u)=true:=cv
    exact(show Tryz.prog.wantsStandIn t=false by simpa using py.1 hall t hm)⟩)
  cv
#print axioms topSplit_card
end Go.Proofs.YtmljjfhgciaceaaGreatDoor
