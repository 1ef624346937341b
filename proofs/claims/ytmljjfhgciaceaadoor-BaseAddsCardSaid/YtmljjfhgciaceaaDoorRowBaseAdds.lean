import Derived.Test.YtmljjfhgciaceaaDoorHd
import Derived.Test.YtmljjfhgciaceaaDoorPA
import Derived.Test.YtmljjfhgciaceaaDoorCards
import Derived.Test.YtmljjfhgciaceaaDoorLawBaseAdds
import Derived.Test.YtmljjfhgciaceaaDoorOB
import Derived.Test.YtmljjfhgciaceaaDoorOpenPt
namespace Go.Proofs.YtmljjfhgciaceaaDoor
open Go.ChangeShapes Go.WideShapes Go.ChangeAt Go.RowKit
set_option maxRecDepth 100000
theorem afF {H:Type}:∀ds:List (DataW H),ds.length=Tryd.f6.params.size->Rows.baseAddsSpec.fn H (ds++[])={ results:=[.lit (.bool true)],args:=ds }:=by
 intro ds hds
 match ds,hds with
 |[_,_],_=>rfl
theorem afk (os:Os) (started:os.Started) (H:Type) (enc:TypeId×Value->H) :
  ReturnsInHanded {} Tryd.checked os 6 .any (fun w args=>(Rows.baseAddsSpec.pre enc Tryd.prog Tryd.f6 [] false w args/\laidMetH Tryd.prog qX w)/\sizedMet enc Tryd.prog Tryd.f6 (OpenSpec.ofChange Rows.baseAddsSpec) false w args) (Rows.baseAddsSpec.post enc Tryd.prog Tryd.f6 false true false false):=by
 refine ng (C:=Tryd.checked) (tb:=4) (L:=qX) Tryd.own started bT Tryd.func6
  (ChangeSpec.witness_shaped (enc:=enc) (C:=Tryd.checked) (os:=os) (X:=fun w _=>laidMetH Tryd.prog qX w) false (World.doorLaid Tryd.prog 14 os) #[.agg #[.slice none 0 0, .slice none 0 0, .int .i64 0, .slice none 0 0, .int .i64 0, .slice none 0 0, .int .i64 0, .int .i64 0], .agg #[.string ByteArray.empty, .int .i64 0, .int .i64 0]] 8 rfl (World.shaped_of_RefB bT bT) bT bT bT (Ad os _))
  Tryd.laidOut (by rw [show Tryd.f6.params=_ from Tryd.params6];intro t ht;simp at ht;rcases ht with ht|ht <;> subst ht <;> exact⟨bT,iy bT⟩) rfl rfl Tryd.underlying4 afF ?_
 intro W base args ds ps hval0 hA0 hlt Ek hL
 have SZ:=om hL
 have hval:∀(j:Nat) t v,Tryd.f6.params[j]?=some t->args[j]?=some v->Value.okWide Tryd.prog W .any base t v:=hval0
 have hA:DataW.TrodAll enc Tryd.prog W 0 (fun _=>true) true Tryd.f6.params.toList args.toList ds ps:=hA0
 have hsz:(DataW.weightsEach Tryd.prog Tryd.f6.params.toList ds).all (·<=reachBytes)=true:=Ek
 rw [Tryd.params6]at hA hval hsz
 clear hA0 hval0 Ek
 obtain⟨v0,v1,d0,d1,p0,p1,rfl,rfl,rfl,h0,h1⟩:=trodAll_two hA
 obtain⟨t0,a0,q0⟩:=ahR (hval 0 _ v0 rfl rfl) h0 (fun m hm=>pD hsz (j:=0) rfl rfl m hm)
 obtain⟨s1,t1',u1,rfl,q1⟩:=aik (hval 1 _ v1 rfl rfl) h1 (fun m hm=>pD hsz (j:=1) rfl rfl m hm)
 exact ah4 a0 q0.2 q1 SZ
theorem baseAdds_holds:Rows.BaseAddsSaid:=
 OpenClaim.holds_of_wide 6 Tryd.f6 rfl rfl rfl rfl rfl rfl rfl ⟨rfl,rfl,rfl,rfl,rfl⟩ rfl rfl rfl rfl rfl bT Tryd.func6 bT
  (iy bT) (by unfold Func.isWrapper;rw [ai (Ql bT)];exact⟨rfl,rfl⟩)
  (fun os started H enc _=>afk os started H enc)
theorem baseAdds_card:Rows.BaseAddsCardSaid:=
 Claim7.holds_tied_plain_at .later [] [.widerDeep] true _ false
  baseAdds_holds (fun _ h=>by cases h) bT (fun _ h=>by cases h) baseAdds_row_tie rfl ⟨rfl,rfl⟩ bT rfl
  (fun f fn hf hfn=>by
   obtain rfl : f = 6 := Option.some.inj ((show Tryd.prog.funcNamed "winnower/winnowerlaw.BaseAdds" = some 6 by kernel_rfl).symm.trans hf) |>.symm
   obtain rfl:fn=Tryd.f6:=(cY (Tryd.func6.symm.trans hfn)).symm
   exact⟨bT,fun j t ht=>by
    rw [Tryd.params6]at ht
    have hm:t∈[35,59]:=by simpa using Uc ht
    have hall:([35,59].all fun u=>!Tryd.prog.wantsStandIn u)=true:=bT
    exact(show Tryd.prog.wantsStandIn t=false by simpa using nK.1 hall t hm)⟩)
  bT
#print axioms baseAdds_card
end Go.Proofs.YtmljjfhgciaceaaDoor
