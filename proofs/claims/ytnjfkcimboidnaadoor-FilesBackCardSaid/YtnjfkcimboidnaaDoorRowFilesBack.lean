/- The law FilesBack: for every input that can be read it returns true, and every argument reads afterwards as it read before. No condition. -/
import Derived.Test.YtnjfkcimboidnaaDoorPA
import Derived.Test.YtnjfkcimboidnaaDoorCards
import Derived.Test.YtnjfkcimboidnaaDoorLawFilesBack
import Derived.Test.YtnjfkcimboidnaaDoorOpenBy
import Derived.Test.YtnjfkcimboidnaaDoorKT
namespace Go.Proofs.YtnjfkcimboidnaaDoor
open Go.ChangeShapes Go.WideShapes Go.ChangeAt Go.RowKit
theorem filesBack_spec {H:Type}:∀ds:List (DataW H),ds.length=Tryd.f7.params.size→Rows.filesBackSpec.fn H (ds++[])={ results:=[.lit (.bool true)],args:=ds }:=by
 intro ds hds
 match ds,hds with
 |[_,_,_],_=>rfl
set_option maxRecDepth 100000 in
theorem filesBack_lifted (os:Os) (started:os.Started) (H:Type) (enc:TypeId×Value→H) :
  ReturnsInHanded {} Tryd.checked os 7 .any (fun w args=>(Rows.filesBackSpec.pre enc Tryd.prog Tryd.f7 [] false w args∧laidMetH Tryd.prog laidL w)∧sizedMet enc Tryd.prog Tryd.f7 (OpenSpec.ofChange Rows.filesBackSpec) false w args) (Rows.filesBackSpec.post enc Tryd.prog Tryd.f7 false true false false):=by
 refine lifted_of_laid (C:=Tryd.checked) (tb:=4) (L:=laidL) Tryd.own started (by kernel_rfl) Tryd.func7
  (ChangeSpec.witness_shaped (enc:=enc) (C:=Tryd.checked) (os:=os) (X:=fun w _=>laidMetH Tryd.prog laidL w) false (World.doorLaid Tryd.prog 14 os) #[.slice none 0 0, .int .i64 0, .int .u8 0] 8 rfl (World.shaped_of_RefB (by kernel_rfl) (by kernel_rfl)) (by kernel_rfl) (by kernel_rfl) (by kernel_rfl) (door_met os _))
  Tryd.laidOut (by rw [show Tryd.f7.params=_ from Tryd.params7];intro t ht;simp at ht;rcases ht with ht|ht|ht <;> subst ht <;> exact⟨by kernel_rfl,of_decide_eq_true (by kernel_rfl)⟩) rfl rfl Tryd.underlying4 filesBack_spec ?_
 intro W base args ds ps hval0 hA0 hlt hsz0 hL
 have SZ:=sizes_of_laid hL
 have hval:∀(j:Nat) t v,Tryd.f7.params[j]?=some t→args[j]?=some v→Value.okWide Tryd.prog W .any base t v:=hval0
 have hA:DataW.TrodAll enc Tryd.prog W 0 (fun _=>true) true Tryd.f7.params.toList args.toList ds ps:=hA0
 have hsz:(DataW.weightsEach Tryd.prog Tryd.f7.params.toList ds).all (·≤reachBytes)=true:=hsz0
 rw [Tryd.params7]at hA hval hsz
 clear hA0 hval0 hsz0
 obtain⟨v0,v1,v2,d0,d1,d2,p0,p1,p2,rfl,rfl,rfl,h0,h1,h2⟩:=trodAll_three hA
 obtain⟨x0,a0,q0⟩:=open_raws' (hval 0 _ v0 rfl rfl) h0 (fun m hm=>weights_le hsz (j:=0) rfl rfl m hm)
 obtain⟨n1,rfl,wl1,wh1⟩:=open_int' (hval 1 _ v1 rfl rfl) h1
 obtain⟨n2,rfl,q2⟩:=open_byte' (hval 2 _ v2 rfl rfl) h2
 exact filesBack_any a0 q0 ⟨wl1,wh1⟩ q2 SZ
theorem filesBack_holds:Rows.FilesBackSaid:=
 OpenClaim.holds_of_wide 7 Tryd.f7 rfl rfl rfl rfl rfl rfl rfl ⟨rfl,rfl,rfl,rfl,rfl⟩ rfl rfl rfl rfl rfl (by kernel_rfl) Tryd.func7 (by kernel_rfl)
  (of_decide_eq_true (by kernel_rfl)) (by unfold Func.isWrapper;rw [if_neg (of_decide_eq_false (by kernel_rfl))];exact⟨rfl,rfl⟩)
  (fun os started H enc _=>filesBack_lifted os started H enc)
theorem filesBack_card:Rows.FilesBackCardSaid:=
 Claim7.holds_tied_plain_at .later [] [.widerDeep] true _ false
  filesBack_holds (fun _ h=>by cases h) (by kernel_rfl) (fun _ h=>by cases h) filesBack_row_tie rfl ⟨rfl,rfl⟩ (by kernel_rfl) rfl
  (fun f fn hf hfn=>by
   obtain rfl : f = 7 := Option.some.inj ((show Tryd.prog.funcNamed "winnower/winnowerkeep.FilesBack" = some 7 by kernel_rfl).symm.trans hf) |>.symm
   obtain rfl:fn=Tryd.f7:=(Option.some.inj (Tryd.func7.symm.trans hfn)).symm
   exact⟨by kernel_rfl,fun j t ht=>by
    rw [Tryd.params7]at ht
    have hm:t∈[22,3,5]:=by simpa using Array.mem_of_getElem? ht
    have hall:([22,3,5].all fun u=>!Tryd.prog.wantsStandIn u)=true:=by kernel_rfl
    exact(show Tryd.prog.wantsStandIn t=false by simpa using List.all_eq_true.1 hall t hm)⟩)
  (by kernel_rfl)
#print axioms filesBack_card
end Go.Proofs.YtnjfkcimboidnaaDoor
