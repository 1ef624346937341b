import Derived.Test.YtmljjfhgciaceaaDoorHd
import Derived.Test.YtmljjfhgciaceaaDoorOB
namespace Go.Proofs.YtmljjfhgciaceaaDoor
open Go.ChangeShapes Go.WideShapes Go.ChangeAt Go.RowKit Go.Deep
set_option maxRecDepth 100000
variable {held:Bool} {base:Nat} {sp:Nat->Bool} {H:Type} {w:World}
theorem Tryd.aiS:Tryd.prog.cellsOf 59=3:=bT
theorem aiM {enc:TypeId×Value->H} {fuel:Nat} {cs:List Value} {x:DataW H×List MemPlace} (h:DataW.trod enc Tryd.prog w base sp held fuel 59 cs=some x) (hw:∀m∈x.1.weights Tryd.prog 59,m<=reachBytes) :
  ∃(s:ByteArray) (t v:Int),cs=[.string s, .int .i64 t, .int .i64 v]/\s.size<=140737488351232:=by
 obtain⟨xs,n,_,hx,hl,hn,hf⟩:=DataW.trod_struct Tryd.underlying59 h
 rw [Tryd.aiS]at hl
 match xs,hn with
 |[x0,x1,x2],_=>
  rw [hx]at hw
  have pn:∀(j:Nat) (t:TypeId) (d:DataW H),((Tryd.prog.fieldsOf 59).toList.map (·.type))[j]?=some t->[x0.1,x1.1,x2.1][j]?=some d->∀m∈d.weights Tryd.prog t,m<=reachBytes:=by
   intro j t d ht hd m hm
   refine hw m ?_
   simp only [DataW.weights,Tryd.underlying59]
   simp only [Program.fieldsOf,Tryd.underlying59]at ht
   exact DataW.weights_mem_each ht hd m hm
  obtain⟨s,e,hs,_⟩:=DataW.trod_string Tryd.underlying9 (hf 0 _ rfl)
  obtain⟨a,ha,-⟩:=nS (hf 1 _ rfl)
  obtain⟨b,hb,-⟩:=nS (hf 2 _ rfl)
  change (cs.drop 0).take (Tryd.prog.cellsOf 9)=_ at e
  rw [Tryd.ahy]at e
  change cs[1]?=_ at ha
  change cs[2]?=_ at hb
  refine⟨s,a,b,?_,?_⟩
  ·match cs,hl with
   |[c0,c1,c2],_=>
    simp at e ha hb
    simp [e,ha,hb]
  ·have:=pn 0 9 x0.1 bT rfl s.data.toList.length (by rw [hs];simp [DataW.weights])
   have e2:s.data.toList.length=s.size:=bj
   unfold reachBytes at this
   omega
theorem aik {enc:TypeId×Value->H} {r:Reach} {b0:Nat} {v:Value} {d:DataW H} {p:List MemPlace} (hv:Value.okWide Tryd.prog w r b0 59 v) (h:DataW.Trod enc Tryd.prog w base sp held 59 v d p) (hw:∀m∈d.weights Tryd.prog 59,m<=reachBytes) :
  ∃(s:ByteArray) (t u:Int),v = .agg #[.string s, .int .i64 t, .int .i64 u]/\s.size<=140737488351232:=by
 obtain⟨cs,rfl,hsz⟩:=okWide_struct Tryd.underlying59 hv
 obtain⟨fuel,hf⟩:=h
 obtain⟨s,t,u,hr,hq⟩:=aiM hf hw
 refine⟨s,t,u,?_,hq⟩
 cases cs
 simp only [Value.cells]at hr
 rw [hr]
end Go.Proofs.YtmljjfhgciaceaaDoor
