/- Arguments that are bytes. -/
import Derived.Test.YtnjfkcimboidnaaDoorKG
import Derived.Test.YtnjfkcimboidnaaDoorPA
import Derived.Test.YtnjfkcimboidnaaDoorBG
namespace Go.Proofs.YtnjfkcimboidnaaDoor
open Go.ChangeShapes Go.WideShapes Go.ChangeAt Go.RowKit Go.Deep
def u8 (n:Int):Prop:=0≤n∧n≤255
theorem wf_u8 {n:Int} (hw:(Lit.int .u8 n).wf=true):u8 n:=by
 simpa [Lit.wf,IntKind.min,IntKind.max,IntKind.signed,IntKind.bits,u8] using hw
theorem Tryd.cellsByte:Tryd.prog.cellsOf 5=1:=by kernel_rfl
theorem Tryd.bytesByte:Tryd.prog.bytesOf 5=1:=by kernel_rfl
section
variable {H:Type} {enc:TypeId×Value→H} {w:World} {base:Nat} {sp:Nat→Bool} {held:Bool}
theorem read_byte {n:Nat} {cs:List Value} {y:DataW H×List MemPlace} (h:DataW.trod enc Tryd.prog w base sp held n 5 cs=some y):∃a:Int,cs=enB a∧u8 a:=by
 obtain⟨a,e,_,hw⟩:=DataW.trod_int Tryd.underlying5 h
 exact⟨a,e,wf_u8 hw⟩
theorem read_bytes {fuel:Nat} {cs:List Value} {x:DataW H×List MemPlace} (h:DataW.trod enc Tryd.prog w base sp held fuel 54 cs=some x) (hw:∀m∈x.1.weights Tryd.prog 54,m≤reachBytes) :
  ∃(v:Value) (xs:List Int),cs=[v]∧ByteSl w v xs∧∀a∈xs,u8 a:=
 read_slice enB u8 Tryd.underlying54 Tryd.cellsByte (by decide) Tryd.bytesByte h hw fun _ _ _ h1 _=>read_byte h1
set_option maxRecDepth 100000 in
theorem open_bytes' {r:Reach} {b0:Nat} {v:Value} {d:DataW H} {p:List MemPlace} (hv:Value.okWide Tryd.prog w r b0 54 v) (h:DataW.Trod enc Tryd.prog w base sp held 54 v d p) (hw:∀m∈d.weights Tryd.prog 54,m≤reachBytes) :
  ∃xs:List Int,ByteSl w v xs∧AllBytes xs:=by
 obtain⟨fuel,hf⟩:=h
 obtain⟨v',xs,e,h1,h2⟩:=read_bytes hf hw
 rw [slice_cell Tryd.underlying54 hv e]
 exact⟨xs,h1,h2⟩
set_option maxRecDepth 100000 in
theorem open_byte' {r:Reach} {b0:Nat} {v:Value} {d:DataW H} {p:List MemPlace} (hv:Value.okWide Tryd.prog w r b0 5 v) (h:DataW.Trod enc Tryd.prog w base sp held 5 v d p) :
  ∃n,v = .int .u8 n∧u8 n:=by
 obtain⟨n,rfl,_,_,hw⟩:=open_int Tryd.underlying5 hv h
 exact⟨n,rfl,wf_u8 hw⟩
end
end Go.Proofs.YtnjfkcimboidnaaDoor
