import Derived.Test.YtmljjfhgciaceaaDoorHd
import Derived.Test.YtmljjfhgciaceaaDoorEG
import Derived.Deep.DeepAppendWide
import Derived.Lib.AppendZeros
namespace Go.Proofs.YtmljjfhgciaceaaDoor
open Go.RowKit
theorem sO {w:World} {ops:Array Oper} {rest:List Oper} {o:Oper} {a:Act} {Q:Exit->Act->World->Prop} (hgd:o.guard=none) (s x:Operand)
  (ho:o.op = .call { callee:= .builtin .append,args:=#[s,x],argTypes:=#[23,23] }) (B C:Nat) (v u:Value) (xs ys:List Ac) (hs:a.eval s=v) (hx:a.eval x=u) (hv:cp B w v xs) (hu:cp C w u ys)
  (hlen:xs.length+ys.length<=1000000) (hbase:B<=w.heap.size) (h:∀v' w',cp B w' v' (xs++ys)->w.grownBy w' v.ownBlock->wpList Tryd.prog ops Q rest (a.put o.dst v') w'):wpList Tryd.prog ops Q (o::rest) a w:=by
 obtain⟨i0,z,hi,hz,hz1,hz2,hz3⟩:=cC Tryd.V8
 have he:(xs++ys).flatMap px=xs.flatMap px++ys.flatMap px:=bq
 obtain⟨hul,⟨rfl,h0⟩|⟨g,cap,cur,rfl,hB,hg,h1,h2,h3,h4⟩⟩:=hu.row
 ·obtain rfl:ys=[]:=List.length_eq_zero_iff.1 h0
  obtain⟨so,sc,rfl⟩:=hv.isSlice
  have hc:xs.length<=sc:=by
   obtain⟨-,⟨e,h0⟩|⟨g,cap,cur,e,hB,hg,h1,h2,h3,h4⟩⟩:=hv.row
   ·injection e with _ h2 h3;omega
   ·injection e with _ _ h3;omega
  have hr:∀ty,(Builtin.append_ #[23,23] ty #[.slice so xs.length sc, .slice none 0 0]).run Tryd.prog w = .ok (.slice so xs.length sc) w:=fun ty=>by
   cases so <;> simp [Builtin.append_,run_underlying Tryd.underlying23,Go.sizeOf,typeInfo,hi,Builtin.lenOf,Builtin.firstCells,storeCells,hc]
  refine Lib.wpList_append_run _ hgd s x 23 23 ho _ _ hs hx _ _ (hr _) (h _ _ (by rw [nM];exact hv) ⟨rfl,rfl,rfl,kK _,fun _ _ _=>rfl⟩)
 ·refine Go.wpList_append_own_wide w hgd s x 23 ho B 26 i0 z 6 56 Tryd.underlying23 hi hz hz1 hz2 hz3 aW v xs.length _ hs hv.row ⟨g,0,none⟩ ys.length cap (ys.flatMap px) hx hul (fun j u hu=>?_) (EB ys) (by unfold maxLen;omega) af hbase ?_
  ·have ha:Addr.add ⟨g,0,none⟩ j=⟨g,j,none⟩:=by simp [Addr.add];omega
   rw [ha]
   rw [<-h4,qd]at hu
   split at hu
   ·simp only [World.cell?,hg]
    simpa using hu
   ·cases hu
  ·intro v' w' hown' hgr _
   refine h v' w' ⟨?_⟩ hgr
   rw [he,eP]
   exact hown'
end Go.Proofs.YtmljjfhgciaceaaDoor
