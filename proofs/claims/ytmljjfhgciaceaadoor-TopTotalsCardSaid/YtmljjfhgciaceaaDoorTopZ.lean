import Derived.Test.YtmljjfhgciaceaaDoorHd
import Derived.Test.YtmljjfhgciaceaaDoorConcat
import Derived.Deep.DeepAppendWide
namespace Go.Proofs.YtmljjfhgciaceaaDoor
open Go.RowKit
variable {w:World}
theorem aaA (ys:List Ac):(ys.flatMap pq).length=ys.length*6:=by
 induction ys with
 |nil=>rfl
 |cons a l ih=>rw [gQ,dO,ih,xJ,gp];omega
theorem bN.lit {B g:Nat} {cs:Array Value} {ys:List Ac} (hg:w.heap[g]?=some (.cells cs 26)) (hB:B<=g) (h0:ys.length<=maxLen) (hc:cs.toList=ys.flatMap pq):bN B w (.slice (some ⟨g,0,none⟩) ys.length ys.length) ys:=by
 have hl:cs.size=ys.length*6:=by rw [<-aaA,<-hc];simp
 refine⟨⟨by rw [aaA], .inr ⟨g,ys.length,cs,rfl,hB,hg,km _,h0,by rw [hl],?_⟩⟩⟩
 rw [<-hc,lI (by simp [hl])]
theorem aaO {o:Oper} {a:Act} {K:Act->World->Prop} {Q:Exit->Act->World->Prop} (s x:Operand)
  (ho:o.op = .call { callee:= .builtin .append,args:=#[s,x],argTypes:=#[23,23] }) (B:Nat) (v:Value) (xs ys:List Ac) (hs:a.eval s=v) (hv:bN B w v xs) (g c:Nat) (cs:Array Value) (hx:a.eval x = .slice (some ⟨g,0,none⟩) ys.length c)
  (hg:w.heap[g]?=some (.cells cs 26)) (hc:cs.toList=ys.flatMap pq) (hlen:xs.length+ys.length<=1000000) (hbase:B<=w.heap.size) (h:∀v' w',bN B w' v' (xs++ys)->w.grownBy w' v.ownBlock->K (a.put o.dst v') w'):o.wp Tryd.prog a w K Q:=by
 obtain⟨i0,z,hi,hz,hz1,hz2,hz3⟩:=cj Tryd.PH
 refine Go.wp_append_own_wide w s x 23 ho B 26 i0 z 6 56 Tryd.underlying23 hi hz hz1 hz2 hz3 aW v xs.length _ hs hv.row ⟨g,0,none⟩ ys.length c (ys.flatMap pq) hx (aaA ys) (fun j u hu=>?_) (Ab ys) (by unfold maxLen;omega) af hbase ?_
 ·have ha:Addr.add ⟨g,0,none⟩ j=⟨g,j,none⟩:=by simp [Addr.add];omega
  rw [ha]
  rw [<-hc]at hu
  simp only [World.cell?,hg]
  simpa using hu
 ·intro v' w' hown' hgr _
  refine h v' w' ⟨?_⟩ hgr
  rw [tR,dO]
  exact hown'
end Go.Proofs.YtmljjfhgciaceaaDoor
