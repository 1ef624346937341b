import Derived.Test.YtmljjfhgciaceaaDoorHd
import Derived.Test.YtmljjfhgciaceaaDoorConcat
import Derived.Deep.DeepAppendWide
namespace Go.Proofs.YtmljjfhgciaceaaDoor
open Go.RowKit
theorem uQ (ys:List Ac):(ys.flatMap px).length=ys.length*6:=by
 induction ys with
 |nil=>rfl
 |cons a l ih=>rw [gG,eP,ih,xu,fR];omega
theorem cp.lit {B g:Nat} {w:World} {cs:Array Value} {ys:List Ac} (hg:w.heap[g]?=some (.cells cs 26)) (hB:B<=g) (h0:ys.length<=maxLen) (hc:cs.toList=ys.flatMap px):cp B w (.slice (some ⟨g,0,none⟩) ys.length ys.length) ys:=by
 have hl:cs.size=ys.length*6:=by rw [<-uQ,<-hc];simp
 refine⟨⟨by rw [uQ], .inr ⟨g,ys.length,cs,rfl,hB,hg,kK _,h0,by rw [hl],?_⟩⟩⟩
 rw [<-hc,kJ (by simp [hl])]
end Go.Proofs.YtmljjfhgciaceaaDoor
