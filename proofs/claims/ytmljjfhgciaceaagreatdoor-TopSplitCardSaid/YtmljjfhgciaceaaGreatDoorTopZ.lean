import Derived.Test.YtmljjfhgciaceaaGreatDoorHd
import Derived.Test.YtmljjfhgciaceaaGreatDoorConcat
import Derived.Deep.DeepAppendWide
namespace Go.Proofs.YtmljjfhgciaceaaGreatDoor
open Go.RowKit
variable {w:World}
theorem pX (ys:List Ac):(ys.flatMap qD).length=ys.length*6:=by
 induction ys with
 |nil=>rfl
 |cons a l ih=>rw [gI,eO,ih,xu,fR];omega
theorem cy.lit {B g:Nat} {cs:Array Value} {ys:List Ac} (hg:w.heap[g]?=some (.cells cs 46)) (hB:B<=g) (h0:ys.length<=maxLen) (hc:cs.toList=ys.flatMap qD):cy B w (.slice (some ⟨g,0,none⟩) ys.length ys.length) ys:=by
 have hl:cs.size=ys.length*6:=by rw [<-pX,<-hc];simp
 refine⟨⟨by rw [pX], .inr ⟨g,ys.length,cs,rfl,hB,hg,kT _,h0,by rw [hl],?_⟩⟩⟩
 rw [<-hc,kI (by simp [hl])]
theorem yz {o:Oper} {a:Act} {K:Act->World->Prop} {Q:Exit->Act->World->Prop} (s x:Operand)
  (ho:o.op = .call { callee:= .builtin .append,args:=#[s,x],argTypes:=#[22,22] }) (B:Nat) (v:Value) (xs ys:List Ac) (hs:a.eval s=v) (hv:cy B w v xs) (g c:Nat) (cs:Array Value) (hx:a.eval x = .slice (some ⟨g,0,none⟩) ys.length c)
  (hg:w.heap[g]?=some (.cells cs 46)) (hc:cs.toList=ys.flatMap qD) (hlen:xs.length+ys.length<=1000000) (hbase:B<=w.heap.size) (h:∀v' w',cy B w' v' (xs++ys)->w.grownBy w' v.ownBlock->K (a.put o.dst v') w'):o.wp Tryz.prog a w K Q:=by
 obtain⟨i0,z,hi,hz,hz1,hz2,hz3⟩:=cG Tryz.Wf
 refine Go.wp_append_own_wide w s x 22 ho B 46 i0 z 6 56 Tryz.underlying22 hi hz hz1 hz2 hz3 aY v xs.length _ hs hv.row ⟨g,0,none⟩ ys.length c (ys.flatMap qD) hx (pX ys) (fun j u hu=>?_) (EG ys) (by unfold maxLen;omega) af hbase ?_
 ·have ha:Addr.add ⟨g,0,none⟩ j=⟨g,j,none⟩:=by simp [Addr.add];omega
  rw [ha]
  rw [<-hc]at hu
  simp only [World.cell?,hg]
  simpa using hu
 ·intro v' w' hown' hgr _
  refine h v' w' ⟨?_⟩ hgr
  rw [sF,eO]
  exact hown'
end Go.Proofs.YtmljjfhgciaceaaGreatDoor
