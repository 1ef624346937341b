/- Texts of mine that come as one: MadeP MadeK Made FitP. -/
import Derived.Test.YtmljjfhgciaceaaDoorHd
import Derived.Test.YtmljjfhgciaceaaDoorPC
import Derived.Test.YtmljjfhgciaceaaDoorKE
import Derived.Test.YtmljjfhgciaceaaDoorPU
import Derived.Test.YtmljjfhgciaceaaDoorDP
import Derived.Test.YtmljjfhgciaceaaDoorOG
import Derived.Test.YtmljjfhgciaceaaDoorAQ
import Derived.Test.YtmljjfhgciaceaaDoorKG
import Derived.Test.YtmljjfhgciaceaaDoorMerged
import Derived.Test.YtmljjfhgciaceaaDoorSO
import Derived.Deep.CutBlock
namespace Go.Proofs.YtmljjfhgciaceaaDoor
section
variable {fl:Int} {ns:List ByteArray} {l:List aC} {T:Nat->Tr}
def Fh (l:List aC):Prop:=aT l/\(∀e∈l,0<=e.key/\e.key<1099511627776)/\l.length<=10000
def nM (l:List aC) (size:Int) (k:Nat) (es:List aC):Prop:=(size=1/\es=l.take k)\/(dX l/\fe ((l.take k).map (bucket size))=some es)
theorem nM.start (l:List aC) (size:Int) (hg:size=1\/dX l):nM l size 0 []:=by
 rcases hg with h|h
 ·exact .inl ⟨h,rfl⟩
 ·exact .inr ⟨h,rfl⟩
section
variable {l es:List aC} {size:Int} {k:Nat}
theorem nM.F9 (h:nM l size k es) (hs:size=1\/size=60\/size=3600) (hr:Fh l):aT es/\es.length<=k:=by
 rcases h with ⟨-,rfl⟩|⟨hg,hb⟩
 ·exact⟨hr.1.sublist (List.take_sublist _ _),by rw [eP];omega⟩
 ·have hP:dX ((l.take k).map (bucket size)):=by
   have:=eu (show 0<size by omega) hg;rw [<-wL k l,Ap]at this;exact this.left
  obtain⟨h1,h2,h3,h4,h5⟩:=fR hP.1 hb
  exact⟨h5,by rw [oJ,eP]at h4;omega⟩
theorem nM.keys (h:nM l size k es) (hs:size=1\/size=60\/size=3600) (hr:Fh l) (hk:k<l.length):∀e∈es,e.key<=(bucket size l[k]).key:=by
 rcases h with ⟨rfl,rfl⟩|⟨hg,hb⟩
 ·intro e he
  obtain⟨i,hi,rfl⟩:=kU he
  rw [eP]at hi
  rw [wI]
  have:=py.1 hr.1 i k af hk af
  rw [aaC];omega
 ·exact xt hs hr.1 hg hk hb
theorem nM.new (h:nM l size k es) (hs:size=1\/size=60\/size=3600) (hk:k<l.length) (hn:∀e∈es,e.key<(bucket size l[k]).key):nM l size (k+1) (es++[bucket size l[k]]):=by
 rcases h with ⟨rfl,rfl⟩|⟨hg,hb⟩
 ·exact .inl ⟨rfl,by rw [kK hk,aaC]⟩
 ·exact .inr ⟨hg,(pJ hk hb).trans (zx hn)⟩
theorem nM.old (h:nM l size k es) (hs:size=1\/size=60\/size=3600) (hr:Fh l) (hk:k<l.length) {j:Nat} (hj:es.length=j+1) (he:(es[j]'(by omega)).key=(bucket size l[k]).key) :
  dX l/\aq (es[j]'(by omega)).is=0/\aq l[k].is=0/\((es[j]'(by omega)).is.c+l[k].is.c<=1073741824->nM l size (k+1) (es.set j ⟨(es[j]'(by omega)).key,(es[j]'(by omega)).is.join l[k].is⟩))/\(¬(es[j]'(by omega)).is.c+l[k].is.c<=1073741824->bW l size=none):=by
 rcases h with ⟨rfl,rfl⟩|⟨hg,hb⟩
 ·exfalso
  rw [wI,aaC]at he
  rw [eP]at hj
  have:=py.1 hr.1 j k af hk af
  omega
 ·have hP:dX ((l.take k).map (bucket size)):=by
   have:=eu (show 0<size by omega) hg;rw [<-wL k l,Ap]at this;exact this.left
  obtain⟨h1,h2,h3,h4,h5⟩:=fR hP.1 hb
  have hx:=(hg.1 _ (fP hk)).2
  have hst:=pJ (size:=size) hk hb
  have YS:=zw (x:=bucket size l[k]) (i:=j) af h5 (Bv h5 hj he) he
  refine⟨hg,(h3 _ (fP _)).2,hx,fun hc=> .inr ⟨hg,?_⟩,fun hc=>?_⟩
  ·rw [hst,YS,he];exact ar hc
  ·exact uk (k:=k+1) (by rw [hst,YS];exact ai hc)
end
def qi (ns:List ByteArray) (fl:Int) (l:List aC):Prop:=
 (∃k,k<3/\dX l/\bW l (aQ k)=none)\/(∃k es,k<3/\nM l (aQ k) l.length es/\(iG none es≠0\/2900<es.length)) \/
 (∃T:Nat->Tr,(∀k,k<3->∃es,nM l (aQ k) l.length es/\Made es (T k))/\aO ⟨ns,T 0,T 1,T 2,fl⟩=false)
structure wS (ns:List ByteArray) (fl:Int) (l:List aC) (T:Nat->Tr):Prop where
 may:aO ⟨ns,T 0,T 1,T 2,fl⟩=true
 tree:∀k,k<3->∃es,nM l (aQ k) l.length es/\Made es (T k)
theorem wS.book (h:wS ns fl l T) (hl:aT l):bY ⟨ns,T 0,T 1,T 2,fl⟩=some l:=by
 obtain⟨es,h1,h2⟩:=h.tree 0 aW
 have hes:es=l:=by
  rcases h1 with ⟨-,h1⟩|⟨hg,h1⟩
  ·rw [h1,List.take_length]
  ·rw [List.take_length,show aQ 0=1 from rfl,gM]at h1
   obtain⟨h3,-⟩:=fR hg.1 h1
   rw [h3,Ak hl hg.1.bQ]
 subst hes
 have h3:=h2.knows
 obtain⟨l',hl',-⟩:=aaK h.may
 have h4:=(lC hl').1
 have:l'=es:=cY (h4.symm.trans h3)
 rw [<-this];exact hl'
structure Fit (ns:List ByteArray) (fl:Int) (l:List aC):Prop where
 n16:ns.length<=16
 may:∀s∈ns,dL s=true
 nd:ns.Nodup
 f0:0<=fl/\fl<=1048575
 f3:fl%3600=0
 F9:aT l
 good:dX l
 few:l.length<=2900
 cnt:fH l<=1073741824
 ok:∀e∈l,e.key/1048576<ns.length/\fl<=e.key%1048576/\e.is.t=e.key%1048576
theorem ER:∀{l:List aC} {p:Option Int},aT l->Checked l->(∀e∈l,0<=e.key/\e.key<1099511627776)->(∀k,p=some k->∀e∈l,k<e.key)->iG p l=0
 |[],_,_,_,_,_=>by unfold iG;rfl
 |e::l,p,hr,hc,hk,hp=>by
  have h1:=rE.1 hr
  have h2:=hc e bj
  have h3:=hk e bj
  unfold iG
  rw [ai,ai af,ai (jo h2.2)]
  ·exact ER h1.2 (fun x hx=>hc x (by simp [hx])) (fun x hx=>hk x (by simp [hx])) fun k hkk x hx=>by
    injection hkk with hkk;subst hkk;exact h1.1 x hx
  ·rintro⟨k,hk1,hk2⟩
   have:=hp k hk1 e bj
   omega
theorem Fit.rolled (h:Fit ns fl l) (k:Nat):bW l (aQ k)=some (oG (l.map (bucket (aQ k)))):=by
 have hb:=(eu (ir k) h.good).1
 unfold bW
 rw [jC hb,ar]
 refine oh hb.bQ ?_
 rw [rD];exact h.cnt
theorem Fit.mid {es:List aC} (h:Fit ns fl l) {k:Nat} (hm:nM l (aQ k) l.length es):es=oG (l.map (bucket (aQ k))):=by
 rcases hm with ⟨h1,h2⟩|⟨-,h2⟩
 ·rw [h2,List.take_length,h1,gM,Ak h.F9 h.good.1.bQ]
 ·rw [List.take_length]at h2
  exact cY (h2.symm.trans (h.rolled k))
theorem Fit.oG (h:Fit ns fl l) (k:Nat):dX (oG (l.map (bucket (aQ k))))/\aT (oG (l.map (bucket (aQ k))))/\(oG (l.map (bucket (aQ k)))).length<=2900:=by
 have hb:=eu (ir k) h.good
 have hr:=h.rolled k
 unfold bW at hr
 obtain⟨h1,h2,h3,h4,h5⟩:=fR hb.1 hr
 refine⟨oV hb hr,h5,?_⟩
 rw [oJ]at h4
 have:=h.few;omega
theorem Fit.base (h:Fit ns fl l) (hT:∀k,k<3->allT (T k)=some (Go.Proofs.YtmljjfhgciaceaaDoor.oG (l.map (bucket (aQ k))))):aO ⟨ns,T 0,T 1,T 2,fl⟩=true/\bY ⟨ns,T 0,T 1,T 2,fl⟩=some l:=by
 have h0:allT (T 0)=some l:=by rw [hT 0 aW,show aQ 0=1 from rfl,gM,Ak h.F9 h.good.1.bQ]
 have hb:bY ⟨ns,T 0,T 1,T 2,fl⟩=some l:=by
  refine uW h0 (nK.2 fun e he=>?_)
  have:=h.ok e he
  simp [jn]
  exact⟨⟨this.1,this.2.1⟩,this.2.2⟩
 refine⟨jX ⟨h.n16,h.f0.1,h.f0.2,h.f3,fun i hi=>⟨h.may _ (fP hi),fun k hk=>?_⟩,⟨l,hb,fun k hk=>?_⟩⟩,hb⟩
 ·have hi':i<ns.length:=hi
  exact py.1 h.nd k i af hi' hk
 ·have e:(⟨ns,T 0,T 1,T 2,fl⟩:Ba).tree k=T k:=by
   obtain rfl|rfl|rfl:k=0\/k=1\/k=2:=af
   all_goals rfl
  rw [lU (h.rolled k) (by rw [e];exact hT k hk)]
  simp
theorem Fit.Ps (h:Fit ns fl l):¬qi ns fl l:=by
 rintro(⟨k,-,-,h1⟩|⟨k,es,-,h1,h2⟩|⟨T,h1,h2⟩)
 ·rw [h.rolled k]at h1;cases h1
 ·obtain rfl:=h.mid h1
  obtain⟨g1,g2,g3⟩:=h.oG k
  rcases h2 with h2|h2
  ·exact h2 (ER g2 g1.1 g1.2.1 fun k hk=>by cases hk)
  ·omega
 ·have:=(h.base (T:=T) fun k hk=>by
   obtain⟨es,h3,h4⟩:=h1 k hk
   obtain rfl:=h.mid h3
   exact h4.knows).1
  rw [h2]at this;cases this
theorem Fit.bst (h:Fit ns fl l) (ht:wS ns fl l T) {N:Nat} (hN:l.length<=N) (hc:fH l<=N):FK ⟨ns,T 0,T 1,T 2,fl⟩ l N:=by
 refine⟨ht.may,ht.book h.F9,fun k hk=>?_,hc⟩
 obtain⟨es,h1,h2⟩:=ht.tree k hk
 obtain rfl:=h.mid h1
 have e:(⟨ns,T 0,T 1,T 2,fl⟩:Ba).tree k=T k:=by
  obtain rfl|rfl|rfl:k=0\/k=1\/k=2:=af
  all_goals rfl
 rw [e]
 have h3:=h2.2.2.2.2.2
 have h4:(Go.Proofs.YtmljjfhgciaceaaDoor.oG (l.map (bucket (aQ k)))).length<=l.length:=by
  have:=@E8 (l.map (bucket (aQ k))) []
  rw [oJ]at this
  unfold Go.Proofs.YtmljjfhgciaceaaDoor.oG
  simpa using this
 omega
end
open Go.RowKit
section
variable {α:Type}
def upd (f:Nat->α) (k:Nat) (v:α):Nat->α:=fun j=>if j=k then v else f j
theorem yO (f:Nat->α) (k:Nat) (v:α):upd f k v k=v:=ar rfl
theorem upd_ne (f:Nat->α) {k j:Nat} (v:α) (h:j≠k):upd f k v j=f j:=ai h
structure MdK (w:World) (ns:List ByteArray) (fl:Int) (l:List aC) (sn:Option Addr) (sc:Nat) (g:Nat->Option Addr) (n c:Nat->Nat) (r:Nat->Int) (T:Nat->Tr) (k:Nat) (wr:World):Prop where
 below:ah w wr
 size:w.heap.size+3<=wr.heap.size
 res:wr.heap[w.heap.size]?=some (.cells cL 35)
 box:wr.heap[w.heap.size+1]?=some (.cells #[.slice sn ns.length sc, .slice (g 0) (n 0) (c 0), .int .i64 (r 0), .slice (g 1) (n 1) (c 1), .int .i64 (r 1), .slice (g 2) (n 2) (c 2), .int .i64 (r 2), .int .i64 fl] 35)
 sz:wr.heap[w.heap.size+2]?=some (.cells #[.int .i64 1, .int .i64 60, .int .i64 3600] 3)
 tr:∀j,j<k->(∃es,nM l (aQ j) l.length es/\Made es (T j))/\∀w'',aM (w.heap.size+2) wr w''->bM w'' (.agg #[.slice (g j) (n j) (c j), .int .i64 (r j)]) (T j)
section
variable {w:World} {ns:List ByteArray} {fl:Int} {l:List aC} {sn:Option Addr} {sc:Nat} {g:Nat->Option Addr} {n c:Nat->Nat} {r:Nat->Int} {T:Nat->Tr} {k:Nat} {wr wx:World}
theorem MdK.later (h:MdK w ns fl l sn sc g n c r T k wr) (hb:ah wr wx):MdK w ns fl l sn sc g n c r T k wx:=
 ⟨Below.trans' h.below hb h.below.size,ik h.size hb.size,(hb.block _ (by have:=h.size;omega)).trans h.res,(hb.block _ (by have:=h.size;omega)).trans h.box,(hb.block _ (by have:=h.size;omega)).trans h.sz,
  fun j hj=>⟨(h.tr j hj).1,fun w'' hw=>(h.tr j hj).2 w'' ((aM.of hb aH).trans hw)⟩⟩
theorem MdK.cells (h:MdK w ns fl l sn sc g n c r T k wr):wr.cell? ⟨w.heap.size+1,0,none⟩=some (.slice sn ns.length sc)/\wr.cell? ⟨w.heap.size+1,1,none⟩=some (.slice (g 0) (n 0) (c 0))/\wr.cell? ⟨w.heap.size+1,2,none⟩=some (.int .i64 (r 0))/\wr.cell? ⟨w.heap.size+1,3,none⟩=some (.slice (g 1) (n 1) (c 1))/\wr.cell? ⟨w.heap.size+1,4,none⟩=some (.int .i64 (r 1))/\wr.cell? ⟨w.heap.size+1,5,none⟩=some (.slice (g 2) (n 2) (c 2))/\wr.cell? ⟨w.heap.size+1,6,none⟩=some (.int .i64 (r 2))/\wr.cell? ⟨w.heap.size+1,7,none⟩=some (.int .i64 fl)/\∀o,wr.frozen? ⟨w.heap.size+1,o,none⟩=false:=by
 have h1:=h.box
 simp [World.cell?,World.frozen?,h1]
theorem MdK.zero (h:MdK w ns fl l sn sc g n c r T k wr):wr.cell? ⟨w.heap.size,0,none⟩=some (.slice none 0 0)/\wr.cell? ⟨w.heap.size,1,none⟩=some (.slice none 0 0)/\wr.cell? ⟨w.heap.size,2,none⟩=some (.int .i64 0)/\wr.cell? ⟨w.heap.size,3,none⟩=some (.slice none 0 0)/\wr.cell? ⟨w.heap.size,4,none⟩=some (.int .i64 0)/\wr.cell? ⟨w.heap.size,5,none⟩=some (.slice none 0 0)/\wr.cell? ⟨w.heap.size,6,none⟩=some (.int .i64 0)/\wr.cell? ⟨w.heap.size,7,none⟩=some (.int .i64 0)/\∀o,wr.frozen? ⟨w.heap.size,o,none⟩=false:=by
 have h1:=h.res
 simp [World.cell?,World.frozen?,h1,cL]
theorem MdK.at (h:MdK w ns fl l sn sc g n c r T k wr) (hk:k<3):wr.cell? ⟨w.heap.size+2,k,none⟩=some (.int .i64 (aQ k))/\(∃u,wr.cell? ⟨w.heap.size+1,1+k*2,none⟩=some u)/\∃u,wr.cell? ⟨w.heap.size+1,1+k*2+1,none⟩=some u:=by
 have h1:=h.box
 have h2:=h.sz
 obtain rfl|rfl|rfl:k=0\/k=1\/k=2:=af
 all_goals simp [World.cell?,h1,h2,aQ]
theorem MdK.good (h:MdK w ns fl l sn sc g n c r T k wr) (hr:Fh l):aQ k=1\/dX l:=by
 cases k with
 |zero=>exact .inl rfl
 |succ k=>
  obtain⟨⟨es,h1,h2⟩,-⟩:=h.tr 0 af
  rcases h1 with ⟨-,h1⟩|⟨h1,-⟩
  ·rw [List.take_length]at h1
   subst h1
   exact .inr ⟨h2.2.2.2.1,hr.2.1,by have:=hr.2.2;omega⟩
  ·exact .inr h1
theorem MdK.step {B:Nat} {w0:World} {so:Option Addr} {nn cc:Nat} {rt:Int} {t:Tr} {es:List aC} (h:MdK w ns fl l sn sc g n c r T k wr) (hk:k<3) (hB:w.heap.size+2<=B) (Oz:aM B w0 wr) (ht:∀w'',aM B w0 w''->bM w'' (.agg #[.slice so nn cc, .int .i64 rt]) t) (hm:nM l (aQ k) l.length es) (hd:Made es t) :
  MdK w ns fl l sn sc (upd g k so) (upd n k nn) (upd c k cc) (upd r k rt) (upd T k t) (k+1) ((wr.setCell ⟨w.heap.size+1,1+k*2,none⟩ (.slice so nn cc)).setCell ⟨w.heap.size+1,1+k*2+1,none⟩ (.int .i64 rt)):=by
 have hs:=h.size
 have hne:∀b,b≠w.heap.size+1->((wr.setCell ⟨w.heap.size+1,1+k*2,none⟩ (.slice so nn cc)).setCell ⟨w.heap.size+1,1+k*2+1,none⟩ (.int .i64 rt)).heap[b]?=wr.heap[b]?:=fun b hb=>
  (heap_setCell_other _ ⟨w.heap.size+1,_,none⟩ b _ hb).trans (heap_setCell_other _ ⟨w.heap.size+1,_,none⟩ b _ hb)
 have hkw:aM (w.heap.size+2) wr ((wr.setCell ⟨w.heap.size+1,1+k*2,none⟩ (.slice so nn cc)).setCell ⟨w.heap.size+1,1+k*2+1,none⟩ (.int .i64 rt)):=((aM.refl _ _).set (by show w.heap.size+1<_;omega) _).set (by show w.heap.size+1<_;omega) _
 refine⟨(h.below.setCell (by show w.heap.size<=w.heap.size+1;omega) _).setCell (by show w.heap.size<=w.heap.size+1;omega) _,by simp only [aA];exact hs,(hne _ af).trans h.res,?_,(hne _ af).trans h.sz,fun j hj=>?_⟩
 ·have h1:=heap_setCell_same (off:=1+k*2+1) (v:= .int .i64 rt) (heap_setCell_same (off:=1+k*2) (v:= .slice so nn cc) h.box)
  rw [h1]
  obtain rfl|rfl|rfl:k=0\/k=1\/k=2:=af
  all_goals simp [upd]
 ·by_cases hjk:j=k
  ·subst hjk
   rw [yO,yO,yO,yO,yO]
   exact⟨⟨es,hm,hd⟩,fun w'' hw=>ht w'' (Oz.trans ((hkw.trans hw).mono hB))⟩
  ·rw [upd_ne _ _ hjk,upd_ne _ _ hjk,upd_ne _ _ hjk,upd_ne _ _ hjk,upd_ne _ _ hjk]
   exact⟨(h.tr j af).1,fun w'' hw=>(h.tr j af).2 w'' (hkw.trans hw)⟩
theorem MdK.base (h:MdK w ns fl l sn sc g n c r T 3 wr):r 0=(T 0).root/\r 1=(T 1).root/\r 2=(T 2).root/\∀w'',jN w'' (.slice sn ns.length sc) ns->aM (w.heap.size+2) wr w''->bO w'' (.agg #[.slice sn ns.length sc, .slice (g 0) (n 0) (c 0), .int .i64 (T 0).root, .slice (g 1) (n 1) (c 1), .int .i64 (T 1).root, .slice (g 2) (n 2) (c 2), .int .i64 (T 2).root, .int .i64 fl]) ⟨ns,T 0,T 1,T 2,fl⟩:=by
 have key:∀j,j<3->r j=(T j).root/\∀w'',aM (w.heap.size+2) wr w''->bz w'' (.slice (g j) (n j) (c j)) (T j).nodes:=fun j hj=>by
  have h1:=(h.tr j hj).2
  have hx:∀w'',aM (w.heap.size+2) wr w''->r j=(T j).root/\bz w'' (.slice (g j) (n j) (c j)) (T j).nodes:=fun w'' hw=>by
   obtain⟨nv,e,hn⟩:=h1 w'' hw
   simp only [Value.agg.injEq,Array.mk.injEq,List.cons.injEq,Value.int.injEq,and_true,true_and]at e
   exact⟨e.2,e.1▸hn⟩
  exact⟨(hx wr (aM.refl _ _)).1,fun w'' hw=>(hx w'' hw).2⟩
 exact⟨(key 0 aW).1,(key 1 aW).1,(key 2 aW).1,fun w'' hs hw=>⟨_,_,_,_,rfl,hs,(key 0 aW).2 w'' hw,(key 1 aW).2 w'' hw,(key 2 aW).2 w'' hw⟩⟩
end
def NV (ns:List ByteArray) (fl:Int) (l:List aC) (nv:Value) (w:World) (x:Ending) (w':World):Prop:=
 ah w w'/\((∃E,E≠0/\x = .returned (.tuple #[dC, .int .i64 E])/\qi ns fl l) \/
  ∃sn sc g0 l0 p0 g1 l1 p1 g2 l2 p2,∃T:Nat->Tr,nv = .slice sn ns.length sc/\x = .returned (.tuple #[.agg (aG sn ns.length sc g0 l0 p0 g1 l1 p1 g2 l2 p2 ⟨ns,T 0,T 1,T 2,fl⟩), .int .i64 0])/\wS ns fl l T /\
   ∀w'',jN w'' nv ns->aM (w.heap.size+2) w' w''->bO w'' (.agg (aG sn ns.length sc g0 l0 p0 g1 l1 p1 g2 l2 p2 ⟨ns,T 0,T 1,T 2,fl⟩)) ⟨ns,T 0,T 1,T 2,fl⟩)
end
section
set_option maxRecDepth 100000
set_option maxHeartbeats 8000000
theorem cC {B xb:Nat} {w w0:World} (h:Below B w w0) (hx:B<=xb) (v0 v1 v2 v3 v4 v5 v6 v7:Value):Below B w ((((((((w0.setCell ⟨xb,0,none⟩ v0).setCell ⟨xb,1,none⟩ v1).setCell ⟨xb,2,none⟩ v2).setCell ⟨xb,3,none⟩ v3).setCell ⟨xb,4,none⟩ v4).setCell ⟨xb,5,none⟩ v5).setCell ⟨xb,6,none⟩ v6).setCell ⟨xb,7,none⟩ v7):=
 (((((((h.setCell hx _).setCell hx _).setCell hx _).setCell hx _).setCell hx _).setCell hx _).setCell hx _).setCell hx _
theorem r9 {M xb:Nat} {wx:World} (hx:xb<M) (v0 v1 v2 v3 v4 v5 v6 v7:Value):aM M wx ((((((((wx.setCell ⟨xb,0,none⟩ v0).setCell ⟨xb,1,none⟩ v1).setCell ⟨xb,2,none⟩ v2).setCell ⟨xb,3,none⟩ v3).setCell ⟨xb,4,none⟩ v4).setCell ⟨xb,5,none⟩ v5).setCell ⟨xb,6,none⟩ v6).setCell ⟨xb,7,none⟩ v7):=
 ((((((((aM.refl M wx).set hx _).set hx _).set hx _).set hx _).set hx _).set hx _).set hx _).set hx _
theorem O8 (k:Nat):aQ k=1\/aQ k=60\/aQ k=3600:=by unfold aQ;split;exact .inl rfl;split;exact .inr (.inl rfl);exact .inr (.inr rfl)
theorem Mi {nv lv:Value} {ns:List ByteArray} {fl:Int} {l:List aC} {w:World} (hn:jN w nv ns) (hl:fu w lv l) (hr:Fh l) (hst:∀s∈ns,s.size<=140737488351232) (hsz:bL w) :
  Calls Tryd.prog 112 #[nv, .int .i64 fl,lv] w (NV ns fl l nv w):=by
 obtain⟨sn,sc,rfl⟩:∃sn sc,nv = .slice sn ns.length sc:=by obtain⟨ao,cap,h,-⟩:=hn;exact⟨ao,cap,h⟩
 obtain⟨ao,cap,rfl⟩:=hl.isSlice
 have HN:=hdd hn
 have HL:=hdd hl
 have HR:=hdd hr
 have nN:=hdd (aL hst hsz)
 obtain⟨W0,hW0⟩:=bP (((w.alloc (.cells cL 35)).alloc (.cells #[.slice sn ns.length sc, .slice none 0 0, .int .i64 0, .slice none 0 0, .int .i64 0, .slice none 0 0, .int .i64 0, .int .i64 fl] 35)).alloc (.cells #[.int .i64 1, .int .i64 60, .int .i64 3600] 3))
 have HI:=hdd (show MdK w ns fl l sn sc (fun _=>none) (fun _=>0) (fun _=>0) (fun _=>0) (fun _=>⟨[],0⟩) 0 W0 by
  refine⟨by rw [hW0];exact ag,by rw [hW0];simp,?_,?_,?_,fun j hj=>absurd hj (Nat.not_lt_zero _)⟩
  ·rw [hW0,kW _ _ _ (by simp <;> omega),kW _ _ _ (by simp <;> omega)];exact aj _ _ rfl
  ·rw [hW0,kW _ _ _ bj];exact aj _ _ bj
  ·rw [hW0];exact aj _ _ bj)
 clear hn hl hr hst hsz
 go_enter Tryd.func112,Tryd.ntmps112
 go_upto_region 3 with (fail)
 rw [<-hW0]
 clear hW0
 go_wp2_with fail
 go_loopg [24] 3 (fun gk i wr=>∃k:Nat,k<=3/\gk=3-k/\i = .int .i64 k/\Hid (∃g n c r T,MdK w ns fl l sn sc g n c r T k wr))
 case atStart=>exact⟨0,af,rfl,rfl,hdd ⟨_,_,_,_,_,HI.out⟩⟩
 case round=>
  clear HI
  obtain⟨k,hk,rfl,rfl,HM⟩:=hrel
  obtain⟨wo,rfl⟩:=bP (wr)
  obtain⟨g,n,c,r,T,hm⟩:=HM.out
  have HM:=hdd hm
  by_cases hlt:k<3
  ·obtain⟨hsk,-,-⟩:=hm.at hlt
   have I2:=hm.good HR.out
   have hsi:=O8 k
   obtain⟨S,hS⟩:=bt (aQ k)
   rw [hS]at hsk I2 hsi
   have HS:=hdd hS
   have KU:=hdd hsi
   have jS:=fun w'=>lQ (ab:=w.heap.size+2) (aV:=0) (n:=3) (cap:=3) (show (k:Int)=((k:Nat):Int) by rfl) hlt w'
   have hll:=HR.out.2.2
   have zJ:(k:Int)<3:=af
   clear hm hS hsi
   go_wp2_with fail
   go_loopg [11,31] l.length (fun g2 ov i wi=>∃(q:Nat) (es:List aC),q<=l.length/\g2=l.length-q/\i = .int .i64 q/\au wo.heap.size wi ov es/\Hid (nM l S q es)/\Hid (ah wo wi))
   case atStart=>exact⟨0,[],jd _,rfl,rfl,au.nil _ _,hdd (nM.start l S I2),hdd (aI _ _)⟩
   case round=>
    obtain⟨q,es,hq,rfl,rfl,hown,HI,HB⟩:=hrel
    obtain⟨so,oc,rfl⟩:=hown.isSlice
    by_cases PV:q<l.length
    ·obtain⟨_,_,hv,-,-,-,-,h5⟩:=HL.out
     injection hv with hv1 _ hv3
     subst hv1 hv3
     obtain⟨eb,eB,lA,si,nE⟩:=h5 af
     subst lA
     have aa5:=HM.out.size
     have M7:=HB.out.size
     have Tn:=Below.trans' HM.out.below HB.out HM.out.below.size
     obtain⟨y0,y1,y2,y3,y4,y5,y6⟩:=bU Tn si nE PV
     have X6:=hdd (HI.out.keys KU.out HR.out PV)
     have RF:=hdd (fun hn=>HI.out.new KU.out PV hn)
     have Uw:=hdd (fun j hj he=>HI.out.old KU.out HR.out PV (j:=j) hj he)
     have HRE:=hdd (HI.out.F9 KU.out HR.out)
     have hyr:=HR.out.2.1 _ (fP PV)
     obtain⟨y,hy⟩:=bt (l[q])
     rw [hy]at y0 y1 y2 y3 y4 y5 y6 X6 RF Uw hyr
     have hsp:0<S/\S<=3600:=by have:=KU.out;omega
     obtain⟨M,hM⟩:=bt (y.key%1048576)
     have Lb:0<=M/\M<1048576:=af
     obtain⟨RR,YX⟩:=bt (M%S)
     have hR0:0<=RR/\RR<S:=by rw [<-YX];exact⟨Int.emod_nonneg _ af,Int.emod_lt_of_pos _ hsp.1⟩
     obtain⟨P,hP⟩:=bt (y.key-RR)
     have hbk:bucket S y=⟨P,y.is⟩:=by simp [bucket,hM,YX,hP]
     rw [hbk]at X6 RF Uw
     have m1:y.key.tmod 1048576=M:=by rw [yj hyr.1];exact hM
     have m2:M.tmod S=RR:=by rw [yj Lb.1];exact YX
     have m3:IntKind.i64.wrap M=M:=IntWalk.i64_in _ af
     have m4:IntKind.i64.wrap RR=RR:=IntWalk.i64_in _ af
     have m5:IntKind.i64.wrap (y.key-RR)=P:=by rw [hP];exact IntWalk.i64_in _ af
     have hs0:(S == 0)=false:=by simp;omega
     have aan:¬S=0:=af
     have aaS:=fun w'=>dw (ab:=eb) (aV:=eB) (n:=l.length) (cap:=cap) (show (q:Int)=((q:Nat):Int) by rfl) PV w'
     have G3:eb<wr.heap.size:=by have:=HM.out.below.size;omega
     clear hy hM YX hP hbk nE h5 hyr Lb hR0
     go_upto_region 9 with (fail)
     obtain⟨W1,hW1⟩:=bP (wr.alloc (.cells #[.int .i64 y.key, .int .i64 y.is.c, .int .i64 y.is.s, .int .i64 y.is.mi, .int .i64 y.is.ma, .int .i64 y.is.t, .int .i64 y.is.l] 96))
     have hb1:ah wr W1:=by rw [hW1];exact ag
     have k1:W1.heap[wr.heap.size]?=some (.cells #[.int .i64 y.key, .int .i64 y.is.c, .int .i64 y.is.s, .int .i64 y.is.mi, .int .i64 y.is.ma, .int .i64 y.is.t, .int .i64 y.is.l] 96):=by rw [hW1];exact aj _ _ rfl
     have hz1:W1.heap.size=wr.heap.size+1:=by rw [hW1];simp
     have Ij:=hdd (aL hb1 (aL k1 hz1))
     obtain⟨x0,x1,x2,x3,x4,x5,x6⟩:W1.cell? ⟨wr.heap.size,0,none⟩=some (.int .i64 y.key)/\W1.cell? ⟨wr.heap.size,1,none⟩=some (.int .i64 y.is.c)/\W1.cell? ⟨wr.heap.size,2,none⟩=some (.int .i64 y.is.s)/\W1.cell? ⟨wr.heap.size,3,none⟩=some (.int .i64 y.is.mi)/\W1.cell? ⟨wr.heap.size,4,none⟩=some (.int .i64 y.is.ma)/\W1.cell? ⟨wr.heap.size,5,none⟩=some (.int .i64 y.is.t)/\W1.cell? ⟨wr.heap.size,6,none⟩=some (.int .i64 y.is.l):=by simp [World.cell?,k1]
     have xf:∀o,W1.drew.frozen? ⟨wr.heap.size,o,none⟩=false:=by intro o;have Pz:W1.drew.heap[wr.heap.size]?=_:=k1;simp [World.frozen?,Pz]
     have x0d:W1.drew.cell? ⟨wr.heap.size,0,none⟩=some (.int .i64 y.key):=x0
     rw [<-hW1]
     clear hW1 hb1 k1 hz1 y0 y1 y2 y3 y4 y5 y6 aaS
     refine eD [(0,1),(1,0),(2,1),(3,0),(4,1),(5,1),(6,1),(7,1),(8,1),(9,3)] 9
      (fun W=>W.cell? ⟨wr.heap.size,0,none⟩=some (.int .i64 y.key)) bT bT x0d ?_
     (simp only [bG,List.filterMap_cons,List.filterMap_nil,List.getElem?_cons_zero,List.getElem?_cons_succ,Option.map_some])
     (repeat (first|refine lO ?_|refine lN ?_|refine lM ?_);(try simp only [Act.put,List.setIfInBounds_toArray,List.set_cons_zero,List.set_cons_succ]))
     refine iK ?_ (fun K hK=>?_)
     (focus (first|exact br rfl _|exact eZ rfl rfl rfl rfl))
     go_simp
     refine hK _ _ ?_
     clear hK K
     refine jE ?_
     obtain⟨V2,hV2⟩:=bP ((W1.setCell ⟨wr.heap.size,0,none⟩ (.int .i64 P)).drew)
     have kp:V2.heap[wr.heap.size]?=some (.cells #[.int .i64 P, .int .i64 y.is.c, .int .i64 y.is.s, .int .i64 y.is.mi, .int .i64 y.is.ma, .int .i64 y.is.t, .int .i64 y.is.l] 96):=by
      rw [hV2];exact heap_setCell_same Ij.out.2.1
     have hb2:ah wr V2:=by rw [hV2];exact(Ij.out.1.setCell aH _).drew
     have hz2:V2.heap.size=wr.heap.size+1:=by rw [hV2];show (W1.setCell _ _).heap.size=_;rw [aA];exact Ij.out.2.2
     have gI:=hdd hb2
     have Og:=hdd (aL kp hz2)
     have hown2:au wo.heap.size V2 (.slice so es.length oc) es:=hown.below hb2 aH
     obtain⟨yb,hyb⟩:=bt (wr.heap.size)
     rw [hyb]at kp Og
     obtain⟨z0,z1,z2,z3,z4,z5,z6⟩:V2.cell? ⟨yb,0,none⟩=some (.int .i64 P)/\V2.cell? ⟨yb,1,none⟩=some (.int .i64 y.is.c)/\V2.cell? ⟨yb,2,none⟩=some (.int .i64 y.is.s)/\V2.cell? ⟨yb,3,none⟩=some (.int .i64 y.is.mi)/\V2.cell? ⟨yb,4,none⟩=some (.int .i64 y.is.ma)/\V2.cell? ⟨yb,5,none⟩=some (.int .i64 y.is.t)/\V2.cell? ⟨yb,6,none⟩=some (.int .i64 y.is.l):=by simp [World.cell?,kp]
     rw [<-hV2,hyb]
     clear hV2 hb2 kp hz2 x0 x1 x2 x3 x4 x5 x6 xf x0d m1 m2 m3 m4 m5 hs0 aan Ij
     have hel:=HRE.out.2
     have hes:es.length<=1000000:=af
     obtain h0|⟨j,hj⟩:es.length=0\/∃j,es.length=j+1:=by cases h:es.length;exact .inl rfl;exact .inr ⟨_,rfl⟩
     ·obtain rfl:=wO h0
      have FH:=hdd (show nM l S (q+1) [⟨P,y.is⟩]from RF.out (fun e he=>by cases he))
      have n1:IntKind.i64.wrap (0-1) = -1:=aW
      have hcz:(([]:List aC).length:Nat)=0:=rfl
      rw [hcz]at hown2 ⊢
      clear h0 hcz Uw RF X6 hel
      go_upto_region 11 with (fail)
      refine eD [(0,1),(1,1),(2,1),(3,1),(4,1),(5,1),(6,1),(7,0),(8,1),(9,0),(10,1),(11,3)] 11
       (fun _=>True) bT bT trivial ?_
      (simp only [bG,List.filterMap_cons,List.filterMap_nil,List.getElem?_cons_zero,List.getElem?_cons_succ,Option.map_some])
      (repeat (first|refine lO ?_|refine lN ?_|refine lM ?_);(try simp only [Act.put,List.setIfInBounds_toArray,List.set_cons_zero,List.set_cons_succ]))
      refine iK ?_ (fun K hK=>?_)
      (focus (first|exact br rfl _|exact eZ rfl rfl rfl rfl))
      go_simp
      refine hK _ _ ?_
      clear hK K
      refine jE ?_
      have Fy:ah wo V2:=(Below.trans' HB.out gI.out M7);have abl:=Fy.size
      go_wp2_with ((at_builtin;refine eW rfl (.tmp 78) (.tmp 80) rfl wo.heap.size _ [] rfl (by repeat (first|assumption|with_reducible refine au.alloc ?_ _|with_reducible refine au.drewN ?_ _|with_reducible refine au.drew ?_)) ⟨_,0,none⟩ ⟨P,y.is⟩ rfl (fun j u h=>mO h) bj (by first|omega|(simp;done)|(simp;omega)|(simp [aJ];done)|(simp [aJ];omega)) ?_;intro v3 w3 uq hg3;have hb3:=hg3 wo.heap.size wo ag aH))
      go_roundg (l.length-(q+1))
      case measure=>omega
      case rel=>exact⟨q+1,_,PV,rfl,by go_num,uq,FH,hdd hb3⟩
     ·have n1:IntKind.i64.wrap ((es.length:Int)-1)=(j:Int):=by rw [hj];rw [show (((j+1:Nat):Int)-1)=(j:Int) by omega];exact IntWalk.i64_in _ af
      have hj0:(0:Int)<=(j:Int):=af
      have hjl:j<es.length:=af
      obtain⟨hl,⟨h0,h0'⟩|⟨og,cap',cur,hv,hBg,hog,-⟩⟩:=id hown2.row
      ·omega
      injection hv with hv1 _ hv3
      subst hv1 hv3
      have J6:og<V2.heap.size:=(hown2.lt og rfl).2
      obtain⟨_,_,hv,-,-,-,-,Y8⟩:=hown2.at af
      injection hv with hv1 _ hv3
      subst hv3
      obtain⟨eb2,Nn,lA,Tg,J7⟩:=Y8 af
      rw [<-hv1]at lA
      obtain⟨rfl,rfl⟩:og=eb2/\0=Nn:=by injection lA with lA;injection lA with a1 a2;exact⟨a1,a2⟩
      obtain⟨o0,o1,o2,o3,o4,o5,o6⟩:=bU (aI _ _) Tg J7 hjl
      simp only [iW]at o0 o1 o2 o3 o4 o5 o6
      have GY:=fun w'=>dw (ab:=og) (aV:=0) (n:=es.length) (cap:=oc) (show (j:Int)=((j:Nat):Int) by rfl) hjl w'
      simp only [iW]at GY
      have hky:=X6.out _ (fP hjl)
      have Qv:=hdd (Uw.out j hj)
      have Zo:=hdd (show es[j].key<P->nM l S (q+1) (es++[⟨P,y.is⟩])from fun hlt=>RF.out fun e he=>by
       obtain⟨t,ht,rfl⟩:=kU he
       by_cases V7:t=j
       ·subst V7;exact hlt
       ·have h2:=py.1 HRE.out.1 t j ht hjl af
        show _<P;omega)
      have hky:es[j].key<=P:=hky
      have Fm:=hdd (fun(wz:World) (Y:aw) (ho:au wo.heap.size wz (.slice (some ⟨og,0,none⟩) es.length oc) es)=>ho.set (y:=Y) hjl)
      obtain⟨zz,hzz⟩:=bt (es[j])
      rw [hzz]at o0 o1 o2 o3 o4 o5 o6 hky Qv Zo Fm
      have J3:yb<V2.heap.size:=by rw [Og.out.2];omega
      clear J7 Y8 hzz lA hv1 hl Uw RF X6 hel hj
      by_cases hkk:zz.key=P
      ·have e3:(zz.key == P)=true:=by simp [hkk]
       obtain⟨hpg,Es,hcy,ey,hnone⟩:=Qv.out hkk
       have nA:=hdd (aL hpg (aL Es (aL hcy (aL ey hnone))))
       go_upto_region 11 with (fail)
       refine eD [(0,1),(1,1),(2,1),(3,1),(4,1),(5,1),(6,1),(7,0),(8,1),(9,0),(10,1),(11,3)] 11
        (fun W=>W.cell? ⟨yb,0,none⟩=some (.int .i64 P)/\W.cell? ⟨og,j*7,none⟩=some (.int .i64 zz.key)) bT bT ⟨z0,o0⟩ ?_
       (simp only [bG,List.filterMap_cons,List.filterMap_nil,List.getElem?_cons_zero,List.getElem?_cons_succ,Option.map_some])
       (repeat (first|refine lO ?_|refine lN ?_|refine lM ?_);(try simp only [Act.put,List.setIfInBounds_toArray,List.set_cons_zero,List.set_cons_succ]))
       refine iK ?_ (fun K hK=>?_)
       (focus (first|exact br rfl _|exact eZ rfl rfl rfl rfl))
       go_simp
       refine hK _ _ ?_
       clear hK K
       refine jE ?_
       obtain⟨V3,YV⟩:=bP (V2.drew)
       have hb3:ah V2 V3:=by rw [YV];exact(aI _ _).drew
       have hz3:V3.heap.size=V2.heap.size:=by rw [YV];rfl
       rw [<-YV]
       obtain⟨u,hu⟩:=bt (zz.is)
       rw [hu]at o1 o2 o3 o4 o5 o6 nA
       obtain⟨J,E,G8⟩:∃J E,bH u y.is=(J,E):=⟨_,_,rfl⟩
       have C2:=hdd G8
       have Zp:=hdd fun w'=>(by have:=jQ u y.is w';rw [G8]at this;exact this :
        Calls Tryd.prog 18 #[.agg #[.int .i64 u.c, .int .i64 u.s, .int .i64 u.mi, .int .i64 u.ma, .int .i64 u.t, .int .i64 u.l], .agg #[.int .i64 y.is.c, .int .i64 y.is.s, .int .i64 y.is.mi, .int .i64 y.is.ma, .int .i64 y.is.t, .int .i64 y.is.l]] w' fun e' w5=>e' = .returned (.tuple #[.agg #[.int .i64 J.c, .int .i64 J.s, .int .i64 J.mi, .int .i64 J.ma, .int .i64 J.t, .int .i64 J.l], .int .i64 E])/\ah w' w5)
       have Vm:=hdd fun W (hb:ah V3 W)=>(by
        have gc:∀b o,b<V2.heap.size->W.cell? ⟨b,o,none⟩=V2.cell? ⟨b,o,none⟩:=fun b o h=>(hb.cell (p:=⟨b,o,none⟩) (by show b<_;omega)).trans (hb3.cell (p:=⟨b,o,none⟩) h)
        rw [gc _ _ J3,gc _ _ J3,gc _ _ J3,gc _ _ J3,gc _ _ J3,gc _ _ J3,gc _ _ J6,gc _ _ J6,gc _ _ J6,gc _ _ J6,gc _ _ J6,gc _ _ J6]
        exact⟨z1,z2,z3,z4,z5,z6,o1,o2,o3,o4,o5,o6⟩:W.cell? ⟨yb,1,none⟩=some (.int .i64 y.is.c)/\W.cell? ⟨yb,2,none⟩=some (.int .i64 y.is.s)/\W.cell? ⟨yb,3,none⟩=some (.int .i64 y.is.mi)/\W.cell? ⟨yb,4,none⟩=some (.int .i64 y.is.ma)/\W.cell? ⟨yb,5,none⟩=some (.int .i64 y.is.t)/\W.cell? ⟨yb,6,none⟩=some (.int .i64 y.is.l)/\W.cell? ⟨og,j*7+1,none⟩=some (.int .i64 u.c)/\W.cell? ⟨og,j*7+2,none⟩=some (.int .i64 u.s)/\W.cell? ⟨og,j*7+3,none⟩=some (.int .i64 u.mi)/\W.cell? ⟨og,j*7+4,none⟩=some (.int .i64 u.ma)/\W.cell? ⟨og,j*7+5,none⟩=some (.int .i64 u.t)/\W.cell? ⟨og,j*7+6,none⟩=some (.int .i64 u.l))
       have Vo:=hdd (aL (hown2.below hb3 aH) (Below.trans' (Below.trans' HB.out gI.out M7) hb3 (by have:=gI.out.size;omega)))
       have afP:og<V3.heap.size:=af
       have HZ3:=hdd hz3
       clear hz3 YV hb3 G8 hu hpg Es hcy ey hnone z0 z1 z2 z3 z4 z5 z6 o0 o1 o2 o3 o4 o5 o6 n1 hj0 e3 Qv Zo hown hown2 hkk
       go_upto_region 12 with (fail)
       go_cut [15,16] (fun p c wx=>∃g2:Nat,p = .pointer (some ⟨g2,0,none⟩)/\c = .int .i64 E/\Hid (wx.heap[g2]?=some (.cells #[.int .i64 J.c, .int .i64 J.s, .int .i64 J.mi, .int .i64 J.ma, .int .i64 J.t, .int .i64 J.l] 42)/\V3.heap.size<=g2/\ah V3 wx))
       case first=>
        refine fD (mo.of [(0,1),(1,1),(2,1),(3,1),(4,0),(5,1),(6,0)] (.fork 7 11 (mo.of [(8,1),(9,1),(10,1)] (mo.of [(11,2),(12,3),(13,1)] .nil)) (mo.of [(7,2),(8,1),(9,1),(10,1),(12,3),(13,1)] .nil))) 12
         (fun W=>W.cell? ⟨yb,1,none⟩=some (.int .i64 y.is.c)/\W.cell? ⟨yb,2,none⟩=some (.int .i64 y.is.s)/\W.cell? ⟨yb,3,none⟩=some (.int .i64 y.is.mi)/\W.cell? ⟨yb,4,none⟩=some (.int .i64 y.is.ma)/\W.cell? ⟨yb,5,none⟩=some (.int .i64 y.is.t)/\W.cell? ⟨yb,6,none⟩=some (.int .i64 y.is.l)/\W.cell? ⟨og,j*7+1,none⟩=some (.int .i64 u.c)/\W.cell? ⟨og,j*7+2,none⟩=some (.int .i64 u.s)/\W.cell? ⟨og,j*7+3,none⟩=some (.int .i64 u.mi)/\W.cell? ⟨og,j*7+4,none⟩=some (.int .i64 u.ma)/\W.cell? ⟨og,j*7+5,none⟩=some (.int .i64 u.t)/\W.cell? ⟨og,j*7+6,none⟩=some (.int .i64 u.l)) bT bT (Vm.out _ (aI _ _).drew) ?_
        simp only [mo.of]
        have Yq:ah V3 V3.drew:=(aI _ _).drew
        (repeat first|refine bS ?_|refine bR ?_)
        refine iB rfl rfl rfl rfl (fun K hK=>?_) (fun K hK=>?_)
        ·skip
         go_simp
         (with_reducible refine(Zp.out _).mono ?_)
         rintro e w1 ⟨rfl,Rj⟩
         go_simp
         have QH:ah V3 w1:=Below.trans' Yq Rj Yq.size
         try (have KT:=(Rj.block tb (by have:=(eI.1 KT).1;omega)).trans KT)
         refine hK _ _ (Vm.out _ QH) ?_
         clear hK K
         (repeat first|refine bS ?_|refine bR ?_)
         refine bA rfl rfl (fun K hK=>?_)
         go_simp
         obtain⟨W2,hW⟩:=bP (w1.alloc (.cells #[.int .i64 0, .int .i64 0, .int .i64 0, .int .i64 0, .int .i64 0, .int .i64 0] 42))
         have je:ah w1 W2:=by rw [hW];exact ag
         have Yr:ah V3 W2:=Below.trans' QH je (QH.size)
         have KT:W2.heap[w1.heap.size]?=some (.cells #[.int .i64 0, .int .i64 0, .int .i64 0, .int .i64 0, .int .i64 0, .int .i64 0] 42):=by rw [hW];exact aj _ _ rfl
         rw [<-hW]
         obtain⟨tb,BH⟩:=bt (w1.heap.size)
         have hlo:V3.heap.size<=tb:=by rw [<-BH];exact QH.size
         rw [BH]at KT ⊢
         refine hK _ _ (Vm.out _ Yr) ?_
         clear hK K
         clear hW je
         (repeat first|refine bS ?_|refine bR ?_)
         obtain⟨k0,k1,k2,k3,k4,k5,kf⟩:W2.cell? ⟨tb,0,none⟩=some (.int .i64 0)/\W2.cell? ⟨tb,1,none⟩=some (.int .i64 0)/\W2.cell? ⟨tb,2,none⟩=some (.int .i64 0)/\W2.cell? ⟨tb,3,none⟩=some (.int .i64 0)/\W2.cell? ⟨tb,4,none⟩=some (.int .i64 0)/\W2.cell? ⟨tb,5,none⟩=some (.int .i64 0)/\∀o,W2.frozen? ⟨tb,o,none⟩=false:=by simp [World.cell?,World.frozen?,KT]
         have HKT:=hdd KT
         clear KT
         refine dI rfl rfl (fun K hK=>?_)
         go_simp
         refine hK _ _ ?_
         clear hK K
         (repeat first|refine bS ?_|refine bR ?_)
         refine eT ?_
         go_wp2_with fail
         go_meet
         exact⟨tb,rfl,rfl,hdd ⟨jT HKT.out,hlo,((((((Yr.setCell (p:=⟨tb,0,none⟩) hlo (.int .i64 J.c)).setCell (p:=⟨tb,1,none⟩) hlo (.int .i64 J.s)).setCell (p:=⟨tb,2,none⟩) hlo (.int .i64 J.mi)).setCell (p:=⟨tb,3,none⟩) hlo (.int .i64 J.ma)).setCell (p:=⟨tb,4,none⟩) hlo (.int .i64 J.t)).setCell (p:=⟨tb,5,none⟩) hlo (.int .i64 J.l))⟩⟩
        ·skip
         go_simp
         obtain⟨W1,hW⟩:=bP ((V3.alloc (.cells #[.int .i64 0, .int .i64 0, .int .i64 0, .int .i64 0, .int .i64 0, .int .i64 0] 42)).drew)
         have je:ah V3 W1:=by rw [hW];exact ag
         have UK:ah V3 W1:=Below.trans' (aI _ _) je aH
         have KT:W1.heap[V3.heap.size]?=some (.cells #[.int .i64 0, .int .i64 0, .int .i64 0, .int .i64 0, .int .i64 0, .int .i64 0] 42):=by rw [hW];exact aj _ _ rfl
         rw [<-hW]
         obtain⟨tb,BH⟩:=bt (V3.heap.size)
         have hlo:V3.heap.size<=tb:=by rw [<-BH];exact km _
         rw [BH]at KT ⊢
         refine hK _ _ (Vm.out _ UK) ?_
         clear hK K
         clear hW je
         (repeat first|refine bS ?_|refine bR ?_)
         refine bA rfl rfl (fun K hK=>?_)
         go_simp
         (with_reducible refine(Zp.out _).mono ?_)
         rintro e w2 ⟨rfl,Ri⟩
         go_simp
         have Yp:ah V3 w2:=Below.trans' UK Ri UK.size
         try (have KT:=(Ri.block tb (by have:=(eI.1 KT).1;omega)).trans KT)
         refine hK _ _ (Vm.out _ Yp) ?_
         clear hK K
         (repeat first|refine bS ?_|refine bR ?_)
         obtain⟨k0,k1,k2,k3,k4,k5,kf⟩:w2.cell? ⟨tb,0,none⟩=some (.int .i64 0)/\w2.cell? ⟨tb,1,none⟩=some (.int .i64 0)/\w2.cell? ⟨tb,2,none⟩=some (.int .i64 0)/\w2.cell? ⟨tb,3,none⟩=some (.int .i64 0)/\w2.cell? ⟨tb,4,none⟩=some (.int .i64 0)/\w2.cell? ⟨tb,5,none⟩=some (.int .i64 0)/\∀o,w2.frozen? ⟨tb,o,none⟩=false:=by simp [World.cell?,World.frozen?,KT]
         have HKT:=hdd KT
         clear KT
         refine dI rfl rfl (fun K hK=>?_)
         go_simp
         refine hK _ _ ?_
         clear hK K
         (repeat first|refine bS ?_|refine bR ?_)
         refine eT ?_
         go_wp2_with fail
         go_meet
         exact⟨tb,rfl,rfl,hdd ⟨jT HKT.out,hlo,((((((Yp.setCell (p:=⟨tb,0,none⟩) hlo (.int .i64 J.c)).setCell (p:=⟨tb,1,none⟩) hlo (.int .i64 J.s)).setCell (p:=⟨tb,2,none⟩) hlo (.int .i64 J.mi)).setCell (p:=⟨tb,3,none⟩) hlo (.int .i64 J.ma)).setCell (p:=⟨tb,4,none⟩) hlo (.int .i64 J.t)).setCell (p:=⟨tb,5,none⟩) hlo (.int .i64 J.l))⟩⟩
       case rest=>
        obtain⟨g2,rfl,rfl,HG2⟩:=hcut
        have uD:au wo.heap.size wc (.slice (some ⟨og,0,none⟩) es.length oc) es:=Vo.out.1.below HG2.out.2.2 aH
        have WR:=Below.trans' Vo.out.2 HG2.out.2.2 Vo.out.2.size
        have Z9:=HG2.out.2.2.size
        obtain⟨j0,j1,j2,j3,j4,j5,-⟩:=cF HG2.out.1
        obtain⟨-,-,-,-,-,-,o1,o2,o3,o4,o5,o6⟩:=Vm.out _ HG2.out.2.2
        have yD:∀o,wc.frozen? ⟨og,o,none⟩=false:=World.ownsRow.frozenAt uD.row
        have hgg:g2≠og:=by have:=HG2.out.2.1;omega
        have agk:¬og=g2:=fun h=>hgg h.symm
        have FI:=hdd nA.out
        by_cases hcc:u.c+y.is.c<=1073741824
        ·obtain⟨rfl,rfl⟩:=Prod.mk.inj (C2.out.symm.trans (qU nA.out.2.1 nA.out.2.2.1 hcc).1)
         have Vs:=hdd (nA.out.2.2.2.1 hcc)
         have CY:=Fm.out wc (u.join y.is) uD
         generalize u.join y.is=J at *
         have CY:=hdd CY
         clear hcc C2 Zp nA FI Fm
         go_wp2_with fail
         go_roundg (l.length-(q+1))
         case measure=>omega
         case rel=>exact⟨q+1,_,PV,rfl,by go_num,CY.out,Vs,hdd (by
          have hlo:wo.heap.size<=og:=(uD.lt og rfl).1
          exact(((((WR.setCell (p:=⟨og,_,none⟩) hlo _).setCell (p:=⟨og,_,none⟩) hlo _).setCell (p:=⟨og,_,none⟩) hlo _).setCell (p:=⟨og,_,none⟩) hlo _).setCell (p:=⟨og,_,none⟩) hlo _).setCell (p:=⟨og,_,none⟩) hlo _)⟩
        ·obtain⟨rfl,rfl⟩:=Prod.mk.inj (C2.out.symm.trans ((iO nA.out.2.1 nA.out.2.2.1).trans (ai hcc)))
         have tS:=hdd (show qi ns fl l from .inl ⟨k,hlt,nA.out.1,by rw [HS.out];exact nA.out.2.2.2.2 hcc⟩)
         have Zq:=hdd (HM.out.later WR)
         obtain⟨r0,r1,r2,r3,r4,r5,r6,r7,rf⟩:=Zq.out.zero
         clear hcc C2 Zp nA FI Fm
         go_wp2_with fail
         exact bodyPost_ret (v:= .tuple #[dC, .int .i64 7]) (by simp [results,Tryd.results112,go_sem, *]) rfl ⟨cC Zq.out.below aH _ _ _ _ _ _ _ _, .inl ⟨7,aW,rfl,tS.out⟩⟩
      ·have e3:(zz.key == P)=false:=by simpa using hkk
       have FH:=hdd (Zo.out af)
       clear Qv Zo Fm hkk
       go_upto_region 11 with (fail)
       refine eD [(0,1),(1,1),(2,1),(3,1),(4,1),(5,1),(6,1),(7,0),(8,1),(9,0),(10,1),(11,3)] 11
        (fun W=>W.cell? ⟨yb,0,none⟩=some (.int .i64 P)/\W.cell? ⟨og,j*7,none⟩=some (.int .i64 zz.key)) bT bT ⟨z0,o0⟩ ?_
       (simp only [bG,List.filterMap_cons,List.filterMap_nil,List.getElem?_cons_zero,List.getElem?_cons_succ,Option.map_some])
       (repeat (first|refine lO ?_|refine lN ?_|refine lM ?_);(try simp only [Act.put,List.setIfInBounds_toArray,List.set_cons_zero,List.set_cons_succ]))
       refine iK ?_ (fun K hK=>?_)
       (focus (first|exact br rfl _|exact eZ rfl rfl rfl rfl))
       go_simp
       refine hK _ _ ?_
       clear hK K
       refine jE ?_
       have Fy:ah wo V2:=(Below.trans' HB.out gI.out M7);have abl:=Fy.size
       go_wp2_with ((at_builtin;refine eW rfl (.tmp 78) (.tmp 80) rfl wo.heap.size _ es rfl (by repeat (first|assumption|with_reducible refine au.alloc ?_ _|with_reducible refine au.drewN ?_ _|with_reducible refine au.drew ?_)) ⟨_,0,none⟩ ⟨P,y.is⟩ rfl (fun j u h=>mO h) hes (by first|omega|(simp;done)|(simp;omega)|(simp [aJ];done)|(simp [aJ];omega)) ?_;intro v3 w3 uq hg3;have hb3:=hg3 wo.heap.size wo ag aH))
       go_roundg (l.length-(q+1))
       case measure=>omega
       case rel=>exact⟨q+1,_,PV,rfl,by go_num,uq,FH,hdd hb3⟩
    ·have hqe:q=l.length:=af
     subst hqe
     have M7:=HB.out.size
     have aa5:=HM.out.size
     have Xq:=HI.out
     have hre:=Xq.F9 KU.out HR.out
     have N9:=hdd (mE (hown.at af))
     have hok0:=hdd (aL HB.out Xq)
     clear hown HL jS
     go_upto_region 19 with (go_at_call 107;(with_reducible refine N9.out.mono ?_);rintro e w5 ⟨cu,ot,tn,tc,rt,E2,rfl,hform⟩;have Vt:=hdd hform;clear hform)
     obtain⟨V5,WW⟩:=bP (w5.alloc (.cells #[.slice ot tn tc, .int .i64 rt] 32))
     have eK:ah w5 V5:=by rw [WW];exact ag
     have k5:V5.heap[w5.heap.size]?=some (.cells #[.slice ot tn tc, .int .i64 rt] 32):=by rw [WW];exact aj _ _ rfl
     have kQ:V5.heap.size=w5.heap.size+1:=by rw [WW];simp
     have Ew:ah wo V5:=Below.trans' (Below.trans' HB.out cu M7) eK (by have:=cu.size;omega)
     have Vp:=hdd (HM.out.later Ew)
     have FI:=hdd (show aM (wr.heap.size+1) w5 V5 from aM.of eK aH)
     obtain⟨t0,t1⟩:V5.cell? ⟨w5.heap.size,0,none⟩=some (.slice ot tn tc)/\V5.cell? ⟨w5.heap.size,1,none⟩=some (.int .i64 rt):=by simp [World.cell?,k5]
     obtain⟨r0,r1,r2,r3,r4,r5,r6,r7,rf⟩:=Vp.out.zero
     rw [<-WW]
     obtain⟨qb,Ov⟩:=bt (w5.heap.size)
     have OJ:=hdd cu
     rw [Ov]at t0 t1 ⊢
     have hqn:qb≠w.heap.size+1:=by have:=cu.size;omega
     have afI:¬w.heap.size+1=qb:=af
     clear WW eK k5 kQ Ew cu Ov N9
     by_cases hE1:E2=1
     ·have tS:=hdd (show qi ns fl l by
       rcases Vt.out with ⟨h1,-,-,-,-,h2⟩|⟨h1,-⟩
       ·exact .inr (.inl ⟨k,es,hlt,by rw [HS.out];exact Xq,by rcases h2 with h2|h2;exact .inl (h2▸h1);exact .inr h2.2⟩)
       ·omega)
      subst hE1
      clear Vt
      go_wp2_with fail
      exact bodyPost_ret (v:= .tuple #[dC, .int .i64 1]) (by simp [results,Tryd.results112,go_sem, *]) rfl ⟨cC Vp.out.below aH _ _ _ _ _ _ _ _, .inl ⟨1,aW,rfl,tS.out⟩⟩
     ·by_cases Y6:E2=0
      ·subst Y6
       obtain⟨t,ht,Wt⟩:∃t,(∀w'',aM (wr.heap.size+1) w5 w''->bM w'' (.agg #[.slice ot tn tc, .int .i64 rt]) t)/\Made es t:=by
        rcases Vt.out with ⟨h1,-⟩|⟨-,-,t,h2,h3⟩
        ·exact absurd rfl h1
        ·exact⟨t,h2,h3⟩
       have HST:=hdd (Vp.out.step hlt (B:=wr.heap.size+1) af FI.out ht (by rw [HS.out];exact Xq) Wt)
       obtain⟨-,⟨u1,c1⟩,⟨u2,c2⟩⟩:=Vp.out.at hlt
       have cf:=Vp.out.cells.2.2.2.2.2.2.2.2
       have hkw:IntKind.i64.wrap ((k:Int)+1)=(k:Int)+1:=IntWalk.i64_in _ af
       clear Vt ht Wt r0 r1 r2 r3 r4 r5 r6 r7 rf hE1
       go_wp2_with fail
       go_roundg (3-(k+1))
       case measure=>omega
       case rel=>exact⟨k+1,af,rfl,by go_num,hdd ⟨_,_,_,_,_,HST.out⟩⟩
      ·have tS:=hdd (show qi ns fl l by
        rcases Vt.out with ⟨h1,-,-,-,-,h2⟩|⟨h1,-⟩
        ·exact .inr (.inl ⟨k,es,hlt,by rw [HS.out];exact Xq,by rcases h2 with h2|h2;exact .inl (h2▸h1);exact .inr h2.2⟩)
        ·omega)
       have e1:(E2 == 1)=false:=by simpa using hE1
       have e0:(E2 != 0)=true:=by simpa using Y6
       clear Vt
       go_wp2_with fail
       exact bodyPost_ret (v:= .tuple #[dC, .int .i64 7]) (by simp [results,Tryd.results112,go_sem, *]) rfl ⟨cC Vp.out.below aH _ _ _ _ _ _ _ _, .inl ⟨7,aW,rfl,tS.out⟩⟩
  ·obtain rfl:k=3:=af
   obtain⟨q0,q1,q2,hbase⟩:=hm.base
   obtain⟨b0,b1,b2,b3,b4,b5,b6,b7,bf⟩:=hm.cells
   rw [q0]at b2
   rw [q1]at b4
   rw [q2]at b6
   have UH:=hdd hbase
   have HST:=hdd (fun W (hb:ah w W)=>HN.out.below hb aH)
   have iq:=hdd (eO (hbase wo (HN.out.below hm.below aH) (aM.refl _ _)) nN.out.1 (nN.out.2.below hm.below))
   clear hm hbase q0 q1 q2
   by_cases qy:aO ⟨ns,T 0,T 1,T 2,fl⟩=true
   ·rw [show jL ⟨ns,T 0,T 1,T 2,fl⟩=0 by unfold jL;rw [ar qy]]at iq
    have nA:=hdd (show wS ns fl l T from ⟨qy,fun k hk=>(HM.out.tr k hk).1⟩)
    clear qy
    go_upto_region 27 with (go_at_call 31;(with_reducible refine iq.out.mono ?_);rintro e w6 ⟨rfl,jf⟩)
    have UA:=hdd (HM.out.later jf)
    have X9:=hdd (aM.of (M:=w.heap.size+2) jf aH)
    obtain⟨r0,r1,r2,r3,r4,r5,r6,r7,rf⟩:=UA.out.zero
    clear b0 b1 b2 b3 b4 b5 b6 b7 bf jf
    obtain⟨q0,q1,q2,-⟩:=UA.out.base
    obtain⟨b0,b1,b2,b3,b4,b5,b6,b7,bf⟩:=UA.out.cells
    rw [q0]at b2
    rw [q1]at b4
    rw [q2]at b6
    have hne:w.heap.size≠w.heap.size+1:=af
    have afU:¬w.heap.size+1=w.heap.size:=af
    clear q0 q1 q2
    go_wp2_with fail
    exact bodyPost_ret (v:= .tuple #[.agg (aG sn ns.length sc (g 0) (n 0) (c 0) (g 1) (n 1) (c 1) (g 2) (n 2) (c 2) ⟨ns,T 0,T 1,T 2,fl⟩), .int .i64 0]) (by simp [results,Tryd.results112,go_sem, *]) rfl ⟨cC UA.out.below aH _ _ _ _ _ _ _ _, .inr ⟨sn,sc,_,_,_,_,_,_,_,_,_,T,rfl,rfl,nA.out,fun w'' hs hw=>UH.out w'' hs (X9.out.trans ((r9 af _ _ _ _ _ _ _ _).trans hw))⟩⟩
   ·rw [show jL ⟨ns,T 0,T 1,T 2,fl⟩=7 by unfold jL;rw [ai qy]]at iq
    have tS:=hdd (show qi ns fl l from .inr (.inr ⟨T,fun k hk=>(HM.out.tr k hk).1,by simpa using qy⟩))
    clear qy
    go_upto_region 26 with (go_at_call 31;(with_reducible refine iq.out.mono ?_);rintro e w6 ⟨rfl,jf⟩)
    have UA:=hdd (HM.out.later jf)
    obtain⟨r0,r1,r2,r3,r4,r5,r6,r7,rf⟩:=UA.out.zero
    clear b0 b1 b2 b3 b4 b5 b6 b7 bf jf
    go_wp2_with fail
    exact bodyPost_ret (v:= .tuple #[dC, .int .i64 7]) (by simp [results,Tryd.results112,go_sem, *]) rfl ⟨cC UA.out.below aH _ _ _ _ _ _ _ _, .inl ⟨7,aW,rfl,tS.out⟩⟩
end
end Go.Proofs.YtmljjfhgciaceaaDoor
namespace Go.Proofs.YtmljjfhgciaceaaDoor
section
variable {fl:Int} {ns:List ByteArray} {l:List aC}
theorem Fit.aF (h:Fit ns fl l):∀e∈l,Ay e:=fun e he=>by
 obtain⟨h1,h2⟩:=dg (h.good.1 e he).2 (h.good.1 e he).1
 obtain⟨k1,k2⟩:=h.good.2.1 e he
 obtain⟨-,-,ht⟩:=h.ok e he
 have hs:=ru h1 h2
 obtain⟨q0,q1,q2,q3,q4,q5,q6,q7,q8,-⟩:=h1
 exact⟨k1,k2,q0,af,ht,af,af,af,af⟩
theorem uw {s:ByteArray} (h:dL s=true):s.size<=10:=by
 simp [dL]at h
 omega
theorem CQ (ns:List ByteArray) (fl:Int) (l:List aC):aN (dz ns fl l):=by
 have h:=xK ⟨ns,default,default,default,fl⟩ l
 rw [BS]at h
 exact h
theorem EM (ns:List ByteArray) (fl:Int) (l:List aC):aN (dz ns fl l++ju (dz ns fl l)):=(CQ ns fl l).app (F4 _)
theorem Fit.short (h:Fit ns fl l) (hl:l.length<=500):(dz ns fl l++ju (dz ns fl l)).length<=100000:=by
 have h1:=uM (last:=0) h.good (Int.le_refl 0)
 have h2:=rZ (ns:=ns) fun s hs=>uw (h.may s hs)
 have h3:=h.n16
 have h4:=cg (n:=ns.length) af
 have h5:=cg (n:=fl.toNat) (by have:=h.f0;omega)
 have h6:=cg (n:=l.length) af
 rw [dO,yZ]
 unfold dz
 simp only [dO,gp,List.length_nil]
 omega
theorem Fit.dec (h:Fit ns fl l) (hl:l.length<=500) {bs:List Int} (hbs:bs=dz ns fl l++ju (dz ns fl l)) :
  sG bs=0/\(cP (bu bs)).2=ns/\(cP (bu bs)).1.num.2=fl/\(fg (bu bs)).2=l:=
 Nw h.n16 (fun s hs=>uw (h.may s hs)) h.f0.1 (by have:=h.f0;omega) af h.aF h.F9 hbs (by have:=h.short hl;rw [hbs];omega)
end
end Go.Proofs.YtmljjfhgciaceaaDoor
