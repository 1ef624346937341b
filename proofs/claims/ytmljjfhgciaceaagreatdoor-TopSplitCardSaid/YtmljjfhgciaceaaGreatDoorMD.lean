/- Texts of mine that come as one: MadeP MadeK Made FitP. -/
import Derived.Test.YtmljjfhgciaceaaGreatDoorHd
import Derived.Test.YtmljjfhgciaceaaGreatDoorPC
import Derived.Test.YtmljjfhgciaceaaGreatDoorKE
import Derived.Test.YtmljjfhgciaceaaGreatDoorPU
import Derived.Test.YtmljjfhgciaceaaGreatDoorDP
import Derived.Test.YtmljjfhgciaceaaGreatDoorOG
import Derived.Test.YtmljjfhgciaceaaGreatDoorAQ
import Derived.Test.YtmljjfhgciaceaaGreatDoorKG
import Derived.Test.YtmljjfhgciaceaaGreatDoorMerged
import Derived.Test.YtmljjfhgciaceaaGreatDoorSO
import Derived.Deep.CutBlock
namespace Go.Proofs.YtmljjfhgciaceaaGreatDoor
section
variable {fl:Int} {ns:List ByteArray} {l:List aA} {T:Nat->Tr}
def EY (l:List aA):Prop:=aX l/\(∀e∈l,0<=e.key/\e.key<1099511627776)/\l.length<=10000
def nJ (l:List aA) (size:Int) (k:Nat) (es:List aA):Prop:=(size=1/\es=l.take k)\/(dY l/\fo ((l.take k).map (bucket size))=some es)
theorem nJ.start (l:List aA) (size:Int) (hg:size=1\/dY l):nJ l size 0 []:=by
 rcases hg with h|h
 ·exact .inl ⟨h,rfl⟩
 ·exact .inr ⟨h,rfl⟩
section
variable {l es:List aA} {size:Int} {k:Nat}
theorem nJ.FP (h:nJ l size k es) (hs:size=1\/size=60\/size=3600) (hr:EY l):aX es/\es.length<=k:=by
 rcases h with ⟨-,rfl⟩|⟨hg,hb⟩
 ·exact⟨hr.1.sublist (List.take_sublist _ _),by rw [fx];omega⟩
 ·have hP:dY ((l.take k).map (bucket size)):=by
   have:=eA (show 0<size by omega) hg;rw [<-wL k l,wJ]at this;exact this.left
  obtain⟨h1,h2,h3,h4,h5⟩:=fT hP.1 hb
  exact⟨h5,by rw [po,fx]at h4;omega⟩
theorem nJ.keys (h:nJ l size k es) (hs:size=1\/size=60\/size=3600) (hr:EY l) (hk:k<l.length):∀e∈es,e.key<=(bucket size l[k]).key:=by
 rcases h with ⟨rfl,rfl⟩|⟨hg,hb⟩
 ·intro e he
  obtain⟨i,hi,rfl⟩:=kS he
  rw [fx]at hi
  rw [wH]
  have:=px.1 hr.1 i k af hk af
  rw [qa];omega
 ·exact xa hs hr.1 hg hk hb
theorem nJ.new (h:nJ l size k es) (hs:size=1\/size=60\/size=3600) (hk:k<l.length) (hn:∀e∈es,e.key<(bucket size l[k]).key):nJ l size (k+1) (es++[bucket size l[k]]):=by
 rcases h with ⟨rfl,rfl⟩|⟨hg,hb⟩
 ·exact .inl ⟨rfl,by rw [mf hk,qa]⟩
 ·exact .inr ⟨hg,(pK hk hb).trans (zg hn)⟩
theorem nJ.old (h:nJ l size k es) (hs:size=1\/size=60\/size=3600) (hr:EY l) (hk:k<l.length) {j:Nat} (hj:es.length=j+1) (he:(es[j]'(by omega)).key=(bucket size l[k]).key) :
  dY l/\aj (es[j]'(by omega)).is=0/\aj l[k].is=0/\((es[j]'(by omega)).is.c+l[k].is.c<=1073741824->nJ l size (k+1) (es.set j ⟨(es[j]'(by omega)).key,(es[j]'(by omega)).is.join l[k].is⟩))/\(¬(es[j]'(by omega)).is.c+l[k].is.c<=1073741824->bV l size=none):=by
 rcases h with ⟨rfl,rfl⟩|⟨hg,hb⟩
 ·exfalso
  rw [wH,qa]at he
  rw [fx]at hj
  have:=px.1 hr.1 j k af hk af
  omega
 ·have hP:dY ((l.take k).map (bucket size)):=by
   have:=eA (show 0<size by omega) hg;rw [<-wL k l,wJ]at this;exact this.left
  obtain⟨h1,h2,h3,h4,h5⟩:=fT hP.1 hb
  have hx:=(hg.1 _ (gj hk)).2
  have hst:=pK (size:=size) hk hb
  have Y1:=ze (x:=bucket size l[k]) (i:=j) af h5 (A8 h5 hj he) he
  refine⟨hg,(h3 _ (gj _)).2,hx,fun hc=> .inr ⟨hg,?_⟩,fun hc=>?_⟩
  ·rw [hst,Y1,he];exact ar hc
  ·exact uo (k:=k+1) (by rw [hst,Y1];exact ai hc)
end
def qg (ns:List ByteArray) (fl:Int) (l:List aA):Prop:=
 (∃k,k<3/\dY l/\bV l (aS k)=none)\/(∃k es,k<3/\nJ l (aS k) l.length es/\(iI none es≠0\/2900<es.length)) \/
 (∃T:Nat->Tr,(∀k,k<3->∃es,nJ l (aS k) l.length es/\Made es (T k))/\aR ⟨ns,T 0,T 1,T 2,fl⟩=false)
structure wP (ns:List ByteArray) (fl:Int) (l:List aA) (T:Nat->Tr):Prop where
 may:aR ⟨ns,T 0,T 1,T 2,fl⟩=true
 tree:∀k,k<3->∃es,nJ l (aS k) l.length es/\Made es (T k)
theorem wP.book (h:wP ns fl l T) (hl:aX l):bX ⟨ns,T 0,T 1,T 2,fl⟩=some l:=by
 obtain⟨es,h1,h2⟩:=h.tree 0 aY
 have hes:es=l:=by
  rcases h1 with ⟨-,h1⟩|⟨hg,h1⟩
  ·rw [h1,List.take_length]
  ·rw [List.take_length,show aS 0=1 from rfl,gM]at h1
   obtain⟨h3,-⟩:=fT hg.1 h1
   rw [h3,zR hl hg.1.bP]
 subst hes
 have h3:=h2.knows
 obtain⟨l',hl',-⟩:=qc h.may
 have h4:=(lC hl').1
 have:l'=es:=dt (h4.symm.trans h3)
 rw [<-this];exact hl'
structure Fit (ns:List ByteArray) (fl:Int) (l:List aA):Prop where
 n16:ns.length<=16
 may:∀s∈ns,dG s=true
 nd:ns.Nodup
 f0:0<=fl/\fl<=1048575
 f3:fl%3600=0
 FP:aX l
 good:dY l
 few:l.length<=2900
 cnt:fB l<=1073741824
 ok:∀e∈l,e.key/1048576<ns.length/\fl<=e.key%1048576/\e.is.t=e.key%1048576
theorem Ex:∀{l:List aA} {p:Option Int},aX l->Checked l->(∀e∈l,0<=e.key/\e.key<1099511627776)->(∀k,p=some k->∀e∈l,k<e.key)->iI p l=0
 |[],_,_,_,_,_=>by unfold iI;rfl
 |e::l,p,hr,hc,hk,hp=>by
  have h1:=rE.1 hr
  have h2:=hc e bt
  have h3:=hk e bt
  unfold iI
  rw [ai,ai af,ai (iM h2.2)]
  ·exact Ex h1.2 (fun x hx=>hc x (by simp [hx])) (fun x hx=>hk x (by simp [hx])) fun k hkk x hx=>by
    injection hkk with hkk;subst hkk;exact h1.1 x hx
  ·rintro⟨k,hk1,hk2⟩
   have:=hp k hk1 e bt
   omega
theorem Fit.rolled (h:Fit ns fl l) (k:Nat):bV l (aS k)=some (mo (l.map (bucket (aS k)))):=by
 have hb:=(eA (iu k) h.good).1
 unfold bV
 rw [jD hb,ar]
 refine n9 hb.bP ?_
 rw [rD];exact h.cnt
theorem Fit.mid {es:List aA} (h:Fit ns fl l) {k:Nat} (hm:nJ l (aS k) l.length es):es=mo (l.map (bucket (aS k))):=by
 rcases hm with ⟨h1,h2⟩|⟨-,h2⟩
 ·rw [h2,List.take_length,h1,gM,zR h.FP h.good.1.bP]
 ·rw [List.take_length]at h2
  exact dt (h2.symm.trans (h.rolled k))
theorem Fit.mo (h:Fit ns fl l) (k:Nat):dY (mo (l.map (bucket (aS k))))/\aX (mo (l.map (bucket (aS k))))/\(mo (l.map (bucket (aS k)))).length<=2900:=by
 have hb:=eA (iu k) h.good
 have hr:=h.rolled k
 unfold bV at hr
 obtain⟨h1,h2,h3,h4,h5⟩:=fT hb.1 hr
 refine⟨oM hb hr,h5,?_⟩
 rw [po]at h4
 have:=h.few;omega
theorem Fit.base (h:Fit ns fl l) (hT:∀k,k<3->allT (T k)=some (Go.Proofs.YtmljjfhgciaceaaGreatDoor.mo (l.map (bucket (aS k))))):aR ⟨ns,T 0,T 1,T 2,fl⟩=true/\bX ⟨ns,T 0,T 1,T 2,fl⟩=some l:=by
 have h0:allT (T 0)=some l:=by rw [hT 0 aY,show aS 0=1 from rfl,gM,zR h.FP h.good.1.bP]
 have hb:bX ⟨ns,T 0,T 1,T 2,fl⟩=some l:=by
  refine uZ h0 (py.2 fun e he=>?_)
  have:=h.ok e he
  simp [jm]
  exact⟨⟨this.1,this.2.1⟩,this.2.2⟩
 refine⟨jV ⟨h.n16,h.f0.1,h.f0.2,h.f3,fun i hi=>⟨h.may _ (gj hi),fun k hk=>?_⟩,⟨l,hb,fun k hk=>?_⟩⟩,hb⟩
 ·have hi':i<ns.length:=hi
  exact px.1 h.nd k i af hi' hk
 ·have e:(⟨ns,T 0,T 1,T 2,fl⟩:Ba).tree k=T k:=by
   obtain rfl|rfl|rfl:k=0\/k=1\/k=2:=af
   all_goals rfl
  rw [lU (h.rolled k) (by rw [e];exact hT k hk)]
  simp
theorem Fit.Py (h:Fit ns fl l):¬qg ns fl l:=by
 rintro(⟨k,-,-,h1⟩|⟨k,es,-,h1,h2⟩|⟨T,h1,h2⟩)
 ·rw [h.rolled k]at h1;cases h1
 ·obtain rfl:=h.mid h1
  obtain⟨g1,g2,g3⟩:=h.mo k
  rcases h2 with h2|h2
  ·exact h2 (Ex g2 g1.1 g1.2.1 fun k hk=>by cases hk)
  ·omega
 ·have:=(h.base (T:=T) fun k hk=>by
   obtain⟨es,h3,h4⟩:=h1 k hk
   obtain rfl:=h.mid h3
   exact h4.knows).1
  rw [h2]at this;cases this
theorem Fit.bst (h:Fit ns fl l) (ht:wP ns fl l T) {N:Nat} (hN:l.length<=N) (hc:fB l<=N):Fp ⟨ns,T 0,T 1,T 2,fl⟩ l N:=by
 refine⟨ht.may,ht.book h.FP,fun k hk=>?_,hc⟩
 obtain⟨es,h1,h2⟩:=ht.tree k hk
 obtain rfl:=h.mid h1
 have e:(⟨ns,T 0,T 1,T 2,fl⟩:Ba).tree k=T k:=by
  obtain rfl|rfl|rfl:k=0\/k=1\/k=2:=af
  all_goals rfl
 rw [e]
 have h3:=h2.2.2.2.2.2
 have h4:(Go.Proofs.YtmljjfhgciaceaaGreatDoor.mo (l.map (bucket (aS k)))).length<=l.length:=by
  have:=@zU (l.map (bucket (aS k))) []
  rw [po]at this
  unfold Go.Proofs.YtmljjfhgciaceaaGreatDoor.mo
  simpa using this
 omega
end
open Go.RowKit
section
variable {α:Type}
def upd (f:Nat->α) (k:Nat) (v:α):Nat->α:=fun j=>if j=k then v else f j
theorem yC (f:Nat->α) (k:Nat) (v:α):upd f k v k=v:=ar rfl
theorem upd_ne (f:Nat->α) {k j:Nat} (v:α) (h:j≠k):upd f k v j=f j:=ai h
structure CS (w:World) (ns:List ByteArray) (fl:Int) (l:List aA) (sn:Option Addr) (sc:Nat) (g:Nat->Option Addr) (n c:Nat->Nat) (r:Nat->Int) (T:Nat->Tr) (k:Nat) (wr:World):Prop where
 below:ah w wr
 size:w.heap.size+3<=wr.heap.size
 res:wr.heap[w.heap.size]?=some (.cells cN 30)
 box:wr.heap[w.heap.size+1]?=some (.cells #[.slice sn ns.length sc, .slice (g 0) (n 0) (c 0), .int .i64 (r 0), .slice (g 1) (n 1) (c 1), .int .i64 (r 1), .slice (g 2) (n 2) (c 2), .int .i64 (r 2), .int .i64 fl] 30)
 sz:wr.heap[w.heap.size+2]?=some (.cells #[.int .i64 1, .int .i64 60, .int .i64 3600] 3)
 tr:∀j,j<k->(∃es,nJ l (aS j) l.length es/\Made es (T j))/\∀w'',aQ (w.heap.size+2) wr w''->bN w'' (.agg #[.slice (g j) (n j) (c j), .int .i64 (r j)]) (T j)
section
variable {w:World} {ns:List ByteArray} {fl:Int} {l:List aA} {sn:Option Addr} {sc:Nat} {g:Nat->Option Addr} {n c:Nat->Nat} {r:Nat->Int} {T:Nat->Tr} {k:Nat} {wr wx:World}
theorem CS.later (h:CS w ns fl l sn sc g n c r T k wr) (hb:ah wr wx):CS w ns fl l sn sc g n c r T k wx:=
 ⟨Below.trans' h.below hb h.below.size,im h.size hb.size,(hb.block _ (by have:=h.size;omega)).trans h.res,(hb.block _ (by have:=h.size;omega)).trans h.box,(hb.block _ (by have:=h.size;omega)).trans h.sz,
  fun j hj=>⟨(h.tr j hj).1,fun w'' hw=>(h.tr j hj).2 w'' ((aQ.of hb aI).trans hw)⟩⟩
theorem CS.cells (h:CS w ns fl l sn sc g n c r T k wr):wr.cell? ⟨w.heap.size+1,0,none⟩=some (.slice sn ns.length sc)/\wr.cell? ⟨w.heap.size+1,1,none⟩=some (.slice (g 0) (n 0) (c 0))/\wr.cell? ⟨w.heap.size+1,2,none⟩=some (.int .i64 (r 0))/\wr.cell? ⟨w.heap.size+1,3,none⟩=some (.slice (g 1) (n 1) (c 1))/\wr.cell? ⟨w.heap.size+1,4,none⟩=some (.int .i64 (r 1))/\wr.cell? ⟨w.heap.size+1,5,none⟩=some (.slice (g 2) (n 2) (c 2))/\wr.cell? ⟨w.heap.size+1,6,none⟩=some (.int .i64 (r 2))/\wr.cell? ⟨w.heap.size+1,7,none⟩=some (.int .i64 fl)/\∀o,wr.frozen? ⟨w.heap.size+1,o,none⟩=false:=by
 have h1:=h.box
 simp [World.cell?,World.frozen?,h1]
theorem CS.zero (h:CS w ns fl l sn sc g n c r T k wr):wr.cell? ⟨w.heap.size,0,none⟩=some (.slice none 0 0)/\wr.cell? ⟨w.heap.size,1,none⟩=some (.slice none 0 0)/\wr.cell? ⟨w.heap.size,2,none⟩=some (.int .i64 0)/\wr.cell? ⟨w.heap.size,3,none⟩=some (.slice none 0 0)/\wr.cell? ⟨w.heap.size,4,none⟩=some (.int .i64 0)/\wr.cell? ⟨w.heap.size,5,none⟩=some (.slice none 0 0)/\wr.cell? ⟨w.heap.size,6,none⟩=some (.int .i64 0)/\wr.cell? ⟨w.heap.size,7,none⟩=some (.int .i64 0)/\∀o,wr.frozen? ⟨w.heap.size,o,none⟩=false:=by
 have h1:=h.res
 simp [World.cell?,World.frozen?,h1,cN]
theorem CS.at (h:CS w ns fl l sn sc g n c r T k wr) (hk:k<3):wr.cell? ⟨w.heap.size+2,k,none⟩=some (.int .i64 (aS k))/\(∃u,wr.cell? ⟨w.heap.size+1,1+k*2,none⟩=some u)/\∃u,wr.cell? ⟨w.heap.size+1,1+k*2+1,none⟩=some u:=by
 have h1:=h.box
 have h2:=h.sz
 obtain rfl|rfl|rfl:k=0\/k=1\/k=2:=af
 all_goals simp [World.cell?,h1,h2,aS]
theorem CS.good (h:CS w ns fl l sn sc g n c r T k wr) (hr:EY l):aS k=1\/dY l:=by
 cases k with
 |zero=>exact .inl rfl
 |succ k=>
  obtain⟨⟨es,h1,h2⟩,-⟩:=h.tr 0 af
  rcases h1 with ⟨-,h1⟩|⟨h1,-⟩
  ·rw [List.take_length]at h1
   subst h1
   exact .inr ⟨h2.2.2.2.1,hr.2.1,by have:=hr.2.2;omega⟩
  ·exact .inr h1
theorem CS.step {B:Nat} {w0:World} {so:Option Addr} {nn cc:Nat} {rt:Int} {t:Tr} {es:List aA} (h:CS w ns fl l sn sc g n c r T k wr) (hk:k<3) (hB:w.heap.size+2<=B) (OC:aQ B w0 wr) (ht:∀w'',aQ B w0 w''->bN w'' (.agg #[.slice so nn cc, .int .i64 rt]) t) (hm:nJ l (aS k) l.length es) (hd:Made es t) :
  CS w ns fl l sn sc (upd g k so) (upd n k nn) (upd c k cc) (upd r k rt) (upd T k t) (k+1) ((wr.setCell ⟨w.heap.size+1,1+k*2,none⟩ (.slice so nn cc)).setCell ⟨w.heap.size+1,1+k*2+1,none⟩ (.int .i64 rt)):=by
 have hs:=h.size
 have hne:∀b,b≠w.heap.size+1->((wr.setCell ⟨w.heap.size+1,1+k*2,none⟩ (.slice so nn cc)).setCell ⟨w.heap.size+1,1+k*2+1,none⟩ (.int .i64 rt)).heap[b]?=wr.heap[b]?:=fun b hb=>
  (heap_setCell_other _ ⟨w.heap.size+1,_,none⟩ b _ hb).trans (heap_setCell_other _ ⟨w.heap.size+1,_,none⟩ b _ hb)
 have hkw:aQ (w.heap.size+2) wr ((wr.setCell ⟨w.heap.size+1,1+k*2,none⟩ (.slice so nn cc)).setCell ⟨w.heap.size+1,1+k*2+1,none⟩ (.int .i64 rt)):=((aQ.refl _ _).set (by show w.heap.size+1<_;omega) _).set (by show w.heap.size+1<_;omega) _
 refine⟨(h.below.setCell (by show w.heap.size<=w.heap.size+1;omega) _).setCell (by show w.heap.size<=w.heap.size+1;omega) _,by simp only [ay];exact hs,(hne _ af).trans h.res,?_,(hne _ af).trans h.sz,fun j hj=>?_⟩
 ·have h1:=heap_setCell_same (off:=1+k*2+1) (v:= .int .i64 rt) (heap_setCell_same (off:=1+k*2) (v:= .slice so nn cc) h.box)
  rw [h1]
  obtain rfl|rfl|rfl:k=0\/k=1\/k=2:=af
  all_goals simp [upd]
 ·by_cases hjk:j=k
  ·subst hjk
   rw [yC,yC,yC,yC,yC]
   exact⟨⟨es,hm,hd⟩,fun w'' hw=>ht w'' (OC.trans ((hkw.trans hw).mono hB))⟩
  ·rw [upd_ne _ _ hjk,upd_ne _ _ hjk,upd_ne _ _ hjk,upd_ne _ _ hjk,upd_ne _ _ hjk]
   exact⟨(h.tr j af).1,fun w'' hw=>(h.tr j af).2 w'' (hkw.trans hw)⟩
theorem CS.base (h:CS w ns fl l sn sc g n c r T 3 wr):r 0=(T 0).root/\r 1=(T 1).root/\r 2=(T 2).root/\∀w'',jO w'' (.slice sn ns.length sc) ns->aQ (w.heap.size+2) wr w''->bQ w'' (.agg #[.slice sn ns.length sc, .slice (g 0) (n 0) (c 0), .int .i64 (T 0).root, .slice (g 1) (n 1) (c 1), .int .i64 (T 1).root, .slice (g 2) (n 2) (c 2), .int .i64 (T 2).root, .int .i64 fl]) ⟨ns,T 0,T 1,T 2,fl⟩:=by
 have key:∀j,j<3->r j=(T j).root/\∀w'',aQ (w.heap.size+2) wr w''->bz w'' (.slice (g j) (n j) (c j)) (T j).nodes:=fun j hj=>by
  have h1:=(h.tr j hj).2
  have hx:∀w'',aQ (w.heap.size+2) wr w''->r j=(T j).root/\bz w'' (.slice (g j) (n j) (c j)) (T j).nodes:=fun w'' hw=>by
   obtain⟨nv,e,hn⟩:=h1 w'' hw
   simp only [Value.agg.injEq,Array.mk.injEq,List.cons.injEq,Value.int.injEq,and_true,true_and]at e
   exact⟨e.2,e.1▸hn⟩
  exact⟨(hx wr (aQ.refl _ _)).1,fun w'' hw=>(hx w'' hw).2⟩
 exact⟨(key 0 aY).1,(key 1 aY).1,(key 2 aY).1,fun w'' hs hw=>⟨_,_,_,_,rfl,hs,(key 0 aY).2 w'' hw,(key 1 aY).2 w'' hw,(key 2 aY).2 w'' hw⟩⟩
end
def NY (ns:List ByteArray) (fl:Int) (l:List aA) (nv:Value) (w:World) (x:Ending) (w':World):Prop:=
 ah w w'/\((∃E,E≠0/\x = .returned (.tuple #[dH, .int .i64 E])/\qg ns fl l) \/
  ∃sn sc g0 l0 p0 g1 l1 p1 g2 l2 p2,∃T:Nat->Tr,nv = .slice sn ns.length sc/\x = .returned (.tuple #[.agg (aJ sn ns.length sc g0 l0 p0 g1 l1 p1 g2 l2 p2 ⟨ns,T 0,T 1,T 2,fl⟩), .int .i64 0])/\wP ns fl l T /\
   ∀w'',jO w'' nv ns->aQ (w.heap.size+2) w' w''->bQ w'' (.agg (aJ sn ns.length sc g0 l0 p0 g1 l1 p1 g2 l2 p2 ⟨ns,T 0,T 1,T 2,fl⟩)) ⟨ns,T 0,T 1,T 2,fl⟩)
end
section
set_option maxRecDepth 100000
set_option maxHeartbeats 8000000
theorem cH {B xb:Nat} {w w0:World} (h:Below B w w0) (hx:B<=xb) (v0 v1 v2 v3 v4 v5 v6 v7:Value):Below B w ((((((((w0.setCell ⟨xb,0,none⟩ v0).setCell ⟨xb,1,none⟩ v1).setCell ⟨xb,2,none⟩ v2).setCell ⟨xb,3,none⟩ v3).setCell ⟨xb,4,none⟩ v4).setCell ⟨xb,5,none⟩ v5).setCell ⟨xb,6,none⟩ v6).setCell ⟨xb,7,none⟩ v7):=
 (((((((h.setCell hx _).setCell hx _).setCell hx _).setCell hx _).setCell hx _).setCell hx _).setCell hx _).setCell hx _
theorem rY {M xb:Nat} {wx:World} (hx:xb<M) (v0 v1 v2 v3 v4 v5 v6 v7:Value):aQ M wx ((((((((wx.setCell ⟨xb,0,none⟩ v0).setCell ⟨xb,1,none⟩ v1).setCell ⟨xb,2,none⟩ v2).setCell ⟨xb,3,none⟩ v3).setCell ⟨xb,4,none⟩ v4).setCell ⟨xb,5,none⟩ v5).setCell ⟨xb,6,none⟩ v6).setCell ⟨xb,7,none⟩ v7):=
 ((((((((aQ.refl M wx).set hx _).set hx _).set hx _).set hx _).set hx _).set hx _).set hx _).set hx _
theorem Pf (k:Nat):aS k=1\/aS k=60\/aS k=3600:=by unfold aS;split;exact .inl rfl;split;exact .inr (.inl rfl);exact .inr (.inr rfl)
theorem Mb {nv lv:Value} {ns:List ByteArray} {fl:Int} {l:List aA} {w:World} (hn:jO w nv ns) (hl:ft w lv l) (hr:EY l) (hst:∀s∈ns,s.size<=140737488351232) (hsz:bS w) :
  Calls Tryz.prog 87 #[nv, .int .i64 fl,lv] w (NY ns fl l nv w):=by
 obtain⟨sn,sc,rfl⟩:∃sn sc,nv = .slice sn ns.length sc:=by obtain⟨ao,cap,h,-⟩:=hn;exact⟨ao,cap,h⟩
 obtain⟨ao,cap,rfl⟩:=hl.isSlice
 have HN:=hdd hn
 have HL:=hdd hl
 have HR:=hdd hr
 have sI:=hdd (aO hst hsz)
 obtain⟨W0,hW0⟩:=bR (((w.alloc (.cells cN 30)).alloc (.cells #[.slice sn ns.length sc, .slice none 0 0, .int .i64 0, .slice none 0 0, .int .i64 0, .slice none 0 0, .int .i64 0, .int .i64 fl] 30)).alloc (.cells #[.int .i64 1, .int .i64 60, .int .i64 3600] 3))
 have HI:=hdd (show CS w ns fl l sn sc (fun _=>none) (fun _=>0) (fun _=>0) (fun _=>0) (fun _=>⟨[],0⟩) 0 W0 by
  refine⟨by rw [hW0];exact ag,by rw [hW0];simp,?_,?_,?_,fun j hj=>absurd hj (Nat.not_lt_zero _)⟩
  ·rw [hW0,lI _ _ _ (by simp <;> omega),lI _ _ _ (by simp <;> omega)];exact aq _ _ rfl
  ·rw [hW0,lI _ _ _ bt];exact aq _ _ bt
  ·rw [hW0];exact aq _ _ bt)
 clear hn hl hr hst hsz
 go_enter Tryz.func87,Tryz.ntmps87
 go_upto_region 3 with (fail)
 rw [<-hW0]
 clear hW0
 go_wp2_with fail
 go_loopg [24] 3 (fun gk i wr=>∃k:Nat,k<=3/\gk=3-k/\i = .int .i64 k/\Hid (∃g n c r T,CS w ns fl l sn sc g n c r T k wr))
 case atStart=>exact⟨0,af,rfl,rfl,hdd ⟨_,_,_,_,_,HI.out⟩⟩
 case round=>
  clear HI
  obtain⟨k,hk,rfl,rfl,HM⟩:=hrel
  obtain⟨wo,rfl⟩:=bR (wr)
  obtain⟨g,n,c,r,T,hm⟩:=HM.out
  have HM:=hdd hm
  by_cases hlt:k<3
  ·obtain⟨hsk,-,-⟩:=hm.at hlt
   have IP:=hm.good HR.out
   have hsi:=Pf k
   obtain⟨S,hS⟩:=bC (aS k)
   rw [hS]at hsk IP hsi
   have HS:=hdd hS
   have KJ:=hdd hsi
   have lA:=fun w'=>lO (ab:=w.heap.size+2) (bp:=0) (n:=3) (cap:=3) (show (k:Int)=((k:Nat):Int) by rfl) hlt w'
   have hll:=HR.out.2.2
   have GD:(k:Int)<3:=af
   clear hm hS hsi
   go_wp2_with fail
   go_loopg [11,31] l.length (fun g2 ov i wi=>∃(q:Nat) (es:List aA),q<=l.length/\g2=l.length-q/\i = .int .i64 q/\au wo.heap.size wi ov es/\Hid (nJ l S q es)/\Hid (ah wo wi))
   case atStart=>exact⟨0,[],jf _,rfl,rfl,au.nil _ _,hdd (nJ.start l S IP),hdd (aL _ _)⟩
   case round=>
    obtain⟨q,es,hq,rfl,rfl,hown,HI,HB⟩:=hrel
    obtain⟨so,oc,rfl⟩:=hown.isSlice
    by_cases PZ:q<l.length
    ·obtain⟨_,_,hv,-,-,-,-,h5⟩:=HL.out
     injection hv with hv1 _ hv3
     subst hv1 hv3
     obtain⟨eb,aH,lQ,r8,nD⟩:=h5 af
     subst lQ
     have aai:=HM.out.size
     have M3:=HB.out.size
     have Ty:=Below.trans' HM.out.below HB.out HM.out.below.size
     obtain⟨y0,y1,y2,y3,y4,y5,y6⟩:=bT Ty r8 nD PZ
     have Yj:=hdd (HI.out.keys KJ.out HR.out PZ)
     have RO:=hdd (fun hn=>HI.out.new KJ.out PZ hn)
     have UE:=hdd (fun j hj he=>HI.out.old KJ.out HR.out PZ (j:=j) hj he)
     have HRE:=hdd (HI.out.FP KJ.out HR.out)
     have hyr:=HR.out.2.1 _ (gj PZ)
     obtain⟨y,hy⟩:=bC (l[q])
     rw [hy]at y0 y1 y2 y3 y4 y5 y6 Yj RO UE hyr
     have hsp:0<S/\S<=3600:=by have:=KJ.out;omega
     obtain⟨M,hM⟩:=bC (y.key%1048576)
     have K3:0<=M/\M<1048576:=af
     obtain⟨RR,Y6⟩:=bC (M%S)
     have hR0:0<=RR/\RR<S:=by rw [<-Y6];exact⟨Int.emod_nonneg _ af,Int.emod_lt_of_pos _ hsp.1⟩
     obtain⟨P,hP⟩:=bC (y.key-RR)
     have hbk:bucket S y=⟨P,y.is⟩:=by simp [bucket,hM,Y6,hP]
     rw [hbk]at Yj RO UE
     have m1:y.key.tmod 1048576=M:=by rw [xR hyr.1];exact hM
     have m2:M.tmod S=RR:=by rw [xR K3.1];exact Y6
     have m3:IntKind.i64.wrap M=M:=IntWalk.i64_in _ af
     have m4:IntKind.i64.wrap RR=RR:=IntWalk.i64_in _ af
     have m5:IntKind.i64.wrap (y.key-RR)=P:=by rw [hP];exact IntWalk.i64_in _ af
     have hs0:(S == 0)=false:=by simp;omega
     have aay:¬S=0:=af
     have ab2:=fun w'=>dC (ab:=eb) (bp:=aH) (n:=l.length) (cap:=cap) (show (q:Int)=((q:Nat):Int) by rfl) PZ w'
     have GK:eb<wr.heap.size:=by have:=HM.out.below.size;omega
     clear hy hM Y6 hP hbk nD h5 hyr K3 hR0
     go_upto_region 9 with (fail)
     obtain⟨W1,hW1⟩:=bR (wr.alloc (.cells #[.int .i64 y.key, .int .i64 y.is.c, .int .i64 y.is.s, .int .i64 y.is.mi, .int .i64 y.is.ma, .int .i64 y.is.t, .int .i64 y.is.l] 107))
     have hb1:ah wr W1:=by rw [hW1];exact ag
     have k1:W1.heap[wr.heap.size]?=some (.cells #[.int .i64 y.key, .int .i64 y.is.c, .int .i64 y.is.s, .int .i64 y.is.mi, .int .i64 y.is.ma, .int .i64 y.is.t, .int .i64 y.is.l] 107):=by rw [hW1];exact aq _ _ rfl
     have hz1:W1.heap.size=wr.heap.size+1:=by rw [hW1];simp
     have H8:=hdd (aO hb1 (aO k1 hz1))
     obtain⟨x0,x1,x2,x3,x4,x5,x6⟩:W1.cell? ⟨wr.heap.size,0,none⟩=some (.int .i64 y.key)/\W1.cell? ⟨wr.heap.size,1,none⟩=some (.int .i64 y.is.c)/\W1.cell? ⟨wr.heap.size,2,none⟩=some (.int .i64 y.is.s)/\W1.cell? ⟨wr.heap.size,3,none⟩=some (.int .i64 y.is.mi)/\W1.cell? ⟨wr.heap.size,4,none⟩=some (.int .i64 y.is.ma)/\W1.cell? ⟨wr.heap.size,5,none⟩=some (.int .i64 y.is.t)/\W1.cell? ⟨wr.heap.size,6,none⟩=some (.int .i64 y.is.l):=by simp [World.cell?,k1]
     have xf:∀o,W1.drew.frozen? ⟨wr.heap.size,o,none⟩=false:=by intro o;have PE:W1.drew.heap[wr.heap.size]?=_:=k1;simp [World.frozen?,PE]
     have x0d:W1.drew.cell? ⟨wr.heap.size,0,none⟩=some (.int .i64 y.key):=x0
     rw [<-hW1]
     clear hW1 hb1 k1 hz1 y0 y1 y2 y3 y4 y5 y6 ab2
     refine cV [(0,1),(1,0),(2,1),(3,0),(4,1),(5,1),(6,1),(7,1),(8,1),(9,3)] 9
      (fun W=>W.cell? ⟨wr.heap.size,0,none⟩=some (.int .i64 y.key)) cv cv x0d ?_
     (simp only [bF,List.filterMap_cons,List.filterMap_nil,List.getElem?_cons_zero,List.getElem?_cons_succ,Option.map_some])
     (repeat (first|refine jA ?_|refine jz ?_|refine jy ?_);(try simp only [Act.put,List.setIfInBounds_toArray,List.set_cons_zero,List.set_cons_succ]))
     refine fX ?_ (fun K hK=>?_)
     (focus (first|exact bg rfl _|exact dP rfl rfl rfl rfl))
     go_simp
     refine hK _ _ ?_
     clear hK K
     refine gZ ?_
     obtain⟨V2,hV2⟩:=bR ((W1.setCell ⟨wr.heap.size,0,none⟩ (.int .i64 P)).drew)
     have kp:V2.heap[wr.heap.size]?=some (.cells #[.int .i64 P, .int .i64 y.is.c, .int .i64 y.is.s, .int .i64 y.is.mi, .int .i64 y.is.ma, .int .i64 y.is.t, .int .i64 y.is.l] 107):=by
      rw [hV2];exact heap_setCell_same H8.out.2.1
     have hb2:ah wr V2:=by rw [hV2];exact(H8.out.1.setCell aI _).drew
     have hz2:V2.heap.size=wr.heap.size+1:=by rw [hV2];show (W1.setCell _ _).heap.size=_;rw [ay];exact H8.out.2.2
     have mq:=hdd hb2
     have Oi:=hdd (aO kp hz2)
     have hown2:au wo.heap.size V2 (.slice so es.length oc) es:=hown.below hb2 aI
     obtain⟨yb,hyb⟩:=bC (wr.heap.size)
     rw [hyb]at kp Oi
     obtain⟨z0,z1,z2,z3,z4,z5,z6⟩:V2.cell? ⟨yb,0,none⟩=some (.int .i64 P)/\V2.cell? ⟨yb,1,none⟩=some (.int .i64 y.is.c)/\V2.cell? ⟨yb,2,none⟩=some (.int .i64 y.is.s)/\V2.cell? ⟨yb,3,none⟩=some (.int .i64 y.is.mi)/\V2.cell? ⟨yb,4,none⟩=some (.int .i64 y.is.ma)/\V2.cell? ⟨yb,5,none⟩=some (.int .i64 y.is.t)/\V2.cell? ⟨yb,6,none⟩=some (.int .i64 y.is.l):=by simp [World.cell?,kp]
     rw [<-hV2,hyb]
     clear hV2 hb2 kp hz2 x0 x1 x2 x3 x4 x5 x6 xf x0d m1 m2 m3 m4 m5 hs0 aay H8
     have hel:=HRE.out.2
     have hes:es.length<=1000000:=af
     obtain h0|⟨j,hj⟩:es.length=0\/∃j,es.length=j+1:=by cases h:es.length;exact .inl rfl;exact .inr ⟨_,rfl⟩
     ·obtain rfl:=xQ h0
      have Fi:=hdd (show nJ l S (q+1) [⟨P,y.is⟩]from RO.out (fun e he=>by cases he))
      have n1:IntKind.i64.wrap (0-1) = -1:=aY
      have hcz:(([]:List aA).length:Nat)=0:=rfl
      rw [hcz]at hown2 ⊢
      clear h0 hcz UE RO Yj hel
      go_upto_region 11 with (fail)
      refine cV [(0,1),(1,1),(2,1),(3,1),(4,1),(5,1),(6,1),(7,0),(8,1),(9,0),(10,1),(11,3)] 11
       (fun _=>True) cv cv trivial ?_
      (simp only [bF,List.filterMap_cons,List.filterMap_nil,List.getElem?_cons_zero,List.getElem?_cons_succ,Option.map_some])
      (repeat (first|refine jA ?_|refine jz ?_|refine jy ?_);(try simp only [Act.put,List.setIfInBounds_toArray,List.set_cons_zero,List.set_cons_succ]))
      refine fX ?_ (fun K hK=>?_)
      (focus (first|exact bg rfl _|exact dP rfl rfl rfl rfl))
      go_simp
      refine hK _ _ ?_
      clear hK K
      refine gZ ?_
      have yj:ah wo V2:=(Below.trans' HB.out mq.out M3);have abw:=yj.size
      go_wp2_with ((at_builtin;refine fe rfl (.tmp 78) (.tmp 80) rfl wo.heap.size _ [] rfl (by repeat (first|assumption|with_reducible refine au.alloc ?_ _|with_reducible refine au.drewN ?_ _|with_reducible refine au.drew ?_)) ⟨_,0,none⟩ ⟨P,y.is⟩ rfl (fun j u h=>mP h) bt (by first|omega|(simp;done)|(simp;omega)|(simp [aN];done)|(simp [aN];omega)) ?_;intro v3 w3 uu hg3;have hb3:=hg3 wo.heap.size wo ag aI))
      go_roundg (l.length-(q+1))
      case measure=>omega
      case rel=>exact⟨q+1,_,PZ,rfl,by go_num,uu,Fi,hdd hb3⟩
     ·have n1:IntKind.i64.wrap ((es.length:Int)-1)=(j:Int):=by rw [hj];rw [show (((j+1:Nat):Int)-1)=(j:Int) by omega];exact IntWalk.i64_in _ af
      have hj0:(0:Int)<=(j:Int):=af
      have hjl:j<es.length:=af
      obtain⟨hl,⟨h0,h0'⟩|⟨og,cap',cur,hv,hBg,hog,-⟩⟩:=id hown2.row
      ·omega
      injection hv with hv1 _ hv3
      subst hv1 hv3
      have J0:og<V2.heap.size:=(hown2.lt og rfl).2
      obtain⟨_,_,hv,-,-,-,-,Zg⟩:=hown2.at af
      injection hv with hv1 _ hv3
      subst hv3
      obtain⟨eb2,Nk,lQ,Tq,J1⟩:=Zg af
      rw [<-hv1]at lQ
      obtain⟨rfl,rfl⟩:og=eb2/\0=Nk:=by injection lQ with lQ;injection lQ with a1 a2;exact⟨a1,a2⟩
      obtain⟨o0,o1,o2,o3,o4,o5,o6⟩:=bT (aL _ _) Tq J1 hjl
      simp only [iX]at o0 o1 o2 o3 o4 o5 o6
      have GG:=fun w'=>dC (ab:=og) (bp:=0) (n:=es.length) (cap:=oc) (show (j:Int)=((j:Nat):Int) by rfl) hjl w'
      simp only [iX]at GG
      have hky:=Yj.out _ (gj hjl)
      have QB:=hdd (UE.out j hj)
      have Zz:=hdd (show es[j].key<P->nJ l S (q+1) (es++[⟨P,y.is⟩])from fun hlt=>RO.out fun e he=>by
       obtain⟨t,ht,rfl⟩:=kS he
       by_cases Wk:t=j
       ·subst Wk;exact hlt
       ·have h2:=px.1 HRE.out.1 t j ht hjl af
        show _<P;omega)
      have hky:es[j].key<=P:=hky
      have E4:=hdd (fun(wz:World) (Y:av) (ho:au wo.heap.size wz (.slice (some ⟨og,0,none⟩) es.length oc) es)=>ho.set (y:=Y) hjl)
      obtain⟨zz,hzz⟩:=bC (es[j])
      rw [hzz]at o0 o1 o2 o3 o4 o5 o6 hky QB Zz E4
      have JW:yb<V2.heap.size:=by rw [Oi.out.2];omega
      clear J1 Zg hzz lQ hv1 hl UE RO Yj hel hj
      by_cases hkk:zz.key=P
      ·have e3:(zz.key == P)=true:=by simp [hkk]
       obtain⟨hpg,IQ,hcy,eD,hnone⟩:=QB.out hkk
       have pB:=hdd (aO hpg (aO IQ (aO hcy (aO eD hnone))))
       go_upto_region 11 with (fail)
       refine cV [(0,1),(1,1),(2,1),(3,1),(4,1),(5,1),(6,1),(7,0),(8,1),(9,0),(10,1),(11,3)] 11
        (fun W=>W.cell? ⟨yb,0,none⟩=some (.int .i64 P)/\W.cell? ⟨og,j*7,none⟩=some (.int .i64 zz.key)) cv cv ⟨z0,o0⟩ ?_
       (simp only [bF,List.filterMap_cons,List.filterMap_nil,List.getElem?_cons_zero,List.getElem?_cons_succ,Option.map_some])
       (repeat (first|refine jA ?_|refine jz ?_|refine jy ?_);(try simp only [Act.put,List.setIfInBounds_toArray,List.set_cons_zero,List.set_cons_succ]))
       refine fX ?_ (fun K hK=>?_)
       (focus (first|exact bg rfl _|exact dP rfl rfl rfl rfl))
       go_simp
       refine hK _ _ ?_
       clear hK K
       refine gZ ?_
       obtain⟨V3,Y4⟩:=bR (V2.drew)
       have hb3:ah V2 V3:=by rw [Y4];exact(aL _ _).drew
       have hz3:V3.heap.size=V2.heap.size:=by rw [Y4];rfl
       rw [<-Y4]
       obtain⟨u,hu⟩:=bC (zz.is)
       rw [hu]at o1 o2 o3 o4 o5 o6 pB
       obtain⟨J,E,GR⟩:∃J E,bL u y.is=(J,E):=⟨_,_,rfl⟩
       have CI:=hdd GR
       have ZA:=hdd fun w'=>(by have:=jb u y.is w';rw [GR]at this;exact this :
        Calls Tryz.prog 15 #[.agg #[.int .i64 u.c, .int .i64 u.s, .int .i64 u.mi, .int .i64 u.ma, .int .i64 u.t, .int .i64 u.l], .agg #[.int .i64 y.is.c, .int .i64 y.is.s, .int .i64 y.is.mi, .int .i64 y.is.ma, .int .i64 y.is.t, .int .i64 y.is.l]] w' fun e' w5=>e' = .returned (.tuple #[.agg #[.int .i64 J.c, .int .i64 J.s, .int .i64 J.mi, .int .i64 J.ma, .int .i64 J.t, .int .i64 J.l], .int .i64 E])/\ah w' w5)
       have RF:=hdd fun W (hb:ah V3 W)=>(by
        have gc:∀b o,b<V2.heap.size->W.cell? ⟨b,o,none⟩=V2.cell? ⟨b,o,none⟩:=fun b o h=>(hb.cell (p:=⟨b,o,none⟩) (by show b<_;omega)).trans (hb3.cell (p:=⟨b,o,none⟩) h)
        rw [gc _ _ JW,gc _ _ JW,gc _ _ JW,gc _ _ JW,gc _ _ JW,gc _ _ JW,gc _ _ J0,gc _ _ J0,gc _ _ J0,gc _ _ J0,gc _ _ J0,gc _ _ J0]
        exact⟨z1,z2,z3,z4,z5,z6,o1,o2,o3,o4,o5,o6⟩:W.cell? ⟨yb,1,none⟩=some (.int .i64 y.is.c)/\W.cell? ⟨yb,2,none⟩=some (.int .i64 y.is.s)/\W.cell? ⟨yb,3,none⟩=some (.int .i64 y.is.mi)/\W.cell? ⟨yb,4,none⟩=some (.int .i64 y.is.ma)/\W.cell? ⟨yb,5,none⟩=some (.int .i64 y.is.t)/\W.cell? ⟨yb,6,none⟩=some (.int .i64 y.is.l)/\W.cell? ⟨og,j*7+1,none⟩=some (.int .i64 u.c)/\W.cell? ⟨og,j*7+2,none⟩=some (.int .i64 u.s)/\W.cell? ⟨og,j*7+3,none⟩=some (.int .i64 u.mi)/\W.cell? ⟨og,j*7+4,none⟩=some (.int .i64 u.ma)/\W.cell? ⟨og,j*7+5,none⟩=some (.int .i64 u.t)/\W.cell? ⟨og,j*7+6,none⟩=some (.int .i64 u.l))
       have Vx:=hdd (aO (hown2.below hb3 aI) (Below.trans' (Below.trans' HB.out mq.out M3) hb3 (by have:=mq.out.size;omega)))
       have afY:og<V3.heap.size:=af
       have HZ3:=hdd hz3
       clear hz3 Y4 hb3 GR hu hpg IQ hcy eD hnone z0 z1 z2 z3 z4 z5 z6 o0 o1 o2 o3 o4 o5 o6 n1 hj0 e3 QB Zz hown hown2 hkk
       go_upto_region 12 with (fail)
       go_cut [15,16] (fun p c wx=>∃g2:Nat,p = .pointer (some ⟨g2,0,none⟩)/\c = .int .i64 E/\Hid (wx.heap[g2]?=some (.cells #[.int .i64 J.c, .int .i64 J.s, .int .i64 J.mi, .int .i64 J.ma, .int .i64 J.t, .int .i64 J.l] 39)/\V3.heap.size<=g2/\ah V3 wx))
       case first=>
        refine eW (lL.of [(0,1),(1,1),(2,1),(3,1),(4,0),(5,1),(6,0)] (.fork 7 11 (lL.of [(8,1),(9,1),(10,1)] (lL.of [(11,2),(12,3),(13,1)] .nil)) (lL.of [(7,2),(8,1),(9,1),(10,1),(12,3),(13,1)] .nil))) 12
         (fun W=>W.cell? ⟨yb,1,none⟩=some (.int .i64 y.is.c)/\W.cell? ⟨yb,2,none⟩=some (.int .i64 y.is.s)/\W.cell? ⟨yb,3,none⟩=some (.int .i64 y.is.mi)/\W.cell? ⟨yb,4,none⟩=some (.int .i64 y.is.ma)/\W.cell? ⟨yb,5,none⟩=some (.int .i64 y.is.t)/\W.cell? ⟨yb,6,none⟩=some (.int .i64 y.is.l)/\W.cell? ⟨og,j*7+1,none⟩=some (.int .i64 u.c)/\W.cell? ⟨og,j*7+2,none⟩=some (.int .i64 u.s)/\W.cell? ⟨og,j*7+3,none⟩=some (.int .i64 u.mi)/\W.cell? ⟨og,j*7+4,none⟩=some (.int .i64 u.ma)/\W.cell? ⟨og,j*7+5,none⟩=some (.int .i64 u.t)/\W.cell? ⟨og,j*7+6,none⟩=some (.int .i64 u.l)) cv cv (RF.out _ (aL _ _).drew) ?_
        simp only [lL.of]
        have YC:ah V3 V3.drew:=(aL _ _).drew
        (repeat first|refine bJ ?_|refine bI ?_)
        refine gP rfl rfl rfl rfl (fun K hK=>?_) (fun K hK=>?_)
        ·skip
         go_simp
         (with_reducible refine(ZA.out _).mono ?_)
         rintro e w1 ⟨rfl,Rm⟩
         go_simp
         have QN:ah V3 w1:=Below.trans' YC Rm YC.size
         try (have KT:=(Rm.block tb (by have:=(eP.1 KT).1;omega)).trans KT)
         refine hK _ _ (RF.out _ QN) ?_
         clear hK K
         (repeat first|refine bJ ?_|refine bI ?_)
         refine br rfl rfl (fun K hK=>?_)
         go_simp
         obtain⟨W2,hW⟩:=bR (w1.alloc (.cells #[.int .i64 0, .int .i64 0, .int .i64 0, .int .i64 0, .int .i64 0, .int .i64 0] 39))
         have kY:ah w1 W2:=by rw [hW];exact ag
         have YD:ah V3 W2:=Below.trans' QN kY (QN.size)
         have KT:W2.heap[w1.heap.size]?=some (.cells #[.int .i64 0, .int .i64 0, .int .i64 0, .int .i64 0, .int .i64 0, .int .i64 0] 39):=by rw [hW];exact aq _ _ rfl
         rw [<-hW]
         obtain⟨tb,D6⟩:=bC (w1.heap.size)
         have hlo:V3.heap.size<=tb:=by rw [<-D6];exact QN.size
         rw [D6]at KT ⊢
         refine hK _ _ (RF.out _ YD) ?_
         clear hK K
         clear hW kY
         (repeat first|refine bJ ?_|refine bI ?_)
         obtain⟨k0,k1,k2,k3,k4,k5,kf⟩:W2.cell? ⟨tb,0,none⟩=some (.int .i64 0)/\W2.cell? ⟨tb,1,none⟩=some (.int .i64 0)/\W2.cell? ⟨tb,2,none⟩=some (.int .i64 0)/\W2.cell? ⟨tb,3,none⟩=some (.int .i64 0)/\W2.cell? ⟨tb,4,none⟩=some (.int .i64 0)/\W2.cell? ⟨tb,5,none⟩=some (.int .i64 0)/\∀o,W2.frozen? ⟨tb,o,none⟩=false:=by simp [World.cell?,World.frozen?,KT]
         have HKT:=hdd KT
         clear KT
         refine cZ rfl rfl (fun K hK=>?_)
         go_simp
         refine hK _ _ ?_
         clear hK K
         (repeat first|refine bJ ?_|refine bI ?_)
         refine dU ?_
         go_wp2_with fail
         go_meet
         exact⟨tb,rfl,rfl,hdd ⟨jR HKT.out,hlo,((((((YD.setCell (p:=⟨tb,0,none⟩) hlo (.int .i64 J.c)).setCell (p:=⟨tb,1,none⟩) hlo (.int .i64 J.s)).setCell (p:=⟨tb,2,none⟩) hlo (.int .i64 J.mi)).setCell (p:=⟨tb,3,none⟩) hlo (.int .i64 J.ma)).setCell (p:=⟨tb,4,none⟩) hlo (.int .i64 J.t)).setCell (p:=⟨tb,5,none⟩) hlo (.int .i64 J.l))⟩⟩
        ·skip
         go_simp
         obtain⟨W1,hW⟩:=bR ((V3.alloc (.cells #[.int .i64 0, .int .i64 0, .int .i64 0, .int .i64 0, .int .i64 0, .int .i64 0] 39)).drew)
         have kY:ah V3 W1:=by rw [hW];exact ag
         have UU:ah V3 W1:=Below.trans' (aL _ _) kY aI
         have KT:W1.heap[V3.heap.size]?=some (.cells #[.int .i64 0, .int .i64 0, .int .i64 0, .int .i64 0, .int .i64 0, .int .i64 0] 39):=by rw [hW];exact aq _ _ rfl
         rw [<-hW]
         obtain⟨tb,D6⟩:=bC (V3.heap.size)
         have hlo:V3.heap.size<=tb:=by rw [<-D6];exact kT _
         rw [D6]at KT ⊢
         refine hK _ _ (RF.out _ UU) ?_
         clear hK K
         clear hW kY
         (repeat first|refine bJ ?_|refine bI ?_)
         refine br rfl rfl (fun K hK=>?_)
         go_simp
         (with_reducible refine(ZA.out _).mono ?_)
         rintro e w2 ⟨rfl,Rl⟩
         go_simp
         have YB:ah V3 w2:=Below.trans' UU Rl UU.size
         try (have KT:=(Rl.block tb (by have:=(eP.1 KT).1;omega)).trans KT)
         refine hK _ _ (RF.out _ YB) ?_
         clear hK K
         (repeat first|refine bJ ?_|refine bI ?_)
         obtain⟨k0,k1,k2,k3,k4,k5,kf⟩:w2.cell? ⟨tb,0,none⟩=some (.int .i64 0)/\w2.cell? ⟨tb,1,none⟩=some (.int .i64 0)/\w2.cell? ⟨tb,2,none⟩=some (.int .i64 0)/\w2.cell? ⟨tb,3,none⟩=some (.int .i64 0)/\w2.cell? ⟨tb,4,none⟩=some (.int .i64 0)/\w2.cell? ⟨tb,5,none⟩=some (.int .i64 0)/\∀o,w2.frozen? ⟨tb,o,none⟩=false:=by simp [World.cell?,World.frozen?,KT]
         have HKT:=hdd KT
         clear KT
         refine cZ rfl rfl (fun K hK=>?_)
         go_simp
         refine hK _ _ ?_
         clear hK K
         (repeat first|refine bJ ?_|refine bI ?_)
         refine dU ?_
         go_wp2_with fail
         go_meet
         exact⟨tb,rfl,rfl,hdd ⟨jR HKT.out,hlo,((((((YB.setCell (p:=⟨tb,0,none⟩) hlo (.int .i64 J.c)).setCell (p:=⟨tb,1,none⟩) hlo (.int .i64 J.s)).setCell (p:=⟨tb,2,none⟩) hlo (.int .i64 J.mi)).setCell (p:=⟨tb,3,none⟩) hlo (.int .i64 J.ma)).setCell (p:=⟨tb,4,none⟩) hlo (.int .i64 J.t)).setCell (p:=⟨tb,5,none⟩) hlo (.int .i64 J.l))⟩⟩
       case rest=>
        obtain⟨g2,rfl,rfl,HG2⟩:=hcut
        have uG:au wo.heap.size wc (.slice (some ⟨og,0,none⟩) es.length oc) es:=Vx.out.1.below HG2.out.2.2 aI
        have Xh:=Below.trans' Vx.out.2 HG2.out.2.2 Vx.out.2.size
        have hzc:=HG2.out.2.2.size
        obtain⟨j0,j1,j2,j3,j4,j5,-⟩:=cI HG2.out.1
        obtain⟨-,-,-,-,-,-,o1,o2,o3,o4,o5,o6⟩:=RF.out _ HG2.out.2.2
        have yi:∀o,wc.frozen? ⟨og,o,none⟩=false:=World.ownsRow.frozenAt uG.row
        have hgg:g2≠og:=by have:=HG2.out.2.1;omega
        have ags:¬og=g2:=fun h=>hgg h.symm
        have Fk:=hdd pB.out
        by_cases hcc:u.c+y.is.c<=1073741824
        ·obtain⟨rfl,rfl⟩:=Prod.mk.inj (CI.out.symm.trans (oU pB.out.2.1 pB.out.2.2.1 hcc).1)
         have VB:=hdd (pB.out.2.2.2.1 hcc)
         have CF:=E4.out wc (u.join y.is) uG
         generalize u.join y.is=J at *
         have CF:=hdd CF
         clear hcc CI ZA pB Fk E4
         go_wp2_with fail
         go_roundg (l.length-(q+1))
         case measure=>omega
         case rel=>exact⟨q+1,_,PZ,rfl,by go_num,CF.out,VB,hdd (by
          have hlo:wo.heap.size<=og:=(uG.lt og rfl).1
          exact(((((Xh.setCell (p:=⟨og,_,none⟩) hlo _).setCell (p:=⟨og,_,none⟩) hlo _).setCell (p:=⟨og,_,none⟩) hlo _).setCell (p:=⟨og,_,none⟩) hlo _).setCell (p:=⟨og,_,none⟩) hlo _).setCell (p:=⟨og,_,none⟩) hlo _)⟩
        ·obtain⟨rfl,rfl⟩:=Prod.mk.inj (CI.out.symm.trans ((iP pB.out.2.1 pB.out.2.2.1).trans (ai hcc)))
         have tR:=hdd (show qg ns fl l from .inl ⟨k,hlt,pB.out.1,by rw [HS.out];exact pB.out.2.2.2.2 hcc⟩)
         have ZB:=hdd (HM.out.later Xh)
         obtain⟨r0,r1,r2,r3,r4,r5,r6,r7,rf⟩:=ZB.out.zero
         clear hcc CI ZA pB Fk E4
         go_wp2_with fail
         exact bodyPost_ret (v:= .tuple #[dH, .int .i64 7]) (by simp [results,Tryz.results87,go_sem, *]) rfl ⟨cH ZB.out.below aI _ _ _ _ _ _ _ _, .inl ⟨7,aY,rfl,tR.out⟩⟩
      ·have e3:(zz.key == P)=false:=by simpa using hkk
       have Fi:=hdd (Zz.out af)
       clear QB Zz E4 hkk
       go_upto_region 11 with (fail)
       refine cV [(0,1),(1,1),(2,1),(3,1),(4,1),(5,1),(6,1),(7,0),(8,1),(9,0),(10,1),(11,3)] 11
        (fun W=>W.cell? ⟨yb,0,none⟩=some (.int .i64 P)/\W.cell? ⟨og,j*7,none⟩=some (.int .i64 zz.key)) cv cv ⟨z0,o0⟩ ?_
       (simp only [bF,List.filterMap_cons,List.filterMap_nil,List.getElem?_cons_zero,List.getElem?_cons_succ,Option.map_some])
       (repeat (first|refine jA ?_|refine jz ?_|refine jy ?_);(try simp only [Act.put,List.setIfInBounds_toArray,List.set_cons_zero,List.set_cons_succ]))
       refine fX ?_ (fun K hK=>?_)
       (focus (first|exact bg rfl _|exact dP rfl rfl rfl rfl))
       go_simp
       refine hK _ _ ?_
       clear hK K
       refine gZ ?_
       have yj:ah wo V2:=(Below.trans' HB.out mq.out M3);have abw:=yj.size
       go_wp2_with ((at_builtin;refine fe rfl (.tmp 78) (.tmp 80) rfl wo.heap.size _ es rfl (by repeat (first|assumption|with_reducible refine au.alloc ?_ _|with_reducible refine au.drewN ?_ _|with_reducible refine au.drew ?_)) ⟨_,0,none⟩ ⟨P,y.is⟩ rfl (fun j u h=>mP h) hes (by first|omega|(simp;done)|(simp;omega)|(simp [aN];done)|(simp [aN];omega)) ?_;intro v3 w3 uu hg3;have hb3:=hg3 wo.heap.size wo ag aI))
       go_roundg (l.length-(q+1))
       case measure=>omega
       case rel=>exact⟨q+1,_,PZ,rfl,by go_num,uu,Fi,hdd hb3⟩
    ·have hqe:q=l.length:=af
     subst hqe
     have M3:=HB.out.size
     have aai:=HM.out.size
     have XG:=HI.out
     have hre:=XG.FP KJ.out HR.out
     have Ob:=hdd (mJ (hown.at af))
     have hok0:=hdd (aO HB.out XG)
     clear hown HL lA
     go_upto_region 19 with (go_at_call 79;(with_reducible refine Ob.out.mono ?_);rintro e w5 ⟨cz,ot,tn,tc,rt,E2,rfl,hform⟩;have VC:=hdd hform;clear hform)
     obtain⟨V5,Xm⟩:=bR (w5.alloc (.cells #[.slice ot tn tc, .int .i64 rt] 27))
     have fA:ah w5 V5:=by rw [Xm];exact ag
     have k5:V5.heap[w5.heap.size]?=some (.cells #[.slice ot tn tc, .int .i64 rt] 27):=by rw [Xm];exact aq _ _ rfl
     have kO:V5.heap.size=w5.heap.size+1:=by rw [Xm];simp
     have Ee:ah wo V5:=Below.trans' (Below.trans' HB.out cz M3) fA (by have:=cz.size;omega)
     have Vy:=hdd (HM.out.later Ee)
     have Fk:=hdd (show aQ (wr.heap.size+1) w5 V5 from aQ.of fA aI)
     obtain⟨t0,t1⟩:V5.cell? ⟨w5.heap.size,0,none⟩=some (.slice ot tn tc)/\V5.cell? ⟨w5.heap.size,1,none⟩=some (.int .i64 rt):=by simp [World.cell?,k5]
     obtain⟨r0,r1,r2,r3,r4,r5,r6,r7,rf⟩:=Vy.out.zero
     rw [<-Xm]
     obtain⟨qb,Oz⟩:=bC (w5.heap.size)
     have Qz:=hdd cz
     rw [Oz]at t0 t1 ⊢
     have hqn:qb≠w.heap.size+1:=by have:=cz.size;omega
     have afP:¬w.heap.size+1=qb:=af
     clear Xm fA k5 kO Ee cz Oz Ob
     by_cases hE1:E2=1
     ·have tR:=hdd (show qg ns fl l by
       rcases VC.out with ⟨h1,-,-,-,-,h2⟩|⟨h1,-⟩
       ·exact .inr (.inl ⟨k,es,hlt,by rw [HS.out];exact XG,by rcases h2 with h2|h2;exact .inl (h2▸h1);exact .inr h2.2⟩)
       ·omega)
      subst hE1
      clear VC
      go_wp2_with fail
      exact bodyPost_ret (v:= .tuple #[dH, .int .i64 1]) (by simp [results,Tryz.results87,go_sem, *]) rfl ⟨cH Vy.out.below aI _ _ _ _ _ _ _ _, .inl ⟨1,aY,rfl,tR.out⟩⟩
     ·by_cases Ze:E2=0
      ·subst Ze
       obtain⟨t,ht,WK⟩:∃t,(∀w'',aQ (wr.heap.size+1) w5 w''->bN w'' (.agg #[.slice ot tn tc, .int .i64 rt]) t)/\Made es t:=by
        rcases VC.out with ⟨h1,-⟩|⟨-,-,t,h2,h3⟩
        ·exact absurd rfl h1
        ·exact⟨t,h2,h3⟩
       have HST:=hdd (Vy.out.step hlt (B:=wr.heap.size+1) af Fk.out ht (by rw [HS.out];exact XG) WK)
       obtain⟨-,⟨u1,c1⟩,⟨u2,c2⟩⟩:=Vy.out.at hlt
       have cf:=Vy.out.cells.2.2.2.2.2.2.2.2
       have hkw:IntKind.i64.wrap ((k:Int)+1)=(k:Int)+1:=IntWalk.i64_in _ af
       clear VC ht WK r0 r1 r2 r3 r4 r5 r6 r7 rf hE1
       go_wp2_with fail
       go_roundg (3-(k+1))
       case measure=>omega
       case rel=>exact⟨k+1,af,rfl,by go_num,hdd ⟨_,_,_,_,_,HST.out⟩⟩
      ·have tR:=hdd (show qg ns fl l by
        rcases VC.out with ⟨h1,-,-,-,-,h2⟩|⟨h1,-⟩
        ·exact .inr (.inl ⟨k,es,hlt,by rw [HS.out];exact XG,by rcases h2 with h2|h2;exact .inl (h2▸h1);exact .inr h2.2⟩)
        ·omega)
       have e1:(E2 == 1)=false:=by simpa using hE1
       have e0:(E2 != 0)=true:=by simpa using Ze
       clear VC
       go_wp2_with fail
       exact bodyPost_ret (v:= .tuple #[dH, .int .i64 7]) (by simp [results,Tryz.results87,go_sem, *]) rfl ⟨cH Vy.out.below aI _ _ _ _ _ _ _ _, .inl ⟨7,aY,rfl,tR.out⟩⟩
  ·obtain rfl:k=3:=af
   obtain⟨q0,q1,q2,hbase⟩:=hm.base
   obtain⟨b0,b1,b2,b3,b4,b5,b6,b7,bf⟩:=hm.cells
   rw [q0]at b2
   rw [q1]at b4
   rw [q2]at b6
   have UQ:=hdd hbase
   have HST:=hdd (fun W (hb:ah w W)=>HN.out.below hb aI)
   have iC:=hdd (fH (hbase wo (HN.out.below hm.below aI) (aQ.refl _ _)) sI.out.1 (sI.out.2.below hm.below))
   clear hm hbase q0 q1 q2
   by_cases qA:aR ⟨ns,T 0,T 1,T 2,fl⟩=true
   ·rw [show kE ⟨ns,T 0,T 1,T 2,fl⟩=0 by unfold kE;rw [ar qA]]at iC
    have pB:=hdd (show wP ns fl l T from ⟨qA,fun k hk=>(HM.out.tr k hk).1⟩)
    clear qA
    go_upto_region 27 with (go_at_call 66;(with_reducible refine iC.out.mono ?_);rintro e w6 ⟨rfl,jt⟩)
    have UI:=hdd (HM.out.later jt)
    have Ym:=hdd (aQ.of (M:=w.heap.size+2) jt aI)
    obtain⟨r0,r1,r2,r3,r4,r5,r6,r7,rf⟩:=UI.out.zero
    clear b0 b1 b2 b3 b4 b5 b6 b7 bf jt
    obtain⟨q0,q1,q2,-⟩:=UI.out.base
    obtain⟨b0,b1,b2,b3,b4,b5,b6,b7,bf⟩:=UI.out.cells
    rw [q0]at b2
    rw [q1]at b4
    rw [q2]at b6
    have hne:w.heap.size≠w.heap.size+1:=af
    have ag3:¬w.heap.size+1=w.heap.size:=af
    clear q0 q1 q2
    go_wp2_with fail
    exact bodyPost_ret (v:= .tuple #[.agg (aJ sn ns.length sc (g 0) (n 0) (c 0) (g 1) (n 1) (c 1) (g 2) (n 2) (c 2) ⟨ns,T 0,T 1,T 2,fl⟩), .int .i64 0]) (by simp [results,Tryz.results87,go_sem, *]) rfl ⟨cH UI.out.below aI _ _ _ _ _ _ _ _, .inr ⟨sn,sc,_,_,_,_,_,_,_,_,_,T,rfl,rfl,pB.out,fun w'' hs hw=>UQ.out w'' hs (Ym.out.trans ((rY af _ _ _ _ _ _ _ _).trans hw))⟩⟩
   ·rw [show kE ⟨ns,T 0,T 1,T 2,fl⟩=7 by unfold kE;rw [ai qA]]at iC
    have tR:=hdd (show qg ns fl l from .inr (.inr ⟨T,fun k hk=>(HM.out.tr k hk).1,by simpa using qA⟩))
    clear qA
    go_upto_region 26 with (go_at_call 66;(with_reducible refine iC.out.mono ?_);rintro e w6 ⟨rfl,jt⟩)
    have UI:=hdd (HM.out.later jt)
    obtain⟨r0,r1,r2,r3,r4,r5,r6,r7,rf⟩:=UI.out.zero
    clear b0 b1 b2 b3 b4 b5 b6 b7 bf jt
    go_wp2_with fail
    exact bodyPost_ret (v:= .tuple #[dH, .int .i64 7]) (by simp [results,Tryz.results87,go_sem, *]) rfl ⟨cH UI.out.below aI _ _ _ _ _ _ _ _, .inl ⟨7,aY,rfl,tR.out⟩⟩
end
end Go.Proofs.YtmljjfhgciaceaaGreatDoor
namespace Go.Proofs.YtmljjfhgciaceaaGreatDoor
section
variable {fl:Int} {ns:List ByteArray} {l:List aA}
theorem Fit.aF (h:Fit ns fl l):∀e∈l,Af e:=fun e he=>by
 obtain⟨h1,h2⟩:=cp (h.good.1 e he).2 (h.good.1 e he).1
 obtain⟨k1,k2⟩:=h.good.2.1 e he
 obtain⟨-,-,ht⟩:=h.ok e he
 have hs:=rq h1 h2
 obtain⟨q0,q1,q2,q3,q4,q5,q6,q7,q8,-⟩:=h1
 exact⟨k1,k2,q0,af,ht,af,af,af,af⟩
theorem uy {s:ByteArray} (h:dG s=true):s.size<=10:=by
 simp [dG]at h
 omega
theorem Cx (ns:List ByteArray) (fl:Int) (l:List aA):aP (eJ ns fl l):=by
 have h:=xw ⟨ns,default,default,default,fl⟩ l
 rw [Bv]at h
 exact h
theorem Et (ns:List ByteArray) (fl:Int) (l:List aA):aP (eJ ns fl l++ki (eJ ns fl l)):=(Cx ns fl l).app (FL _)
theorem Fit.short (h:Fit ns fl l) (hl:l.length<=500):(eJ ns fl l++ki (eJ ns fl l)).length<=100000:=by
 have h1:=uQ (last:=0) h.good (Int.le_refl 0)
 have h2:=rW (ns:=ns) fun s hs=>uy (h.may s hs)
 have h3:=h.n16
 have h4:=cd (n:=ns.length) af
 have h5:=cd (n:=fl.toNat) (by have:=h.f0;omega)
 have h6:=cd (n:=l.length) af
 rw [eO,C3]
 unfold eJ
 simp only [eO,fR,List.length_nil]
 omega
theorem Fit.dec (h:Fit ns fl l) (hl:l.length<=500) {bs:List Int} (hbs:bs=eJ ns fl l++ki (eJ ns fl l)) :
  sy bs=0/\(cU (bu bs)).2=ns/\(cU (bu bs)).1.num.2=fl/\(fw (bu bs)).2=l:=
 Nv h.n16 (fun s hs=>uy (h.may s hs)) h.f0.1 (by have:=h.f0;omega) af h.aF h.FP hbs (by have:=h.short hl;rw [hbs];omega)
end
end Go.Proofs.YtmljjfhgciaceaaGreatDoor
