/- Texts of mine that come as one: MadeP MadeK Made FitP. -/
import Derived.Test.YtmljjfhgciaceaaDoorHd
import Derived.Test.YtmljjfhgciaceaaDoorPC
import Derived.Test.YtmljjfhgciaceaaDoorKE
import Derived.Test.YtmljjfhgciaceaaDoorPU
import Derived.Test.YtmljjfhgciaceaaDoorDP
import Derived.Test.YtmljjfhgciaceaaDoorOG
import Derived.Test.YtmljjfhgciaceaaDoorAQ
import Derived.Test.YtmljjfhgciaceaaDoorKG
import Derived.Test.YtmljjfhgciaceaaDoorMerged
import Derived.Test.YtmljjfhgciaceaaDoorSO
import Derived.Deep.CutBlock
namespace Go.Proofs.YtmljjfhgciaceaaDoor
section
variable {fl:Int} {ns:List ByteArray} {l:List aA} {T:Nat->Tr}
def EW (l:List aA):Prop:=aV l/\(∀e∈l,0<=e.key/\e.key<1099511627776)/\l.length<=10000
def nN (l:List aA) (size:Int) (k:Nat) (es:List aA):Prop:=(size=1/\es=l.take k)\/(dY l/\ft ((l.take k).map (bucket size))=some es)
theorem nN.start (l:List aA) (size:Int) (hg:size=1\/dY l):nN l size 0 []:=by
 rcases hg with h|h
 ·exact .inl ⟨h,rfl⟩
 ·exact .inr ⟨h,rfl⟩
section
variable {l es:List aA} {size:Int} {k:Nat}
theorem nN.FM (h:nN l size k es) (hs:size=1\/size=60\/size=3600) (hr:EW l):aV es/\es.length<=k:=by
 rcases h with ⟨-,rfl⟩|⟨hg,hb⟩
 ·exact⟨hr.1.sublist (List.take_sublist _ _),by rw [fw];omega⟩
 ·have hP:dY ((l.take k).map (bucket size)):=by
   have:=eB (show 0<size by omega) hg;rw [<-wG k l,tL]at this;exact this.left
  obtain⟨h1,h2,h3,h4,h5⟩:=fT hP.1 hb
  exact⟨h5,by rw [nA,fw]at h4;omega⟩
theorem nN.keys (h:nN l size k es) (hs:size=1\/size=60\/size=3600) (hr:EW l) (hk:k<l.length):∀e∈es,e.key<=(bucket size l[k]).key:=by
 rcases h with ⟨rfl,rfl⟩|⟨hg,hb⟩
 ·intro e he
  obtain⟨i,hi,rfl⟩:=kW he
  rw [fw]at hi
  rw [wC]
  have:=pz.1 hr.1 i k af hk af
  rw [nz];omega
 ·exact wZ hs hr.1 hg hk hb
theorem nN.new (h:nN l size k es) (hs:size=1\/size=60\/size=3600) (hk:k<l.length) (hn:∀e∈es,e.key<(bucket size l[k]).key):nN l size (k+1) (es++[bucket size l[k]]):=by
 rcases h with ⟨rfl,rfl⟩|⟨hg,hb⟩
 ·exact .inl ⟨rfl,by rw [mn hk,nz]⟩
 ·exact .inr ⟨hg,(pM hk hb).trans (yX hn)⟩
theorem nN.old (h:nN l size k es) (hs:size=1\/size=60\/size=3600) (hr:EW l) (hk:k<l.length) {j:Nat} (hj:es.length=j+1) (he:(es[j]'(by omega)).key=(bucket size l[k]).key) :
  dY l/\aj (es[j]'(by omega)).is=0/\aj l[k].is=0/\((es[j]'(by omega)).is.c+l[k].is.c<=1073741824->nN l size (k+1) (es.set j ⟨(es[j]'(by omega)).key,(es[j]'(by omega)).is.join l[k].is⟩))/\(¬(es[j]'(by omega)).is.c+l[k].is.c<=1073741824->bU l size=none):=by
 rcases h with ⟨rfl,rfl⟩|⟨hg,hb⟩
 ·exfalso
  rw [wC,nz]at he
  rw [fw]at hj
  have:=pz.1 hr.1 j k af hk af
  omega
 ·have hP:dY ((l.take k).map (bucket size)):=by
   have:=eB (show 0<size by omega) hg;rw [<-wG k l,tL]at this;exact this.left
  obtain⟨h1,h2,h3,h4,h5⟩:=fT hP.1 hb
  have hx:=(hg.1 _ (fO hk)).2
  have hst:=pM (size:=size) hk hb
  have YU:=yV (x:=bucket size l[k]) (i:=j) af h5 (AW h5 hj he) he
  refine⟨hg,(h3 _ (fO _)).2,hx,fun hc=> .inr ⟨hg,?_⟩,fun hc=>?_⟩
  ·rw [hst,YU,he];exact ar hc
  ·exact uk (k:=k+1) (by rw [hst,YU];exact ai hc)
end
def qg (ns:List ByteArray) (fl:Int) (l:List aA):Prop:=
 (∃k,k<3/\dY l/\bU l (aR k)=none)\/(∃k es,k<3/\nN l (aR k) l.length es/\(iJ none es≠0\/2900<es.length)) \/
 (∃T:Nat->Tr,(∀k,k<3->∃es,nN l (aR k) l.length es/\Made es (T k))/\aQ ⟨ns,T 0,T 1,T 2,fl⟩=false)
structure wM (ns:List ByteArray) (fl:Int) (l:List aA) (T:Nat->Tr):Prop where
 may:aQ ⟨ns,T 0,T 1,T 2,fl⟩=true
 tree:∀k,k<3->∃es,nN l (aR k) l.length es/\Made es (T k)
theorem wM.book (h:wM ns fl l T) (hl:aV l):bW ⟨ns,T 0,T 1,T 2,fl⟩=some l:=by
 obtain⟨es,h1,h2⟩:=h.tree 0 aW
 have hes:es=l:=by
  rcases h1 with ⟨-,h1⟩|⟨hg,h1⟩
  ·rw [h1,List.take_length]
  ·rw [List.take_length,show aR 0=1 from rfl,gM]at h1
   obtain⟨h3,-⟩:=fT hg.1 h1
   rw [h3,zM hl hg.1.bJ]
 subst hes
 have h3:=h2.knows
 obtain⟨l',hl',-⟩:=qa h.may
 have h4:=(lC hl').1
 have:l'=es:=dw (h4.symm.trans h3)
 rw [<-this];exact hl'
structure Fit (ns:List ByteArray) (fl:Int) (l:List aA):Prop where
 n16:ns.length<=16
 may:∀s∈ns,dG s=true
 nd:ns.Nodup
 f0:0<=fl/\fl<=1048575
 f3:fl%3600=0
 FM:aV l
 good:dY l
 few:l.length<=2900
 cnt:fA l<=1073741824
 ok:∀e∈l,e.key/1048576<ns.length/\fl<=e.key%1048576/\e.is.t=e.key%1048576
theorem Eu:∀{l:List aA} {p:Option Int},aV l->Checked l->(∀e∈l,0<=e.key/\e.key<1099511627776)->(∀k,p=some k->∀e∈l,k<e.key)->iJ p l=0
 |[],_,_,_,_,_=>by unfold iJ;rfl
 |e::l,p,hr,hc,hk,hp=>by
  have h1:=rz.1 hr
  have h2:=hc e bq
  have h3:=hk e bq
  unfold iJ
  rw [ai,ai af,ai (iF h2.2)]
  ·exact Eu h1.2 (fun x hx=>hc x (by simp [hx])) (fun x hx=>hk x (by simp [hx])) fun k hkk x hx=>by
    injection hkk with hkk;subst hkk;exact h1.1 x hx
  ·rintro⟨k,hk1,hk2⟩
   have:=hp k hk1 e bq
   omega
theorem Fit.rolled (h:Fit ns fl l) (k:Nat):bU l (aR k)=some (jJ (l.map (bucket (aR k)))):=by
 have hb:=(eB (gJ k) h.good).1
 unfold bU
 rw [jA hb,ar]
 refine oq hb.bJ ?_
 rw [ry];exact h.cnt
theorem Fit.mid {es:List aA} (h:Fit ns fl l) {k:Nat} (hm:nN l (aR k) l.length es):es=jJ (l.map (bucket (aR k))):=by
 rcases hm with ⟨h1,h2⟩|⟨-,h2⟩
 ·rw [h2,List.take_length,h1,gM,zM h.FM h.good.1.bJ]
 ·rw [List.take_length]at h2
  exact dw (h2.symm.trans (h.rolled k))
theorem Fit.jJ (h:Fit ns fl l) (k:Nat):dY (jJ (l.map (bucket (aR k))))/\aV (jJ (l.map (bucket (aR k))))/\(jJ (l.map (bucket (aR k)))).length<=2900:=by
 have hb:=eB (gJ k) h.good
 have hr:=h.rolled k
 unfold bU at hr
 obtain⟨h1,h2,h3,h4,h5⟩:=fT hb.1 hr
 refine⟨oU hb hr,h5,?_⟩
 rw [nA]at h4
 have:=h.few;omega
theorem Fit.base (h:Fit ns fl l) (hT:∀k,k<3->allT (T k)=some (Go.Proofs.YtmljjfhgciaceaaDoor.jJ (l.map (bucket (aR k))))):aQ ⟨ns,T 0,T 1,T 2,fl⟩=true/\bW ⟨ns,T 0,T 1,T 2,fl⟩=some l:=by
 have h0:allT (T 0)=some l:=by rw [hT 0 aW,show aR 0=1 from rfl,gM,zM h.FM h.good.1.bJ]
 have hb:bW ⟨ns,T 0,T 1,T 2,fl⟩=some l:=by
  refine uX h0 (pA.2 fun e he=>?_)
  have:=h.ok e he
  simp [jm]
  exact⟨⟨this.1,this.2.1⟩,this.2.2⟩
 refine⟨jS ⟨h.n16,h.f0.1,h.f0.2,h.f3,fun i hi=>⟨h.may _ (fO hi),fun k hk=>?_⟩,⟨l,hb,fun k hk=>?_⟩⟩,hb⟩
 ·have hi':i<ns.length:=hi
  exact pz.1 h.nd k i af hi' hk
 ·have e:(⟨ns,T 0,T 1,T 2,fl⟩:Ba).tree k=T k:=by
   obtain rfl|rfl|rfl:k=0\/k=1\/k=2:=af
   all_goals rfl
  rw [lV (h.rolled k) (by rw [e];exact hT k hk)]
  simp
theorem Fit.Pt (h:Fit ns fl l):¬qg ns fl l:=by
 rintro(⟨k,-,-,h1⟩|⟨k,es,-,h1,h2⟩|⟨T,h1,h2⟩)
 ·rw [h.rolled k]at h1;cases h1
 ·obtain rfl:=h.mid h1
  obtain⟨g1,g2,g3⟩:=h.jJ k
  rcases h2 with h2|h2
  ·exact h2 (Eu g2 g1.1 g1.2.1 fun k hk=>by cases hk)
  ·omega
 ·have:=(h.base (T:=T) fun k hk=>by
   obtain⟨es,h3,h4⟩:=h1 k hk
   obtain rfl:=h.mid h3
   exact h4.knows).1
  rw [h2]at this;cases this
theorem Fit.bst (h:Fit ns fl l) (ht:wM ns fl l T) {N:Nat} (hN:l.length<=N) (hc:fA l<=N):Fk ⟨ns,T 0,T 1,T 2,fl⟩ l N:=by
 refine⟨ht.may,ht.book h.FM,fun k hk=>?_,hc⟩
 obtain⟨es,h1,h2⟩:=ht.tree k hk
 obtain rfl:=h.mid h1
 have e:(⟨ns,T 0,T 1,T 2,fl⟩:Ba).tree k=T k:=by
  obtain rfl|rfl|rfl:k=0\/k=1\/k=2:=af
  all_goals rfl
 rw [e]
 have h3:=h2.2.2.2.2.2
 have h4:(Go.Proofs.YtmljjfhgciaceaaDoor.jJ (l.map (bucket (aR k)))).length<=l.length:=by
  have:=@uZ (l.map (bucket (aR k))) []
  rw [nA]at this
  unfold Go.Proofs.YtmljjfhgciaceaaDoor.jJ
  simpa using this
 omega
end
open Go.RowKit
section
variable {α:Type}
def upd (f:Nat->α) (k:Nat) (v:α):Nat->α:=fun j=>if j=k then v else f j
theorem yw (f:Nat->α) (k:Nat) (v:α):upd f k v k=v:=ar rfl
theorem upd_ne (f:Nat->α) {k j:Nat} (v:α) (h:j≠k):upd f k v j=f j:=ai h
structure CM (w:World) (ns:List ByteArray) (fl:Int) (l:List aA) (sn:Option Addr) (sc:Nat) (g:Nat->Option Addr) (n c:Nat->Nat) (r:Nat->Int) (T:Nat->Tr) (k:Nat) (wr:World):Prop where
 below:ah w wr
 size:w.heap.size+3<=wr.heap.size
 res:wr.heap[w.heap.size]?=some (.cells cN 35)
 box:wr.heap[w.heap.size+1]?=some (.cells #[.slice sn ns.length sc, .slice (g 0) (n 0) (c 0), .int .i64 (r 0), .slice (g 1) (n 1) (c 1), .int .i64 (r 1), .slice (g 2) (n 2) (c 2), .int .i64 (r 2), .int .i64 fl] 35)
 sz:wr.heap[w.heap.size+2]?=some (.cells #[.int .i64 1, .int .i64 60, .int .i64 3600] 3)
 tr:∀j,j<k->(∃es,nN l (aR j) l.length es/\Made es (T j))/\∀w'',aP (w.heap.size+2) wr w''->bL w'' (.agg #[.slice (g j) (n j) (c j), .int .i64 (r j)]) (T j)
section
variable {w:World} {ns:List ByteArray} {fl:Int} {l:List aA} {sn:Option Addr} {sc:Nat} {g:Nat->Option Addr} {n c:Nat->Nat} {r:Nat->Int} {T:Nat->Tr} {k:Nat} {wr wx:World}
theorem CM.later (h:CM w ns fl l sn sc g n c r T k wr) (hb:ah wr wx):CM w ns fl l sn sc g n c r T k wx:=
 ⟨Below.trans' h.below hb h.below.size,gT h.size hb.size,(hb.block _ (by have:=h.size;omega)).trans h.res,(hb.block _ (by have:=h.size;omega)).trans h.box,(hb.block _ (by have:=h.size;omega)).trans h.sz,
  fun j hj=>⟨(h.tr j hj).1,fun w'' hw=>(h.tr j hj).2 w'' ((aP.of hb aI).trans hw)⟩⟩
theorem CM.cells (h:CM w ns fl l sn sc g n c r T k wr):wr.cell? ⟨w.heap.size+1,0,none⟩=some (.slice sn ns.length sc)/\wr.cell? ⟨w.heap.size+1,1,none⟩=some (.slice (g 0) (n 0) (c 0))/\wr.cell? ⟨w.heap.size+1,2,none⟩=some (.int .i64 (r 0))/\wr.cell? ⟨w.heap.size+1,3,none⟩=some (.slice (g 1) (n 1) (c 1))/\wr.cell? ⟨w.heap.size+1,4,none⟩=some (.int .i64 (r 1))/\wr.cell? ⟨w.heap.size+1,5,none⟩=some (.slice (g 2) (n 2) (c 2))/\wr.cell? ⟨w.heap.size+1,6,none⟩=some (.int .i64 (r 2))/\wr.cell? ⟨w.heap.size+1,7,none⟩=some (.int .i64 fl)/\∀o,wr.frozen? ⟨w.heap.size+1,o,none⟩=false:=by
 have h1:=h.box
 simp [World.cell?,World.frozen?,h1]
theorem CM.zero (h:CM w ns fl l sn sc g n c r T k wr):wr.cell? ⟨w.heap.size,0,none⟩=some (.slice none 0 0)/\wr.cell? ⟨w.heap.size,1,none⟩=some (.slice none 0 0)/\wr.cell? ⟨w.heap.size,2,none⟩=some (.int .i64 0)/\wr.cell? ⟨w.heap.size,3,none⟩=some (.slice none 0 0)/\wr.cell? ⟨w.heap.size,4,none⟩=some (.int .i64 0)/\wr.cell? ⟨w.heap.size,5,none⟩=some (.slice none 0 0)/\wr.cell? ⟨w.heap.size,6,none⟩=some (.int .i64 0)/\wr.cell? ⟨w.heap.size,7,none⟩=some (.int .i64 0)/\∀o,wr.frozen? ⟨w.heap.size,o,none⟩=false:=by
 have h1:=h.res
 simp [World.cell?,World.frozen?,h1,cN]
theorem CM.at (h:CM w ns fl l sn sc g n c r T k wr) (hk:k<3):wr.cell? ⟨w.heap.size+2,k,none⟩=some (.int .i64 (aR k))/\(∃u,wr.cell? ⟨w.heap.size+1,1+k*2,none⟩=some u)/\∃u,wr.cell? ⟨w.heap.size+1,1+k*2+1,none⟩=some u:=by
 have h1:=h.box
 have h2:=h.sz
 obtain rfl|rfl|rfl:k=0\/k=1\/k=2:=af
 all_goals simp [World.cell?,h1,h2,aR]
theorem CM.good (h:CM w ns fl l sn sc g n c r T k wr) (hr:EW l):aR k=1\/dY l:=by
 cases k with
 |zero=>exact .inl rfl
 |succ k=>
  obtain⟨⟨es,h1,h2⟩,-⟩:=h.tr 0 af
  rcases h1 with ⟨-,h1⟩|⟨h1,-⟩
  ·rw [List.take_length]at h1
   subst h1
   exact .inr ⟨h2.2.2.2.1,hr.2.1,by have:=hr.2.2;omega⟩
  ·exact .inr h1
theorem CM.step {B:Nat} {w0:World} {so:Option Addr} {nn cc:Nat} {rt:Int} {t:Tr} {es:List aA} (h:CM w ns fl l sn sc g n c r T k wr) (hk:k<3) (hB:w.heap.size+2<=B) (OB:aP B w0 wr) (ht:∀w'',aP B w0 w''->bL w'' (.agg #[.slice so nn cc, .int .i64 rt]) t) (hm:nN l (aR k) l.length es) (hd:Made es t) :
  CM w ns fl l sn sc (upd g k so) (upd n k nn) (upd c k cc) (upd r k rt) (upd T k t) (k+1) ((wr.setCell ⟨w.heap.size+1,1+k*2,none⟩ (.slice so nn cc)).setCell ⟨w.heap.size+1,1+k*2+1,none⟩ (.int .i64 rt)):=by
 have hs:=h.size
 have hne:∀b,b≠w.heap.size+1->((wr.setCell ⟨w.heap.size+1,1+k*2,none⟩ (.slice so nn cc)).setCell ⟨w.heap.size+1,1+k*2+1,none⟩ (.int .i64 rt)).heap[b]?=wr.heap[b]?:=fun b hb=>
  (heap_setCell_other _ ⟨w.heap.size+1,_,none⟩ b _ hb).trans (heap_setCell_other _ ⟨w.heap.size+1,_,none⟩ b _ hb)
 have hkw:aP (w.heap.size+2) wr ((wr.setCell ⟨w.heap.size+1,1+k*2,none⟩ (.slice so nn cc)).setCell ⟨w.heap.size+1,1+k*2+1,none⟩ (.int .i64 rt)):=((aP.refl _ _).set (by show w.heap.size+1<_;omega) _).set (by show w.heap.size+1<_;omega) _
 refine⟨(h.below.setCell (by show w.heap.size<=w.heap.size+1;omega) _).setCell (by show w.heap.size<=w.heap.size+1;omega) _,by simp only [ay];exact hs,(hne _ af).trans h.res,?_,(hne _ af).trans h.sz,fun j hj=>?_⟩
 ·have h1:=heap_setCell_same (off:=1+k*2+1) (v:= .int .i64 rt) (heap_setCell_same (off:=1+k*2) (v:= .slice so nn cc) h.box)
  rw [h1]
  obtain rfl|rfl|rfl:k=0\/k=1\/k=2:=af
  all_goals simp [upd]
 ·by_cases hjk:j=k
  ·subst hjk
   rw [yw,yw,yw,yw,yw]
   exact⟨⟨es,hm,hd⟩,fun w'' hw=>ht w'' (OB.trans ((hkw.trans hw).mono hB))⟩
  ·rw [upd_ne _ _ hjk,upd_ne _ _ hjk,upd_ne _ _ hjk,upd_ne _ _ hjk,upd_ne _ _ hjk]
   exact⟨(h.tr j af).1,fun w'' hw=>(h.tr j af).2 w'' (hkw.trans hw)⟩
theorem CM.base (h:CM w ns fl l sn sc g n c r T 3 wr):r 0=(T 0).root/\r 1=(T 1).root/\r 2=(T 2).root/\∀w'',jM w'' (.slice sn ns.length sc) ns->aP (w.heap.size+2) wr w''->bN w'' (.agg #[.slice sn ns.length sc, .slice (g 0) (n 0) (c 0), .int .i64 (T 0).root, .slice (g 1) (n 1) (c 1), .int .i64 (T 1).root, .slice (g 2) (n 2) (c 2), .int .i64 (T 2).root, .int .i64 fl]) ⟨ns,T 0,T 1,T 2,fl⟩:=by
 have key:∀j,j<3->r j=(T j).root/\∀w'',aP (w.heap.size+2) wr w''->bu w'' (.slice (g j) (n j) (c j)) (T j).nodes:=fun j hj=>by
  have h1:=(h.tr j hj).2
  have hx:∀w'',aP (w.heap.size+2) wr w''->r j=(T j).root/\bu w'' (.slice (g j) (n j) (c j)) (T j).nodes:=fun w'' hw=>by
   obtain⟨nv,e,hn⟩:=h1 w'' hw
   simp only [Value.agg.injEq,Array.mk.injEq,List.cons.injEq,Value.int.injEq,and_true,true_and]at e
   exact⟨e.2,e.1▸hn⟩
  exact⟨(hx wr (aP.refl _ _)).1,fun w'' hw=>(hx w'' hw).2⟩
 exact⟨(key 0 aW).1,(key 1 aW).1,(key 2 aW).1,fun w'' hs hw=>⟨_,_,_,_,rfl,hs,(key 0 aW).2 w'' hw,(key 1 aW).2 w'' hw,(key 2 aW).2 w'' hw⟩⟩
end
def NV (ns:List ByteArray) (fl:Int) (l:List aA) (nv:Value) (w:World) (x:Ending) (w':World):Prop:=
 ah w w'/\((∃E,E≠0/\x = .returned (.tuple #[dH, .int .i64 E])/\qg ns fl l) \/
  ∃sn sc g0 l0 p0 g1 l1 p1 g2 l2 p2,∃T:Nat->Tr,nv = .slice sn ns.length sc/\x = .returned (.tuple #[.agg (aH sn ns.length sc g0 l0 p0 g1 l1 p1 g2 l2 p2 ⟨ns,T 0,T 1,T 2,fl⟩), .int .i64 0])/\wM ns fl l T /\
   ∀w'',jM w'' nv ns->aP (w.heap.size+2) w' w''->bN w'' (.agg (aH sn ns.length sc g0 l0 p0 g1 l1 p1 g2 l2 p2 ⟨ns,T 0,T 1,T 2,fl⟩)) ⟨ns,T 0,T 1,T 2,fl⟩)
end
section
set_option maxRecDepth 100000
set_option maxHeartbeats 8000000
theorem cF {B xb:Nat} {w w0:World} (h:Below B w w0) (hx:B<=xb) (v0 v1 v2 v3 v4 v5 v6 v7:Value):Below B w ((((((((w0.setCell ⟨xb,0,none⟩ v0).setCell ⟨xb,1,none⟩ v1).setCell ⟨xb,2,none⟩ v2).setCell ⟨xb,3,none⟩ v3).setCell ⟨xb,4,none⟩ v4).setCell ⟨xb,5,none⟩ v5).setCell ⟨xb,6,none⟩ v6).setCell ⟨xb,7,none⟩ v7):=
 (((((((h.setCell hx _).setCell hx _).setCell hx _).setCell hx _).setCell hx _).setCell hx _).setCell hx _).setCell hx _
theorem rT {M xb:Nat} {wx:World} (hx:xb<M) (v0 v1 v2 v3 v4 v5 v6 v7:Value):aP M wx ((((((((wx.setCell ⟨xb,0,none⟩ v0).setCell ⟨xb,1,none⟩ v1).setCell ⟨xb,2,none⟩ v2).setCell ⟨xb,3,none⟩ v3).setCell ⟨xb,4,none⟩ v4).setCell ⟨xb,5,none⟩ v5).setCell ⟨xb,6,none⟩ v6).setCell ⟨xb,7,none⟩ v7):=
 ((((((((aP.refl M wx).set hx _).set hx _).set hx _).set hx _).set hx _).set hx _).set hx _).set hx _
theorem O8 (k:Nat):aR k=1\/aR k=60\/aR k=3600:=by unfold aR;split;exact .inl rfl;split;exact .inr (.inl rfl);exact .inr (.inr rfl)
theorem Ma {nv lv:Value} {ns:List ByteArray} {fl:Int} {l:List aA} {w:World} (hn:jM w nv ns) (hl:eQ w lv l) (hr:EW l) (hst:∀s∈ns,s.size<=140737488351232) (hsz:bS w) :
  Calls Tryd.prog 112 #[nv, .int .i64 fl,lv] w (NV ns fl l nv w):=by
 obtain⟨sn,sc,rfl⟩:∃sn sc,nv = .slice sn ns.length sc:=by obtain⟨ao,cap,h,-⟩:=hn;exact⟨ao,cap,h⟩
 obtain⟨ao,cap,rfl⟩:=hl.isSlice
 have HN:=hdd hn
 have HL:=hdd hl
 have HR:=hdd hr
 have sy:=hdd (aM hst hsz)
 obtain⟨W0,hW0⟩:=bQ (((w.alloc (.cells cN 35)).alloc (.cells #[.slice sn ns.length sc, .slice none 0 0, .int .i64 0, .slice none 0 0, .int .i64 0, .slice none 0 0, .int .i64 0, .int .i64 fl] 35)).alloc (.cells #[.int .i64 1, .int .i64 60, .int .i64 3600] 3))
 have HI:=hdd (show CM w ns fl l sn sc (fun _=>none) (fun _=>0) (fun _=>0) (fun _=>0) (fun _=>⟨[],0⟩) 0 W0 by
  refine⟨by rw [hW0];exact ag,by rw [hW0];simp,?_,?_,?_,fun j hj=>absurd hj (Nat.not_lt_zero _)⟩
  ·rw [hW0,lJ _ _ _ (by simp <;> omega),lJ _ _ _ (by simp <;> omega)];exact aq _ _ rfl
  ·rw [hW0,lJ _ _ _ bq];exact aq _ _ bq
  ·rw [hW0];exact aq _ _ bq)
 clear hn hl hr hst hsz
 go_enter Tryd.func112,Tryd.ntmps112
 go_upto_region 3 with (fail)
 rw [<-hW0]
 clear hW0
 go_wp2_with fail
 go_loopg [24] 3 (fun gk i wr=>∃k:Nat,k<=3/\gk=3-k/\i = .int .i64 k/\Hid (∃g n c r T,CM w ns fl l sn sc g n c r T k wr))
 case atStart=>exact⟨0,af,rfl,rfl,hdd ⟨_,_,_,_,_,HI.out⟩⟩
 case round=>
  clear HI
  obtain⟨k,hk,rfl,rfl,HM⟩:=hrel
  obtain⟨wo,rfl⟩:=bQ (wr)
  obtain⟨g,n,c,r,T,hm⟩:=HM.out
  have HM:=hdd hm
  by_cases hlt:k<3
  ·obtain⟨hsk,-,-⟩:=hm.at hlt
   have IK:=hm.good HR.out
   have hsi:=O8 k
   obtain⟨S,hS⟩:=bw (aR k)
   rw [hS]at hsk IK hsi
   have HS:=hdd hS
   have KH:=hdd hsi
   have kS:=fun w'=>lQ (ab:=w.heap.size+2) (aY:=0) (n:=3) (cap:=3) (show (k:Int)=((k:Nat):Int) by rfl) hlt w'
   have hll:=HR.out.2.2
   have Cf:(k:Int)<3:=af
   clear hm hS hsi
   go_wp2_with fail
   go_loopg [11,31] l.length (fun g2 ov i wi=>∃(q:Nat) (es:List aA),q<=l.length/\g2=l.length-q/\i = .int .i64 q/\av wo.heap.size wi ov es/\Hid (nN l S q es)/\Hid (ah wo wi))
   case atStart=>exact⟨0,[],iN _,rfl,rfl,av.nil _ _,hdd (nN.start l S IK),hdd (aJ _ _)⟩
   case round=>
    obtain⟨q,es,hq,rfl,rfl,hown,HI,HB⟩:=hrel
    obtain⟨so,oc,rfl⟩:=hown.isSlice
    by_cases IJ:q<l.length
    ·obtain⟨_,_,hv,-,-,-,-,h5⟩:=HL.out
     injection hv with hv1 _ hv3
     subst hv1 hv3
     obtain⟨eb,bZ,lR,rW,nH⟩:=h5 af
     subst lR
     have aad:=HM.out.size
     have MZ:=HB.out.size
     have Tk:=Below.trans' HM.out.below HB.out HM.out.below.size
     obtain⟨y0,y1,y2,y3,y4,y5,y6⟩:=bR Tk rW nH IJ
     have Yf:=hdd (HI.out.keys KH.out HR.out IJ)
     have Rz:=hdd (fun hn=>HI.out.new KH.out IJ hn)
     have Ut:=hdd (fun j hj he=>HI.out.old KH.out HR.out IJ (j:=j) hj he)
     have HRE:=hdd (HI.out.FM KH.out HR.out)
     have hyr:=HR.out.2.1 _ (fO IJ)
     obtain⟨y,hy⟩:=bw (l[q])
     rw [hy]at y0 y1 y2 y3 y4 y5 y6 Yf Rz Ut hyr
     have hsp:0<S/\S<=3600:=by have:=KH.out;omega
     obtain⟨M,hM⟩:=bw (y.key%1048576)
     have KY:0<=M/\M<1048576:=af
     obtain⟨RR,Y0⟩:=bw (M%S)
     have hR0:0<=RR/\RR<S:=by rw [<-Y0];exact⟨Int.emod_nonneg _ af,Int.emod_lt_of_pos _ hsp.1⟩
     obtain⟨P,hP⟩:=bw (y.key-RR)
     have hbk:bucket S y=⟨P,y.is⟩:=by simp [bucket,hM,Y0,hP]
     rw [hbk]at Yf Rz Ut
     have m1:y.key.tmod 1048576=M:=by rw [xO hyr.1];exact hM
     have m2:M.tmod S=RR:=by rw [xO KY.1];exact Y0
     have m3:IntKind.i64.wrap M=M:=IntWalk.i64_in _ af
     have m4:IntKind.i64.wrap RR=RR:=IntWalk.i64_in _ af
     have m5:IntKind.i64.wrap (y.key-RR)=P:=by rw [hP];exact IntWalk.i64_in _ af
     have hs0:(S == 0)=false:=by simp;omega
     have aas:¬S=0:=af
     have aaY:=fun w'=>dD (ab:=eb) (aY:=bZ) (n:=l.length) (cap:=cap) (show (q:Int)=((q:Nat):Int) by rfl) IJ w'
     have GH:eb<wr.heap.size:=by have:=HM.out.below.size;omega
     clear hy hM Y0 hP hbk nH h5 hyr KY hR0
     go_upto_region 9 with (fail)
     obtain⟨W1,hW1⟩:=bQ (wr.alloc (.cells #[.int .i64 y.key, .int .i64 y.is.c, .int .i64 y.is.s, .int .i64 y.is.mi, .int .i64 y.is.ma, .int .i64 y.is.t, .int .i64 y.is.l] 96))
     have hb1:ah wr W1:=by rw [hW1];exact ag
     have k1:W1.heap[wr.heap.size]?=some (.cells #[.int .i64 y.key, .int .i64 y.is.c, .int .i64 y.is.s, .int .i64 y.is.mi, .int .i64 y.is.ma, .int .i64 y.is.t, .int .i64 y.is.l] 96):=by rw [hW1];exact aq _ _ rfl
     have hz1:W1.heap.size=wr.heap.size+1:=by rw [hW1];simp
     have Hz:=hdd (aM hb1 (aM k1 hz1))
     obtain⟨x0,x1,x2,x3,x4,x5,x6⟩:W1.cell? ⟨wr.heap.size,0,none⟩=some (.int .i64 y.key)/\W1.cell? ⟨wr.heap.size,1,none⟩=some (.int .i64 y.is.c)/\W1.cell? ⟨wr.heap.size,2,none⟩=some (.int .i64 y.is.s)/\W1.cell? ⟨wr.heap.size,3,none⟩=some (.int .i64 y.is.mi)/\W1.cell? ⟨wr.heap.size,4,none⟩=some (.int .i64 y.is.ma)/\W1.cell? ⟨wr.heap.size,5,none⟩=some (.int .i64 y.is.t)/\W1.cell? ⟨wr.heap.size,6,none⟩=some (.int .i64 y.is.l):=by simp [World.cell?,k1]
     have xf:∀o,W1.drew.frozen? ⟨wr.heap.size,o,none⟩=false:=by intro o;have PB:W1.drew.heap[wr.heap.size]?=_:=k1;simp [World.frozen?,PB]
     have x0d:W1.drew.cell? ⟨wr.heap.size,0,none⟩=some (.int .i64 y.key):=x0
     rw [<-hW1]
     clear hW1 hb1 k1 hz1 y0 y1 y2 y3 y4 y5 y6 aaY
     refine cV [(0,1),(1,0),(2,1),(3,0),(4,1),(5,1),(6,1),(7,1),(8,1),(9,3)] 9
      (fun W=>W.cell? ⟨wr.heap.size,0,none⟩=some (.int .i64 y.key)) cy cy x0d ?_
     (simp only [bF,List.filterMap_cons,List.filterMap_nil,List.getElem?_cons_zero,List.getElem?_cons_succ,Option.map_some])
     (repeat (first|refine jy ?_|refine jx ?_|refine jw ?_);(try simp only [Act.put,List.setIfInBounds_toArray,List.set_cons_zero,List.set_cons_succ]))
     refine fX ?_ (fun K hK=>?_)
     (focus (first|exact bh rfl _|exact dP rfl rfl rfl rfl))
     go_simp
     refine hK _ _ ?_
     clear hK K
     refine gZ ?_
     obtain⟨V2,hV2⟩:=bQ ((W1.setCell ⟨wr.heap.size,0,none⟩ (.int .i64 P)).drew)
     have kp:V2.heap[wr.heap.size]?=some (.cells #[.int .i64 P, .int .i64 y.is.c, .int .i64 y.is.s, .int .i64 y.is.mi, .int .i64 y.is.ma, .int .i64 y.is.t, .int .i64 y.is.l] 96):=by
      rw [hV2];exact heap_setCell_same Hz.out.2.1
     have hb2:ah wr V2:=by rw [hV2];exact(Hz.out.1.setCell aI _).drew
     have hz2:V2.heap.size=wr.heap.size+1:=by rw [hV2];show (W1.setCell _ _).heap.size=_;rw [ay];exact Hz.out.2.2
     have mv:=hdd hb2
     have Oh:=hdd (aM kp hz2)
     have hown2:av wo.heap.size V2 (.slice so es.length oc) es:=hown.below hb2 aI
     obtain⟨yb,hyb⟩:=bw (wr.heap.size)
     rw [hyb]at kp Oh
     obtain⟨z0,z1,z2,z3,z4,z5,z6⟩:V2.cell? ⟨yb,0,none⟩=some (.int .i64 P)/\V2.cell? ⟨yb,1,none⟩=some (.int .i64 y.is.c)/\V2.cell? ⟨yb,2,none⟩=some (.int .i64 y.is.s)/\V2.cell? ⟨yb,3,none⟩=some (.int .i64 y.is.mi)/\V2.cell? ⟨yb,4,none⟩=some (.int .i64 y.is.ma)/\V2.cell? ⟨yb,5,none⟩=some (.int .i64 y.is.t)/\V2.cell? ⟨yb,6,none⟩=some (.int .i64 y.is.l):=by simp [World.cell?,kp]
     rw [<-hV2,hyb]
     clear hV2 hb2 kp hz2 x0 x1 x2 x3 x4 x5 x6 xf x0d m1 m2 m3 m4 m5 hs0 aas Hz
     have hel:=HRE.out.2
     have hes:es.length<=1000000:=af
     obtain h0|⟨j,hj⟩:es.length=0\/∃j,es.length=j+1:=by cases h:es.length;exact .inl rfl;exact .inr ⟨_,rfl⟩
     ·obtain rfl:=xN h0
      have Fg:=hdd (show nN l S (q+1) [⟨P,y.is⟩]from Rz.out (fun e he=>by cases he))
      have n1:IntKind.i64.wrap (0-1) = -1:=aW
      have hcz:(([]:List aA).length:Nat)=0:=rfl
      rw [hcz]at hown2 ⊢
      clear h0 hcz Ut Rz Yf hel
      go_upto_region 11 with (fail)
      refine cV [(0,1),(1,1),(2,1),(3,1),(4,1),(5,1),(6,1),(7,0),(8,1),(9,0),(10,1),(11,3)] 11
       (fun _=>True) cy cy trivial ?_
      (simp only [bF,List.filterMap_cons,List.filterMap_nil,List.getElem?_cons_zero,List.getElem?_cons_succ,Option.map_some])
      (repeat (first|refine jy ?_|refine jx ?_|refine jw ?_);(try simp only [Act.put,List.setIfInBounds_toArray,List.set_cons_zero,List.set_cons_succ]))
      refine fX ?_ (fun K hK=>?_)
      (focus (first|exact bh rfl _|exact dP rfl rfl rfl rfl))
      go_simp
      refine hK _ _ ?_
      clear hK K
      refine gZ ?_
      have Bf:ah wo V2:=(Below.trans' HB.out mv.out MZ);have abq:=Bf.size
      go_wp2_with ((at_builtin;refine fg rfl (.tmp 78) (.tmp 80) rfl wo.heap.size _ [] rfl (by repeat (first|assumption|with_reducible refine av.alloc ?_ _|with_reducible refine av.drewN ?_ _|with_reducible refine av.drew ?_)) ⟨_,0,none⟩ ⟨P,y.is⟩ rfl (fun j u h=>mR h) bq (by first|omega|(simp;done)|(simp;omega)|(simp [aL];done)|(simp [aL];omega)) ?_;intro v3 w3 uq hg3;have hb3:=hg3 wo.heap.size wo ag aI))
      go_roundg (l.length-(q+1))
      case measure=>omega
      case rel=>exact⟨q+1,_,IJ,rfl,by go_num,uq,Fg,hdd hb3⟩
     ·have n1:IntKind.i64.wrap ((es.length:Int)-1)=(j:Int):=by rw [hj];rw [show (((j+1:Nat):Int)-1)=(j:Int) by omega];exact IntWalk.i64_in _ af
      have hj0:(0:Int)<=(j:Int):=af
      have hjl:j<es.length:=af
      obtain⟨hl,⟨h0,h0'⟩|⟨og,cap',cur,hv,hBg,hog,-⟩⟩:=id hown2.row
      ·omega
      injection hv with hv1 _ hv3
      subst hv1 hv3
      have JY:og<V2.heap.size:=(hown2.lt og rfl).2
      obtain⟨_,_,hv,-,-,-,-,Za⟩:=hown2.at af
      injection hv with hv1 _ hv3
      subst hv3
      obtain⟨eb2,Ni,lR,Te,JZ⟩:=Za af
      rw [<-hv1]at lR
      obtain⟨rfl,rfl⟩:og=eb2/\0=Ni:=by injection lR with lR;injection lR with a1 a2;exact⟨a1,a2⟩
      obtain⟨o0,o1,o2,o3,o4,o5,o6⟩:=bR (aJ _ _) Te JZ hjl
      simp only [iM]at o0 o1 o2 o3 o4 o5 o6
      have GC:=fun w'=>dD (ab:=og) (aY:=0) (n:=es.length) (cap:=oc) (show (j:Int)=((j:Nat):Int) by rfl) hjl w'
      simp only [iM]at GC
      have hky:=Yf.out _ (fO hjl)
      have Qu:=hdd (Ut.out j hj)
      have Zt:=hdd (show es[j].key<P->nN l S (q+1) (es++[⟨P,y.is⟩])from fun hlt=>Rz.out fun e he=>by
       obtain⟨t,ht,rfl⟩:=kW he
       by_cases Wd:t=j
       ·subst Wd;exact hlt
       ·have h2:=pz.1 HRE.out.1 t j ht hjl af
        show _<P;omega)
      have hky:es[j].key<=P:=hky
      have E0:=hdd (fun(wz:World) (Y:au) (ho:av wo.heap.size wz (.slice (some ⟨og,0,none⟩) es.length oc) es)=>ho.set (y:=Y) hjl)
      obtain⟨zz,hzz⟩:=bw (es[j])
      rw [hzz]at o0 o1 o2 o3 o4 o5 o6 hky Qu Zt E0
      have JU:yb<V2.heap.size:=by rw [Oh.out.2];omega
      clear JZ Za hzz lR hv1 hl Ut Rz Yf hel hj
      by_cases hkk:zz.key=P
      ·have e3:(zz.key == P)=true:=by simp [hkk]
       obtain⟨hpg,IL,hcy,eD,hnone⟩:=Qu.out hkk
       have pC:=hdd (aM hpg (aM IL (aM hcy (aM eD hnone))))
       go_upto_region 11 with (fail)
       refine cV [(0,1),(1,1),(2,1),(3,1),(4,1),(5,1),(6,1),(7,0),(8,1),(9,0),(10,1),(11,3)] 11
        (fun W=>W.cell? ⟨yb,0,none⟩=some (.int .i64 P)/\W.cell? ⟨og,j*7,none⟩=some (.int .i64 zz.key)) cy cy ⟨z0,o0⟩ ?_
       (simp only [bF,List.filterMap_cons,List.filterMap_nil,List.getElem?_cons_zero,List.getElem?_cons_succ,Option.map_some])
       (repeat (first|refine jy ?_|refine jx ?_|refine jw ?_);(try simp only [Act.put,List.setIfInBounds_toArray,List.set_cons_zero,List.set_cons_succ]))
       refine fX ?_ (fun K hK=>?_)
       (focus (first|exact bh rfl _|exact dP rfl rfl rfl rfl))
       go_simp
       refine hK _ _ ?_
       clear hK K
       refine gZ ?_
       obtain⟨V3,YY⟩:=bQ (V2.drew)
       have hb3:ah V2 V3:=by rw [YY];exact(aJ _ _).drew
       have hz3:V3.heap.size=V2.heap.size:=by rw [YY];rfl
       rw [<-YY]
       obtain⟨u,hu⟩:=bw (zz.is)
       rw [hu]at o1 o2 o3 o4 o5 o6 pC
       obtain⟨J,E,GM⟩:∃J E,bG u y.is=(J,E):=⟨_,_,rfl⟩
       have CC:=hdd GM
       have OV:=hdd fun w'=>(by have:=ja u y.is w';rw [GM]at this;exact this :
        Calls Tryd.prog 18 #[.agg #[.int .i64 u.c, .int .i64 u.s, .int .i64 u.mi, .int .i64 u.ma, .int .i64 u.t, .int .i64 u.l], .agg #[.int .i64 y.is.c, .int .i64 y.is.s, .int .i64 y.is.mi, .int .i64 y.is.ma, .int .i64 y.is.t, .int .i64 y.is.l]] w' fun e' w5=>e' = .returned (.tuple #[.agg #[.int .i64 J.c, .int .i64 J.s, .int .i64 J.mi, .int .i64 J.ma, .int .i64 J.t, .int .i64 J.l], .int .i64 E])/\ah w' w5)
       have Vl:=hdd fun W (hb:ah V3 W)=>(by
        have gc:∀b o,b<V2.heap.size->W.cell? ⟨b,o,none⟩=V2.cell? ⟨b,o,none⟩:=fun b o h=>(hb.cell (p:=⟨b,o,none⟩) (by show b<_;omega)).trans (hb3.cell (p:=⟨b,o,none⟩) h)
        rw [gc _ _ JU,gc _ _ JU,gc _ _ JU,gc _ _ JU,gc _ _ JU,gc _ _ JU,gc _ _ JY,gc _ _ JY,gc _ _ JY,gc _ _ JY,gc _ _ JY,gc _ _ JY]
        exact⟨z1,z2,z3,z4,z5,z6,o1,o2,o3,o4,o5,o6⟩:W.cell? ⟨yb,1,none⟩=some (.int .i64 y.is.c)/\W.cell? ⟨yb,2,none⟩=some (.int .i64 y.is.s)/\W.cell? ⟨yb,3,none⟩=some (.int .i64 y.is.mi)/\W.cell? ⟨yb,4,none⟩=some (.int .i64 y.is.ma)/\W.cell? ⟨yb,5,none⟩=some (.int .i64 y.is.t)/\W.cell? ⟨yb,6,none⟩=some (.int .i64 y.is.l)/\W.cell? ⟨og,j*7+1,none⟩=some (.int .i64 u.c)/\W.cell? ⟨og,j*7+2,none⟩=some (.int .i64 u.s)/\W.cell? ⟨og,j*7+3,none⟩=some (.int .i64 u.mi)/\W.cell? ⟨og,j*7+4,none⟩=some (.int .i64 u.ma)/\W.cell? ⟨og,j*7+5,none⟩=some (.int .i64 u.t)/\W.cell? ⟨og,j*7+6,none⟩=some (.int .i64 u.l))
       have Vn:=hdd (aM (hown2.below hb3 aI) (Below.trans' (Below.trans' HB.out mv.out MZ) hb3 (by have:=mv.out.size;omega)))
       have afM:og<V3.heap.size:=af
       have HZ3:=hdd hz3
       clear hz3 YY hb3 GM hu hpg IL hcy eD hnone z0 z1 z2 z3 z4 z5 z6 o0 o1 o2 o3 o4 o5 o6 n1 hj0 e3 Qu Zt hown hown2 hkk
       go_upto_region 12 with (fail)
       go_cut [15,16] (fun p c wx=>∃g2:Nat,p = .pointer (some ⟨g2,0,none⟩)/\c = .int .i64 E/\Hid (wx.heap[g2]?=some (.cells #[.int .i64 J.c, .int .i64 J.s, .int .i64 J.mi, .int .i64 J.ma, .int .i64 J.t, .int .i64 J.l] 42)/\V3.heap.size<=g2/\ah V3 wx))
       case first=>
        refine fJ (mF.of [(0,1),(1,1),(2,1),(3,1),(4,0),(5,1),(6,0)] (.fork 7 11 (mF.of [(8,1),(9,1),(10,1)] (mF.of [(11,2),(12,3),(13,1)] .nil)) (mF.of [(7,2),(8,1),(9,1),(10,1),(12,3),(13,1)] .nil))) 12
         (fun W=>W.cell? ⟨yb,1,none⟩=some (.int .i64 y.is.c)/\W.cell? ⟨yb,2,none⟩=some (.int .i64 y.is.s)/\W.cell? ⟨yb,3,none⟩=some (.int .i64 y.is.mi)/\W.cell? ⟨yb,4,none⟩=some (.int .i64 y.is.ma)/\W.cell? ⟨yb,5,none⟩=some (.int .i64 y.is.t)/\W.cell? ⟨yb,6,none⟩=some (.int .i64 y.is.l)/\W.cell? ⟨og,j*7+1,none⟩=some (.int .i64 u.c)/\W.cell? ⟨og,j*7+2,none⟩=some (.int .i64 u.s)/\W.cell? ⟨og,j*7+3,none⟩=some (.int .i64 u.mi)/\W.cell? ⟨og,j*7+4,none⟩=some (.int .i64 u.ma)/\W.cell? ⟨og,j*7+5,none⟩=some (.int .i64 u.t)/\W.cell? ⟨og,j*7+6,none⟩=some (.int .i64 u.l)) cy cy (Vl.out _ (aJ _ _).drew) ?_
        simp only [mF.of]
        have Yw:ah V3 V3.drew:=(aJ _ _).drew
        (repeat first|refine bP ?_|refine bO ?_)
        refine iz rfl rfl rfl rfl (fun K hK=>?_) (fun K hK=>?_)
        ·skip
         go_simp
         (with_reducible refine(OV.out _).mono ?_)
         rintro e w1 ⟨rfl,Rf⟩
         go_simp
         have QG:ah V3 w1:=Below.trans' Yw Rf Yw.size
         try (have KT:=(Rf.block tb (by have:=(eW.1 KT).1;omega)).trans KT)
         refine hK _ _ (Vl.out _ QG) ?_
         clear hK K
         (repeat first|refine bP ?_|refine bO ?_)
         refine bz rfl rfl (fun K hK=>?_)
         go_simp
         obtain⟨W2,hW⟩:=bQ (w1.alloc (.cells #[.int .i64 0, .int .i64 0, .int .i64 0, .int .i64 0, .int .i64 0, .int .i64 0] 42))
         have ku:ah w1 W2:=by rw [hW];exact ag
         have Yx:ah V3 W2:=Below.trans' QG ku (QG.size)
         have KT:W2.heap[w1.heap.size]?=some (.cells #[.int .i64 0, .int .i64 0, .int .i64 0, .int .i64 0, .int .i64 0, .int .i64 0] 42):=by rw [hW];exact aq _ _ rfl
         rw [<-hW]
         obtain⟨tb,DZ⟩:=bw (w1.heap.size)
         have hlo:V3.heap.size<=tb:=by rw [<-DZ];exact QG.size
         rw [DZ]at KT ⊢
         refine hK _ _ (Vl.out _ Yx) ?_
         clear hK K
         clear hW ku
         (repeat first|refine bP ?_|refine bO ?_)
         obtain⟨k0,k1,k2,k3,k4,k5,kf⟩:W2.cell? ⟨tb,0,none⟩=some (.int .i64 0)/\W2.cell? ⟨tb,1,none⟩=some (.int .i64 0)/\W2.cell? ⟨tb,2,none⟩=some (.int .i64 0)/\W2.cell? ⟨tb,3,none⟩=some (.int .i64 0)/\W2.cell? ⟨tb,4,none⟩=some (.int .i64 0)/\W2.cell? ⟨tb,5,none⟩=some (.int .i64 0)/\∀o,W2.frozen? ⟨tb,o,none⟩=false:=by simp [World.cell?,World.frozen?,KT]
         have HKT:=hdd KT
         clear KT
         refine dK rfl rfl (fun K hK=>?_)
         go_simp
         refine hK _ _ ?_
         clear hK K
         (repeat first|refine bP ?_|refine bO ?_)
         refine eY ?_
         go_wp2_with fail
         go_meet
         exact⟨tb,rfl,rfl,hdd ⟨jO HKT.out,hlo,((((((Yx.setCell (p:=⟨tb,0,none⟩) hlo (.int .i64 J.c)).setCell (p:=⟨tb,1,none⟩) hlo (.int .i64 J.s)).setCell (p:=⟨tb,2,none⟩) hlo (.int .i64 J.mi)).setCell (p:=⟨tb,3,none⟩) hlo (.int .i64 J.ma)).setCell (p:=⟨tb,4,none⟩) hlo (.int .i64 J.t)).setCell (p:=⟨tb,5,none⟩) hlo (.int .i64 J.l))⟩⟩
        ·skip
         go_simp
         obtain⟨W1,hW⟩:=bQ ((V3.alloc (.cells #[.int .i64 0, .int .i64 0, .int .i64 0, .int .i64 0, .int .i64 0, .int .i64 0] 42)).drew)
         have ku:ah V3 W1:=by rw [hW];exact ag
         have UH:ah V3 W1:=Below.trans' (aJ _ _) ku aI
         have KT:W1.heap[V3.heap.size]?=some (.cells #[.int .i64 0, .int .i64 0, .int .i64 0, .int .i64 0, .int .i64 0, .int .i64 0] 42):=by rw [hW];exact aq _ _ rfl
         rw [<-hW]
         obtain⟨tb,DZ⟩:=bw (V3.heap.size)
         have hlo:V3.heap.size<=tb:=by rw [<-DZ];exact kK _
         rw [DZ]at KT ⊢
         refine hK _ _ (Vl.out _ UH) ?_
         clear hK K
         clear hW ku
         (repeat first|refine bP ?_|refine bO ?_)
         refine bz rfl rfl (fun K hK=>?_)
         go_simp
         (with_reducible refine(OV.out _).mono ?_)
         rintro e w2 ⟨rfl,Re⟩
         go_simp
         have Yv:ah V3 w2:=Below.trans' UH Re UH.size
         try (have KT:=(Re.block tb (by have:=(eW.1 KT).1;omega)).trans KT)
         refine hK _ _ (Vl.out _ Yv) ?_
         clear hK K
         (repeat first|refine bP ?_|refine bO ?_)
         obtain⟨k0,k1,k2,k3,k4,k5,kf⟩:w2.cell? ⟨tb,0,none⟩=some (.int .i64 0)/\w2.cell? ⟨tb,1,none⟩=some (.int .i64 0)/\w2.cell? ⟨tb,2,none⟩=some (.int .i64 0)/\w2.cell? ⟨tb,3,none⟩=some (.int .i64 0)/\w2.cell? ⟨tb,4,none⟩=some (.int .i64 0)/\w2.cell? ⟨tb,5,none⟩=some (.int .i64 0)/\∀o,w2.frozen? ⟨tb,o,none⟩=false:=by simp [World.cell?,World.frozen?,KT]
         have HKT:=hdd KT
         clear KT
         refine dK rfl rfl (fun K hK=>?_)
         go_simp
         refine hK _ _ ?_
         clear hK K
         (repeat first|refine bP ?_|refine bO ?_)
         refine eY ?_
         go_wp2_with fail
         go_meet
         exact⟨tb,rfl,rfl,hdd ⟨jO HKT.out,hlo,((((((Yv.setCell (p:=⟨tb,0,none⟩) hlo (.int .i64 J.c)).setCell (p:=⟨tb,1,none⟩) hlo (.int .i64 J.s)).setCell (p:=⟨tb,2,none⟩) hlo (.int .i64 J.mi)).setCell (p:=⟨tb,3,none⟩) hlo (.int .i64 J.ma)).setCell (p:=⟨tb,4,none⟩) hlo (.int .i64 J.t)).setCell (p:=⟨tb,5,none⟩) hlo (.int .i64 J.l))⟩⟩
       case rest=>
        obtain⟨g2,rfl,rfl,HG2⟩:=hcut
        have uE:av wo.heap.size wc (.slice (some ⟨og,0,none⟩) es.length oc) es:=Vn.out.1.below HG2.out.2.2 aI
        have Xd:=Below.trans' Vn.out.2 HG2.out.2.2 Vn.out.2.size
        have hzc:=HG2.out.2.2.size
        obtain⟨j0,j1,j2,j3,j4,j5,-⟩:=cG HG2.out.1
        obtain⟨-,-,-,-,-,-,o1,o2,o3,o4,o5,o6⟩:=Vl.out _ HG2.out.2.2
        have ye:∀o,wc.frozen? ⟨og,o,none⟩=false:=World.ownsRow.frozenAt uE.row
        have hgg:g2≠og:=by have:=HG2.out.2.1;omega
        have agi:¬og=g2:=fun h=>hgg h.symm
        have Fh:=hdd pC.out
        by_cases hcc:u.c+y.is.c<=1073741824
        ·obtain⟨rfl,rfl⟩:=Prod.mk.inj (CC.out.symm.trans (o8 pC.out.2.1 pC.out.2.2.1 hcc).1)
         have Vr:=hdd (pC.out.2.2.2.1 hcc)
         have Cz:=E0.out wc (u.join y.is) uE
         generalize u.join y.is=J at *
         have Cz:=hdd Cz
         clear hcc CC OV pC Fh E0
         go_wp2_with fail
         go_roundg (l.length-(q+1))
         case measure=>omega
         case rel=>exact⟨q+1,_,IJ,rfl,by go_num,Cz.out,Vr,hdd (by
          have hlo:wo.heap.size<=og:=(uE.lt og rfl).1
          exact(((((Xd.setCell (p:=⟨og,_,none⟩) hlo _).setCell (p:=⟨og,_,none⟩) hlo _).setCell (p:=⟨og,_,none⟩) hlo _).setCell (p:=⟨og,_,none⟩) hlo _).setCell (p:=⟨og,_,none⟩) hlo _).setCell (p:=⟨og,_,none⟩) hlo _)⟩
        ·obtain⟨rfl,rfl⟩:=Prod.mk.inj (CC.out.symm.trans ((iP pC.out.2.1 pC.out.2.2.1).trans (ai hcc)))
         have tP:=hdd (show qg ns fl l from .inl ⟨k,hlt,pC.out.1,by rw [HS.out];exact pC.out.2.2.2.2 hcc⟩)
         have Zu:=hdd (HM.out.later Xd)
         obtain⟨r0,r1,r2,r3,r4,r5,r6,r7,rf⟩:=Zu.out.zero
         clear hcc CC OV pC Fh E0
         go_wp2_with fail
         exact bodyPost_ret (v:= .tuple #[dH, .int .i64 7]) (by simp [results,Tryd.results112,go_sem, *]) rfl ⟨cF Zu.out.below aI _ _ _ _ _ _ _ _, .inl ⟨7,aW,rfl,tP.out⟩⟩
      ·have e3:(zz.key == P)=false:=by simpa using hkk
       have Fg:=hdd (Zt.out af)
       clear Qu Zt E0 hkk
       go_upto_region 11 with (fail)
       refine cV [(0,1),(1,1),(2,1),(3,1),(4,1),(5,1),(6,1),(7,0),(8,1),(9,0),(10,1),(11,3)] 11
        (fun W=>W.cell? ⟨yb,0,none⟩=some (.int .i64 P)/\W.cell? ⟨og,j*7,none⟩=some (.int .i64 zz.key)) cy cy ⟨z0,o0⟩ ?_
       (simp only [bF,List.filterMap_cons,List.filterMap_nil,List.getElem?_cons_zero,List.getElem?_cons_succ,Option.map_some])
       (repeat (first|refine jy ?_|refine jx ?_|refine jw ?_);(try simp only [Act.put,List.setIfInBounds_toArray,List.set_cons_zero,List.set_cons_succ]))
       refine fX ?_ (fun K hK=>?_)
       (focus (first|exact bh rfl _|exact dP rfl rfl rfl rfl))
       go_simp
       refine hK _ _ ?_
       clear hK K
       refine gZ ?_
       have Bf:ah wo V2:=(Below.trans' HB.out mv.out MZ);have abq:=Bf.size
       go_wp2_with ((at_builtin;refine fg rfl (.tmp 78) (.tmp 80) rfl wo.heap.size _ es rfl (by repeat (first|assumption|with_reducible refine av.alloc ?_ _|with_reducible refine av.drewN ?_ _|with_reducible refine av.drew ?_)) ⟨_,0,none⟩ ⟨P,y.is⟩ rfl (fun j u h=>mR h) hes (by first|omega|(simp;done)|(simp;omega)|(simp [aL];done)|(simp [aL];omega)) ?_;intro v3 w3 uq hg3;have hb3:=hg3 wo.heap.size wo ag aI))
       go_roundg (l.length-(q+1))
       case measure=>omega
       case rel=>exact⟨q+1,_,IJ,rfl,by go_num,uq,Fg,hdd hb3⟩
    ·have hqe:q=l.length:=af
     subst hqe
     have MZ:=HB.out.size
     have aad:=HM.out.size
     have XC:=HI.out
     have hre:=XC.FM KH.out HR.out
     have N9:=hdd (mM (hown.at af))
     have hok0:=hdd (aM HB.out XC)
     clear hown HL kS
     go_upto_region 19 with (go_at_call 107;(with_reducible refine N9.out.mono ?_);rintro e w5 ⟨cx,ot,tn,tc,rt,E2,rfl,hform⟩;have Vs:=hdd hform;clear hform)
     obtain⟨V5,Xi⟩:=bQ (w5.alloc (.cells #[.slice ot tn tc, .int .i64 rt] 32))
     have fy:ah w5 V5:=by rw [Xi];exact ag
     have k5:V5.heap[w5.heap.size]?=some (.cells #[.slice ot tn tc, .int .i64 rt] 32):=by rw [Xi];exact aq _ _ rfl
     have kQ:V5.heap.size=w5.heap.size+1:=by rw [Xi];simp
     have Eb:ah wo V5:=Below.trans' (Below.trans' HB.out cx MZ) fy (by have:=cx.size;omega)
     have Vo:=hdd (HM.out.later Eb)
     have Fh:=hdd (show aP (wr.heap.size+1) w5 V5 from aP.of fy aI)
     obtain⟨t0,t1⟩:V5.cell? ⟨w5.heap.size,0,none⟩=some (.slice ot tn tc)/\V5.cell? ⟨w5.heap.size,1,none⟩=some (.int .i64 rt):=by simp [World.cell?,k5]
     obtain⟨r0,r1,r2,r3,r4,r5,r6,r7,rf⟩:=Vo.out.zero
     rw [<-Xi]
     obtain⟨qb,Oy⟩:=bw (w5.heap.size)
     have XW:=hdd cx
     rw [Oy]at t0 t1 ⊢
     have hqn:qb≠w.heap.size+1:=by have:=cx.size;omega
     have afE:¬w.heap.size+1=qb:=af
     clear Xi fy k5 kQ Eb cx Oy N9
     by_cases hE1:E2=1
     ·have tP:=hdd (show qg ns fl l by
       rcases Vs.out with ⟨h1,-,-,-,-,h2⟩|⟨h1,-⟩
       ·exact .inr (.inl ⟨k,es,hlt,by rw [HS.out];exact XC,by rcases h2 with h2|h2;exact .inl (h2▸h1);exact .inr h2.2⟩)
       ·omega)
      subst hE1
      clear Vs
      go_wp2_with fail
      exact bodyPost_ret (v:= .tuple #[dH, .int .i64 1]) (by simp [results,Tryd.results112,go_sem, *]) rfl ⟨cF Vo.out.below aI _ _ _ _ _ _ _ _, .inl ⟨1,aW,rfl,tP.out⟩⟩
     ·by_cases Y8:E2=0
      ·subst Y8
       obtain⟨t,ht,WE⟩:∃t,(∀w'',aP (wr.heap.size+1) w5 w''->bL w'' (.agg #[.slice ot tn tc, .int .i64 rt]) t)/\Made es t:=by
        rcases Vs.out with ⟨h1,-⟩|⟨-,-,t,h2,h3⟩
        ·exact absurd rfl h1
        ·exact⟨t,h2,h3⟩
       have HST:=hdd (Vo.out.step hlt (B:=wr.heap.size+1) af Fh.out ht (by rw [HS.out];exact XC) WE)
       obtain⟨-,⟨u1,c1⟩,⟨u2,c2⟩⟩:=Vo.out.at hlt
       have cf:=Vo.out.cells.2.2.2.2.2.2.2.2
       have hkw:IntKind.i64.wrap ((k:Int)+1)=(k:Int)+1:=IntWalk.i64_in _ af
       clear Vs ht WE r0 r1 r2 r3 r4 r5 r6 r7 rf hE1
       go_wp2_with fail
       go_roundg (3-(k+1))
       case measure=>omega
       case rel=>exact⟨k+1,af,rfl,by go_num,hdd ⟨_,_,_,_,_,HST.out⟩⟩
      ·have tP:=hdd (show qg ns fl l by
        rcases Vs.out with ⟨h1,-,-,-,-,h2⟩|⟨h1,-⟩
        ·exact .inr (.inl ⟨k,es,hlt,by rw [HS.out];exact XC,by rcases h2 with h2|h2;exact .inl (h2▸h1);exact .inr h2.2⟩)
        ·omega)
       have e1:(E2 == 1)=false:=by simpa using hE1
       have e0:(E2 != 0)=true:=by simpa using Y8
       clear Vs
       go_wp2_with fail
       exact bodyPost_ret (v:= .tuple #[dH, .int .i64 7]) (by simp [results,Tryd.results112,go_sem, *]) rfl ⟨cF Vo.out.below aI _ _ _ _ _ _ _ _, .inl ⟨7,aW,rfl,tP.out⟩⟩
  ·obtain rfl:k=3:=af
   obtain⟨q0,q1,q2,hbase⟩:=hm.base
   obtain⟨b0,b1,b2,b3,b4,b5,b6,b7,bf⟩:=hm.cells
   rw [q0]at b2
   rw [q1]at b4
   rw [q2]at b6
   have UE:=hdd hbase
   have HST:=hdd (fun W (hb:ah w W)=>HN.out.below hb aI)
   have iB:=hdd (fG (hbase wo (HN.out.below hm.below aI) (aP.refl _ _)) sy.out.1 (sy.out.2.below hm.below))
   clear hm hbase q0 q1 q2
   by_cases qz:aQ ⟨ns,T 0,T 1,T 2,fl⟩=true
   ·rw [show kF ⟨ns,T 0,T 1,T 2,fl⟩=0 by unfold kF;rw [ar qz]]at iB
    have pC:=hdd (show wM ns fl l T from ⟨qz,fun k hk=>(HM.out.tr k hk).1⟩)
    clear qz
    go_upto_region 27 with (go_at_call 31;(with_reducible refine iB.out.mono ?_);rintro e w6 ⟨rfl,jY⟩)
    have Ux:=hdd (HM.out.later jY)
    have Yi:=hdd (aP.of (M:=w.heap.size+2) jY aI)
    obtain⟨r0,r1,r2,r3,r4,r5,r6,r7,rf⟩:=Ux.out.zero
    clear b0 b1 b2 b3 b4 b5 b6 b7 bf jY
    obtain⟨q0,q1,q2,-⟩:=Ux.out.base
    obtain⟨b0,b1,b2,b3,b4,b5,b6,b7,bf⟩:=Ux.out.cells
    rw [q0]at b2
    rw [q1]at b4
    rw [q2]at b6
    have hne:w.heap.size≠w.heap.size+1:=af
    have afR:¬w.heap.size+1=w.heap.size:=af
    clear q0 q1 q2
    go_wp2_with fail
    exact bodyPost_ret (v:= .tuple #[.agg (aH sn ns.length sc (g 0) (n 0) (c 0) (g 1) (n 1) (c 1) (g 2) (n 2) (c 2) ⟨ns,T 0,T 1,T 2,fl⟩), .int .i64 0]) (by simp [results,Tryd.results112,go_sem, *]) rfl ⟨cF Ux.out.below aI _ _ _ _ _ _ _ _, .inr ⟨sn,sc,_,_,_,_,_,_,_,_,_,T,rfl,rfl,pC.out,fun w'' hs hw=>UE.out w'' hs (Yi.out.trans ((rT af _ _ _ _ _ _ _ _).trans hw))⟩⟩
   ·rw [show kF ⟨ns,T 0,T 1,T 2,fl⟩=7 by unfold kF;rw [ai qz]]at iB
    have tP:=hdd (show qg ns fl l from .inr (.inr ⟨T,fun k hk=>(HM.out.tr k hk).1,by simpa using qz⟩))
    clear qz
    go_upto_region 26 with (go_at_call 31;(with_reducible refine iB.out.mono ?_);rintro e w6 ⟨rfl,jY⟩)
    have Ux:=hdd (HM.out.later jY)
    obtain⟨r0,r1,r2,r3,r4,r5,r6,r7,rf⟩:=Ux.out.zero
    clear b0 b1 b2 b3 b4 b5 b6 b7 bf jY
    go_wp2_with fail
    exact bodyPost_ret (v:= .tuple #[dH, .int .i64 7]) (by simp [results,Tryd.results112,go_sem, *]) rfl ⟨cF Ux.out.below aI _ _ _ _ _ _ _ _, .inl ⟨7,aW,rfl,tP.out⟩⟩
end
end Go.Proofs.YtmljjfhgciaceaaDoor
namespace Go.Proofs.YtmljjfhgciaceaaDoor
section
variable {fl:Int} {ns:List ByteArray} {l:List aA}
theorem Fit.aF (h:Fit ns fl l):∀e∈l,zX e:=fun e he=>by
 obtain⟨h1,h2⟩:=cj (h.good.1 e he).2 (h.good.1 e he).1
 obtain⟨k1,k2⟩:=h.good.2.1 e he
 obtain⟨-,-,ht⟩:=h.ok e he
 have hs:=qX h1 h2
 obtain⟨q0,q1,q2,q3,q4,q5,q6,q7,q8,-⟩:=h1
 exact⟨k1,k2,q0,af,ht,af,af,af,af⟩
theorem uw {s:ByteArray} (h:dG s=true):s.size<=10:=by
 simp [dG]at h
 omega
theorem Cq (ns:List ByteArray) (fl:Int) (l:List aA):aO (eN ns fl l):=by
 have h:=xw ⟨ns,default,default,default,fl⟩ l
 rw [Bo]at h
 exact h
theorem Ep (ns:List ByteArray) (fl:Int) (l:List aA):aO (eN ns fl l++j6 (eN ns fl l)):=(Cq ns fl l).app (FI _)
theorem Fit.short (h:Fit ns fl l) (hl:l.length<=500):(eN ns fl l++j6 (eN ns fl l)).length<=100000:=by
 have h1:=uN (last:=0) h.good (Int.le_refl 0)
 have h2:=rR (ns:=ns) fun s hs=>uw (h.may s hs)
 have h3:=h.n16
 have h4:=cd (n:=ns.length) af
 have h5:=cd (n:=fl.toNat) (by have:=h.f0;omega)
 have h6:=cd (n:=l.length) af
 rw [eP,CX]
 unfold eN
 simp only [eP,fR,List.length_nil]
 omega
theorem Fit.dec (h:Fit ns fl l) (hl:l.length<=500) {bs:List Int} (hbs:bs=eN ns fl l++j6 (eN ns fl l)) :
  sj bs=0/\(cU (br bs)).2=ns/\(cU (br bs)).1.num.2=fl/\(fu (br bs)).2=l:=
 Nt h.n16 (fun s hs=>uw (h.may s hs)) h.f0.1 (by have:=h.f0;omega) af h.aF h.FM hbs (by have:=h.short hl;rw [hbs];omega)
end
end Go.Proofs.YtmljjfhgciaceaaDoor
