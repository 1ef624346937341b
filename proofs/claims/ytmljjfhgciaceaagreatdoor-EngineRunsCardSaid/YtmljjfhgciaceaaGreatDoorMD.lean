/- Lemmas of the proof. -/
import Derived.Test.YtmljjfhgciaceaaGreatDoorHd
import Derived.Test.YtmljjfhgciaceaaGreatDoorCz
import Derived.Test.YtmljjfhgciaceaaGreatDoorPC
import Derived.Test.YtmljjfhgciaceaaGreatDoorKE
import Derived.Test.YtmljjfhgciaceaaGreatDoorPU
import Derived.Test.YtmljjfhgciaceaaGreatDoorDP
import Derived.Test.YtmljjfhgciaceaaGreatDoorOG
import Derived.Test.YtmljjfhgciaceaaGreatDoorKG
import Derived.Test.YtmljjfhgciaceaaGreatDoorMerged
import Derived.Test.YtmljjfhgciaceaaGreatDoorSO
import Derived.Deep.CutBlock
set_option maxRecDepth 100000
set_option maxHeartbeats 8000000
namespace Go.Proofs.YtmljjfhgciaceaaGreatDoor
open Go.RowKit
section
variable {fl:Int} {ns:List ByteArray} {l:List aH} {T:Nat->Tr}
def J4 (l:List aH):Prop:=aY l/\(∀e∈l,0<=e.key/\e.key<1099511627776)/\l.length<=10000
def qJ (l:List aH) (size:Int) (k:Nat) (es:List aH):Prop:=(size=1/\es=l.take k)\/(dX l/\ft ((l.take k).map (bucket size))=some es)
theorem qJ.start (l:List aH) (size:Int) (hg:size=1\/dX l):qJ l size 0 []:=by
 rcases hg with h|h
 ·exact .inl ⟨h,rfl⟩
 ·exact .inr ⟨h,rfl⟩
section
variable {l es:List aH} {size:Int} {k:Nat}
theorem qJ.KW (h:qJ l size k es) (hs:size=1\/size=60\/size=3600) (hr:J4 l):aY es/\es<=k:=by
 rcases h with ⟨-,rfl⟩|⟨hg,hb⟩
 ·exact⟨hr.1.sublist (List.take_sublist _ _),by rw [gh];omega⟩
 ·have hP:dX ((l.take k).map (bucket size)):=by
   have:=eF (show 0<size by omega) hg;rw [<-rG k l,sH]at this;exact this.left
  obtain⟨h1,h2,h3,h4,h5⟩:=fL hP.1 hb;exact⟨h5,by rw [oX,gh]at h4;omega⟩
theorem qJ.keys (h:qJ l size k es) (hs:size=1\/size=60\/size=3600) (hr:J4 l) (hk:k<l):∀e∈es,e.key<=(bucket size l[k]).key:=by
 rcases h with ⟨rfl,rfl⟩|⟨hg,hb⟩
 ·intro e he;obtain⟨i,hi,rfl⟩:=nr he;rw [gh]at hi;rw [zW];have:=sI.1 hr.1 i k ai hk ai;rw [tH];omega
 ·exact Am hs hr.1 hg hk hb
theorem qJ.new (h:qJ l size k es) (hs:size=1\/size=60\/size=3600) (hk:k<l) (hn:∀e∈es,e.key<(bucket size l[k]).key):qJ l size (k+1) (es++[bucket size l[k]]):=by
 rcases h with ⟨rfl,rfl⟩|⟨hg,hb⟩
 ·exact .inl ⟨rfl,by rw [ja hk,tH]⟩
 ·exact .inr ⟨hg,(sY hk hb).trans (CC hn)⟩
theorem qJ.old (h:qJ l size k es) (hs:size=1\/size=60\/size=3600) (hr:J4 l) (hk:k<l) {j:Nat} (hj:es=j+1) (he:(es[j]'(by omega)).key=(bucket size l[k]).key) :
  dX l/\av (es[j]'(by omega)).is=0/\av l[k].is=0/\((es[j]'(by omega)).is.c+l[k].is.c<=1073741824->qJ l size (k+1) (es.set j ⟨(es[j]'(by omega)).key,(es[j]'(by omega)).is.join l[k].is⟩))/\(¬(es[j]'(by omega)).is.c+l[k].is.c<=1073741824->bw l size=none):=by
 rcases h with ⟨rfl,rfl⟩|⟨hg,hb⟩
 ·exfalso
  rw [zW,tH]at he;rw [gh]at hj;have:=sI.1 hr.1 j k ai hk ai;omega
 ·have hP:dX ((l.take k).map (bucket size)):=by
   have:=eF (show 0<size by omega) hg;rw [<-rG k l,sH]at this;exact this.left
  obtain⟨h1,h2,h3,h4,h5⟩:=fL hP.1 hb;have hx:=(hg.1 _ (eZ hk)).2;have hst:=sY (size:=size) hk hb;have hio:=CB (x:=bucket size l[k]) (i:=j) ai h5 (EM h5 hj he) he;refine⟨hg,(h3 _ (eZ _)).2,hx,fun hc=> .inr ⟨hg,?_⟩,fun hc=>?_⟩
  ·rw [hst,hio,he];exact aw hc
  ·exact xR (k:=k+1) (by rw [hst,hio];exact ar hc)
end
def tL (ns:List ByteArray) (fl:Int) (l:List aH):Prop:=
 (∃k,k<3/\dX l/\bw l (bp k)=none)\/(∃k es,k<3/\qJ l (bp k) l es/\(jM none es≠0\/2900<es.length)) \/
 (∃T:Nat->Tr,(∀k,k<3->∃es,qJ l (bp k) l es/\Made es (T k))/\aS ⟨ns,T 0,T 1,T 2,fl⟩=false)
structure zY (ns:List ByteArray) (fl:Int) (l:List aH) (T:Nat->Tr):Prop where
 may:aS ⟨ns,T 0,T 1,T 2,fl⟩=true
 tree:∀k,k<3->∃es,qJ l (bp k) l es/\Made es (T k)
theorem zY.book (h:zY ns fl l T) (hl:aY l):cx ⟨ns,T 0,T 1,T 2,fl⟩=some l:=by
 obtain⟨es,h1,h2⟩:=h.tree 0 bY;have hes:es=l:=by
  rcases h1 with ⟨-,h1⟩|⟨hg,h1⟩
  ·rw [h1,List.take_length]
  ·rw [List.take_length,show bp 0=1 from rfl,iV]at h1;obtain⟨h3,-⟩:=fL hg.1 h1;rw [h3,yU hl hg.1.cp]
 subst hes;have h3:=h2.knows;obtain⟨l',hl',-⟩:=qq h.may;have h4:=(lM hl').1;have:l'=es:=dh (h4.symm.trans h3);rw [<-this];exact hl'
structure Fit (ns:List ByteArray) (fl:Int) (l:List aH):Prop where
 n16:ns.length<=16
 may:∀s∈ns,dt s=true
 nd:ns.Nodup
 f0:0<=fl/\fl<=1048575
 f3:fl%3600=0
 KW:aY l
 good:dX l
 few:l.length<=2900
 cnt:gw l<=1073741824
 ok:∀e∈l,e.key/1048576<ns/\fl<=e.key%1048576/\e.is.t=e.key%1048576
theorem Jv:∀{l:List aH} {p:Option Int},aY l->Checked l->(∀e∈l,0<=e.key/\e.key<1099511627776)->(∀k,p=some k->∀e∈l,k<e.key)->jM p l=0
 |[],_,_,_,_,_=>by unfold jM;rfl
 |e::l,p,hr,hc,hk,hp=>by
  have h1:=tZ.1 hr;have h2:=hc e bh;have h3:=hk e bh;unfold jM;rw [ar,ar ai,ar (jw h2.2)]
  ·exact Jv h1.2 (fun x hx=>hc x (by simp [hx])) (fun x hx=>hk x (by simp [hx])) fun k hkk x hx=>by
    injection hkk with hkk;subst hkk;exact h1.1 x hx
  ·rintro⟨k,hk1,hk2⟩;have:=hp k hk1 e bh;omega
theorem Fit.rolled (h:Fit ns fl l) (k:Nat):bw l (bp k)=some (pH (l.map (bucket (bp k)))):=by
 have hb:=(eF (eB k) h.good).1;unfold bw;rw [ky hb,aw];refine nV hb.cp ?_;rw [rq];exact h.cnt
theorem Fit.mid {es:List aH} (h:Fit ns fl l) {k:Nat} (hm:qJ l (bp k) l es):es=pH (l.map (bucket (bp k))):=by
 rcases hm with ⟨h1,h2⟩|⟨-,h2⟩
 ·rw [h2,List.take_length,h1,iV,yU h.KW h.good.1.cp]
 ·rw [List.take_length]at h2;exact dh (h2.symm.trans (h.rolled k))
theorem Fit.pH (h:Fit ns fl l) (k:Nat):dX (pH (l.map (bucket (bp k))))/\aY (pH (l.map (bucket (bp k))))/\(pH (l.map (bucket (bp k)))).length<=2900:=by
 have hb:=eF (eB k) h.good;have hr:=h.rolled k;unfold bw at hr;obtain⟨h1,h2,h3,h4,h5⟩:=fL hb.1 hr;refine⟨vH hb hr,h5,?_⟩;rw [oX]at h4;have:=h.few;omega
theorem Fit.base (h:Fit ns fl l) (hT:∀k,k<3->allT (T k)=some (Go.Proofs.YtmljjfhgciaceaaGreatDoor.pH (l.map (bucket (bp k))))):aS ⟨ns,T 0,T 1,T 2,fl⟩=true/\cx ⟨ns,T 0,T 1,T 2,fl⟩=some l:=by
 have h0:allT (T 0)=some l:=by rw [hT 0 bY,show bp 0=1 from rfl,iV,yU h.KW h.good.1.cp]
 have hb:cx ⟨ns,T 0,T 1,T 2,fl⟩=some l:=by
  refine vV h0 (rH.2 fun e he=>?_);have:=h.ok e he;simp [iu];exact⟨⟨this.1,this.2.1⟩,this.2.2⟩
 refine⟨lZ ⟨h.n16,h.f0.1,h.f0.2,h.f3,fun i hi=>⟨h.may _ (eZ hi),fun k hk=>?_⟩,⟨l,hb,fun k hk=>?_⟩⟩,hb⟩
 ·have hi':i<ns:=hi;exact sI.1 h.nd k i ai hi' hk
 ·have e:(⟨ns,T 0,T 1,T 2,fl⟩:Ba).tree k=T k:=by
   obtain rfl|rfl|rfl:k=0\/k=1\/k=2:=ai
   all_goals rfl
  rw [qP (h.rolled k) (by rw [e];exact hT k hk)];simp
theorem Fit.UK (h:Fit ns fl l):¬tL ns fl l:=by
 rintro(⟨k,-,-,h1⟩|⟨k,es,-,h1,h2⟩|⟨T,h1,h2⟩)
 ·rw [h.rolled k]at h1;cases h1
 ·obtain rfl:=h.mid h1;obtain⟨g1,g2,g3⟩:=h.pH k;rcases h2 with h2|h2
  ·exact h2 (Jv g2 g1.1 g1.2.1 fun k hk=>by cases hk)
  ·omega
 ·have:=(h.base (T:=T) fun k hk=>by
   obtain⟨es,h3,h4⟩:=h1 k hk;obtain rfl:=h.mid h3;exact h4.knows).1
  rw [h2]at this;cases this
theorem Fit.bst (h:Fit ns fl l) (ht:zY ns fl l T) {N:Nat} (hN:l<=N) (hc:gw l<=N):Ky ⟨ns,T 0,T 1,T 2,fl⟩ l N:=by
 refine⟨ht.may,ht.book h.KW,fun k hk=>?_,hc⟩;obtain⟨es,h1,h2⟩:=ht.tree k hk;obtain rfl:=h.mid h1;have e:(⟨ns,T 0,T 1,T 2,fl⟩:Ba).tree k=T k:=by
  obtain rfl|rfl|rfl:k=0\/k=1\/k=2:=ai
  all_goals rfl
 rw [e];have h3:=h2.2.2.2.2.2;have h4:(Go.Proofs.YtmljjfhgciaceaaGreatDoor.pH (l.map (bucket (bp k)))).length<=l:=by
  have:=@Dj (l.map (bucket (bp k))) [];rw [oX]at this;unfold Go.Proofs.YtmljjfhgciaceaaGreatDoor.pH;simpa using this
 omega
end
structure GX (w:World) (ns:List ByteArray) (fl:Int) (l:List aH) (sn:Option Addr) (sc:Nat) (g:Nat->Option Addr) (n c:Nat->Nat) (r:Nat->Int) (T:Nat->Tr) (k:Nat) (wr:World):Prop where
 below:aq w wr
 size:w+3<=wr.heap.size
 res:wr.heap[w.heap.size]?=some (.cells cz 30)
 box:wr.heap[w.heap.size+1]?=some (.cells #[ah sn ns sc,ah (g 0) (n 0) (c 0),af (r 0),ah (g 1) (n 1) (c 1),af (r 1),ah (g 2) (n 2) (c 2),af (r 2),af fl] 30)
 sz:wr.heap[w.heap.size+2]?=some (.cells #[af 1,af 60,af 3600] 3)
 tr:∀j,j<k->(∃es,qJ l (bp j) l es/\Made es (T j))/\∀w'',aQ (w+2) wr w''->di w'' (.agg #[ah (g j) (n j) (c j),af (r j)]) (T j)
section
variable {w:World} {ns:List ByteArray} {fl:Int} {l:List aH} {sn:Option Addr} {sc:Nat} {g:Nat->Option Addr} {n c:Nat->Nat} {r:Nat->Int} {T:Nat->Tr} {k:Nat} {wr wx:World}
theorem GX.later (h:GX w ns fl l sn sc g n c r T k wr) (hb:aq wr wx):GX w ns fl l sn sc g n c r T k wx:=
 ⟨aF h.below hb h.below.size,fZ h.size hb.size,(hb.block _ (by have:=h.size;omega)).trans h.res,(hb.block _ (by have:=h.size;omega)).trans h.box,(hb.block _ (by have:=h.size;omega)).trans h.sz,
  fun j hj=>⟨(h.tr j hj).1,fun w'' hw=>(h.tr j hj).2 w'' ((aQ.of hb aO).trans hw)⟩⟩
theorem GX.cells (h:GX w ns fl l sn sc g n c r T k wr):wr.cell? (w,1,0)=some (ah sn ns sc)/\wr.cell? (w,1,1)=some (ah (g 0) (n 0) (c 0))/\(wr,w.heap.size+1,2,r 0)/\wr.cell? (w,1,3)=some (ah (g 1) (n 1) (c 1))/\(wr,w.heap.size+1,4,r 1)/\wr.cell? (w,1,5)=some (ah (g 2) (n 2) (c 2))/\(wr,w.heap.size+1,6,r 2)/\(wr,w.heap.size+1,7,fl)/\∀o,wr.frozen? ⟨w.heap.size+1,o,none⟩=false:=by
 have h1:=h.box;simp [World.cell?,World.frozen?,h1]
theorem GX.zero (h:GX w ns fl l sn sc g n c r T k wr):wr.cell? (w,0)=some (az 0 0)/\wr.cell? (w,1)=some (az 0 0)/\(wr,w.heap.size,2)/\wr.cell? (w,3)=some (az 0 0)/\(wr,w.heap.size,4)/\wr.cell? (w,5)=some (az 0 0)/\(wr,w.heap.size,6)/\(wr,w.heap.size,7)/\∀o,wr.frozen? ⟨w.heap.size,o,none⟩=false:=by
 have h1:=h.res;simp [World.cell?,World.frozen?,h1,cz]
theorem GX.at (h:GX w ns fl l sn sc g n c r T k wr) (hk:k<3):(wr,w.heap.size+2,k,bp k)/\(∃u,wr.cell? (w,1,1+k*2)=some u)/\∃u,wr.cell? (w,1,1+k*2+1)=some u:=by
 have h1:=h.box;have h2:=h.sz;obtain rfl|rfl|rfl:k=0\/k=1\/k=2:=ai
 all_goals simp [World.cell?,h1,h2,bp]
theorem GX.good (h:GX w ns fl l sn sc g n c r T k wr) (hr:J4 l):bp k=1\/dX l:=by
 cases k with
 |zero=>exact .inl rfl
 |succ k=>
  obtain⟨⟨es,h1,h2⟩,-⟩:=h.tr 0 ai;rcases h1 with ⟨-,h1⟩|⟨h1,-⟩
  ·rw [List.take_length]at h1;subst h1;exact .inr ⟨h2.2.2.2.1,hr.2.1,by have:=hr.2.2;omega⟩
  ·exact .inr h1
theorem GX.step {B:Nat} {w0:World} {so:Option Addr} {nn cc:Nat} {rt:Int} {t:Tr} {es:List aH} (h:GX w ns fl l sn sc g n c r T k wr) (hk:k<3) (hB:w+2<=B) (Pf:aQ B w0 wr) (ht:∀w'',aQ B w0 w''->di w'' (.agg #[ah so nn cc,af rt]) t) (hm:qJ l (bp k) l es) (hd:Made es t) :
  GX w ns fl l sn sc (upd g k so) (upd n k nn) (upd c k cc) (upd r k rt) (upd T k t) (k+1) ((wr.setCell (w,1,1+k*2) (ah so nn cc)).setCell (w,1,1+k*2+1) (af rt)):=by
 have hs:=h.size;have hne:∀b,b≠w.heap.size+1->((wr.setCell (w,1,1+k*2) (ah so nn cc)).setCell (w,1,1+k*2+1) (af rt)).heap[b]?=wr.heap[b]?:=fun b hb=>
  (cH _ ⟨w.heap.size+1,_,none⟩ b _ hb).trans (cH _ ⟨w.heap.size+1,_,none⟩ b _ hb)
 have Yk:aQ (w+2) wr ((wr.setCell (w,1,1+k*2) (ah so nn cc)).setCell (w,1,1+k*2+1) (af rt)):=((aQ.refl _ _).set (by show w.heap.size+1<_;omega) _).set (by show w.heap.size+1<_;omega) _;refine⟨(h.below.setCell (by show w<=w.heap.size+1;omega) _).setCell (by show w<=w.heap.size+1;omega) _,by simp only [aG];exact hs,(hne _ ai).trans h.res,?_,(hne _ ai).trans h.sz,fun j hj=>?_⟩
 ·have h1:=aM (off:=1+k*2+1) (v:=af rt) (aM (off:=1+k*2) (v:=ah so nn cc) h.box);rw [h1];obtain rfl|rfl|rfl:k=0\/k=1\/k=2:=ai
  all_goals simp [upd]
 ·by_cases hjk:j=k
  ·subst hjk;rw [iq,iq,iq,iq,iq];exact⟨⟨es,hm,hd⟩,fun w'' hw=>ht w'' (Pf.trans ((Yk.trans hw).mono hB))⟩
  ·rw [upd_ne _ _ hjk,upd_ne _ _ hjk,upd_ne _ _ hjk,upd_ne _ _ hjk,upd_ne _ _ hjk];exact⟨(h.tr j ai).1,fun w'' hw=>(h.tr j ai).2 w'' (Yk.trans hw)⟩
theorem GX.base (h:GX w ns fl l sn sc g n c r T 3 wr):r 0=(T 0).root/\r 1=(T 1).root/\r 2=(T 2).root/\∀w'',fX w'' (ah sn ns sc) ns->aQ (w+2) wr w''->bR w'' (.agg #[ah sn ns sc,ah (g 0) (n 0) (c 0),af (T 0).root,ah (g 1) (n 1) (c 1),af (T 1).root,ah (g 2) (n 2) (c 2),af (T 2).root,af fl]) ⟨ns,T 0,T 1,T 2,fl⟩:=by
 have key:∀j,j<3->r j=(T j).root/\∀w'',aQ (w+2) wr w''->bn w'' (ah (g j) (n j) (c j)) (T j).nodes:=fun j hj=>by
  have h1:=(h.tr j hj).2;have hx:∀w'',aQ (w+2) wr w''->r j=(T j).root/\bn w'' (ah (g j) (n j) (c j)) (T j).nodes:=fun w'' hw=>by
   obtain⟨nv,e,hn⟩:=h1 w'' hw;simp only [Value.agg.injEq,Array.mk.injEq,List.cons.injEq,Value.int.injEq,and_true,true_and]at e;exact⟨e.2,e.1▸hn⟩
  exact⟨(hx wr (aQ.refl _ _)).1,fun w'' hw=>(hx w'' hw).2⟩
 exact⟨(key 0 bY).1,(key 1 bY).1,(key 2 bY).1,fun w'' hs hw=>⟨_,_,_,_,rfl,hs,(key 0 bY).2 w'' hw,(key 1 bY).2 w'' hw,(key 2 bY).2 w'' hw⟩⟩
end
def S4 (ns:List ByteArray) (fl:Int) (l:List aH) (nv:Value) (w:World) (x:Ending) (w':World):Prop:=
 aq w w'/\((∃E,E≠0/\x = .returned (.tuple #[ey,af E])/\tL ns fl l) \/
  ∃sn sc g0 l0 p0 g1 l1 p1 g2 l2 p2,∃T:Nat->Tr,nv=ah sn ns sc/\x = .returned (.tuple #[.agg (aL sn ns sc g0 l0 p0 g1 l1 p1 g2 l2 p2 ⟨ns,T 0,T 1,T 2,fl⟩),af 0])/\zY ns fl l T /\
   ∀w'',fX w'' nv ns->aQ (w+2) w' w''->bR w'' (.agg (aL sn ns sc g0 l0 p0 g1 l1 p1 g2 l2 p2 ⟨ns,T 0,T 1,T 2,fl⟩)) ⟨ns,T 0,T 1,T 2,fl⟩)
theorem dw {B xb:Nat} {w w0:World} (h:Below B w w0) (hx:B<=xb) (v0 v1 v2 v3 v4 v5 v6 v7:Value):Below B w ((((((((w0.setCell (xb,0) v0).setCell (xb,1) v1).setCell (xb,2) v2).setCell (xb,3) v3).setCell (xb,4) v4).setCell (xb,5) v5).setCell (xb,6) v6).setCell (xb,7) v7):=
 (((((((h.setCell hx _).setCell hx _).setCell hx _).setCell hx _).setCell hx _).setCell hx _).setCell hx _).setCell hx _
theorem zE {M xb:Nat} {wx:World} (hx:xb<M) (v0 v1 v2 v3 v4 v5 v6 v7:Value):aQ M wx ((((((((wx.setCell (xb,0) v0).setCell (xb,1) v1).setCell (xb,2) v2).setCell (xb,3) v3).setCell (xb,4) v4).setCell (xb,5) v5).setCell (xb,6) v6).setCell (xb,7) v7):=
 ((((((((aQ.refl M wx).set hx _).set hx _).set hx _).set hx _).set hx _).set hx _).set hx _).set hx _
theorem Us (k:Nat):bp k=1\/bp k=60\/bp k=3600:=by unfold bp;split;exact .inl rfl;split;exact .inr (.inl rfl);exact .inr (.inr rfl)
theorem Q7 {nv lv:Value} {ns:List ByteArray} {fl:Int} {l:List aH} {w:World} (hn:fX w nv ns) (hl:cX w lv l) (hr:J4 l) (hst:∀s∈ns,s.size<=140737488351232) (hsz:cI w) :
  Calls Tryz.prog 87 #[nv,af fl,lv] w (S4 ns fl l nv w):=by
 obtain⟨sn,sc,rfl⟩:∃sn sc,nv=ah sn ns sc:=by obtain⟨ao,cap,h,-⟩:=hn;exact⟨ao,cap,h⟩
 obtain⟨ao,cap,rfl⟩:=hl.isSlice;have HN:=ag hn;have HL:=ag hl;have HR:=ag hr;have ry:=ag (aJ hst hsz);obtain⟨W0,hW0⟩:=cd (((w.alloc (.cells cz 30)).alloc (.cells #[ah sn ns sc,az 0 0,af 0,az 0 0,af 0,az 0 0,af 0,af fl] 30)).alloc (.cells #[af 1,af 60,af 3600] 3));have HI:=ag (show GX w ns fl l sn sc (fun _=>none) (fun _=>0) (fun _=>0) (fun _=>0) (fun _=>⟨[],0⟩) 0 W0 by
  refine⟨by rw [hW0];exact aj,by rw [hW0];simp,?_,?_,?_,fun j hj=>absurd hj (Nat.not_lt_zero _)⟩
  ·rw [hW0,gy _ _ _ np,gy _ _ _ np];exact au _ _ rfl
  ·rw [hW0,gy _ _ _ bh];exact au _ _ bh
  ·rw [hW0];exact au _ _ bh)
 clear hn hl hr hst hsz;go_enter Tryz.func87,Tryz.ntmps87;go_upto_region 3 with (fail);rw [<-hW0];clear hW0;go_wp2_with fail
 go_loopg [24] 3 (fun gk i wr=>∃k:Nat,k<=3/\gk=3-k/\i = .int .i64 k/\Hid (∃g n c r T,GX w ns fl l sn sc g n c r T k wr))
 case atStart=>exact⟨0,ai,rfl,rfl,ag ⟨_,_,_,_,_,HI.out⟩⟩
 case round=>
  clear HI;obtain⟨k,hk,rfl,rfl,HM⟩:=hrel;obtain⟨wo,rfl⟩:=cd (wr);obtain⟨g,n,c,r,T,hm⟩:=HM.out;have HM:=ag hm;by_cases hlt:k<3
  ·obtain⟨hsk,-,-⟩:=hm.at hlt;have Nz:=hm.good HR;have hsi:=Us k;obtain⟨S,hS⟩:=bG (bp k);rw [hS]at hsk Nz hsi;have HS:=ag hS;have PY:=ag hsi;have jA:=fun w'=>jL (ab:=w.heap.size+2) (aR:=0) (n:=3) (cap:=3) (show (k:Int)=((k:Nat):Int) by rfl) hlt w';have hll:=HR.2.2;have tz:(k:Int)<3:=ai;clear hm hS hsi;go_wp2_with fail
   go_loopg [11,31] l.length (fun g2 ov i wi=>∃(q:Nat) (es:List aH),q<=l.length/\g2=l.length-q/\i = .int .i64 q/\ay wo.heap.size wi ov es/\Hid (qJ l S q es)/\Hid (aq wo wi))
   case atStart=>exact⟨0,[],eY _,rfl,rfl,ay.nil _ _,ag (qJ.start l S Nz),ag (aW _ _)⟩
   case round=>
    obtain⟨q,es,hq,rfl,rfl,hown,HI,HB⟩:=hrel;obtain⟨so,oc,rfl⟩:=hown.isSlice;by_cases Vg:q<l
    ·obtain⟨_,_,hv,-,-,-,-,h5⟩:=HL.out;injection hv with hv1 _ hv3;subst hv1 hv3;obtain⟨eb,cM,ll,pq,jF⟩:=h5 ai;subst ll;have afU:=HM.size;have RZ:=HB.out.size;have YI:=aF HM.below HB.out HM.below.size;obtain⟨y0,y1,y2,y3,y4,y5,y6⟩:=br YI pq jF Vg;have Xl:=ag (HI.keys PY HR Vg);have Xh:=ag (fun hn=>HI.new PY Vg hn);have ZJ:=ag (fun j hj he=>HI.old PY HR Vg (j:=j) hj he);have HRE:=ag (HI.KW PY HR);have hyr:=HR.2.1 _ (eZ Vg);obtain⟨y,hy⟩:=bG (l[q]);rw [hy]at y0 y1 y2 y3 y4 y5 y6 Xl Xh ZJ hyr;have hsp:0<S/\S<=3600:=(by have:=PY.out;omega);obtain⟨M,hM⟩:=bG (y.key%1048576);have Jd:0<=M/\M<1048576:=ai;obtain⟨RR,hRR⟩:=bG (M%S);have hR0:0<=RR/\RR<S:=(by rw [<-hRR];exact⟨Int.emod_nonneg _ ai,Int.emod_lt_of_pos _ hsp.1⟩);obtain⟨P,hP⟩:=bG (y.key-RR);have hbk:bucket S y=⟨P,y.is⟩:=(by simp [bucket,hM,hRR,hP]);rw [hbk]at Xl Xh ZJ;have m1:y.key.tmod 1048576=M:=(by rw [tJ hyr.1];exact hM);have m2:M.tmod S=RR:=(by rw [tJ Jd.1];exact hRR);have m3:IntKind.i64.wrap M=M:=bI _ ai;have m4:IntKind.i64.wrap RR=RR:=bI _ ai;have m5:IntKind.i64.wrap (y.key-RR)=P:=(by rw [hP];exact bI _ ai);have hs0:(S == 0)=false:=(by simp;omega);have abG:¬S=0:=ai;have agI:=fun w'=>cN (ab:=eb) (aR:=cM) (n:=l.length) (cap:=cap) (show (q:Int)=((q:Nat):Int) by rfl) Vg w';have LV:eb<wr:=(by have:=HM.below.size;omega);clear hy hM hRR hP hbk jF h5 hyr Jd hR0;go_upto_region 9 with (fail);obtain⟨W1,hW1⟩:=cd (wr.alloc (.cells #[af y.key,af y.is.c,af y.is.s,af y.is.mi,af y.is.ma,af y.is.t,af y.is.l] 107));have hb1:aq wr W1:=(by rw [hW1];exact aj);have k1:W1.heap[wr.heap.size]?=some (.cells #[af y.key,af y.is.c,af y.is.s,af y.is.mi,af y.is.ma,af y.is.t,af y.is.l] 107):=(by rw [hW1];exact au _ _ rfl);have hz1:W1=wr.heap.size+1:=(by rw [hW1];simp);have MN:=ag (aJ hb1 (aJ k1 hz1));obtain⟨x0,x1,x2,x3,x4,x5,x6⟩:(W1,wr.heap.size,0,y.key)/\(W1,wr.heap.size,1,y.is.c)/\(W1,wr.heap.size,2,y.is.s)/\(W1,wr.heap.size,3,y.is.mi)/\(W1,wr.heap.size,4,y.is.ma)/\(W1,wr.heap.size,5,y.is.t)/\(W1,wr.heap.size,6,y.is.l):=(by simp [World.cell?,k1]);have xf:∀o,W1.drew.frozen? ⟨wr.heap.size,o,none⟩=false:=(by intro o;have XT:W1.drew.heap[wr.heap.size]?=_:=k1;simp [World.frozen?,XT]);have x0d:W1.drew.cell? (wr,0)=some (af y.key):=x0;rw [<-hW1];clear hW1 hb1 k1 hz1 y0 y1 y2 y3 y4 y5 y6 agI;refine eA [(0,1),(1,0),(2,1),(3,0),(4,1),(5,1),(6,1),(7,1),(8,1),(9,3)] 9
      (fun W=>W.cell? (wr,0)=some (af y.key)) cV cV x0d ?_
     (simp only [bV,List.filterMap_cons,List.filterMap_nil,List.getElem?_cons_zero,List.getElem?_cons_succ,Option.map_some])
     (repeat (first|refine lh ?_|refine lg ?_|refine kZ ?_);(try simp only [Act.put,List.setIfInBounds_toArray,List.set_cons_zero,List.set_cons_succ]))
     refine jk ?_ (fun K hK=>?_)
     (focus (first|exact bM rfl _|exact eK rfl rfl rfl rfl))
     go_simp;refine hK _ _ ?_;clear hK K;refine jU ?_;obtain⟨V2,hV2⟩:=cd ((W1.setCell (wr,0) (af P)).drew);have kp:V2.heap[wr.heap.size]?=some (.cells #[af P,af y.is.c,af y.is.s,af y.is.mi,af y.is.ma,af y.is.t,af y.is.l] 107):=by
      rw [hV2];exact aM MN.2.1
     have hb2:aq wr V2:=(by rw [hV2];exact(MN.1.setCell aO _).drew);have hz2:V2=wr.heap.size+1:=(by rw [hV2];show (W1.setCell _ _).heap.size=_;rw [aG];exact MN.2.2);have oL:=ag hb2;have Tj:=ag (aJ kp hz2);have hown2:ay wo V2 (ah so es oc) es:=hown.below hb2 aO;obtain⟨yb,hyb⟩:=bG (wr.heap.size);rw [hyb]at kp Tj;obtain⟨z0,z1,z2,z3,z4,z5,z6⟩:(V2,yb,0,P)/\(V2,yb,1,y.is.c)/\(V2,yb,2,y.is.s)/\(V2,yb,3,y.is.mi)/\(V2,yb,4,y.is.ma)/\(V2,yb,5,y.is.t)/\(V2,yb,6,y.is.l):=(by simp [World.cell?,kp]);rw [<-hV2,hyb];clear hV2 hb2 kp hz2 x0 x1 x2 x3 x4 x5 x6 xf x0d m1 m2 m3 m4 m5 hs0 abG MN;have hel:=HRE.2;have hes:es.length<=1000000:=ai;obtain h0|⟨j,hj⟩:es.length=0\/∃j,es.length=j+1:=by cases h:es.length;exact .inl rfl;exact .inr ⟨_,rfl⟩
     ·obtain rfl:=yX h0;have GZ:=ag (show qJ l S (q+1) [⟨P,y.is⟩]from Xh (fun e he=>by cases he));have n1:IntKind.i64.wrap (0-1) = -1:=bY;have hcz:(([]:List aH).length:Nat)=0:=rfl;rw [hcz]at hown2 ⊢;clear h0 hcz ZJ Xh Xl hel;go_upto_region 11 with (fail);refine eA [(0,1),(1,1),(2,1),(3,1),(4,1),(5,1),(6,1),(7,0),(8,1),(9,0),(10,1),(11,3)] 11
       (fun _=>True) cV cV trivial ?_
      (simp only [bV,List.filterMap_cons,List.filterMap_nil,List.getElem?_cons_zero,List.getElem?_cons_succ,Option.map_some])
      (repeat (first|refine lh ?_|refine lg ?_|refine kZ ?_);(try simp only [Act.put,List.setIfInBounds_toArray,List.set_cons_zero,List.set_cons_succ]))
      refine jk ?_ (fun K hK=>?_)
      (focus (first|exact bM rfl _|exact eK rfl rfl rfl rfl))
      go_simp;refine hK _ _ ?_;clear hK K;refine jU ?_;have Ko:aq wo V2:=(aF HB.out oL RZ);have ah7:=Ko.size;go_wp2_with ((at_builtin;refine cg rfl (.tmp 78) (.tmp 80) rfl wo _ [] rfl jY ⟨_,0,none⟩ ⟨P,y.is⟩ rfl (fun j u h=>ik h) bh dI ?_;intro v3 w3 qd hg3;have hb3:=hg3 wo wo aj aO));go_roundg (l.length-(q+1))
      case measure=>omega
      case rel=>exact⟨q+1,_,Vg,rfl,by go_num,qd,GZ,ag hb3⟩
     ·have n1:IntKind.i64.wrap ((es.length:Int)-1)=(j:Int):=(by rw [hj];rw [show (((j+1:Nat):Int)-1)=(j:Int) by omega];exact bI _ ai);have hj0:(0:Int)<=(j:Int):=ai;have hjl:j<es:=ai;obtain⟨hl,⟨h0,h0'⟩|⟨og,cap',cur,hv,hBg,hog,-⟩⟩:=id hown2.row
      ·omega
      injection hv with hv1 _ hv3;subst hv1 hv3;have Pg:og<V2:=(hown2.lt og rfl).2;obtain⟨_,_,hv,-,-,-,-,h5'⟩:=hown2.at ai;injection hv with hv1 _ hv3;subst hv3;obtain⟨eb2,Sq,ll,YB,Pj⟩:=h5' ai;rw [<-hv1]at ll;obtain⟨rfl,rfl⟩:og=eb2/\0=Sq:=(by injection ll with ll;injection ll with a1 a2;exact⟨a1,a2⟩);obtain⟨o0,o1,o2,o3,o4,o5,o6⟩:=br (aW _ _) YB Pj hjl;simp only [iR]at o0 o1 o2 o3 o4 o5 o6;have I6:=fun w'=>cN (ab:=og) (aR:=0) (n:=es.length) (cap:=oc) (show (j:Int)=((j:Nat):Int) by rfl) hjl w';simp only [iR]at I6;have hky:=Xl _ (eZ hjl);have VO:=ag (ZJ j hj);have HNJ:=ag (show es[j].key<P->qJ l S (q+1) (es++[⟨P,y.is⟩])from fun hlt=>Xh fun e he=>by
       obtain⟨t,ht,rfl⟩:=nr he;by_cases htj:t=j
       ·subst htj;exact hlt
       ·have h2:=sI.1 HRE.1 t j ht hjl ai;show _<P;omega)
      have hky:es[j].key<=P:=hky;have J8:=ag (fun(wz:World) (Y:ax) (ho:ay wo wz (ah og es oc) es)=>ho.set (y:=Y) hjl);obtain⟨zz,hzz⟩:=bG (es[j]);rw [hzz]at o0 o1 o2 o3 o4 o5 o6 hky VO HNJ J8;have O0:yb<V2.heap.size:=(by rw [Tj.out.2];omega);clear Pj h5' hzz ll hv1 hl ZJ Xh Xl hel hj;by_cases hkk:zz.key=P
      ·have e3:(zz.key == P)=true:=(by simp [hkk]);obtain⟨Ww,NA,hcy,fE,hnone⟩:=VO hkk;have qK:=ag (aJ Ww (aJ NA (aJ hcy (aJ fE hnone))));go_upto_region 11 with (fail);refine eA [(0,1),(1,1),(2,1),(3,1),(4,1),(5,1),(6,1),(7,0),(8,1),(9,0),(10,1),(11,3)] 11
        (fun W=>(W,yb,0,P)/\(W,og,j*7,zz.key)) cV cV ⟨z0,o0⟩ ?_
       (simp only [bV,List.filterMap_cons,List.filterMap_nil,List.getElem?_cons_zero,List.getElem?_cons_succ,Option.map_some])
       (repeat (first|refine lh ?_|refine lg ?_|refine kZ ?_);(try simp only [Act.put,List.setIfInBounds_toArray,List.set_cons_zero,List.set_cons_succ]))
       refine jk ?_ (fun K hK=>?_)
       (focus (first|exact bM rfl _|exact eK rfl rfl rfl rfl))
       go_simp;refine hK _ _ ?_;clear hK K;refine jU ?_;obtain⟨V3,GV⟩:=cd (V2.drew);have hb3:aq V2 V3:=(by rw [GV];exact(aW _ _).drew);have hz3:V3=V2.heap.size:=(by rw [GV];rfl);rw [<-GV];obtain⟨u,hu⟩:=bG (zz.is);rw [hu]at o1 o2 o3 o4 o5 o6 qK;obtain⟨J,E,CW⟩:∃J E,bF u y.is=(J,E):=⟨_,_,rfl⟩;have ze:=ag CW;have HMG:=ag fun w'=>(by have:=lT u y.is w';rw [CW]at this;exact this :
        Calls Tryz.prog 15 #[.agg #[af u.c,af u.s,af u.mi,af u.ma,af u.t,af u.l], .agg #[af y.is.c,af y.is.s,af y.is.mi,af y.is.ma,af y.is.t,af y.is.l]] w' fun e' w5=>e' = .returned (.tuple #[.agg #[af J.c,af J.s,af J.mi,af J.ma,af J.t,af J.l],af E])/\aq w' w5)
       have Xd:=ag fun W (hb:aq V3 W)=>(by
        have gc:∀b o,b<V2.heap.size->W.cell? ⟨b,o,none⟩=V2.cell? ⟨b,o,none⟩:=fun b o h=>(hb.cell (p:=⟨b,o,none⟩) (by show b<_;omega)).trans (hb3.cell (p:=⟨b,o,none⟩) h);rw [gc _ _ O0,gc _ _ O0,gc _ _ O0,gc _ _ O0,gc _ _ O0,gc _ _ O0,gc _ _ Pg,gc _ _ Pg,gc _ _ Pg,gc _ _ Pg,gc _ _ Pg,gc _ _ Pg];exact⟨z1,z2,z3,z4,z5,z6,o1,o2,o3,o4,o5,o6⟩:(W,yb,1,y.is.c)/\(W,yb,2,y.is.s)/\(W,yb,3,y.is.mi)/\(W,yb,4,y.is.ma)/\(W,yb,5,y.is.t)/\(W,yb,6,y.is.l)/\(W,og,j*7+1,u.c)/\(W,og,j*7+2,u.s)/\(W,og,j*7+3,u.mi)/\(W,og,j*7+4,u.ma)/\(W,og,j*7+5,u.t)/\(W,og,j*7+6,u.l))
       have HO3:=ag (aJ (hown2.below hb3 aO) (aF (aF HB.out oL RZ) hb3 (by have:=oL.size;omega)));have alO:og<V3:=ai;have HZ3:=ag hz3;clear hz3 GV hb3 CW hu Ww NA hcy fE hnone z0 z1 z2 z3 z4 z5 z6 o0 o1 o2 o3 o4 o5 o6 n1 hj0 e3 VO HNJ hown hown2 hkk;go_upto_region 12 with (fail);go_cut [15,16] (fun p c wx=>∃g2:Nat,p = .pointer (some ⟨g2,0,none⟩)/\c = .int .i64 E/\Hid (wx.heap[g2]?=some (.cells #[.int .i64 J.c, .int .i64 J.s, .int .i64 J.mi, .int .i64 J.ma, .int .i64 J.t, .int .i64 J.l] 39)/\V3.heap.size<=g2/\aq V3 wx))
       case first=>
        refine jR (tK.of [(0,1),(1,1),(2,1),(3,1),(4,0),(5,1),(6,0)] (.fork 7 11 (tK.of [(8,1),(9,1),(10,1)] (tK.of [(11,2),(12,3),(13,1)] .nil)) (tK.of [(7,2),(8,1),(9,1),(10,1),(12,3),(13,1)] .nil))) 12
         (fun W=>(W,yb,1,y.is.c)/\(W,yb,2,y.is.s)/\(W,yb,3,y.is.mi)/\(W,yb,4,y.is.ma)/\(W,yb,5,y.is.t)/\(W,yb,6,y.is.l)/\(W,og,j*7+1,u.c)/\(W,og,j*7+2,u.s)/\(W,og,j*7+3,u.mi)/\(W,og,j*7+4,u.ma)/\(W,og,j*7+5,u.t)/\(W,og,j*7+6,u.l)) cV cV (Xd _ (aW _ _).drew) ?_
        simp only [tK.of];have adL:aq V3 V3.drew:=(aW _ _).drew
        (repeat first|refine gZ ?_|refine gY ?_)
        refine rZ rfl rfl rfl rfl (fun K hK=>?_) (fun K hK=>?_)
        ·skip
         go_simp
         (with_reducible refine(HMG.out _).mono ?_)
         rintro e w1 ⟨rfl,WQ⟩;go_simp;have Wc:aq V3 w1:=aF adL WQ adL.size
         try (have KT:=(WQ.block tb (by have:=(eJ.1 KT).1;omega)).trans KT)
         refine hK _ _ (Xd _ Wc) ?_;clear hK K
         (repeat first|refine gZ ?_|refine gY ?_)
         refine gq rfl rfl (fun K hK=>?_);go_simp;obtain⟨W2,hW⟩:=cd (w1.alloc (.cells #[af 0,af 0,af 0,af 0,af 0,af 0] 39));have wJ:aq w1 W2:=(by rw [hW];exact aj);have adM:aq V3 W2:=aF Wc wJ (Wc.size);have KT:W2.heap[w1.heap.size]?=some (.cells #[af 0,af 0,af 0,af 0,af 0,af 0] 39):=(by rw [hW];exact au _ _ rfl);rw [<-hW];obtain⟨tb,IY⟩:=bG (w1.heap.size);have hlo:V3<=tb:=(by rw [<-IY];exact Wc.size);rw [IY]at KT ⊢;refine hK _ _ (Xd _ adM) ?_;clear hK K;clear hW wJ
         (repeat first|refine gZ ?_|refine gY ?_)
         obtain⟨k0,k1,k2,k3,k4,k5,kf⟩:(W2,tb,0)/\(W2,tb,1)/\(W2,tb,2)/\(W2,tb,3)/\(W2,tb,4)/\(W2,tb,5)/\∀o,W2.frozen? ⟨tb,o,none⟩=false:=(by simp [World.cell?,World.frozen?,KT]);have VS:=ag KT;clear KT;refine jC rfl rfl (fun K hK=>?_);go_simp;refine hK _ _ ?_;clear hK K
         (repeat first|refine gZ ?_|refine gY ?_)
         refine kT ?_;go_wp2_with fail;go_meet;exact⟨tb,rfl,rfl,ag ⟨jB VS.out,hlo,((((((adM.setCell (p:=⟨tb,0,none⟩) hlo (.int .i64 J.c)).setCell (p:=⟨tb,1,none⟩) hlo (.int .i64 J.s)).setCell (p:=⟨tb,2,none⟩) hlo (.int .i64 J.mi)).setCell (p:=⟨tb,3,none⟩) hlo (.int .i64 J.ma)).setCell (p:=⟨tb,4,none⟩) hlo (.int .i64 J.t)).setCell (p:=⟨tb,5,none⟩) hlo (.int .i64 J.l))⟩⟩
        ·skip
         go_simp;obtain⟨W1,hW⟩:=cd ((V3.alloc (.cells #[af 0,af 0,af 0,af 0,af 0,af 0] 39)).drew);have wJ:aq V3 W1:=(by rw [hW];exact aj);have Z2:aq V3 W1:=aF (aW _ _) wJ aO;have KT:W1.heap[V3.heap.size]?=some (.cells #[af 0,af 0,af 0,af 0,af 0,af 0] 39):=(by rw [hW];exact au _ _ rfl);rw [<-hW];obtain⟨tb,IY⟩:=bG (V3.heap.size);have hlo:V3<=tb:=(by rw [<-IY];exact nu _);rw [IY]at KT ⊢;refine hK _ _ (Xd _ Z2) ?_;clear hK K;clear hW wJ
         (repeat first|refine gZ ?_|refine gY ?_)
         refine gq rfl rfl (fun K hK=>?_);go_simp
         (with_reducible refine(HMG.out _).mono ?_)
         rintro e w2 ⟨rfl,WO⟩;go_simp;have adK:aq V3 w2:=aF Z2 WO Z2.size
         try (have KT:=(WO.block tb (by have:=(eJ.1 KT).1;omega)).trans KT)
         refine hK _ _ (Xd _ adK) ?_;clear hK K
         (repeat first|refine gZ ?_|refine gY ?_)
         obtain⟨k0,k1,k2,k3,k4,k5,kf⟩:(w2,tb,0)/\(w2,tb,1)/\(w2,tb,2)/\(w2,tb,3)/\(w2,tb,4)/\(w2,tb,5)/\∀o,w2.frozen? ⟨tb,o,none⟩=false:=(by simp [World.cell?,World.frozen?,KT]);have VS:=ag KT;clear KT;refine jC rfl rfl (fun K hK=>?_);go_simp;refine hK _ _ ?_;clear hK K
         (repeat first|refine gZ ?_|refine gY ?_)
         refine kT ?_;go_wp2_with fail;go_meet;exact⟨tb,rfl,rfl,ag ⟨jB VS.out,hlo,((((((adK.setCell (p:=⟨tb,0,none⟩) hlo (.int .i64 J.c)).setCell (p:=⟨tb,1,none⟩) hlo (.int .i64 J.s)).setCell (p:=⟨tb,2,none⟩) hlo (.int .i64 J.mi)).setCell (p:=⟨tb,3,none⟩) hlo (.int .i64 J.ma)).setCell (p:=⟨tb,4,none⟩) hlo (.int .i64 J.t)).setCell (p:=⟨tb,5,none⟩) hlo (.int .i64 J.l))⟩⟩
       case rest=>
        obtain⟨g2,rfl,rfl,HG2⟩:=hcut;have yq:ay wo wc (ah og es oc) es:=HO3.1.below HG2.out.2.2 aO;have acj:=aF HO3.2 HG2.out.2.2 HO3.2.size;have hzc:=HG2.out.2.2.size;obtain⟨j0,j1,j2,j3,j4,j5,-⟩:=cJ HG2.out.1;obtain⟨-,-,-,-,-,-,o1,o2,o3,o4,o5,o6⟩:=Xd _ HG2.out.2.2;have zl:∀o,wc.frozen? ⟨og,o,none⟩=false:=World.ownsRow.frozenAt yq.row;have hgg:g2≠og:=(by have:=HG2.out.2.1;omega);have amh:¬og=g2:=fun h=>hgg h.symm;have GC:=ag qK.out;by_cases hcc:u.c+y.is.c<=1073741824
        ·obtain⟨rfl,rfl⟩:=Prod.mk.inj (ze.symm.trans (qh qK.2.1 qK.2.2.1 hcc).1);have ZW:=ag (qK.2.2.2.1 hcc);have Gx:=J8 wc (u.join y.is) yq;generalize u.join y.is=J at *;have Gx:=ag Gx;clear hcc ze HMG qK GC J8;go_wp2_with fail;go_roundg (l.length-(q+1))
         case measure=>omega
         case rel=>exact⟨q+1,_,Vg,rfl,by go_num,Gx,ZW,ag (by
          have hlo:wo<=og:=(yq.lt og rfl).1;exact(((((acj.setCell (p:=⟨og,_,none⟩) hlo _).setCell (p:=⟨og,_,none⟩) hlo _).setCell (p:=⟨og,_,none⟩) hlo _).setCell (p:=⟨og,_,none⟩) hlo _).setCell (p:=⟨og,_,none⟩) hlo _).setCell (p:=⟨og,_,none⟩) hlo _)⟩
        ·obtain⟨rfl,rfl⟩:=Prod.mk.inj (ze.symm.trans ((iL qK.2.1 qK.2.2.1).trans (ar hcc)));have qA:=ag (show tL ns fl l from .inl ⟨k,hlt,qK.1,by rw [HS];exact qK.2.2.2.2 hcc⟩);have Xj:=ag (HM.later acj);obtain⟨r0,r1,r2,r3,r4,r5,r6,r7,rf⟩:=Xj.zero;clear hcc ze HMG qK GC J8;go_wp2_with fail;exact bW (v:= .tuple #[ey,af 7]) (by simp [results,Tryz.results87,go_sem, *]) rfl ⟨dw Xj.below aO _ _ _ _ _ _ _ _, .inl ⟨7,bY,rfl,qA⟩⟩
      ·have e3:(zz.key == P)=false:=(by simpa using hkk);have GZ:=ag (HNJ ai);clear VO HNJ J8 hkk;go_upto_region 11 with (fail);refine eA [(0,1),(1,1),(2,1),(3,1),(4,1),(5,1),(6,1),(7,0),(8,1),(9,0),(10,1),(11,3)] 11
        (fun W=>(W,yb,0,P)/\(W,og,j*7,zz.key)) cV cV ⟨z0,o0⟩ ?_
       (simp only [bV,List.filterMap_cons,List.filterMap_nil,List.getElem?_cons_zero,List.getElem?_cons_succ,Option.map_some])
       (repeat (first|refine lh ?_|refine lg ?_|refine kZ ?_);(try simp only [Act.put,List.setIfInBounds_toArray,List.set_cons_zero,List.set_cons_succ]))
       refine jk ?_ (fun K hK=>?_)
       (focus (first|exact bM rfl _|exact eK rfl rfl rfl rfl))
       go_simp;refine hK _ _ ?_;clear hK K;refine jU ?_;have Ko:aq wo V2:=(aF HB.out oL RZ);have ah7:=Ko.size;go_wp2_with ((at_builtin;refine cg rfl (.tmp 78) (.tmp 80) rfl wo _ es rfl jY ⟨_,0,none⟩ ⟨P,y.is⟩ rfl (fun j u h=>ik h) hes dI ?_;intro v3 w3 qd hg3;have hb3:=hg3 wo wo aj aO));go_roundg (l.length-(q+1))
       case measure=>omega
       case rel=>exact⟨q+1,_,Vg,rfl,by go_num,qd,GZ,ag hb3⟩
    ·have hqe:q=l:=ai;subst hqe;have RZ:=HB.out.size;have afU:=HM.size;have hMi:=HI.out;have hre:=hMi.KW PY HR;have Ub:=ag (xL (hown.at ai));have hok0:=ag (aJ HB.out hMi);clear hown HL jA;go_upto_region 19 with (go_at_call 79;(with_reducible refine Ub.out.mono ?_);rintro e w5 ⟨cy,ot,tn,tc,rt,E2,rfl,hform⟩;have HFM:=ag hform;clear hform);obtain⟨V5,hV5⟩:=cd (w5.alloc (.cells #[ah ot tn tc,af rt] 27));have lI:aq w5 V5:=(by rw [hV5];exact aj);have k5:V5.heap[w5.heap.size]?=some (.cells #[ah ot tn tc,af rt] 27):=(by rw [hV5];exact au _ _ rfl);have vQ:V5=w5.heap.size+1:=(by rw [hV5];simp);have yG:aq wo V5:=aF (aF HB.out cy RZ) lI (by have:=cy.size;omega);have HM5:=ag (HM.later yG);have GC:=ag (show aQ (wr+1) w5 V5 from aQ.of lI aO);obtain⟨t0,t1⟩:V5.cell? (w5,0)=some (ah ot tn tc)/\(V5,w5.heap.size,1,rt):=(by simp [World.cell?,k5]);obtain⟨r0,r1,r2,r3,r4,r5,r6,r7,rf⟩:=HM5.zero;rw [<-hV5];obtain⟨qb,hqb⟩:=bG (w5.heap.size);have HW5:=ag cy;rw [hqb]at t0 t1 ⊢;have hqn:qb≠w+1:=(by have:=cy.size;omega);have alH:¬w+1=qb:=ai;clear hV5 lI k5 vQ yG cy hqb Ub;by_cases hE1:E2=1
     ·have qA:=ag (show tL ns fl l by
       rcases HFM.out with ⟨h1,-,-,-,-,h2⟩|⟨h1,-⟩
       ·exact .inr (.inl ⟨k,es,hlt,by rw [HS];exact hMi,by rcases h2 with h2|h2;exact .inl (h2▸h1);exact .inr h2.2⟩)
       ·omega)
      subst hE1;clear HFM;go_wp2_with fail;exact bW (v:= .tuple #[ey,af 1]) (by simp [results,Tryz.results87,go_sem, *]) rfl ⟨dw HM5.below aO _ _ _ _ _ _ _ _, .inl ⟨1,bY,rfl,qA⟩⟩
     ·by_cases hE0:E2=0
      ·subst hE0;obtain⟨t,ht,hmd⟩:∃t,(∀w'',aQ (wr+1) w5 w''->di w'' (.agg #[ah ot tn tc,af rt]) t)/\Made es t:=by
        rcases HFM.out with ⟨h1,-⟩|⟨-,-,t,h2,h3⟩
        ·exact absurd rfl h1
        ·exact⟨t,h2,h3⟩
       have HST:=ag (HM5.step hlt (B:=wr.heap.size+1) ai GC ht (by rw [HS];exact hMi) hmd);obtain⟨-,⟨u1,c1⟩,⟨u2,c2⟩⟩:=HM5.at hlt;have cf:=HM5.cells.2.2.2.2.2.2.2.2;have Yk:IntKind.i64.wrap ((k:Int)+1)=(k:Int)+1:=bI _ ai;clear HFM ht hmd r0 r1 r2 r3 r4 r5 r6 r7 rf hE1;go_wp2_with fail;go_roundg (3-(k+1))
       case measure=>omega
       case rel=>exact⟨k+1,ai,rfl,by go_num,ag ⟨_,_,_,_,_,HST⟩⟩
      ·have qA:=ag (show tL ns fl l by
        rcases HFM.out with ⟨h1,-,-,-,-,h2⟩|⟨h1,-⟩
        ·exact .inr (.inl ⟨k,es,hlt,by rw [HS];exact hMi,by rcases h2 with h2|h2;exact .inl (h2▸h1);exact .inr h2.2⟩)
        ·omega)
       have e1:(E2 == 1)=false:=(by simpa using hE1);have e0:(E2 != 0)=true:=(by simpa using hE0);clear HFM;go_wp2_with fail;exact bW (v:= .tuple #[ey,af 7]) (by simp [results,Tryz.results87,go_sem, *]) rfl ⟨dw HM5.below aO _ _ _ _ _ _ _ _, .inl ⟨7,bY,rfl,qA⟩⟩
  ·obtain rfl:k=3:=ai;obtain⟨q0,q1,q2,hbase⟩:=hm.base;obtain⟨b0,b1,b2,b3,b4,b5,b6,b7,bf⟩:=hm.cells;rw [q0]at b2;rw [q1]at b4;rw [q2]at b6;have Z0:=ag hbase;have HST:=ag (fun W (hb:aq w W)=>HN.below hb aO);have jD:=ag (gP (hbase wo (HN.below hm.below aO) (aQ.refl _ _)) ry.1 (ry.2.below hm.below));clear hm hbase q0 q1 q2;by_cases tX:aS ⟨ns,T 0,T 1,T 2,fl⟩=true
   ·rw [show mS ⟨ns,T 0,T 1,T 2,fl⟩=0 by unfold mS;rw [aw tX]]at jD;have qK:=ag (show zY ns fl l T from ⟨tX,fun k hk=>(HM.tr k hk).1⟩);clear tX;go_upto_region 27 with (go_at_call 66;(with_reducible refine jD.out.mono ?_);rintro e w6 ⟨rfl,ji⟩);have ZQ:=ag (HM.later ji);have HK6:=ag (aQ.of (M:=w.heap.size+2) ji aO);obtain⟨r0,r1,r2,r3,r4,r5,r6,r7,rf⟩:=ZQ.zero;clear b0 b1 b2 b3 b4 b5 b6 b7 bf ji;obtain⟨q0,q1,q2,-⟩:=ZQ.base;obtain⟨b0,b1,b2,b3,b4,b5,b6,b7,bf⟩:=ZQ.cells;rw [q0]at b2;rw [q1]at b4;rw [q2]at b6;have hne:w≠w.heap.size+1:=ai;have alT:¬w+1=w.heap.size:=ai;clear q0 q1 q2;go_wp2_with fail;exact bW (v:= .tuple #[.agg (aL sn ns sc (g 0) (n 0) (c 0) (g 1) (n 1) (c 1) (g 2) (n 2) (c 2) ⟨ns,T 0,T 1,T 2,fl⟩),af 0]) (by simp [results,Tryz.results87,go_sem, *]) rfl ⟨dw ZQ.below aO _ _ _ _ _ _ _ _, .inr ⟨sn,sc,_,_,_,_,_,_,_,_,_,T,rfl,rfl,qK,fun w'' hs hw=>Z0 w'' hs (HK6.trans ((zE ai _ _ _ _ _ _ _ _).trans hw))⟩⟩
   ·rw [show mS ⟨ns,T 0,T 1,T 2,fl⟩=7 by unfold mS;rw [ar tX]]at jD;have qA:=ag (show tL ns fl l from .inr (.inr ⟨T,fun k hk=>(HM.tr k hk).1,by simpa using tX⟩));clear tX;go_upto_region 26 with (go_at_call 66;(with_reducible refine jD.out.mono ?_);rintro e w6 ⟨rfl,ji⟩);have ZQ:=ag (HM.later ji);obtain⟨r0,r1,r2,r3,r4,r5,r6,r7,rf⟩:=ZQ.zero;clear b0 b1 b2 b3 b4 b5 b6 b7 bf ji;go_wp2_with fail;exact bW (v:= .tuple #[ey,af 7]) (by simp [results,Tryz.results87,go_sem, *]) rfl ⟨dw ZQ.below aO _ _ _ _ _ _ _ _, .inl ⟨7,bY,rfl,qA⟩⟩
section
variable {fl:Int} {ns:List ByteArray} {l:List aH}
theorem Fit.aI (h:Fit ns fl l):∀e∈l,DI e:=fun e he=>by
 obtain⟨h1,h2⟩:=dC (h.good.1 e he).2 (h.good.1 e he).1;obtain⟨k1,k2⟩:=h.good.2.1 e he;obtain⟨-,-,ht⟩:=h.ok e he;have hs:=uH h1 h2;obtain⟨q0,q1,q2,q3,q4,q5,q6,q7,q8,-⟩:=h1;exact⟨k1,k2,q0,ai,ht,ai,ai,ai,ai⟩
theorem xY {s:ByteArray} (h:dt s=true):s.size<=10:=by
 simp [dt]at h;omega
theorem Gk (ns:List ByteArray) (fl:Int) (l:List aH):aX (fH ns fl l):=by
 have h:=AH ⟨ns,default,default,default,fl⟩ l;rw [Fa]at h;exact h
theorem Jr (ns:List ByteArray) (fl:Int) (l:List aH):aX (fH ns fl l++mJ (fH ns fl l)):=(Gk ns fl l).app (KU _)
theorem Fit.short (h:Fit ns fl l) (hl:l.length<=500):(fH ns fl l++mJ (fH ns fl l)).length<=100000:=by
 have h1:=yJ (last:=0) h.good (Int.le_refl 0);have h2:=vN (ns:=ns) fun s hs=>xY (h.may s hs);have h3:=h.n16;have h4:=cY (n:=ns.length) ai;have h5:=cY (n:=fl.toNat) (by have:=h.f0;omega);have h6:=cY (n:=l.length) ai;rw [dF,Hd];unfold fH;simp only [dF,gD,List.length_nil];omega
theorem Fit.dec (h:Fit ns fl l) (hl:l.length<=500) {bs:List Int} (hbs:bs=fH ns fl l++mJ (fH ns fl l)) :
  wu bs=0/\(dL (bT bs)).2=ns/\(dL (bT bs)).1.num.2=fl/\(gG (bT bs)).2=l:=
 SC h.n16 (fun s hs=>xY (h.may s hs)) h.f0.1 (by have:=h.f0;omega) ai h.aI h.KW hbs (by have:=h.short hl;rw [hbs];omega)
end
end Go.Proofs.YtmljjfhgciaceaaGreatDoor
