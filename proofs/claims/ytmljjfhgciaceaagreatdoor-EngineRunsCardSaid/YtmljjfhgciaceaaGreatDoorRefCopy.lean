import Derived.Test.YtmljjfhgciaceaaGreatDoorHd
import Derived.Test.YtmljjfhgciaceaaGreatDoorCz
import Derived.Test.YtmljjfhgciaceaaGreatDoorBK
import Derived.Test.YtmljjfhgciaceaaGreatDoorKG
import Derived.Test.YtmljjfhgciaceaaGreatDoorPA
import Derived.Test.YtmljjfhgciaceaaGreatDoorSO
import Derived.Test.YtmljjfhgciaceaaGreatDoorSX
import Derived.Deep.DeepAppendWide
import Derived.Deep.CutBlock
import Derived.Lib.AppendZerosOnto
import Derived.Deep.AppendLies
import Derived.Test.YtmljjfhgciaceaaGreatDoorIG
import Derived.Test.YtmljjfhgciaceaaGreatDoorSP
import Derived.Test.YtmljjfhgciaceaaGreatDoorDG
namespace Go.Proofs.YtmljjfhgciaceaaGreatDoor
open Go.RowKit
set_option maxRecDepth 100000
set_option maxHeartbeats 4000000
variable {a:Act} {Q:Exit->Act->World->Prop} {r0:Int} {xs:List Nd} {B:Nat} {o:Oper} {α:Type} {nv:Value} {w:World}
theorem wR {ops:Array Oper} {rest:List Oper} (hgd:o.guard=none) (s x:Operand)
  (ho:o.op = .call { callee:= .builtin .append,args:=#[s,x],argTypes:=#[35,35] }) (B:Nat) (v:Value) (es:List aH) (hs:a.eval s=v) (hown:ay B w v es)
  (ad:Addr) (e:aH) (hx:a.eval x=ah (some ad) 1 1) (hnews:∀j u,(bu e)[j]?=some u->w.cell? (ad.add j)=some u) (hlen:(es.length+1)*56<=140737488351232) (hbase:B<=w)
  (h:∀v' w',ay B w' v' (es++[e])->(∀C W,Below C W w->C<=B->Below C W w')->wpList Tryz.prog ops Q rest (a.put o.dst v') w'):wpList Tryz.prog ops Q (o::rest) a w:=by
 obtain⟨i0,z,hi,hz,hz1,hz2,hz3⟩:=cG Tryz.IU;refine wpList_append_own w hgd s x 35 ho B 107 i0 z 7 56 Tryz.underlying35 hi hz hz1 hz2 hz3 bY v es _ hs hown.row ad 1 1 (bu e) hx rfl hnews (iW [e] |> fun h u hu=>h u (by simpa using hu)) iI ai hbase ?_;intro v' w' hown' hg _;refine h v' w' ?_ fun C W hb hC=>nP hb hg ai (fun j hj=>by have:=(hown.lt j hj).1;omega);have:(es++[e]).flatMap bu=es.flatMap bu++bu e:=bh;refine⟨?_⟩;rw [this,dF];exact hown'
theorem gu {k sz:Nat} {en:α->List Value} {t e:TypeId} {K:Act->World->Prop} (s x:Operand)
  (ho:o.op = .call { callee:= .builtin .append,args:=#[s,x],argTypes:=#[t,t] }) (i0:TypeInfo) (z:Value) (ht:Tryz.prog.underlying t=some (.slice e)) (hi:Tryz.prog.info? e=some i0) (hz:i0.zero=some z) (hz1:i0.size=k) (hz2:i0.bytes=sz) (hz3:z.cells.size=k) (hk:0<k) (hsz:0<sz/\sz<=200)
  (hen:∀x,(en x).length=k) (u:Value) (xs:List α) (hone:∀u∈xs.flatMap en,u.oneCell'=true) (hs:a.eval s=az 0 0) (hx:a.eval x=u) (hu:ct k sz en w u xs)
  (h:∀v' w',w'.ownsRow w e k v' xs (xs.flatMap en)->aq w w'->K (a.put o.dst v') w'):o.wp Tryz.prog a w K Q:=by
 obtain⟨ao,cap,rfl,h1,h2,h3,h4,h5⟩:=hu;have hfl:(xs.flatMap en).length=xs*k:=by
  clear h1 h2 h3 h4 h5 hx h hone
  induction xs with
  |nil=>simp
  |cons y l ih=>rw [fO,dF,ih,hen,gD,Nat.succ_mul];omega
 cases ao with
 |none=>
  have h0:xs.length=0:=by have:=h4 rfl;omega
  obtain rfl:=yX h0;have hc:cap=0:=h4 rfl;subst hc;have hr:∀ty,(Builtin.append_ #[t,t] ty #[.slice none 0 0, .slice none 0 0]).run Tryz.prog w = .ok (.slice none 0 0) w:=fun ty=>by
   simp [Builtin.append_,run_underlying ht,Go.sizeOf,typeInfo,hi,Builtin.lenOf,Builtin.firstCells]
  exact Go.Lib.wp_append_run w s x t t ho _ _ hs hx _ _ (hr _) (h _ _ (oV _ _ _ _) (aW _ _))
 |some ad=>
  have hle:xs<=xs*sz:=Nat.le_mul_of_pos_right _ hsz.1;refine Go.wp_append_own_wide w s x t ho w e i0 z k sz ht hi hz hz1 hz2 hz3 hk (az 0 0) 0 [] hs (oV _ _ _ _) ad xs cap (xs.flatMap en) hx hfl (fun j u hu=>?_) hone iI ?_ aO ?_
  ·have hj:j<xs*k:=by rw [<-hfl];exact(dW.1 hu).1
   have hpos:0<xs.length:=Nat.pos_of_ne_zero fun h0=>by rw [h0,Nat.zero_mul]at hj;omega
   exact(ct.news hen (ad:=ad) ⟨some ad,cap,rfl,h1,h2,h3,h4,h5⟩).2.2 j u hu
  ·have e1:(0+xs.length+(0+xs.length)/4+192)*sz=xs*sz+xs/4*sz+192*sz:=by rw [iR,Nat.add_mul,Nat.add_mul]
   have e2:4*(xs.length/4*sz)<=xs*sz:=by rw [<-Nat.mul_assoc];exact Nat.mul_le_mul_right _ ai
   rw [e1];have:=hsz.2;omega
  ·intro v' w' hown hg _;rw [iR,List.nil_append]at hown;exact h v' w' hown (nP (aW _ _) hg aO (fun j hj=>by cases hj))
theorem qZ {v:Value} {xs:List aH} (h:cX w v xs) :
  Calls Tryz.prog 91 #[v] w fun e w'=>∃v',e = .returned v'/\ay w w' v' xs/\aq w w':=by
 obtain⟨ao,cap,rfl,h1,h2,h3,h4,h5⟩:=h;go_enter Tryz.func91,Tryz.ntmps91;go_upto_region 3 with (fail)
 go_loopg [3,4] xs (fun g out i wr=>∃k:Nat,k<=xs/\g=xs-k/\i=af k/\ay w wr out (xs.take k)/\aq w wr)
 case atStart=>exact⟨0,eY _,rfl,rfl,ay.nil _ _,aW _ _⟩
 case round=>
  obtain⟨k,hk,rfl,rfl,ho,hb⟩:=hrel;obtain⟨so,sc,rfl⟩:=ho.isSlice;have hkl:(xs.take k).length=k:=by rw [gh];omega
  by_cases hlt:k<xs
  ·obtain⟨ab,aR,rfl,qy,ac⟩:=h5 ai;have tz:(k:Int)<(xs.length:Int):=ai;obtain⟨c0,c1,c2,c3,c4,c5,c6⟩:=br hb qy ac hlt;have Ev:=ag (ja hlt);obtain⟨x,hx⟩:=bG (xs[k]);rw [hx]at c0 c1 c2 c3 c4 c5 c6 Ev;have jA:=fun w'=>cN (ab:=ab) (aR:=aR) (n:=xs.length) (cap:=cap) (show (k:Int)=((k:Nat):Int) by rfl) hlt w';have HO:=ag ho;have HZ:=ag hb.size;have HL:=ag (show ((xs.take k).length+1)*56<=140737488351232 by omega);clear ac h5 hx ho hkl;go_wp2_with (at_builtin;refine wR rfl (.tmp 11) (.tmp 16) rfl w _ (xs.take k) rfl (HO.alloc _) ⟨_,0,none⟩ x rfl (fun j u h=>ik h) HL (by have:=HZ.out;simp;omega) ?_;intro v4 w4 Cl hg4;have hb4:=hg4 w w (hb.alloc HZ _) aO);go_roundg (xs-(k+1))
   case measure=>omega
   case rel=>exact⟨k+1,ai,rfl,by go_num,by rw [Ev];exact Cl,hb4⟩
  ·obtain rfl:k=xs:=ai;rw [List.take_length]at ho;rw [hkl];go_wp2_with fail;go_ret;exact⟨_,rfl,ho,hb⟩
structure MI (w:World) (nv:Value) (xs:List Nd) (r0:Int) (k:Nat) (ov:Value) (wr:World):Prop where
 below:aq w wr
 size:w+3<=wr.heap.size
 box:wr.heap[w.heap.size]?=some (.cells #[nv,af r0] 27)
 res:wr.heap[w.heap.size+1]?=some (.cells #[az 0 0,af 0] 27)
 out:wr.heap[w.heap.size+2]?=some (.cells #[ov,af r0] 27)
 own:∃rs':List Raw,wr.ownsRow (w+3) 125 5 ov k (rs'.flatMap bS)/\Fs (w+3) wr rs' (xs.take k)/\∀b,Fb rs' b->ov.ownBlock≠some b
theorem MI.step {wr w5 wA wE:World} {k:Nat} {ov UF:Value} {rn:Raw} {xk:Nd} {rs':List Raw} (h:MI w nv xs r0 k ov wr) (hrs:wr.ownsRow (w+3) 125 5 ov k (rs'.flatMap bS)) (hold:Fs (w+3) wr rs' (xs.take k))
  (hoff:∀b,Fb rs' b->ov.ownBlock≠some b) (hxk:xs[k]?=some xk)
  (h5:aq wr w5) (hA:aq w5 wA) (hN:gQ w5 wA rn xk/\∀f g b,(rn.iQ f).ownBlock=some b->(rn.iQ g).ownBlock=some b->f=g) (hE:∀b,b<wA.heap.size->b≠w.heap.size+2->ov.ownBlock≠some b->wE.heap[b]?=wA.heap[b]?)
  (hz:wA<=wE.heap.size) (hb:aq w wE) (hout:wE.heap[w.heap.size+2]?=some (.cells #[UF,af r0] 27)) (hown:wE.ownsRow (w+3) 125 5 UF (k+1) (rs'.flatMap bS++bS rn)) (hv:∀b,UF.ownBlock=some b->ov.ownBlock=some b\/wA.heap.size<=b) :
  MI w nv xs r0 (k+1) UF wE:=by
 have hs:=h.size;have hs5:=h5.size;have hsA:=hA.size;have hol:∀b,ov.ownBlock=some b->w.heap.size+3<=b/\b<wr.heap.size:=hrs.lt;have hfl:=hold.lt;have hfn:∀b,Fb [rn] b->w5.heap.size<=b/\b<wA.heap.size:=by
  rintro b ⟨i,r,f,hr,hb⟩
  cases i with
  |zero=>obtain rfl:rn=r:=(by simpa using hr);exact(hN.1.row f).lt b hb
  |succ i=>simp at hr
 have keep:∀b,b<wr.heap.size->b≠w.heap.size+2->ov.ownBlock≠some b->wE.heap[b]?=wr.heap[b]?:=fun b h1 h2 h3=>(hE b ai h2 h3).trans ((hA.block b ai).trans (h5.block b h1));have hne:∀b,b<w.heap.size+3->ov.ownBlock≠some b:=fun b h1 h2=>by have:=(hol b h2).1;omega
 have hnw:∀b,w5.heap.size<=b->ov.ownBlock≠some b:=fun b h1 h2=>by have:=(hol b h2).2;omega
 refine⟨hb,ai,(keep _ ai ai (hne _ ai)).trans h.box,(keep _ ai ai (hne _ ai)).trans h.res,hout,rs'++[rn],by simpa using hown,?_,fun b hf hv'=>?_⟩
 ·have hk:=(dW.1 hxk).1;have e:xs.take (k+1)=xs.take k++[xk]:=by rw [ja hk,(dW.1 hxk).2]
  rw [e];refine(hold.world fun b hf=>keep b (hfl b hf).2 (by have:=(hfl b hf).1;omega) (hoff b hf)).app ((Fs.one (hN.1.block fun f b hb=>hE b (((hN.1.row f).lt b hb).2) (by have:=((hN.1.row f).lt b hb).1;omega) (hnw b ((hN.1.row f).lt b hb).1)) hN.2).mono ai) fun b h1 h2=>?_;have:=(hfl b h1).2;have:=(hfn b h2).1;omega
 ·obtain⟨i,r,f,hr,hb'⟩:=hf;have hc:Fb rs' b\/Fb [rn] b:=by
   by_cases hi:i<rs'
   ·rw [rE hi]at hr;exact .inl ⟨i,r,f,hr,hb'⟩
   ·rw [xw ai]at hr;exact .inr ⟨_,r,f,hr,hb'⟩
  rcases hv b hv' with e|e
  ·rcases hc with hc|hc
   ·exact hoff b hc e
   ·exact hnw b (hfn b hc).1 e
  ·rcases hc with hc|hc
   ·have:=(hfl b hc).2;omega
   ·have:=(hfn b hc).2;omega
theorem L9 {w6 w7 w8 w9:World} {x:Nd} {r:Raw} (hl:r.leaf=x.leaf) (o6:ay B w6 r.ev x.aI) (o7:w7.ownsRow w6 3 1 r.kv x.keys (x.keys.flatMap bP)) (o8:w8.ownsRow w7 3 1 r.dv x.kids (x.kids.flatMap bP))
  (o9:ay w8 w9 r.bv x.buf) (b6:aq w6 w7) (b7:aq w7 w8) (b8:aq w8 w9) (hB:B<=w6):gQ B w9 r x/\∀f g b,(r.iQ f).ownBlock=some b->(r.iQ g).ownBlock=some b->f=g:=by
 have s6:=b6.size;have s7:=b7.size;have s8:=b8.size;refine⟨gQ.of hl (o6.below (aF b6 (aF b7 b8 b7.size) b6.size) aO).row (cF (cL o7 (aF b7 b8 b7.size)) hB) (cF (cL o8 b8) ai) (cF o9.row ai),fun f g b hf hg=>?_⟩;have q:∀k,(r.iQ k).ownBlock=some b->(k=0/\b<w6)\/(k=1/\w6<=b/\b<w7)\/(k=2/\w7<=b/\b<w8)\/(k=3/\w8<=b):=fun k hk=>by
  rcases mA k 4 with h4|h4
  ·rcases xg h4 with rfl|rfl|rfl|rfl
   ·exact .inl ⟨rfl,(o6.row.lt b hk).2⟩
   ·exact .inr (.inl ⟨rfl,o7.lt b hk⟩)
   ·exact .inr (.inr (.inl ⟨rfl,o8.lt b hk⟩))
   ·exact .inr (.inr (.inr ⟨rfl,(o9.row.lt b hk).1⟩))
  ·rw [Raw.iH _ h4]at hk;cases hk
 have:=q f hf;have:=q g hg;omega
theorem ay.Gp {M:Nat} {w'':World} {v:Value} {es:List aH} (h:ay B w v es) (hM:M<=B) (hs:es.length*56<=140737488351232) (hk:aQ M w w''):cX w'' v es:=ct.owned cO (iU h.row hk hM) rfl hs
theorem ct.size {k sz:Nat} {en:α->List Value} {v:Value} {xs:List α} (h:ct k sz en w v xs):xs*sz<=140737488351232:=by obtain⟨_,_,_,_,_,h,_⟩:=h;exact h
theorem Ht (h:bn w nv xs) :
  Calls Tryz.prog 92 #[.agg #[nv,af r0]] w fun e w'=>∃ao cap,e = .returned (.agg #[ah ao xs cap,af r0])/\(∃rs',w'.ownsRow w 125 5 (ah ao xs cap) xs (rs'.flatMap bS)/\Fs w w' rs' xs/\∀b,Fb rs' b->(ah ao xs cap).ownBlock≠some b)/\aq w w':=by
 obtain⟨rs,hs,hr⟩:=id h;have hsz:=hs.size;have hmax:rs.length<=9223372036854775806:=ai;obtain⟨ao,cap,rfl⟩:=hs.isSlice;obtain⟨W1,hW1⟩:=cd (((w.alloc (.cells #[ah ao rs cap,af r0] 27)).alloc (.cells #[az 0 0,af 0] 27)).alloc (.cells #[az 0 0,af r0] 27));have HI:=ag (show MI w (ah ao rs cap) xs r0 0 (az 0 0) W1 from by
  rw [hW1];refine⟨aj,bh,?_,?_,au _ _ bh,[],oV _ _ _ _,Fs.nil,fun b ⟨i,r,f,hr,_⟩=>by simp at hr⟩
  ·rw [gy _ _ _ fk,gy _ _ _ bh];exact au _ _ rfl
  ·rw [gy _ _ _ bh];exact au _ _ bh)
 clear h;go_enter Tryz.func92,Tryz.ntmps92;go_upto_region 3 with (fail);rw [<-hW1];clear hW1
 go_loopg [4] rs (fun g c wr=>∃k ov,k<=rs.length/\g=rs.length-k/\c=af (k:Nat)/\Hid (MI w (ah ao rs cap) xs r0 k ov wr))
 case atStart=>exact⟨0,_,eY _,rfl,rfl,HI⟩
 case round=>
  obtain⟨k,ov,hk,rfl,rfl,HR⟩:=hrel;clear HI;have LX:=HR.out.box;obtain⟨b0,b1⟩:wr.cell? (w,0)=some (ah ao rs cap)/\(wr,w.heap.size,1,r0):=by simp [World.cell?,LX]
  clear LX;by_cases hlt:k<rs
  ·obtain⟨_,_,hv,-,-,-,-,h5⟩:=hs;injection hv with hv1 _ hv3;subst hv1 hv3;obtain⟨ab,aR,rfl,qy,ac⟩:=h5 ai;have tz:(k:Int)<(rs.length:Int):=ai;have LI:rs[k]?=some rs[k]:=by simp [hlt]
   have Qc:k<xs:=by rw [<-hr.1];exact hlt
   have hxk:xs[k]?=some xs[k]:=by simp [Qc]
   obtain⟨c0,c1,c2,c3,c4⟩:=K5 HR.out.below qy ac LI;have hN:=hr.2 k _ _ LI hxk;obtain⟨rk,O5⟩:=bG (rs[k]);obtain⟨xk,IW⟩:=bG (xs[k]);rw [O5]at c0 c1 c2 c3 c4 hN;rw [IW]at hN hxk;obtain⟨lf,ev,kv,dv,bv⟩:=rk;obtain⟨O8,hE,hK,hD,hB⟩:=hN;simp only at c0 c1 c2 c3 c4 O8 hE hK hD hB;obtain⟨a1,n1,rfl⟩:=hE.isSlice;obtain⟨a2,n2,rfl⟩:=hK.isSlice;obtain⟨a3,n3,rfl⟩:=hD.isSlice;obtain⟨a4,n4,rfl⟩:=hB.isSlice;subst O8;obtain⟨rs',hown,hold,hoff⟩:=HR.out.own;have HOW:=ag (aJ hown (aJ hold hoff));have HXK:=ag hxk;clear hown hold hoff;have Ke:=ag (aJ hE (aJ hK (aJ hD hB)));clear LI O5 hxk IW ac h5 hE hK hD hB Qc;go_upto_region 6 with (fail);obtain⟨W5,mD⟩:=cd (wr.alloc (.cells #[Value.bool xk.leaf,ah a1 xk.aI n1,ah a2 xk.keys n2,ah a3 xk.kids n3,ah a4 xk.buf n4] 125));have cy:aq wr W5:=by rw [mD];exact aj
   have k5:W5.heap[wr.heap.size]?=some (.cells #[Value.bool xk.leaf,ah a1 xk.aI n1,ah a2 xk.keys n2,ah a3 xk.kids n3,ah a4 xk.buf n4] 125):=by rw [mD];exact au _ _ rfl
   have vQ:wr<W5.heap.size:=by rw [mD];simp
   have Vb:=HR.out.size;have HS:=ag fun W (hb:aq W5 W)=>(by
    have e1:=(hb.block wr vQ).trans k5;have e2:=(hb.block (w+2) ai).trans ((cy.block (w+2) ai).trans HR.out.out);simp [World.cell?,e1,e2]:W.cell? (w,2,0)=some ov/\W.cell? (wr,0)=some (.bool xk.leaf)/\W.cell? (wr,1)=some (ah a1 xk.aI n1)/\W.cell? (wr,2)=some (ah a2 xk.keys n2)/\W.cell? (wr,3)=some (ah a3 xk.kids n3)/\W.cell? (wr,4)=some (ah a4 xk.buf n4))
   have S6:=ag (aF HR.out.below cy HR.out.below.size);have GF:=ag cy;have ZU:=ag k5;have HZ5:=ag vQ;rw [<-mD];clear mD cy k5 vQ Vb b0 b1 c0 c1 c2 c3 c4;refine bN [(0,1),(1,0),(2,1),(3,0),(4,1),(5,0),(7,1),(8,0),(10,1),(11,0),(13,1),(14,0),(6,2),(9,2),(12,2),(15,2),(16,1),(17,2),(18,2),(19,1),(20,3)] 20 (fun W=>W.cell? (w,2,0)=some ov/\W.cell? (wr,0)=some (.bool xk.leaf)/\W.cell? (wr,1)=some (ah a1 xk.aI n1)/\W.cell? (wr,2)=some (ah a2 xk.keys n2)/\W.cell? (wr,3)=some (ah a3 xk.kids n3)/\W.cell? (wr,4)=some (ah a4 xk.buf n4)) cV cV (HS _ (aW _ _).drew) ?_
   (simp only [bV,List.filterMap_cons,List.filterMap_nil,List.getElem?_cons_zero,List.getElem?_cons_succ,Option.map_some])
   (repeat first|refine bg ?_|refine aZ ?_)
   have B0:aq W5 W5.drew:=(aW _ _).drew;obtain⟨ii,iz,i1,i2,i3,i4,i5⟩:=cG Tryz.FU;have lu:=ag (aJ i1 (aJ i2 (aJ i3 (aJ i4 i5))));clear i1 i2 i3 i4 i5;have HE:=ag (qZ (Ke.1.below (aF S6 B0 S6.size) aO));refine aP rfl (fun K hK=>?_);go_simp
   (with_reducible refine HE.out.mono ?_);rintro x w6 ⟨v6,rfl,sM,ji⟩
   obtain⟨e6,m6,rfl⟩:=sM.isSlice;have pM:=ag (show aq W5 w6 from aF B0 ji aO);have HO6:=ag (sM.mono (C:=W5.heap.size) aO);go_simp;refine hK _ _ (HS _ pM) ?_;clear hK K HE ji sM B0
   (repeat first|refine bg ?_|refine aZ ?_)
   refine aP rfl (fun K hK=>?_);refine gu (.const (az 0 0)) (.tmp 29) rfl ii iz Tryz.underlying52 lu.1 lu.2.1 lu.2.2.1 lu.2.2.2.1 lu.2.2.2.2 bY bY fS _ xk.keys (nM _) rfl rfl (Ke.2.1.below (aF S6 pM S6.size) aO) ?_;intro v7 w7 Ny ow;obtain⟨e7,m7,rfl⟩:=aU Ny;have zn:=ag (aF pM ow pM.size);have HO7:=ag Ny;have HT7:=ag ow;refine hK _ _ (HS _ zn) ?_;clear hK K Ny ow
   (repeat first|refine bg ?_|refine aZ ?_)
   refine aP rfl (fun K hK=>?_);refine gu (.const (az 0 0)) (.tmp 32) rfl ii iz Tryz.underlying52 lu.1 lu.2.1 lu.2.2.1 lu.2.2.2.1 lu.2.2.2.2 bY bY fS _ xk.kids (nM _) rfl rfl (Ke.2.2.1.below (aF S6 zn S6.size) aO) ?_;intro v8 w8 yr jf;obtain⟨e8,m8,rfl⟩:=aU yr;have BG:=ag (aF zn jf zn.size);have HO8:=ag yr;have HT8:=ag jf;refine hK _ _ (HS _ BG) ?_;clear hK K yr jf
   (repeat first|refine bg ?_|refine aZ ?_)
   have HE:=ag (qZ (Ke.2.2.2.below (aF S6 BG S6.size) aO));refine aP rfl (fun K hK=>?_);go_simp
   (with_reducible refine HE.out.mono ?_);rintro x w9 ⟨v9,rfl,RD,kS⟩
   obtain⟨e9,m9,rfl⟩:=RD.isSlice;have DW:=ag (aF BG kS BG.size);have HN9:=ag (L9 (x:=xk) (r:=⟨xk.leaf,ah e6 xk.aI m6,ah e7 xk.keys m7,ah e8 xk.kids m8,ah e9 xk.buf m9⟩) rfl HO6 HO7 HO8 RD HT7 HT8 kS pM.size);go_simp;refine hK _ _ (HS _ DW) ?_;clear hK K HE kS RD
   (repeat first|refine bg ?_|refine aZ ?_)
   refine aP rfl (fun K hK=>?_);go_simp;have Sd:=GF.out;have NB:=DW.out;have Vb:=HR.out.size;have hs5:=Sd.size;have hs9:=NB.size;obtain⟨wB,hwB⟩:=cd (w9.alloc (.cells #[.bool xk.leaf,ah e6 xk.aI m6,ah e7 xk.keys m7,ah e8 xk.kids m8,ah e9 xk.buf m9] 125));have kB:wB.heap[w9.heap.size]?=some (.cells #[.bool xk.leaf,ah e6 xk.aI m6,ah e7 xk.keys m7,ah e8 xk.kids m8,ah e9 xk.buf m9] 125):=by rw [hwB];exact au _ _ rfl
   have F6:aq w9 wB:=by rw [hwB];exact aj
   have hzB:wB=w9.heap.size+1:=by rw [hwB];simp
   rw [<-hwB];refine hK _ _ (HS _ (aF NB F6 NB.size)) ?_;clear hK K hwB
   (repeat first|refine bg ?_|refine aZ ?_)
   have Wu:wB.ownsRow (w+3) 125 5 ov k (rs'.flatMap bS):=cL (cL (cL HOW.1 Sd) NB) F6;have hol:=HOW.1.lt;obtain⟨i0,z0,hi0,hz0,CI,CH,CG⟩:=qj;refine aP rfl (fun K hK=>?_);refine wp_append_lies _ (.tmp 22) (.tmp 38) 25 rfl (w.heap.size+3) 125 i0 z0 5 104 Tryz.underlying25 hi0 hz0 CI CH CG bY _ k _ rfl Wu ⟨w9.heap.size,0,none⟩ 1 1 (bS ⟨xk.leaf, .slice e6 xk.aI.length m6, .slice e7 xk.keys.length m7, .slice e8 xk.kids.length m8, .slice e9 xk.buf.length m9⟩) rfl rfl (World.news_of_block kB) ?hone bY (by unfold maxLen;omega) ai ai wB.heap.size rfl ?_
   case hone=>
    intro u hu;simp only [bS,fy,List.not_mem_nil,or_false]at hu;rcases hu with rfl|rfl|rfl|rfl|rfl <;> rfl
   intro g cap' mE uF kH yD I5;have aga:=kH.size;have vQ:=HZ5.out;have hin:∀b,b<w9.heap.size->ov.ownBlock≠some b->mE.heap[b]?=w9.heap[b]?:=fun b h1 h2=>(kH.block b ai fun e=>h2 e.symm).trans (F6.block b h1);have hnb:∀b,b<w.heap.size+3->ov.ownBlock≠some b:=fun b h1 h2=>by have:=(hol b h2).1;omega
   have hnw:ov.ownBlock≠some wr.heap.size:=fun h2=>by have:=(hol _ h2).2;omega
   have k10:=(hin _ ai (hnb (w+2) ai)).trans ((NB.block _ ai).trans ((Sd.block _ ai).trans HR.out.out));have n10:=(hin _ ai hnw).trans ((NB.block _ ai).trans ZU);refine hK _ _ (by simp [World.cell?,k10,n10]) ?_;clear hK K
   (repeat first|refine bg ?_|refine aZ ?_)
   have HST:=ag (show MI w (ah (some (ab,aR)) rs cap) xs r0 (k+1) (ah g (k+1) cap') (mE.setCell (w,2,0) (ah g (k+1) cap')) from
    MI.step HR.out HOW.1 HOW.2.1 HOW.2.2 HXK Sd NB HN9 (fun b h1 h2 h3=>(cH _ ⟨w.heap.size+2,_,none⟩ b _ h2).trans (hin b h1 h3)) (by simp only [aG];omega)
     ((nP (aF S6 (aF NB F6 NB.size) S6.size) kH (by have:=S6.size;omega) (fun j hj=>by have:=(hol j hj).1;omega)).setCell (by show w<=w.heap.size+2;omega) _)
     (by have:=aM (off:=0) (v:=ah g (k+1) cap') k10;simpa using this) (jy uF ai _)
     (fun b hb=>by have hb':some g=some b:=hb;injection hb' with hb';subst hb';rcases yD with e|e;exact .inl e;right;omega))
   obtain⟨t0,tf⟩:mE.cell? (w,2,0)=some ov/\∀o,mE.frozen? ⟨w.heap.size+2,o,none⟩=false:=by simp [World.cell?,World.frozen?,k10]
   clear uF kH yD I5 hin k10 n10 Wu hol kB F6 hzB hnb hnw aga vQ Sd NB Vb hs5 hs9 hi0 hz0 CI CH CG;refine bq rfl (fun K hK=>?_);go_simp;refine hK _ _ ?_;clear hK K;refine cC ?_;go_wp2_with fail;go_roundg (rs-(k+1))
   case measure=>omega
   case rel=>exact⟨k+1,_,ai,rfl,by go_num,HST⟩
  ·obtain rfl:k=rs:=ai;rw [hr.1]at HR;have hox:=HR.out.out;have hrx:=HR.out.res;obtain⟨rs',hown,Vh,hoff⟩:=HR.out.own;obtain⟨oo,oc,rfl⟩:=aU hown;obtain⟨o0,o1⟩:wr.cell? (w,2,0)=some (ah oo xs oc)/\(wr,w.heap.size+2,1,r0):=by simp [World.cell?,hox]
   obtain⟨q0,q1,qf⟩:wr.cell? (w,1,0)=some (az 0 0)/\(wr,w.heap.size+1,1)/\∀o,wr.frozen? ⟨w.heap.size+1,o,none⟩=false:=by simp [World.cell?,World.frozen?,hrx]
   have jQ:=ag (show (∃rs',((wr.setCell (w,1,0) (ah oo xs oc)).setCell (w,1,1) (af r0)).ownsRow w 125 5 (ah oo xs oc) xs (rs'.flatMap bS)/\Fs w ((wr.setCell (w,1,0) (ah oo xs oc)).setCell (w,1,1) (af r0)) rs' xs/\∀b,Fb rs' b->(ah oo xs oc).ownBlock≠some b)/\aq w ((wr.setCell (w,1,0) (ah oo xs oc)).setCell (w,1,1) (af r0))from by
    rw [List.take_length]at Vh;have hst:∀b,w.heap.size+3<=b->((wr.setCell (w,1,0) (ah oo xs oc)).setCell (w,1,1) (af r0)).heap[b]?=wr.heap[b]?:=fun b hb=>(cH _ ⟨w.heap.size+1,_,none⟩ b _ (by show b≠w.heap.size+1;omega)).trans (cH _ ⟨w.heap.size+1,_,none⟩ b _ (by show b≠w.heap.size+1;omega));exact⟨⟨rs',cF (bJ hown fun g hg=>hst g (hown.lt g hg).1) ai,(Vh.world fun b hf=>hst b (Vh.lt b hf).1).mono ai,hoff⟩,(HR.out.below.setCell bh _).setCell bh _⟩)
   clear hox hrx hown Vh hoff hr hs hsz HR;go_wp2_with fail;exact bW (v:= .agg #[ah oo xs oc,af r0]) (by simp [results,Tryz.results92,go_sem, *]) rfl ⟨_,_,rfl,jQ.1,jQ.2⟩
theorem bn.sizes {v:Value} (h:bn w v xs):xs.length*104<=140737488351232/\∀x∈xs,x.aI.length*56<=140737488351232/\x.keys.length*8<=140737488351232/\x.kids.length*8<=140737488351232/\x.buf.length*56<=140737488351232:=by
 obtain⟨rs,hs,hl,hr⟩:=h;refine⟨by rw [<-hl];exact hs.size,fun x hx=>?_⟩;obtain⟨i,hi⟩:=List.getElem?_of_mem hx;have hlt:=(dW.1 hi).1;have hri:rs[i]?=some (rs[i]'(by rw [hl];exact hlt)):=bh;have hn:=hr i _ x hri hi;exact⟨hn.aI.size,hn.keys.size,hn.kids.size,hn.buf.size⟩
end Go.Proofs.YtmljjfhgciaceaaGreatDoor
