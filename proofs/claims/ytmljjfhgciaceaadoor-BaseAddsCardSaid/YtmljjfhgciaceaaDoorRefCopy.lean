import Derived.Test.YtmljjfhgciaceaaDoorHd
import Derived.Test.YtmljjfhgciaceaaDoorBK
import Derived.Test.YtmljjfhgciaceaaDoorKG
import Derived.Test.YtmljjfhgciaceaaDoorPA
import Derived.Test.YtmljjfhgciaceaaDoorSO
import Derived.Test.YtmljjfhgciaceaaDoorSX
import Derived.Deep.DeepAppendWide
import Derived.Deep.CutBlock
import Derived.Lib.AppendZerosOnto
import Derived.Deep.AppendLies
import Derived.Test.YtmljjfhgciaceaaDoorIG
import Derived.Test.YtmljjfhgciaceaaDoorSP
namespace Go.Proofs.YtmljjfhgciaceaaDoor
open Go.RowKit
set_option maxRecDepth 100000
set_option maxHeartbeats 4000000
variable {a:Act} {Q:Exit->Act->World->Prop} {r0:Int} {xs:List Nd} {k sz B M:Nat} {o:Oper} {α:Type} {nv ov:Value} {w wr w'':World}
theorem aeC {ops:Array Oper} {rest:List Oper} (hgd:o.guard=none) (s x:Operand)
  (ho:o.op = .call { callee:= .builtin .append,args:=#[s,x],argTypes:=#[63,63] }) (B:Nat) (v:Value) (es:List aC) (hs:a.eval s=v) (hown:au B w v es)
  (ad:Addr) (e:aC) (hx:a.eval x = .slice (some ad) 1 1) (hnews:∀j u,(aZ e)[j]?=some u->w.cell? (ad.add j)=some u) (hlen:(es.length+1)*56<=140737488351232) (hbase:B<=w.heap.size)
  (h:∀v' w',au B w' v' (es++[e])->(∀C W,Below C W w->C<=B->Below C W w')->wpList Tryd.prog ops Q rest (a.put o.dst v') w'):wpList Tryd.prog ops Q (o::rest) a w:=by
 obtain⟨i0,z,hi,hz,hz1,hz2,hz3⟩:=cj Tryd.GH
 refine wpList_append_own w hgd s x 63 ho B 96 i0 z 7 56 Tryd.underlying63 hi hz hz1 hz2 hz3 aW v es.length _ hs hown.row ad 1 1 (aZ e) hx rfl hnews (jc [e] |> fun h u hu=>h u (by simpa using hu)) (by unfold maxLen;omega) af hbase ?_
 intro v' w' hown' hg _
 refine h v' w' ?_ fun C W hb hC=>Below.grown hb hg af (fun j hj=>by have:=(hown.lt j hj).1;omega)
 have:(es++[e]).flatMap aZ=es.flatMap aZ++aZ e:=bj
 refine⟨?_⟩
 rw [this,dO]
 exact hown'
theorem adt {en:α->List Value} {t e:TypeId} {K:Act->World->Prop} (s x:Operand)
  (ho:o.op = .call { callee:= .builtin .append,args:=#[s,x],argTypes:=#[t,t] }) (i0:TypeInfo) (z:Value) (ht:Tryd.prog.underlying t=some (.slice e)) (hi:Tryd.prog.info? e=some i0) (hz:i0.zero=some z) (hz1:i0.size=k) (hz2:i0.bytes=sz) (hz3:z.cells.size=k) (hk:0<k) (hsz:0<sz/\sz<=200)
  (hen:∀x,(en x).length=k) (u:Value) (xs:List α) (hone:∀u∈xs.flatMap en,u.oneCell'=true) (hs:a.eval s = .slice none 0 0) (hx:a.eval x=u) (hu:dK k sz en w u xs)
  (h:∀v' w',w'.ownsRow w.heap.size e k v' xs.length (xs.flatMap en)->ah w w'->K (a.put o.dst v') w'):o.wp Tryd.prog a w K Q:=by
 obtain⟨ao,cap,rfl,h1,h2,h3,h4,h5⟩:=hu
 have hfl:(xs.flatMap en).length=xs.length*k:=by
  clear h1 h2 h3 h4 h5 hx h hone
  induction xs with
  |nil=>simp
  |cons y l ih=>rw [gQ,dO,ih,hen,gp,Nat.succ_mul];omega
 cases ao with
 |none=>
  have h0:xs.length=0:=by have:=h4 rfl;omega
  obtain rfl:=wO h0
  have hc:cap=0:=h4 rfl
  subst hc
  have hr:∀ty,(Builtin.append_ #[t,t] ty #[.slice none 0 0, .slice none 0 0]).run Tryd.prog w = .ok (.slice none 0 0) w:=fun ty=>by
   simp [Builtin.append_,run_underlying ht,Go.sizeOf,typeInfo,hi,Builtin.lenOf,Builtin.firstCells]
  exact Go.Lib.wp_append_run w s x t t ho _ _ hs hx _ _ (hr _) (h _ _ (World.ownsRow_nil _ _ _ _) (aI _ _))
 |some ad=>
  have hle:xs.length<=xs.length*sz:=Nat.le_mul_of_pos_right _ hsz.1
  refine Go.wp_append_own_wide w s x t ho w.heap.size e i0 z k sz ht hi hz hz1 hz2 hz3 hk (.slice none 0 0) 0 [] hs (World.ownsRow_nil _ _ _ _) ad xs.length cap (xs.flatMap en) hx hfl (fun j u hu=>?_) hone (by unfold maxLen;omega) ?_ aH ?_
  ·have hj:j<xs.length*k:=by rw [<-hfl];exact(gJ.1 hu).1
   have hpos:0<xs.length:=Nat.pos_of_ne_zero fun h0=>by rw [h0,Nat.zero_mul]at hj;omega
   exact(dK.news hen (ad:=ad) ⟨some ad,cap,rfl,h1,h2,h3,h4,h5⟩).2.2 j u hu
  ·have e1:(0+xs.length+(0+xs.length)/4+192)*sz=xs.length*sz+xs.length/4*sz+192*sz:=by rw [iW,Nat.add_mul,Nat.add_mul]
   have e2:4*(xs.length/4*sz)<=xs.length*sz:=by rw [<-Nat.mul_assoc];exact Nat.mul_le_mul_right _ af
   rw [e1]
   have:=hsz.2
   omega
  ·intro v' w' hown hg _
   rw [iW,List.nil_append]at hown
   exact h v' w' hown (Below.grown (aI _ _) hg aH (fun j hj=>by cases hj))
theorem aeR {v:Value} {xs:List aC} (h:fu w v xs) :
  Calls Tryd.prog 68 #[v] w fun e w'=>∃v',e = .returned v'/\au w.heap.size w' v' xs/\ah w w':=by
 obtain⟨ao,cap,rfl,h1,h2,h3,h4,h5⟩:=h
 go_enter Tryd.func68,Tryd.ntmps68
 go_upto_region 3 with (fail)
 go_loopg [3,4] xs.length (fun g out i wr=>∃k:Nat,k<=xs.length/\g=xs.length-k/\i = .int .i64 k/\au w.heap.size wr out (xs.take k)/\ah w wr)
 case atStart=>exact⟨0,jd _,rfl,rfl,au.nil _ _,aI _ _⟩
 case round=>
  obtain⟨k,hk,rfl,rfl,ho,hb⟩:=hrel
  obtain⟨so,sc,rfl⟩:=ho.isSlice
  have hkl:(xs.take k).length=k:=by rw [eP];omega
  by_cases hlt:k<xs.length
  ·obtain⟨ab,aV,rfl,sO,ac⟩:=h5 af
   have zJ:(k:Int)<(xs.length:Int):=af
   obtain⟨c0,c1,c2,c3,c4,c5,c6⟩:=bU hb sO ac hlt
   have sS:=hdd (kK hlt)
   obtain⟨x,hx⟩:=bt (xs[k])
   rw [hx]at c0 c1 c2 c3 c4 c5 c6 sS
   have jS:=fun w'=>dw (ab:=ab) (aV:=aV) (n:=xs.length) (cap:=cap) (show (k:Int)=((k:Nat):Int) by rfl) hlt w'
   have HO:=hdd ho
   have HZ:=hdd hb.size
   have HL:=hdd (show ((xs.take k).length+1)*56<=140737488351232 by omega)
   clear ac h5 hx ho hkl
   go_wp2_with (at_builtin;refine aeC rfl (.tmp 11) (.tmp 16) rfl w.heap.size _ (xs.take k) rfl (HO.out.alloc _) ⟨_,0,none⟩ x rfl (fun j u h=>mO h) HL.out (by have:=HZ.out;simp;omega) ?_;intro v4 w4 pN hg4;have hb4:=hg4 w.heap.size w (hb.alloc HZ.out _) aH)
   go_roundg (xs.length-(k+1))
   case measure=>omega
   case rel=>exact⟨k+1,af,rfl,by go_num,by rw [sS.out];exact pN,hb4⟩
  ·obtain rfl:k=xs.length:=af
   rw [List.take_length]at ho
   rw [hkl]
   go_wp2_with fail
   go_ret
   exact⟨_,rfl,ho,hb⟩
def aiq (M:Nat) (v:Value) (w w':World):Prop:=w.heap.size<=w'.heap.size/\∀b,M<=b->b<w.heap.size->v.ownBlock≠some b->w'.heap[b]?=w.heap[b]?
structure afB (w:World) (nv:Value) (xs:List Nd) (r0:Int) (k:Nat) (ov:Value) (wr:World):Prop where
 below:ah w wr
 size:w.heap.size+3<=wr.heap.size
 box:wr.heap[w.heap.size]?=some (.cells #[nv, .int .i64 r0] 32)
 res:wr.heap[w.heap.size+1]?=some (.cells #[.slice none 0 0, .int .i64 0] 32)
 out:wr.heap[w.heap.size+2]?=some (.cells #[ov, .int .i64 r0] 32)
 own:∃fO:List Raw,wr.ownsRow (w.heap.size+3) 119 5 ov k (fO.flatMap cI)/\fO.length=k/\∀(i:Nat) r x,fO[i]?=some r->xs[i]?=some x->∀w',aiq (w.heap.size+3) ov wr w'->lL w' r x
theorem afB.step {w5 wA wE:World} {A2:Value} {rn:Raw} {xk:Nd} {fO:List Raw} (h:afB w nv xs r0 k ov wr) (hrs:wr.ownsRow (w.heap.size+3) 119 5 ov k (fO.flatMap cI)) (hl:fO.length=k)
  (hold:∀(i:Nat) r x,fO[i]?=some r->xs[i]?=some x->∀w',aiq (w.heap.size+3) ov wr w'->lL w' r x) (hxk:xs[k]?=some xk)
  (h5:ah wr w5) (hA:ah w5 wA) (hN:∀w'',aM w5.heap.size wA w''->lL w'' rn xk) (hE:∀b,b<wA.heap.size->b≠w.heap.size+2->ov.ownBlock≠some b->wE.heap[b]?=wA.heap[b]?)
  (hz:wA.heap.size<=wE.heap.size) (hb:ah w wE) (hout:wE.heap[w.heap.size+2]?=some (.cells #[A2, .int .i64 r0] 32)) (hown:wE.ownsRow (w.heap.size+3) 119 5 A2 (k+1) (fO.flatMap cI++cI rn)) (hv:∀b,A2.ownBlock=some b->ov.ownBlock=some b\/wA.heap.size<=b) :
  afB w nv xs r0 (k+1) A2 wE:=by
 have hs:=h.size
 have hs5:=h5.size
 have hsA:=hA.size
 have hol:∀b,ov.ownBlock=some b->w.heap.size+3<=b/\b<wr.heap.size:=hrs.lt
 have keep:∀b,b<wr.heap.size->b≠w.heap.size+2->ov.ownBlock≠some b->wE.heap[b]?=wr.heap[b]?:=fun b h1 h2 h3=>(hE b af h2 h3).trans ((hA.block b af).trans (h5.block b h1))
 have hne:∀b,b<w.heap.size+3->ov.ownBlock≠some b:=fun b h1 h2=>by have:=(hol b h2).1;omega
 refine⟨hb,af,(keep _ af af (hne _ af)).trans h.box,(keep _ af af (hne _ af)).trans h.res,hout,fO++[rn],by simpa using hown,by simp [hl],fun i r x hr hx w' hw=>?_⟩
 by_cases hik:i<k
 ·rw [Ao af]at hr
  refine hold i r x hr hx w' ⟨by have:=hw.1;omega,fun b h1 h2 h3=>?_⟩
  rw [hw.2 b h1 af fun e=>by rcases hv b e with e|e;exact h3 e;omega]
  exact keep b h2 af h3
 ·have hi:=(gJ.1 hr).1
  rw [dO,List.length_singleton]at hi
  obtain rfl:i=k:=af
  rw [List.getElem?_append_right af,hl,Nat.sub_self]at hr
  obtain rfl:rn=r:=by simpa using hr
  rw [hxk]at hx
  injection hx with hx;subst hx
  refine hN w' ⟨by have:=hw.1;omega,fun b h1 h2=>?_⟩
  have hnb:ov.ownBlock≠some b:=fun e=>by have:=(hol b e).2;omega
  rw [hw.2 b af af fun e=>by rcases hv b e with e|e;exact hnb e;omega]
  exact hE b h2 af hnb
theorem afB.done (h:afB w nv xs r0 xs.length ov wr) (hs:xs.length*104<=140737488351232) (hk:aM (w.heap.size+3) wr w''):bz w'' ov xs:=by
 obtain⟨fO,h1,h2,h3⟩:=h.own
 refine⟨fO,dK.owned gh (oY h1 hk aH) h2.symm (by rw [h2];exact hs),h2,fun i r x hr hx=>h3 i r x hr hx _ ⟨hk.size,fun b hb hl _=>hk.block b hb hl⟩⟩
theorem au.ahM {v:Value} {es:List aC} (h:au B w v es) (hM:M<=B) (hs:es.length*56<=140737488351232) (hk:aM M w w''):fu w'' v es:=dK.owned cX (oY h.row hk hM) rfl hs
theorem aeO {v:Value} {es:List Int} (h:w.ownsRow B 3 1 v es.length (es.flatMap bX)) (hM:M<=B) (hs:es.length*8<=140737488351232) (hk:aM M w w''):gy w'' v es:=dK.owned kG (oY h hk hM) rfl hs
theorem dK.size {en:α->List Value} {v:Value} {xs:List α} (h:dK k sz en w v xs):xs.length*sz<=140737488351232:=by obtain⟨_,_,_,_,_,h,_⟩:=h;exact h
theorem ae7 (h:bz w nv xs) :
  Calls Tryd.prog 38 #[.agg #[nv, .int .i64 r0]] w fun e w'=>∃kY,e = .returned (.agg #[kY, .int .i64 r0])/\(∀w'',aM w.heap.size w' w''->bz w'' kY xs)/\ah w w':=by
 obtain⟨rs,hs,hr⟩:=id h
 have hsz:=hs.size
 have hmax:rs.length<=9223372036854775806:=af
 obtain⟨ao,cap,rfl⟩:=hs.isSlice
 obtain⟨W1,hW1⟩:=bP (((w.alloc (.cells #[.slice ao rs.length cap, .int .i64 r0] 32)).alloc (.cells #[.slice none 0 0, .int .i64 0] 32)).alloc (.cells #[.slice none 0 0, .int .i64 r0] 32))
 have HI:=hdd (show afB w (.slice ao rs.length cap) xs r0 0 (.slice none 0 0) W1 from by
  rw [hW1]
  refine⟨ag,bj,?_,?_,aj _ _ bj,[],World.ownsRow_nil _ _ _ _,rfl,fun i r x hr=>by cases hr⟩
  ·rw [kW _ _ _ (by simp;omega),kW _ _ _ bj];exact aj _ _ rfl
  ·rw [kW _ _ _ bj];exact aj _ _ bj)
 clear h
 go_enter Tryd.func38,Tryd.ntmps38
 go_upto_region 3 with (fail)
 rw [<-hW1]
 clear hW1
 go_loopg [4] rs.length (fun g c wr=>∃k ov,k<=rs.length/\g=rs.length-k/\c = .int .i64 (k:Nat)/\Hid (afB w (.slice ao rs.length cap) xs r0 k ov wr))
 case atStart=>exact⟨0,_,jd _,rfl,rfl,HI⟩
 case round=>
  obtain⟨k,ov,hk,rfl,rfl,HR⟩:=hrel
  clear HI
  have K8:=HR.out.box
  obtain⟨b0,b1⟩:wr.cell? ⟨w.heap.size,0,none⟩=some (.slice ao rs.length cap)/\wr.cell? ⟨w.heap.size,1,none⟩=some (.int .i64 r0):=by simp [World.cell?,K8]
  clear K8
  by_cases hlt:k<rs.length
  ·obtain⟨_,_,hv,-,-,-,-,h5⟩:=hs
   injection hv with hv1 _ hv3
   subst hv1 hv3
   obtain⟨ab,aV,rfl,sO,ac⟩:=h5 af
   have zJ:(k:Int)<(rs.length:Int):=af
   have Sw:rs[k]?=some rs[k]:=by simp [hlt]
   have Ra:k<xs.length:=by rw [<-hr.1];exact hlt
   have hxk:xs[k]?=some xs[k]:=by simp [Ra]
   obtain⟨c0,c1,c2,c3,c4⟩:=aeD HR.out.below sO ac Sw
   have hN:=hr.2 k _ _ Sw hxk
   obtain⟨rk,Sv⟩:=bt (rs[k])
   obtain⟨xk,Mz⟩:=bt (xs[k])
   rw [Sv]at c0 c1 c2 c3 c4 hN
   rw [Mz]at hN hxk
   obtain⟨lf,ev,kv,dv,bv⟩:=rk
   obtain⟨Ox,hE,hK,hD,hB⟩:=hN
   simp only at c0 c1 c2 c3 c4 Ox hE hK hD hB
   obtain⟨a1,n1,rfl⟩:=hE.isSlice
   obtain⟨a2,n2,rfl⟩:=hK.isSlice
   obtain⟨a3,n3,rfl⟩:=hD.isSlice
   obtain⟨a4,n4,rfl⟩:=hB.isSlice
   subst Ox
   obtain⟨fO,hown,hrl,hold⟩:=HR.out.own
   have HOW:=hdd (aL hown (aL hrl hold))
   have HXK:=hdd hxk
   clear hown hrl hold
   have bp:=hdd (aL hE (aL hK (aL hD hB)))
   clear Sw Sv hxk Mz ac h5 hE hK hD hB Ra
   go_upto_region 6 with (fail)
   obtain⟨W5,mN⟩:=bP (wr.alloc (.cells #[Value.bool xk.leaf,Value.slice a1 xk.aF.length n1,Value.slice a2 xk.keys.length n2,Value.slice a3 xk.kids.length n3,Value.slice a4 xk.buf.length n4] 119))
   have cu:ah wr W5:=by rw [mN];exact ag
   have k5:W5.heap[wr.heap.size]?=some (.cells #[Value.bool xk.leaf,Value.slice a1 xk.aF.length n1,Value.slice a2 xk.keys.length n2,Value.slice a3 xk.kids.length n3,Value.slice a4 xk.buf.length n4] 119):=by rw [mN];exact aj _ _ rfl
   have kQ:wr.heap.size<W5.heap.size:=by rw [mN];simp
   have Su:=HR.out.size
   have HS:=hdd fun W (hb:ah W5 W)=>(by
    have e1:=(hb.block wr.heap.size kQ).trans k5
    have e2:=(hb.block (w.heap.size+2) af).trans ((cu.block (w.heap.size+2) af).trans HR.out.out)
    simp [World.cell?,e1,e2]:W.cell? ⟨w.heap.size+2,0,none⟩=some ov/\W.cell? ⟨wr.heap.size,0,none⟩=some (.bool xk.leaf)/\W.cell? ⟨wr.heap.size,1,none⟩=some (.slice a1 xk.aF.length n1)/\W.cell? ⟨wr.heap.size,2,none⟩=some (.slice a2 xk.keys.length n2)/\W.cell? ⟨wr.heap.size,3,none⟩=some (.slice a3 xk.kids.length n3)/\W.cell? ⟨wr.heap.size,4,none⟩=some (.slice a4 xk.buf.length n4))
   have qo:=hdd (Below.trans' HR.out.below cu HR.out.below.size)
   have Cc:=hdd cu
   have Ya:=hdd k5
   have HZ5:=hdd kQ
   rw [<-mN]
   clear mN cu k5 kQ Su b0 b1 c0 c1 c2 c3 c4
   refine bJ [(0,1),(1,0),(2,1),(3,0),(4,1),(5,0),(7,1),(8,0),(10,1),(11,0),(13,1),(14,0),(6,2),(9,2),(12,2),(15,2),(16,1),(17,2),(18,2),(19,1),(20,3)] 20 (fun W=>W.cell? ⟨w.heap.size+2,0,none⟩=some ov/\W.cell? ⟨wr.heap.size,0,none⟩=some (.bool xk.leaf)/\W.cell? ⟨wr.heap.size,1,none⟩=some (.slice a1 xk.aF.length n1)/\W.cell? ⟨wr.heap.size,2,none⟩=some (.slice a2 xk.keys.length n2)/\W.cell? ⟨wr.heap.size,3,none⟩=some (.slice a3 xk.kids.length n3)/\W.cell? ⟨wr.heap.size,4,none⟩=some (.slice a4 xk.buf.length n4)) bT bT (HS.out _ (aI _ _).drew) ?_
   (simp only [bG,List.filterMap_cons,List.filterMap_nil,List.getElem?_cons_zero,List.getElem?_cons_succ,Option.map_some])
   (repeat first|refine aY ?_|refine aX ?_)
   have B0:ah W5 W5.drew:=(aI _ _).drew
   obtain⟨ii,iz,i1,i2,i3,i4,i5⟩:=cj Tryd.PF
   have cp:=hdd (aL i1 (aL i2 (aL i3 (aL i4 i5))))
   clear i1 i2 i3 i4 i5
   have HE:=hdd (aeR (bp.out.1.below (Below.trans' qo.out B0 qo.out.size) aH))
   refine aP rfl (fun K hK=>?_)
   go_simp
   (with_reducible refine HE.out.mono ?_);rintro x w6 ⟨v6,rfl,CE,jf⟩
   obtain⟨e6,m6,rfl⟩:=CE.isSlice
   have pA:=hdd (show ah W5 w6 from Below.trans' B0 jf aH)
   have HO6:=hdd (CE.mono (C:=W5.heap.size) aH)
   go_simp
   refine hK _ _ (HS.out _ pA.out) ?_
   clear hK K HE jf CE B0
   (repeat first|refine aY ?_|refine aX ?_)
   refine aP rfl (fun K hK=>?_)
   refine adt (.const (.slice none 0 0)) (.tmp 29) rfl ii iz Tryd.underlying82 cp.out.1 cp.out.2.1 cp.out.2.2.1 cp.out.2.2.2.1 cp.out.2.2.2.2 aW aW kG _ xk.keys (aay _) rfl rfl (bp.out.2.1.below (Below.trans' qo.out pA.out qo.out.size) aH) ?_
   intro v7 w7 qa qE
   obtain⟨e7,m7,rfl⟩:=dE qa
   have xS:=hdd (Below.trans' pA.out qE pA.out.size)
   have HO7:=hdd (LY qa pA.out.size)
   have HT7:=hdd qE
   refine hK _ _ (HS.out _ xS.out) ?_
   clear hK K qa qE
   (repeat first|refine aY ?_|refine aX ?_)
   refine aP rfl (fun K hK=>?_)
   refine adt (.const (.slice none 0 0)) (.tmp 32) rfl ii iz Tryd.underlying82 cp.out.1 cp.out.2.1 cp.out.2.2.1 cp.out.2.2.2.1 cp.out.2.2.2.2 aW aW kG _ xk.kids (aay _) rfl rfl (bp.out.2.2.1.below (Below.trans' qo.out xS.out qo.out.size) aH) ?_
   intro v8 w8 Q0 kS
   obtain⟨e8,m8,rfl⟩:=dE Q0
   have Yk:=hdd (Below.trans' xS.out kS xS.out.size)
   have HO8:=hdd (LY Q0 xS.out.size)
   have A6:=hdd kS
   refine hK _ _ (HS.out _ Yk.out) ?_
   clear hK K Q0 kS
   (repeat first|refine aY ?_|refine aX ?_)
   have HE:=hdd (aeR (bp.out.2.2.2.below (Below.trans' qo.out Yk.out qo.out.size) aH))
   refine aP rfl (fun K hK=>?_)
   go_simp
   (with_reducible refine HE.out.mono ?_);rintro x w9 ⟨v9,rfl,SM,pS⟩
   obtain⟨e9,m9,rfl⟩:=SM.isSlice
   have qD:=hdd (Below.trans' Yk.out pS Yk.out.size)
   have HN9:=hdd fun w'' (hk:aM W5.heap.size w9 w'')=>(⟨rfl,au.ahM (HO6.out.below (Below.trans' HT7.out (Below.trans' A6.out pS A6.out.size) HT7.out.size) aH) aH bp.out.1.size hk,aeO (gu HO7.out (Below.trans' A6.out pS A6.out.size)) aH bp.out.2.1.size hk,aeO (gu HO8.out pS) aH bp.out.2.2.1.size hk,au.ahM (SM.mono Yk.out.size) aH bp.out.2.2.2.size hk⟩:lL w'' ⟨xk.leaf, .slice e6 xk.aF.length m6, .slice e7 xk.keys.length m7, .slice e8 xk.kids.length m8, .slice e9 xk.buf.length m9⟩ xk)
   go_simp
   refine hK _ _ (HS.out _ qD.out) ?_
   clear hK K HE pS SM
   (repeat first|refine aY ?_|refine aX ?_)
   refine aP rfl (fun K hK=>?_)
   go_simp
   have Xw:=Cc.out
   have TP:=qD.out
   have Su:=HR.out.size
   have hs5:=Xw.size
   have A3:=TP.size
   obtain⟨wB,pg⟩:=bP (w9.alloc (.cells #[.bool xk.leaf, .slice e6 xk.aF.length m6, .slice e7 xk.keys.length m7, .slice e8 xk.kids.length m8, .slice e9 xk.buf.length m9] 119))
   have kB:wB.heap[w9.heap.size]?=some (.cells #[.bool xk.leaf, .slice e6 xk.aF.length m6, .slice e7 xk.keys.length m7, .slice e8 xk.kids.length m8, .slice e9 xk.buf.length m9] 119):=by rw [pg];exact aj _ _ rfl
   have Tt:ah w9 wB:=by rw [pg];exact ag
   have hzB:wB.heap.size=w9.heap.size+1:=by rw [pg];simp
   rw [<-pg]
   refine hK _ _ (HS.out _ (Below.trans' TP Tt TP.size)) ?_
   clear hK K pg
   (repeat first|refine aY ?_|refine aX ?_)
   have aid:wB.ownsRow (w.heap.size+3) 119 5 ov k (fO.flatMap cI):=gu (gu (gu HOW.out.1 Xw) TP) Tt
   have hol:=HOW.out.1.lt
   obtain⟨i0,z0,hi0,hz0,Ei,Eh,Eg⟩:=pR
   refine aP rfl (fun K hK=>?_)
   refine wp_append_lies _ (.tmp 22) (.tmp 38) 30 rfl (w.heap.size+3) 119 i0 z0 5 104 Tryd.underlying30 hi0 hz0 Ei Eh Eg aW _ k _ rfl aid ⟨w9.heap.size,0,none⟩ 1 1 (cI ⟨xk.leaf, .slice e6 xk.aF.length m6, .slice e7 xk.keys.length m7, .slice e8 xk.kids.length m8, .slice e9 xk.buf.length m9⟩) rfl rfl (World.news_of_block kB) ?hone aW (by unfold maxLen;omega) af af wB.heap.size rfl ?_
   case hone=>
    intro u hu
    simp only [cI,fk,List.not_mem_nil,or_false]at hu
    rcases hu with rfl|rfl|rfl|rfl|rfl <;> rfl
   intro g cap' nQ zD lZ zL ML
   have akp:=lZ.size
   have kQ:=HZ5.out
   have hin:∀b,b<w9.heap.size->ov.ownBlock≠some b->nQ.heap[b]?=w9.heap[b]?:=fun b h1 h2=>(lZ.block b af fun e=>h2 e.symm).trans (Tt.block b h1)
   have hnb:∀b,b<w.heap.size+3->ov.ownBlock≠some b:=fun b h1 h2=>by have:=(hol b h2).1;omega
   have hnw:ov.ownBlock≠some wr.heap.size:=fun h2=>by have:=(hol _ h2).2;omega
   have k10:=(hin _ af (hnb (w.heap.size+2) af)).trans ((TP.block _ af).trans ((Xw.block _ af).trans HR.out.out))
   have n10:=(hin _ af hnw).trans ((TP.block _ af).trans Ya.out)
   refine hK _ _ (by simp [World.cell?,k10,n10]) ?_
   clear hK K
   (repeat first|refine aY ?_|refine aX ?_)
   have HST:=hdd (show afB w (.slice (some ⟨ab,aV,none⟩) rs.length cap) xs r0 (k+1) (.slice (some ⟨g,0,none⟩) (k+1) cap') (nQ.setCell ⟨w.heap.size+2,0,none⟩ (.slice (some ⟨g,0,none⟩) (k+1) cap')) from
    afB.step HR.out HOW.out.1 HOW.out.2.1 HOW.out.2.2 HXK.out Xw TP HN9.out (fun b h1 h2 h3=>(heap_setCell_other _ ⟨w.heap.size+2,_,none⟩ b _ h2).trans (hin b h1 h3)) (by simp only [aA];omega)
     ((Below.grown (Below.trans' qo.out (Below.trans' TP Tt TP.size) qo.out.size) lZ (by have:=qo.out.size;omega) (fun j hj=>by have:=(hol j hj).1;omega)).setCell (by show w.heap.size<=w.heap.size+2;omega) _)
     (by have:=heap_setCell_same (off:=0) (v:= .slice (some ⟨g,0,none⟩) (k+1) cap') k10;simpa using this) (ow zD af _)
     (fun b hb=>by have hb':some g=some b:=hb;injection hb' with hb';subst hb';rcases zL with e|e;exact .inl e;right;omega))
   obtain⟨t0,tf⟩:nQ.cell? ⟨w.heap.size+2,0,none⟩=some ov/\∀o,nQ.frozen? ⟨w.heap.size+2,o,none⟩=false:=by simp [World.cell?,World.frozen?,k10]
   clear zD lZ zL ML hin k10 n10 aid hol kB Tt hzB hnb hnw akp kQ Xw TP Su hs5 A3 hi0 hz0 Ei Eh Eg
   refine bn rfl (fun K hK=>?_)
   go_simp
   refine hK _ _ ?_
   clear hK K
   refine cy ?_
   go_wp2_with fail
   go_roundg (rs.length-(k+1))
   case measure=>omega
   case rel=>exact⟨k+1,_,af,rfl,by go_num,HST⟩
  ·obtain rfl:k=rs.length:=af
   rw [hr.1]at HR
   have Ow:=HR.out.out
   have hrx:=HR.out.res
   obtain⟨fO,hown,-,-⟩:=HR.out.own
   obtain⟨oo,oc,rfl⟩:=dE hown
   obtain⟨o0,o1⟩:wr.cell? ⟨w.heap.size+2,0,none⟩=some (.slice oo xs.length oc)/\wr.cell? ⟨w.heap.size+2,1,none⟩=some (.int .i64 r0):=by simp [World.cell?,Ow]
   obtain⟨q0,q1,qf⟩:wr.cell? ⟨w.heap.size+1,0,none⟩=some (.slice none 0 0)/\wr.cell? ⟨w.heap.size+1,1,none⟩=some (.int .i64 0)/\∀o,wr.frozen? ⟨w.heap.size+1,o,none⟩=false:=by simp [World.cell?,World.frozen?,hrx]
   have kN:=hdd (show (∀w'',aM w.heap.size ((wr.setCell ⟨w.heap.size+1,0,none⟩ (.slice oo xs.length oc)).setCell ⟨w.heap.size+1,1,none⟩ (.int .i64 r0)) w''->bz w'' (.slice oo xs.length oc) xs)/\ah w ((wr.setCell ⟨w.heap.size+1,0,none⟩ (.slice oo xs.length oc)).setCell ⟨w.heap.size+1,1,none⟩ (.int .i64 r0)) from
    ⟨fun w'' hk=>HR.out.done (by rw [<-hr.1];exact hsz) ((((aM.refl _ wr).set (by show w.heap.size+1<_;omega) _).set (by show w.heap.size+1<_;omega) _).trans (hk.mono af)),(HR.out.below.setCell bj _).setCell bj _⟩)
   clear Ow hrx hown hr hs hsz HR
   go_wp2_with fail
   exact bodyPost_ret (v:= .agg #[.slice oo xs.length oc, .int .i64 r0]) (by simp [results,Tryd.results38,go_sem, *]) rfl ⟨_,rfl,kN.out.1,kN.out.2⟩
end Go.Proofs.YtmljjfhgciaceaaDoor
