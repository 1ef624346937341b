/- Lemmas of the proof. -/
import Derived.Test.YtmljjfhgciaceaaGreatDoorHd
import Derived.Test.YtmljjfhgciaceaaGreatDoorCz
import Derived.Test.YtmljjfhgciaceaaGreatDoorMD
import Derived.Test.YtmljjfhgciaceaaGreatDoorDP
import Derived.Test.YtmljjfhgciaceaaGreatDoorAK
import Derived.Test.YtmljjfhgciaceaaGreatDoorBK
import Derived.Test.YtmljjfhgciaceaaGreatDoorSO
import Derived.Deep.CutBlock
set_option maxRecDepth 100000
set_option maxHeartbeats 8000000
namespace Go.Proofs.YtmljjfhgciaceaaGreatDoor
open Go.RowKit
section
variable {b0 b1 b2 b3:Int} {ns:List ByteArray} {es:List aH} {B rb xb:Nat} {X:Nat->Prop} {r:Rd} {T:TypeId} {a0 a1 a2 a3 a4 a5 a6:Value} {w w' a:World}
theorem ig.str {b off n cap:Nat} {xs:List Int} (h:ig w (ah (some (b,off)) n cap) xs):(convert 61 9 (ah (some (b,off)) n cap)).run Tryz.prog w = .ok (.string (strOfNums xs)) w:=by
 obtain⟨ao',cap',hv,h1,h2,h3,h4,h5⟩:=h;have e:n=xs:=by injection hv
 subst e;refine run_convert_bytes_arg w 61 5 Tryz.underlying61 Tryz.underlying5 b off xs cap xs rfl (fun i hi=>?_) 9 Tryz.underlying9;obtain⟨b',off',hb,-,hc⟩:=h5 ai;have e2:some ((b,off):Addr)=ao':=by injection hv
 rw [hb]at e2;injection e2 with e2;injection e2 with e3 e4;subst e3 e4;rw [oz hc hi];simp [hi]
theorem KS {M:List Int} (_h0:0<=b0/\b0<=255) (h1:0<=b1/\b1<=255) (h2:0<=b2/\b2<=255) (h3:0<=b3/\b3<=255) :
  ((iK M).2*65536+(iK M).1=b0*16777216+b1*65536+b2*256+b3)↔mJ M=[b0,b1,b2,b3]:=by
 have hr:=pC M;unfold mJ;simp only [List.cons.injEq,and_true]
 constructor
 ·intro h;omega
 ·rintro⟨e0,e1,e2,e3⟩;omega
theorem QV (h0:0<=b0/\b0<=255) (h1:0<=b1/\b1<=255) (h2:0<=b2/\b2<=255) (h3:0<=b3/\b3<=255) :
  bits .or .i64 (b0*16777216) (b1*65536)=b0*16777216+b1*65536/\bits .or .i64 (b0*16777216+b1*65536) (b2*256)=b0*16777216+b1*65536+b2*256/\bits .or .i64 (b0*16777216+b1*65536+b2*256) b3=b0*16777216+b1*65536+b2*256+b3:=by
 refine⟨?_,?_,?_⟩
 ·rw [bits_join .i64 63 bY (fun n h0 h1=>bI _ ai) 24 (b0*16777216) (b1*65536) ai ai ai ai ai ai]
 ·rw [bits_join .i64 63 bY (fun n h0 h1=>bI _ ai) 16 (b0*16777216+b1*65536) (b2*256) ai ai ai ai ai ai]
 ·rw [bits_join .i64 63 bY (fun n h0 h1=>bI _ ai) 8 (b0*16777216+b1*65536+b2*256) b3 ai ai ai ai ai ai]
theorem PG {bs:List Int} {k:Nat} (hk:bs=k+4):bs.drop (bs-4)=[bs[k],bs[k+1],bs[k+2],bs[k+3]]:=by
 have e:bs-4=k:=ai;rw [e,qI ai,qI ai,qI ai,qI ai,zX ai]
theorem Ut {bs:List Int} {N2:ByteArray} (hb:aX bs) (h:strOfNums (bs.take 2)=N2):(bs.take 2=[119,110]->(N2.toList == [119,110])=true)/\(bs.take 2≠[119,110]->(N2.toList == [119,110])=false):=by
 subst h;have hb2:aX (bs.take 2):=fun x hx=>hb x (uQ hx);have e:(⟨#[119,110]⟩:ByteArray).toList=[119,110]:=ByteArray.toList_mk [119,110];rw [<-e,BU]
 constructor
 ·intro h;rw [h];exact decide_eq_true rfl
 ·intro h;refine xA fun h2=>h ?_;have:=congrArg nums h2;rw [H6 hb2]at this;exact this
structure dR (B:Nat) (w:World) (v:Value) (ns:List ByteArray):Prop where
 row:w.ownsRow B 9 1 v ns (ns.flatMap jN)
theorem dR.nil (B:Nat) (w:World):dR B w (az 0 0) []:=⟨oV _ _ _ _⟩
theorem dR.alloc {v:Value} (h:dR B w v ns) (o:Obj):dR B (w.alloc o) v ns:=⟨Dn h.row o⟩
theorem dR.block {v:Value} (h:dR B w v ns) (hb:∀g,v.ownBlock=some g->w'.heap[g]?=w.heap[g]?):dR B w' v ns:=by
 obtain⟨hl,⟨rfl,h0⟩|⟨g,cap,cur,rfl,hB,hg,h1,h2,h3,h4⟩⟩:=h.row
 ·exact⟨⟨hl, .inl ⟨rfl,h0⟩⟩⟩
 ·exact⟨⟨hl, .inr ⟨g,cap,cur,rfl,hB,(hb g rfl).trans hg,h1,h2,h3,h4⟩⟩⟩
theorem dR.lt {v:Value} (h:dR B w v ns):∀g,v.ownBlock=some g->B<=g/\g<w.heap.size:=World.ownsRow.lt h.row
theorem dR.turn {v:Value} (h:dR (rb+1) w v ns) (hT:jl rb w w'):dR (rb+1) w' v ns:=
 h.block fun g hg=>hT.block g (h.lt g hg).2 (fun e=>by have:=(h.lt g hg).1;have e:g=rb:=e;omega)
theorem dR.keep {M:Nat} {v:Value} (h:dR B w v ns) (hM:M<=B) (hk:aQ M w w'):dR B w' v ns:=
 h.block fun g hg=>hk.block g (by have:=(h.lt g hg).1;omega) (h.lt g hg).2
theorem dR.at {v:Value} (h:dR B w v ns) (hs:ns.length<=1000000):fX w v ns:=ct.owned dD h.row rfl ai
theorem dR.isSlice {v:Value} (h:dR B w v ns):∃ao cap,v=ah ao ns cap:=by
 obtain⟨hl,⟨rfl,h0⟩|⟨g,cap,cur,rfl,_⟩⟩:=h.row
 ·exact⟨none,0,by rw [h0]⟩
 ·exact⟨_,_,rfl⟩
theorem ay.turn {v:Value} (h:ay (rb+1) w v es) (hT:jl rb w w'):ay (rb+1) w' v es:=
 h.block fun g hg=>hT.block g (h.lt g hg).2 (fun e=>by have:=(h.lt g hg).1;have e:g=rb:=e;omega)
theorem Bk {S:ByteArray}:(w.alloc (.cells #[.string S] T)).cell? (w,0)=some (.string S):=by
 have hk:(w.alloc (.cells #[.string S] T)).heap[w.heap.size]?=some (.cells #[.string S] T):=by
  show (w.heap.push _)[w.heap.size]?=_;simp
 simp only [World.cell?,hk];rfl
theorem wQ {ops:Array Oper} {rest:List Oper} {o:Oper} {a:Act} {Q:Exit->Act->World->Prop} (hgd:o.guard=none) (s x:Operand)
  (ho:o.op = .call { callee:= .builtin .append,args:=#[s,x],argTypes:=#[24,24] }) (B:Nat) (v:Value) (es:List ByteArray) (hs:a.eval s=v) (hown:dR B w v es)
  (ad:Addr) (e:ByteArray) (hx:a.eval x=ah (some ad) 1 1) (hnews:w.cell? ad=some (.string e)) (hlen:es.length<=1000000) (hbase:B<=w)
  (h:∀v' w',dR B w' v' (es++[e])->(∀C W,Below C W w->C<=B->Below C W w')->wpList Tryz.prog ops Q rest (a.put o.dst v') w'):wpList Tryz.prog ops Q (o::rest) a w:=by
 refine jm hgd s x ho B v es hs hown.row ad e hx hnews hlen hbase ?_;intro v' w' hown' hg _;refine h v' w' ⟨by rw [dF];exact hown'⟩ fun C W hb hC=>nP hb hg ai (fun j hj=>by have:=(hown.lt j hj).1;omega)
theorem OJ {k:Nat} (h:r.e=0):((r.cnt 10).1.e=0/\(r.cnt 10).2<=(r.cnt 10).1.b.length->eH (k+1) r ns=eH k ⟨(r.cnt 10).1.b.drop (r.cnt 10).2.toNat,0⟩ (ns++[strOfNums ((r.cnt 10).1.b.take (r.cnt 10).2.toNat)])) /\
  ((r.cnt 10).1.e≠0->eH (k+1) r ns=((r.cnt 10).1,ns))/\((r.cnt 10).1.e=0->¬(r.cnt 10).2<=(r.cnt 10).1.b.length->eH (k+1) r ns=(⟨(r.cnt 10).1.b,5⟩,ns)):=by
 have e0:¬r.e≠0:=fun hn=>hn h;refine⟨fun h1=>?_,fun h1=>?_,fun h1 h2=>?_⟩
 ·conv=>lhs;unfold eH
  rw [ar e0,aw h1]
 ·conv=>lhs;unfold eH
  rw [ar e0,ar (fun hn=>h1 hn.1),ar h1]
 ·conv=>lhs;unfold eH
  rw [ar e0,ar (fun hn=>h2 hn.2),aw h1]
theorem ay.last {so:Option Addr} {sc j:Nat} (h:ay B w (ah so es sc) es) (hj:es=j+1) (hs:es.length<=1000000) :
  ∃og off,so=some ⟨og,off,none⟩/\(w,og,off+j*7,jg es):=by
 obtain⟨_,_,hv,-,-,-,-,h5⟩:=h.at hs;injection hv with hv1 _ hv3;subst hv1 hv3;obtain⟨eb,cM,ll,pq,jF⟩:=h5 ai;have hjl:j<es:=ai;obtain⟨o0,-⟩:=br (aW _ _) pq jF hjl;refine⟨eb,cM,ll,o0.trans ?_⟩;have:jg es=es[j].key:=by
  unfold jg;rw [List.getLast?_eq_getElem?,hj];simp [hjl]
 rw [this]
theorem Bv (h:w.heap[xb]?=some (.cells #[a0,a1,a2,a3,a4,a5,a6] T)) :
  w.cell? (xb,0)=some a0/\w.cell? (xb,1)=some a1/\w.cell? (xb,2)=some a2/\w.cell? (xb,3)=some a3/\w.cell? (xb,4)=some a4/\w.cell? (xb,5)=some a5/\w.cell? (xb,6)=some a6/\∀o,w.frozen? ⟨xb,o,none⟩=false:=by
 simp [World.cell?,World.frozen?,h]
theorem BN {b c:World} (h:aA X a b) (hb:Below a b c):aA X a c:=
 ⟨hb.os.trans h.os,hb.tape.trans h.tape,hb.output.trans h.output,fZ h.size hb.size,fun i hi hx=>(hb.block i hi).trans (h.block i hi hx)⟩
theorem Su {v1 v2 v3 v4 v5 v6:Value} {e:TypeId} {fr:Nat×Nat} (h:w.heap[B]?=some (.cells #[a0,a1,a2,a3,a4,a5,a6] e fr)) :
  ((((((w.setCell (B,1) v1).setCell (B,2) v2).setCell (B,3) v3).setCell (B,4) v4).setCell (B,5) v5).setCell (B,6) v6).heap[B]?=some (.cells #[a0,v1,v2,v3,v4,v5,v6] e fr):=by
 have h:=aM (off:=6) (v:=v6) (aM (off:=5) (v:=v5) (aM (off:=4) (v:=v4) (aM (off:=3) (v:=v3) (aM (off:=2) (v:=v2) (aM (off:=1) (v:=v1) h)))));simpa using h
theorem Od (h:aA X a w) (hx:a<=xb) (v1 v2 v3 v4 v5 v6:Value) :
  aA X a ((((((w.setCell (xb,1) v1).setCell (xb,2) v2).setCell (xb,3) v3).setCell (xb,4) v4).setCell (xb,5) v5).setCell (xb,6) v6):=
 aA.setCell (aA.setCell (aA.setCell (aA.setCell (aA.setCell (aA.setCell h (.inr hx) _) (.inr hx) _) (.inr hx) _) (.inr hx) _) (.inr hx) _) (.inr hx) _
theorem MA (hx:B<=xb) (v1 v2 v3 v4 v5 v6:Value) :
  Below B w ((((((w.setCell (xb,1) v1).setCell (xb,2) v2).setCell (xb,3) v3).setCell (xb,4) v4).setCell (xb,5) v5).setCell (xb,6) v6):=
 ((((((aW B w).setCell hx _).setCell hx _).setCell hx _).setCell hx _).setCell hx _).setCell hx _
theorem KG (xs:List Int):(strOfNums xs).size=xs:=by simp [strOfNums,ByteArray.size]
theorem xV:∀{k:Nat} {r:Rd} {ns:List ByteArray},aX r.b->(∀s∈ns,s.size<=10)->∀s∈(eH k r ns).2,s.size<=10
 |0,_,_,_,h=>h
 |k+1,r,ns,hb,h=>by
  unfold eH
  split
  ·exact h
  ·split
   ·have hc:=vU (most:=10) (r:=r) bY hb;refine xV (fun x hx=>pU hb x (uP hx)) fun s hs=>?_;rcases kW.1 hs with hs|hs
    ·exact h s hs
    ·rw [oY.1 hs,KG,gh];omega
   ·exact h
theorem cU {a7:Value} (h:w.heap[xb]?=some (.cells #[a0,a1,a2,a3,a4,a5,a6,a7] T)) :
  w.cell? (xb,0)=some a0/\w.cell? (xb,1)=some a1/\w.cell? (xb,2)=some a2/\w.cell? (xb,3)=some a3/\w.cell? (xb,4)=some a4/\w.cell? (xb,5)=some a5/\w.cell? (xb,6)=some a6/\w.cell? (xb,7)=some a7/\∀o,w.frozen? ⟨xb,o,none⟩=false:=by
 simp [World.cell?,World.frozen?,h]
theorem Ss {k:Nat} {l:List aH} (h:r.e=0):jX (k+1) r l=jX k (tY r l) (l++[(nj r (jg l)).2]):=by
 conv=>lhs;unfold jX
 rw [ar (fun hn=>hn h)]
end
def V9 (bs:List Int) (w:World) (x:Ending) (w':World):Prop:=
 aq w w'/\((∃E,E≠0/\x = .returned (.tuple #[ey,af E])/\(wu bs=E\/(wu bs=0/\tL (dL (bT bs)).2 (dL (bT bs)).1.num.2 (gG (bT bs)).2))) \/
  (wu bs=0/\∃sn sc g0 l0 p0 g1 l1 p1 g2 l2 p2,∃T:Nat->Tr,x = .returned (.tuple #[.agg (aL sn (dL (bT bs)).2.length sc g0 l0 p0 g1 l1 p1 g2 l2 p2 ⟨(dL (bT bs)).2,T 0,T 1,T 2,(dL (bT bs)).1.num.2⟩),af 0])/\zY (dL (bT bs)).2 (dL (bT bs)).1.num.2 (gG (bT bs)).2 T /\
   ∀w'',aQ w w' w''->bR w'' (.agg (aL sn (dL (bT bs)).2.length sc g0 l0 p0 g1 l1 p1 g2 l2 p2 ⟨(dL (bT bs)).2,T 0,T 1,T 2,(dL (bT bs)).1.num.2⟩)) ⟨(dL (bT bs)).2,T 0,T 1,T 2,(dL (bT bs)).1.num.2⟩))
theorem Mp {v:Value} {bs:List Int} {w:World} (h:ig w v bs) (hb:aX bs) (hsz:cI w):Calls Tryz.prog 40 #[v] w (V9 bs w):=by
 have TS:=ag h;have Tp:=ag hb;have ry:=ag hsz;obtain⟨ao,cap,rfl,a1,a2,a3,a4,a5⟩:=h;obtain⟨W0,hW0⟩:=cd (w.alloc (.cells cz 30));have G0:=ag (show aq w W0 by rw [hW0];exact aj);have hz0:W0=w.heap.size+1:=by rw [hW0];simp
 have k0:W0.heap[w.heap.size]?=some (.cells cz 30):=by rw [hW0];exact au _ _ rfl
 have MO:=ag (aJ k0 hz0);obtain⟨r0,r1,r2,r3,r4,r5,r6,r7,rf⟩:W0.cell? (w,0)=some (az 0 0)/\W0.cell? (w,1)=some (az 0 0)/\(W0,w.heap.size,2)/\W0.cell? (w,3)=some (az 0 0)/\(W0,w.heap.size,4)/\W0.cell? (w,5)=some (az 0 0)/\(W0,w.heap.size,6)/\(W0,w.heap.size,7)/\∀o,W0.frozen? ⟨w.heap.size,o,none⟩=false:=by simp [World.cell?,World.frozen?,k0,cz]
 clear hb hsz hz0 k0;by_cases h1:200000<bs.length
 ·have h1':(200000:Int)<(bs.length:Int):=ai;have HD:=ag (show wu bs=1 from aw h1);go_enter Tryz.func40,Tryz.ntmps40;go_upto_region 1 with (fail);rw [<-hW0];clear hW0 h1;go_wp2_with fail;exact bW (v:= .tuple #[ey,af 1]) (by simp [results,Tryz.results40,go_sem, *]) rfl ⟨dw G0 aO _ _ _ _ _ _ _ _, .inl ⟨1,bY,rfl, .inl HD⟩⟩
 have hd1:decide ((200000:Int)<(bs.length:Int))=false:=xA ai;by_cases h2:bs.length<6
 ·have h2':(bs.length:Int)<6:=ai;have HD:=ag (show wu bs=5 from (ar h1).trans (aw h2));go_enter Tryz.func40,Tryz.ntmps40;go_upto_region 1 with (fail);rw [<-hW0];clear hW0 h1 h2;go_wp2_with fail;exact bW (v:= .tuple #[ey,af 5]) (by simp [results,Tryz.results40,go_sem, *]) rfl ⟨dw G0 aO _ _ _ _ _ _ _ _, .inl ⟨5,bY,rfl, .inl HD⟩⟩
 have hd2:decide ((bs.length:Int)<6)=false:=xA ai;obtain⟨ab,off,rfl,qy,ac⟩:=a5 ai;have hw0:aq w W0:=G0.out;have X4:=(Bl (m:=2) TS ai).below hw0 aO;have hcv:=ig.str X4;obtain⟨N2,Qf⟩:=bG (strOfNums (bs.take 2));have Vt:=Ut Tp Qf;rw [Qf]at hcv;have hc2:2<=cap:=ai;by_cases h3:bs.take 2≠[119,110]
 ·have HD:=ag (show wu bs=4 from (ar h1).trans ((ar h2).trans (aw h3)));have h3':(N2.toList == [119,110])=false:=Vt.2 h3;go_enter Tryz.func40,Tryz.ntmps40;go_upto_region 1 with (fail);rw [<-hW0];clear hW0 Qf Vt h3 h1 h2 X4;go_wp2_with fail;exact bW (v:= .tuple #[ey,af 4]) (by simp [results,Tryz.results40,go_sem, *]) rfl ⟨dw G0 aO _ _ _ _ _ _ _ _, .inl ⟨4,bY,rfl, .inl HD⟩⟩
 have h3':(N2.toList == [119,110])=true:=Vt.1 (Decidable.not_not.1 h3);obtain⟨k,hk⟩:∃k,bs.length=k+4:=⟨bs.length-4,ai⟩;have hsm:=((Bl (m:=k) TS ai).below hw0 aO);have VN:=ag hsm;have hcell:∀i (h:i<bs.length),W0.cell? (ab,off+i)=some (.int .u8 bs[i]):=fun i h=>(hw0.cell (p:=(ab,off+i)) qy).trans (oz ac h);have c0:=hcell k ai;have c1:=hcell (k+1) ai;have c2:=hcell (k+2) ai;have c3:=hcell (k+3) ai;have g0:=Tp _ (eZ (show k<bs by omega));have g1:=Tp _ (eZ (show k+1<bs by omega));have g2:=Tp _ (eZ (show k+2<bs by omega));have g3:=Tp _ (eZ (show k+3<bs by omega));have hdrop:bs.drop (bs-4)=[bs[k],bs[k+1],bs[k+2],bs[k+3]]:=PG hk;obtain⟨b0,hb0⟩:=bG (bs[k]);obtain⟨b1,hb1⟩:=bG (bs[k+1]);obtain⟨b2,hb2⟩:=bG (bs[k+2]);obtain⟨b3,hb3⟩:=bG (bs[k+3]);rw [hb0]at c0 g0 hdrop;rw [hb1]at c1 g1 hdrop;rw [hb2]at c2 g2 hdrop;rw [hb3]at c3 g3 hdrop;have HOR:=ag (QV g0 g1 g2 g3);have Uf:=ag hk;have Ta:=ag (KS (M:=bs.take (bs-4)) g0 g1 g2 g3);have HDR:=ag hdrop;have Zv:=ag (M5 (w:=W0.drew) (ct.below VN (aW _ _).drew aO) (fun x hx=>Tp x (uQ hx)));obtain⟨X,hX⟩:=bG ((iK (bs.take k)).2*65536+(iK (bs.take k)).1);rw [hX]at Zv;have HX:=ag hX;have Yr:=fun w'=>pQ (ab:=ab) (aR:=off) (n:=bs.length) (cap:=cap) (show (k:Int)=((k:Nat):Int) by rfl) ai w';have ac2:=fun w'=>pQ (ab:=ab) (aR:=off) (n:=bs.length) (cap:=cap) (show (k:Int)+1=((k+1:Nat):Int) by omega) ai w';have I7:=fun w'=>pQ (ab:=ab) (aR:=off) (n:=bs.length) (cap:=cap) (show (k:Int)+2=((k+2:Nat):Int) by omega) ai w';have agL:=fun w'=>pQ (ab:=ab) (aR:=off) (n:=bs.length) (cap:=cap) (show (k:Int)+3=((k+3:Nat):Int) by omega) ai w';have n4:(bs.length:Int)-4=(k:Int):=ai;have hkc:k<=cap:=ai;have hkl:k<=199996:=ai;have HH1:=ag h1;have HH2:=ag h2;have HH3:=ag h3;clear hb0 hb1 hb2 hb3 hdrop hcell hsm X4 hk h3 h2 h1 n4;go_enter Tryz.func40,Tryz.ntmps40;go_upto_region 1 with (fail);rw [<-hW0];clear hW0 Qf Vt;go_upto_region 8 with (fail);have n4:(bs.length:Int)-4=(k:Int):=by have:=Uf.out;omega
 rw [n4];obtain⟨o1,o2,o3⟩:=HOR.out;clear n4;obtain⟨wb0,wb1,wb2,wb3⟩:IntKind.i64.wrap b0=b0/\IntKind.i64.wrap b1=b1/\IntKind.i64.wrap b2=b2/\IntKind.i64.wrap b3=b3:=⟨bI _ ai,bI _ ai,bI _ ai,bI _ ai⟩;obtain⟨ws0,ws1,ws2⟩:IntKind.i64.wrap (b0*16777216)=b0*16777216/\IntKind.i64.wrap (b1*65536)=b1*65536/\IntKind.i64.wrap (b2*256)=b2*256:=⟨bI _ ai,bI _ ai,bI _ ai⟩;obtain⟨wk1,wk2,wk3⟩:IntKind.i64.wrap ((k:Int)+1)=(k:Int)+1/\IntKind.i64.wrap ((k:Int)+2)=(k:Int)+2/\IntKind.i64.wrap ((k:Int)+3)=(k:Int)+3:=⟨bI _ ai,bI _ ai,bI _ ai⟩;refine eA [(0,1),(1,1),(2,1),(4,1),(5,1),(6,1),(7,0),(8,1),(9,1),(10,1),(11,1),(12,1),(13,1),(14,0),(15,1),(16,1),(17,1),(18,1),(19,1),(20,1),(21,1),(22,0),(23,1),(24,1),(25,1),(26,1),(27,1),(28,1),(29,1),(30,0),(31,1),(32,1),(3,2),(33,3)] 33
  (fun W=>W.cell? (ab,off+k)=some (.int .u8 b0)/\W.cell? (ab,off+(k+1))=some (.int .u8 b1)/\W.cell? (ab,off+(k+2))=some (.int .u8 b2)/\W.cell? (ab,off+(k+3))=some (.int .u8 b3)) cV cV ⟨c0,c1,c2,c3⟩ ?_
 (simp only [bV,List.filterMap_cons,List.filterMap_nil,List.getElem?_cons_zero,List.getElem?_cons_succ,Option.map_some])
 (repeat (first|refine lh ?_|refine lg ?_|refine kZ ?_);(try simp only [Act.put,List.setIfInBounds_toArray,List.set_cons_zero,List.set_cons_succ]))
 refine qQ ?_ (fun K hK=>?_)
 (focus (first|exact bM rfl _|exact eK rfl rfl rfl rfl))
 go_simp
 (with_reducible refine Zv.out.mono ?_);rintro x wx ⟨rfl,rfl⟩
 go_simp;refine hK _ _ ⟨c0,c1,c2,c3⟩ ?_;clear hK K
 (repeat (first|refine lh ?_|refine lg ?_|refine kZ ?_);(try simp only [Act.put,List.setIfInBounds_toArray,List.set_cons_zero,List.set_cons_succ]))
 refine jk ?_ (fun K hK=>?_)
 (focus (first|exact bM rfl _|exact eK rfl rfl rfl rfl))
 go_simp;refine hK _ _ ?_;clear hK K;refine jU ?_;obtain⟨V0,hV0⟩:=cd (W0.drew);have hv0:aq w V0:=by rw [hV0];exact G0.drew
 have HV0:=ag hv0;have MO:Hid (V0.heap[w.heap.size]?=some (.cells cz 30)/\V0=w.heap.size+1):=by rw [hV0];exact MO
 have adm:=ag (ct.below TS hv0 aO);obtain⟨r0,r1,r2,r3,r4,r5,r6,r7,rf⟩:V0.cell? (w,0)=some (az 0 0)/\V0.cell? (w,1)=some (az 0 0)/\(V0,w.heap.size,2)/\V0.cell? (w,3)=some (az 0 0)/\(V0,w.heap.size,4)/\V0.cell? (w,5)=some (az 0 0)/\(V0,w.heap.size,6)/\(V0,w.heap.size,7)/\∀o,V0.frozen? ⟨w.heap.size,o,none⟩=false:=by rw [hV0];exact⟨r0,r1,r2,r3,r4,r5,r6,r7,rf⟩
 rw [<-hV0];have hk4:bs-4=k:=by have:=Uf.out;omega
 have Ta:=ag (show (X=b0*16777216+b1*65536+b2*256+b3)↔mJ (bs.take (bs-4))=bs.drop (bs-4) by
  rw [HDR.out,<-Ta.out,hk4,HX.out])
 clear hV0 hv0 Zv HDR HX HOR o1 o2 o3 wb0 wb1 wb2 wb3 ws0 ws1 ws2 wk1 wk2 wk3 Yr ac2 I7 agL c0 c1 c2 c3 G0 hw0 hcv h3' hd1 hd2 VN;by_cases h4:X=b0*16777216+b1*65536+b2*256+b3
 case neg=>
  have HD:=ag (show wu bs=9 from (ar HH1).trans ((ar HH2).trans ((ar HH3).trans (aw (fun e=>h4 (Ta.2 e))))));have h4':(X == b0*16777216+b1*65536+b2*256+b3)=false:=by simp [h4]
  clear h4 Ta;go_wp2_with fail;exact bW (v:= .tuple #[ey,af 9]) (by simp [results,Tryz.results40,go_sem, *]) rfl ⟨dw HV0 aO _ _ _ _ _ _ _ _, .inl ⟨9,bY,rfl, .inl HD⟩⟩
 have HD:=ag (show wu bs=(Dg (bT bs)).e from (ar HH1).trans ((ar HH2).trans ((ar HH3).trans (ar (fun hn=>hn (Ta.1 h4))))));have h4':(X == b0*16777216+b1*65536+b2*256+b3)=true:=by simp [h4]
 clear Ta h4 g0 g1 g2 g3;have hk2:2<=k:=by have:=HH2.out;have:=Uf.out;omega
 have agB:(2:Int)<=(k:Int):=ai;obtain⟨o,fh,ho⟩:∃o,(if cap=2 then some ((ab,off):Addr)else some (ab,off+2))=some ⟨ab,o,none⟩/\(2<cap->o=off+2):=by
  by_cases h1:cap=2
  ·exact⟨off,aw h1,fun h=>ai⟩
  ·exact⟨off+2,ar h1,fun _=>rfl⟩
 have DV:=ag (show ig V0 (ah (some (ab,o)) (k-2) (cap-2)) (bT bs) by
  have e1:(bs.take k).length=k:=by rw [gh];have:=Uf.out;omega
  have h1:=Bl (m:=k) adm (by have:=Uf.out;omega);rw [show ig V0 (ah (some (ab,off)) k cap) (bs.take k)=ig V0 (ah (some (ab,off)) (bs.take k).length cap) (bs.take k) by rw [e1]]at h1;have h2:=FH (m:=2) h1 ai o ho;rw [e1]at h2;unfold bT;rw [hk4];exact h2)
 clear TS adm a1 a2 a3 a4 a5 ac;go_upto_region 12 with (fail);obtain⟨rb,Wv⟩:=bG (V0.heap.size);have Qh:=ag (show rb=w+1 by rw [<-Wv];exact MO.2);obtain⟨W2,hW2⟩:=cd (V0.alloc (.cells #[ah (some (ab,o)) (k-2) (cap-2),af 0] 142));have hb2:aq V0 W2:=by rw [hW2];exact aj
 have hbk:W2.heap[rb]?=some (.cells #[ah (some (ab,o)) (k-2) (cap-2),af 0] 142):=by rw [hW2,<-Wv];exact au _ _ rfl
 have hz2:W2=rb+1:=by rw [hW2,<-Wv];simp
 have Tc:=ag (show il W2 rb (ah (some (ab,o)) (k-2) (cap-2)) ⟨bT bs,0⟩ from
  ⟨hbk,ct.below DV hb2 aO,xq Tp,⟨_,_,_,by rw [show (bT bs).length=k-2 by unfold bT;rw [qG,gh];have:=Uf.out;omega],by have:=Qh.out;omega⟩⟩)
 have oL:=ag (aJ (aF HV0 hb2 (by have:=MO.2;omega)) hz2);have Tj:Hid (W2.heap[w.heap.size]?=some (.cells cz 30)):=ag ((hb2.block _ (by have:=MO.2;omega)).trans MO.1);rw [<-hW2,Wv];have HC:=ag (Dc (most:=16) Tc);have hcr:=vU (r:=⟨bT bs,0⟩) (most:=16) bY Tc.ok;obtain⟨q,hq⟩:=bG ((Rd.mk (bT bs) 0).cnt 16);rw [hq]at HC hcr;obtain⟨r1',cn⟩:=q;obtain⟨n,rfl⟩:∃n:Nat,cn=n:=⟨cn.toNat,by have:=hcr.1;simp only at this;omega⟩;have abS:n<=16:=by have:=hcr.2;simp only at this;omega
 have HN:=ag (show dL (bT bs)=eH n r1' [] by unfold dL;rw [hq];rfl);clear hW2 hb2 hbk hz2 hq hcr Wv r0 r1 r2 r3 r4 r5 r6 r7 rf fh ho agB DV;go_upto_block 0 with (first|fail|(go_at_call 83;(with_reducible refine HC.out.mono ?_);rintro e w3 ⟨rfl,hT3,v3,hR3⟩));go_cut [6,7,9]from 74 to 127 (fun nv _ _ wx=>∃(ns:List ByteArray) (v:Value) (r:Rd),Hid (dL (bT bs)=(r,ns)/\ns.length<=16)/\Hid (dR (rb+1) wx nv ns/\Below rb W2 wx/\il wx rb v r))
 case first=>
  have HI:=ag (show Below rb W2 w3 from hT3.below (aW _ _) (by have:=oL.2;omega) (fun i h=>by have h:i=rb:=h;omega));have pL:=ag hR3;have P5:=ag (dR.nil (rb+1) w3);have HBZ:=ag hT3.size;clear hR3 hT3 HC Tc;go_wp2_with fail
  go_loopg [6,7] n (fun g nv iv wr=>∃(q:Nat) (ns:List ByteArray),q<=n/\g=n-q/\iv=af q/\Hid (dR (rb+1) wr nv ns/\ns<=q)/\Hid (∃(v:Value) (r:Rd),Below rb W2 wr/\il wr rb v r/\dL (bT bs)=eH (n-q) r ns))
  case atStart=>exact⟨0,[],eY _,rfl,rfl,ag ⟨P5,nu _⟩,ag ⟨_,_,HI,pL,HN⟩⟩
  case round=>
   clear HI pL P5;obtain⟨q,ns,hq,rfl,rfl,HO,HR⟩:=hrel;obtain⟨v,r,cT,hr,pR⟩:=HR.out;have vZ:=ag pR;have TV:=ag hr;have MT:=ag cT;obtain⟨cc0,cc1,ccf⟩:=hr.cells;obtain⟨so,sc,rfl⟩:=HO.out.1.isSlice;clear HR cT hr pR;by_cases hlt:q<n
   ·have hlt':(q:Int)<(n:Int):=ai;by_cases he:r.e=0
    ·rw [he]at cc1;have HCT:=ag (Dc (most:=10) TV);have hgo:=OJ (k:=n-(q+1)) (ns:=ns) he;have Vc:=vU (r:=r) (most:=10) bY TV.ok;rw [show n-(q+1)+1=n-q by omega]at hgo;obtain⟨p,hp⟩:=bG (r.cnt 10);rw [hp]at HCT hgo Vc;obtain⟨rc,m'⟩:=p;obtain⟨m,rfl⟩:∃m:Nat,m'=m:=⟨m'.toNat,by have:=Vc.1;simp only at this;omega⟩;have alV:m<=10:=(by have:=Vc.2;simp only at this;omega);have Xo:=ag hgo;clear hp hgo Vc he;go_upto_region 16 with (first|fail|(go_at_call 83;(with_reducible refine HCT.out.mono ?_);rintro e w4 ⟨rfl,hT4,v4,hR4⟩));have ZK:=ag (HO.out.1.turn hT4);have BH:=ag (hT4.below MT (by have:=MT.size;have:=oL.2;omega) (fun i h=>by have h:i=rb:=h;omega):Below rb W2 w4);have ZB:=ag hR4;have HZ4:=ag hT4.size;obtain⟨d0,d1,df⟩:=hR4.cells;obtain⟨vb,vo,vc,rfl,hvb⟩:=hR4.form;clear hR4 hT4 HCT cc0 cc1 ccf TV;by_cases hce:rc.e=0
     ·have d1':=d1;rw [hce]at d1;by_cases zH:m<=rc.b
      ·have Bh:=ag (vZ.trans (Xo.1 ⟨hce,by show ((m:Nat):Int)<=_;omega⟩));have abT:¬((rc.b.length:Int)<(m:Int)):=ai;have s1:rc.b<=vc:=by
        obtain⟨_,_,hvv,s1,-⟩:=ZB.sl;injection hvv with _ _ hv3;subst hv3;exact s1
       obtain⟨S,hS⟩:=bG (strOfNums (rc.b.take m));have hcs:=ig.str (Bl (m:=m) ZB.sl zH);rw [hS]at hcs;have hmc:m<=vc:=ai;have HSS:=ag hS;have hnl:ns.length<=1000000:=(by have:=HO.out.2;omega);have HML:=ag zH;clear hS zH;go_upto_region 20 with ((at_builtin;refine wQ rfl (.tmp 109) (.tmp 117) rfl (rb+1) _ ns rfl (ZK.alloc _) (w4,0) S rfl Bk ai (by simp;have:=BH.size;have:=oL.2;omega) ?_;intro v5 w5 ab4 hg5));have cy:Below (rb+1) w4 w5:=hg5 (rb+1) w4 ((aW _ _).alloc (by have:=BH.size;have:=oL.2;omega) _) aO;have hr5:=ZB.later cy;obtain⟨e0,e1,ef⟩:=hr5.cells;have GF:=ag (show Below rb W2 w5 from hg5 rb W2 (BH.alloc (by have:=BH.size;have:=oL.2;omega) _) (Nat.le_succ _));have TW:=ag hr5;have Td:=ag ab4;have ZJ:=ag HO.out.2;obtain⟨o5,aiU,fY⟩:∃o,(if vc=m then some ((vb,vo):Addr)else some (vb,vo+m))=some ⟨vb,o,none⟩/\(m<vc->o=vo+m):=by
        by_cases h1:vc=m
        ·exact⟨vo,aw h1,fun h=>ai⟩
        ·exact⟨vo+m,ar h1,fun _=>rfl⟩
       have HD5:=ag (FH (m:=m) TW.sl HML o5 fY);clear hg5 ab4 hr5 cy d0 d1 d1' df hcs HO ZK MT fY;go_wp2_with fail;have TT:=TW.ur HD5 ⟨_,_,_,by rw [qG],hvb⟩ (fun x hx=>TW.ok x (uP hx));rw [hce]at TT;go_roundg (n-(q+1))
       case measure=>omega
       case rel=>exact⟨q+1,ns++[S],hlt,rfl,by go_num,ag ⟨Td.turn TT.1,by have:=ZJ.out;rw [dF];simp only [List.length_singleton];omega⟩,ag ⟨_,_,TT.1.below GF (by have:=GF.size;have:=oL.2;omega) (fun i h=>by have h:i=rb:=h;omega),TT.2,Bh.trans (by rw [Int.toNat_natCast,HSS])⟩⟩
      ·have Bh:=ag (vZ.trans (Xo.2.2 hce (by first|omega|(dsimp only;omega))));have abT:(rc.b.length:Int)<(m:Int):=ai;have HW:=ag (pN (e:=5) ZB);have HWR:=ag (show rc.wrong 5=⟨rc.b,5⟩from aw hce);go_upto_region 18 with (first|fail|(go_at_call 84;(with_reducible refine HW.out.mono ?_);rintro e w5 ⟨rfl,hT5,hR5⟩));rw [HWR]at hR5;obtain⟨f0,f1,ff⟩:=hR5.cells;have TW:=ag hR5;clear hR5 d0 d1 d1' df hce zH abT;go_wp2_with fail;go_roundg (n-(q+1))
       case measure=>omega
       case rel=>exact⟨q+1,ns,hlt,rfl,by go_num,ag ⟨ZK.turn hT5,by have:=HO.out.2;omega⟩,ag ⟨_,_,hT5.below BH (by have:=BH.size;have:=oL.2;omega) (fun i h=>by have h:i=rb:=h;omega),TW,Bh.trans (qT (show (5:Int)≠0 by decide)).symm⟩⟩
     ·have Bh:=ag (vZ.trans (Xo.2.1 hce));have HCE:=ag hce;have amo:(rc.e == 0)=false:=(by simp [hce]);clear hce;go_wp2_with fail;go_roundg (n-(q+1))
      case measure=>omega
      case rel=>exact⟨q+1,ns,hlt,rfl,by go_num,ag ⟨ZK,by have:=HO.out.2;omega⟩,ag ⟨_,_,BH,ZB,Bh.trans (qT HCE).symm⟩⟩
    ·have he':(r.e == 0)=false:=(by simp [he]);clear hlt;go_wp2_with fail;go_meet;exact⟨ns,v,r,ag ⟨vZ.trans (qT he),by have:=HO.out.2;omega⟩,ag ⟨HO.out.1,MT,TV⟩⟩
   ·have hlt':¬(q:Int)<(n:Int):=ai;go_wp2_with fail;go_meet;exact⟨ns,v,r,ag ⟨vZ.trans (by rw [show n-q=0 by omega];rfl),by have:=HO.out.2;omega⟩,ag ⟨HO.out.1,MT,TV⟩⟩
 case rest=>
  obtain⟨ns,v,r,P4,HA⟩:=hcut;obtain⟨nso,nsc,rfl⟩:=HA.out.1.isSlice;have HF:=ag (rU HA.out.2.2);have zl:=vL HA.out.2.2.ok;obtain⟨p,hp⟩:=bG (r.num);have HP:=ag hp;rw [hp]at HF zl;obtain⟨rf,fl⟩:=p;have HFR:=ag zl;clear HC Tc hp zl HN;go_upto_region 24 with (first|fail|(go_at_call 85;(with_reducible refine HF.out.mono ?_);rintro e w7 ⟨rfl,hT7,v7,hR7⟩));have HO7:=ag (HA.out.1.turn hT7);have zn:=ag (hT7.below HA.out.2.1 (by have:=HA.out.2.1.size;have:=oL.2;omega) (fun i h=>by have h:i=rb:=h;omega):Below rb W2 w7);have HC7:=ag (Dc (most:=10000) hR7);have hcr:=vU (r:=rf) (most:=10000) bY hR7.ok;obtain⟨p,hp⟩:=bG (rf.cnt 10000);have HBC:=ag (show uL (bT bs)=p by unfold uL;rw [P4.out.1,HP];exact hp);rw [hp]at HC7 hcr;obtain⟨rc,cm'⟩:=p;obtain⟨cm,rfl⟩:∃m:Nat,cm'=m:=⟨cm'.toNat,by have:=hcr.1;simp only at this;omega⟩;have hcm:cm<=10000:=by have:=hcr.2;simp only at this;omega
  clear hp hcr hR7 hT7 HF HA;go_upto_block 2 with (first|fail|(go_at_call 83;(with_reducible refine HC7.out.mono ?_);rintro e w8 ⟨rfl,hT8,v8,hR8⟩));have HO8:=ag (HO7.turn hT8);have BG:=ag (hT8.below zn (by have:=zn.size;have:=oL.2;omega) (fun i h=>by have h:i=rb:=h;omega):Below rb W2 w8);have HR8:=ag hR8;have IV:rb<w8:=by have:=BG.size;have:=oL.2;omega
  clear hT8 hR8 HC7;go_cut [11,12,13,15]from 132 to 198 (fun tv _ _ _ wx=>∃(es:List aH) (v:Value) (r:Rd),Hid (gG (bT bs)=(r,es)/\es.length<=10000)/\Hid (ay w8 wx tv es/\jl rb w8 wx/\il wx rb v r))
  case first=>
   have HE0:=ag (show gG (bT bs)=jX cm rc [] by unfold gG;rw [HBC];rfl);go_wp2_with fail
   go_loopg [11,12,13] cm (fun g tv kv iv wr=>∃(q:Nat) (es:List aH),q<=cm/\g=cm-q/\iv=af q/\kv=af (jg es)/\Hid (ay w8 wr tv es/\es=q)/\Hid (∃(v:Value) (r:Rd),jl rb w8 wr/\il wr rb v r/\gG (bT bs)=jX (cm-q) r es/\(r.e=0->0<=jg es/\jg es<1099511627776)))
   case atStart=>exact⟨0,[],eY _,rfl,rfl,rfl,ag ⟨ay.nil _ _,rfl⟩,ag ⟨_,_,aA.refl _ _,HR8,HE0,fun _=>bY⟩⟩
   case round=>
    clear HE0;obtain⟨q,es,hq,rfl,rfl,rfl,HO,HR⟩:=hrel;obtain⟨v,r,htw,hr,pR,hkr⟩:=HR.out;have vZ:=ag pR;have TV:=ag hr;have Zt:=ag htw;obtain⟨cc0,cc1,ccf⟩:=hr.cells;obtain⟨so,sc,rfl⟩:=HO.out.1.isSlice;clear HR htw hr pR;by_cases hlt:q<cm
    ·have hlt':(q:Int)<(cm:Int):=ai;by_cases he:r.e=0
     ·rw [he]at cc1;obtain⟨iy,hk1⟩:=hkr he;obtain⟨p,hp0⟩:=bG (r.num);obtain⟨ra,nk⟩:=p;obtain⟨p,hp1⟩:=bG (ra.num);obtain⟨rb1,c⟩:=p;obtain⟨p,hp2⟩:=bG (rb1.vv);obtain⟨rc1,s1⟩:=p;obtain⟨p,Kl⟩:=bG (rc1.vv);obtain⟨rd1,s2⟩:=p;obtain⟨p,hp4⟩:=bG (rd1.vv);obtain⟨re1,s3⟩:=p;obtain⟨p,hp5⟩:=bG (re1.vv);obtain⟨rx,s4⟩:=p;have P9:=vL TV.ok;rw [hp0]at P9;have P9:0<=nk/\nk<72057594037927936:=P9;have HC0:=ag (fun(W:World) (v:Value) (h:il W rb v r)=>(by have:=rU h;rw [hp0]at this;exact this:Calls Tryz.prog 85 #[.pointer (some (rb,0))] W fun x w'=>x = .returned (af nk)/\jl rb W w'/\∃v',il w' rb v' ra));have HC1:=ag (fun(W:World) (v:Value) (h:il W rb v ra)=>(by have:=rU h;rw [hp1]at this;exact this:Calls Tryz.prog 85 #[.pointer (some (rb,0))] W fun x w'=>x = .returned (af c)/\jl rb W w'/\∃v',il w' rb v' rb1));have HC2:=ag (fun(W:World) (v:Value) (h:il W rb v rb1)=>(by have:=vt h;rw [hp2]at this;exact this:Calls Tryz.prog 86 #[.pointer (some (rb,0))] W fun x w'=>x = .returned (af s1)/\jl rb W w'/\∃v',il w' rb v' rc1));have HC3:=ag (fun(W:World) (v:Value) (h:il W rb v rc1)=>(by have:=vt h;rw [Kl]at this;exact this:Calls Tryz.prog 86 #[.pointer (some (rb,0))] W fun x w'=>x = .returned (af s2)/\jl rb W w'/\∃v',il w' rb v' rd1));have HC4:=ag (fun(W:World) (v:Value) (h:il W rb v rd1)=>(by have:=vt h;rw [hp4]at this;exact this:Calls Tryz.prog 86 #[.pointer (some (rb,0))] W fun x w'=>x = .returned (af s3)/\jl rb W w'/\∃v',il w' rb v' re1));have HC5:=ag (fun(W:World) (v:Value) (h:il W rb v re1)=>(by have:=vt h;rw [hp5]at this;exact this:Calls Tryz.prog 86 #[.pointer (some (rb,0))] W fun x w'=>x = .returned (af s4)/\jl rb W w'/\∃v',il w' rb v' rx));have HED:=ag (show nj r (jg es)=(rx,⟨jg es+nk,⟨c,s1,s2,s3,(jg es+nk)%1048576,s4⟩⟩) by simp only [nj,hp0,hp1,hp2,Kl,hp4,hp5]);have hgo:gG (bT bs)=jX (cm-(q+1)) (tY r es) (es++[(nj r (jg es)).2]):=vZ.trans (by rw [show cm-q=(cm-(q+1))+1 by omega];exact Ss he);obtain⟨K,hK⟩:=bG (jg es);rw [hK]at HED hgo iy hk1;rw [hK];obtain⟨P,hP⟩:=bG (K+nk);rw [hP]at HED;have YV:0<=P/\P<73156568704811008:=ai;have hwP:IntKind.i64.wrap (K+nk)=P:=(by rw [hP];exact bI _ ai);have htP:P.tmod 1048576=P%1048576:=tJ YV.1;have hwt:IntKind.i64.wrap (P%1048576)=P%1048576:=bI _ ai;have Xo:=ag hgo;have HK:=ag hK;have HPP:=ag hP;clear hp0 hp1 hp2 Kl hp4 hp5 hgo he hP hkr P9;go_upto_region 29 with (first|fail|(go_at_call 85;(with_reducible refine(HC0.out _ _ TV.out).mono ?_);rintro e w9 ⟨rfl,YT,v9,hR9⟩));obtain⟨W10,Sc⟩:=cd (w9.alloc (.cells #[af P,af 0,af 0,af 0,af 0,af 0,af 0] 107));have U3:w8<=w9.heap.size:=fZ Zt.size YT.size;have HT9:=ag (Zt.trans YT);have hO9:=HO.out.1.block fun g hg=>YT.block g (HO.out.1.lt g hg).2 (fun e=>by have:=(HO.out.1.lt g hg).1;have e:g=rb:=e;omega);have tA:aq w9 W10:=(by rw [Sc];exact aj);obtain⟨xb,Wq⟩:=bG (w9.heap.size);have kx:W10.heap[xb]?=some (.cells #[af P,af 0,af 0,af 0,af 0,af 0,af 0] 107):=(by rw [Sc,<-Wq];exact au _ _ rfl);have Rp:W10=xb+1:=(by rw [Sc,<-Wq];simp);have adr:=ag (hR9.later (tA.mono ai));have ai4:=ag (hO9.below tA aO);have adl:=ag (HT9.trans (aA.of tA aO):jl rb w8 W10);have VJ:=ag (aJ kx Rp);have HO9:=ag hO9;have VY:=ag tA;have HXB:=ag Wq;have hxr:w8<=xb:=ai;rw [<-Sc,Wq];clear Sc YT hR9 hO9 tA kx Rp cc0 cc1 ccf HC0 U3;go_upto_region 30 with (first|fail|(go_at_call 85;(with_reducible refine(HC1.out _ _ adr.out).mono ?_);rintro e w11 ⟨rfl,acz,v11,acK⟩)|(go_at_call 86;(first|((with_reducible refine(HC2.out _ _ acK).mono ?_);rintro e w12 ⟨rfl,acy,v12,acJ⟩)|((with_reducible refine(HC3.out _ _ acJ).mono ?_);rintro e w13 ⟨rfl,acx,v13,acI⟩)|((with_reducible refine(HC4.out _ _ acI).mono ?_);rintro e w14 ⟨rfl,acw,v14,acH⟩)|((with_reducible refine(HC5.out _ _ acH).mono ?_);rintro e w15 ⟨rfl,acv,v15,acG⟩;have hT:=((((acz.trans acy).trans acx).trans acw).trans acv);have kx:=(hT.block xb (by have:=VJ.2;omega) (fun e=>by have e:xb=rb:=e;omega)).trans VJ.1;obtain⟨z0,z1,z2,z3,z4,z5,z6,zf⟩:=Bv kx))));obtain⟨V,hV⟩:=cd ((((((w15.setCell (xb,1) (af c)).setCell (xb,2) (af s1)).setCell (xb,3) (af s2)).setCell (xb,4) (af s3)).setCell (xb,5) (af (P%1048576))).setCell (xb,6) (af s4));have kV:V.heap[xb]?=some (.cells #[af P,af c,af s1,af s2,af s3,af (P%1048576),af s4] 107):=(by rw [hV];exact Su kx);have HTV:=ag (show jl rb w8 V by rw [hV];exact Od (adl.trans hT) hxr _ _ _ _ _ _);have hbV:Below xb w15 V:=(by rw [hV];exact MA aO _ _ _ _ _ _);have HRV:=ag (acG.later (hbV.mono ai));have hVg:∀g,g<xb->g≠rb->V.heap[g]?=w9.heap[g]?:=fun g h1 h2=>(hbV.block g h1).trans ((hT.block g (by have:=VJ.2;omega) h2).trans (VY.block g (by have:=HXB.out;omega)));have hoV:Hid (∀W,jl rb V W->ay w8 W (ah so es sc) es):=ag fun W hW=>HO9.block fun g hg=>by
       have h1:=HO9.lt g hg;have h2:=HXB.out;exact(hW.block g (by have:=HTV.size;have:=(eJ.1 kV).1;omega) (fun e=>by have e:g=rb:=e;omega)).trans (hVg g ai ai)
      have hxV:=(eJ.1 kV).1;rw [<-hV];obtain⟨f0,f1,ff⟩:=HRV.cells;obtain⟨y0,y1,y2,y3,y4,y5,y6,yf⟩:=Bv kV;have HHZ:=ag hxV;clear hV hbV hVg hT kx acz acy acx acw acv acK acJ acI acH acG adr ai4 adl HT9 VJ;obtain⟨BB,TM⟩:=bG (decide (rx.e=0/\lL es ⟨P,⟨c,s1,s2,s3,P%1048576,s4⟩⟩));go_cut [192]from 132 to 198 (fun cb wx=>cb = .bool BB/\V=wx)
      case first=>
       clear z0 z1 z2 z3 z4 z5 z6 zf;by_cases LF:rx.e=0
       ·have TR:=ag LF;rw [LF]at f1;clear LF;by_cases hbig:1099511627776<=P
        ·go_wp2_with fail;go_meet;exact⟨congrArg Value.bool ((decide_eq_true (⟨TR, .inl hbig⟩:rx.e=0/\lL es ⟨P,⟨c,s1,s2,s3,P%1048576,s4⟩⟩)).symm.trans TM),rfl⟩
        ·by_cases hc0:c=0
         ·go_wp2_with fail;go_meet;exact⟨congrArg Value.bool ((decide_eq_true (⟨TR, .inr (.inl hc0)⟩:rx.e=0/\lL es ⟨P,⟨c,s1,s2,s3,P%1048576,s4⟩⟩)).symm.trans TM),rfl⟩
         ·have amu:(c == 0)=false:=(by simp [hc0]);by_cases hq0:q=0
          ·have hes:=ag (yX (by have:=HO.out.2;omega):es=[]);have alJ:¬(0:Int)<(q:Int):=ai;clear hq0;go_wp2_with fail;go_meet;exact⟨congrArg Value.bool ((xA (fun hn=>by rcases hn.2 with h|h|h;exact absurd (show 1099511627776<=P from h) ai;exact hc0 h;exact h.1 hes:¬(rx.e=0/\lL es ⟨P,⟨c,s1,s2,s3,P%1048576,s4⟩⟩))).symm.trans TM),rfl⟩
          ·obtain⟨j,hj⟩:∃j,q=j+1:=⟨q-1,ai⟩;have HJ:=ag hj;obtain⟨og,oo,hso,hlast⟩:=ay.last (hoV V (aA.refl _ _)) (HO.out.2.trans hj) (by have:=HO.out.2;omega);rw [HK]at hlast;subst hso;have am9:=fun w'=>cN (ab:=og) (aR:=oo) (n:=es.length) (cap:=sc) (show (j:Int)=((j:Nat):Int) by rfl) (by have:=HO.out.2;omega) w';have n1:IntKind.i64.wrap ((q:Int)-1)=(j:Int):=(by rw [show (q:Int)-1=(j:Int) by omega];exact bI _ ai);have n2:(q:Int)-1=(j:Int):=ai;have hqp:(0:Int)<(q:Int):=ai;have hes:es≠[]:=fun hn=>(by have:=HO.out.2;rw [hn]at this;simp at this;omega);clear hj hq0;by_cases hle:P<=K
           ·go_wp2_with fail;go_meet;exact⟨congrArg Value.bool ((decide_eq_true (⟨TR, .inr (.inr ⟨hes,by rw [HK];exact hle⟩)⟩:rx.e=0/\lL es ⟨P,⟨c,s1,s2,s3,P%1048576,s4⟩⟩)).symm.trans TM),rfl⟩
           ·go_wp2_with fail;go_meet;exact⟨congrArg Value.bool ((xA (fun hn=>by rcases hn.2 with h|h|h;exact absurd (show 1099511627776<=P from h) ai;exact hc0 h;exact absurd (show P<=K from HK.out▸h.2) ai:¬(rx.e=0/\lL es ⟨P,⟨c,s1,s2,s3,P%1048576,s4⟩⟩))).symm.trans TM),rfl⟩
       ·have U4:(rx.e == 0)=false:=(by simp [LF]);go_wp2_with fail;go_meet;exact⟨congrArg Value.bool ((xA (fun hn=>LF hn.1:¬(rx.e=0/\lL es ⟨P,⟨c,s1,s2,s3,P%1048576,s4⟩⟩))).symm.trans TM),rfl⟩
      case rest=>
       obtain⟨rfl,hwc⟩:=hcut;subst hwc;by_cases hb:rx.e=0/\lL es ⟨P,⟨c,s1,s2,s3,P%1048576,s4⟩⟩
       ·have hBt:BB=true:=(by rw [<-TM];exact decide_eq_true hb);subst hBt;have HB:=ag hb;have HW7:=ag (pN (e:=7) HRV);have HWR:=ag (show rx.wrong 7=⟨rx.b,7⟩from aw hb.1);clear hb TM;go_upto_region 32 with (first|fail|(go_at_call 84;(with_reducible refine HW7.out.mono ?_);rintro e w16 ⟨rfl,YU,acF⟩));rw [HWR]at acF;have S7:=ag (HTV.trans YU:jl rb w8 w16);have Zy:=ag acF;have ZI:=ag (hoV w16 YU);have kx6:=(YU.block xb ai (fun e=>by have e:xb=rb:=e;omega)).trans kV;obtain⟨x0,x1,x2,x3,x4,x5,x6,xf⟩:=Bv kx6;have hel:es.length<=1000000:=(by have:=HO.out.2;omega);have X0:w8<=w16.heap.size:=S7.size;have GD:=ag (Xo.trans (by rw [HED]):gG (bT bs)=jX (cm-(q+1)) (tY r es) (es++[⟨P,⟨c,s1,s2,s3,P%1048576,s4⟩⟩]));have ZY:=ag (show tY r es=⟨rx.b,7⟩ by unfold tY;rw [HK,HED];exact aw HB);clear z0 z1 z2 z3 z4 z5 z6 zf y0 y1 y2 y3 y4 y5 y6 yf f0 f1 ff kV kx6;go_wp2_with ((at_builtin;refine cg rfl (.tmp 195) (.tmp 197) rfl w8 _ es rfl (ZI.alloc _) ⟨_,0,none⟩ ⟨P,⟨c,s1,s2,s3,P%1048576,s4⟩⟩ rfl (fun j u h=>ik h) hel fk ?_;intro v17 w17 QT Yy));have R9:=Yy w8 w16 ((aW _ _).alloc X0 _) aO;go_roundg (cm-(q+1))
        case measure=>omega
        case rel=>exact⟨q+1,es++[⟨P,⟨c,s1,s2,s3,P%1048576,s4⟩⟩],hlt,rfl,by go_num,by rw [ko],ag ⟨QT,by have:=HO.out.2;rw [dF];simp only [List.length_singleton];omega⟩,ag ⟨_,_,BN S7 R9,Zy.later (R9.mono IV),GD.trans (by rw [ZY]),fun h7=>absurd h7 (by show ¬(7:Int)=0;decide)⟩⟩
       ·have hBt:BB=false:=(by rw [<-TM];exact xA hb);subst hBt;have HB:=ag hb;clear hb TM;go_upto_region 32 with (fail);have S7:=ag (HTV:jl rb w8 V);have Zy:=ag HRV.out;have ZI:=ag (hoV V (aA.refl _ _));have kx6:=kV;obtain⟨x0,x1,x2,x3,x4,x5,x6,xf⟩:=Bv kx6;have hel:es.length<=1000000:=(by have:=HO.out.2;omega);have X0:w8<=V.heap.size:=S7.size;have GD:=ag (Xo.trans (by rw [HED]):gG (bT bs)=jX (cm-(q+1)) (tY r es) (es++[⟨P,⟨c,s1,s2,s3,P%1048576,s4⟩⟩]));have ZY:=ag (show tY r es=rx by unfold tY;rw [HK,HED];exact ar HB);clear z0 z1 z2 z3 z4 z5 z6 zf y0 y1 y2 y3 y4 y5 y6 yf f0 f1 ff kV kx6;go_wp2_with ((at_builtin;refine cg rfl (.tmp 195) (.tmp 197) rfl w8 _ es rfl (ZI.alloc _) ⟨_,0,none⟩ ⟨P,⟨c,s1,s2,s3,P%1048576,s4⟩⟩ rfl (fun j u h=>ik h) hel fk ?_;intro v17 w17 QT Yy));have R9:=Yy w8 V ((aW _ _).alloc X0 _) aO;go_roundg (cm-(q+1))
        case measure=>omega
        case rel=>exact⟨q+1,es++[⟨P,⟨c,s1,s2,s3,P%1048576,s4⟩⟩],hlt,rfl,by go_num,by rw [ko],ag ⟨QT,by have:=HO.out.2;rw [dF];simp only [List.length_singleton];omega⟩,ag ⟨_,_,BN S7 R9,Zy.later (R9.mono IV),GD.trans (by rw [ZY]),fun h7=>by rw [ko];exact⟨YV.1,Int.not_le.1 fun hn=>HB ⟨h7, .inl hn⟩⟩⟩⟩
     ·have he':(r.e == 0)=false:=(by simp [he]);clear hlt;go_wp2_with fail;go_meet;exact⟨es,v,r,ag ⟨vZ.trans (tE he),by have:=HO.out.2;omega⟩,ag ⟨HO.out.1,Zt,TV⟩⟩
    ·have hlt':¬(q:Int)<(cm:Int):=ai;go_wp2_with fail;go_meet;exact⟨es,v,r,ag ⟨vZ.trans (by rw [show cm-q=0 by omega];rfl),by have:=HO.out.2;omega⟩,ag ⟨HO.out.1,Zt,TV⟩⟩
  case rest=>
   obtain⟨es,vx,rx,HEE,HZ⟩:=hcut;obtain⟨eso,esc,rfl⟩:=HZ.out.1.isSlice;have Zx:=ag HZ.out.2.2;have HBR:=ag (show Dg (bT bs)=if rx.e=0/\0<rx.b.length then⟨rx.b,4⟩else rx by unfold Dg;rw [HEE.out.1]);have Ex:=ag (show Below rb W2 wc from HZ.out.2.1.below BG ai (fun i h=>by have h:i=rb:=h;omega));obtain⟨f0,f1,ff⟩:=Zx.cells;obtain⟨vb,vo,vc,hvx,hvb⟩:=Zx.form;subst hvx;by_cases LF:rx.e=0
   ·have TR:=ag LF;rw [LF]at f1;clear LF;by_cases hlen:0<rx.b.length
    ·have hlen':(0:Int)<(rx.b.length:Int):=ai;have HD4:=ag (show wu bs=4 by rw [HD,HBR,aw ⟨TR,hlen⟩]);have HW4:=ag (pN (e:=4) Zx);have HWR:=ag (show rx.wrong 4=⟨rx.b,4⟩from aw TR);clear hlen;go_upto_region 35 with (first|fail|(go_at_call 84;(with_reducible refine HW4.out.mono ?_);rintro e wz ⟨rfl,hTz,hRz⟩));rw [HWR]at hRz;clear f0 f1 ff;obtain⟨f0,f1,ff⟩:=hRz.cells;have DU:=ag (hTz.below Ex (by have:=Ex.size;have:=oL.2;omega) (fun i h=>by have h:i=rb:=h;omega):Below rb W2 wz);have HWW:=ag (aF (Below.mono oL.1 aO) (aW _ W2) oL.1.size);have MT:=ag (show aq w wz from ⟨DU.os.trans oL.1.os,DU.tape.trans oL.1.tape,DU.out.output.trans oL.1.output,fZ oL.1.size DU.size,fun b hb=>(DU.block b (by have:=Qh.out;omega)).trans (oL.1.block b hb)⟩);have kz:wz.heap[w.heap.size]?=some (.cells cz 30):=(DU.block _ (by have:=Qh.out;omega)).trans Tj;obtain⟨r0,r1,r2,r3,r4,r5,r6,r7,rf⟩:wz.cell? (w,0)=some (az 0 0)/\wz.cell? (w,1)=some (az 0 0)/\(wz,w.heap.size,2)/\wz.cell? (w,3)=some (az 0 0)/\(wz,w.heap.size,4)/\wz.cell? (w,5)=some (az 0 0)/\(wz,w.heap.size,6)/\(wz,w.heap.size,7)/\∀o,wz.frozen? ⟨w.heap.size,o,none⟩=false:=(by simp [World.cell?,World.frozen?,kz,cz]);have P9:rb≠w:=(by have:=Qh.out;omega);have agr:¬rb=w:=P9;have agq:¬w=rb:=fun e=>P9 e.symm;have HKZ:=ag kz;clear kz;go_upto_region 36 with (fail);refine eA [(1,1),(2,1),(3,1),(4,0),(0,1),(5,2),(6,3)] 6
      (fun W=>W.cell? (rb,1)=some (af 4)) cV cV (by exact f1) ?_
     (simp only [bV,List.filterMap_cons,List.filterMap_nil,List.getElem?_cons_zero,List.getElem?_cons_succ,Option.map_some])
     (repeat (first|refine lh ?_|refine lg ?_|refine kZ ?_);(try simp only [Act.put,List.setIfInBounds_toArray,List.set_cons_zero,List.set_cons_succ]))
     refine qQ ?_ (fun K hK=>?_)
     (focus (first|exact bM rfl _|exact eK rfl rfl rfl rfl))
     go_simp;obtain⟨VV,CV⟩:=cd (((((((((wz.setCell (w,0) (az 0 0)).setCell (w,1) (az 0 0)).setCell (w,2) (af 0)).setCell (w,3) (az 0 0)).setCell (w,4) (af 0)).setCell (w,5) (az 0 0)).setCell (w,6) (af 0)).setCell (w,7) (af 0)));have hvr:VV.heap[rb]?=wz.heap[rb]?:=(by rw [CV];exact dZ P9);have hvb:aq w VV:=(by rw [CV];exact dw MT aO _ _ _ _ _ _ _ _);have hvs:VV.drew.cell? (rb,1)=some (af 4):=(oH (show VV.drew.heap[rb]?=wz.heap[rb]? from hvr)).trans f1;rw [<-CV];have kV:=(by rw [CV];exact kr HKZ.out:VV.heap[w.heap.size]?=some (.cells cz 30));obtain⟨q0,q1,q2,q3,q4,q5,q6,q7⟩:VV.drew.cell? (w,0)=some (az 0 0)/\VV.drew.cell? (w,1)=some (az 0 0)/\VV.drew.cell? (w,2)=some (af 0)/\VV.drew.cell? (w,3)=some (az 0 0)/\VV.drew.cell? (w,4)=some (af 0)/\VV.drew.cell? (w,5)=some (az 0 0)/\VV.drew.cell? (w,6)=some (af 0)/\VV.drew.cell? (w,7)=some (af 0):=(by obtain⟨q0,q1,q2,q3,q4,q5,q6,q7,-⟩:=cU (w:=VV.drew) kV;exact⟨q0,q1,q2,q3,q4,q5,q6,q7⟩);clear CV kV;refine hK _ _ hvs ?_;clear hK K
     (repeat (first|refine lh ?_|refine lg ?_|refine kZ ?_);(try simp only [Act.put,List.setIfInBounds_toArray,List.set_cons_zero,List.set_cons_succ]))
     refine jk ?_ (fun K hK=>?_)
     (focus (first|exact bM rfl _|exact eK rfl rfl rfl rfl))
     go_simp;refine hK _ _ ?_;clear hK K;refine jU ?_;go_wp2_with fail;exact bW (v:= .tuple #[ey,af 4]) (by simp [results,Tryz.results40,go_sem, *]) rfl ⟨hvb.drew, .inl ⟨4,bY,rfl, .inl HD4⟩⟩
    ·have hlen':¬(0:Int)<(rx.b.length:Int):=ai;have ZZ:=ag (show wu bs=0 by rw [HD,HBR,ar (fun hn=>hlen hn.2)];exact TR);have GZ:=ag (show (dL (bT bs)).2=ns by rw [P4.out.1]);have Ui:=ag (show (dL (bT bs)).1.num.2=fl by rw [P4.out.1];show r.num.2=fl;rw [HP]);have HE2:=ag (show (gG (bT bs)).2=es by rw [HEE.out.1]);obtain⟨-,-,RJ,hl2,-,-,-⟩:=Zd Tp ZZ;rw [HE2]at RJ hl2;have HOW:=ag (HO8.turn HZ.out.2.1);have abB:∀s∈ns,s.size<=10:=by
      rw [<-GZ];exact xV (pU (xq Tp)) (fun s hs=>by cases hs)
     have PU:=ag (show aq w wc from ⟨Ex.os.trans oL.1.os,Ex.tape.trans oL.1.tape,Ex.out.output.trans oL.1.output,fZ oL.1.size Ex.size,fun b hb=>(Ex.block b (by have:=Qh.out;omega)).trans (oL.1.block b hb)⟩);have Xj:=ag (Q7 (fl:=fl) (HOW.at (by have:=P4.out.2;omega)) (HZ.out.1.at ai) ⟨hl2.2.1,fun e he=>⟨(hl2.1 e he).1,(hl2.1 e he).2.1⟩,RJ⟩ (fun s hs=>fZ (abB s hs) bY) (ry.below PU));clear RJ hl2 abB hlen;have hcz:w<wc.heap.size:=(by have:=PU.size;have:=Ex.size;have:=Qh.out;have:=oL.2;omega);have ZT:=ag (show wc.heap[w.heap.size]?=some (.cells cz 30)from (Ex.block _ (by have:=Qh.out;omega)).trans Tj);go_upto_region 37 with (fail);clear f0 f1 ff;go_wp2_with (go_at_call 87;(with_reducible refine Xj.out.mono ?_);rintro e wz ⟨hbz,hez⟩;have kz:=(hbz.block _ hcz).trans ZT;obtain⟨r0,r1,r2,r3,r4,r5,r6,r7,rf⟩:=cU kz;have HBZ:=ag hbz;have HKZ:=ag kz;clear kz hbz;rcases hez with ⟨E,hE0,rfl,hbad⟩|⟨sn,sc,g0,l0,p0,g1,l1,p1,g2,l2,p2,T,hnv,rfl,hok,wJ⟩)
     ·obtain⟨VV,CV⟩:=cd (((((((((wz.setCell (w,0) (az 0 0)).setCell (w,1) (az 0 0)).setCell (w,2) (af 0)).setCell (w,3) (az 0 0)).setCell (w,4) (af 0)).setCell (w,5) (az 0 0)).setCell (w,6) (af 0)).setCell (w,7) (af 0)));have hvb:aq w VV:=(by rw [CV];exact dw (aF PU HBZ PU.size) aO _ _ _ _ _ _ _ _);have kV:=(by rw [CV];exact kr HKZ.out:VV.heap[w.heap.size]?=some (.cells cz 30));obtain⟨q0,q1,q2,q3,q4,q5,q6,q7,-⟩:=cU kV;rw [<-CV];clear CV kV;exact bW (v:= .tuple #[ey,af E]) (by simp [results,Tryz.results40,go_sem, *]) rfl ⟨hvb, .inl ⟨E,hE0,rfl, .inr ⟨ZZ,by rw [GZ,Ui,HE2];exact hbad⟩⟩⟩
     ·obtain⟨VV,CV⟩:=cd (((((((((wz.setCell (w,0) (ah nso ns nsc)).setCell (w,1) (ah g0 l0 p0)).setCell (w,2) (af (T 0).root)).setCell (w,3) (ah g1 l1 p1)).setCell (w,4) (af (T 1).root)).setCell (w,5) (ah g2 l2 p2)).setCell (w,6) (af (T 2).root)).setCell (w,7) (af fl)));have hvb:aq w VV:=(by rw [CV];exact dw (aF PU HBZ PU.size) aO _ _ _ _ _ _ _ _);have kV:=(by rw [CV];exact kr HKZ.out:VV.heap[w.heap.size]?=some (.cells #[ah nso ns nsc,ah g0 l0 p0,af (T 0).root,ah g1 l1 p1,af (T 1).root,ah g2 l2 p2,af (T 2).root,af fl] 30));have HKV:=ag (show aQ (wc+2) wz VV by rw [CV];exact zE ai _ _ _ _ _ _ _ _);have HOV:=ag ((HOW.block fun g hg=>HBZ.block g (HOW.lt g hg).2).block fun g hg=>by
       rw [CV];exact dZ (by have:=(HOW.lt g hg).1;have:=Qh.out;omega):dR (rb+1) VV (ah nso ns nsc) ns)
      obtain⟨q0,q1,q2,q3,q4,q5,q6,q7,-⟩:=cU kV;rw [<-CV];have VZ:=ag wJ;clear CV kV wJ;exact bW (v:= .tuple #[.agg (aL nso ns nsc g0 l0 p0 g1 l1 p1 g2 l2 p2 ⟨ns,T 0,T 1,T 2,fl⟩),af 0]) (by simp [results,Tryz.results40,aL,go_sem, *]) rfl ⟨hvb, .inr ⟨ZZ,nso,nsc,g0,l0,p0,g1,l1,p1,g2,l2,p2,T,by rw [GZ,Ui],by rw [GZ,Ui,HE2];exact hok,fun w'' hw=>by
       rw [GZ,Ui];exact VZ w'' ((HOV.keep (by have:=Qh.out;omega) hw).at (by have:=P4.out.2;omega)) (HKV.trans (hw.mono ai))⟩⟩
   ·have U4:(rx.e == 0)=false:=(by simp [LF]);have HDE:=ag (show wu bs=rx.e by rw [HD,HBR,ar (fun hn=>LF hn.1)]);have TR:=ag LF;clear LF;obtain⟨E,hE⟩:=bG (rx.e);rw [hE]at f1 U4 HDE TR;clear hE;have DU:=ag (Ex:Below rb W2 wc);have HWW:=ag (aF (Below.mono oL.1 aO) (aW _ W2) oL.1.size);have MT:=ag (show aq w wc from ⟨DU.os.trans oL.1.os,DU.tape.trans oL.1.tape,DU.out.output.trans oL.1.output,fZ oL.1.size DU.size,fun b hb=>(DU.block b (by have:=Qh.out;omega)).trans (oL.1.block b hb)⟩);have kz:wc.heap[w.heap.size]?=some (.cells cz 30):=(DU.block _ (by have:=Qh.out;omega)).trans Tj;obtain⟨r0,r1,r2,r3,r4,r5,r6,r7,rf⟩:wc.cell? (w,0)=some (az 0 0)/\wc.cell? (w,1)=some (az 0 0)/\(wc,w.heap.size,2)/\wc.cell? (w,3)=some (az 0 0)/\(wc,w.heap.size,4)/\wc.cell? (w,5)=some (az 0 0)/\(wc,w.heap.size,6)/\(wc,w.heap.size,7)/\∀o,wc.frozen? ⟨w.heap.size,o,none⟩=false:=(by simp [World.cell?,World.frozen?,kz,cz]);have P9:rb≠w:=(by have:=Qh.out;omega);have agr:¬rb=w:=P9;have agq:¬w=rb:=fun e=>P9 e.symm;have HKZ:=ag kz;clear kz;go_upto_region 36 with (fail);refine eA [(1,1),(2,1),(3,1),(4,0),(0,1),(5,2),(6,3)] 6
     (fun W=>W.cell? (rb,1)=some (af E)) cV cV (by exact f1) ?_
    (simp only [bV,List.filterMap_cons,List.filterMap_nil,List.getElem?_cons_zero,List.getElem?_cons_succ,Option.map_some])
    (repeat (first|refine lh ?_|refine lg ?_|refine kZ ?_);(try simp only [Act.put,List.setIfInBounds_toArray,List.set_cons_zero,List.set_cons_succ]))
    refine qQ ?_ (fun K hK=>?_)
    (focus (first|exact bM rfl _|exact eK rfl rfl rfl rfl))
    go_simp;obtain⟨VV,CV⟩:=cd (((((((((wc.setCell (w,0) (az 0 0)).setCell (w,1) (az 0 0)).setCell (w,2) (af 0)).setCell (w,3) (az 0 0)).setCell (w,4) (af 0)).setCell (w,5) (az 0 0)).setCell (w,6) (af 0)).setCell (w,7) (af 0)));have hvr:VV.heap[rb]?=wc.heap[rb]?:=(by rw [CV];exact dZ P9);have hvb:aq w VV:=(by rw [CV];exact dw MT aO _ _ _ _ _ _ _ _);have hvs:VV.drew.cell? (rb,1)=some (af E):=(oH (show VV.drew.heap[rb]?=wc.heap[rb]? from hvr)).trans f1;rw [<-CV];have kV:=(by rw [CV];exact kr HKZ.out:VV.heap[w.heap.size]?=some (.cells cz 30));obtain⟨q0,q1,q2,q3,q4,q5,q6,q7⟩:VV.drew.cell? (w,0)=some (az 0 0)/\VV.drew.cell? (w,1)=some (az 0 0)/\VV.drew.cell? (w,2)=some (af 0)/\VV.drew.cell? (w,3)=some (az 0 0)/\VV.drew.cell? (w,4)=some (af 0)/\VV.drew.cell? (w,5)=some (az 0 0)/\VV.drew.cell? (w,6)=some (af 0)/\VV.drew.cell? (w,7)=some (af 0):=(by obtain⟨q0,q1,q2,q3,q4,q5,q6,q7,-⟩:=cU (w:=VV.drew) kV;exact⟨q0,q1,q2,q3,q4,q5,q6,q7⟩);clear CV kV;refine hK _ _ hvs ?_;clear hK K
    (repeat (first|refine lh ?_|refine lg ?_|refine kZ ?_);(try simp only [Act.put,List.setIfInBounds_toArray,List.set_cons_zero,List.set_cons_succ]))
    refine jk ?_ (fun K hK=>?_)
    (focus (first|exact bM rfl _|exact eK rfl rfl rfl rfl))
    go_simp;refine hK _ _ ?_;clear hK K;refine jU ?_;go_wp2_with fail;exact bW (v:= .tuple #[ey,af E]) (by simp [results,Tryz.results40,go_sem, *]) rfl ⟨hvb.drew, .inl ⟨E,TR,rfl, .inl HDE⟩⟩
end Go.Proofs.YtmljjfhgciaceaaGreatDoor
