/- Texts of mine that come as one: DecK Dec. -/
import Derived.Test.YtmljjfhgciaceaaDoorHd
import Derived.Test.YtmljjfhgciaceaaDoorMD
import Derived.Test.YtmljjfhgciaceaaDoorDP
import Derived.Test.YtmljjfhgciaceaaDoorAK
import Derived.Test.YtmljjfhgciaceaaDoorBK
import Derived.Test.YtmljjfhgciaceaaDoorSO
import Derived.Deep.CutBlock
namespace Go.Proofs.YtmljjfhgciaceaaDoor
open Go.RowKit
section
variable {b0 b1 b2 b3:Int} {ns:List ByteArray} {es:List aA} {k B rb xb:Nat} {X:Nat->Prop} {r:Rd} {T:TypeId} {a0 a1 a2 a3 a4 a5 a6:Value} {w w' a:World}
theorem fE.str {b off n cap:Nat} {xs:List Int} (h:fE w (.slice (some ⟨b,off,none⟩) n cap) xs):(convert 54 9 (.slice (some ⟨b,off,none⟩) n cap)).run Tryd.prog w = .ok (.string (strOfNums xs)) w:=by
 obtain⟨ao',cap',hv,h1,h2,h3,h4,h5⟩:=h
 have e:n=xs.length:=by injection hv
 subst e
 refine run_convert_bytes_arg w 54 5 Tryd.underlying54 Tryd.underlying5 b off xs.length cap xs rfl (fun i hi=>?_) 9 Tryd.underlying9
 obtain⟨b',off',hb,-,hc⟩:=h5 af
 have e2:some (⟨b,off,none⟩:Addr)=ao':=by injection hv
 rw [hb]at e2
 injection e2 with e2
 injection e2 with e3 e4
 subst e3 e4
 rw [mj hc hi];simp [hi]
theorem FH {M:List Int} (_h0:0<=b0/\b0<=255) (h1:0<=b1/\b1<=255) (h2:0<=b2/\b2<=255) (h3:0<=b3/\b3<=255) :
  ((gj M).2*65536+(gj M).1=b0*16777216+b1*65536+b2*256+b3)↔j6 M=[b0,b1,b2,b3]:=by
 have hr:=mO M
 unfold j6
 simp only [List.cons.injEq,and_true]
 constructor
 ·intro h
  omega
 ·rintro⟨e0,e1,e2,e3⟩
  omega
theorem LU (h0:0<=b0/\b0<=255) (h1:0<=b1/\b1<=255) (h2:0<=b2/\b2<=255) (h3:0<=b3/\b3<=255) :
  bits .or .i64 (b0*16777216) (b1*65536)=b0*16777216+b1*65536/\bits .or .i64 (b0*16777216+b1*65536) (b2*256)=b0*16777216+b1*65536+b2*256/\bits .or .i64 (b0*16777216+b1*65536+b2*256) b3=b0*16777216+b1*65536+b2*256+b3:=by
 refine⟨?_,?_,?_⟩
 ·rw [bits_join .i64 63 aW (fun n h0 h1=>IntWalk.i64_in _ af) 24 (b0*16777216) (b1*65536) af af af af af af]
 ·rw [bits_join .i64 63 aW (fun n h0 h1=>IntWalk.i64_in _ af) 16 (b0*16777216+b1*65536) (b2*256) af af af af af af]
 ·rw [bits_join .i64 63 aW (fun n h0 h1=>IntWalk.i64_in _ af) 8 (b0*16777216+b1*65536+b2*256) b3 af af af af af af]
theorem Kg {bs:List Int} (hk:bs.length=k+4):bs.drop (bs.length-4)=[bs[k],bs[k+1],bs[k+2],bs[k+3]]:=by
 have e:bs.length-4=k:=af
 rw [e,vg af,vg af,vg af,vg af,AA af]
theorem O9 {bs:List Int} {N2:ByteArray} (hb:aO bs) (h:strOfNums (bs.take 2)=N2):(bs.take 2=[119,110]->(N2.toList == [119,110])=true)/\(bs.take 2≠[119,110]->(N2.toList == [119,110])=false):=by
 subst h
 have hb2:aO (bs.take 2):=fun x hx=>hb x (wH hx)
 have e:(⟨#[119,110]⟩:ByteArray).toList=[119,110]:=ByteArray.toList_mk [119,110]
 rw [<-e,Lh]
 constructor
 ·intro h
  rw [h]
  exact decide_eq_true rfl
 ·intro h
  refine wF fun h2=>h ?_
  have:=congrArg nums h2
  rw [Dh hb2]at this
  exact this
structure dz (B:Nat) (w:World) (v:Value) (ns:List ByteArray):Prop where
 row:w.ownsRow B 9 1 v ns.length (ns.flatMap jg)
theorem dz.nil (B:Nat) (w:World):dz B w (.slice none 0 0) []:=⟨World.ownsRow_nil _ _ _ _⟩
theorem dz.alloc {v:Value} (h:dz B w v ns) (o:Obj):dz B (w.alloc o) v ns:=⟨World.ownsRow.alloc h.row o⟩
theorem dz.block {v:Value} (h:dz B w v ns) (hb:∀g,v.ownBlock=some g->w'.heap[g]?=w.heap[g]?):dz B w' v ns:=by
 obtain⟨hl,⟨rfl,h0⟩|⟨g,cap,cur,rfl,hB,hg,h1,h2,h3,h4⟩⟩:=h.row
 ·exact⟨⟨hl, .inl ⟨rfl,h0⟩⟩⟩
 ·exact⟨⟨hl, .inr ⟨g,cap,cur,rfl,hB,(hb g rfl).trans hg,h1,h2,h3,h4⟩⟩⟩
theorem dz.lt {v:Value} (h:dz B w v ns):∀g,v.ownBlock=some g->B<=g/\g<w.heap.size:=World.ownsRow.lt h.row
theorem dz.turn {v:Value} (h:dz (rb+1) w v ns) (hT:gU rb w w'):dz (rb+1) w' v ns:=
 h.block fun g hg=>hT.block g (h.lt g hg).2 (fun e=>by have:=(h.lt g hg).1;have e:g=rb:=e;omega)
theorem dz.keep {M:Nat} {v:Value} (h:dz B w v ns) (hM:M<=B) (hk:aP M w w'):dz B w' v ns:=
 h.block fun g hg=>hk.block g (by have:=(h.lt g hg).1;omega) (h.lt g hg).2
theorem dz.at {v:Value} (h:dz B w v ns) (hs:ns.length<=1000000):jM w v ns:=dN.owned kD h.row rfl af
theorem dz.isSlice {v:Value} (h:dz B w v ns):∃ao cap,v = .slice ao ns.length cap:=by
 obtain⟨hl,⟨rfl,h0⟩|⟨g,cap,cur,rfl,_⟩⟩:=h.row
 ·exact⟨none,0,by rw [h0]⟩
 ·exact⟨_,_,rfl⟩
theorem av.turn {v:Value} (h:av (rb+1) w v es) (hT:gU rb w w'):av (rb+1) w' v es:=
 h.block fun g hg=>hT.block g (h.lt g hg).2 (fun e=>by have:=(h.lt g hg).1;have e:g=rb:=e;omega)
theorem Pb {S:ByteArray}:(w.alloc (.cells #[.string S] T)).cell? ⟨w.heap.size,0,none⟩=some (.string S):=by
 have hk:(w.alloc (.cells #[.string S] T)).heap[w.heap.size]?=some (.cells #[.string S] T):=by
  show (w.heap.push _)[w.heap.size]?=_;simp
 simp only [World.cell?,hk]
 rfl
theorem sN {ops:Array Oper} {rest:List Oper} {o:Oper} {a:Act} {Q:Exit->Act->World->Prop} (hgd:o.guard=none) (s x:Operand)
  (ho:o.op = .call { callee:= .builtin .append,args:=#[s,x],argTypes:=#[29,29] }) (B:Nat) (v:Value) (es:List ByteArray) (hs:a.eval s=v) (hown:dz B w v es)
  (ad:Addr) (e:ByteArray) (hx:a.eval x = .slice (some ad) 1 1) (hnews:w.cell? ad=some (.string e)) (hlen:es.length<=1000000) (hbase:B<=w.heap.size)
  (h:∀v' w',dz B w' v' (es++[e])->(∀C W,Below C W w->C<=B->Below C W w')->wpList Tryd.prog ops Q rest (a.put o.dst v') w'):wpList Tryd.prog ops Q (o::rest) a w:=by
 refine mY hgd s x ho B v es hs hown.row ad e hx hnews hlen hbase ?_
 intro v' w' hown' hg _
 refine h v' w' ⟨by rw [eP];exact hown'⟩ fun C W hb hC=>Below.grown hb hg af (fun j hj=>by have:=(hown.lt j hj).1;omega)
theorem JG (h:r.e=0):((r.cnt 10).1.e=0/\(r.cnt 10).2<=(r.cnt 10).1.b.length->dM (k+1) r ns=dM k ⟨(r.cnt 10).1.b.drop (r.cnt 10).2.toNat,0⟩ (ns++[strOfNums ((r.cnt 10).1.b.take (r.cnt 10).2.toNat)])) /\
  ((r.cnt 10).1.e≠0->dM (k+1) r ns=((r.cnt 10).1,ns))/\((r.cnt 10).1.e=0->¬(r.cnt 10).2<=(r.cnt 10).1.b.length->dM (k+1) r ns=(⟨(r.cnt 10).1.b,5⟩,ns)):=by
 have e0:¬r.e≠0:=fun hn=>hn h
 refine⟨fun h1=>?_,fun h1=>?_,fun h1 h2=>?_⟩
 ·conv=>lhs;unfold dM
  rw [ai e0,ar h1]
 ·conv=>lhs;unfold dM
  rw [ai e0,ai (fun hn=>h1 hn.1),ai h1]
 ·conv=>lhs;unfold dM
  rw [ai e0,ai (fun hn=>h2 hn.2),ar h1]
theorem av.last {so:Option Addr} {sc j:Nat} (h:av B w (.slice so es.length sc) es) (hj:es.length=j+1) (hs:es.length<=1000000) :
  ∃og off,so=some ⟨og,off,none⟩/\w.cell? ⟨og,off+j*7,none⟩=some (.int .i64 (gS es)):=by
 obtain⟨_,_,hv,-,-,-,-,h5⟩:=h.at hs
 injection hv with hv1 _ hv3
 subst hv1 hv3
 obtain⟨eb,bZ,lR,rW,nH⟩:=h5 af
 have hjl:j<es.length:=af
 obtain⟨o0,-⟩:=bR (aJ _ _) rW nH hjl
 refine⟨eb,bZ,lR,o0.trans ?_⟩
 have:gS es=es[j].key:=by
  unfold gS
  rw [List.getLast?_eq_getElem?,hj]
  simp [hjl]
 rw [this]
theorem yi (h:w.heap[xb]?=some (.cells #[a0,a1,a2,a3,a4,a5,a6] T)) :
  w.cell? ⟨xb,0,none⟩=some a0/\w.cell? ⟨xb,1,none⟩=some a1/\w.cell? ⟨xb,2,none⟩=some a2/\w.cell? ⟨xb,3,none⟩=some a3/\w.cell? ⟨xb,4,none⟩=some a4/\w.cell? ⟨xb,5,none⟩=some a5/\w.cell? ⟨xb,6,none⟩=some a6/\∀o,w.frozen? ⟨xb,o,none⟩=false:=by
 simp [World.cell?,World.frozen?,h]
theorem yx {b c:World} (h:aw X a b) (hb:Below a.heap.size b c):aw X a c:=
 ⟨hb.os.trans h.os,hb.tape.trans h.tape,hb.output.trans h.output,gT h.size hb.size,fun i hi hx=>(hb.block i hi).trans (h.block i hi hx)⟩
theorem Nl {v1 v2 v3 v4 v5 v6:Value} {e:TypeId} {fr:Nat×Nat} (h:w.heap[B]?=some (.cells #[a0,a1,a2,a3,a4,a5,a6] e fr)) :
  ((((((w.setCell ⟨B,1,none⟩ v1).setCell ⟨B,2,none⟩ v2).setCell ⟨B,3,none⟩ v3).setCell ⟨B,4,none⟩ v4).setCell ⟨B,5,none⟩ v5).setCell ⟨B,6,none⟩ v6).heap[B]?=some (.cells #[a0,v1,v2,v3,v4,v5,v6] e fr):=by
 have h:=heap_setCell_same (off:=6) (v:=v6) (heap_setCell_same (off:=5) (v:=v5) (heap_setCell_same (off:=4) (v:=v4) (heap_setCell_same (off:=3) (v:=v3) (heap_setCell_same (off:=2) (v:=v2) (heap_setCell_same (off:=1) (v:=v1) h)))))
 simpa using h
theorem Jg (h:aw X a w) (hx:a.heap.size<=xb) (v1 v2 v3 v4 v5 v6:Value) :
  aw X a ((((((w.setCell ⟨xb,1,none⟩ v1).setCell ⟨xb,2,none⟩ v2).setCell ⟨xb,3,none⟩ v3).setCell ⟨xb,4,none⟩ v4).setCell ⟨xb,5,none⟩ v5).setCell ⟨xb,6,none⟩ v6):=
 aw.setCell (aw.setCell (aw.setCell (aw.setCell (aw.setCell (aw.setCell h (.inr hx) _) (.inr hx) _) (.inr hx) _) (.inr hx) _) (.inr hx) _) (.inr hx) _
theorem Hj (hx:B<=xb) (v1 v2 v3 v4 v5 v6:Value) :
  Below B w ((((((w.setCell ⟨xb,1,none⟩ v1).setCell ⟨xb,2,none⟩ v2).setCell ⟨xb,3,none⟩ v3).setCell ⟨xb,4,none⟩ v4).setCell ⟨xb,5,none⟩ v5).setCell ⟨xb,6,none⟩ v6):=
 ((((((aJ B w).setCell hx _).setCell hx _).setCell hx _).setCell hx _).setCell hx _).setCell hx _
theorem Fv (xs:List Int):(strOfNums xs).size=xs.length:=by simp [strOfNums,ByteArray.size]
theorem ur:∀{k:Nat} {r:Rd} {ns:List ByteArray},aO r.b->(∀s∈ns,s.size<=10)->∀s∈(dM k r ns).2,s.size<=10
 |0,_,_,_,h=>h
 |k+1,r,ns,hb,h=>by
  unfold dM
  split
  ·exact h
  ·split
   ·have hc:=r8 (most:=10) (r:=r) aW hb
    refine ur (fun x hx=>mX hb x (ve hx)) fun s hs=>?_
    rcases kI.1 hs with hs|hs
    ·exact h s hs
    ·rw [nB.1 hs,Fv,fw]
     omega
   ·exact h
theorem gQ {a7:Value} (h:w.heap[xb]?=some (.cells #[a0,a1,a2,a3,a4,a5,a6,a7] T)) :
  w.cell? ⟨xb,0,none⟩=some a0/\w.cell? ⟨xb,1,none⟩=some a1/\w.cell? ⟨xb,2,none⟩=some a2/\w.cell? ⟨xb,3,none⟩=some a3/\w.cell? ⟨xb,4,none⟩=some a4/\w.cell? ⟨xb,5,none⟩=some a5/\w.cell? ⟨xb,6,none⟩=some a6/\w.cell? ⟨xb,7,none⟩=some a7/\∀o,w.frozen? ⟨xb,o,none⟩=false:=by
 simp [World.cell?,World.frozen?,h]
theorem Nk {l:List aA} (h:r.e=0):iT (k+1) r l=iT k (qB r l) (l++[(kU r (gS l)).2]):=by
 conv=>lhs;unfold iT
 rw [ai (fun hn=>hn h)]
end
section
set_option maxRecDepth 100000
set_option maxHeartbeats 8000000
def QE (bs:List Int) (w:World) (x:Ending) (w':World):Prop:=
 ah w w'/\((∃E,E≠0/\x = .returned (.tuple #[dH, .int .i64 E])/\(sj bs=E\/(sj bs=0/\qg (cU (br bs)).2 (cU (br bs)).1.num.2 (fu (br bs)).2))) \/
  (sj bs=0/\∃sn sc g0 l0 p0 g1 l1 p1 g2 l2 p2,∃T:Nat->Tr,x = .returned (.tuple #[.agg (aH sn (cU (br bs)).2.length sc g0 l0 p0 g1 l1 p1 g2 l2 p2 ⟨(cU (br bs)).2,T 0,T 1,T 2,(cU (br bs)).1.num.2⟩), .int .i64 0])/\wM (cU (br bs)).2 (cU (br bs)).1.num.2 (fu (br bs)).2 T /\
   ∀w'',aP w.heap.size w' w''->bN w'' (.agg (aH sn (cU (br bs)).2.length sc g0 l0 p0 g1 l1 p1 g2 l2 p2 ⟨(cU (br bs)).2,T 0,T 1,T 2,(cU (br bs)).1.num.2⟩)) ⟨(cU (br bs)).2,T 0,T 1,T 2,(cU (br bs)).1.num.2⟩))
theorem Hb {v:Value} {bs:List Int} {w:World} (h:fE w v bs) (hb:aO bs) (hsz:bS w):Calls Tryd.prog 86 #[v] w (QE bs w):=by
 have OO:=hdd h
 have Ol:=hdd hb
 have sy:=hdd hsz
 obtain⟨ao,cap,rfl,a1,a2,a3,a4,a5⟩:=h
 obtain⟨W0,hW0⟩:=bQ (w.alloc (.cells cN 35))
 have H6:=hdd (show ah w W0 by rw [hW0];exact ag)
 have hz0:W0.heap.size=w.heap.size+1:=by rw [hW0];simp
 have k0:W0.heap[w.heap.size]?=some (.cells cN 35):=by rw [hW0];exact aq _ _ rfl
 have OX:=hdd (aM k0 hz0)
 obtain⟨r0,r1,r2,r3,r4,r5,r6,r7,rf⟩:W0.cell? ⟨w.heap.size,0,none⟩=some (.slice none 0 0)/\W0.cell? ⟨w.heap.size,1,none⟩=some (.slice none 0 0)/\W0.cell? ⟨w.heap.size,2,none⟩=some (.int .i64 0)/\W0.cell? ⟨w.heap.size,3,none⟩=some (.slice none 0 0)/\W0.cell? ⟨w.heap.size,4,none⟩=some (.int .i64 0)/\W0.cell? ⟨w.heap.size,5,none⟩=some (.slice none 0 0)/\W0.cell? ⟨w.heap.size,6,none⟩=some (.int .i64 0)/\W0.cell? ⟨w.heap.size,7,none⟩=some (.int .i64 0)/\∀o,W0.frozen? ⟨w.heap.size,o,none⟩=false:=by simp [World.cell?,World.frozen?,k0,cN]
 clear hb hsz hz0 k0
 by_cases h1:200000<bs.length
 ·have h1':(200000:Int)<(bs.length:Int):=af
  have HD:=hdd (show sj bs=1 from ar h1)
  go_enter Tryd.func86,Tryd.ntmps86
  go_upto_region 1 with (fail)
  rw [<-hW0]
  clear hW0 h1
  go_wp2_with fail
  exact bodyPost_ret (v:= .tuple #[dH, .int .i64 1]) (by simp [results,Tryd.results86,go_sem, *]) rfl ⟨cF H6.out aI _ _ _ _ _ _ _ _, .inl ⟨1,aW,rfl, .inl HD.out⟩⟩
 have hd1:decide ((200000:Int)<(bs.length:Int))=false:=wF af
 by_cases h2:bs.length<6
 ·have h2':(bs.length:Int)<6:=af
  have HD:=hdd (show sj bs=5 from (ai h1).trans (ar h2))
  go_enter Tryd.func86,Tryd.ntmps86
  go_upto_region 1 with (fail)
  rw [<-hW0]
  clear hW0 h1 h2
  go_wp2_with fail
  exact bodyPost_ret (v:= .tuple #[dH, .int .i64 5]) (by simp [results,Tryd.results86,go_sem, *]) rfl ⟨cF H6.out aI _ _ _ _ _ _ _ _, .inl ⟨5,aW,rfl, .inl HD.out⟩⟩
 have hd2:decide ((bs.length:Int)<6)=false:=wF af
 obtain⟨ab,off,rfl,xD,ac⟩:=a5 af
 have hw0:ah w W0:=H6.out
 have Sr:=(xS (m:=2) OO.out af).below hw0 aI
 have hcv:=fE.str Sr
 obtain⟨N2,KW⟩:=bw (strOfNums (bs.take 2))
 have Qd:=O9 Ol.out KW
 rw [KW]at hcv
 have hc2:2<=cap:=af
 by_cases h3:bs.take 2≠[119,110]
 ·have HD:=hdd (show sj bs=4 from (ai h1).trans ((ai h2).trans (ar h3)))
  have h3':(N2.toList == [119,110])=false:=Qd.2 h3
  go_enter Tryd.func86,Tryd.ntmps86
  go_upto_region 1 with (fail)
  rw [<-hW0]
  clear hW0 KW Qd h3 h1 h2 Sr
  go_wp2_with fail
  exact bodyPost_ret (v:= .tuple #[dH, .int .i64 4]) (by simp [results,Tryd.results86,go_sem, *]) rfl ⟨cF H6.out aI _ _ _ _ _ _ _ _, .inl ⟨4,aW,rfl, .inl HD.out⟩⟩
 have h3':(N2.toList == [119,110])=true:=Qd.1 (Decidable.not_not.1 h3)
 obtain⟨k,hk⟩:∃k,bs.length=k+4:=⟨bs.length-4,af⟩
 have hsm:=((xS (m:=k) OO.out af).below hw0 aI)
 have HSM:=hdd hsm
 have hcell:∀i (h:i<bs.length),W0.cell? ⟨ab,off+i,none⟩=some (.int .u8 bs[i]):=fun i h=>(hw0.cell (p:=⟨ab,off+i,none⟩) xD).trans (mj ac h)
 have c0:=hcell k af
 have c1:=hcell (k+1) af
 have c2:=hcell (k+2) af
 have c3:=hcell (k+3) af
 have g0:=Ol.out _ (fO (show k<bs.length by omega))
 have g1:=Ol.out _ (fO (show k+1<bs.length by omega))
 have g2:=Ol.out _ (fO (show k+2<bs.length by omega))
 have g3:=Ol.out _ (fO (show k+3<bs.length by omega))
 have hdrop:bs.drop (bs.length-4)=[bs[k],bs[k+1],bs[k+2],bs[k+3]]:=Kg hk
 obtain⟨b0,hb0⟩:=bw (bs[k])
 obtain⟨b1,hb1⟩:=bw (bs[k+1])
 obtain⟨b2,hb2⟩:=bw (bs[k+2])
 obtain⟨b3,hb3⟩:=bw (bs[k+3])
 rw [hb0]at c0 g0 hdrop
 rw [hb1]at c1 g1 hdrop
 rw [hb2]at c2 g2 hdrop
 rw [hb3]at c3 g3 hdrop
 have HOR:=hdd (LU g0 g1 g2 g3)
 have OW:=hdd hk
 have N3:=hdd (FH (M:=bs.take (bs.length-4)) g0 g1 g2 g3)
 have HDR:=hdd hdrop
 have Uh:=hdd (Ih (w:=W0.drew) (dN.below HSM.out (aJ _ _).drew aI) (fun x hx=>Ol.out x (wH hx)))
 obtain⟨X,hX⟩:=bw ((gj (bs.take k)).2*65536+(gj (bs.take k)).1)
 rw [hX]at Uh
 have HX:=hdd hX
 have PX:=fun w'=>mW (ab:=ab) (aY:=off) (n:=bs.length) (cap:=cap) (show (k:Int)=((k:Nat):Int) by rfl) af w'
 have S4:=fun w'=>mW (ab:=ab) (aY:=off) (n:=bs.length) (cap:=cap) (show (k:Int)+1=((k+1:Nat):Int) by omega) af w'
 have JX:=fun w'=>mW (ab:=ab) (aY:=off) (n:=bs.length) (cap:=cap) (show (k:Int)+2=((k+2:Nat):Int) by omega) af w'
 have ab0:=fun w'=>mW (ab:=ab) (aY:=off) (n:=bs.length) (cap:=cap) (show (k:Int)+3=((k+3:Nat):Int) by omega) af w'
 have n4:(bs.length:Int)-4=(k:Int):=af
 have hkc:k<=cap:=af
 have hkl:k<=199996:=af
 have HH1:=hdd h1
 have HH2:=hdd h2
 have HH3:=hdd h3
 clear hb0 hb1 hb2 hb3 hdrop hcell hsm Sr hk h3 h2 h1 n4
 go_enter Tryd.func86,Tryd.ntmps86
 go_upto_region 1 with (fail)
 rw [<-hW0]
 clear hW0 KW Qd
 go_upto_region 8 with (fail)
 have n4:(bs.length:Int)-4=(k:Int):=by have:=OW.out;omega
 rw [n4]
 obtain⟨o1,o2,o3⟩:=HOR.out
 clear n4
 obtain⟨wb0,wb1,wb2,wb3⟩:IntKind.i64.wrap b0=b0/\IntKind.i64.wrap b1=b1/\IntKind.i64.wrap b2=b2/\IntKind.i64.wrap b3=b3:=⟨IntWalk.i64_in _ af,IntWalk.i64_in _ af,IntWalk.i64_in _ af,IntWalk.i64_in _ af⟩
 obtain⟨ws0,ws1,ws2⟩:IntKind.i64.wrap (b0*16777216)=b0*16777216/\IntKind.i64.wrap (b1*65536)=b1*65536/\IntKind.i64.wrap (b2*256)=b2*256:=⟨IntWalk.i64_in _ af,IntWalk.i64_in _ af,IntWalk.i64_in _ af⟩
 obtain⟨wk1,wk2,wk3⟩:IntKind.i64.wrap ((k:Int)+1)=(k:Int)+1/\IntKind.i64.wrap ((k:Int)+2)=(k:Int)+2/\IntKind.i64.wrap ((k:Int)+3)=(k:Int)+3:=⟨IntWalk.i64_in _ af,IntWalk.i64_in _ af,IntWalk.i64_in _ af⟩
 refine cV [(0,1),(1,1),(2,1),(4,1),(5,1),(6,1),(7,0),(8,1),(9,1),(10,1),(11,1),(12,1),(13,1),(14,0),(15,1),(16,1),(17,1),(18,1),(19,1),(20,1),(21,1),(22,0),(23,1),(24,1),(25,1),(26,1),(27,1),(28,1),(29,1),(30,0),(31,1),(32,1),(3,2),(33,3)] 33
  (fun W=>W.cell? ⟨ab,off+k,none⟩=some (.int .u8 b0)/\W.cell? ⟨ab,off+(k+1),none⟩=some (.int .u8 b1)/\W.cell? ⟨ab,off+(k+2),none⟩=some (.int .u8 b2)/\W.cell? ⟨ab,off+(k+3),none⟩=some (.int .u8 b3)) cy cy ⟨c0,c1,c2,c3⟩ ?_
 (simp only [bF,List.filterMap_cons,List.filterMap_nil,List.getElem?_cons_zero,List.getElem?_cons_succ,Option.map_some])
 (repeat (first|refine jy ?_|refine jx ?_|refine jw ?_);(try simp only [Act.put,List.setIfInBounds_toArray,List.set_cons_zero,List.set_cons_succ]))
 refine qM ?_ (fun K hK=>?_)
 (focus (first|exact bh rfl _|exact dP rfl rfl rfl rfl))
 go_simp
 (with_reducible refine Uh.out.mono ?_);rintro x wx ⟨rfl,rfl⟩
 go_simp
 refine hK _ _ ⟨c0,c1,c2,c3⟩ ?_
 clear hK K
 (repeat (first|refine jy ?_|refine jx ?_|refine jw ?_);(try simp only [Act.put,List.setIfInBounds_toArray,List.set_cons_zero,List.set_cons_succ]))
 refine fX ?_ (fun K hK=>?_)
 (focus (first|exact bh rfl _|exact dP rfl rfl rfl rfl))
 go_simp
 refine hK _ _ ?_
 clear hK K
 refine gZ ?_
 obtain⟨V0,Xj⟩:=bQ (W0.drew)
 have hv0:ah w V0:=by rw [Xj];exact H6.out.drew
 have HV0:=hdd hv0
 have OX:Hid (V0.heap[w.heap.size]?=some (.cells cN 35)/\V0.heap.size=w.heap.size+1):=by rw [Xj];exact OX
 have XZ:=hdd (dN.below OO.out hv0 aI)
 obtain⟨r0,r1,r2,r3,r4,r5,r6,r7,rf⟩:V0.cell? ⟨w.heap.size,0,none⟩=some (.slice none 0 0)/\V0.cell? ⟨w.heap.size,1,none⟩=some (.slice none 0 0)/\V0.cell? ⟨w.heap.size,2,none⟩=some (.int .i64 0)/\V0.cell? ⟨w.heap.size,3,none⟩=some (.slice none 0 0)/\V0.cell? ⟨w.heap.size,4,none⟩=some (.int .i64 0)/\V0.cell? ⟨w.heap.size,5,none⟩=some (.slice none 0 0)/\V0.cell? ⟨w.heap.size,6,none⟩=some (.int .i64 0)/\V0.cell? ⟨w.heap.size,7,none⟩=some (.int .i64 0)/\∀o,V0.frozen? ⟨w.heap.size,o,none⟩=false:=by rw [Xj];exact⟨r0,r1,r2,r3,r4,r5,r6,r7,rf⟩
 rw [<-Xj]
 have hk4:bs.length-4=k:=by have:=OW.out;omega
 have N3:=hdd (show (X=b0*16777216+b1*65536+b2*256+b3)↔j6 (bs.take (bs.length-4))=bs.drop (bs.length-4) by
  rw [HDR.out,<-N3.out,hk4,HX.out])
 clear Xj hv0 Uh HDR HX HOR o1 o2 o3 wb0 wb1 wb2 wb3 ws0 ws1 ws2 wk1 wk2 wk3 PX S4 JX ab0 c0 c1 c2 c3 H6 hw0 hcv h3' hd1 hd2 HSM
 by_cases h4:X=b0*16777216+b1*65536+b2*256+b3
 case neg=>
  have HD:=hdd (show sj bs=9 from (ai HH1.out).trans ((ai HH2.out).trans ((ai HH3.out).trans (ar (fun e=>h4 (N3.out.2 e))))))
  have h4':(X == b0*16777216+b1*65536+b2*256+b3)=false:=by simp [h4]
  clear h4 N3
  go_wp2_with fail
  exact bodyPost_ret (v:= .tuple #[dH, .int .i64 9]) (by simp [results,Tryd.results86,go_sem, *]) rfl ⟨cF HV0.out aI _ _ _ _ _ _ _ _, .inl ⟨9,aW,rfl, .inl HD.out⟩⟩
 have HD:=hdd (show sj bs=(zL (br bs)).e from (ai HH1.out).trans ((ai HH2.out).trans ((ai HH3.out).trans (ai (fun hn=>hn (N3.out.1 h4))))))
 have h4':(X == b0*16777216+b1*65536+b2*256+b3)=true:=by simp [h4]
 clear N3 h4 g0 g1 g2 g3
 have hk2:2<=k:=by have:=HH2.out;have:=OW.out;omega
 have aaS:(2:Int)<=(k:Int):=af
 obtain⟨o,eo,ho⟩:∃o,(if cap=2 then some (⟨ab,off,none⟩:Addr)else some ⟨ab,off+2,none⟩)=some ⟨ab,o,none⟩/\(2<cap->o=off+2):=by
  by_cases h1:cap=2
  ·exact⟨off,ar h1,fun h=>af⟩
  ·exact⟨off+2,ai h1,fun _=>rfl⟩
 have Fj:=hdd (show fE V0 (.slice (some ⟨ab,o,none⟩) (k-2) (cap-2)) (br bs) by
  have e1:(bs.take k).length=k:=by rw [fw];have:=OW.out;omega
  have h1:=xS (m:=k) XZ.out (by have:=OW.out;omega)
  rw [show fE V0 (.slice (some ⟨ab,off,none⟩) k cap) (bs.take k)=fE V0 (.slice (some ⟨ab,off,none⟩) (bs.take k).length cap) (bs.take k) by rw [e1]]at h1
  have h2:=BJ (m:=2) h1 af o ho
  rw [e1]at h2
  unfold br
  rw [hk4]
  exact h2)
 clear OO XZ a1 a2 a3 a4 a5 ac
 go_upto_region 12 with (fail)
 obtain⟨rb,IC⟩:=bw (V0.heap.size)
 have zY:=hdd (show rb=w.heap.size+1 by rw [<-IC];exact OX.out.2)
 obtain⟨W2,hW2⟩:=bQ (V0.alloc (.cells #[.slice (some ⟨ab,o,none⟩) (k-2) (cap-2), .int .i64 0] 165))
 have hb2:ah V0 W2:=by rw [hW2];exact ag
 have hbk:W2.heap[rb]?=some (.cells #[.slice (some ⟨ab,o,none⟩) (k-2) (cap-2), .int .i64 0] 165):=by rw [hW2,<-IC];exact aq _ _ rfl
 have hz2:W2.heap.size=rb+1:=by rw [hW2,<-IC];simp
 have N7:=hdd (show fQ W2 rb (.slice (some ⟨ab,o,none⟩) (k-2) (cap-2)) ⟨br bs,0⟩ from
  ⟨hbk,dN.below Fj.out hb2 aI,tH Ol.out,⟨_,_,_,by rw [show (br bs).length=k-2 by unfold br;rw [oJ,fw];have:=OW.out;omega],by have:=zY.out;omega⟩⟩)
 have mv:=hdd (aM (Below.trans' HV0.out hb2 (by have:=OX.out.2;omega)) hz2)
 have Oh:Hid (W2.heap[w.heap.size]?=some (.cells cN 35)):=hdd ((hb2.block _ (by have:=OX.out.2;omega)).trans OX.out.1)
 rw [<-hW2,IC]
 have HC:=hdd (zI (most:=16) N7.out)
 have hcr:=r8 (r:=⟨br bs,0⟩) (most:=16) aW N7.out.ok
 obtain⟨q,hq⟩:=bw ((Rd.mk (br bs) 0).cnt 16)
 rw [hq]at HC hcr
 obtain⟨Z1,cn⟩:=q
 obtain⟨n,rfl⟩:∃n:Nat,cn=n:=⟨cn.toNat,by have:=hcr.1;simp only at this;omega⟩
 have Wz:n<=16:=by have:=hcr.2;simp only at this;omega
 have HN:=hdd (show cU (br bs)=dM n Z1 [] by unfold cU;rw [hq];rfl)
 clear hW2 hb2 hbk hz2 hq hcr IC r0 r1 r2 r3 r4 r5 r6 r7 rf eo ho aaS Fj
 go_upto_block 0 with (first|fail|(go_at_call 108;(with_reducible refine HC.out.mono ?_);rintro e w3 ⟨rfl,hT3,v3,hR3⟩))
 go_cut [6,7,9]from 74 to 127 (fun nv _ _ wx=>∃(ns:List ByteArray) (v:Value) (r:Rd),Hid (cU (br bs)=(r,ns)/\ns.length<=16)/\Hid (dz (rb+1) wx nv ns/\Below rb W2 wx/\fQ wx rb v r))
 case first=>
  have HI:=hdd (show Below rb W2 w3 from hT3.below (aJ _ _) (by have:=mv.out.2;omega) (fun i h=>by have h:i=rb:=h;omega))
  have E3:=hdd hR3
  have RA:=hdd (dz.nil (rb+1) w3)
  have ZE:=hdd hT3.size
  clear hR3 hT3 HC N7
  go_wp2_with fail
  go_loopg [6,7] n (fun g nv iv wr=>∃(q:Nat) (ns:List ByteArray),q<=n/\g=n-q/\iv = .int .i64 q/\Hid (dz (rb+1) wr nv ns/\ns.length<=q)/\Hid (∃(v:Value) (r:Rd),Below rb W2 wr/\fQ wr rb v r/\cU (br bs)=dM (n-q) r ns))
  case atStart=>exact⟨0,[],iN _,rfl,rfl,hdd ⟨RA.out,kK _⟩,hdd ⟨_,_,HI.out,E3.out,HN.out⟩⟩
  case round=>
   clear HI E3 RA
   obtain⟨q,ns,hq,rfl,rfl,HO,HR⟩:=hrel
   obtain⟨v,r,di,hr,xY⟩:=HR.out
   have xE:=hdd xY
   have OQ:=hdd hr
   have xQ:=hdd di
   obtain⟨cc0,XP,ccf⟩:=hr.cells
   obtain⟨so,sc,rfl⟩:=HO.out.1.isSlice
   clear HR di hr xY
   by_cases hlt:q<n
   ·have hlt':(q:Int)<(n:Int):=af
    by_cases he:r.e=0
    ·rw [he]at XP
     have HCT:=hdd (zI (most:=10) OQ.out)
     have hgo:=JG (k:=n-(q+1)) (ns:=ns) he
     have PQ:=r8 (r:=r) (most:=10) aW OQ.out.ok
     rw [show n-(q+1)+1=n-q by omega]at hgo
     obtain⟨p,hp⟩:=bw (r.cnt 10)
     rw [hp]at HCT hgo PQ
     obtain⟨rc,m'⟩:=p
     obtain⟨m,rfl⟩:∃m:Nat,m'=m:=⟨m'.toNat,by have:=PQ.1;simp only at this;omega⟩
     have afT:m<=10:=by have:=PQ.2;simp only at this;omega
     have RG:=hdd hgo
     clear hp hgo PQ he
     go_upto_region 16 with (first|fail|(go_at_call 108;(with_reducible refine HCT.out.mono ?_);rintro e w4 ⟨rfl,YZ,v4,Y3⟩))
     have Zq:=hdd (HO.out.1.turn YZ)
     have Aa:=hdd (YZ.below xQ.out (by have:=xQ.out.size;have:=mv.out.2;omega) (fun i h=>by have h:i=rb:=h;omega):Below rb W2 w4)
     have Um:=hdd Y3
     have HZ4:=hdd YZ.size
     obtain⟨d0,d1,df⟩:=Y3.cells
     obtain⟨vb,vo,vc,rfl,hvb⟩:=Y3.form
     clear Y3 YZ HCT cc0 XP ccf OQ
     by_cases hce:rc.e=0
     ·have d1':=d1
      rw [hce]at d1
      by_cases CJ:m<=rc.b.length
      ·have zZ:=hdd (xE.out.trans (RG.out.1 ⟨hce,by show ((m:Nat):Int)<=_;omega⟩))
       have WC:¬((rc.b.length:Int)<(m:Int)):=af
       have s1:rc.b.length<=vc:=by
        obtain⟨_,_,hvv,s1,-⟩:=Um.out.sl
        injection hvv with _ _ hv3
        subst hv3
        exact s1
       obtain⟨S,hS⟩:=bw (strOfNums (rc.b.take m))
       have hcs:=fE.str (xS (m:=m) Um.out.sl CJ)
       rw [hS]at hcs
       have hmc:m<=vc:=af
       have HSS:=hdd hS
       have hnl:ns.length<=1000000:=by have:=HO.out.2;omega
       have HML:=hdd CJ
       clear hS CJ
       go_upto_region 20 with ((at_builtin;refine sN rfl (.tmp 109) (.tmp 117) rfl (rb+1) _ ns rfl (Zq.out.alloc _) ⟨w4.heap.size,0,none⟩ S rfl Pb af (by simp;have:=Aa.out.size;have:=mv.out.2;omega) ?_;intro v5 w5 Po Tb))
       have cx:Below (rb+1) w4 w5:=Tb (rb+1) w4 ((aJ _ _).alloc (by have:=Aa.out.size;have:=mv.out.2;omega) _) aI
       have hr5:=Um.out.later cx
       obtain⟨e0,e1,ef⟩:=hr5.cells
       have CO:=hdd (show Below rb W2 w5 from Tb rb W2 (Aa.out.alloc (by have:=Aa.out.size;have:=mv.out.2;omega) _) (Nat.le_succ _))
       have KI:=hdd hr5
       have HO5:=hdd Po
       have Ut:=hdd HO.out.2
       obtain⟨o5,adg,iD⟩:∃o,(if vc=m then some (⟨vb,vo,none⟩:Addr)else some ⟨vb,vo+m,none⟩)=some ⟨vb,o,none⟩/\(m<vc->o=vo+m):=by
        by_cases h1:vc=m
        ·exact⟨vo,ar h1,fun h=>af⟩
        ·exact⟨vo+m,ai h1,fun _=>rfl⟩
       have HD5:=hdd (BJ (m:=m) KI.out.sl HML.out o5 iD)
       clear Tb Po hr5 cx d0 d1 d1' df hcs HO Zq xQ iD
       go_wp2_with fail
       have Zl:=KI.out.qL HD5.out ⟨_,_,_,by rw [oJ],hvb⟩ (fun x hx=>KI.out.ok x (ve hx))
       rw [hce]at Zl
       go_roundg (n-(q+1))
       case measure=>omega
       case rel=>exact⟨q+1,ns++[S],hlt,rfl,by go_num,hdd ⟨HO5.out.turn Zl.1,by have:=Ut.out;rw [eP];simp only [List.length_singleton];omega⟩,hdd ⟨_,_,Zl.1.below CO.out (by have:=CO.out.size;have:=mv.out.2;omega) (fun i h=>by have h:i=rb:=h;omega),Zl.2,zZ.out.trans (by rw [Int.toNat_natCast,HSS.out])⟩⟩
      ·have zZ:=hdd (xE.out.trans (RG.out.2.2 hce (by first|omega|(dsimp only;omega))))
       have WC:(rc.b.length:Int)<(m:Int):=af
       have HW:=hdd (mV (e:=5) Um.out)
       have XV:=hdd (show rc.wrong 5=⟨rc.b,5⟩from ar hce)
       go_upto_region 18 with (first|fail|(go_at_call 109;(with_reducible refine HW.out.mono ?_);rintro e w5 ⟨rfl,hT5,Y2⟩))
       rw [XV.out]at Y2
       obtain⟨f0,f1,ff⟩:=Y2.cells
       have KI:=hdd Y2
       clear Y2 d0 d1 d1' df hce CJ WC
       go_wp2_with fail
       go_roundg (n-(q+1))
       case measure=>omega
       case rel=>exact⟨q+1,ns,hlt,rfl,by go_num,hdd ⟨Zq.out.turn hT5,by have:=HO.out.2;omega⟩,hdd ⟨_,_,hT5.below Aa.out (by have:=Aa.out.size;have:=mv.out.2;omega) (fun i h=>by have h:i=rb:=h;omega),KI.out,zZ.out.trans (nY (show (5:Int)≠0 by decide)).symm⟩⟩
     ·have zZ:=hdd (xE.out.trans (RG.out.2.1 hce))
      have HCE:=hdd hce
      have agq:(rc.e == 0)=false:=by simp [hce]
      clear hce
      go_wp2_with fail
      go_roundg (n-(q+1))
      case measure=>omega
      case rel=>exact⟨q+1,ns,hlt,rfl,by go_num,hdd ⟨Zq.out,by have:=HO.out.2;omega⟩,hdd ⟨_,_,Aa.out,Um.out,zZ.out.trans (nY HCE.out).symm⟩⟩
    ·have he':(r.e == 0)=false:=by simp [he]
     clear hlt
     go_wp2_with fail
     go_meet
     exact⟨ns,v,r,hdd ⟨xE.out.trans (nY he),by have:=HO.out.2;omega⟩,hdd ⟨HO.out.1,xQ.out,OQ.out⟩⟩
   ·have hlt':¬(q:Int)<(n:Int):=af
    go_wp2_with fail
    go_meet
    exact⟨ns,v,r,hdd ⟨xE.out.trans (by rw [show n-q=0 by omega];rfl),by have:=HO.out.2;omega⟩,hdd ⟨HO.out.1,xQ.out,OQ.out⟩⟩
 case rest=>
  obtain⟨ns,v,r,Ob,HA⟩:=hcut
  obtain⟨VM,VN,rfl⟩:=HA.out.1.isSlice
  have HF:=hdd (oY HA.out.2.2)
  have ye:=rQ HA.out.2.2.ok
  obtain⟨p,hp⟩:=bw (r.num)
  have HP:=hdd hp
  rw [hp]at HF ye
  obtain⟨rf,fl⟩:=p
  have HFR:=hdd ye
  clear HC N7 hp ye HN
  go_upto_region 24 with (first|fail|(go_at_call 110;(with_reducible refine HF.out.mono ?_);rintro e w7 ⟨rfl,hT7,v7,hR7⟩))
  have HO7:=hdd (HA.out.1.turn hT7)
  have CD:=hdd (hT7.below HA.out.2.1 (by have:=HA.out.2.1.size;have:=mv.out.2;omega) (fun i h=>by have h:i=rb:=h;omega):Below rb W2 w7)
  have HC7:=hdd (zI (most:=10000) hR7)
  have hcr:=r8 (r:=rf) (most:=10000) aW hR7.ok
  obtain⟨p,hp⟩:=bw (rf.cnt 10000)
  have HBC:=hdd (show rh (br bs)=p by unfold rh;rw [Ob.out.1,HP.out];exact hp)
  rw [hp]at HC7 hcr
  obtain⟨rc,cm'⟩:=p
  obtain⟨cm,rfl⟩:∃m:Nat,cm'=m:=⟨cm'.toNat,by have:=hcr.1;simp only at this;omega⟩
  have hcm:cm<=10000:=by have:=hcr.2;simp only at this;omega
  clear hp hcr hR7 hT7 HF HA
  go_upto_block 2 with (first|fail|(go_at_call 108;(with_reducible refine HC7.out.mono ?_);rintro e w8 ⟨rfl,hT8,v8,Y1⟩))
  have HO8:=hdd (HO7.out.turn hT8)
  have UF:=hdd (hT8.below CD.out (by have:=CD.out.size;have:=mv.out.2;omega) (fun i h=>by have h:i=rb:=h;omega):Below rb W2 w8)
  have HR8:=hdd Y1
  have DN:rb<w8.heap.size:=by have:=UF.out.size;have:=mv.out.2;omega
  clear hT8 Y1 HC7
  go_cut [11,12,13,15]from 132 to 198 (fun tv _ _ _ wx=>∃(es:List aA) (v:Value) (r:Rd),Hid (fu (br bs)=(r,es)/\es.length<=10000)/\Hid (av w8.heap.size wx tv es/\gU rb w8 wx/\fQ wx rb v r))
  case first=>
   have ZB:=hdd (show fu (br bs)=iT cm rc [] by unfold fu;rw [HBC.out];rfl)
   go_wp2_with fail
   go_loopg [11,12,13] cm (fun g tv kv iv wr=>∃(q:Nat) (es:List aA),q<=cm/\g=cm-q/\iv = .int .i64 q/\kv = .int .i64 (gS es)/\Hid (av w8.heap.size wr tv es/\es.length=q)/\Hid (∃(v:Value) (r:Rd),gU rb w8 wr/\fQ wr rb v r/\fu (br bs)=iT (cm-q) r es/\(r.e=0->0<=gS es/\gS es<1099511627776)))
   case atStart=>exact⟨0,[],iN _,rfl,rfl,rfl,hdd ⟨av.nil _ _,rfl⟩,hdd ⟨_,_,aw.refl _ _,HR8.out,ZB.out,fun _=>aW⟩⟩
   case round=>
    clear ZB
    obtain⟨q,es,hq,rfl,rfl,rfl,HO,HR⟩:=hrel
    obtain⟨v,r,htw,hr,xY,hkr⟩:=HR.out
    have xE:=hdd xY
    have OQ:=hdd hr
    have Ug:=hdd htw
    obtain⟨cc0,XP,ccf⟩:=hr.cells
    obtain⟨so,sc,rfl⟩:=HO.out.1.isSlice
    clear HR htw hr xY
    by_cases hlt:q<cm
    ·have hlt':(q:Int)<(cm:Int):=af
     by_cases he:r.e=0
     ·rw [he]at XP
      obtain⟨ie,hk1⟩:=hkr he
      obtain⟨p,hp0⟩:=bw (r.num)
      obtain⟨ra,nk⟩:=p
      obtain⟨p,hp1⟩:=bw (ra.num)
      obtain⟨YI,c⟩:=p
      obtain⟨p,hp2⟩:=bw (YI.rL)
      obtain⟨ZZ,s1⟩:=p
      obtain⟨p,Gt⟩:=bw (ZZ.rL)
      obtain⟨ZX,s2⟩:=p
      obtain⟨p,hp4⟩:=bw (ZX.rL)
      obtain⟨ZW,s3⟩:=p
      obtain⟨p,hp5⟩:=bw (ZW.rL)
      obtain⟨rx,s4⟩:=p
      have KR:=rQ OQ.out.ok
      rw [hp0]at KR
      have KR:0<=nk/\nk<72057594037927936:=KR
      have Vy:=hdd (fun(W:World) (v:Value) (h:fQ W rb v r)=>(by have:=oY h;rw [hp0]at this;exact this:Calls Tryd.prog 110 #[.pointer (some ⟨rb,0,none⟩)] W fun x w'=>x = .returned (.int .i64 nk)/\gU rb W w'/\∃v',fQ w' rb v' ra))
      have Vx:=hdd (fun(W:World) (v:Value) (h:fQ W rb v ra)=>(by have:=oY h;rw [hp1]at this;exact this:Calls Tryd.prog 110 #[.pointer (some ⟨rb,0,none⟩)] W fun x w'=>x = .returned (.int .i64 c)/\gU rb W w'/\∃v',fQ w' rb v' YI))
      have HC2:=hdd (fun(W:World) (v:Value) (h:fQ W rb v YI)=>(by have:=rK h;rw [hp2]at this;exact this:Calls Tryd.prog 111 #[.pointer (some ⟨rb,0,none⟩)] W fun x w'=>x = .returned (.int .i64 s1)/\gU rb W w'/\∃v',fQ w' rb v' ZZ))
      have O1:=hdd (fun(W:World) (v:Value) (h:fQ W rb v ZZ)=>(by have:=rK h;rw [Gt]at this;exact this:Calls Tryd.prog 111 #[.pointer (some ⟨rb,0,none⟩)] W fun x w'=>x = .returned (.int .i64 s2)/\gU rb W w'/\∃v',fQ w' rb v' ZX))
      have HC4:=hdd (fun(W:World) (v:Value) (h:fQ W rb v ZX)=>(by have:=rK h;rw [hp4]at this;exact this:Calls Tryd.prog 111 #[.pointer (some ⟨rb,0,none⟩)] W fun x w'=>x = .returned (.int .i64 s3)/\gU rb W w'/\∃v',fQ w' rb v' ZW))
      have HC5:=hdd (fun(W:World) (v:Value) (h:fQ W rb v ZW)=>(by have:=rK h;rw [hp5]at this;exact this:Calls Tryd.prog 111 #[.pointer (some ⟨rb,0,none⟩)] W fun x w'=>x = .returned (.int .i64 s4)/\gU rb W w'/\∃v',fQ w' rb v' rx))
      have Vv:=hdd (show kU r (gS es)=(rx,⟨gS es+nk,⟨c,s1,s2,s3,(gS es+nk)%1048576,s4⟩⟩) by simp only [kU,hp0,hp1,hp2,Gt,hp4,hp5])
      have hgo:fu (br bs)=iT (cm-(q+1)) (qB r es) (es++[(kU r (gS es)).2]):=xE.out.trans (by rw [show cm-q=(cm-(q+1))+1 by omega];exact Nk he)
      obtain⟨K,hK⟩:=bw (gS es)
      rw [hK]at Vv hgo ie hk1
      rw [hK]
      obtain⟨P,hP⟩:=bw (K+nk)
      rw [hP]at Vv
      have Tx:0<=P/\P<73156568704811008:=af
      have hwP:IntKind.i64.wrap (K+nk)=P:=by rw [hP];exact IntWalk.i64_in _ af
      have htP:P.tmod 1048576=P%1048576:=xO Tx.1
      have hwt:IntKind.i64.wrap (P%1048576)=P%1048576:=IntWalk.i64_in _ af
      have RG:=hdd hgo
      have HK:=hdd hK
      have X8:=hdd hP
      clear hp0 hp1 hp2 Gt hp4 hp5 hgo he hP hkr KR
      go_upto_region 29 with (first|fail|(go_at_call 110;(with_reducible refine(Vy.out _ _ OQ.out).mono ?_);rintro e w9 ⟨rfl,Tv,v9,hR9⟩))
      obtain⟨Zf,M7⟩:=bQ (w9.alloc (.cells #[.int .i64 P, .int .i64 0, .int .i64 0, .int .i64 0, .int .i64 0, .int .i64 0, .int .i64 0] 96))
      have PI:w8.heap.size<=w9.heap.size:=gT Ug.out.size Tv.size
      have HT9:=hdd (Ug.out.trans Tv)
      have hO9:=HO.out.1.block fun g hg=>Tv.block g (HO.out.1.lt g hg).2 (fun e=>by have:=(HO.out.1.lt g hg).1;have e:g=rb:=e;omega)
      have zr:ah w9 Zf:=by rw [M7];exact ag
      obtain⟨xb,QR⟩:=bw (w9.heap.size)
      have kx:Zf.heap[xb]?=some (.cells #[.int .i64 P, .int .i64 0, .int .i64 0, .int .i64 0, .int .i64 0, .int .i64 0, .int .i64 0] 96):=by rw [M7,<-QR];exact aq _ _ rfl
      have Mn:Zf.heap.size=xb+1:=by rw [M7,<-QR];simp
      have X5:=hdd (hR9.later (zr.mono af))
      have aci:=hdd (hO9.below zr aI)
      have XX:=hdd (HT9.out.trans (aw.of zr aI):gU rb w8 Zf)
      have Qs:=hdd (aM kx Mn)
      have HO9:=hdd hO9
      have QA:=hdd zr
      have HXB:=hdd QR
      have hxr:w8.heap.size<=xb:=af
      rw [<-M7,QR]
      clear M7 Tv hR9 hO9 zr kx Mn cc0 XP ccf Vy PI
      go_upto_region 30 with (first|fail|(go_at_call 110;(with_reducible refine(Vx.out _ _ X5.out).mono ?_);rintro e VD ⟨rfl,Xo,v11,Xz⟩)|(go_at_call 111;(first|((with_reducible refine(HC2.out _ _ Xz).mono ?_);rintro e w12 ⟨rfl,Xn,v12,Xy⟩)|((with_reducible refine(O1.out _ _ Xy).mono ?_);rintro e w13 ⟨rfl,Xm,v13,Xx⟩)|((with_reducible refine(HC4.out _ _ Xx).mono ?_);rintro e w14 ⟨rfl,Xl,v14,Xw⟩)|((with_reducible refine(HC5.out _ _ Xw).mono ?_);rintro e w15 ⟨rfl,Xk,v15,Xv⟩;have hT:=((((Xo.trans Xn).trans Xm).trans Xl).trans Xk);have kx:=(hT.block xb (by have:=Qs.out.2;omega) (fun e=>by have e:xb=rb:=e;omega)).trans Qs.out.1;obtain⟨z0,z1,z2,z3,z4,z5,z6,zf⟩:=yi kx))))
      obtain⟨V,hV⟩:=bQ ((((((w15.setCell ⟨xb,1,none⟩ (.int .i64 c)).setCell ⟨xb,2,none⟩ (.int .i64 s1)).setCell ⟨xb,3,none⟩ (.int .i64 s2)).setCell ⟨xb,4,none⟩ (.int .i64 s3)).setCell ⟨xb,5,none⟩ (.int .i64 (P%1048576))).setCell ⟨xb,6,none⟩ (.int .i64 s4))
      have kV:V.heap[xb]?=some (.cells #[.int .i64 P, .int .i64 c, .int .i64 s1, .int .i64 s2, .int .i64 s3, .int .i64 (P%1048576), .int .i64 s4] 96):=by rw [hV];exact Nl kx
      have HTV:=hdd (show gU rb w8 V by rw [hV];exact Jg (XX.out.trans hT) hxr _ _ _ _ _ _)
      have P7:Below xb w15 V:=by rw [hV];exact Hj aI _ _ _ _ _ _
      have wN:=hdd (Xv.later (P7.mono af))
      have hVg:∀g,g<xb->g≠rb->V.heap[g]?=w9.heap[g]?:=fun g h1 h2=>(P7.block g h1).trans ((hT.block g (by have:=Qs.out.2;omega) h2).trans (QA.out.block g (by have:=HXB.out;omega)))
      have hoV:Hid (∀W,gU rb V W->av w8.heap.size W (.slice so es.length sc) es):=hdd fun W hW=>HO9.out.block fun g hg=>by
       have h1:=HO9.out.lt g hg
       have h2:=HXB.out
       exact(hW.block g (by have:=HTV.out.size;have:=(eW.1 kV).1;omega) (fun e=>by have e:g=rb:=e;omega)).trans (hVg g af af)
      have hxV:=(eW.1 kV).1
      rw [<-hV]
      obtain⟨f0,f1,ff⟩:=wN.out.cells
      obtain⟨y0,y1,y2,y3,y4,y5,y6,yf⟩:=yi kV
      have HHZ:=hdd hxV
      clear hV P7 hVg hT kx Xo Xn Xm Xl Xk Xz Xy Xx Xw Xv X5 aci XX HT9 Qs
      obtain⟨BB,OE⟩:=bw (decide (rx.e=0/\jI es ⟨P,⟨c,s1,s2,s3,P%1048576,s4⟩⟩))
      go_cut [192]from 132 to 198 (fun cb wx=>cb = .bool BB/\V=wx)
      case first=>
       clear z0 z1 z2 z3 z4 z5 z6 zf
       by_cases Gq:rx.e=0
       ·have OM:=hdd Gq
        rw [Gq]at f1
        clear Gq
        by_cases hbig:1099511627776<=P
        ·go_wp2_with fail
         go_meet
         exact⟨congrArg Value.bool ((decide_eq_true (⟨OM.out, .inl hbig⟩:rx.e=0/\jI es ⟨P,⟨c,s1,s2,s3,P%1048576,s4⟩⟩)).symm.trans OE),rfl⟩
        ·by_cases hc0:c=0
         ·go_wp2_with fail
          go_meet
          exact⟨congrArg Value.bool ((decide_eq_true (⟨OM.out, .inr (.inl hc0)⟩:rx.e=0/\jI es ⟨P,⟨c,s1,s2,s3,P%1048576,s4⟩⟩)).symm.trans OE),rfl⟩
         ·have agv:(c == 0)=false:=by simp [hc0]
          by_cases hq0:q=0
          ·have hes:=hdd (xN (by have:=HO.out.2;omega):es=[])
           have afH:¬(0:Int)<(q:Int):=af
           clear hq0
           go_wp2_with fail
           go_meet
           exact⟨congrArg Value.bool ((wF (fun hn=>by rcases hn.2 with h|h|h;exact absurd (show 1099511627776<=P from h) af;exact hc0 h;exact h.1 hes.out:¬(rx.e=0/\jI es ⟨P,⟨c,s1,s2,s3,P%1048576,s4⟩⟩))).symm.trans OE),rfl⟩
          ·obtain⟨j,hj⟩:∃j,q=j+1:=⟨q-1,af⟩
           have HJ:=hdd hj
           obtain⟨og,oo,hso,hlast⟩:=av.last (hoV.out V (aw.refl _ _)) (HO.out.2.trans hj) (by have:=HO.out.2;omega)
           rw [HK.out]at hlast
           subst hso
           have aga:=fun w'=>dD (ab:=og) (aY:=oo) (n:=es.length) (cap:=sc) (show (j:Int)=((j:Nat):Int) by rfl) (by have:=HO.out.2;omega) w'
           have n1:IntKind.i64.wrap ((q:Int)-1)=(j:Int):=by rw [show (q:Int)-1=(j:Int) by omega];exact IntWalk.i64_in _ af
           have n2:(q:Int)-1=(j:Int):=af
           have hqp:(0:Int)<(q:Int):=af
           have hes:es≠[]:=fun hn=>by have:=HO.out.2;rw [hn]at this;simp at this;omega
           clear hj hq0
           by_cases hle:P<=K
           ·go_wp2_with fail
            go_meet
            exact⟨congrArg Value.bool ((decide_eq_true (⟨OM.out, .inr (.inr ⟨hes,by rw [HK.out];exact hle⟩)⟩:rx.e=0/\jI es ⟨P,⟨c,s1,s2,s3,P%1048576,s4⟩⟩)).symm.trans OE),rfl⟩
           ·go_wp2_with fail
            go_meet
            exact⟨congrArg Value.bool ((wF (fun hn=>by rcases hn.2 with h|h|h;exact absurd (show 1099511627776<=P from h) af;exact hc0 h;exact absurd (show P<=K from HK.out▸h.2) af:¬(rx.e=0/\jI es ⟨P,⟨c,s1,s2,s3,P%1048576,s4⟩⟩))).symm.trans OE),rfl⟩
       ·have PK:(rx.e == 0)=false:=by simp [Gq]
        go_wp2_with fail
        go_meet
        exact⟨congrArg Value.bool ((wF (fun hn=>Gq hn.1:¬(rx.e=0/\jI es ⟨P,⟨c,s1,s2,s3,P%1048576,s4⟩⟩))).symm.trans OE),rfl⟩
      case rest=>
       obtain⟨rfl,hwc⟩:=hcut
       subst hwc
       by_cases hb:rx.e=0/\jI es ⟨P,⟨c,s1,s2,s3,P%1048576,s4⟩⟩
       ·have hBt:BB=true:=by rw [<-OE];exact decide_eq_true hb
        subst hBt
        have HB:=hdd hb
        have HW7:=hdd (mV (e:=7) wN.out)
        have XV:=hdd (show rx.wrong 7=⟨rx.b,7⟩from ar hb.1)
        clear hb OE
        go_upto_region 32 with (first|fail|(go_at_call 109;(with_reducible refine HW7.out.mono ?_);rintro e Yz ⟨rfl,Tw,Xu⟩))
        rw [XV.out]at Xu
        have NZ:=hdd (HTV.out.trans Tw:gU rb w8 Yz)
        have Uk:=hdd Xu
        have Us:=hdd (hoV.out Yz Tw)
        have VR:=(Tw.block xb af (fun e=>by have e:xb=rb:=e;omega)).trans kV
        obtain⟨x0,x1,x2,x3,x4,x5,x6,xf⟩:=yi VR
        have hel:es.length<=1000000:=by have:=HO.out.2;omega
        have Sp:w8.heap.size<=Yz.heap.size:=NZ.out.size
        have Oi:=hdd (RG.out.trans (by rw [Vv.out]):fu (br bs)=iT (cm-(q+1)) (qB r es) (es++[⟨P,⟨c,s1,s2,s3,P%1048576,s4⟩⟩]))
        have UB:=hdd (show qB r es=⟨rx.b,7⟩ by unfold qB;rw [HK.out,Vv.out];exact ar HB.out)
        clear z0 z1 z2 z3 z4 z5 z6 zf y0 y1 y2 y3 y4 y5 y6 yf f0 f1 ff kV VR
        go_wp2_with ((at_builtin;refine fg rfl (.tmp 195) (.tmp 197) rfl w8.heap.size _ es rfl (Us.out.alloc _) ⟨_,0,none⟩ ⟨P,⟨c,s1,s2,s3,P%1048576,s4⟩⟩ rfl (fun j u h=>mR h) hel (by simp;omega) ?_;intro v17 w17 LQ Tc))
        have M4:=Tc w8.heap.size Yz ((aJ _ _).alloc Sp _) aI
        go_roundg (cm-(q+1))
        case measure=>omega
        case rel=>exact⟨q+1,es++[⟨P,⟨c,s1,s2,s3,P%1048576,s4⟩⟩],hlt,rfl,by go_num,by rw [jb],hdd ⟨LQ,by have:=HO.out.2;rw [eP];simp only [List.length_singleton];omega⟩,hdd ⟨_,_,yx NZ.out M4,Uk.out.later (M4.mono DN),Oi.out.trans (by rw [UB.out]),fun h7=>absurd h7 (by show ¬(7:Int)=0;decide)⟩⟩
       ·have hBt:BB=false:=by rw [<-OE];exact wF hb
        subst hBt
        have HB:=hdd hb
        clear hb OE
        go_upto_region 32 with (fail)
        have NZ:=hdd (HTV.out:gU rb w8 V)
        have Uk:=hdd wN.out
        have Us:=hdd (hoV.out V (aw.refl _ _))
        have VR:=kV
        obtain⟨x0,x1,x2,x3,x4,x5,x6,xf⟩:=yi VR
        have hel:es.length<=1000000:=by have:=HO.out.2;omega
        have Sp:w8.heap.size<=V.heap.size:=NZ.out.size
        have Oi:=hdd (RG.out.trans (by rw [Vv.out]):fu (br bs)=iT (cm-(q+1)) (qB r es) (es++[⟨P,⟨c,s1,s2,s3,P%1048576,s4⟩⟩]))
        have UB:=hdd (show qB r es=rx by unfold qB;rw [HK.out,Vv.out];exact ai HB.out)
        clear z0 z1 z2 z3 z4 z5 z6 zf y0 y1 y2 y3 y4 y5 y6 yf f0 f1 ff kV VR
        go_wp2_with ((at_builtin;refine fg rfl (.tmp 195) (.tmp 197) rfl w8.heap.size _ es rfl (Us.out.alloc _) ⟨_,0,none⟩ ⟨P,⟨c,s1,s2,s3,P%1048576,s4⟩⟩ rfl (fun j u h=>mR h) hel (by simp;omega) ?_;intro v17 w17 LQ Tc))
        have M4:=Tc w8.heap.size V ((aJ _ _).alloc Sp _) aI
        go_roundg (cm-(q+1))
        case measure=>omega
        case rel=>exact⟨q+1,es++[⟨P,⟨c,s1,s2,s3,P%1048576,s4⟩⟩],hlt,rfl,by go_num,by rw [jb],hdd ⟨LQ,by have:=HO.out.2;rw [eP];simp only [List.length_singleton];omega⟩,hdd ⟨_,_,yx NZ.out M4,Uk.out.later (M4.mono DN),Oi.out.trans (by rw [UB.out]),fun h7=>by rw [jb];exact⟨Tx.1,Int.not_le.1 fun hn=>HB.out ⟨h7, .inl hn⟩⟩⟩⟩
     ·have he':(r.e == 0)=false:=by simp [he]
      clear hlt
      go_wp2_with fail
      go_meet
      exact⟨es,v,r,hdd ⟨xE.out.trans (pW he),by have:=HO.out.2;omega⟩,hdd ⟨HO.out.1,Ug.out,OQ.out⟩⟩
    ·have hlt':¬(q:Int)<(cm:Int):=af
     go_wp2_with fail
     go_meet
     exact⟨es,v,r,hdd ⟨xE.out.trans (by rw [show cm-q=0 by omega];rfl),by have:=HO.out.2;omega⟩,hdd ⟨HO.out.1,Ug.out,OQ.out⟩⟩
  case rest=>
   obtain⟨es,vx,rx,Vu,HZ⟩:=hcut
   obtain⟨eso,esc,rfl⟩:=HZ.out.1.isSlice
   have Uj:=hdd HZ.out.2.2
   have HBR:=hdd (show zL (br bs)=if rx.e=0/\0<rx.b.length then⟨rx.b,4⟩else rx by unfold zL;rw [Vu.out.1])
   have AG:=hdd (show Below rb W2 wc from HZ.out.2.1.below UF.out af (fun i h=>by have h:i=rb:=h;omega))
   obtain⟨f0,f1,ff⟩:=Uj.out.cells
   obtain⟨vb,vo,vc,hvx,hvb⟩:=Uj.out.form
   subst hvx
   by_cases Gq:rx.e=0
   ·have OM:=hdd Gq
    rw [Gq]at f1
    clear Gq
    by_cases hlen:0<rx.b.length
    ·have hlen':(0:Int)<(rx.b.length:Int):=af
     have HD4:=hdd (show sj bs=4 by rw [HD.out,HBR.out,ar ⟨OM.out,hlen⟩])
     have HW4:=hdd (mV (e:=4) Uj.out)
     have XV:=hdd (show rx.wrong 4=⟨rx.b,4⟩from ar OM.out)
     clear hlen
     go_upto_region 35 with (first|fail|(go_at_call 109;(with_reducible refine HW4.out.mono ?_);rintro e wz ⟨rfl,hTz,hRz⟩))
     rw [XV.out]at hRz
     clear f0 f1 ff
     obtain⟨f0,f1,ff⟩:=hRz.cells
     have H2:=hdd (hTz.below AG.out (by have:=AG.out.size;have:=mv.out.2;omega) (fun i h=>by have h:i=rb:=h;omega):Below rb W2 wz)
     have HWW:=hdd (Below.trans' (Below.mono mv.out.1 aI) (aJ _ W2) mv.out.1.size)
     have xQ:=hdd (show ah w wz from ⟨H2.out.os.trans mv.out.1.os,H2.out.tape.trans mv.out.1.tape,H2.out.output.trans mv.out.1.output,gT mv.out.1.size H2.out.size,fun b hb=>(H2.out.block b (by have:=zY.out;omega)).trans (mv.out.1.block b hb)⟩)
     have kz:wz.heap[w.heap.size]?=some (.cells cN 35):=(H2.out.block _ (by have:=zY.out;omega)).trans Oh.out
     obtain⟨r0,r1,r2,r3,r4,r5,r6,r7,rf⟩:wz.cell? ⟨w.heap.size,0,none⟩=some (.slice none 0 0)/\wz.cell? ⟨w.heap.size,1,none⟩=some (.slice none 0 0)/\wz.cell? ⟨w.heap.size,2,none⟩=some (.int .i64 0)/\wz.cell? ⟨w.heap.size,3,none⟩=some (.slice none 0 0)/\wz.cell? ⟨w.heap.size,4,none⟩=some (.int .i64 0)/\wz.cell? ⟨w.heap.size,5,none⟩=some (.slice none 0 0)/\wz.cell? ⟨w.heap.size,6,none⟩=some (.int .i64 0)/\wz.cell? ⟨w.heap.size,7,none⟩=some (.int .i64 0)/\∀o,wz.frozen? ⟨w.heap.size,o,none⟩=false:=by simp [World.cell?,World.frozen?,kz,cN]
     have KR:rb≠w.heap.size:=by have:=zY.out;omega
     have aaL:¬rb=w.heap.size:=KR
     have aaK:¬w.heap.size=rb:=fun e=>KR e.symm
     have Vp:=hdd kz
     clear kz
     go_upto_region 36 with (fail)
     refine cV [(1,1),(2,1),(3,1),(4,0),(0,1),(5,2),(6,3)] 6
      (fun W=>W.cell? ⟨rb,1,none⟩=some (.int .i64 4)) cy cy (by exact f1) ?_
     (simp only [bF,List.filterMap_cons,List.filterMap_nil,List.getElem?_cons_zero,List.getElem?_cons_succ,Option.map_some])
     (repeat (first|refine jy ?_|refine jx ?_|refine jw ?_);(try simp only [Act.put,List.setIfInBounds_toArray,List.set_cons_zero,List.set_cons_succ]))
     refine qM ?_ (fun K hK=>?_)
     (focus (first|exact bh rfl _|exact dP rfl rfl rfl rfl))
     go_simp
     obtain⟨VV,zt⟩:=bQ (((((((((wz.setCell ⟨w.heap.size,0,none⟩ (.slice none 0 0)).setCell ⟨w.heap.size,1,none⟩ (.slice none 0 0)).setCell ⟨w.heap.size,2,none⟩ (.int .i64 0)).setCell ⟨w.heap.size,3,none⟩ (.slice none 0 0)).setCell ⟨w.heap.size,4,none⟩ (.int .i64 0)).setCell ⟨w.heap.size,5,none⟩ (.slice none 0 0)).setCell ⟨w.heap.size,6,none⟩ (.int .i64 0)).setCell ⟨w.heap.size,7,none⟩ (.int .i64 0)))
     have hvr:VV.heap[rb]?=wz.heap[rb]?:=by rw [zt];exact fo KR
     have hvb:ah w VV:=by rw [zt];exact cF xQ.out aI _ _ _ _ _ _ _ _
     have hvs:VV.drew.cell? ⟨rb,1,none⟩=some (.int .i64 4):=(World.cell?_of_block (show VV.drew.heap[rb]?=wz.heap[rb]? from hvr)).trans f1
     rw [<-zt]
     have kV:=(by rw [zt];exact jd Vp.out:VV.heap[w.heap.size]?=some (.cells cN 35))
     obtain⟨q0,q1,q2,q3,q4,q5,q6,q7⟩:VV.drew.cell? ⟨w.heap.size,0,none⟩=some (.slice none 0 0)/\VV.drew.cell? ⟨w.heap.size,1,none⟩=some (.slice none 0 0)/\VV.drew.cell? ⟨w.heap.size,2,none⟩=some (.int .i64 0)/\VV.drew.cell? ⟨w.heap.size,3,none⟩=some (.slice none 0 0)/\VV.drew.cell? ⟨w.heap.size,4,none⟩=some (.int .i64 0)/\VV.drew.cell? ⟨w.heap.size,5,none⟩=some (.slice none 0 0)/\VV.drew.cell? ⟨w.heap.size,6,none⟩=some (.int .i64 0)/\VV.drew.cell? ⟨w.heap.size,7,none⟩=some (.int .i64 0):=(by obtain⟨q0,q1,q2,q3,q4,q5,q6,q7,-⟩:=gQ (w:=VV.drew) kV;exact⟨q0,q1,q2,q3,q4,q5,q6,q7⟩)
     clear zt kV
     refine hK _ _ hvs ?_
     clear hK K
     (repeat (first|refine jy ?_|refine jx ?_|refine jw ?_);(try simp only [Act.put,List.setIfInBounds_toArray,List.set_cons_zero,List.set_cons_succ]))
     refine fX ?_ (fun K hK=>?_)
     (focus (first|exact bh rfl _|exact dP rfl rfl rfl rfl))
     go_simp
     refine hK _ _ ?_
     clear hK K
     refine gZ ?_
     go_wp2_with fail
     exact bodyPost_ret (v:= .tuple #[dH, .int .i64 4]) (by simp [results,Tryd.results86,go_sem, *]) rfl ⟨hvb.drew, .inl ⟨4,aW,rfl, .inl HD4.out⟩⟩
    ·have hlen':¬(0:Int)<(rx.b.length:Int):=af
     have Yq:=hdd (show sj bs=0 by rw [HD.out,HBR.out,ai (fun hn=>hlen hn.2)];exact OM.out)
     have Fg:=hdd (show (cU (br bs)).2=ns by rw [Ob.out.1])
     have OZ:=hdd (show (cU (br bs)).1.num.2=fl by rw [Ob.out.1];show r.num.2=fl;rw [HP.out])
     have HE2:=hdd (show (fu (br bs)).2=es by rw [Vu.out.1])
     obtain⟨-,-,KS,hl2,-,-,-⟩:=TU Ol.out Yq.out
     rw [HE2.out]at KS hl2
     have HOW:=hdd (HO8.out.turn HZ.out.2.1)
     have Wi:∀s∈ns,s.size<=10:=by
      rw [<-Fg.out]
      exact ur (mX (tH Ol.out)) (fun s hs=>by cases hs)
     have KC:=hdd (show ah w wc from ⟨AG.out.os.trans mv.out.1.os,AG.out.tape.trans mv.out.1.tape,AG.out.output.trans mv.out.1.output,gT mv.out.1.size AG.out.size,fun b hb=>(AG.out.block b (by have:=zY.out;omega)).trans (mv.out.1.block b hb)⟩)
     have Zu:=hdd (Ma (fl:=fl) (HOW.out.at (by have:=Ob.out.2;omega)) (HZ.out.1.at af) ⟨hl2.2.1,fun e he=>⟨(hl2.1 e he).1,(hl2.1 e he).2.1⟩,KS⟩ (fun s hs=>gT (Wi s hs) aW) (sy.out.below KC.out))
     clear KS hl2 Wi hlen
     have hcz:w.heap.size<wc.heap.size:=by have:=KC.out.size;have:=AG.out.size;have:=zY.out;have:=mv.out.2;omega
     have HKC:=hdd (show wc.heap[w.heap.size]?=some (.cells cN 35)from (AG.out.block _ (by have:=zY.out;omega)).trans Oh.out)
     go_upto_region 37 with (fail)
     clear f0 f1 ff
     go_wp2_with (go_at_call 112;(with_reducible refine Zu.out.mono ?_);rintro e wz ⟨hbz,hez⟩;have kz:=(hbz.block _ hcz).trans HKC.out;obtain⟨r0,r1,r2,r3,r4,r5,r6,r7,rf⟩:=gQ kz;have ZE:=hdd hbz;have Vp:=hdd kz;clear kz hbz;rcases hez with ⟨E,Y8,rfl,hbad⟩|⟨sn,sc,g0,l0,p0,g1,l1,p1,g2,l2,p2,T,U3,rfl,hok,ku⟩)
     ·obtain⟨VV,zt⟩:=bQ (((((((((wz.setCell ⟨w.heap.size,0,none⟩ (.slice none 0 0)).setCell ⟨w.heap.size,1,none⟩ (.slice none 0 0)).setCell ⟨w.heap.size,2,none⟩ (.int .i64 0)).setCell ⟨w.heap.size,3,none⟩ (.slice none 0 0)).setCell ⟨w.heap.size,4,none⟩ (.int .i64 0)).setCell ⟨w.heap.size,5,none⟩ (.slice none 0 0)).setCell ⟨w.heap.size,6,none⟩ (.int .i64 0)).setCell ⟨w.heap.size,7,none⟩ (.int .i64 0)))
      have hvb:ah w VV:=by rw [zt];exact cF (Below.trans' KC.out ZE.out KC.out.size) aI _ _ _ _ _ _ _ _
      have kV:=(by rw [zt];exact jd Vp.out:VV.heap[w.heap.size]?=some (.cells cN 35))
      obtain⟨q0,q1,q2,q3,q4,q5,q6,q7,-⟩:=gQ kV
      rw [<-zt]
      clear zt kV
      exact bodyPost_ret (v:= .tuple #[dH, .int .i64 E]) (by simp [results,Tryd.results86,go_sem, *]) rfl ⟨hvb, .inl ⟨E,Y8,rfl, .inr ⟨Yq.out,by rw [Fg.out,OZ.out,HE2.out];exact hbad⟩⟩⟩
     ·obtain⟨VV,zt⟩:=bQ (((((((((wz.setCell ⟨w.heap.size,0,none⟩ (.slice VM ns.length VN)).setCell ⟨w.heap.size,1,none⟩ (.slice g0 l0 p0)).setCell ⟨w.heap.size,2,none⟩ (.int .i64 (T 0).root)).setCell ⟨w.heap.size,3,none⟩ (.slice g1 l1 p1)).setCell ⟨w.heap.size,4,none⟩ (.int .i64 (T 1).root)).setCell ⟨w.heap.size,5,none⟩ (.slice g2 l2 p2)).setCell ⟨w.heap.size,6,none⟩ (.int .i64 (T 2).root)).setCell ⟨w.heap.size,7,none⟩ (.int .i64 fl)))
      have hvb:ah w VV:=by rw [zt];exact cF (Below.trans' KC.out ZE.out KC.out.size) aI _ _ _ _ _ _ _ _
      have kV:=(by rw [zt];exact jd Vp.out:VV.heap[w.heap.size]?=some (.cells #[.slice VM ns.length VN, .slice g0 l0 p0, .int .i64 (T 0).root, .slice g1 l1 p1, .int .i64 (T 1).root, .slice g2 l2 p2, .int .i64 (T 2).root, .int .i64 fl] 35))
      have HKV:=hdd (show aP (wc.heap.size+2) wz VV by rw [zt];exact rT af _ _ _ _ _ _ _ _)
      have vC:=hdd ((HOW.out.block fun g hg=>ZE.out.block g (HOW.out.lt g hg).2).block fun g hg=>by
       rw [zt]
       exact fo (by have:=(HOW.out.lt g hg).1;have:=zY.out;omega):dz (rb+1) VV (.slice VM ns.length VN) ns)
      obtain⟨q0,q1,q2,q3,q4,q5,q6,q7,-⟩:=gQ kV
      rw [<-zt]
      have Oj:=hdd ku
      clear zt kV ku
      exact bodyPost_ret (v:= .tuple #[.agg (aH VM ns.length VN g0 l0 p0 g1 l1 p1 g2 l2 p2 ⟨ns,T 0,T 1,T 2,fl⟩), .int .i64 0]) (by simp [results,Tryd.results86,aH,go_sem, *]) rfl ⟨hvb, .inr ⟨Yq.out,VM,VN,g0,l0,p0,g1,l1,p1,g2,l2,p2,T,by rw [Fg.out,OZ.out],by rw [Fg.out,OZ.out,HE2.out];exact hok,fun w'' hw=>by
       rw [Fg.out,OZ.out]
       exact Oj.out w'' ((vC.out.keep (by have:=zY.out;omega) hw).at (by have:=Ob.out.2;omega)) (HKV.out.trans (hw.mono af))⟩⟩
   ·have PK:(rx.e == 0)=false:=by simp [Gq]
    have HDE:=hdd (show sj bs=rx.e by rw [HD.out,HBR.out,ai (fun hn=>Gq hn.1)])
    have OM:=hdd Gq
    clear Gq
    obtain⟨E,hE⟩:=bw (rx.e)
    rw [hE]at f1 PK HDE OM
    clear hE
    have H2:=hdd (AG.out:Below rb W2 wc)
    have HWW:=hdd (Below.trans' (Below.mono mv.out.1 aI) (aJ _ W2) mv.out.1.size)
    have xQ:=hdd (show ah w wc from ⟨H2.out.os.trans mv.out.1.os,H2.out.tape.trans mv.out.1.tape,H2.out.output.trans mv.out.1.output,gT mv.out.1.size H2.out.size,fun b hb=>(H2.out.block b (by have:=zY.out;omega)).trans (mv.out.1.block b hb)⟩)
    have kz:wc.heap[w.heap.size]?=some (.cells cN 35):=(H2.out.block _ (by have:=zY.out;omega)).trans Oh.out
    obtain⟨r0,r1,r2,r3,r4,r5,r6,r7,rf⟩:wc.cell? ⟨w.heap.size,0,none⟩=some (.slice none 0 0)/\wc.cell? ⟨w.heap.size,1,none⟩=some (.slice none 0 0)/\wc.cell? ⟨w.heap.size,2,none⟩=some (.int .i64 0)/\wc.cell? ⟨w.heap.size,3,none⟩=some (.slice none 0 0)/\wc.cell? ⟨w.heap.size,4,none⟩=some (.int .i64 0)/\wc.cell? ⟨w.heap.size,5,none⟩=some (.slice none 0 0)/\wc.cell? ⟨w.heap.size,6,none⟩=some (.int .i64 0)/\wc.cell? ⟨w.heap.size,7,none⟩=some (.int .i64 0)/\∀o,wc.frozen? ⟨w.heap.size,o,none⟩=false:=by simp [World.cell?,World.frozen?,kz,cN]
    have KR:rb≠w.heap.size:=by have:=zY.out;omega
    have aaL:¬rb=w.heap.size:=KR
    have aaK:¬w.heap.size=rb:=fun e=>KR e.symm
    have Vp:=hdd kz
    clear kz
    go_upto_region 36 with (fail)
    refine cV [(1,1),(2,1),(3,1),(4,0),(0,1),(5,2),(6,3)] 6
     (fun W=>W.cell? ⟨rb,1,none⟩=some (.int .i64 E)) cy cy (by exact f1) ?_
    (simp only [bF,List.filterMap_cons,List.filterMap_nil,List.getElem?_cons_zero,List.getElem?_cons_succ,Option.map_some])
    (repeat (first|refine jy ?_|refine jx ?_|refine jw ?_);(try simp only [Act.put,List.setIfInBounds_toArray,List.set_cons_zero,List.set_cons_succ]))
    refine qM ?_ (fun K hK=>?_)
    (focus (first|exact bh rfl _|exact dP rfl rfl rfl rfl))
    go_simp
    obtain⟨VV,zt⟩:=bQ (((((((((wc.setCell ⟨w.heap.size,0,none⟩ (.slice none 0 0)).setCell ⟨w.heap.size,1,none⟩ (.slice none 0 0)).setCell ⟨w.heap.size,2,none⟩ (.int .i64 0)).setCell ⟨w.heap.size,3,none⟩ (.slice none 0 0)).setCell ⟨w.heap.size,4,none⟩ (.int .i64 0)).setCell ⟨w.heap.size,5,none⟩ (.slice none 0 0)).setCell ⟨w.heap.size,6,none⟩ (.int .i64 0)).setCell ⟨w.heap.size,7,none⟩ (.int .i64 0)))
    have hvr:VV.heap[rb]?=wc.heap[rb]?:=by rw [zt];exact fo KR
    have hvb:ah w VV:=by rw [zt];exact cF xQ.out aI _ _ _ _ _ _ _ _
    have hvs:VV.drew.cell? ⟨rb,1,none⟩=some (.int .i64 E):=(World.cell?_of_block (show VV.drew.heap[rb]?=wc.heap[rb]? from hvr)).trans f1
    rw [<-zt]
    have kV:=(by rw [zt];exact jd Vp.out:VV.heap[w.heap.size]?=some (.cells cN 35))
    obtain⟨q0,q1,q2,q3,q4,q5,q6,q7⟩:VV.drew.cell? ⟨w.heap.size,0,none⟩=some (.slice none 0 0)/\VV.drew.cell? ⟨w.heap.size,1,none⟩=some (.slice none 0 0)/\VV.drew.cell? ⟨w.heap.size,2,none⟩=some (.int .i64 0)/\VV.drew.cell? ⟨w.heap.size,3,none⟩=some (.slice none 0 0)/\VV.drew.cell? ⟨w.heap.size,4,none⟩=some (.int .i64 0)/\VV.drew.cell? ⟨w.heap.size,5,none⟩=some (.slice none 0 0)/\VV.drew.cell? ⟨w.heap.size,6,none⟩=some (.int .i64 0)/\VV.drew.cell? ⟨w.heap.size,7,none⟩=some (.int .i64 0):=(by obtain⟨q0,q1,q2,q3,q4,q5,q6,q7,-⟩:=gQ (w:=VV.drew) kV;exact⟨q0,q1,q2,q3,q4,q5,q6,q7⟩)
    clear zt kV
    refine hK _ _ hvs ?_
    clear hK K
    (repeat (first|refine jy ?_|refine jx ?_|refine jw ?_);(try simp only [Act.put,List.setIfInBounds_toArray,List.set_cons_zero,List.set_cons_succ]))
    refine fX ?_ (fun K hK=>?_)
    (focus (first|exact bh rfl _|exact dP rfl rfl rfl rfl))
    go_simp
    refine hK _ _ ?_
    clear hK K
    refine gZ ?_
    go_wp2_with fail
    exact bodyPost_ret (v:= .tuple #[dH, .int .i64 E]) (by simp [results,Tryd.results86,go_sem, *]) rfl ⟨hvb.drew, .inl ⟨E,OM.out,rfl, .inl HDE.out⟩⟩
end
end Go.Proofs.YtmljjfhgciaceaaDoor
