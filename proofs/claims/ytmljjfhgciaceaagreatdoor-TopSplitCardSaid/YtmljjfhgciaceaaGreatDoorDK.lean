/- Texts of mine that come as one: DecK Dec. -/
import Derived.Test.YtmljjfhgciaceaaGreatDoorHd
import Derived.Test.YtmljjfhgciaceaaGreatDoorMD
import Derived.Test.YtmljjfhgciaceaaGreatDoorDP
import Derived.Test.YtmljjfhgciaceaaGreatDoorAK
import Derived.Test.YtmljjfhgciaceaaGreatDoorBK
import Derived.Test.YtmljjfhgciaceaaGreatDoorSO
import Derived.Deep.CutBlock
namespace Go.Proofs.YtmljjfhgciaceaaGreatDoor
open Go.RowKit
section
variable {b0 b1 b2 b3:Int} {ns:List ByteArray} {es:List aA} {k B rb xb:Nat} {X:Nat->Prop} {r:Rd} {T:TypeId} {a0 a1 a2 a3 a4 a5 a6:Value} {w w' a:World}
theorem fF.str {b off n cap:Nat} {xs:List Int} (h:fF w (.slice (some ⟨b,off,none⟩) n cap) xs):(convert 61 9 (.slice (some ⟨b,off,none⟩) n cap)).run Tryz.prog w = .ok (.string (strOfNums xs)) w:=by
 obtain⟨ao',cap',hv,h1,h2,h3,h4,h5⟩:=h
 have e:n=xs.length:=by injection hv
 subst e
 refine run_convert_bytes_arg w 61 5 Tryz.underlying61 Tryz.underlying5 b off xs.length cap xs rfl (fun i hi=>?_) 9 Tryz.underlying9
 obtain⟨b',Z9,hb,-,hc⟩:=h5 af
 have e2:some (⟨b,off,none⟩:Addr)=ao':=by injection hv
 rw [hb]at e2
 injection e2 with e2
 injection e2 with e3 e4
 subst e3 e4
 rw [l9 hc hi];simp [hi]
theorem FK {M:List Int} (_h0:0<=b0/\b0<=255) (h1:0<=b1/\b1<=255) (h2:0<=b2/\b2<=255) (h3:0<=b3/\b3<=255) :
  ((gq M).2*65536+(gq M).1=b0*16777216+b1*65536+b2*256+b3)↔ki M=[b0,b1,b2,b3]:=by
 have hr:=mL M
 unfold ki
 simp only [List.cons.injEq,and_true]
 constructor
 ·intro h
  omega
 ·rintro⟨e0,e1,e2,e3⟩
  omega
theorem LV (h0:0<=b0/\b0<=255) (h1:0<=b1/\b1<=255) (h2:0<=b2/\b2<=255) (h3:0<=b3/\b3<=255) :
  bits .or .i64 (b0*16777216) (b1*65536)=b0*16777216+b1*65536/\bits .or .i64 (b0*16777216+b1*65536) (b2*256)=b0*16777216+b1*65536+b2*256/\bits .or .i64 (b0*16777216+b1*65536+b2*256) b3=b0*16777216+b1*65536+b2*256+b3:=by
 refine⟨?_,?_,?_⟩
 ·rw [bits_join .i64 63 aY (fun n h0 h1=>IntWalk.i64_in _ af) 24 (b0*16777216) (b1*65536) af af af af af af]
 ·rw [bits_join .i64 63 aY (fun n h0 h1=>IntWalk.i64_in _ af) 16 (b0*16777216+b1*65536) (b2*256) af af af af af af]
 ·rw [bits_join .i64 63 aY (fun n h0 h1=>IntWalk.i64_in _ af) 8 (b0*16777216+b1*65536+b2*256) b3 af af af af af af]
theorem Ki {bs:List Int} (hk:bs.length=k+4):bs.drop (bs.length-4)=[bs[k],bs[k+1],bs[k+2],bs[k+3]]:=by
 have e:bs.length-4=k:=af
 rw [e,vh af,vh af,vh af,vh af,AL af]
theorem Pg {bs:List Int} {N2:ByteArray} (hb:aP bs) (h:strOfNums (bs.take 2)=N2):(bs.take 2=[119,110]->(N2.toList == [119,110])=true)/\(bs.take 2≠[119,110]->(N2.toList == [119,110])=false):=by
 subst h
 have hb2:aP (bs.take 2):=fun x hx=>hb x (xP hx)
 have e:(⟨#[119,110]⟩:ByteArray).toList=[119,110]:=ByteArray.toList_mk [119,110]
 rw [<-e,Lh]
 constructor
 ·intro h
  rw [h]
  exact decide_eq_true rfl
 ·intro h
  refine tO fun h2=>h ?_
  have:=congrArg nums h2
  rw [Dk hb2]at this
  exact this
structure dw (B:Nat) (w:World) (v:Value) (ns:List ByteArray):Prop where
 row:w.ownsRow B 9 1 v ns.length (ns.flatMap jg)
theorem dw.nil (B:Nat) (w:World):dw B w (.slice none 0 0) []:=⟨World.ownsRow_nil _ _ _ _⟩
theorem dw.alloc {v:Value} (h:dw B w v ns) (o:Obj):dw B (w.alloc o) v ns:=⟨World.ownsRow.alloc h.row o⟩
theorem dw.block {v:Value} (h:dw B w v ns) (hb:∀g,v.ownBlock=some g->w'.heap[g]?=w.heap[g]?):dw B w' v ns:=by
 obtain⟨hl,⟨rfl,h0⟩|⟨g,cap,cur,rfl,hB,hg,h1,h2,h3,h4⟩⟩:=h.row
 ·exact⟨⟨hl, .inl ⟨rfl,h0⟩⟩⟩
 ·exact⟨⟨hl, .inr ⟨g,cap,cur,rfl,hB,(hb g rfl).trans hg,h1,h2,h3,h4⟩⟩⟩
theorem dw.lt {v:Value} (h:dw B w v ns):∀g,v.ownBlock=some g->B<=g/\g<w.heap.size:=World.ownsRow.lt h.row
theorem dw.turn {v:Value} (h:dw (rb+1) w v ns) (hT:gU rb w w'):dw (rb+1) w' v ns:=
 h.block fun g hg=>hT.block g (h.lt g hg).2 (fun e=>by have:=(h.lt g hg).1;have e:g=rb:=e;omega)
theorem dw.keep {M:Nat} {v:Value} (h:dw B w v ns) (hM:M<=B) (hk:aQ M w w'):dw B w' v ns:=
 h.block fun g hg=>hk.block g (by have:=(h.lt g hg).1;omega) (h.lt g hg).2
theorem dw.at {v:Value} (h:dw B w v ns) (hs:ns.length<=1000000):jO w v ns:=dN.owned kC h.row rfl af
theorem dw.isSlice {v:Value} (h:dw B w v ns):∃ao cap,v = .slice ao ns.length cap:=by
 obtain⟨hl,⟨rfl,h0⟩|⟨g,cap,cur,rfl,_⟩⟩:=h.row
 ·exact⟨none,0,by rw [h0]⟩
 ·exact⟨_,_,rfl⟩
theorem au.turn {v:Value} (h:au (rb+1) w v es) (hT:gU rb w w'):au (rb+1) w' v es:=
 h.block fun g hg=>hT.block g (h.lt g hg).2 (fun e=>by have:=(h.lt g hg).1;have e:g=rb:=e;omega)
theorem Ph {S:ByteArray}:(w.alloc (.cells #[.string S] T)).cell? ⟨w.heap.size,0,none⟩=some (.string S):=by
 have hk:(w.alloc (.cells #[.string S] T)).heap[w.heap.size]?=some (.cells #[.string S] T):=by
  show (w.heap.push _)[w.heap.size]?=_;simp
 simp only [World.cell?,hk]
 rfl
theorem sU {ops:Array Oper} {rest:List Oper} {o:Oper} {a:Act} {Q:Exit->Act->World->Prop} (hgd:o.guard=none) (s x:Operand)
  (ho:o.op = .call { callee:= .builtin .append,args:=#[s,x],argTypes:=#[24,24] }) (B:Nat) (v:Value) (es:List ByteArray) (hs:a.eval s=v) (hown:dw B w v es)
  (ad:Addr) (e:ByteArray) (hx:a.eval x = .slice (some ad) 1 1) (hnews:w.cell? ad=some (.string e)) (hlen:es.length<=1000000) (hbase:B<=w.heap.size)
  (h:∀v' w',dw B w' v' (es++[e])->(∀C W,Below C W w->C<=B->Below C W w')->wpList Tryz.prog ops Q rest (a.put o.dst v') w'):wpList Tryz.prog ops Q (o::rest) a w:=by
 refine mX hgd s x ho B v es hs hown.row ad e hx hnews hlen hbase ?_
 intro v' w' hown' hg _
 refine h v' w' ⟨by rw [eO];exact hown'⟩ fun C W hb hC=>Below.grown hb hg af (fun j hj=>by have:=(hown.lt j hj).1;omega)
theorem JI (h:r.e=0):((r.cnt 10).1.e=0/\(r.cnt 10).2<=(r.cnt 10).1.b.length->dM (k+1) r ns=dM k ⟨(r.cnt 10).1.b.drop (r.cnt 10).2.toNat,0⟩ (ns++[strOfNums ((r.cnt 10).1.b.take (r.cnt 10).2.toNat)])) /\
  ((r.cnt 10).1.e≠0->dM (k+1) r ns=((r.cnt 10).1,ns))/\((r.cnt 10).1.e=0->¬(r.cnt 10).2<=(r.cnt 10).1.b.length->dM (k+1) r ns=(⟨(r.cnt 10).1.b,5⟩,ns)):=by
 have e0:¬r.e≠0:=fun hn=>hn h
 refine⟨fun h1=>?_,fun h1=>?_,fun h1 h2=>?_⟩
 ·conv=>lhs;unfold dM
  rw [ai e0,ar h1]
 ·conv=>lhs;unfold dM
  rw [ai e0,ai (fun hn=>h1 hn.1),ai h1]
 ·conv=>lhs;unfold dM
  rw [ai e0,ai (fun hn=>h2 hn.2),ar h1]
theorem au.last {so:Option Addr} {sc j:Nat} (h:au B w (.slice so es.length sc) es) (hj:es.length=j+1) (hs:es.length<=1000000) :
  ∃og off,so=some ⟨og,off,none⟩/\w.cell? ⟨og,off+j*7,none⟩=some (.int .i64 (gT es)):=by
 obtain⟨_,_,hv,-,-,-,-,h5⟩:=h.at hs
 injection hv with hv1 _ hv3
 subst hv1 hv3
 obtain⟨eb,aH,lQ,r8,nD⟩:=h5 af
 have hjl:j<es.length:=af
 obtain⟨o0,-⟩:=bT (aL _ _) r8 nD hjl
 refine⟨eb,aH,lQ,o0.trans ?_⟩
 have:gT es=es[j].key:=by
  unfold gT
  rw [List.getLast?_eq_getElem?,hj]
  simp [hjl]
 rw [this]
theorem yq (h:w.heap[xb]?=some (.cells #[a0,a1,a2,a3,a4,a5,a6] T)) :
  w.cell? ⟨xb,0,none⟩=some a0/\w.cell? ⟨xb,1,none⟩=some a1/\w.cell? ⟨xb,2,none⟩=some a2/\w.cell? ⟨xb,3,none⟩=some a3/\w.cell? ⟨xb,4,none⟩=some a4/\w.cell? ⟨xb,5,none⟩=some a5/\w.cell? ⟨xb,6,none⟩=some a6/\∀o,w.frozen? ⟨xb,o,none⟩=false:=by
 simp [World.cell?,World.frozen?,h]
theorem yD {b c:World} (h:aw X a b) (hb:Below a.heap.size b c):aw X a c:=
 ⟨hb.os.trans h.os,hb.tape.trans h.tape,hb.output.trans h.output,im h.size hb.size,fun i hi hx=>(hb.block i hi).trans (h.block i hi hx)⟩
theorem Np {v1 v2 v3 v4 v5 v6:Value} {e:TypeId} {fr:Nat×Nat} (h:w.heap[B]?=some (.cells #[a0,a1,a2,a3,a4,a5,a6] e fr)) :
  ((((((w.setCell ⟨B,1,none⟩ v1).setCell ⟨B,2,none⟩ v2).setCell ⟨B,3,none⟩ v3).setCell ⟨B,4,none⟩ v4).setCell ⟨B,5,none⟩ v5).setCell ⟨B,6,none⟩ v6).heap[B]?=some (.cells #[a0,v1,v2,v3,v4,v5,v6] e fr):=by
 have h:=heap_setCell_same (off:=6) (v:=v6) (heap_setCell_same (off:=5) (v:=v5) (heap_setCell_same (off:=4) (v:=v4) (heap_setCell_same (off:=3) (v:=v3) (heap_setCell_same (off:=2) (v:=v2) (heap_setCell_same (off:=1) (v:=v1) h)))))
 simpa using h
theorem Ji (h:aw X a w) (hx:a.heap.size<=xb) (v1 v2 v3 v4 v5 v6:Value) :
  aw X a ((((((w.setCell ⟨xb,1,none⟩ v1).setCell ⟨xb,2,none⟩ v2).setCell ⟨xb,3,none⟩ v3).setCell ⟨xb,4,none⟩ v4).setCell ⟨xb,5,none⟩ v5).setCell ⟨xb,6,none⟩ v6):=
 aw.setCell (aw.setCell (aw.setCell (aw.setCell (aw.setCell (aw.setCell h (.inr hx) _) (.inr hx) _) (.inr hx) _) (.inr hx) _) (.inr hx) _) (.inr hx) _
theorem Ho (hx:B<=xb) (v1 v2 v3 v4 v5 v6:Value) :
  Below B w ((((((w.setCell ⟨xb,1,none⟩ v1).setCell ⟨xb,2,none⟩ v2).setCell ⟨xb,3,none⟩ v3).setCell ⟨xb,4,none⟩ v4).setCell ⟨xb,5,none⟩ v5).setCell ⟨xb,6,none⟩ v6):=
 ((((((aL B w).setCell hx _).setCell hx _).setCell hx _).setCell hx _).setCell hx _).setCell hx _
theorem Fy (xs:List Int):(strOfNums xs).size=xs.length:=by simp [strOfNums,ByteArray.size]
theorem uv:∀{k:Nat} {r:Rd} {ns:List ByteArray},aP r.b->(∀s∈ns,s.size<=10)->∀s∈(dM k r ns).2,s.size<=10
 |0,_,_,_,h=>h
 |k+1,r,ns,hb,h=>by
  unfold dM
  split
  ·exact h
  ·split
   ·have hc:=sj (most:=10) (r:=r) aY hb
    refine uv (fun x hx=>mW hb x (vg hx)) fun s hs=>?_
    rcases kH.1 hs with hs|hs
    ·exact h s hs
    ·rw [ny.1 hs,Fy,fx]
     omega
   ·exact h
theorem gS {a7:Value} (h:w.heap[xb]?=some (.cells #[a0,a1,a2,a3,a4,a5,a6,a7] T)) :
  w.cell? ⟨xb,0,none⟩=some a0/\w.cell? ⟨xb,1,none⟩=some a1/\w.cell? ⟨xb,2,none⟩=some a2/\w.cell? ⟨xb,3,none⟩=some a3/\w.cell? ⟨xb,4,none⟩=some a4/\w.cell? ⟨xb,5,none⟩=some a5/\w.cell? ⟨xb,6,none⟩=some a6/\w.cell? ⟨xb,7,none⟩=some a7/\∀o,w.frozen? ⟨xb,o,none⟩=false:=by
 simp [World.cell?,World.frozen?,h]
theorem Nn {l:List aA} (h:r.e=0):iT (k+1) r l=iT k (qC r l) (l++[(kR r (gT l)).2]):=by
 conv=>lhs;unfold iT
 rw [ai (fun hn=>hn h)]
end
section
set_option maxRecDepth 100000
set_option maxHeartbeats 8000000
def QL (bs:List Int) (w:World) (x:Ending) (w':World):Prop:=
 ah w w'/\((∃E,E≠0/\x = .returned (.tuple #[dH, .int .i64 E])/\(sy bs=E\/(sy bs=0/\qg (cU (bu bs)).2 (cU (bu bs)).1.num.2 (fw (bu bs)).2))) \/
  (sy bs=0/\∃sn sc g0 l0 p0 g1 l1 p1 g2 l2 p2,∃T:Nat->Tr,x = .returned (.tuple #[.agg (aJ sn (cU (bu bs)).2.length sc g0 l0 p0 g1 l1 p1 g2 l2 p2 ⟨(cU (bu bs)).2,T 0,T 1,T 2,(cU (bu bs)).1.num.2⟩), .int .i64 0])/\wP (cU (bu bs)).2 (cU (bu bs)).1.num.2 (fw (bu bs)).2 T /\
   ∀w'',aQ w.heap.size w' w''->bQ w'' (.agg (aJ sn (cU (bu bs)).2.length sc g0 l0 p0 g1 l1 p1 g2 l2 p2 ⟨(cU (bu bs)).2,T 0,T 1,T 2,(cU (bu bs)).1.num.2⟩)) ⟨(cU (bu bs)).2,T 0,T 1,T 2,(cU (bu bs)).1.num.2⟩))
theorem He {v:Value} {bs:List Int} {w:World} (h:fF w v bs) (hb:aP bs) (hsz:bS w):Calls Tryz.prog 40 #[v] w (QL bs w):=by
 have OQ:=hdd h
 have Om:=hdd hb
 have sI:=hdd hsz
 obtain⟨ao,cap,rfl,a1,a2,a3,a4,a5⟩:=h
 obtain⟨W0,hW0⟩:=bR (w.alloc (.cells cN 30))
 have Ic:=hdd (show ah w W0 by rw [hW0];exact ag)
 have hz0:W0.heap.size=w.heap.size+1:=by rw [hW0];simp
 have k0:W0.heap[w.heap.size]?=some (.cells cN 30):=by rw [hW0];exact aq _ _ rfl
 have O0:=hdd (aO k0 hz0)
 obtain⟨r0,r1,r2,r3,r4,r5,r6,r7,rf⟩:W0.cell? ⟨w.heap.size,0,none⟩=some (.slice none 0 0)/\W0.cell? ⟨w.heap.size,1,none⟩=some (.slice none 0 0)/\W0.cell? ⟨w.heap.size,2,none⟩=some (.int .i64 0)/\W0.cell? ⟨w.heap.size,3,none⟩=some (.slice none 0 0)/\W0.cell? ⟨w.heap.size,4,none⟩=some (.int .i64 0)/\W0.cell? ⟨w.heap.size,5,none⟩=some (.slice none 0 0)/\W0.cell? ⟨w.heap.size,6,none⟩=some (.int .i64 0)/\W0.cell? ⟨w.heap.size,7,none⟩=some (.int .i64 0)/\∀o,W0.frozen? ⟨w.heap.size,o,none⟩=false:=by simp [World.cell?,World.frozen?,k0,cN]
 clear hb hsz hz0 k0
 by_cases h1:200000<bs.length
 ·have h1':(200000:Int)<(bs.length:Int):=af
  have HD:=hdd (show sy bs=1 from ar h1)
  go_enter Tryz.func40,Tryz.ntmps40
  go_upto_region 1 with (fail)
  rw [<-hW0]
  clear hW0 h1
  go_wp2_with fail
  exact bodyPost_ret (v:= .tuple #[dH, .int .i64 1]) (by simp [results,Tryz.results40,go_sem, *]) rfl ⟨cH Ic.out aI _ _ _ _ _ _ _ _, .inl ⟨1,aY,rfl, .inl HD.out⟩⟩
 have hd1:decide ((200000:Int)<(bs.length:Int))=false:=tO af
 by_cases h2:bs.length<6
 ·have h2':(bs.length:Int)<6:=af
  have HD:=hdd (show sy bs=5 from (ai h1).trans (ar h2))
  go_enter Tryz.func40,Tryz.ntmps40
  go_upto_region 1 with (fail)
  rw [<-hW0]
  clear hW0 h1 h2
  go_wp2_with fail
  exact bodyPost_ret (v:= .tuple #[dH, .int .i64 5]) (by simp [results,Tryz.results40,go_sem, *]) rfl ⟨cH Ic.out aI _ _ _ _ _ _ _ _, .inl ⟨5,aY,rfl, .inl HD.out⟩⟩
 have hd2:decide ((bs.length:Int)<6)=false:=tO af
 obtain⟨ab,off,rfl,xD,ac⟩:=a5 af
 have hw0:ah w W0:=Ic.out
 have SF:=(xW (m:=2) OQ.out af).below hw0 aI
 have hcv:=fF.str SF
 obtain⟨N2,K2⟩:=bC (strOfNums (bs.take 2))
 have Qi:=Pg Om.out K2
 rw [K2]at hcv
 have hc2:2<=cap:=af
 by_cases h3:bs.take 2≠[119,110]
 ·have HD:=hdd (show sy bs=4 from (ai h1).trans ((ai h2).trans (ar h3)))
  have h3':(N2.toList == [119,110])=false:=Qi.2 h3
  go_enter Tryz.func40,Tryz.ntmps40
  go_upto_region 1 with (fail)
  rw [<-hW0]
  clear hW0 K2 Qi h3 h1 h2 SF
  go_wp2_with fail
  exact bodyPost_ret (v:= .tuple #[dH, .int .i64 4]) (by simp [results,Tryz.results40,go_sem, *]) rfl ⟨cH Ic.out aI _ _ _ _ _ _ _ _, .inl ⟨4,aY,rfl, .inl HD.out⟩⟩
 have h3':(N2.toList == [119,110])=true:=Qi.1 (Decidable.not_not.1 h3)
 obtain⟨k,hk⟩:∃k,bs.length=k+4:=⟨bs.length-4,af⟩
 have hsm:=((xW (m:=k) OQ.out af).below hw0 aI)
 have HSM:=hdd hsm
 have hcell:∀i (h:i<bs.length),W0.cell? ⟨ab,off+i,none⟩=some (.int .u8 bs[i]):=fun i h=>(hw0.cell (p:=⟨ab,off+i,none⟩) xD).trans (l9 ac h)
 have c0:=hcell k af
 have c1:=hcell (k+1) af
 have c2:=hcell (k+2) af
 have c3:=hcell (k+3) af
 have g0:=Om.out _ (gj (show k<bs.length by omega))
 have g1:=Om.out _ (gj (show k+1<bs.length by omega))
 have g2:=Om.out _ (gj (show k+2<bs.length by omega))
 have g3:=Om.out _ (gj (show k+3<bs.length by omega))
 have hdrop:bs.drop (bs.length-4)=[bs[k],bs[k+1],bs[k+2],bs[k+3]]:=Ki hk
 obtain⟨b0,hb0⟩:=bC (bs[k])
 obtain⟨b1,hb1⟩:=bC (bs[k+1])
 obtain⟨b2,hb2⟩:=bC (bs[k+2])
 obtain⟨b3,hb3⟩:=bC (bs[k+3])
 rw [hb0]at c0 g0 hdrop
 rw [hb1]at c1 g1 hdrop
 rw [hb2]at c2 g2 hdrop
 rw [hb3]at c3 g3 hdrop
 have HOR:=hdd (LV g0 g1 g2 g3)
 have OZ:=hdd hk
 have N5:=hdd (FK (M:=bs.take (bs.length-4)) g0 g1 g2 g3)
 have HDR:=hdd hdrop
 have Ut:=hdd (Io (w:=W0.drew) (dN.below HSM.out (aL _ _).drew aI) (fun x hx=>Om.out x (xP hx)))
 obtain⟨X,hX⟩:=bC ((gq (bs.take k)).2*65536+(gq (bs.take k)).1)
 rw [hX]at Ut
 have HX:=hdd hX
 have P6:=fun w'=>mV (ab:=ab) (bp:=off) (n:=bs.length) (cap:=cap) (show (k:Int)=((k:Nat):Int) by rfl) af w'
 have Tf:=fun w'=>mV (ab:=ab) (bp:=off) (n:=bs.length) (cap:=cap) (show (k:Int)+1=((k+1:Nat):Int) by omega) af w'
 have JZ:=fun w'=>mV (ab:=ab) (bp:=off) (n:=bs.length) (cap:=cap) (show (k:Int)+2=((k+2:Nat):Int) by omega) af w'
 have ab4:=fun w'=>mV (ab:=ab) (bp:=off) (n:=bs.length) (cap:=cap) (show (k:Int)+3=((k+3:Nat):Int) by omega) af w'
 have n4:(bs.length:Int)-4=(k:Int):=af
 have hkc:k<=cap:=af
 have hkl:k<=199996:=af
 have HH1:=hdd h1
 have HH2:=hdd h2
 have HH3:=hdd h3
 clear hb0 hb1 hb2 hb3 hdrop hcell hsm SF hk h3 h2 h1 n4
 go_enter Tryz.func40,Tryz.ntmps40
 go_upto_region 1 with (fail)
 rw [<-hW0]
 clear hW0 K2 Qi
 go_upto_region 8 with (fail)
 have n4:(bs.length:Int)-4=(k:Int):=by have:=OZ.out;omega
 rw [n4]
 obtain⟨o1,o2,o3⟩:=HOR.out
 clear n4
 obtain⟨wb0,wb1,wb2,wb3⟩:IntKind.i64.wrap b0=b0/\IntKind.i64.wrap b1=b1/\IntKind.i64.wrap b2=b2/\IntKind.i64.wrap b3=b3:=⟨IntWalk.i64_in _ af,IntWalk.i64_in _ af,IntWalk.i64_in _ af,IntWalk.i64_in _ af⟩
 obtain⟨ws0,ws1,ws2⟩:IntKind.i64.wrap (b0*16777216)=b0*16777216/\IntKind.i64.wrap (b1*65536)=b1*65536/\IntKind.i64.wrap (b2*256)=b2*256:=⟨IntWalk.i64_in _ af,IntWalk.i64_in _ af,IntWalk.i64_in _ af⟩
 obtain⟨wk1,wk2,wk3⟩:IntKind.i64.wrap ((k:Int)+1)=(k:Int)+1/\IntKind.i64.wrap ((k:Int)+2)=(k:Int)+2/\IntKind.i64.wrap ((k:Int)+3)=(k:Int)+3:=⟨IntWalk.i64_in _ af,IntWalk.i64_in _ af,IntWalk.i64_in _ af⟩
 refine cV [(0,1),(1,1),(2,1),(4,1),(5,1),(6,1),(7,0),(8,1),(9,1),(10,1),(11,1),(12,1),(13,1),(14,0),(15,1),(16,1),(17,1),(18,1),(19,1),(20,1),(21,1),(22,0),(23,1),(24,1),(25,1),(26,1),(27,1),(28,1),(29,1),(30,0),(31,1),(32,1),(3,2),(33,3)] 33
  (fun W=>W.cell? ⟨ab,off+k,none⟩=some (.int .u8 b0)/\W.cell? ⟨ab,off+(k+1),none⟩=some (.int .u8 b1)/\W.cell? ⟨ab,off+(k+2),none⟩=some (.int .u8 b2)/\W.cell? ⟨ab,off+(k+3),none⟩=some (.int .u8 b3)) cv cv ⟨c0,c1,c2,c3⟩ ?_
 (simp only [bF,List.filterMap_cons,List.filterMap_nil,List.getElem?_cons_zero,List.getElem?_cons_succ,Option.map_some])
 (repeat (first|refine jA ?_|refine jz ?_|refine jy ?_);(try simp only [Act.put,List.setIfInBounds_toArray,List.set_cons_zero,List.set_cons_succ]))
 refine qR ?_ (fun K hK=>?_)
 (focus (first|exact bg rfl _|exact dP rfl rfl rfl rfl))
 go_simp
 (with_reducible refine Ut.out.mono ?_);rintro x wx ⟨rfl,rfl⟩
 go_simp
 refine hK _ _ ⟨c0,c1,c2,c3⟩ ?_
 clear hK K
 (repeat (first|refine jA ?_|refine jz ?_|refine jy ?_);(try simp only [Act.put,List.setIfInBounds_toArray,List.set_cons_zero,List.set_cons_succ]))
 refine fX ?_ (fun K hK=>?_)
 (focus (first|exact bg rfl _|exact dP rfl rfl rfl rfl))
 go_simp
 refine hK _ _ ?_
 clear hK K
 refine gZ ?_
 obtain⟨V0,Xn⟩:=bR (W0.drew)
 have hv0:ah w V0:=by rw [Xn];exact Ic.out.drew
 have HV0:=hdd hv0
 have O0:Hid (V0.heap[w.heap.size]?=some (.cells cN 30)/\V0.heap.size=w.heap.size+1):=by rw [Xn];exact O0
 have X5:=hdd (dN.below OQ.out hv0 aI)
 obtain⟨r0,r1,r2,r3,r4,r5,r6,r7,rf⟩:V0.cell? ⟨w.heap.size,0,none⟩=some (.slice none 0 0)/\V0.cell? ⟨w.heap.size,1,none⟩=some (.slice none 0 0)/\V0.cell? ⟨w.heap.size,2,none⟩=some (.int .i64 0)/\V0.cell? ⟨w.heap.size,3,none⟩=some (.slice none 0 0)/\V0.cell? ⟨w.heap.size,4,none⟩=some (.int .i64 0)/\V0.cell? ⟨w.heap.size,5,none⟩=some (.slice none 0 0)/\V0.cell? ⟨w.heap.size,6,none⟩=some (.int .i64 0)/\V0.cell? ⟨w.heap.size,7,none⟩=some (.int .i64 0)/\∀o,V0.frozen? ⟨w.heap.size,o,none⟩=false:=by rw [Xn];exact⟨r0,r1,r2,r3,r4,r5,r6,r7,rf⟩
 rw [<-Xn]
 have hk4:bs.length-4=k:=by have:=OZ.out;omega
 have N5:=hdd (show (X=b0*16777216+b1*65536+b2*256+b3)↔ki (bs.take (bs.length-4))=bs.drop (bs.length-4) by
  rw [HDR.out,<-N5.out,hk4,HX.out])
 clear Xn hv0 Ut HDR HX HOR o1 o2 o3 wb0 wb1 wb2 wb3 ws0 ws1 ws2 wk1 wk2 wk3 P6 Tf JZ ab4 c0 c1 c2 c3 Ic hw0 hcv h3' hd1 hd2 HSM
 by_cases h4:X=b0*16777216+b1*65536+b2*256+b3
 case neg=>
  have HD:=hdd (show sy bs=9 from (ai HH1.out).trans ((ai HH2.out).trans ((ai HH3.out).trans (ar (fun e=>h4 (N5.out.2 e))))))
  have h4':(X == b0*16777216+b1*65536+b2*256+b3)=false:=by simp [h4]
  clear h4 N5
  go_wp2_with fail
  exact bodyPost_ret (v:= .tuple #[dH, .int .i64 9]) (by simp [results,Tryz.results40,go_sem, *]) rfl ⟨cH HV0.out aI _ _ _ _ _ _ _ _, .inl ⟨9,aY,rfl, .inl HD.out⟩⟩
 have HD:=hdd (show sy bs=(zQ (bu bs)).e from (ai HH1.out).trans ((ai HH2.out).trans ((ai HH3.out).trans (ai (fun hn=>hn (N5.out.1 h4))))))
 have h4':(X == b0*16777216+b1*65536+b2*256+b3)=true:=by simp [h4]
 clear N5 h4 g0 g1 g2 g3
 have hk2:2<=k:=by have:=HH2.out;have:=OZ.out;omega
 have aaX:(2:Int)<=(k:Int):=af
 obtain⟨o,eo,ho⟩:∃o,(if cap=2 then some (⟨ab,off,none⟩:Addr)else some ⟨ab,off+2,none⟩)=some ⟨ab,o,none⟩/\(2<cap->o=off+2):=by
  by_cases h1:cap=2
  ·exact⟨off,ar h1,fun h=>af⟩
  ·exact⟨off+2,ai h1,fun _=>rfl⟩
 have Fm:=hdd (show fF V0 (.slice (some ⟨ab,o,none⟩) (k-2) (cap-2)) (bu bs) by
  have e1:(bs.take k).length=k:=by rw [fx];have:=OZ.out;omega
  have h1:=xW (m:=k) X5.out (by have:=OZ.out;omega)
  rw [show fF V0 (.slice (some ⟨ab,off,none⟩) k cap) (bs.take k)=fF V0 (.slice (some ⟨ab,off,none⟩) (bs.take k).length cap) (bs.take k) by rw [e1]]at h1
  have h2:=BS (m:=2) h1 af o ho
  rw [e1]at h2
  unfold bu
  rw [hk4]
  exact h2)
 clear OQ X5 a1 a2 a3 a4 a5 ac
 go_upto_region 12 with (fail)
 obtain⟨rb,CO⟩:=bC (V0.heap.size)
 have Ag:=hdd (show rb=w.heap.size+1 by rw [<-CO];exact O0.out.2)
 obtain⟨W2,hW2⟩:=bR (V0.alloc (.cells #[.slice (some ⟨ab,o,none⟩) (k-2) (cap-2), .int .i64 0] 142))
 have hb2:ah V0 W2:=by rw [hW2];exact ag
 have hbk:W2.heap[rb]?=some (.cells #[.slice (some ⟨ab,o,none⟩) (k-2) (cap-2), .int .i64 0] 142):=by rw [hW2,<-CO];exact aq _ _ rfl
 have hz2:W2.heap.size=rb+1:=by rw [hW2,<-CO];simp
 have N9:=hdd (show fP W2 rb (.slice (some ⟨ab,o,none⟩) (k-2) (cap-2)) ⟨bu bs,0⟩ from
  ⟨hbk,dN.below Fm.out hb2 aI,tL Om.out,⟨_,_,_,by rw [show (bu bs).length=k-2 by unfold bu;rw [oF,fx];have:=OZ.out;omega],by have:=Ag.out;omega⟩⟩)
 have mq:=hdd (aO (Below.trans' HV0.out hb2 (by have:=O0.out.2;omega)) hz2)
 have Oi:Hid (W2.heap[w.heap.size]?=some (.cells cN 30)):=hdd ((hb2.block _ (by have:=O0.out.2;omega)).trans O0.out.1)
 rw [<-hW2,CO]
 have HC:=hdd (zO (most:=16) N9.out)
 have hcr:=sj (r:=⟨bu bs,0⟩) (most:=16) aY N9.out.ok
 obtain⟨q,hq⟩:=bC ((Rd.mk (bu bs) 0).cnt 16)
 rw [hq]at HC hcr
 obtain⟨Z4,cn⟩:=q
 obtain⟨n,rfl⟩:∃n:Nat,cn=n:=⟨cn.toNat,by have:=hcr.1;simp only at this;omega⟩
 have WH:n<=16:=by have:=hcr.2;simp only at this;omega
 have HN:=hdd (show cU (bu bs)=dM n Z4 [] by unfold cU;rw [hq];rfl)
 clear hW2 hb2 hbk hz2 hq hcr CO r0 r1 r2 r3 r4 r5 r6 r7 rf eo ho aaX Fm
 go_upto_block 0 with (first|fail|(go_at_call 83;(with_reducible refine HC.out.mono ?_);rintro e w3 ⟨rfl,hT3,v3,hR3⟩))
 go_cut [6,7,9]from 74 to 127 (fun nv _ _ wx=>∃(ns:List ByteArray) (v:Value) (r:Rd),Hid (cU (bu bs)=(r,ns)/\ns.length<=16)/\Hid (dw (rb+1) wx nv ns/\Below rb W2 wx/\fP wx rb v r))
 case first=>
  have HI:=hdd (show Below rb W2 w3 from hT3.below (aL _ _) (by have:=mq.out.2;omega) (fun i h=>by have h:i=rb:=h;omega))
  have E5:=hdd hR3
  have RP:=hdd (dw.nil (rb+1) w3)
  have ZK:=hdd hT3.size
  clear hR3 hT3 HC N9
  go_wp2_with fail
  go_loopg [6,7] n (fun g nv iv wr=>∃(q:Nat) (ns:List ByteArray),q<=n/\g=n-q/\iv = .int .i64 q/\Hid (dw (rb+1) wr nv ns/\ns.length<=q)/\Hid (∃(v:Value) (r:Rd),Below rb W2 wr/\fP wr rb v r/\cU (bu bs)=dM (n-q) r ns))
  case atStart=>exact⟨0,[],jf _,rfl,rfl,hdd ⟨RP.out,kT _⟩,hdd ⟨_,_,HI.out,E5.out,HN.out⟩⟩
  case round=>
   clear HI E5 RP
   obtain⟨q,ns,hq,rfl,rfl,HO,HR⟩:=hrel
   obtain⟨v,r,dh,hr,yg⟩:=HR.out
   have xE:=hdd yg
   have OT:=hdd hr
   have xU:=hdd dh
   obtain⟨cc0,XT,ccf⟩:=hr.cells
   obtain⟨so,sc,rfl⟩:=HO.out.1.isSlice
   clear HR dh hr yg
   by_cases hlt:q<n
   ·have hlt':(q:Int)<(n:Int):=af
    by_cases he:r.e=0
    ·rw [he]at XT
     have HCT:=hdd (zO (most:=10) OT.out)
     have hgo:=JI (k:=n-(q+1)) (ns:=ns) he
     have PU:=sj (r:=r) (most:=10) aY OT.out.ok
     rw [show n-(q+1)+1=n-q by omega]at hgo
     obtain⟨p,hp⟩:=bC (r.cnt 10)
     rw [hp]at HCT hgo PU
     obtain⟨rc,m'⟩:=p
     obtain⟨m,rfl⟩:∃m:Nat,m'=m:=⟨m'.toNat,by have:=PU.1;simp only at this;omega⟩
     have ag5:m<=10:=by have:=PU.2;simp only at this;omega
     have RT:=hdd hgo
     clear hp hgo PU he
     go_upto_region 16 with (first|fail|(go_at_call 83;(with_reducible refine HCT.out.mono ?_);rintro e w4 ⟨rfl,Y5,v4,Y9⟩))
     have Zx:=hdd (HO.out.1.turn Y5)
     have Ai:=hdd (Y5.below xU.out (by have:=xU.out.size;have:=mq.out.2;omega) (fun i h=>by have h:i=rb:=h;omega):Below rb W2 w4)
     have Uy:=hdd Y9
     have HZ4:=hdd Y5.size
     obtain⟨d0,d1,df⟩:=Y9.cells
     obtain⟨vb,vo,vc,rfl,hvb⟩:=Y9.form
     clear Y9 Y5 HCT cc0 XT ccf OT
     by_cases hce:rc.e=0
     ·have d1':=d1
      rw [hce]at d1
      by_cases CP:m<=rc.b.length
      ·have Ah:=hdd (xE.out.trans (RT.out.1 ⟨hce,by show ((m:Nat):Int)<=_;omega⟩))
       have WI:¬((rc.b.length:Int)<(m:Int)):=af
       have s1:rc.b.length<=vc:=by
        obtain⟨_,_,hvv,s1,-⟩:=Uy.out.sl
        injection hvv with _ _ hv3
        subst hv3
        exact s1
       obtain⟨S,hS⟩:=bC (strOfNums (rc.b.take m))
       have hcs:=fF.str (xW (m:=m) Uy.out.sl CP)
       rw [hS]at hcs
       have hmc:m<=vc:=af
       have HSS:=hdd hS
       have hnl:ns.length<=1000000:=by have:=HO.out.2;omega
       have HML:=hdd CP
       clear hS CP
       go_upto_region 20 with ((at_builtin;refine sU rfl (.tmp 109) (.tmp 117) rfl (rb+1) _ ns rfl (Zx.out.alloc _) ⟨w4.heap.size,0,none⟩ S rfl Ph af (by simp;have:=Ai.out.size;have:=mq.out.2;omega) ?_;intro v5 w5 Pt Tm))
       have cz:Below (rb+1) w4 w5:=Tm (rb+1) w4 ((aL _ _).alloc (by have:=Ai.out.size;have:=mq.out.2;omega) _) aI
       have hr5:=Uy.out.later cz
       obtain⟨e0,e1,ef⟩:=hr5.cells
       have Ib:=hdd (show Below rb W2 w5 from Tm rb W2 (Ai.out.alloc (by have:=Ai.out.size;have:=mq.out.2;omega) _) (Nat.le_succ _))
       have OU:=hdd hr5
       have HO5:=hdd Pt
       have UE:=hdd HO.out.2
       obtain⟨o5,adq,iD⟩:∃o,(if vc=m then some (⟨vb,vo,none⟩:Addr)else some ⟨vb,vo+m,none⟩)=some ⟨vb,o,none⟩/\(m<vc->o=vo+m):=by
        by_cases h1:vc=m
        ·exact⟨vo,ar h1,fun h=>af⟩
        ·exact⟨vo+m,ai h1,fun _=>rfl⟩
       have HD5:=hdd (BS (m:=m) OU.out.sl HML.out o5 iD)
       clear Tm Pt hr5 cz d0 d1 d1' df hcs HO Zx xU iD
       go_wp2_with fail
       have Zr:=OU.out.qQ HD5.out ⟨_,_,_,by rw [oF],hvb⟩ (fun x hx=>OU.out.ok x (vg hx))
       rw [hce]at Zr
       go_roundg (n-(q+1))
       case measure=>omega
       case rel=>exact⟨q+1,ns++[S],hlt,rfl,by go_num,hdd ⟨HO5.out.turn Zr.1,by have:=UE.out;rw [eO];simp only [List.length_singleton];omega⟩,hdd ⟨_,_,Zr.1.below Ib.out (by have:=Ib.out.size;have:=mq.out.2;omega) (fun i h=>by have h:i=rb:=h;omega),Zr.2,Ah.out.trans (by rw [Int.toNat_natCast,HSS.out])⟩⟩
      ·have Ah:=hdd (xE.out.trans (RT.out.2.2 hce (by first|omega|(dsimp only;omega))))
       have WI:(rc.b.length:Int)<(m:Int):=af
       have HW:=hdd (mU (e:=5) Uy.out)
       have XZ:=hdd (show rc.wrong 5=⟨rc.b,5⟩from ar hce)
       go_upto_region 18 with (first|fail|(go_at_call 84;(with_reducible refine HW.out.mono ?_);rintro e w5 ⟨rfl,hT5,Y8⟩))
       rw [XZ.out]at Y8
       obtain⟨f0,f1,ff⟩:=Y8.cells
       have OU:=hdd Y8
       clear Y8 d0 d1 d1' df hce CP WI
       go_wp2_with fail
       go_roundg (n-(q+1))
       case measure=>omega
       case rel=>exact⟨q+1,ns,hlt,rfl,by go_num,hdd ⟨Zx.out.turn hT5,by have:=HO.out.2;omega⟩,hdd ⟨_,_,hT5.below Ai.out (by have:=Ai.out.size;have:=mq.out.2;omega) (fun i h=>by have h:i=rb:=h;omega),OU.out,Ah.out.trans (nT (show (5:Int)≠0 by decide)).symm⟩⟩
     ·have Ah:=hdd (xE.out.trans (RT.out.2.1 hce))
      have HCE:=hdd hce
      have agA:(rc.e == 0)=false:=by simp [hce]
      clear hce
      go_wp2_with fail
      go_roundg (n-(q+1))
      case measure=>omega
      case rel=>exact⟨q+1,ns,hlt,rfl,by go_num,hdd ⟨Zx.out,by have:=HO.out.2;omega⟩,hdd ⟨_,_,Ai.out,Uy.out,Ah.out.trans (nT HCE.out).symm⟩⟩
    ·have he':(r.e == 0)=false:=by simp [he]
     clear hlt
     go_wp2_with fail
     go_meet
     exact⟨ns,v,r,hdd ⟨xE.out.trans (nT he),by have:=HO.out.2;omega⟩,hdd ⟨HO.out.1,xU.out,OT.out⟩⟩
   ·have hlt':¬(q:Int)<(n:Int):=af
    go_wp2_with fail
    go_meet
    exact⟨ns,v,r,hdd ⟨xE.out.trans (by rw [show n-q=0 by omega];rfl),by have:=HO.out.2;omega⟩,hdd ⟨HO.out.1,xU.out,OT.out⟩⟩
 case rest=>
  obtain⟨ns,v,r,Od,HA⟩:=hcut
  obtain⟨VU,VW,rfl⟩:=HA.out.1.isSlice
  have HF:=hdd (oP HA.out.2.2)
  have yi:=rV HA.out.2.2.ok
  obtain⟨p,hp⟩:=bC (r.num)
  have HP:=hdd hp
  rw [hp]at HF yi
  obtain⟨rf,fl⟩:=p
  have HFR:=hdd yi
  clear HC N9 hp yi HN
  go_upto_region 24 with (first|fail|(go_at_call 85;(with_reducible refine HF.out.mono ?_);rintro e w7 ⟨rfl,hT7,v7,hR7⟩))
  have HO7:=hdd (HA.out.1.turn hT7)
  have CJ:=hdd (hT7.below HA.out.2.1 (by have:=HA.out.2.1.size;have:=mq.out.2;omega) (fun i h=>by have h:i=rb:=h;omega):Below rb W2 w7)
  have HC7:=hdd (zO (most:=10000) hR7)
  have hcr:=sj (r:=rf) (most:=10000) aY hR7.ok
  obtain⟨p,hp⟩:=bC (rf.cnt 10000)
  have HBC:=hdd (show rz (bu bs)=p by unfold rz;rw [Od.out.1,HP.out];exact hp)
  rw [hp]at HC7 hcr
  obtain⟨rc,cm'⟩:=p
  obtain⟨cm,rfl⟩:∃m:Nat,cm'=m:=⟨cm'.toNat,by have:=hcr.1;simp only at this;omega⟩
  have hcm:cm<=10000:=by have:=hcr.2;simp only at this;omega
  clear hp hcr hR7 hT7 HF HA
  go_upto_block 2 with (first|fail|(go_at_call 83;(with_reducible refine HC7.out.mono ?_);rintro e w8 ⟨rfl,hT8,v8,Y7⟩))
  have Zw:=hdd (HO7.out.turn hT8)
  have Yy:=hdd (hT8.below CJ.out (by have:=CJ.out.size;have:=mq.out.2;omega) (fun i h=>by have h:i=rb:=h;omega):Below rb W2 w8)
  have HR8:=hdd Y7
  have DW:rb<w8.heap.size:=by have:=Yy.out.size;have:=mq.out.2;omega
  clear hT8 Y7 HC7
  go_cut [11,12,13,15]from 132 to 198 (fun tv _ _ _ wx=>∃(es:List aA) (v:Value) (r:Rd),Hid (fw (bu bs)=(r,es)/\es.length<=10000)/\Hid (au w8.heap.size wx tv es/\gU rb w8 wx/\fP wx rb v r))
  case first=>
   have ZI:=hdd (show fw (bu bs)=iT cm rc [] by unfold fw;rw [HBC.out];rfl)
   go_wp2_with fail
   go_loopg [11,12,13] cm (fun g tv kv iv wr=>∃(q:Nat) (es:List aA),q<=cm/\g=cm-q/\iv = .int .i64 q/\kv = .int .i64 (gT es)/\Hid (au w8.heap.size wr tv es/\es.length=q)/\Hid (∃(v:Value) (r:Rd),gU rb w8 wr/\fP wr rb v r/\fw (bu bs)=iT (cm-q) r es/\(r.e=0->0<=gT es/\gT es<1099511627776)))
   case atStart=>exact⟨0,[],jf _,rfl,rfl,rfl,hdd ⟨au.nil _ _,rfl⟩,hdd ⟨_,_,aw.refl _ _,HR8.out,ZI.out,fun _=>aY⟩⟩
   case round=>
    clear ZI
    obtain⟨q,es,hq,rfl,rfl,rfl,HO,HR⟩:=hrel
    obtain⟨v,r,htw,hr,yg,hkr⟩:=HR.out
    have xE:=hdd yg
    have OT:=hdd hr
    have Us:=hdd htw
    obtain⟨cc0,XT,ccf⟩:=hr.cells
    obtain⟨so,sc,rfl⟩:=HO.out.1.isSlice
    clear HR htw hr yg
    by_cases hlt:q<cm
    ·have hlt':(q:Int)<(cm:Int):=af
     by_cases he:r.e=0
     ·rw [he]at XT
      obtain⟨ie,hk1⟩:=hkr he
      obtain⟨p,hp0⟩:=bC (r.num)
      obtain⟨ra,nk⟩:=p
      obtain⟨p,hp1⟩:=bC (ra.num)
      obtain⟨YP,c⟩:=p
      obtain⟨p,hp2⟩:=bC (YP.rQ)
      obtain⟨Z2,s1⟩:=p
      obtain⟨p,Gw⟩:=bC (Z2.rQ)
      obtain⟨Z0,s2⟩:=p
      obtain⟨p,hp4⟩:=bC (Z0.rQ)
      obtain⟨ZZ,s3⟩:=p
      obtain⟨p,hp5⟩:=bC (ZZ.rQ)
      obtain⟨rx,s4⟩:=p
      have KW:=rV OT.out.ok
      rw [hp0]at KW
      have KW:0<=nk/\nk<72057594037927936:=KW
      have VH:=hdd (fun(W:World) (v:Value) (h:fP W rb v r)=>(by have:=oP h;rw [hp0]at this;exact this:Calls Tryz.prog 85 #[.pointer (some ⟨rb,0,none⟩)] W fun x w'=>x = .returned (.int .i64 nk)/\gU rb W w'/\∃v',fP w' rb v' ra))
      have VG:=hdd (fun(W:World) (v:Value) (h:fP W rb v ra)=>(by have:=oP h;rw [hp1]at this;exact this:Calls Tryz.prog 85 #[.pointer (some ⟨rb,0,none⟩)] W fun x w'=>x = .returned (.int .i64 c)/\gU rb W w'/\∃v',fP w' rb v' YP))
      have HC2:=hdd (fun(W:World) (v:Value) (h:fP W rb v YP)=>(by have:=rP h;rw [hp2]at this;exact this:Calls Tryz.prog 86 #[.pointer (some ⟨rb,0,none⟩)] W fun x w'=>x = .returned (.int .i64 s1)/\gU rb W w'/\∃v',fP w' rb v' Z2))
      have O5:=hdd (fun(W:World) (v:Value) (h:fP W rb v Z2)=>(by have:=rP h;rw [Gw]at this;exact this:Calls Tryz.prog 86 #[.pointer (some ⟨rb,0,none⟩)] W fun x w'=>x = .returned (.int .i64 s2)/\gU rb W w'/\∃v',fP w' rb v' Z0))
      have HC4:=hdd (fun(W:World) (v:Value) (h:fP W rb v Z0)=>(by have:=rP h;rw [hp4]at this;exact this:Calls Tryz.prog 86 #[.pointer (some ⟨rb,0,none⟩)] W fun x w'=>x = .returned (.int .i64 s3)/\gU rb W w'/\∃v',fP w' rb v' ZZ))
      have HC5:=hdd (fun(W:World) (v:Value) (h:fP W rb v ZZ)=>(by have:=rP h;rw [hp5]at this;exact this:Calls Tryz.prog 86 #[.pointer (some ⟨rb,0,none⟩)] W fun x w'=>x = .returned (.int .i64 s4)/\gU rb W w'/\∃v',fP w' rb v' rx))
      have VF:=hdd (show kR r (gT es)=(rx,⟨gT es+nk,⟨c,s1,s2,s3,(gT es+nk)%1048576,s4⟩⟩) by simp only [kR,hp0,hp1,hp2,Gw,hp4,hp5])
      have hgo:fw (bu bs)=iT (cm-(q+1)) (qC r es) (es++[(kR r (gT es)).2]):=xE.out.trans (by rw [show cm-q=(cm-(q+1))+1 by omega];exact Nn he)
      obtain⟨K,hK⟩:=bC (gT es)
      rw [hK]at VF hgo ie hk1
      rw [hK]
      obtain⟨P,hP⟩:=bC (K+nk)
      rw [hP]at VF
      have TN:0<=P/\P<73156568704811008:=af
      have hwP:IntKind.i64.wrap (K+nk)=P:=by rw [hP];exact IntWalk.i64_in _ af
      have htP:P.tmod 1048576=P%1048576:=xR TN.1
      have hwt:IntKind.i64.wrap (P%1048576)=P%1048576:=IntWalk.i64_in _ af
      have RT:=hdd hgo
      have HK:=hdd hK
      have Yc:=hdd hP
      clear hp0 hp1 hp2 Gw hp4 hp5 hgo he hP hkr KW
      go_upto_region 29 with (first|fail|(go_at_call 85;(with_reducible refine(VH.out _ _ OT.out).mono ?_);rintro e w9 ⟨rfl,TJ,v9,hR9⟩))
      obtain⟨Zl,Na⟩:=bR (w9.alloc (.cells #[.int .i64 P, .int .i64 0, .int .i64 0, .int .i64 0, .int .i64 0, .int .i64 0, .int .i64 0] 107))
      have PM:w8.heap.size<=w9.heap.size:=im Us.out.size TJ.size
      have HT9:=hdd (Us.out.trans TJ)
      have hO9:=HO.out.1.block fun g hg=>TJ.block g (HO.out.1.lt g hg).2 (fun e=>by have:=(HO.out.1.lt g hg).1;have e:g=rb:=e;omega)
      have uN:ah w9 Zl:=by rw [Na];exact ag
      obtain⟨xb,QY⟩:=bC (w9.heap.size)
      have kx:Zl.heap[xb]?=some (.cells #[.int .i64 P, .int .i64 0, .int .i64 0, .int .i64 0, .int .i64 0, .int .i64 0, .int .i64 0] 107):=by rw [Na,<-QY];exact aq _ _ rfl
      have Mq:Zl.heap.size=xb+1:=by rw [Na,<-QY];simp
      have X9:=hdd (hR9.later (uN.mono af))
      have acp:=hdd (hO9.below uN aI)
      have X3:=hdd (HT9.out.trans (aw.of uN aI):gU rb w8 Zl)
      have Qy:=hdd (aO kx Mq)
      have HO9:=hdd hO9
      have Fl:=hdd uN
      have HXB:=hdd QY
      have hxr:w8.heap.size<=xb:=af
      rw [<-Na,QY]
      clear Na TJ hR9 hO9 uN kx Mq cc0 XT ccf VH PM
      go_upto_region 30 with (first|fail|(go_at_call 85;(with_reducible refine(VG.out _ _ X9.out).mono ?_);rintro e VM ⟨rfl,Xt,v11,XD⟩)|(go_at_call 86;(first|((with_reducible refine(HC2.out _ _ XD).mono ?_);rintro e w12 ⟨rfl,Xr,v12,XC⟩)|((with_reducible refine(O5.out _ _ XC).mono ?_);rintro e w13 ⟨rfl,Xq,v13,XB⟩)|((with_reducible refine(HC4.out _ _ XB).mono ?_);rintro e w14 ⟨rfl,Xp,v14,XA⟩)|((with_reducible refine(HC5.out _ _ XA).mono ?_);rintro e w15 ⟨rfl,Xo,v15,Xz⟩;have hT:=((((Xt.trans Xr).trans Xq).trans Xp).trans Xo);have kx:=(hT.block xb (by have:=Qy.out.2;omega) (fun e=>by have e:xb=rb:=e;omega)).trans Qy.out.1;obtain⟨z0,z1,z2,z3,z4,z5,z6,zf⟩:=yq kx))))
      obtain⟨V,hV⟩:=bR ((((((w15.setCell ⟨xb,1,none⟩ (.int .i64 c)).setCell ⟨xb,2,none⟩ (.int .i64 s1)).setCell ⟨xb,3,none⟩ (.int .i64 s2)).setCell ⟨xb,4,none⟩ (.int .i64 s3)).setCell ⟨xb,5,none⟩ (.int .i64 (P%1048576))).setCell ⟨xb,6,none⟩ (.int .i64 s4))
      have kV:V.heap[xb]?=some (.cells #[.int .i64 P, .int .i64 c, .int .i64 s1, .int .i64 s2, .int .i64 s3, .int .i64 (P%1048576), .int .i64 s4] 107):=by rw [hV];exact Np kx
      have HTV:=hdd (show gU rb w8 V by rw [hV];exact Ji (X3.out.trans hT) hxr _ _ _ _ _ _)
      have Qc:Below xb w15 V:=by rw [hV];exact Ho aI _ _ _ _ _ _
      have wQ:=hdd (Xz.later (Qc.mono af))
      have hVg:∀g,g<xb->g≠rb->V.heap[g]?=w9.heap[g]?:=fun g h1 h2=>(Qc.block g h1).trans ((hT.block g (by have:=Qy.out.2;omega) h2).trans (Fl.out.block g (by have:=HXB.out;omega)))
      have hoV:Hid (∀W,gU rb V W->au w8.heap.size W (.slice so es.length sc) es):=hdd fun W hW=>HO9.out.block fun g hg=>by
       have h1:=HO9.out.lt g hg
       have h2:=HXB.out
       exact(hW.block g (by have:=HTV.out.size;have:=(eP.1 kV).1;omega) (fun e=>by have e:g=rb:=e;omega)).trans (hVg g af af)
      have hxV:=(eP.1 kV).1
      rw [<-hV]
      obtain⟨f0,f1,ff⟩:=wQ.out.cells
      obtain⟨y0,y1,y2,y3,y4,y5,y6,yf⟩:=yq kV
      have HHZ:=hdd hxV
      clear hV Qc hVg hT kx Xt Xr Xq Xp Xo XD XC XB XA Xz X9 acp X3 HT9 Qy
      obtain⟨BB,OH⟩:=bC (decide (rx.e=0/\jL es ⟨P,⟨c,s1,s2,s3,P%1048576,s4⟩⟩))
      go_cut [192]from 132 to 198 (fun cb wx=>cb = .bool BB/\V=wx)
      case first=>
       clear z0 z1 z2 z3 z4 z5 z6 zf
       by_cases Gt:rx.e=0
       ·have OP:=hdd Gt
        rw [Gt]at f1
        clear Gt
        by_cases hbig:1099511627776<=P
        ·go_wp2_with fail
         go_meet
         exact⟨congrArg Value.bool ((decide_eq_true (⟨OP.out, .inl hbig⟩:rx.e=0/\jL es ⟨P,⟨c,s1,s2,s3,P%1048576,s4⟩⟩)).symm.trans OH),rfl⟩
        ·by_cases hc0:c=0
         ·go_wp2_with fail
          go_meet
          exact⟨congrArg Value.bool ((decide_eq_true (⟨OP.out, .inr (.inl hc0)⟩:rx.e=0/\jL es ⟨P,⟨c,s1,s2,s3,P%1048576,s4⟩⟩)).symm.trans OH),rfl⟩
         ·have agF:(c == 0)=false:=by simp [hc0]
          by_cases hq0:q=0
          ·have hes:=hdd (xQ (by have:=HO.out.2;omega):es=[])
           have afT:¬(0:Int)<(q:Int):=af
           clear hq0
           go_wp2_with fail
           go_meet
           exact⟨congrArg Value.bool ((tO (fun hn=>by rcases hn.2 with h|h|h;exact absurd (show 1099511627776<=P from h) af;exact hc0 h;exact h.1 hes.out:¬(rx.e=0/\jL es ⟨P,⟨c,s1,s2,s3,P%1048576,s4⟩⟩))).symm.trans OH),rfl⟩
          ·obtain⟨j,hj⟩:∃j,q=j+1:=⟨q-1,af⟩
           have HJ:=hdd hj
           obtain⟨og,oo,hso,hlast⟩:=au.last (hoV.out V (aw.refl _ _)) (HO.out.2.trans hj) (by have:=HO.out.2;omega)
           rw [HK.out]at hlast
           subst hso
           have agl:=fun w'=>dC (ab:=og) (bp:=oo) (n:=es.length) (cap:=sc) (show (j:Int)=((j:Nat):Int) by rfl) (by have:=HO.out.2;omega) w'
           have n1:IntKind.i64.wrap ((q:Int)-1)=(j:Int):=by rw [show (q:Int)-1=(j:Int) by omega];exact IntWalk.i64_in _ af
           have n2:(q:Int)-1=(j:Int):=af
           have hqp:(0:Int)<(q:Int):=af
           have hes:es≠[]:=fun hn=>by have:=HO.out.2;rw [hn]at this;simp at this;omega
           clear hj hq0
           by_cases hle:P<=K
           ·go_wp2_with fail
            go_meet
            exact⟨congrArg Value.bool ((decide_eq_true (⟨OP.out, .inr (.inr ⟨hes,by rw [HK.out];exact hle⟩)⟩:rx.e=0/\jL es ⟨P,⟨c,s1,s2,s3,P%1048576,s4⟩⟩)).symm.trans OH),rfl⟩
           ·go_wp2_with fail
            go_meet
            exact⟨congrArg Value.bool ((tO (fun hn=>by rcases hn.2 with h|h|h;exact absurd (show 1099511627776<=P from h) af;exact hc0 h;exact absurd (show P<=K from HK.out▸h.2) af:¬(rx.e=0/\jL es ⟨P,⟨c,s1,s2,s3,P%1048576,s4⟩⟩))).symm.trans OH),rfl⟩
       ·have PO:(rx.e == 0)=false:=by simp [Gt]
        go_wp2_with fail
        go_meet
        exact⟨congrArg Value.bool ((tO (fun hn=>Gt hn.1:¬(rx.e=0/\jL es ⟨P,⟨c,s1,s2,s3,P%1048576,s4⟩⟩))).symm.trans OH),rfl⟩
      case rest=>
       obtain⟨rfl,hwc⟩:=hcut
       subst hwc
       by_cases hb:rx.e=0/\jL es ⟨P,⟨c,s1,s2,s3,P%1048576,s4⟩⟩
       ·have hBt:BB=true:=by rw [<-OH];exact decide_eq_true hb
        subst hBt
        have HB:=hdd hb
        have X0:=hdd (mU (e:=7) wQ.out)
        have XZ:=hdd (show rx.wrong 7=⟨rx.b,7⟩from ar hb.1)
        clear hb OH
        go_upto_region 32 with (first|fail|(go_at_call 84;(with_reducible refine X0.out.mono ?_);rintro e YG ⟨rfl,TM,Xy⟩))
        rw [XZ.out]at Xy
        have N1:=hdd (HTV.out.trans TM:gU rb w8 YG)
        have Uw:=hdd Xy
        have UD:=hdd (hoV.out YG TM)
        have VY:=(TM.block xb af (fun e=>by have e:xb=rb:=e;omega)).trans kV
        obtain⟨x0,x1,x2,x3,x4,x5,x6,xf⟩:=yq VY
        have hel:es.length<=1000000:=by have:=HO.out.2;omega
        have SD:w8.heap.size<=YG.heap.size:=N1.out.size
        have Oj:=hdd (RT.out.trans (by rw [VF.out]):fw (bu bs)=iT (cm-(q+1)) (qC r es) (es++[⟨P,⟨c,s1,s2,s3,P%1048576,s4⟩⟩]))
        have UM:=hdd (show qC r es=⟨rx.b,7⟩ by unfold qC;rw [HK.out,VF.out];exact ar HB.out)
        clear z0 z1 z2 z3 z4 z5 z6 zf y0 y1 y2 y3 y4 y5 y6 yf f0 f1 ff kV VY
        go_wp2_with ((at_builtin;refine fe rfl (.tmp 195) (.tmp 197) rfl w8.heap.size _ es rfl (UD.out.alloc _) ⟨_,0,none⟩ ⟨P,⟨c,s1,s2,s3,P%1048576,s4⟩⟩ rfl (fun j u h=>mP h) hel (by simp;omega) ?_;intro v17 w17 LR Tn))
        have M6:=Tn w8.heap.size YG ((aL _ _).alloc SD _) aI
        go_roundg (cm-(q+1))
        case measure=>omega
        case rel=>exact⟨q+1,es++[⟨P,⟨c,s1,s2,s3,P%1048576,s4⟩⟩],hlt,rfl,by go_num,by rw [jc],hdd ⟨LR,by have:=HO.out.2;rw [eO];simp only [List.length_singleton];omega⟩,hdd ⟨_,_,yD N1.out M6,Uw.out.later (M6.mono DW),Oj.out.trans (by rw [UM.out]),fun h7=>absurd h7 (by show ¬(7:Int)=0;decide)⟩⟩
       ·have hBt:BB=false:=by rw [<-OH];exact tO hb
        subst hBt
        have HB:=hdd hb
        clear hb OH
        go_upto_region 32 with (fail)
        have N1:=hdd (HTV.out:gU rb w8 V)
        have Uw:=hdd wQ.out
        have UD:=hdd (hoV.out V (aw.refl _ _))
        have VY:=kV
        obtain⟨x0,x1,x2,x3,x4,x5,x6,xf⟩:=yq VY
        have hel:es.length<=1000000:=by have:=HO.out.2;omega
        have SD:w8.heap.size<=V.heap.size:=N1.out.size
        have Oj:=hdd (RT.out.trans (by rw [VF.out]):fw (bu bs)=iT (cm-(q+1)) (qC r es) (es++[⟨P,⟨c,s1,s2,s3,P%1048576,s4⟩⟩]))
        have UM:=hdd (show qC r es=rx by unfold qC;rw [HK.out,VF.out];exact ai HB.out)
        clear z0 z1 z2 z3 z4 z5 z6 zf y0 y1 y2 y3 y4 y5 y6 yf f0 f1 ff kV VY
        go_wp2_with ((at_builtin;refine fe rfl (.tmp 195) (.tmp 197) rfl w8.heap.size _ es rfl (UD.out.alloc _) ⟨_,0,none⟩ ⟨P,⟨c,s1,s2,s3,P%1048576,s4⟩⟩ rfl (fun j u h=>mP h) hel (by simp;omega) ?_;intro v17 w17 LR Tn))
        have M6:=Tn w8.heap.size V ((aL _ _).alloc SD _) aI
        go_roundg (cm-(q+1))
        case measure=>omega
        case rel=>exact⟨q+1,es++[⟨P,⟨c,s1,s2,s3,P%1048576,s4⟩⟩],hlt,rfl,by go_num,by rw [jc],hdd ⟨LR,by have:=HO.out.2;rw [eO];simp only [List.length_singleton];omega⟩,hdd ⟨_,_,yD N1.out M6,Uw.out.later (M6.mono DW),Oj.out.trans (by rw [UM.out]),fun h7=>by rw [jc];exact⟨TN.1,Int.not_le.1 fun hn=>HB.out ⟨h7, .inl hn⟩⟩⟩⟩
     ·have he':(r.e == 0)=false:=by simp [he]
      clear hlt
      go_wp2_with fail
      go_meet
      exact⟨es,v,r,hdd ⟨xE.out.trans (pV he),by have:=HO.out.2;omega⟩,hdd ⟨HO.out.1,Us.out,OT.out⟩⟩
    ·have hlt':¬(q:Int)<(cm:Int):=af
     go_wp2_with fail
     go_meet
     exact⟨es,v,r,hdd ⟨xE.out.trans (by rw [show cm-q=0 by omega];rfl),by have:=HO.out.2;omega⟩,hdd ⟨HO.out.1,Us.out,OT.out⟩⟩
  case rest=>
   obtain⟨es,vx,rx,VE,HZ⟩:=hcut
   obtain⟨eso,esc,rfl⟩:=HZ.out.1.isSlice
   have Uv:=hdd HZ.out.2.2
   have HBR:=hdd (show zQ (bu bs)=if rx.e=0/\0<rx.b.length then⟨rx.b,4⟩else rx by unfold zQ;rw [VE.out.1])
   have AQ:=hdd (show Below rb W2 wc from HZ.out.2.1.below Yy.out af (fun i h=>by have h:i=rb:=h;omega))
   obtain⟨f0,f1,ff⟩:=Uv.out.cells
   obtain⟨vb,vo,vc,hvx,hvb⟩:=Uv.out.form
   subst hvx
   by_cases Gt:rx.e=0
   ·have OP:=hdd Gt
    rw [Gt]at f1
    clear Gt
    by_cases hlen:0<rx.b.length
    ·have hlen':(0:Int)<(rx.b.length:Int):=af
     have HD4:=hdd (show sy bs=4 by rw [HD.out,HBR.out,ar ⟨OP.out,hlen⟩])
     have HW4:=hdd (mU (e:=4) Uv.out)
     have XZ:=hdd (show rx.wrong 4=⟨rx.b,4⟩from ar OP.out)
     clear hlen
     go_upto_region 35 with (first|fail|(go_at_call 84;(with_reducible refine HW4.out.mono ?_);rintro e wz ⟨rfl,hTz,hRz⟩))
     rw [XZ.out]at hRz
     clear f0 f1 ff
     obtain⟨f0,f1,ff⟩:=hRz.cells
     have Ia:=hdd (hTz.below AQ.out (by have:=AQ.out.size;have:=mq.out.2;omega) (fun i h=>by have h:i=rb:=h;omega):Below rb W2 wz)
     have HWW:=hdd (Below.trans' (Below.mono mq.out.1 aI) (aL _ W2) mq.out.1.size)
     have xU:=hdd (show ah w wz from ⟨Ia.out.os.trans mq.out.1.os,Ia.out.tape.trans mq.out.1.tape,Ia.out.output.trans mq.out.1.output,im mq.out.1.size Ia.out.size,fun b hb=>(Ia.out.block b (by have:=Ag.out;omega)).trans (mq.out.1.block b hb)⟩)
     have kz:wz.heap[w.heap.size]?=some (.cells cN 30):=(Ia.out.block _ (by have:=Ag.out;omega)).trans Oi.out
     obtain⟨r0,r1,r2,r3,r4,r5,r6,r7,rf⟩:wz.cell? ⟨w.heap.size,0,none⟩=some (.slice none 0 0)/\wz.cell? ⟨w.heap.size,1,none⟩=some (.slice none 0 0)/\wz.cell? ⟨w.heap.size,2,none⟩=some (.int .i64 0)/\wz.cell? ⟨w.heap.size,3,none⟩=some (.slice none 0 0)/\wz.cell? ⟨w.heap.size,4,none⟩=some (.int .i64 0)/\wz.cell? ⟨w.heap.size,5,none⟩=some (.slice none 0 0)/\wz.cell? ⟨w.heap.size,6,none⟩=some (.int .i64 0)/\wz.cell? ⟨w.heap.size,7,none⟩=some (.int .i64 0)/\∀o,wz.frozen? ⟨w.heap.size,o,none⟩=false:=by simp [World.cell?,World.frozen?,kz,cN]
     have KW:rb≠w.heap.size:=by have:=Ag.out;omega
     have aaP:¬rb=w.heap.size:=KW
     have aaO:¬w.heap.size=rb:=fun e=>KW e.symm
     have Vz:=hdd kz
     clear kz
     go_upto_region 36 with (fail)
     refine cV [(1,1),(2,1),(3,1),(4,0),(0,1),(5,2),(6,3)] 6
      (fun W=>W.cell? ⟨rb,1,none⟩=some (.int .i64 4)) cv cv (by exact f1) ?_
     (simp only [bF,List.filterMap_cons,List.filterMap_nil,List.getElem?_cons_zero,List.getElem?_cons_succ,Option.map_some])
     (repeat (first|refine jA ?_|refine jz ?_|refine jy ?_);(try simp only [Act.put,List.setIfInBounds_toArray,List.set_cons_zero,List.set_cons_succ]))
     refine qR ?_ (fun K hK=>?_)
     (focus (first|exact bg rfl _|exact dP rfl rfl rfl rfl))
     go_simp
     obtain⟨VV,zA⟩:=bR (((((((((wz.setCell ⟨w.heap.size,0,none⟩ (.slice none 0 0)).setCell ⟨w.heap.size,1,none⟩ (.slice none 0 0)).setCell ⟨w.heap.size,2,none⟩ (.int .i64 0)).setCell ⟨w.heap.size,3,none⟩ (.slice none 0 0)).setCell ⟨w.heap.size,4,none⟩ (.int .i64 0)).setCell ⟨w.heap.size,5,none⟩ (.slice none 0 0)).setCell ⟨w.heap.size,6,none⟩ (.int .i64 0)).setCell ⟨w.heap.size,7,none⟩ (.int .i64 0)))
     have hvr:VV.heap[rb]?=wz.heap[rb]?:=by rw [zA];exact fk KW
     have hvb:ah w VV:=by rw [zA];exact cH xU.out aI _ _ _ _ _ _ _ _
     have hvs:VV.drew.cell? ⟨rb,1,none⟩=some (.int .i64 4):=(World.cell?_of_block (show VV.drew.heap[rb]?=wz.heap[rb]? from hvr)).trans f1
     rw [<-zA]
     have kV:=(by rw [zA];exact jd Vz.out:VV.heap[w.heap.size]?=some (.cells cN 30))
     obtain⟨q0,q1,q2,q3,q4,q5,q6,q7⟩:VV.drew.cell? ⟨w.heap.size,0,none⟩=some (.slice none 0 0)/\VV.drew.cell? ⟨w.heap.size,1,none⟩=some (.slice none 0 0)/\VV.drew.cell? ⟨w.heap.size,2,none⟩=some (.int .i64 0)/\VV.drew.cell? ⟨w.heap.size,3,none⟩=some (.slice none 0 0)/\VV.drew.cell? ⟨w.heap.size,4,none⟩=some (.int .i64 0)/\VV.drew.cell? ⟨w.heap.size,5,none⟩=some (.slice none 0 0)/\VV.drew.cell? ⟨w.heap.size,6,none⟩=some (.int .i64 0)/\VV.drew.cell? ⟨w.heap.size,7,none⟩=some (.int .i64 0):=(by obtain⟨q0,q1,q2,q3,q4,q5,q6,q7,-⟩:=gS (w:=VV.drew) kV;exact⟨q0,q1,q2,q3,q4,q5,q6,q7⟩)
     clear zA kV
     refine hK _ _ hvs ?_
     clear hK K
     (repeat (first|refine jA ?_|refine jz ?_|refine jy ?_);(try simp only [Act.put,List.setIfInBounds_toArray,List.set_cons_zero,List.set_cons_succ]))
     refine fX ?_ (fun K hK=>?_)
     (focus (first|exact bg rfl _|exact dP rfl rfl rfl rfl))
     go_simp
     refine hK _ _ ?_
     clear hK K
     refine gZ ?_
     go_wp2_with fail
     exact bodyPost_ret (v:= .tuple #[dH, .int .i64 4]) (by simp [results,Tryz.results40,go_sem, *]) rfl ⟨hvb.drew, .inl ⟨4,aY,rfl, .inl HD4.out⟩⟩
    ·have hlen':¬(0:Int)<(rx.b.length:Int):=af
     have Yw:=hdd (show sy bs=0 by rw [HD.out,HBR.out,ai (fun hn=>hlen hn.2)];exact OP.out)
     have Fi:=hdd (show (cU (bu bs)).2=ns by rw [Od.out.1])
     have O2:=hdd (show (cU (bu bs)).1.num.2=fl by rw [Od.out.1];show r.num.2=fl;rw [HP.out])
     have HE2:=hdd (show (fw (bu bs)).2=es by rw [VE.out.1])
     obtain⟨-,-,P5,hl2,-,-,-⟩:=Uf Om.out Yw.out
     rw [HE2.out]at P5 hl2
     have HOW:=hdd (Zw.out.turn HZ.out.2.1)
     have Wo:∀s∈ns,s.size<=10:=by
      rw [<-Fi.out]
      exact uv (mW (tL Om.out)) (fun s hs=>by cases hs)
     have KG:=hdd (show ah w wc from ⟨AQ.out.os.trans mq.out.1.os,AQ.out.tape.trans mq.out.1.tape,AQ.out.output.trans mq.out.1.output,im mq.out.1.size AQ.out.size,fun b hb=>(AQ.out.block b (by have:=Ag.out;omega)).trans (mq.out.1.block b hb)⟩)
     have ZB:=hdd (Mb (fl:=fl) (HOW.out.at (by have:=Od.out.2;omega)) (HZ.out.1.at af) ⟨hl2.2.1,fun e he=>⟨(hl2.1 e he).1,(hl2.1 e he).2.1⟩,P5⟩ (fun s hs=>im (Wo s hs) aY) (sI.out.below KG.out))
     clear P5 hl2 Wo hlen
     have hcz:w.heap.size<wc.heap.size:=by have:=KG.out.size;have:=AQ.out.size;have:=Ag.out;have:=mq.out.2;omega
     have HKC:=hdd (show wc.heap[w.heap.size]?=some (.cells cN 30)from (AQ.out.block _ (by have:=Ag.out;omega)).trans Oi.out)
     go_upto_region 37 with (fail)
     clear f0 f1 ff
     go_wp2_with (go_at_call 87;(with_reducible refine ZB.out.mono ?_);rintro e wz ⟨hbz,hez⟩;have kz:=(hbz.block _ hcz).trans HKC.out;obtain⟨r0,r1,r2,r3,r4,r5,r6,r7,rf⟩:=gS kz;have ZK:=hdd hbz;have Vz:=hdd kz;clear kz hbz;rcases hez with ⟨E,Ze,rfl,hbad⟩|⟨sn,sc,g0,l0,p0,g1,l1,p1,g2,l2,p2,T,Vd,rfl,hok,kY⟩)
     ·obtain⟨VV,zA⟩:=bR (((((((((wz.setCell ⟨w.heap.size,0,none⟩ (.slice none 0 0)).setCell ⟨w.heap.size,1,none⟩ (.slice none 0 0)).setCell ⟨w.heap.size,2,none⟩ (.int .i64 0)).setCell ⟨w.heap.size,3,none⟩ (.slice none 0 0)).setCell ⟨w.heap.size,4,none⟩ (.int .i64 0)).setCell ⟨w.heap.size,5,none⟩ (.slice none 0 0)).setCell ⟨w.heap.size,6,none⟩ (.int .i64 0)).setCell ⟨w.heap.size,7,none⟩ (.int .i64 0)))
      have hvb:ah w VV:=by rw [zA];exact cH (Below.trans' KG.out ZK.out KG.out.size) aI _ _ _ _ _ _ _ _
      have kV:=(by rw [zA];exact jd Vz.out:VV.heap[w.heap.size]?=some (.cells cN 30))
      obtain⟨q0,q1,q2,q3,q4,q5,q6,q7,-⟩:=gS kV
      rw [<-zA]
      clear zA kV
      exact bodyPost_ret (v:= .tuple #[dH, .int .i64 E]) (by simp [results,Tryz.results40,go_sem, *]) rfl ⟨hvb, .inl ⟨E,Ze,rfl, .inr ⟨Yw.out,by rw [Fi.out,O2.out,HE2.out];exact hbad⟩⟩⟩
     ·obtain⟨VV,zA⟩:=bR (((((((((wz.setCell ⟨w.heap.size,0,none⟩ (.slice VU ns.length VW)).setCell ⟨w.heap.size,1,none⟩ (.slice g0 l0 p0)).setCell ⟨w.heap.size,2,none⟩ (.int .i64 (T 0).root)).setCell ⟨w.heap.size,3,none⟩ (.slice g1 l1 p1)).setCell ⟨w.heap.size,4,none⟩ (.int .i64 (T 1).root)).setCell ⟨w.heap.size,5,none⟩ (.slice g2 l2 p2)).setCell ⟨w.heap.size,6,none⟩ (.int .i64 (T 2).root)).setCell ⟨w.heap.size,7,none⟩ (.int .i64 fl)))
      have hvb:ah w VV:=by rw [zA];exact cH (Below.trans' KG.out ZK.out KG.out.size) aI _ _ _ _ _ _ _ _
      have kV:=(by rw [zA];exact jd Vz.out:VV.heap[w.heap.size]?=some (.cells #[.slice VU ns.length VW, .slice g0 l0 p0, .int .i64 (T 0).root, .slice g1 l1 p1, .int .i64 (T 1).root, .slice g2 l2 p2, .int .i64 (T 2).root, .int .i64 fl] 30))
      have HKV:=hdd (show aQ (wc.heap.size+2) wz VV by rw [zA];exact rY af _ _ _ _ _ _ _ _)
      have vG:=hdd ((HOW.out.block fun g hg=>ZK.out.block g (HOW.out.lt g hg).2).block fun g hg=>by
       rw [zA]
       exact fk (by have:=(HOW.out.lt g hg).1;have:=Ag.out;omega):dw (rb+1) VV (.slice VU ns.length VW) ns)
      obtain⟨q0,q1,q2,q3,q4,q5,q6,q7,-⟩:=gS kV
      rw [<-zA]
      have KP:=hdd kY
      clear zA kV kY
      exact bodyPost_ret (v:= .tuple #[.agg (aJ VU ns.length VW g0 l0 p0 g1 l1 p1 g2 l2 p2 ⟨ns,T 0,T 1,T 2,fl⟩), .int .i64 0]) (by simp [results,Tryz.results40,aJ,go_sem, *]) rfl ⟨hvb, .inr ⟨Yw.out,VU,VW,g0,l0,p0,g1,l1,p1,g2,l2,p2,T,by rw [Fi.out,O2.out],by rw [Fi.out,O2.out,HE2.out];exact hok,fun w'' hw=>by
       rw [Fi.out,O2.out]
       exact KP.out w'' ((vG.out.keep (by have:=Ag.out;omega) hw).at (by have:=Od.out.2;omega)) (HKV.out.trans (hw.mono af))⟩⟩
   ·have PO:(rx.e == 0)=false:=by simp [Gt]
    have HDE:=hdd (show sy bs=rx.e by rw [HD.out,HBR.out,ai (fun hn=>Gt hn.1)])
    have OP:=hdd Gt
    clear Gt
    obtain⟨E,hE⟩:=bC (rx.e)
    rw [hE]at f1 PO HDE OP
    clear hE
    have Ia:=hdd (AQ.out:Below rb W2 wc)
    have HWW:=hdd (Below.trans' (Below.mono mq.out.1 aI) (aL _ W2) mq.out.1.size)
    have xU:=hdd (show ah w wc from ⟨Ia.out.os.trans mq.out.1.os,Ia.out.tape.trans mq.out.1.tape,Ia.out.output.trans mq.out.1.output,im mq.out.1.size Ia.out.size,fun b hb=>(Ia.out.block b (by have:=Ag.out;omega)).trans (mq.out.1.block b hb)⟩)
    have kz:wc.heap[w.heap.size]?=some (.cells cN 30):=(Ia.out.block _ (by have:=Ag.out;omega)).trans Oi.out
    obtain⟨r0,r1,r2,r3,r4,r5,r6,r7,rf⟩:wc.cell? ⟨w.heap.size,0,none⟩=some (.slice none 0 0)/\wc.cell? ⟨w.heap.size,1,none⟩=some (.slice none 0 0)/\wc.cell? ⟨w.heap.size,2,none⟩=some (.int .i64 0)/\wc.cell? ⟨w.heap.size,3,none⟩=some (.slice none 0 0)/\wc.cell? ⟨w.heap.size,4,none⟩=some (.int .i64 0)/\wc.cell? ⟨w.heap.size,5,none⟩=some (.slice none 0 0)/\wc.cell? ⟨w.heap.size,6,none⟩=some (.int .i64 0)/\wc.cell? ⟨w.heap.size,7,none⟩=some (.int .i64 0)/\∀o,wc.frozen? ⟨w.heap.size,o,none⟩=false:=by simp [World.cell?,World.frozen?,kz,cN]
    have KW:rb≠w.heap.size:=by have:=Ag.out;omega
    have aaP:¬rb=w.heap.size:=KW
    have aaO:¬w.heap.size=rb:=fun e=>KW e.symm
    have Vz:=hdd kz
    clear kz
    go_upto_region 36 with (fail)
    refine cV [(1,1),(2,1),(3,1),(4,0),(0,1),(5,2),(6,3)] 6
     (fun W=>W.cell? ⟨rb,1,none⟩=some (.int .i64 E)) cv cv (by exact f1) ?_
    (simp only [bF,List.filterMap_cons,List.filterMap_nil,List.getElem?_cons_zero,List.getElem?_cons_succ,Option.map_some])
    (repeat (first|refine jA ?_|refine jz ?_|refine jy ?_);(try simp only [Act.put,List.setIfInBounds_toArray,List.set_cons_zero,List.set_cons_succ]))
    refine qR ?_ (fun K hK=>?_)
    (focus (first|exact bg rfl _|exact dP rfl rfl rfl rfl))
    go_simp
    obtain⟨VV,zA⟩:=bR (((((((((wc.setCell ⟨w.heap.size,0,none⟩ (.slice none 0 0)).setCell ⟨w.heap.size,1,none⟩ (.slice none 0 0)).setCell ⟨w.heap.size,2,none⟩ (.int .i64 0)).setCell ⟨w.heap.size,3,none⟩ (.slice none 0 0)).setCell ⟨w.heap.size,4,none⟩ (.int .i64 0)).setCell ⟨w.heap.size,5,none⟩ (.slice none 0 0)).setCell ⟨w.heap.size,6,none⟩ (.int .i64 0)).setCell ⟨w.heap.size,7,none⟩ (.int .i64 0)))
    have hvr:VV.heap[rb]?=wc.heap[rb]?:=by rw [zA];exact fk KW
    have hvb:ah w VV:=by rw [zA];exact cH xU.out aI _ _ _ _ _ _ _ _
    have hvs:VV.drew.cell? ⟨rb,1,none⟩=some (.int .i64 E):=(World.cell?_of_block (show VV.drew.heap[rb]?=wc.heap[rb]? from hvr)).trans f1
    rw [<-zA]
    have kV:=(by rw [zA];exact jd Vz.out:VV.heap[w.heap.size]?=some (.cells cN 30))
    obtain⟨q0,q1,q2,q3,q4,q5,q6,q7⟩:VV.drew.cell? ⟨w.heap.size,0,none⟩=some (.slice none 0 0)/\VV.drew.cell? ⟨w.heap.size,1,none⟩=some (.slice none 0 0)/\VV.drew.cell? ⟨w.heap.size,2,none⟩=some (.int .i64 0)/\VV.drew.cell? ⟨w.heap.size,3,none⟩=some (.slice none 0 0)/\VV.drew.cell? ⟨w.heap.size,4,none⟩=some (.int .i64 0)/\VV.drew.cell? ⟨w.heap.size,5,none⟩=some (.slice none 0 0)/\VV.drew.cell? ⟨w.heap.size,6,none⟩=some (.int .i64 0)/\VV.drew.cell? ⟨w.heap.size,7,none⟩=some (.int .i64 0):=(by obtain⟨q0,q1,q2,q3,q4,q5,q6,q7,-⟩:=gS (w:=VV.drew) kV;exact⟨q0,q1,q2,q3,q4,q5,q6,q7⟩)
    clear zA kV
    refine hK _ _ hvs ?_
    clear hK K
    (repeat (first|refine jA ?_|refine jz ?_|refine jy ?_);(try simp only [Act.put,List.setIfInBounds_toArray,List.set_cons_zero,List.set_cons_succ]))
    refine fX ?_ (fun K hK=>?_)
    (focus (first|exact bg rfl _|exact dP rfl rfl rfl rfl))
    go_simp
    refine hK _ _ ?_
    clear hK K
    refine gZ ?_
    go_wp2_with fail
    exact bodyPost_ret (v:= .tuple #[dH, .int .i64 E]) (by simp [results,Tryz.results40,go_sem, *]) rfl ⟨hvb.drew, .inl ⟨E,OP.out,rfl, .inl HDE.out⟩⟩
end
end Go.Proofs.YtmljjfhgciaceaaGreatDoor
