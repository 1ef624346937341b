/- Texts of mine that come as one: DecK Dec. -/
import Derived.Test.YtmljjfhgciaceaaDoorHd
import Derived.Test.YtmljjfhgciaceaaDoorMD
import Derived.Test.YtmljjfhgciaceaaDoorDP
import Derived.Test.YtmljjfhgciaceaaDoorAK
import Derived.Test.YtmljjfhgciaceaaDoorBK
import Derived.Test.YtmljjfhgciaceaaDoorSO
import Derived.Deep.CutBlock
namespace Go.Proofs.YtmljjfhgciaceaaDoor
open Go.RowKit
section
variable {b0 b1 b2 b3:Int} {ns:List ByteArray} {es:List aC} {k B rb xb:Nat} {X:Nat->Prop} {r:Rd} {T:TypeId} {a0 a1 a2 a3 a4 a5 a6:Value} {w w' a:World}
theorem fw.str {b off n cap:Nat} {xs:List Int} (h:fw w (.slice (some ⟨b,off,none⟩) n cap) xs):(convert 54 9 (.slice (some ⟨b,off,none⟩) n cap)).run Tryd.prog w = .ok (.string (strOfNums xs)) w:=by
 obtain⟨ao',cap',hv,h1,h2,h3,h4,h5⟩:=h
 have e:n=xs.length:=by injection hv
 subst e
 refine run_convert_bytes_arg w 54 5 Tryd.underlying54 Tryd.underlying5 b off xs.length cap xs rfl (fun i hi=>?_) 9 Tryd.underlying9
 obtain⟨b',ZZ,hb,-,hc⟩:=h5 af
 have e2:some (⟨b,off,none⟩:Addr)=ao':=by injection hv
 rw [hb]at e2
 injection e2 with e2
 injection e2 with e3 e4
 subst e3 e4
 rw [l7 hc hi];simp [hi]
theorem F3 {M:List Int} (_h0:0<=b0/\b0<=255) (h1:0<=b1/\b1<=255) (h2:0<=b2/\b2<=255) (h3:0<=b3/\b3<=255) :
  ((gq M).2*65536+(gq M).1=b0*16777216+b1*65536+b2*256+b3)↔ju M=[b0,b1,b2,b3]:=by
 have hr:=mH M
 unfold ju
 simp only [List.cons.injEq,and_true]
 constructor
 ·intro h
  omega
 ·rintro⟨e0,e1,e2,e3⟩
  omega
theorem L5 (h0:0<=b0/\b0<=255) (h1:0<=b1/\b1<=255) (h2:0<=b2/\b2<=255) (h3:0<=b3/\b3<=255) :
  bits .or .i64 (b0*16777216) (b1*65536)=b0*16777216+b1*65536/\bits .or .i64 (b0*16777216+b1*65536) (b2*256)=b0*16777216+b1*65536+b2*256/\bits .or .i64 (b0*16777216+b1*65536+b2*256) b3=b0*16777216+b1*65536+b2*256+b3:=by
 refine⟨?_,?_,?_⟩
 ·rw [bits_join .i64 63 aW (fun n h0 h1=>IntWalk.i64_in _ af) 24 (b0*16777216) (b1*65536) af af af af af af]
 ·rw [bits_join .i64 63 aW (fun n h0 h1=>IntWalk.i64_in _ af) 16 (b0*16777216+b1*65536) (b2*256) af af af af af af]
 ·rw [bits_join .i64 63 aW (fun n h0 h1=>IntWalk.i64_in _ af) 8 (b0*16777216+b1*65536+b2*256) b3 af af af af af af]
theorem Kq {bs:List Int} (hk:bs.length=k+4):bs.drop (bs.length-4)=[bs[k],bs[k+1],bs[k+2],bs[k+3]]:=by
 have e:bs.length-4=k:=af
 rw [e,vd af,vd af,vd af,vd af,Be af]
theorem O9 {bs:List Int} {N2:ByteArray} (hb:aN bs) (h:strOfNums (bs.take 2)=N2):(bs.take 2=[119,110]->(N2.toList == [119,110])=true)/\(bs.take 2≠[119,110]->(N2.toList == [119,110])=false):=by
 subst h
 have hb2:aN (bs.take 2):=fun x hx=>hb x (wM hx)
 have e:(⟨#[119,110]⟩:ByteArray).toList=[119,110]:=ByteArray.toList_mk [119,110]
 rw [<-e,Lv]
 constructor
 ·intro h
  rw [h]
  exact decide_eq_true rfl
 ·intro h
  refine wJ fun h2=>h ?_
  have:=congrArg nums h2
  rw [Dz hb2]at this
  exact this
structure dm (B:Nat) (w:World) (v:Value) (ns:List ByteArray):Prop where
 row:w.ownsRow B 9 1 v ns.length (ns.flatMap jg)
theorem dm.nil (B:Nat) (w:World):dm B w (.slice none 0 0) []:=⟨World.ownsRow_nil _ _ _ _⟩
theorem dm.alloc {v:Value} (h:dm B w v ns) (o:Obj):dm B (w.alloc o) v ns:=⟨World.ownsRow.alloc h.row o⟩
theorem dm.block {v:Value} (h:dm B w v ns) (hb:∀g,v.ownBlock=some g->w'.heap[g]?=w.heap[g]?):dm B w' v ns:=by
 obtain⟨hl,⟨rfl,h0⟩|⟨g,cap,cur,rfl,hB,hg,h1,h2,h3,h4⟩⟩:=h.row
 ·exact⟨⟨hl, .inl ⟨rfl,h0⟩⟩⟩
 ·exact⟨⟨hl, .inr ⟨g,cap,cur,rfl,hB,(hb g rfl).trans hg,h1,h2,h3,h4⟩⟩⟩
theorem dm.lt {v:Value} (h:dm B w v ns):∀g,v.ownBlock=some g->B<=g/\g<w.heap.size:=World.ownsRow.lt h.row
theorem dm.turn {v:Value} (h:dm (rb+1) w v ns) (hT:gU rb w w'):dm (rb+1) w' v ns:=
 h.block fun g hg=>hT.block g (h.lt g hg).2 (fun e=>by have:=(h.lt g hg).1;have e:g=rb:=e;omega)
theorem dm.keep {M:Nat} {v:Value} (h:dm B w v ns) (hM:M<=B) (hk:aM M w w'):dm B w' v ns:=
 h.block fun g hg=>hk.block g (by have:=(h.lt g hg).1;omega) (h.lt g hg).2
theorem dm.at {v:Value} (h:dm B w v ns) (hs:ns.length<=1000000):jN w v ns:=dK.owned kF h.row rfl af
theorem dm.isSlice {v:Value} (h:dm B w v ns):∃ao cap,v = .slice ao ns.length cap:=by
 obtain⟨hl,⟨rfl,h0⟩|⟨g,cap,cur,rfl,_⟩⟩:=h.row
 ·exact⟨none,0,by rw [h0]⟩
 ·exact⟨_,_,rfl⟩
theorem au.turn {v:Value} (h:au (rb+1) w v es) (hT:gU rb w w'):au (rb+1) w' v es:=
 h.block fun g hg=>hT.block g (h.lt g hg).2 (fun e=>by have:=(h.lt g hg).1;have e:g=rb:=e;omega)
theorem Pb {S:ByteArray}:(w.alloc (.cells #[.string S] T)).cell? ⟨w.heap.size,0,none⟩=some (.string S):=by
 have hk:(w.alloc (.cells #[.string S] T)).heap[w.heap.size]?=some (.cells #[.string S] T):=by
  show (w.heap.push _)[w.heap.size]?=_;simp
 simp only [World.cell?,hk]
 rfl
theorem sV {ops:Array Oper} {rest:List Oper} {o:Oper} {a:Act} {Q:Exit->Act->World->Prop} (hgd:o.guard=none) (s x:Operand)
  (ho:o.op = .call { callee:= .builtin .append,args:=#[s,x],argTypes:=#[29,29] }) (B:Nat) (v:Value) (es:List ByteArray) (hs:a.eval s=v) (hown:dm B w v es)
  (ad:Addr) (e:ByteArray) (hx:a.eval x = .slice (some ad) 1 1) (hnews:w.cell? ad=some (.string e)) (hlen:es.length<=1000000) (hbase:B<=w.heap.size)
  (h:∀v' w',dm B w' v' (es++[e])->(∀C W,Below C W w->C<=B->Below C W w')->wpList Tryd.prog ops Q rest (a.put o.dst v') w'):wpList Tryd.prog ops Q (o::rest) a w:=by
 refine mX hgd s x ho B v es hs hown.row ad e hx hnews hlen hbase ?_
 intro v' w' hown' hg _
 refine h v' w' ⟨by rw [dO];exact hown'⟩ fun C W hb hC=>Below.grown hb hg af (fun j hj=>by have:=(hown.lt j hj).1;omega)
theorem JN (h:r.e=0):((r.cnt 10).1.e=0/\(r.cnt 10).2<=(r.cnt 10).1.b.length->dM (k+1) r ns=dM k ⟨(r.cnt 10).1.b.drop (r.cnt 10).2.toNat,0⟩ (ns++[strOfNums ((r.cnt 10).1.b.take (r.cnt 10).2.toNat)])) /\
  ((r.cnt 10).1.e≠0->dM (k+1) r ns=((r.cnt 10).1,ns))/\((r.cnt 10).1.e=0->¬(r.cnt 10).2<=(r.cnt 10).1.b.length->dM (k+1) r ns=(⟨(r.cnt 10).1.b,5⟩,ns)):=by
 have e0:¬r.e≠0:=fun hn=>hn h
 refine⟨fun h1=>?_,fun h1=>?_,fun h1 h2=>?_⟩
 ·conv=>lhs;unfold dM
  rw [ai e0,ar h1]
 ·conv=>lhs;unfold dM
  rw [ai e0,ai (fun hn=>h1 hn.1),ai h1]
 ·conv=>lhs;unfold dM
  rw [ai e0,ai (fun hn=>h2 hn.2),ar h1]
theorem au.last {so:Option Addr} {sc j:Nat} (h:au B w (.slice so es.length sc) es) (hj:es.length=j+1) (hs:es.length<=1000000) :
  ∃og off,so=some ⟨og,off,none⟩/\w.cell? ⟨og,off+j*7,none⟩=some (.int .i64 (gT es)):=by
 obtain⟨_,_,hv,-,-,-,-,h5⟩:=h.at hs
 injection hv with hv1 _ hv3
 subst hv1 hv3
 obtain⟨eb,eB,lA,si,nE⟩:=h5 af
 have hjl:j<es.length:=af
 obtain⟨o0,-⟩:=bU (aI _ _) si nE hjl
 refine⟨eb,eB,lA,o0.trans ?_⟩
 have:gT es=es[j].key:=by
  unfold gT
  rw [List.getLast?_eq_getElem?,hj]
  simp [hjl]
 rw [this]
theorem yG (h:w.heap[xb]?=some (.cells #[a0,a1,a2,a3,a4,a5,a6] T)) :
  w.cell? ⟨xb,0,none⟩=some a0/\w.cell? ⟨xb,1,none⟩=some a1/\w.cell? ⟨xb,2,none⟩=some a2/\w.cell? ⟨xb,3,none⟩=some a3/\w.cell? ⟨xb,4,none⟩=some a4/\w.cell? ⟨xb,5,none⟩=some a5/\w.cell? ⟨xb,6,none⟩=some a6/\∀o,w.frozen? ⟨xb,o,none⟩=false:=by
 simp [World.cell?,World.frozen?,h]
theorem yP {b c:World} (h:aa0 X a b) (hb:Below a.heap.size b c):aa0 X a c:=
 ⟨hb.os.trans h.os,hb.tape.trans h.tape,hb.output.trans h.output,ik h.size hb.size,fun i hi hx=>(hb.block i hi).trans (h.block i hi hx)⟩
theorem Nr {v1 v2 v3 v4 v5 v6:Value} {e:TypeId} {fr:Nat×Nat} (h:w.heap[B]?=some (.cells #[a0,a1,a2,a3,a4,a5,a6] e fr)) :
  ((((((w.setCell ⟨B,1,none⟩ v1).setCell ⟨B,2,none⟩ v2).setCell ⟨B,3,none⟩ v3).setCell ⟨B,4,none⟩ v4).setCell ⟨B,5,none⟩ v5).setCell ⟨B,6,none⟩ v6).heap[B]?=some (.cells #[a0,v1,v2,v3,v4,v5,v6] e fr):=by
 have h:=heap_setCell_same (off:=6) (v:=v6) (heap_setCell_same (off:=5) (v:=v5) (heap_setCell_same (off:=4) (v:=v4) (heap_setCell_same (off:=3) (v:=v3) (heap_setCell_same (off:=2) (v:=v2) (heap_setCell_same (off:=1) (v:=v1) h)))))
 simpa using h
theorem Js (h:aa0 X a w) (hx:a.heap.size<=xb) (v1 v2 v3 v4 v5 v6:Value) :
  aa0 X a ((((((w.setCell ⟨xb,1,none⟩ v1).setCell ⟨xb,2,none⟩ v2).setCell ⟨xb,3,none⟩ v3).setCell ⟨xb,4,none⟩ v4).setCell ⟨xb,5,none⟩ v5).setCell ⟨xb,6,none⟩ v6):=
 aa0.setCell (aa0.setCell (aa0.setCell (aa0.setCell (aa0.setCell (aa0.setCell h (.inr hx) _) (.inr hx) _) (.inr hx) _) (.inr hx) _) (.inr hx) _) (.inr hx) _
theorem H0 (hx:B<=xb) (v1 v2 v3 v4 v5 v6:Value) :
  Below B w ((((((w.setCell ⟨xb,1,none⟩ v1).setCell ⟨xb,2,none⟩ v2).setCell ⟨xb,3,none⟩ v3).setCell ⟨xb,4,none⟩ v4).setCell ⟨xb,5,none⟩ v5).setCell ⟨xb,6,none⟩ v6):=
 ((((((aI B w).setCell hx _).setCell hx _).setCell hx _).setCell hx _).setCell hx _).setCell hx _
theorem FP (xs:List Int):(strOfNums xs).size=xs.length:=by simp [strOfNums,ByteArray.size]
theorem ur:∀{k:Nat} {r:Rd} {ns:List ByteArray},aN r.b->(∀s∈ns,s.size<=10)->∀s∈(dM k r ns).2,s.size<=10
 |0,_,_,_,h=>h
 |k+1,r,ns,hb,h=>by
  unfold dM
  split
  ·exact h
  ·split
   ·have hc:=sw (most:=10) (r:=r) aW hb
    refine ur (fun x hx=>mW hb x (uZ hx)) fun s hs=>?_
    rcases kJ.1 hs with hs|hs
    ·exact h s hs
    ·rw [mR.1 hs,FP,eP]
     omega
   ·exact h
theorem fh {a7:Value} (h:w.heap[xb]?=some (.cells #[a0,a1,a2,a3,a4,a5,a6,a7] T)) :
  w.cell? ⟨xb,0,none⟩=some a0/\w.cell? ⟨xb,1,none⟩=some a1/\w.cell? ⟨xb,2,none⟩=some a2/\w.cell? ⟨xb,3,none⟩=some a3/\w.cell? ⟨xb,4,none⟩=some a4/\w.cell? ⟨xb,5,none⟩=some a5/\w.cell? ⟨xb,6,none⟩=some a6/\w.cell? ⟨xb,7,none⟩=some a7/\∀o,w.frozen? ⟨xb,o,none⟩=false:=by
 simp [World.cell?,World.frozen?,h]
theorem Nq {l:List aC} (h:r.e=0):iR (k+1) r l=iR k (qA r l) (l++[(kT r (gT l)).2]):=by
 conv=>lhs;unfold iR
 rw [ai (fun hn=>hn h)]
end
section
set_option maxRecDepth 100000
set_option maxHeartbeats 8000000
def QF (bs:List Int) (w:World) (x:Ending) (w':World):Prop:=
 ah w w'/\((∃E,E≠0/\x = .returned (.tuple #[dC, .int .i64 E])/\(sG bs=E\/(sG bs=0/\qi (cP (bu bs)).2 (cP (bu bs)).1.num.2 (fg (bu bs)).2))) \/
  (sG bs=0/\∃sn sc g0 l0 p0 g1 l1 p1 g2 l2 p2,∃T:Nat->Tr,x = .returned (.tuple #[.agg (aG sn (cP (bu bs)).2.length sc g0 l0 p0 g1 l1 p1 g2 l2 p2 ⟨(cP (bu bs)).2,T 0,T 1,T 2,(cP (bu bs)).1.num.2⟩), .int .i64 0])/\wS (cP (bu bs)).2 (cP (bu bs)).1.num.2 (fg (bu bs)).2 T /\
   ∀w'',aM w.heap.size w' w''->bO w'' (.agg (aG sn (cP (bu bs)).2.length sc g0 l0 p0 g1 l1 p1 g2 l2 p2 ⟨(cP (bu bs)).2,T 0,T 1,T 2,(cP (bu bs)).1.num.2⟩)) ⟨(cP (bu bs)).2,T 0,T 1,T 2,(cP (bu bs)).1.num.2⟩))
theorem Hq {v:Value} {bs:List Int} {w:World} (h:fw w v bs) (hb:aN bs) (hsz:bL w):Calls Tryd.prog 86 #[v] w (QF bs w):=by
 have OL:=hdd h
 have Oi:=hdd hb
 have nN:=hdd hsz
 obtain⟨ao,cap,rfl,a1,a2,a3,a4,a5⟩:=h
 obtain⟨W0,hW0⟩:=bP (w.alloc (.cells cL 35))
 have Io:=hdd (show ah w W0 by rw [hW0];exact ag)
 have hz0:W0.heap.size=w.heap.size+1:=by rw [hW0];simp
 have k0:W0.heap[w.heap.size]?=some (.cells cL 35):=by rw [hW0];exact aj _ _ rfl
 have OW:=hdd (aL k0 hz0)
 obtain⟨r0,r1,r2,r3,r4,r5,r6,r7,rf⟩:W0.cell? ⟨w.heap.size,0,none⟩=some (.slice none 0 0)/\W0.cell? ⟨w.heap.size,1,none⟩=some (.slice none 0 0)/\W0.cell? ⟨w.heap.size,2,none⟩=some (.int .i64 0)/\W0.cell? ⟨w.heap.size,3,none⟩=some (.slice none 0 0)/\W0.cell? ⟨w.heap.size,4,none⟩=some (.int .i64 0)/\W0.cell? ⟨w.heap.size,5,none⟩=some (.slice none 0 0)/\W0.cell? ⟨w.heap.size,6,none⟩=some (.int .i64 0)/\W0.cell? ⟨w.heap.size,7,none⟩=some (.int .i64 0)/\∀o,W0.frozen? ⟨w.heap.size,o,none⟩=false:=by simp [World.cell?,World.frozen?,k0,cL]
 clear hb hsz hz0 k0
 by_cases h1:200000<bs.length
 ·have h1':(200000:Int)<(bs.length:Int):=af
  have HD:=hdd (show sG bs=1 from ar h1)
  go_enter Tryd.func86,Tryd.ntmps86
  go_upto_region 1 with (fail)
  rw [<-hW0]
  clear hW0 h1
  go_wp2_with fail
  exact bodyPost_ret (v:= .tuple #[dC, .int .i64 1]) (by simp [results,Tryd.results86,go_sem, *]) rfl ⟨cC Io.out aH _ _ _ _ _ _ _ _, .inl ⟨1,aW,rfl, .inl HD.out⟩⟩
 have hd1:decide ((200000:Int)<(bs.length:Int))=false:=wJ af
 by_cases h2:bs.length<6
 ·have h2':(bs.length:Int)<6:=af
  have HD:=hdd (show sG bs=5 from (ai h1).trans (ar h2))
  go_enter Tryd.func86,Tryd.ntmps86
  go_upto_region 1 with (fail)
  rw [<-hW0]
  clear hW0 h1 h2
  go_wp2_with fail
  exact bodyPost_ret (v:= .tuple #[dC, .int .i64 5]) (by simp [results,Tryd.results86,go_sem, *]) rfl ⟨cC Io.out aH _ _ _ _ _ _ _ _, .inl ⟨5,aW,rfl, .inl HD.out⟩⟩
 have hd2:decide ((bs.length:Int)<6)=false:=wJ af
 obtain⟨ab,off,rfl,sO,ac⟩:=a5 af
 have hw0:ah w W0:=Io.out
 have Ss:=(yu (m:=2) OL.out af).below hw0 aH
 have hcv:=fw.str Ss
 obtain⟨N2,La⟩:=bt (strOfNums (bs.take 2))
 have Qe:=O9 Oi.out La
 rw [La]at hcv
 have hc2:2<=cap:=af
 by_cases h3:bs.take 2≠[119,110]
 ·have HD:=hdd (show sG bs=4 from (ai h1).trans ((ai h2).trans (ar h3)))
  have h3':(N2.toList == [119,110])=false:=Qe.2 h3
  go_enter Tryd.func86,Tryd.ntmps86
  go_upto_region 1 with (fail)
  rw [<-hW0]
  clear hW0 La Qe h3 h1 h2 Ss
  go_wp2_with fail
  exact bodyPost_ret (v:= .tuple #[dC, .int .i64 4]) (by simp [results,Tryd.results86,go_sem, *]) rfl ⟨cC Io.out aH _ _ _ _ _ _ _ _, .inl ⟨4,aW,rfl, .inl HD.out⟩⟩
 have h3':(N2.toList == [119,110])=true:=Qe.1 (Decidable.not_not.1 h3)
 obtain⟨k,hk⟩:∃k,bs.length=k+4:=⟨bs.length-4,af⟩
 have hsm:=((yu (m:=k) OL.out af).below hw0 aH)
 have KS:=hdd hsm
 have hcell:∀i (h:i<bs.length),W0.cell? ⟨ab,off+i,none⟩=some (.int .u8 bs[i]):=fun i h=>(hw0.cell (p:=⟨ab,off+i,none⟩) sO).trans (l7 ac h)
 have c0:=hcell k af
 have c1:=hcell (k+1) af
 have c2:=hcell (k+2) af
 have c3:=hcell (k+3) af
 have g0:=Oi.out _ (fP (show k<bs.length by omega))
 have g1:=Oi.out _ (fP (show k+1<bs.length by omega))
 have g2:=Oi.out _ (fP (show k+2<bs.length by omega))
 have g3:=Oi.out _ (fP (show k+3<bs.length by omega))
 have hdrop:bs.drop (bs.length-4)=[bs[k],bs[k+1],bs[k+2],bs[k+3]]:=Kq hk
 obtain⟨b0,hb0⟩:=bt (bs[k])
 obtain⟨b1,hb1⟩:=bt (bs[k+1])
 obtain⟨b2,hb2⟩:=bt (bs[k+2])
 obtain⟨b3,hb3⟩:=bt (bs[k+3])
 rw [hb0]at c0 g0 hdrop
 rw [hb1]at c1 g1 hdrop
 rw [hb2]at c2 g2 hdrop
 rw [hb3]at c3 g3 hdrop
 have HOR:=hdd (L5 g0 g1 g2 g3)
 have OV:=hdd hk
 have N3:=hdd (F3 (M:=bs.take (bs.length-4)) g0 g1 g2 g3)
 have HDR:=hdd hdrop
 have Uj:=hdd (IA (w:=W0.drew) (dK.below KS.out (aI _ _).drew aH) (fun x hx=>Oi.out x (wM hx)))
 obtain⟨X,hX⟩:=bt ((gq (bs.take k)).2*65536+(gq (bs.take k)).1)
 rw [hX]at Uj
 have HX:=hdd hX
 have S6:=fun w'=>mV (ab:=ab) (aV:=off) (n:=bs.length) (cap:=cap) (show (k:Int)=((k:Nat):Int) by rfl) af w'
 have Wy:=fun w'=>mV (ab:=ab) (aV:=off) (n:=bs.length) (cap:=cap) (show (k:Int)+1=((k+1:Nat):Int) by omega) af w'
 have MQ:=fun w'=>mV (ab:=ab) (aV:=off) (n:=bs.length) (cap:=cap) (show (k:Int)+2=((k+2:Nat):Int) by omega) af w'
 have aaU:=fun w'=>mV (ab:=ab) (aV:=off) (n:=bs.length) (cap:=cap) (show (k:Int)+3=((k+3:Nat):Int) by omega) af w'
 have n4:(bs.length:Int)-4=(k:Int):=af
 have hkc:k<=cap:=af
 have hkl:k<=199996:=af
 have HH1:=hdd h1
 have HH2:=hdd h2
 have HH3:=hdd h3
 clear hb0 hb1 hb2 hb3 hdrop hcell hsm Ss hk h3 h2 h1 n4
 go_enter Tryd.func86,Tryd.ntmps86
 go_upto_region 1 with (fail)
 rw [<-hW0]
 clear hW0 La Qe
 go_upto_region 8 with (fail)
 have n4:(bs.length:Int)-4=(k:Int):=by have:=OV.out;omega
 rw [n4]
 obtain⟨o1,o2,o3⟩:=HOR.out
 clear n4
 obtain⟨wb0,wb1,wb2,wb3⟩:IntKind.i64.wrap b0=b0/\IntKind.i64.wrap b1=b1/\IntKind.i64.wrap b2=b2/\IntKind.i64.wrap b3=b3:=⟨IntWalk.i64_in _ af,IntWalk.i64_in _ af,IntWalk.i64_in _ af,IntWalk.i64_in _ af⟩
 obtain⟨ws0,ws1,ws2⟩:IntKind.i64.wrap (b0*16777216)=b0*16777216/\IntKind.i64.wrap (b1*65536)=b1*65536/\IntKind.i64.wrap (b2*256)=b2*256:=⟨IntWalk.i64_in _ af,IntWalk.i64_in _ af,IntWalk.i64_in _ af⟩
 obtain⟨wk1,wk2,wk3⟩:IntKind.i64.wrap ((k:Int)+1)=(k:Int)+1/\IntKind.i64.wrap ((k:Int)+2)=(k:Int)+2/\IntKind.i64.wrap ((k:Int)+3)=(k:Int)+3:=⟨IntWalk.i64_in _ af,IntWalk.i64_in _ af,IntWalk.i64_in _ af⟩
 refine eD [(0,1),(1,1),(2,1),(4,1),(5,1),(6,1),(7,0),(8,1),(9,1),(10,1),(11,1),(12,1),(13,1),(14,0),(15,1),(16,1),(17,1),(18,1),(19,1),(20,1),(21,1),(22,0),(23,1),(24,1),(25,1),(26,1),(27,1),(28,1),(29,1),(30,0),(31,1),(32,1),(3,2),(33,3)] 33
  (fun W=>W.cell? ⟨ab,off+k,none⟩=some (.int .u8 b0)/\W.cell? ⟨ab,off+(k+1),none⟩=some (.int .u8 b1)/\W.cell? ⟨ab,off+(k+2),none⟩=some (.int .u8 b2)/\W.cell? ⟨ab,off+(k+3),none⟩=some (.int .u8 b3)) bT bT ⟨c0,c1,c2,c3⟩ ?_
 (simp only [bG,List.filterMap_cons,List.filterMap_nil,List.getElem?_cons_zero,List.getElem?_cons_succ,Option.map_some])
 (repeat (first|refine lO ?_|refine lN ?_|refine lM ?_);(try simp only [Act.put,List.setIfInBounds_toArray,List.set_cons_zero,List.set_cons_succ]))
 refine qP ?_ (fun K hK=>?_)
 (focus (first|exact br rfl _|exact eZ rfl rfl rfl rfl))
 go_simp
 (with_reducible refine Uj.out.mono ?_);rintro x wx ⟨rfl,rfl⟩
 go_simp
 refine hK _ _ ⟨c0,c1,c2,c3⟩ ?_
 clear hK K
 (repeat (first|refine lO ?_|refine lN ?_|refine lM ?_);(try simp only [Act.put,List.setIfInBounds_toArray,List.set_cons_zero,List.set_cons_succ]))
 refine iK ?_ (fun K hK=>?_)
 (focus (first|exact br rfl _|exact eZ rfl rfl rfl rfl))
 go_simp
 refine hK _ _ ?_
 clear hK K
 refine jE ?_
 obtain⟨V0,WX⟩:=bP (W0.drew)
 have hv0:ah w V0:=by rw [WX];exact Io.out.drew
 have HV0:=hdd hv0
 have OW:Hid (V0.heap[w.heap.size]?=some (.cells cL 35)/\V0.heap.size=w.heap.size+1):=by rw [WX];exact OW
 have XM:=hdd (dK.below OL.out hv0 aH)
 obtain⟨r0,r1,r2,r3,r4,r5,r6,r7,rf⟩:V0.cell? ⟨w.heap.size,0,none⟩=some (.slice none 0 0)/\V0.cell? ⟨w.heap.size,1,none⟩=some (.slice none 0 0)/\V0.cell? ⟨w.heap.size,2,none⟩=some (.int .i64 0)/\V0.cell? ⟨w.heap.size,3,none⟩=some (.slice none 0 0)/\V0.cell? ⟨w.heap.size,4,none⟩=some (.int .i64 0)/\V0.cell? ⟨w.heap.size,5,none⟩=some (.slice none 0 0)/\V0.cell? ⟨w.heap.size,6,none⟩=some (.int .i64 0)/\V0.cell? ⟨w.heap.size,7,none⟩=some (.int .i64 0)/\∀o,V0.frozen? ⟨w.heap.size,o,none⟩=false:=by rw [WX];exact⟨r0,r1,r2,r3,r4,r5,r6,r7,rf⟩
 rw [<-WX]
 have hk4:bs.length-4=k:=by have:=OV.out;omega
 have N3:=hdd (show (X=b0*16777216+b1*65536+b2*256+b3)↔ju (bs.take (bs.length-4))=bs.drop (bs.length-4) by
  rw [HDR.out,<-N3.out,hk4,HX.out])
 clear WX hv0 Uj HDR HX HOR o1 o2 o3 wb0 wb1 wb2 wb3 ws0 ws1 ws2 wk1 wk2 wk3 S6 Wy MQ aaU c0 c1 c2 c3 Io hw0 hcv h3' hd1 hd2 KS
 by_cases h4:X=b0*16777216+b1*65536+b2*256+b3
 case neg=>
  have HD:=hdd (show sG bs=9 from (ai HH1.out).trans ((ai HH2.out).trans ((ai HH3.out).trans (ar (fun e=>h4 (N3.out.2 e))))))
  have h4':(X == b0*16777216+b1*65536+b2*256+b3)=false:=by simp [h4]
  clear h4 N3
  go_wp2_with fail
  exact bodyPost_ret (v:= .tuple #[dC, .int .i64 9]) (by simp [results,Tryd.results86,go_sem, *]) rfl ⟨cC HV0.out aH _ _ _ _ _ _ _ _, .inl ⟨9,aW,rfl, .inl HD.out⟩⟩
 have HD:=hdd (show sG bs=(Aj (bu bs)).e from (ai HH1.out).trans ((ai HH2.out).trans ((ai HH3.out).trans (ai (fun hn=>hn (N3.out.1 h4))))))
 have h4':(X == b0*16777216+b1*65536+b2*256+b3)=true:=by simp [h4]
 clear N3 h4 g0 g1 g2 g3
 have hk2:2<=k:=by have:=HH2.out;have:=OV.out;omega
 have aaN:(2:Int)<=(k:Int):=af
 obtain⟨o,dZ,ho⟩:∃o,(if cap=2 then some (⟨ab,off,none⟩:Addr)else some ⟨ab,off+2,none⟩)=some ⟨ab,o,none⟩/\(2<cap->o=off+2):=by
  by_cases h1:cap=2
  ·exact⟨off,ar h1,fun h=>af⟩
  ·exact⟨off+2,ai h1,fun _=>rfl⟩
 have FJ:=hdd (show fw V0 (.slice (some ⟨ab,o,none⟩) (k-2) (cap-2)) (bu bs) by
  have e1:(bs.take k).length=k:=by rw [eP];have:=OV.out;omega
  have h1:=yu (m:=k) XM.out (by have:=OV.out;omega)
  rw [show fw V0 (.slice (some ⟨ab,off,none⟩) k cap) (bs.take k)=fw V0 (.slice (some ⟨ab,off,none⟩) (bs.take k).length cap) (bs.take k) by rw [e1]]at h1
  have h2:=Cm (m:=2) h1 af o ho
  rw [e1]at h2
  unfold bu
  rw [hk4]
  exact h2)
 clear OL XM a1 a2 a3 a4 a5 ac
 go_upto_region 12 with (fail)
 obtain⟨rb,IX⟩:=bt (V0.heap.size)
 have AB:=hdd (show rb=w.heap.size+1 by rw [<-IX];exact OW.out.2)
 obtain⟨W2,hW2⟩:=bP (V0.alloc (.cells #[.slice (some ⟨ab,o,none⟩) (k-2) (cap-2), .int .i64 0] 165))
 have hb2:ah V0 W2:=by rw [hW2];exact ag
 have hbk:W2.heap[rb]?=some (.cells #[.slice (some ⟨ab,o,none⟩) (k-2) (cap-2), .int .i64 0] 165):=by rw [hW2,<-IX];exact aj _ _ rfl
 have hz2:W2.heap.size=rb+1:=by rw [hW2,<-IX];simp
 have N7:=hdd (show fM W2 rb (.slice (some ⟨ab,o,none⟩) (k-2) (cap-2)) ⟨bu bs,0⟩ from
  ⟨hbk,dK.below FJ.out hb2 aH,tN Oi.out,⟨_,_,_,by rw [show (bu bs).length=k-2 by unfold bu;rw [oI,eP];have:=OV.out;omega],by have:=AB.out;omega⟩⟩)
 have gI:=hdd (aL (Below.trans' HV0.out hb2 (by have:=OW.out.2;omega)) hz2)
 have Og:Hid (W2.heap[w.heap.size]?=some (.cells cL 35)):=hdd ((hb2.block _ (by have:=OW.out.2;omega)).trans OW.out.1)
 rw [<-hW2,IX]
 have HC:=hdd (Ag (most:=16) N7.out)
 have hcr:=sw (r:=⟨bu bs,0⟩) (most:=16) aW N7.out.ok
 obtain⟨q,hq⟩:=bt ((Rd.mk (bu bs) 0).cnt 16)
 rw [hq]at HC hcr
 obtain⟨ZU,cn⟩:=q
 obtain⟨n,rfl⟩:∃n:Nat,cn=n:=⟨cn.toNat,by have:=hcr.1;simp only at this;omega⟩
 have Wp:n<=16:=by have:=hcr.2;simp only at this;omega
 have HN:=hdd (show cP (bu bs)=dM n ZU [] by unfold cP;rw [hq];rfl)
 clear hW2 hb2 hbk hz2 hq hcr IX r0 r1 r2 r3 r4 r5 r6 r7 rf dZ ho aaN FJ
 go_upto_block 0 with (first|fail|(go_at_call 108;(with_reducible refine HC.out.mono ?_);rintro e w3 ⟨rfl,hT3,v3,hR3⟩))
 go_cut [6,7,9]from 74 to 127 (fun nv _ _ wx=>∃(ns:List ByteArray) (v:Value) (r:Rd),Hid (cP (bu bs)=(r,ns)/\ns.length<=16)/\Hid (dm (rb+1) wx nv ns/\Below rb W2 wx/\fM wx rb v r))
 case first=>
  have HI:=hdd (show Below rb W2 w3 from hT3.below (aI _ _) (by have:=gI.out.2;omega) (fun i h=>by have h:i=rb:=h;omega))
  have Fp:=hdd hR3
  have HNA:=hdd (dm.nil (rb+1) w3)
  have Zx:=hdd hT3.size
  clear hR3 hT3 HC N7
  go_wp2_with fail
  go_loopg [6,7] n (fun g nv iv wr=>∃(q:Nat) (ns:List ByteArray),q<=n/\g=n-q/\iv = .int .i64 q/\Hid (dm (rb+1) wr nv ns/\ns.length<=q)/\Hid (∃(v:Value) (r:Rd),Below rb W2 wr/\fM wr rb v r/\cP (bu bs)=dM (n-q) r ns))
  case atStart=>exact⟨0,[],jd _,rfl,rfl,hdd ⟨HNA.out,km _⟩,hdd ⟨_,_,HI.out,Fp.out,HN.out⟩⟩
  case round=>
   clear HI Fp HNA
   obtain⟨q,ns,hq,rfl,rfl,HO,HR⟩:=hrel
   obtain⟨v,r,cZ,hr,yB⟩:=HR.out
   have xR:=hdd yB
   have OO:=hdd hr
   have vp:=hdd cZ
   obtain⟨cc0,XE,ccf⟩:=hr.cells
   obtain⟨so,sc,rfl⟩:=HO.out.1.isSlice
   clear HR cZ hr yB
   by_cases hlt:q<n
   ·have hlt':(q:Int)<(n:Int):=af
    by_cases he:r.e=0
    ·rw [he]at XE
     have HCT:=hdd (Ag (most:=10) OO.out)
     have hgo:=JN (k:=n-(q+1)) (ns:=ns) he
     have PQ:=sw (r:=r) (most:=10) aW OO.out.ok
     rw [show n-(q+1)+1=n-q by omega]at hgo
     obtain⟨p,hp⟩:=bt (r.cnt 10)
     rw [hp]at HCT hgo PQ
     obtain⟨rc,m'⟩:=p
     obtain⟨m,rfl⟩:∃m:Nat,m'=m:=⟨m'.toNat,by have:=PQ.1;simp only at this;omega⟩
     have afX:m<=10:=by have:=PQ.2;simp only at this;omega
     have RJ:=hdd hgo
     clear hp hgo PQ he
     go_upto_region 16 with (first|fail|(go_at_call 108;(with_reducible refine HCT.out.mono ?_);rintro e w4 ⟨rfl,YW,v4,Y0⟩))
     have Zm:=hdd (HO.out.1.turn YW)
     have wV:=hdd (YW.below vp.out (by have:=vp.out.size;have:=gI.out.2;omega) (fun i h=>by have h:i=rb:=h;omega):Below rb W2 w4)
     have OQ:=hdd Y0
     have HZ4:=hdd YW.size
     obtain⟨d0,d1,df⟩:=Y0.cells
     obtain⟨vb,vo,vc,rfl,hvb⟩:=Y0.form
     clear Y0 YW HCT cc0 XE ccf OO
     by_cases hce:rc.e=0
     ·have d1':=d1
      rw [hce]at d1
      by_cases AX:m<=rc.b.length
      ·have AE:=hdd (xR.out.trans (RJ.out.1 ⟨hce,by show ((m:Nat):Int)<=_;omega⟩))
       have Wq:¬((rc.b.length:Int)<(m:Int)):=af
       have s1:rc.b.length<=vc:=by
        obtain⟨_,_,hvv,s1,-⟩:=OQ.out.sl
        injection hvv with _ _ hv3
        subst hv3
        exact s1
       obtain⟨S,hS⟩:=bt (strOfNums (rc.b.take m))
       have hcs:=fw.str (yu (m:=m) OQ.out.sl AX)
       rw [hS]at hcs
       have hmc:m<=vc:=af
       have HSS:=hdd hS
       have hnl:ns.length<=1000000:=by have:=HO.out.2;omega
       have HML:=hdd AX
       clear hS AX
       go_upto_region 20 with ((at_builtin;refine sV rfl (.tmp 109) (.tmp 117) rfl (rb+1) _ ns rfl (Zm.out.alloc _) ⟨w4.heap.size,0,none⟩ S rfl Pb af (by simp;have:=wV.out.size;have:=gI.out.2;omega) ?_;intro v5 w5 Pn Td))
       have cu:Below (rb+1) w4 w5:=Td (rb+1) w4 ((aI _ _).alloc (by have:=wV.out.size;have:=gI.out.2;omega) _) aH
       have hr5:=OQ.out.later cu
       obtain⟨e0,e1,ef⟩:=hr5.cells
       have Cc:=hdd (show Below rb W2 w5 from Td rb W2 (wV.out.alloc (by have:=wV.out.size;have:=gI.out.2;omega) _) (Nat.le_succ _))
       have OP:=hdd hr5
       have Zl:=hdd Pn
       have Uw:=hdd HO.out.2
       obtain⟨o5,adh,iD⟩:∃o,(if vc=m then some (⟨vb,vo,none⟩:Addr)else some ⟨vb,vo+m,none⟩)=some ⟨vb,o,none⟩/\(m<vc->o=vo+m):=by
        by_cases h1:vc=m
        ·exact⟨vo,ar h1,fun h=>af⟩
        ·exact⟨vo+m,ai h1,fun _=>rfl⟩
       have HD5:=hdd (Cm (m:=m) OP.out.sl HML.out o5 iD)
       clear Td Pn hr5 cu d0 d1 d1' df hcs HO Zm vp iD
       go_wp2_with fail
       have Zh:=OP.out.qO HD5.out ⟨_,_,_,by rw [oI],hvb⟩ (fun x hx=>OP.out.ok x (uZ hx))
       rw [hce]at Zh
       go_roundg (n-(q+1))
       case measure=>omega
       case rel=>exact⟨q+1,ns++[S],hlt,rfl,by go_num,hdd ⟨Zl.out.turn Zh.1,by have:=Uw.out;rw [dO];simp only [List.length_singleton];omega⟩,hdd ⟨_,_,Zh.1.below Cc.out (by have:=Cc.out.size;have:=gI.out.2;omega) (fun i h=>by have h:i=rb:=h;omega),Zh.2,AE.out.trans (by rw [Int.toNat_natCast,HSS.out])⟩⟩
      ·have AE:=hdd (xR.out.trans (RJ.out.2.2 hce (by first|omega|(dsimp only;omega))))
       have Wq:(rc.b.length:Int)<(m:Int):=af
       have HW:=hdd (mU (e:=5) OQ.out)
       have XJ:=hdd (show rc.wrong 5=⟨rc.b,5⟩from ar hce)
       go_upto_region 18 with (first|fail|(go_at_call 109;(with_reducible refine HW.out.mono ?_);rintro e w5 ⟨rfl,hT5,YZ⟩))
       rw [XJ.out]at YZ
       obtain⟨f0,f1,ff⟩:=YZ.cells
       have OP:=hdd YZ
       clear YZ d0 d1 d1' df hce AX Wq
       go_wp2_with fail
       go_roundg (n-(q+1))
       case measure=>omega
       case rel=>exact⟨q+1,ns,hlt,rfl,by go_num,hdd ⟨Zm.out.turn hT5,by have:=HO.out.2;omega⟩,hdd ⟨_,_,hT5.below wV.out (by have:=wV.out.size;have:=gI.out.2;omega) (fun i h=>by have h:i=rb:=h;omega),OP.out,AE.out.trans (nW (show (5:Int)≠0 by decide)).symm⟩⟩
     ·have AE:=hdd (xR.out.trans (RJ.out.2.1 hce))
      have HCE:=hdd hce
      have ags:(rc.e == 0)=false:=by simp [hce]
      clear hce
      go_wp2_with fail
      go_roundg (n-(q+1))
      case measure=>omega
      case rel=>exact⟨q+1,ns,hlt,rfl,by go_num,hdd ⟨Zm.out,by have:=HO.out.2;omega⟩,hdd ⟨_,_,wV.out,OQ.out,AE.out.trans (nW HCE.out).symm⟩⟩
    ·have he':(r.e == 0)=false:=by simp [he]
     clear hlt
     go_wp2_with fail
     go_meet
     exact⟨ns,v,r,hdd ⟨xR.out.trans (nW he),by have:=HO.out.2;omega⟩,hdd ⟨HO.out.1,vp.out,OO.out⟩⟩
   ·have hlt':¬(q:Int)<(n:Int):=af
    go_wp2_with fail
    go_meet
    exact⟨ns,v,r,hdd ⟨xR.out.trans (by rw [show n-q=0 by omega];rfl),by have:=HO.out.2;omega⟩,hdd ⟨HO.out.1,vp.out,OO.out⟩⟩
 case rest=>
  obtain⟨ns,v,r,Oa,HA⟩:=hcut
  obtain⟨VK,VL,rfl⟩:=HA.out.1.isSlice
  have HF:=hdd (oZ HA.out.2.2)
  have yD:=rY HA.out.2.2.ok
  obtain⟨p,hp⟩:=bt (r.num)
  have HP:=hdd hp
  rw [hp]at HF yD
  obtain⟨rf,fl⟩:=p
  have HFR:=hdd yD
  clear HC N7 hp yD HN
  go_upto_region 24 with (first|fail|(go_at_call 110;(with_reducible refine HF.out.mono ?_);rintro e w7 ⟨rfl,hT7,v7,hR7⟩))
  have HO7:=hdd (HA.out.1.turn hT7)
  have xS:=hdd (hT7.below HA.out.2.1 (by have:=HA.out.2.1.size;have:=gI.out.2;omega) (fun i h=>by have h:i=rb:=h;omega):Below rb W2 w7)
  have HC7:=hdd (Ag (most:=10000) hR7)
  have hcr:=sw (r:=rf) (most:=10000) aW hR7.ok
  obtain⟨p,hp⟩:=bt (rf.cnt 10000)
  have HBC:=hdd (show rA (bu bs)=p by unfold rA;rw [Oa.out.1,HP.out];exact hp)
  rw [hp]at HC7 hcr
  obtain⟨rc,cm'⟩:=p
  obtain⟨cm,rfl⟩:∃m:Nat,cm'=m:=⟨cm'.toNat,by have:=hcr.1;simp only at this;omega⟩
  have hcm:cm<=10000:=by have:=hcr.2;simp only at this;omega
  clear hp hcr hR7 hT7 HF HA
  go_upto_block 2 with (first|fail|(go_at_call 108;(with_reducible refine HC7.out.mono ?_);rintro e w8 ⟨rfl,hT8,v8,YY⟩))
  have HO8:=hdd (HO7.out.turn hT8)
  have Yk:=hdd (hT8.below xS.out (by have:=xS.out.size;have:=gI.out.2;omega) (fun i h=>by have h:i=rb:=h;omega):Below rb W2 w8)
  have HR8:=hdd YY
  have Ee:rb<w8.heap.size:=by have:=Yk.out.size;have:=gI.out.2;omega
  clear hT8 YY HC7
  go_cut [11,12,13,15]from 132 to 198 (fun tv _ _ _ wx=>∃(es:List aC) (v:Value) (r:Rd),Hid (fg (bu bs)=(r,es)/\es.length<=10000)/\Hid (au w8.heap.size wx tv es/\gU rb w8 wx/\fM wx rb v r))
  case first=>
   have Zv:=hdd (show fg (bu bs)=iR cm rc [] by unfold fg;rw [HBC.out];rfl)
   go_wp2_with fail
   go_loopg [11,12,13] cm (fun g tv kv iv wr=>∃(q:Nat) (es:List aC),q<=cm/\g=cm-q/\iv = .int .i64 q/\kv = .int .i64 (gT es)/\Hid (au w8.heap.size wr tv es/\es.length=q)/\Hid (∃(v:Value) (r:Rd),gU rb w8 wr/\fM wr rb v r/\fg (bu bs)=iR (cm-q) r es/\(r.e=0->0<=gT es/\gT es<1099511627776)))
   case atStart=>exact⟨0,[],jd _,rfl,rfl,rfl,hdd ⟨au.nil _ _,rfl⟩,hdd ⟨_,_,aa0.refl _ _,HR8.out,Zv.out,fun _=>aW⟩⟩
   case round=>
    clear Zv
    obtain⟨q,es,hq,rfl,rfl,rfl,HO,HR⟩:=hrel
    obtain⟨v,r,htw,hr,yB,hkr⟩:=HR.out
    have xR:=hdd yB
    have OO:=hdd hr
    have Ui:=hdd htw
    obtain⟨cc0,XE,ccf⟩:=hr.cells
    obtain⟨so,sc,rfl⟩:=HO.out.1.isSlice
    clear HR htw hr yB
    by_cases hlt:q<cm
    ·have hlt':(q:Int)<(cm:Int):=af
     by_cases he:r.e=0
     ·rw [he]at XE
      obtain⟨im,hk1⟩:=hkr he
      obtain⟨p,hp0⟩:=bt (r.num)
      obtain⟨ra,nk⟩:=p
      obtain⟨p,hp1⟩:=bt (ra.num)
      obtain⟨YF,c⟩:=p
      obtain⟨p,hp2⟩:=bt (YF.rS)
      obtain⟨ZQ,s1⟩:=p
      obtain⟨p,GL⟩:=bt (ZQ.rS)
      obtain⟨ZO,s2⟩:=p
      obtain⟨p,hp4⟩:=bt (ZO.rS)
      obtain⟨ZN,s3⟩:=p
      obtain⟨p,hp5⟩:=bt (ZN.rS)
      obtain⟨rx,s4⟩:=p
      have K6:=rY OO.out.ok
      rw [hp0]at K6
      have K6:0<=nk/\nk<72057594037927936:=K6
      have Vy:=hdd (fun(W:World) (v:Value) (h:fM W rb v r)=>(by have:=oZ h;rw [hp0]at this;exact this:Calls Tryd.prog 110 #[.pointer (some ⟨rb,0,none⟩)] W fun x w'=>x = .returned (.int .i64 nk)/\gU rb W w'/\∃v',fM w' rb v' ra))
      have Vx:=hdd (fun(W:World) (v:Value) (h:fM W rb v ra)=>(by have:=oZ h;rw [hp1]at this;exact this:Calls Tryd.prog 110 #[.pointer (some ⟨rb,0,none⟩)] W fun x w'=>x = .returned (.int .i64 c)/\gU rb W w'/\∃v',fM w' rb v' YF))
      have HC2:=hdd (fun(W:World) (v:Value) (h:fM W rb v YF)=>(by have:=rR h;rw [hp2]at this;exact this:Calls Tryd.prog 111 #[.pointer (some ⟨rb,0,none⟩)] W fun x w'=>x = .returned (.int .i64 s1)/\gU rb W w'/\∃v',fM w' rb v' ZQ))
      have O0:=hdd (fun(W:World) (v:Value) (h:fM W rb v ZQ)=>(by have:=rR h;rw [GL]at this;exact this:Calls Tryd.prog 111 #[.pointer (some ⟨rb,0,none⟩)] W fun x w'=>x = .returned (.int .i64 s2)/\gU rb W w'/\∃v',fM w' rb v' ZO))
      have HC4:=hdd (fun(W:World) (v:Value) (h:fM W rb v ZO)=>(by have:=rR h;rw [hp4]at this;exact this:Calls Tryd.prog 111 #[.pointer (some ⟨rb,0,none⟩)] W fun x w'=>x = .returned (.int .i64 s3)/\gU rb W w'/\∃v',fM w' rb v' ZN))
      have HC5:=hdd (fun(W:World) (v:Value) (h:fM W rb v ZN)=>(by have:=rR h;rw [hp5]at this;exact this:Calls Tryd.prog 111 #[.pointer (some ⟨rb,0,none⟩)] W fun x w'=>x = .returned (.int .i64 s4)/\gU rb W w'/\∃v',fM w' rb v' rx))
      have Vw:=hdd (show kT r (gT es)=(rx,⟨gT es+nk,⟨c,s1,s2,s3,(gT es+nk)%1048576,s4⟩⟩) by simp only [kT,hp0,hp1,hp2,GL,hp4,hp5])
      have hgo:fg (bu bs)=iR (cm-(q+1)) (qA r es) (es++[(kT r (gT es)).2]):=xR.out.trans (by rw [show cm-q=(cm-(q+1))+1 by omega];exact Nq he)
      obtain⟨K,hK⟩:=bt (gT es)
      rw [hK]at Vw hgo im hk1
      rw [hK]
      obtain⟨P,hP⟩:=bt (K+nk)
      rw [hP]at Vw
      have Tz:0<=P/\P<73156568704811008:=af
      have hwP:IntKind.i64.wrap (K+nk)=P:=by rw [hP];exact IntWalk.i64_in _ af
      have htP:P.tmod 1048576=P%1048576:=yj Tz.1
      have hwt:IntKind.i64.wrap (P%1048576)=P%1048576:=IntWalk.i64_in _ af
      have RJ:=hdd hgo
      have HK:=hdd hK
      have XT:=hdd hP
      clear hp0 hp1 hp2 GL hp4 hp5 hgo he hP hkr K6
      go_upto_region 29 with (first|fail|(go_at_call 110;(with_reducible refine(Vy.out _ _ OO.out).mono ?_);rintro e w9 ⟨rfl,Tx,v9,hR9⟩))
      obtain⟨Zd,Nf⟩:=bP (w9.alloc (.cells #[.int .i64 P, .int .i64 0, .int .i64 0, .int .i64 0, .int .i64 0, .int .i64 0, .int .i64 0] 96))
      have PI:w8.heap.size<=w9.heap.size:=ik Ui.out.size Tx.size
      have HT9:=hdd (Ui.out.trans Tx)
      have hO9:=HO.out.1.block fun g hg=>Tx.block g (HO.out.1.lt g hg).2 (fun e=>by have:=(HO.out.1.lt g hg).1;have e:g=rb:=e;omega)
      have zP:ah w9 Zd:=by rw [Nf];exact ag
      obtain⟨xb,QU⟩:=bt (w9.heap.size)
      have kx:Zd.heap[xb]?=some (.cells #[.int .i64 P, .int .i64 0, .int .i64 0, .int .i64 0, .int .i64 0, .int .i64 0, .int .i64 0] 96):=by rw [Nf,<-QU];exact aj _ _ rfl
      have Mw:Zd.heap.size=xb+1:=by rw [Nf,<-QU];simp
      have XQ:=hdd (hR9.later (zP.mono af))
      have acd:=hdd (hO9.below zP aH)
      have XK:=hdd (HT9.out.trans (aa0.of zP aH):gU rb w8 Zd)
      have Qs:=hdd (aL kx Mw)
      have HO9:=hdd hO9
      have K2:=hdd zP
      have HXB:=hdd QU
      have hxr:w8.heap.size<=xb:=af
      rw [<-Nf,QU]
      clear Nf Tx hR9 hO9 zP kx Mw cc0 XE ccf Vy PI
      go_upto_region 30 with (first|fail|(go_at_call 110;(with_reducible refine(Vx.out _ _ XQ.out).mono ?_);rintro e VC ⟨rfl,Xd,v11,Xn⟩)|(go_at_call 111;(first|((with_reducible refine(HC2.out _ _ Xn).mono ?_);rintro e w12 ⟨rfl,Xc,v12,Xm⟩)|((with_reducible refine(O0.out _ _ Xm).mono ?_);rintro e w13 ⟨rfl,Xb,v13,Xl⟩)|((with_reducible refine(HC4.out _ _ Xl).mono ?_);rintro e w14 ⟨rfl,Xa,v14,Xk⟩)|((with_reducible refine(HC5.out _ _ Xk).mono ?_);rintro e w15 ⟨rfl,WY,v15,Xj⟩;have hT:=((((Xd.trans Xc).trans Xb).trans Xa).trans WY);have kx:=(hT.block xb (by have:=Qs.out.2;omega) (fun e=>by have e:xb=rb:=e;omega)).trans Qs.out.1;obtain⟨z0,z1,z2,z3,z4,z5,z6,zf⟩:=yG kx))))
      obtain⟨V,hV⟩:=bP ((((((w15.setCell ⟨xb,1,none⟩ (.int .i64 c)).setCell ⟨xb,2,none⟩ (.int .i64 s1)).setCell ⟨xb,3,none⟩ (.int .i64 s2)).setCell ⟨xb,4,none⟩ (.int .i64 s3)).setCell ⟨xb,5,none⟩ (.int .i64 (P%1048576))).setCell ⟨xb,6,none⟩ (.int .i64 s4))
      have kV:V.heap[xb]?=some (.cells #[.int .i64 P, .int .i64 c, .int .i64 s1, .int .i64 s2, .int .i64 s3, .int .i64 (P%1048576), .int .i64 s4] 96):=by rw [hV];exact Nr kx
      have HTV:=hdd (show gU rb w8 V by rw [hV];exact Js (XK.out.trans hT) hxr _ _ _ _ _ _)
      have P8:Below xb w15 V:=by rw [hV];exact H0 aH _ _ _ _ _ _
      have wT:=hdd (Xj.later (P8.mono af))
      have hVg:∀g,g<xb->g≠rb->V.heap[g]?=w9.heap[g]?:=fun g h1 h2=>(P8.block g h1).trans ((hT.block g (by have:=Qs.out.2;omega) h2).trans (K2.out.block g (by have:=HXB.out;omega)))
      have hoV:Hid (∀W,gU rb V W->au w8.heap.size W (.slice so es.length sc) es):=hdd fun W hW=>HO9.out.block fun g hg=>by
       have h1:=HO9.out.lt g hg
       have h2:=HXB.out
       exact(hW.block g (by have:=HTV.out.size;have:=(eI.1 kV).1;omega) (fun e=>by have e:g=rb:=e;omega)).trans (hVg g af af)
      have hxV:=(eI.1 kV).1
      rw [<-hV]
      obtain⟨f0,f1,ff⟩:=wT.out.cells
      obtain⟨y0,y1,y2,y3,y4,y5,y6,yf⟩:=yG kV
      have HHZ:=hdd hxV
      clear hV P8 hVg hT kx Xd Xc Xb Xa WY Xn Xm Xl Xk Xj XQ acd XK HT9 Qs
      obtain⟨BB,OC⟩:=bt (decide (rx.e=0/\jK es ⟨P,⟨c,s1,s2,s3,P%1048576,s4⟩⟩))
      go_cut [192]from 132 to 198 (fun cb wx=>cb = .bool BB/\V=wx)
      case first=>
       clear z0 z1 z2 z3 z4 z5 z6 zf
       by_cases GI:rx.e=0
       ·have OI:=hdd GI
        rw [GI]at f1
        clear GI
        by_cases hbig:1099511627776<=P
        ·go_wp2_with fail
         go_meet
         exact⟨congrArg Value.bool ((decide_eq_true (⟨OI.out, .inl hbig⟩:rx.e=0/\jK es ⟨P,⟨c,s1,s2,s3,P%1048576,s4⟩⟩)).symm.trans OC),rfl⟩
        ·by_cases hc0:c=0
         ·go_wp2_with fail
          go_meet
          exact⟨congrArg Value.bool ((decide_eq_true (⟨OI.out, .inr (.inl hc0)⟩:rx.e=0/\jK es ⟨P,⟨c,s1,s2,s3,P%1048576,s4⟩⟩)).symm.trans OC),rfl⟩
         ·have agx:(c == 0)=false:=by simp [hc0]
          by_cases hq0:q=0
          ·have hes:=hdd (wO (by have:=HO.out.2;omega):es=[])
           have afK:¬(0:Int)<(q:Int):=af
           clear hq0
           go_wp2_with fail
           go_meet
           exact⟨congrArg Value.bool ((wJ (fun hn=>by rcases hn.2 with h|h|h;exact absurd (show 1099511627776<=P from h) af;exact hc0 h;exact h.1 hes.out:¬(rx.e=0/\jK es ⟨P,⟨c,s1,s2,s3,P%1048576,s4⟩⟩))).symm.trans OC),rfl⟩
          ·obtain⟨j,hj⟩:∃j,q=j+1:=⟨q-1,af⟩
           have HJ:=hdd hj
           obtain⟨og,oo,hso,hlast⟩:=au.last (hoV.out V (aa0.refl _ _)) (HO.out.2.trans hj) (by have:=HO.out.2;omega)
           rw [HK.out]at hlast
           subst hso
           have agc:=fun w'=>dw (ab:=og) (aV:=oo) (n:=es.length) (cap:=sc) (show (j:Int)=((j:Nat):Int) by rfl) (by have:=HO.out.2;omega) w'
           have n1:IntKind.i64.wrap ((q:Int)-1)=(j:Int):=by rw [show (q:Int)-1=(j:Int) by omega];exact IntWalk.i64_in _ af
           have n2:(q:Int)-1=(j:Int):=af
           have hqp:(0:Int)<(q:Int):=af
           have hes:es≠[]:=fun hn=>by have:=HO.out.2;rw [hn]at this;simp at this;omega
           clear hj hq0
           by_cases hle:P<=K
           ·go_wp2_with fail
            go_meet
            exact⟨congrArg Value.bool ((decide_eq_true (⟨OI.out, .inr (.inr ⟨hes,by rw [HK.out];exact hle⟩)⟩:rx.e=0/\jK es ⟨P,⟨c,s1,s2,s3,P%1048576,s4⟩⟩)).symm.trans OC),rfl⟩
           ·go_wp2_with fail
            go_meet
            exact⟨congrArg Value.bool ((wJ (fun hn=>by rcases hn.2 with h|h|h;exact absurd (show 1099511627776<=P from h) af;exact hc0 h;exact absurd (show P<=K from HK.out▸h.2) af:¬(rx.e=0/\jK es ⟨P,⟨c,s1,s2,s3,P%1048576,s4⟩⟩))).symm.trans OC),rfl⟩
       ·have PK:(rx.e == 0)=false:=by simp [GI]
        go_wp2_with fail
        go_meet
        exact⟨congrArg Value.bool ((wJ (fun hn=>GI hn.1:¬(rx.e=0/\jK es ⟨P,⟨c,s1,s2,s3,P%1048576,s4⟩⟩))).symm.trans OC),rfl⟩
      case rest=>
       obtain⟨rfl,hwc⟩:=hcut
       subst hwc
       by_cases hb:rx.e=0/\jK es ⟨P,⟨c,s1,s2,s3,P%1048576,s4⟩⟩
       ·have hBt:BB=true:=by rw [<-OC];exact decide_eq_true hb
        subst hBt
        have HB:=hdd hb
        have HW7:=hdd (mU (e:=7) wT.out)
        have XJ:=hdd (show rx.wrong 7=⟨rx.b,7⟩from ar hb.1)
        clear hb OC
        go_upto_region 32 with (first|fail|(go_at_call 109;(with_reducible refine HW7.out.mono ?_);rintro e Yw ⟨rfl,Ty,Xi⟩))
        rw [XJ.out]at Xi
        have NZ:=hdd (HTV.out.trans Ty:gU rb w8 Yw)
        have Un:=hdd Xi
        have Uv:=hdd (hoV.out Yw Ty)
        have VN:=(Ty.block xb af (fun e=>by have e:xb=rb:=e;omega)).trans kV
        obtain⟨x0,x1,x2,x3,x4,x5,x6,xf⟩:=yG VN
        have hel:es.length<=1000000:=by have:=HO.out.2;omega
        have Sq:w8.heap.size<=Yw.heap.size:=NZ.out.size
        have Oh:=hdd (RJ.out.trans (by rw [Vw.out]):fg (bu bs)=iR (cm-(q+1)) (qA r es) (es++[⟨P,⟨c,s1,s2,s3,P%1048576,s4⟩⟩]))
        have UF:=hdd (show qA r es=⟨rx.b,7⟩ by unfold qA;rw [HK.out,Vw.out];exact ar HB.out)
        clear z0 z1 z2 z3 z4 z5 z6 zf y0 y1 y2 y3 y4 y5 y6 yf f0 f1 ff kV VN
        go_wp2_with ((at_builtin;refine eW rfl (.tmp 195) (.tmp 197) rfl w8.heap.size _ es rfl (Uv.out.alloc _) ⟨_,0,none⟩ ⟨P,⟨c,s1,s2,s3,P%1048576,s4⟩⟩ rfl (fun j u h=>mO h) hel (by simp;omega) ?_;intro v17 w17 L3 Te))
        have Na:=Te w8.heap.size Yw ((aI _ _).alloc Sq _) aH
        go_roundg (cm-(q+1))
        case measure=>omega
        case rel=>exact⟨q+1,es++[⟨P,⟨c,s1,s2,s3,P%1048576,s4⟩⟩],hlt,rfl,by go_num,by rw [iZ],hdd ⟨L3,by have:=HO.out.2;rw [dO];simp only [List.length_singleton];omega⟩,hdd ⟨_,_,yP NZ.out Na,Un.out.later (Na.mono Ee),Oh.out.trans (by rw [UF.out]),fun h7=>absurd h7 (by show ¬(7:Int)=0;decide)⟩⟩
       ·have hBt:BB=false:=by rw [<-OC];exact wJ hb
        subst hBt
        have HB:=hdd hb
        clear hb OC
        go_upto_region 32 with (fail)
        have NZ:=hdd (HTV.out:gU rb w8 V)
        have Un:=hdd wT.out
        have Uv:=hdd (hoV.out V (aa0.refl _ _))
        have VN:=kV
        obtain⟨x0,x1,x2,x3,x4,x5,x6,xf⟩:=yG VN
        have hel:es.length<=1000000:=by have:=HO.out.2;omega
        have Sq:w8.heap.size<=V.heap.size:=NZ.out.size
        have Oh:=hdd (RJ.out.trans (by rw [Vw.out]):fg (bu bs)=iR (cm-(q+1)) (qA r es) (es++[⟨P,⟨c,s1,s2,s3,P%1048576,s4⟩⟩]))
        have UF:=hdd (show qA r es=rx by unfold qA;rw [HK.out,Vw.out];exact ai HB.out)
        clear z0 z1 z2 z3 z4 z5 z6 zf y0 y1 y2 y3 y4 y5 y6 yf f0 f1 ff kV VN
        go_wp2_with ((at_builtin;refine eW rfl (.tmp 195) (.tmp 197) rfl w8.heap.size _ es rfl (Uv.out.alloc _) ⟨_,0,none⟩ ⟨P,⟨c,s1,s2,s3,P%1048576,s4⟩⟩ rfl (fun j u h=>mO h) hel (by simp;omega) ?_;intro v17 w17 L3 Te))
        have Na:=Te w8.heap.size V ((aI _ _).alloc Sq _) aH
        go_roundg (cm-(q+1))
        case measure=>omega
        case rel=>exact⟨q+1,es++[⟨P,⟨c,s1,s2,s3,P%1048576,s4⟩⟩],hlt,rfl,by go_num,by rw [iZ],hdd ⟨L3,by have:=HO.out.2;rw [dO];simp only [List.length_singleton];omega⟩,hdd ⟨_,_,yP NZ.out Na,Un.out.later (Na.mono Ee),Oh.out.trans (by rw [UF.out]),fun h7=>by rw [iZ];exact⟨Tz.1,Int.not_le.1 fun hn=>HB.out ⟨h7, .inl hn⟩⟩⟩⟩
     ·have he':(r.e == 0)=false:=by simp [he]
      clear hlt
      go_wp2_with fail
      go_meet
      exact⟨es,v,r,hdd ⟨xR.out.trans (pW he),by have:=HO.out.2;omega⟩,hdd ⟨HO.out.1,Ui.out,OO.out⟩⟩
    ·have hlt':¬(q:Int)<(cm:Int):=af
     go_wp2_with fail
     go_meet
     exact⟨es,v,r,hdd ⟨xR.out.trans (by rw [show cm-q=0 by omega];rfl),by have:=HO.out.2;omega⟩,hdd ⟨HO.out.1,Ui.out,OO.out⟩⟩
  case rest=>
   obtain⟨es,vx,rx,Vv,HZ⟩:=hcut
   obtain⟨eso,esc,rfl⟩:=HZ.out.1.isSlice
   have Um:=hdd HZ.out.2.2
   have HBR:=hdd (show Aj (bu bs)=if rx.e=0/\0<rx.b.length then⟨rx.b,4⟩else rx by unfold Aj;rw [Vv.out.1])
   have Bi:=hdd (show Below rb W2 wc from HZ.out.2.1.below Yk.out af (fun i h=>by have h:i=rb:=h;omega))
   obtain⟨f0,f1,ff⟩:=Um.out.cells
   obtain⟨vb,vo,vc,hvx,hvb⟩:=Um.out.form
   subst hvx
   by_cases GI:rx.e=0
   ·have OI:=hdd GI
    rw [GI]at f1
    clear GI
    by_cases hlen:0<rx.b.length
    ·have hlen':(0:Int)<(rx.b.length:Int):=af
     have HD4:=hdd (show sG bs=4 by rw [HD.out,HBR.out,ar ⟨OI.out,hlen⟩])
     have HW4:=hdd (mU (e:=4) Um.out)
     have XJ:=hdd (show rx.wrong 4=⟨rx.b,4⟩from ar OI.out)
     clear hlen
     go_upto_region 35 with (first|fail|(go_at_call 109;(with_reducible refine HW4.out.mono ?_);rintro e wz ⟨rfl,hTz,hRz⟩))
     rw [XJ.out]at hRz
     clear f0 f1 ff
     obtain⟨f0,f1,ff⟩:=hRz.cells
     have Im:=hdd (hTz.below Bi.out (by have:=Bi.out.size;have:=gI.out.2;omega) (fun i h=>by have h:i=rb:=h;omega):Below rb W2 wz)
     have HWW:=hdd (Below.trans' (Below.mono gI.out.1 aH) (aI _ W2) gI.out.1.size)
     have vp:=hdd (show ah w wz from ⟨Im.out.os.trans gI.out.1.os,Im.out.tape.trans gI.out.1.tape,Im.out.output.trans gI.out.1.output,ik gI.out.1.size Im.out.size,fun b hb=>(Im.out.block b (by have:=AB.out;omega)).trans (gI.out.1.block b hb)⟩)
     have kz:wz.heap[w.heap.size]?=some (.cells cL 35):=(Im.out.block _ (by have:=AB.out;omega)).trans Og.out
     obtain⟨r0,r1,r2,r3,r4,r5,r6,r7,rf⟩:wz.cell? ⟨w.heap.size,0,none⟩=some (.slice none 0 0)/\wz.cell? ⟨w.heap.size,1,none⟩=some (.slice none 0 0)/\wz.cell? ⟨w.heap.size,2,none⟩=some (.int .i64 0)/\wz.cell? ⟨w.heap.size,3,none⟩=some (.slice none 0 0)/\wz.cell? ⟨w.heap.size,4,none⟩=some (.int .i64 0)/\wz.cell? ⟨w.heap.size,5,none⟩=some (.slice none 0 0)/\wz.cell? ⟨w.heap.size,6,none⟩=some (.int .i64 0)/\wz.cell? ⟨w.heap.size,7,none⟩=some (.int .i64 0)/\∀o,wz.frozen? ⟨w.heap.size,o,none⟩=false:=by simp [World.cell?,World.frozen?,kz,cL]
     have K6:rb≠w.heap.size:=by have:=AB.out;omega
     have aaF:¬rb=w.heap.size:=K6
     have aaE:¬w.heap.size=rb:=fun e=>K6 e.symm
     have Vq:=hdd kz
     clear kz
     go_upto_region 36 with (fail)
     refine eD [(1,1),(2,1),(3,1),(4,0),(0,1),(5,2),(6,3)] 6
      (fun W=>W.cell? ⟨rb,1,none⟩=some (.int .i64 4)) bT bT (by exact f1) ?_
     (simp only [bG,List.filterMap_cons,List.filterMap_nil,List.getElem?_cons_zero,List.getElem?_cons_succ,Option.map_some])
     (repeat (first|refine lO ?_|refine lN ?_|refine lM ?_);(try simp only [Act.put,List.setIfInBounds_toArray,List.set_cons_zero,List.set_cons_succ]))
     refine qP ?_ (fun K hK=>?_)
     (focus (first|exact br rfl _|exact eZ rfl rfl rfl rfl))
     go_simp
     obtain⟨VV,zQ⟩:=bP (((((((((wz.setCell ⟨w.heap.size,0,none⟩ (.slice none 0 0)).setCell ⟨w.heap.size,1,none⟩ (.slice none 0 0)).setCell ⟨w.heap.size,2,none⟩ (.int .i64 0)).setCell ⟨w.heap.size,3,none⟩ (.slice none 0 0)).setCell ⟨w.heap.size,4,none⟩ (.int .i64 0)).setCell ⟨w.heap.size,5,none⟩ (.slice none 0 0)).setCell ⟨w.heap.size,6,none⟩ (.int .i64 0)).setCell ⟨w.heap.size,7,none⟩ (.int .i64 0)))
     have hvr:VV.heap[rb]?=wz.heap[rb]?:=by rw [zQ];exact aac K6
     have hvb:ah w VV:=by rw [zQ];exact cC vp.out aH _ _ _ _ _ _ _ _
     have hvs:VV.drew.cell? ⟨rb,1,none⟩=some (.int .i64 4):=(World.cell?_of_block (show VV.drew.heap[rb]?=wz.heap[rb]? from hvr)).trans f1
     rw [<-zQ]
     have kV:=(by rw [zQ];exact jb Vq.out:VV.heap[w.heap.size]?=some (.cells cL 35))
     obtain⟨q0,q1,q2,q3,q4,q5,q6,q7⟩:VV.drew.cell? ⟨w.heap.size,0,none⟩=some (.slice none 0 0)/\VV.drew.cell? ⟨w.heap.size,1,none⟩=some (.slice none 0 0)/\VV.drew.cell? ⟨w.heap.size,2,none⟩=some (.int .i64 0)/\VV.drew.cell? ⟨w.heap.size,3,none⟩=some (.slice none 0 0)/\VV.drew.cell? ⟨w.heap.size,4,none⟩=some (.int .i64 0)/\VV.drew.cell? ⟨w.heap.size,5,none⟩=some (.slice none 0 0)/\VV.drew.cell? ⟨w.heap.size,6,none⟩=some (.int .i64 0)/\VV.drew.cell? ⟨w.heap.size,7,none⟩=some (.int .i64 0):=(by obtain⟨q0,q1,q2,q3,q4,q5,q6,q7,-⟩:=fh (w:=VV.drew) kV;exact⟨q0,q1,q2,q3,q4,q5,q6,q7⟩)
     clear zQ kV
     refine hK _ _ hvs ?_
     clear hK K
     (repeat (first|refine lO ?_|refine lN ?_|refine lM ?_);(try simp only [Act.put,List.setIfInBounds_toArray,List.set_cons_zero,List.set_cons_succ]))
     refine iK ?_ (fun K hK=>?_)
     (focus (first|exact br rfl _|exact eZ rfl rfl rfl rfl))
     go_simp
     refine hK _ _ ?_
     clear hK K
     refine jE ?_
     go_wp2_with fail
     exact bodyPost_ret (v:= .tuple #[dC, .int .i64 4]) (by simp [results,Tryd.results86,go_sem, *]) rfl ⟨hvb.drew, .inl ⟨4,aW,rfl, .inl HD4.out⟩⟩
    ·have hlen':¬(0:Int)<(rx.b.length:Int):=af
     have Yi:=hdd (show sG bs=0 by rw [HD.out,HBR.out,ai (fun hn=>hlen hn.2)];exact OI.out)
     have FH:=hdd (show (cP (bu bs)).2=ns by rw [Oa.out.1])
     have OY:=hdd (show (cP (bu bs)).1.num.2=fl by rw [Oa.out.1];show r.num.2=fl;rw [HP.out])
     have Yh:=hdd (show (fg (bu bs)).2=es by rw [Vv.out.1])
     obtain⟨-,-,Eo,hl2,-,-,-⟩:=TW Oi.out Yi.out
     rw [Yh.out]at Eo hl2
     have HOW:=hdd (HO8.out.turn HZ.out.2.1)
     have Wb:∀s∈ns,s.size<=10:=by
      rw [<-FH.out]
      exact ur (mW (tN Oi.out)) (fun s hs=>by cases hs)
     have KP:=hdd (show ah w wc from ⟨Bi.out.os.trans gI.out.1.os,Bi.out.tape.trans gI.out.1.tape,Bi.out.output.trans gI.out.1.output,ik gI.out.1.size Bi.out.size,fun b hb=>(Bi.out.block b (by have:=AB.out;omega)).trans (gI.out.1.block b hb)⟩)
     have Zq:=hdd (Mi (fl:=fl) (HOW.out.at (by have:=Oa.out.2;omega)) (HZ.out.1.at af) ⟨hl2.2.1,fun e he=>⟨(hl2.1 e he).1,(hl2.1 e he).2.1⟩,Eo⟩ (fun s hs=>ik (Wb s hs) aW) (nN.out.below KP.out))
     clear Eo hl2 Wb hlen
     have hcz:w.heap.size<wc.heap.size:=by have:=KP.out.size;have:=Bi.out.size;have:=AB.out;have:=gI.out.2;omega
     have HKC:=hdd (show wc.heap[w.heap.size]?=some (.cells cL 35)from (Bi.out.block _ (by have:=AB.out;omega)).trans Og.out)
     go_upto_region 37 with (fail)
     clear f0 f1 ff
     go_wp2_with (go_at_call 112;(with_reducible refine Zq.out.mono ?_);rintro e wz ⟨hbz,hez⟩;have kz:=(hbz.block _ hcz).trans HKC.out;obtain⟨r0,r1,r2,r3,r4,r5,r6,r7,rf⟩:=fh kz;have Zx:=hdd hbz;have Vq:=hdd kz;clear kz hbz;rcases hez with ⟨E,Y6,rfl,hbad⟩|⟨sn,sc,g0,l0,p0,g1,l1,p1,g2,l2,p2,T,U4,rfl,hok,je⟩)
     ·obtain⟨VV,zQ⟩:=bP (((((((((wz.setCell ⟨w.heap.size,0,none⟩ (.slice none 0 0)).setCell ⟨w.heap.size,1,none⟩ (.slice none 0 0)).setCell ⟨w.heap.size,2,none⟩ (.int .i64 0)).setCell ⟨w.heap.size,3,none⟩ (.slice none 0 0)).setCell ⟨w.heap.size,4,none⟩ (.int .i64 0)).setCell ⟨w.heap.size,5,none⟩ (.slice none 0 0)).setCell ⟨w.heap.size,6,none⟩ (.int .i64 0)).setCell ⟨w.heap.size,7,none⟩ (.int .i64 0)))
      have hvb:ah w VV:=by rw [zQ];exact cC (Below.trans' KP.out Zx.out KP.out.size) aH _ _ _ _ _ _ _ _
      have kV:=(by rw [zQ];exact jb Vq.out:VV.heap[w.heap.size]?=some (.cells cL 35))
      obtain⟨q0,q1,q2,q3,q4,q5,q6,q7,-⟩:=fh kV
      rw [<-zQ]
      clear zQ kV
      exact bodyPost_ret (v:= .tuple #[dC, .int .i64 E]) (by simp [results,Tryd.results86,go_sem, *]) rfl ⟨hvb, .inl ⟨E,Y6,rfl, .inr ⟨Yi.out,by rw [FH.out,OY.out,Yh.out];exact hbad⟩⟩⟩
     ·obtain⟨VV,zQ⟩:=bP (((((((((wz.setCell ⟨w.heap.size,0,none⟩ (.slice VK ns.length VL)).setCell ⟨w.heap.size,1,none⟩ (.slice g0 l0 p0)).setCell ⟨w.heap.size,2,none⟩ (.int .i64 (T 0).root)).setCell ⟨w.heap.size,3,none⟩ (.slice g1 l1 p1)).setCell ⟨w.heap.size,4,none⟩ (.int .i64 (T 1).root)).setCell ⟨w.heap.size,5,none⟩ (.slice g2 l2 p2)).setCell ⟨w.heap.size,6,none⟩ (.int .i64 (T 2).root)).setCell ⟨w.heap.size,7,none⟩ (.int .i64 fl)))
      have hvb:ah w VV:=by rw [zQ];exact cC (Below.trans' KP.out Zx.out KP.out.size) aH _ _ _ _ _ _ _ _
      have kV:=(by rw [zQ];exact jb Vq.out:VV.heap[w.heap.size]?=some (.cells #[.slice VK ns.length VL, .slice g0 l0 p0, .int .i64 (T 0).root, .slice g1 l1 p1, .int .i64 (T 1).root, .slice g2 l2 p2, .int .i64 (T 2).root, .int .i64 fl] 35))
      have HKV:=hdd (show aM (wc.heap.size+2) wz VV by rw [zQ];exact r9 af _ _ _ _ _ _ _ _)
      have vH:=hdd ((HOW.out.block fun g hg=>Zx.out.block g (HOW.out.lt g hg).2).block fun g hg=>by
       rw [zQ]
       exact aac (by have:=(HOW.out.lt g hg).1;have:=AB.out;omega):dm (rb+1) VV (.slice VK ns.length VL) ns)
      obtain⟨q0,q1,q2,q3,q4,q5,q6,q7,-⟩:=fh kV
      rw [<-zQ]
      have K3:=hdd je
      clear zQ kV je
      exact bodyPost_ret (v:= .tuple #[.agg (aG VK ns.length VL g0 l0 p0 g1 l1 p1 g2 l2 p2 ⟨ns,T 0,T 1,T 2,fl⟩), .int .i64 0]) (by simp [results,Tryd.results86,aG,go_sem, *]) rfl ⟨hvb, .inr ⟨Yi.out,VK,VL,g0,l0,p0,g1,l1,p1,g2,l2,p2,T,by rw [FH.out,OY.out],by rw [FH.out,OY.out,Yh.out];exact hok,fun w'' hw=>by
       rw [FH.out,OY.out]
       exact K3.out w'' ((vH.out.keep (by have:=AB.out;omega) hw).at (by have:=Oa.out.2;omega)) (HKV.out.trans (hw.mono af))⟩⟩
   ·have PK:(rx.e == 0)=false:=by simp [GI]
    have HDE:=hdd (show sG bs=rx.e by rw [HD.out,HBR.out,ai (fun hn=>GI hn.1)])
    have OI:=hdd GI
    clear GI
    obtain⟨E,hE⟩:=bt (rx.e)
    rw [hE]at f1 PK HDE OI
    clear hE
    have Im:=hdd (Bi.out:Below rb W2 wc)
    have HWW:=hdd (Below.trans' (Below.mono gI.out.1 aH) (aI _ W2) gI.out.1.size)
    have vp:=hdd (show ah w wc from ⟨Im.out.os.trans gI.out.1.os,Im.out.tape.trans gI.out.1.tape,Im.out.output.trans gI.out.1.output,ik gI.out.1.size Im.out.size,fun b hb=>(Im.out.block b (by have:=AB.out;omega)).trans (gI.out.1.block b hb)⟩)
    have kz:wc.heap[w.heap.size]?=some (.cells cL 35):=(Im.out.block _ (by have:=AB.out;omega)).trans Og.out
    obtain⟨r0,r1,r2,r3,r4,r5,r6,r7,rf⟩:wc.cell? ⟨w.heap.size,0,none⟩=some (.slice none 0 0)/\wc.cell? ⟨w.heap.size,1,none⟩=some (.slice none 0 0)/\wc.cell? ⟨w.heap.size,2,none⟩=some (.int .i64 0)/\wc.cell? ⟨w.heap.size,3,none⟩=some (.slice none 0 0)/\wc.cell? ⟨w.heap.size,4,none⟩=some (.int .i64 0)/\wc.cell? ⟨w.heap.size,5,none⟩=some (.slice none 0 0)/\wc.cell? ⟨w.heap.size,6,none⟩=some (.int .i64 0)/\wc.cell? ⟨w.heap.size,7,none⟩=some (.int .i64 0)/\∀o,wc.frozen? ⟨w.heap.size,o,none⟩=false:=by simp [World.cell?,World.frozen?,kz,cL]
    have K6:rb≠w.heap.size:=by have:=AB.out;omega
    have aaF:¬rb=w.heap.size:=K6
    have aaE:¬w.heap.size=rb:=fun e=>K6 e.symm
    have Vq:=hdd kz
    clear kz
    go_upto_region 36 with (fail)
    refine eD [(1,1),(2,1),(3,1),(4,0),(0,1),(5,2),(6,3)] 6
     (fun W=>W.cell? ⟨rb,1,none⟩=some (.int .i64 E)) bT bT (by exact f1) ?_
    (simp only [bG,List.filterMap_cons,List.filterMap_nil,List.getElem?_cons_zero,List.getElem?_cons_succ,Option.map_some])
    (repeat (first|refine lO ?_|refine lN ?_|refine lM ?_);(try simp only [Act.put,List.setIfInBounds_toArray,List.set_cons_zero,List.set_cons_succ]))
    refine qP ?_ (fun K hK=>?_)
    (focus (first|exact br rfl _|exact eZ rfl rfl rfl rfl))
    go_simp
    obtain⟨VV,zQ⟩:=bP (((((((((wc.setCell ⟨w.heap.size,0,none⟩ (.slice none 0 0)).setCell ⟨w.heap.size,1,none⟩ (.slice none 0 0)).setCell ⟨w.heap.size,2,none⟩ (.int .i64 0)).setCell ⟨w.heap.size,3,none⟩ (.slice none 0 0)).setCell ⟨w.heap.size,4,none⟩ (.int .i64 0)).setCell ⟨w.heap.size,5,none⟩ (.slice none 0 0)).setCell ⟨w.heap.size,6,none⟩ (.int .i64 0)).setCell ⟨w.heap.size,7,none⟩ (.int .i64 0)))
    have hvr:VV.heap[rb]?=wc.heap[rb]?:=by rw [zQ];exact aac K6
    have hvb:ah w VV:=by rw [zQ];exact cC vp.out aH _ _ _ _ _ _ _ _
    have hvs:VV.drew.cell? ⟨rb,1,none⟩=some (.int .i64 E):=(World.cell?_of_block (show VV.drew.heap[rb]?=wc.heap[rb]? from hvr)).trans f1
    rw [<-zQ]
    have kV:=(by rw [zQ];exact jb Vq.out:VV.heap[w.heap.size]?=some (.cells cL 35))
    obtain⟨q0,q1,q2,q3,q4,q5,q6,q7⟩:VV.drew.cell? ⟨w.heap.size,0,none⟩=some (.slice none 0 0)/\VV.drew.cell? ⟨w.heap.size,1,none⟩=some (.slice none 0 0)/\VV.drew.cell? ⟨w.heap.size,2,none⟩=some (.int .i64 0)/\VV.drew.cell? ⟨w.heap.size,3,none⟩=some (.slice none 0 0)/\VV.drew.cell? ⟨w.heap.size,4,none⟩=some (.int .i64 0)/\VV.drew.cell? ⟨w.heap.size,5,none⟩=some (.slice none 0 0)/\VV.drew.cell? ⟨w.heap.size,6,none⟩=some (.int .i64 0)/\VV.drew.cell? ⟨w.heap.size,7,none⟩=some (.int .i64 0):=(by obtain⟨q0,q1,q2,q3,q4,q5,q6,q7,-⟩:=fh (w:=VV.drew) kV;exact⟨q0,q1,q2,q3,q4,q5,q6,q7⟩)
    clear zQ kV
    refine hK _ _ hvs ?_
    clear hK K
    (repeat (first|refine lO ?_|refine lN ?_|refine lM ?_);(try simp only [Act.put,List.setIfInBounds_toArray,List.set_cons_zero,List.set_cons_succ]))
    refine iK ?_ (fun K hK=>?_)
    (focus (first|exact br rfl _|exact eZ rfl rfl rfl rfl))
    go_simp
    refine hK _ _ ?_
    clear hK K
    refine jE ?_
    go_wp2_with fail
    exact bodyPost_ret (v:= .tuple #[dC, .int .i64 E]) (by simp [results,Tryd.results86,go_sem, *]) rfl ⟨hvb.drew, .inl ⟨E,OI.out,rfl, .inl HDE.out⟩⟩
end
end Go.Proofs.YtmljjfhgciaceaaDoor
