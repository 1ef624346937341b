/- Texts of mine that come as one: DecK Dec. -/
import Derived.Test.YtnjfkcimboidnaaDoorMD
import Derived.Test.YtnjfkcimboidnaaDoorDP
import Derived.Test.YtnjfkcimboidnaaDoorAK
import Derived.Test.YtnjfkcimboidnaaDoorBK
import Derived.Test.YtnjfkcimboidnaaDoorSO
import Derived.Deep.CutBlock
/- file.Decode: bytes as strings, the seal, rows of names. -/
namespace Go.Proofs.YtnjfkcimboidnaaDoor
open Go.RowKit
theorem ByteSl.str {w:World} {b off n cap:Nat} {xs:List Int} (h:ByteSl w (.slice (some ⟨b,off,none⟩) n cap) xs):(convert 54 9 (.slice (some ⟨b,off,none⟩) n cap)).run Tryd.prog w = .ok (.string (strOfNums xs)) w:=by
 obtain⟨ao',cap',hv,h1,h2,h3,h4,h5⟩:=h
 have e:n=xs.length:=by injection hv
 subst e
 refine run_convert_bytes_arg w 54 5 Tryd.underlying54 Tryd.underlying5 b off xs.length cap xs rfl (fun i hi=>?_) 9 Tryd.underlying9
 obtain⟨b',off',hb,-,hc⟩:=h5 (by omega)
 have e2:some (⟨b,off,none⟩:Addr)=ao':=by injection hv
 rw [hb]at e2
 injection e2 with e2
 injection e2 with e3 e4
 subst e3 e4
 rw [byteSl_cell hc hi];simp [hi]
theorem seal_parts {M:List Int} {b0 b1 b2 b3:Int} (_h0:0≤b0∧b0≤255) (h1:0≤b1∧b1≤255) (h2:0≤b2∧b2≤255) (h3:0≤b3∧b3≤255) :
  ((sealXY M).2*65536+(sealXY M).1=b0*16777216+b1*65536+b2*256+b3)↔sealL M=[b0,b1,b2,b3]:=by
 have hr:=sealXY_range M
 unfold sealL
 simp only [List.cons.injEq,and_true]
 constructor
 ·intro h
  omega
 ·rintro⟨e0,e1,e2,e3⟩
  omega
theorem or_three {b0 b1 b2 b3:Int} (h0:0≤b0∧b0≤255) (h1:0≤b1∧b1≤255) (h2:0≤b2∧b2≤255) (h3:0≤b3∧b3≤255) :
  bits .or .i64 (b0*16777216) (b1*65536)=b0*16777216+b1*65536∧bits .or .i64 (b0*16777216+b1*65536) (b2*256)=b0*16777216+b1*65536+b2*256∧bits .or .i64 (b0*16777216+b1*65536+b2*256) b3=b0*16777216+b1*65536+b2*256+b3:=by
 refine⟨?_,?_,?_⟩
 ·rw [bits_join .i64 63 (by decide) (fun n h0 h1=>IntWalk.i64_in _ (by omega)) 24 (b0*16777216) (b1*65536) (by omega) (by omega) (by omega) (by omega) (by omega) (by omega)]
 ·rw [bits_join .i64 63 (by decide) (fun n h0 h1=>IntWalk.i64_in _ (by omega)) 16 (b0*16777216+b1*65536) (b2*256) (by omega) (by omega) (by omega) (by omega) (by omega) (by omega)]
 ·rw [bits_join .i64 63 (by decide) (fun n h0 h1=>IntWalk.i64_in _ (by omega)) 8 (b0*16777216+b1*65536+b2*256) b3 (by omega) (by omega) (by omega) (by omega) (by omega) (by omega)]
theorem drop_four {bs:List Int} {k:Nat} (hk:bs.length=k+4):bs.drop (bs.length-4)=[bs[k],bs[k+1],bs[k+2],bs[k+3]]:=by
 have e:bs.length-4=k:=by omega
 rw [e,List.drop_eq_getElem_cons (by omega),List.drop_eq_getElem_cons (by omega),List.drop_eq_getElem_cons (by omega),List.drop_eq_getElem_cons (by omega),List.drop_eq_nil_of_le (by omega)]
theorem str_two {bs:List Int} {N2:ByteArray} (hb:AllBytes bs) (h:strOfNums (bs.take 2)=N2):(bs.take 2=[119,110]→(N2.toList == [119,110])=true)∧(bs.take 2≠[119,110]→(N2.toList == [119,110])=false):=by
 subst h
 have hb2:AllBytes (bs.take 2):=fun x hx=>hb x (List.mem_of_mem_take hx)
 have e:(⟨#[119,110]⟩:ByteArray).toList=[119,110]:=ByteArray.toList_mk [119,110]
 rw [←e,str_eq]
 constructor
 ·intro h
  rw [h]
  exact decide_eq_true rfl
 ·intro h
  refine decide_eq_false fun h2=>h ?_
  have:=congrArg nums h2
  rw [nums_str hb2]at this
  exact this
structure OwnStrs (B:Nat) (w:World) (v:Value) (ns:List ByteArray):Prop where
 row:w.ownsRow B 9 1 v ns.length (ns.flatMap enStr)
theorem OwnStrs.nil (B:Nat) (w:World):OwnStrs B w (.slice none 0 0) []:=⟨World.ownsRow_nil _ _ _ _⟩
theorem OwnStrs.alloc {B:Nat} {w:World} {v:Value} {ns:List ByteArray} (h:OwnStrs B w v ns) (o:Obj):OwnStrs B (w.alloc o) v ns:=⟨World.ownsRow.alloc h.row o⟩
theorem OwnStrs.block {B:Nat} {w w':World} {v:Value} {ns:List ByteArray} (h:OwnStrs B w v ns) (hb:∀g,v.ownBlock=some g→w'.heap[g]?=w.heap[g]?):OwnStrs B w' v ns:=by
 obtain⟨hl,⟨rfl,h0⟩|⟨g,cap,cur,rfl,hB,hg,h1,h2,h3,h4⟩⟩:=h.row
 ·exact⟨⟨hl, .inl ⟨rfl,h0⟩⟩⟩
 ·exact⟨⟨hl, .inr ⟨g,cap,cur,rfl,hB,(hb g rfl).trans hg,h1,h2,h3,h4⟩⟩⟩
theorem OwnStrs.lt {B:Nat} {w:World} {v:Value} {ns:List ByteArray} (h:OwnStrs B w v ns):∀g,v.ownBlock=some g→B≤g∧g<w.heap.size:=World.ownsRow.lt h.row
theorem OwnStrs.turn {rb:Nat} {w w':World} {v:Value} {ns:List ByteArray} (h:OwnStrs (rb+1) w v ns) (hT:TurnR rb w w'):OwnStrs (rb+1) w' v ns:=
 h.block fun g hg=>hT.block g (h.lt g hg).2 (fun e=>by have:=(h.lt g hg).1;have e:g=rb:=e;omega)
theorem OwnStrs.keep {B M:Nat} {w w':World} {v:Value} {ns:List ByteArray} (h:OwnStrs B w v ns) (hM:M≤B) (hk:Keep M w w'):OwnStrs B w' v ns:=
 h.block fun g hg=>hk.block g (by have:=(h.lt g hg).1;omega) (h.lt g hg).2
theorem OwnStrs.at {B:Nat} {w:World} {v:Value} {ns:List ByteArray} (h:OwnStrs B w v ns) (hs:ns.length≤1000000):StrsAt w v ns:=SlAt.owned enStr_length h.row rfl (by omega)
theorem OwnStrs.isSlice {B:Nat} {w:World} {v:Value} {ns:List ByteArray} (h:OwnStrs B w v ns):∃ao cap,v = .slice ao ns.length cap:=by
 obtain⟨hl,⟨rfl,h0⟩|⟨g,cap,cur,rfl,_⟩⟩:=h.row
 ·exact⟨none,0,by rw [h0]⟩
 ·exact⟨_,_,rfl⟩
theorem OwnEnts.turn {rb:Nat} {w w':World} {v:Value} {es:List Ent} (h:OwnEnts (rb+1) w v es) (hT:TurnR rb w w'):OwnEnts (rb+1) w' v es:=
 h.block fun g hg=>hT.block g (h.lt g hg).2 (fun e=>by have:=(h.lt g hg).1;have e:g=rb:=e;omega)
theorem str_new {w:World} {S:ByteArray} {T:TypeId}:(w.alloc (.cells #[.string S] T)).cell? ⟨w.heap.size,0,none⟩=some (.string S):=by
 have hk:(w.alloc (.cells #[.string S] T)).heap[w.heap.size]?=some (.cells #[.string S] T):=by
  show (w.heap.push _)[w.heap.size]?=_;simp
 simp only [World.cell?,hk]
 rfl
theorem wpList_append_strs {w:World} {ops:Array Oper} {rest:List Oper} {o:Oper} {a:Act} {Q:Exit→Act→World→Prop} (hgd:o.guard=none) (s x:Operand)
  (ho:o.op = .call { callee:= .builtin .append,args:=#[s,x],argTypes:=#[29,29] }) (B:Nat) (v:Value) (es:List ByteArray) (hs:a.eval s=v) (hown:OwnStrs B w v es)
  (ad:Addr) (e:ByteArray) (hx:a.eval x = .slice (some ad) 1 1) (hnews:w.cell? ad=some (.string e)) (hlen:es.length≤1000000) (hbase:B≤w.heap.size)
  (h:∀v' w',OwnStrs B w' v' (es++[e])→(∀C W,Below C W w→C≤B→Below C W w')→wpList Tryd.prog ops Q rest (a.put o.dst v') w'):wpList Tryd.prog ops Q (o::rest) a w:=by
 refine wpList_append_str1 hgd s x ho B v es hs hown.row ad e hx hnews hlen hbase ?_
 intro v' w' hown' hg _
 refine h v' w' ⟨by rw [List.length_append];exact hown'⟩ fun C W hb hC=>Below.grown hb hg (by omega) (fun j hj=>by have:=(hown.lt j hj).1;omega)
theorem namesD_go {k:Nat} {r:Rd} {ns:List ByteArray} (h:r.e=0):((r.cnt 10).1.e=0∧(r.cnt 10).2≤(r.cnt 10).1.b.length→namesD (k+1) r ns=namesD k ⟨(r.cnt 10).1.b.drop (r.cnt 10).2.toNat,0⟩ (ns++[strOfNums ((r.cnt 10).1.b.take (r.cnt 10).2.toNat)])) ∧
  ((r.cnt 10).1.e≠0→namesD (k+1) r ns=((r.cnt 10).1,ns))∧((r.cnt 10).1.e=0→¬(r.cnt 10).2≤(r.cnt 10).1.b.length→namesD (k+1) r ns=(⟨(r.cnt 10).1.b,5⟩,ns)):=by
 have e0:¬r.e≠0:=fun hn=>hn h
 refine⟨fun h1=>?_,fun h1=>?_,fun h1 h2=>?_⟩
 ·conv=>lhs;unfold namesD
  rw [if_neg e0,if_pos h1]
 ·conv=>lhs;unfold namesD
  rw [if_neg e0,if_neg (fun hn=>h1 hn.1),if_neg h1]
 ·conv=>lhs;unfold namesD
  rw [if_neg e0,if_neg (fun hn=>h2 hn.2),if_pos h1]
theorem OwnEnts.last {B:Nat} {w:World} {so:Option Addr} {sc j:Nat} {es:List Ent} (h:OwnEnts B w (.slice so es.length sc) es) (hj:es.length=j+1) (hs:es.length≤1000000) :
  ∃og off,so=some ⟨og,off,none⟩∧w.cell? ⟨og,off+j*7,none⟩=some (.int .i64 (keyL es)):=by
 obtain⟨_,_,hv,-,-,-,-,h5⟩:=h.at hs
 injection hv with hv1 _ hv3
 subst hv1 hv3
 obtain⟨eb,eoff,hla,heb,hec⟩:=h5 (by omega)
 have hjl:j<es.length:=by omega
 obtain⟨o0,-⟩:=ent_cells (Below.refl _ _) heb hec hjl
 refine⟨eb,eoff,hla,o0.trans ?_⟩
 have:keyL es=es[j].key:=by
  unfold keyL
  rw [List.getLast?_eq_getElem?,hj]
  simp [hjl]
 rw [this]
theorem ent_box {w:World} {xb:Nat} {a0 a1 a2 a3 a4 a5 a6:Value} {T:TypeId} (h:w.heap[xb]?=some (.cells #[a0,a1,a2,a3,a4,a5,a6] T)) :
  w.cell? ⟨xb,0,none⟩=some a0∧w.cell? ⟨xb,1,none⟩=some a1∧w.cell? ⟨xb,2,none⟩=some a2∧w.cell? ⟨xb,3,none⟩=some a3∧w.cell? ⟨xb,4,none⟩=some a4∧w.cell? ⟨xb,5,none⟩=some a5∧w.cell? ⟨xb,6,none⟩=some a6∧∀o,w.frozen? ⟨xb,o,none⟩=false:=by
 simp [World.cell?,World.frozen?,h]
theorem turn_below {X:Nat→Prop} {a b c:World} (h:Turn X a b) (hb:Below a.heap.size b c):Turn X a c:=
 ⟨hb.os.trans h.os,hb.tape.trans h.tape,hb.output.trans h.output,Nat.le_trans h.size hb.size,fun i hi hx=>(hb.block i hi).trans (h.block i hi hx)⟩
theorem ent_set6 {w:World} {B:Nat} {a0 a1 a2 a3 a4 a5 a6 v1 v2 v3 v4 v5 v6:Value} {e:TypeId} {fr:Nat×Nat} (h:w.heap[B]?=some (.cells #[a0,a1,a2,a3,a4,a5,a6] e fr)) :
  ((((((w.setCell ⟨B,1,none⟩ v1).setCell ⟨B,2,none⟩ v2).setCell ⟨B,3,none⟩ v3).setCell ⟨B,4,none⟩ v4).setCell ⟨B,5,none⟩ v5).setCell ⟨B,6,none⟩ v6).heap[B]?=some (.cells #[a0,v1,v2,v3,v4,v5,v6] e fr):=by
 have h:=heap_setCell_same (off:=6) (v:=v6) (heap_setCell_same (off:=5) (v:=v5) (heap_setCell_same (off:=4) (v:=v4) (heap_setCell_same (off:=3) (v:=v3) (heap_setCell_same (off:=2) (v:=v2) (heap_setCell_same (off:=1) (v:=v1) h)))))
 simpa using h
theorem turn_set6 {X:Nat→Prop} {a w:World} {xb:Nat} (h:Turn X a w) (hx:a.heap.size≤xb) (v1 v2 v3 v4 v5 v6:Value) :
  Turn X a ((((((w.setCell ⟨xb,1,none⟩ v1).setCell ⟨xb,2,none⟩ v2).setCell ⟨xb,3,none⟩ v3).setCell ⟨xb,4,none⟩ v4).setCell ⟨xb,5,none⟩ v5).setCell ⟨xb,6,none⟩ v6):=
 Turn.setCell (Turn.setCell (Turn.setCell (Turn.setCell (Turn.setCell (Turn.setCell h (.inr hx) _) (.inr hx) _) (.inr hx) _) (.inr hx) _) (.inr hx) _) (.inr hx) _
theorem below_set6 {B xb:Nat} {w:World} (hx:B≤xb) (v1 v2 v3 v4 v5 v6:Value) :
  Below B w ((((((w.setCell ⟨xb,1,none⟩ v1).setCell ⟨xb,2,none⟩ v2).setCell ⟨xb,3,none⟩ v3).setCell ⟨xb,4,none⟩ v4).setCell ⟨xb,5,none⟩ v5).setCell ⟨xb,6,none⟩ v6):=
 ((((((Below.refl B w).setCell hx _).setCell hx _).setCell hx _).setCell hx _).setCell hx _).setCell hx _
theorem strOf_size (xs:List Int):(strOfNums xs).size=xs.length:=by simp [strOfNums,ByteArray.size]
theorem namesD_sizes:∀{k:Nat} {r:Rd} {ns:List ByteArray},AllBytes r.b→(∀s∈ns,s.size≤10)→∀s∈(namesD k r ns).2,s.size≤10
 |0,_,_,_,h=>h
 |k+1,r,ns,hb,h=>by
  unfold namesD
  split
  ·exact h
  ·split
   ·have hc:=cnt_range (most:=10) (r:=r) (by decide) hb
    refine namesD_sizes (fun x hx=>cnt_bytes hb x (List.mem_of_mem_drop hx)) fun s hs=>?_
    rcases List.mem_append.1 hs with hs|hs
    ·exact h s hs
    ·rw [List.mem_singleton.1 hs,strOf_size,List.length_take]
     omega
   ·exact h
theorem base_box {w:World} {xb:Nat} {a0 a1 a2 a3 a4 a5 a6 a7:Value} {T:TypeId} (h:w.heap[xb]?=some (.cells #[a0,a1,a2,a3,a4,a5,a6,a7] T)) :
  w.cell? ⟨xb,0,none⟩=some a0∧w.cell? ⟨xb,1,none⟩=some a1∧w.cell? ⟨xb,2,none⟩=some a2∧w.cell? ⟨xb,3,none⟩=some a3∧w.cell? ⟨xb,4,none⟩=some a4∧w.cell? ⟨xb,5,none⟩=some a5∧w.cell? ⟨xb,6,none⟩=some a6∧w.cell? ⟨xb,7,none⟩=some a7∧∀o,w.frozen? ⟨xb,o,none⟩=false:=by
 simp [World.cell?,World.frozen?,h]
theorem entsD_go {k:Nat} {r:Rd} {l:List Ent} (h:r.e=0):entsD (k+1) r l=entsD k (entW r l) (l++[(entD r (keyL l)).2]):=by
 conv=>lhs;unfold entsD
 rw [if_neg (fun hn=>hn h)]
end Go.Proofs.YtnjfkcimboidnaaDoor

/- The walk of file.Decode. -/
namespace Go.Proofs.YtnjfkcimboidnaaDoor
open Go.RowKit
def DecPost (bs:List Int) (w:World) (x:Ending) (w':World):Prop:=
 Below w.heap.size w w'∧((∃E,E≠0∧x = .returned (.tuple #[zeroB, .int .i64 E])∧(decE bs=E∨(decE bs=0∧MadeBad (bodyN (bodyOf bs)).2 (bodyN (bodyOf bs)).1.num.2 (bodyE (bodyOf bs)).2))) ∨
  (decE bs=0∧∃sn sc g0 l0 p0 g1 l1 p1 g2 l2 p2,∃T:Nat→Tr,x = .returned (.tuple #[.agg (baCells sn (bodyN (bodyOf bs)).2.length sc g0 l0 p0 g1 l1 p1 g2 l2 p2 ⟨(bodyN (bodyOf bs)).2,T 0,T 1,T 2,(bodyN (bodyOf bs)).1.num.2⟩), .int .i64 0])∧MadeOk (bodyN (bodyOf bs)).2 (bodyN (bodyOf bs)).1.num.2 (bodyE (bodyOf bs)).2 T ∧
   ∀w'',Keep w.heap.size w' w''→BaseAt w'' (.agg (baCells sn (bodyN (bodyOf bs)).2.length sc g0 l0 p0 g1 l1 p1 g2 l2 p2 ⟨(bodyN (bodyOf bs)).2,T 0,T 1,T 2,(bodyN (bodyOf bs)).1.num.2⟩)) ⟨(bodyN (bodyOf bs)).2,T 0,T 1,T 2,(bodyN (bodyOf bs)).1.num.2⟩))
set_option maxRecDepth 100000 in
set_option maxHeartbeats 8000000 in
theorem decode_any {v:Value} {bs:List Int} {w:World} (h:ByteSl w v bs) (hb:AllBytes bs) (hsz:SizesAt w):Calls Tryd.prog 22 #[v] w (DecPost bs w):=by
 have HSL:=Lib.hid h
 have HAB:=Lib.hid hb
 have HSZ:=Lib.hid hsz
 obtain⟨ao,cap,rfl,a1,a2,a3,a4,a5⟩:=h
 obtain⟨W0,hW0⟩:∃W0,W0=w.alloc (.cells zeroBC 35):=⟨_,rfl⟩
 have HB0:=Lib.hid (show Below w.heap.size w W0 by rw [hW0];exact belowAuto)
 have hz0:W0.heap.size=w.heap.size+1:=by rw [hW0];simp
 have k0:W0.heap[w.heap.size]?=some (.cells zeroBC 35):=by rw [hW0];exact heap_new _ _ rfl
 have HK0:=Lib.hid (And.intro k0 hz0)
 obtain⟨r0,r1,r2,r3,r4,r5,r6,r7,rf⟩:W0.cell? ⟨w.heap.size,0,none⟩=some (.slice none 0 0)∧W0.cell? ⟨w.heap.size,1,none⟩=some (.slice none 0 0)∧W0.cell? ⟨w.heap.size,2,none⟩=some (.int .i64 0)∧W0.cell? ⟨w.heap.size,3,none⟩=some (.slice none 0 0)∧W0.cell? ⟨w.heap.size,4,none⟩=some (.int .i64 0)∧W0.cell? ⟨w.heap.size,5,none⟩=some (.slice none 0 0)∧W0.cell? ⟨w.heap.size,6,none⟩=some (.int .i64 0)∧W0.cell? ⟨w.heap.size,7,none⟩=some (.int .i64 0)∧∀o,W0.frozen? ⟨w.heap.size,o,none⟩=false:=by simp [World.cell?,World.frozen?,k0,zeroBC]
 clear hb hsz hz0 k0
 by_cases h1:200000<bs.length
 ·have h1':(200000:Int)<(bs.length:Int):=by omega
  have HD:=Lib.hid (show decE bs=1 from if_pos h1)
  go_enter Tryd.func22,Tryd.ntmps22
  go_upto_region 1 with (fail)
  rw [←hW0]
  clear hW0 h1
  go_wp2_with fail
  exact bodyPost_ret (v:= .tuple #[zeroB, .int .i64 1]) (by simp [results,Tryd.results22,go_sem, *]) rfl ⟨below_set8' HB0.out (Nat.le_refl _) _ _ _ _ _ _ _ _, .inl ⟨1,by decide,rfl, .inl HD.out⟩⟩
 have hd1:decide ((200000:Int)<(bs.length:Int))=false:=decide_eq_false (by omega)
 by_cases h2:bs.length<6
 ·have h2':(bs.length:Int)<6:=by omega
  have HD:=Lib.hid (show decE bs=5 from (if_neg h1).trans (if_pos h2))
  go_enter Tryd.func22,Tryd.ntmps22
  go_upto_region 1 with (fail)
  rw [←hW0]
  clear hW0 h1 h2
  go_wp2_with fail
  exact bodyPost_ret (v:= .tuple #[zeroB, .int .i64 5]) (by simp [results,Tryd.results22,go_sem, *]) rfl ⟨below_set8' HB0.out (Nat.le_refl _) _ _ _ _ _ _ _ _, .inl ⟨5,by decide,rfl, .inl HD.out⟩⟩
 have hd2:decide ((bs.length:Int)<6)=false:=decide_eq_false (by omega)
 obtain⟨ab,off,rfl,abb,ac⟩:=a5 (by omega)
 have hw0:Below w.heap.size w W0:=HB0.out
 have hsl2:=(sl_take (m:=2) HSL.out (by omega)).below hw0 (Nat.le_refl _)
 have hcv:=ByteSl.str hsl2
 obtain⟨N2,hN2⟩:∃N2,strOfNums (bs.take 2)=N2:=⟨_,rfl⟩
 have hN2t:=str_two HAB.out hN2
 rw [hN2]at hcv
 have hc2:2≤cap:=by omega
 by_cases h3:bs.take 2≠[119,110]
 ·have HD:=Lib.hid (show decE bs=4 from (if_neg h1).trans ((if_neg h2).trans (if_pos h3)))
  have h3':(N2.toList == [119,110])=false:=hN2t.2 h3
  go_enter Tryd.func22,Tryd.ntmps22
  go_upto_region 1 with (fail)
  rw [←hW0]
  clear hW0 hN2 hN2t h3 h1 h2 hsl2
  go_wp2_with fail
  exact bodyPost_ret (v:= .tuple #[zeroB, .int .i64 4]) (by simp [results,Tryd.results22,go_sem, *]) rfl ⟨below_set8' HB0.out (Nat.le_refl _) _ _ _ _ _ _ _ _, .inl ⟨4,by decide,rfl, .inl HD.out⟩⟩
 have h3':(N2.toList == [119,110])=true:=hN2t.1 (Decidable.not_not.1 h3)
 obtain⟨k,hk⟩:∃k,bs.length=k+4:=⟨bs.length-4,by omega⟩
 have hsm:=((sl_take (m:=k) HSL.out (by omega)).below hw0 (Nat.le_refl _))
 have HSM:=Lib.hid hsm
 have hcell:∀i (h:i<bs.length),W0.cell? ⟨ab,off+i,none⟩=some (.int .u8 bs[i]):=fun i h=>(hw0.cell (p:=⟨ab,off+i,none⟩) abb).trans (byteSl_cell ac h)
 have c0:=hcell k (by omega)
 have c1:=hcell (k+1) (by omega)
 have c2:=hcell (k+2) (by omega)
 have c3:=hcell (k+3) (by omega)
 have g0:=HAB.out _ (List.getElem_mem (show k<bs.length by omega))
 have g1:=HAB.out _ (List.getElem_mem (show k+1<bs.length by omega))
 have g2:=HAB.out _ (List.getElem_mem (show k+2<bs.length by omega))
 have g3:=HAB.out _ (List.getElem_mem (show k+3<bs.length by omega))
 have hdrop:bs.drop (bs.length-4)=[bs[k],bs[k+1],bs[k+2],bs[k+3]]:=drop_four hk
 obtain⟨b0,hb0⟩:∃b,bs[k]=b:=⟨_,rfl⟩
 obtain⟨b1,hb1⟩:∃b,bs[k+1]=b:=⟨_,rfl⟩
 obtain⟨b2,hb2⟩:∃b,bs[k+2]=b:=⟨_,rfl⟩
 obtain⟨b3,hb3⟩:∃b,bs[k+3]=b:=⟨_,rfl⟩
 rw [hb0]at c0 g0 hdrop
 rw [hb1]at c1 g1 hdrop
 rw [hb2]at c2 g2 hdrop
 rw [hb3]at c3 g3 hdrop
 have HOR:=Lib.hid (or_three g0 g1 g2 g3)
 have HKL:=Lib.hid hk
 have HSP:=Lib.hid (seal_parts (M:=bs.take (bs.length-4)) g0 g1 g2 g3)
 have HDR:=Lib.hid hdrop
 have HSUM:=Lib.hid (sum_any (w:=W0.drew) (SlAt.below HSM.out (Below.refl _ _).drew (Nat.le_refl _)) (fun x hx=>HAB.out x (List.mem_of_mem_take hx)))
 obtain⟨X,hX⟩:∃X,(sealXY (bs.take k)).2*65536+(sealXY (bs.take k)).1=X:=⟨_,rfl⟩
 rw [hX]at HSUM
 have HX:=Lib.hid hX
 have hix0:=fun w'=>idx_bytes (ab:=ab) (aoff:=off) (n:=bs.length) (cap:=cap) (show (k:Int)=((k:Nat):Int) by rfl) (by omega) w'
 have hix1:=fun w'=>idx_bytes (ab:=ab) (aoff:=off) (n:=bs.length) (cap:=cap) (show (k:Int)+1=((k+1:Nat):Int) by omega) (by omega) w'
 have hix2:=fun w'=>idx_bytes (ab:=ab) (aoff:=off) (n:=bs.length) (cap:=cap) (show (k:Int)+2=((k+2:Nat):Int) by omega) (by omega) w'
 have hix3:=fun w'=>idx_bytes (ab:=ab) (aoff:=off) (n:=bs.length) (cap:=cap) (show (k:Int)+3=((k+3:Nat):Int) by omega) (by omega) w'
 have n4:(bs.length:Int)-4=(k:Int):=by omega
 have hkc:k≤cap:=by omega
 have hkl:k≤199996:=by omega
 have HH1:=Lib.hid h1
 have HH2:=Lib.hid h2
 have HH3:=Lib.hid h3
 clear hb0 hb1 hb2 hb3 hdrop hcell hsm hsl2 hk h3 h2 h1 n4
 go_enter Tryd.func22,Tryd.ntmps22
 go_upto_region 1 with (fail)
 rw [←hW0]
 clear hW0 hN2 hN2t
 go_upto_region 8 with (fail)
 have n4:(bs.length:Int)-4=(k:Int):=by have:=HKL.out;omega
 rw [n4]
 obtain⟨o1,o2,o3⟩:=HOR.out
 clear n4
 obtain⟨wb0,wb1,wb2,wb3⟩:IntKind.i64.wrap b0=b0∧IntKind.i64.wrap b1=b1∧IntKind.i64.wrap b2=b2∧IntKind.i64.wrap b3=b3:=⟨IntWalk.i64_in _ (by omega),IntWalk.i64_in _ (by omega),IntWalk.i64_in _ (by omega),IntWalk.i64_in _ (by omega)⟩
 obtain⟨ws0,ws1,ws2⟩:IntKind.i64.wrap (b0*16777216)=b0*16777216∧IntKind.i64.wrap (b1*65536)=b1*65536∧IntKind.i64.wrap (b2*256)=b2*256:=⟨IntWalk.i64_in _ (by omega),IntWalk.i64_in _ (by omega),IntWalk.i64_in _ (by omega)⟩
 obtain⟨wk1,wk2,wk3⟩:IntKind.i64.wrap ((k:Int)+1)=(k:Int)+1∧IntKind.i64.wrap ((k:Int)+2)=(k:Int)+2∧IntKind.i64.wrap ((k:Int)+3)=(k:Int)+3:=⟨IntWalk.i64_in _ (by omega),IntWalk.i64_in _ (by omega),IntWalk.i64_in _ (by omega)⟩
 refine wp_region_schedG [(0,1),(1,1),(2,1),(4,1),(5,1),(6,1),(7,0),(8,1),(9,1),(10,1),(11,1),(12,1),(13,1),(14,0),(15,1),(16,1),(17,1),(18,1),(19,1),(20,1),(21,1),(22,0),(23,1),(24,1),(25,1),(26,1),(27,1),(28,1),(29,1),(30,0),(31,1),(32,1),(3,2),(33,3)] 33
  (fun W=>W.cell? ⟨ab,off+k,none⟩=some (.int .u8 b0)∧W.cell? ⟨ab,off+(k+1),none⟩=some (.int .u8 b1)∧W.cell? ⟨ab,off+(k+2),none⟩=some (.int .u8 b2)∧W.cell? ⟨ab,off+(k+3),none⟩=some (.int .u8 b3)) (by kernel_rfl) (by kernel_rfl) ⟨c0,c1,c2,c3⟩ ?_
 (simp only [pickS,List.filterMap_cons,List.filterMap_nil,List.getElem?_cons_zero,List.getElem?_cons_succ,Option.map_some])
 (repeat (first|((refine schedG_pure (v:=?_) ?_ (fun W=>?_) ?_);rotate_left;(focus (first|exact wanted_bare rfl _|exact wanted_yes rfl rfl rfl rfl));(focus (go_simp;(try with_reducible rfl);done));(try simp only [Act.put,List.setIfInBounds_toArray,List.set_cons_zero,List.set_cons_succ]))|((refine schedG_read (v:=?_) ?_ (fun W hW=>?_) ?_);rotate_left;(focus (first|exact wanted_bare rfl _|exact wanted_yes rfl rfl rfl rfl));(focus ((try dsimp only at hW);go_simp;(try with_reducible rfl);done));(try simp only [Act.put,List.setIfInBounds_toArray,List.set_cons_zero,List.set_cons_succ]))|((refine schedG_skip ?_ ?_);(focus exact wanted_no rfl rfl rfl rfl);(try simp only [Act.put,List.setIfInBounds_toArray,List.set_cons_zero,List.set_cons_succ]))))
 refine schedG_does ?_ (fun K hK=>?_)
 (focus (first|exact wanted_bare rfl _|exact wanted_yes rfl rfl rfl rfl))
 go_simp
 (with_reducible refine HSUM.out.mono ?_);rintro x wx ⟨rfl,rfl⟩
 go_simp
 refine hK _ _ ⟨c0,c1,c2,c3⟩ ?_
 clear hK K
 (repeat (first|((refine schedG_pure (v:=?_) ?_ (fun W=>?_) ?_);rotate_left;(focus (first|exact wanted_bare rfl _|exact wanted_yes rfl rfl rfl rfl));(focus (go_simp;(try with_reducible rfl);done));(try simp only [Act.put,List.setIfInBounds_toArray,List.set_cons_zero,List.set_cons_succ]))|((refine schedG_read (v:=?_) ?_ (fun W hW=>?_) ?_);rotate_left;(focus (first|exact wanted_bare rfl _|exact wanted_yes rfl rfl rfl rfl));(focus ((try dsimp only at hW);go_simp;(try with_reducible rfl);done));(try simp only [Act.put,List.setIfInBounds_toArray,List.set_cons_zero,List.set_cons_succ]))|((refine schedG_skip ?_ ?_);(focus exact wanted_no rfl rfl rfl rfl);(try simp only [Act.put,List.setIfInBounds_toArray,List.set_cons_zero,List.set_cons_succ]))))
 refine schedG_last ?_ (fun K hK=>?_)
 (focus (first|exact wanted_bare rfl _|exact wanted_yes rfl rfl rfl rfl))
 go_simp
 refine hK _ _ ?_
 clear hK K
 refine schedG_end ?_
 obtain⟨V0,hV0⟩:∃V,V=W0.drew:=⟨_,rfl⟩
 have hv0:Below w.heap.size w V0:=by rw [hV0];exact HB0.out.drew
 have HV0:=Lib.hid hv0
 have HK0:Hid (V0.heap[w.heap.size]?=some (.cells zeroBC 35)∧V0.heap.size=w.heap.size+1):=by rw [hV0];exact HK0
 have HSLV:=Lib.hid (SlAt.below HSL.out hv0 (Nat.le_refl _))
 obtain⟨r0,r1,r2,r3,r4,r5,r6,r7,rf⟩:V0.cell? ⟨w.heap.size,0,none⟩=some (.slice none 0 0)∧V0.cell? ⟨w.heap.size,1,none⟩=some (.slice none 0 0)∧V0.cell? ⟨w.heap.size,2,none⟩=some (.int .i64 0)∧V0.cell? ⟨w.heap.size,3,none⟩=some (.slice none 0 0)∧V0.cell? ⟨w.heap.size,4,none⟩=some (.int .i64 0)∧V0.cell? ⟨w.heap.size,5,none⟩=some (.slice none 0 0)∧V0.cell? ⟨w.heap.size,6,none⟩=some (.int .i64 0)∧V0.cell? ⟨w.heap.size,7,none⟩=some (.int .i64 0)∧∀o,V0.frozen? ⟨w.heap.size,o,none⟩=false:=by rw [hV0];exact⟨r0,r1,r2,r3,r4,r5,r6,r7,rf⟩
 rw [←hV0]
 have hk4:bs.length-4=k:=by have:=HKL.out;omega
 have HSP:=Lib.hid (show (X=b0*16777216+b1*65536+b2*256+b3)↔sealL (bs.take (bs.length-4))=bs.drop (bs.length-4) by
  rw [HDR.out,←HSP.out,hk4,HX.out])
 clear hV0 hv0 HSUM HDR HX HOR o1 o2 o3 wb0 wb1 wb2 wb3 ws0 ws1 ws2 wk1 wk2 wk3 hix0 hix1 hix2 hix3 c0 c1 c2 c3 HB0 hw0 hcv h3' hd1 hd2 HSM
 by_cases h4:X=b0*16777216+b1*65536+b2*256+b3
 case neg=>
  have HD:=Lib.hid (show decE bs=9 from (if_neg HH1.out).trans ((if_neg HH2.out).trans ((if_neg HH3.out).trans (if_pos (fun e=>h4 (HSP.out.2 e))))))
  have h4':(X == b0*16777216+b1*65536+b2*256+b3)=false:=by simp [h4]
  clear h4 HSP
  go_wp2_with fail
  exact bodyPost_ret (v:= .tuple #[zeroB, .int .i64 9]) (by simp [results,Tryd.results22,go_sem, *]) rfl ⟨below_set8' HV0.out (Nat.le_refl _) _ _ _ _ _ _ _ _, .inl ⟨9,by decide,rfl, .inl HD.out⟩⟩
 have HD:=Lib.hid (show decE bs=(bodyR (bodyOf bs)).e from (if_neg HH1.out).trans ((if_neg HH2.out).trans ((if_neg HH3.out).trans (if_neg (fun hn=>hn (HSP.out.1 h4))))))
 have h4':(X == b0*16777216+b1*65536+b2*256+b3)=true:=by simp [h4]
 clear HSP h4 g0 g1 g2 g3
 have hk2:2≤k:=by have:=HH2.out;have:=HKL.out;omega
 have hk2':(2:Int)≤(k:Int):=by omega
 obtain⟨o,hsel,ho⟩:∃o,(if cap=2 then some (⟨ab,off,none⟩:Addr)else some ⟨ab,off+2,none⟩)=some ⟨ab,o,none⟩∧(2<cap→o=off+2):=by
  by_cases h1:cap=2
  ·exact⟨off,if_pos h1,fun h=>by omega⟩
  ·exact⟨off+2,if_neg h1,fun _=>rfl⟩
 have HBD:=Lib.hid (show ByteSl V0 (.slice (some ⟨ab,o,none⟩) (k-2) (cap-2)) (bodyOf bs) by
  have e1:(bs.take k).length=k:=by rw [List.length_take];have:=HKL.out;omega
  have h1:=sl_take (m:=k) HSLV.out (by have:=HKL.out;omega)
  rw [show ByteSl V0 (.slice (some ⟨ab,off,none⟩) k cap) (bs.take k)=ByteSl V0 (.slice (some ⟨ab,off,none⟩) (bs.take k).length cap) (bs.take k) by rw [e1]]at h1
  have h2:=sl_drop (m:=2) h1 (by omega) o ho
  rw [e1]at h2
  unfold bodyOf
  rw [hk4]
  exact h2)
 clear HSL HSLV a1 a2 a3 a4 a5 ac
 go_upto_region 12 with (fail)
 obtain⟨rb,hrb⟩:∃rb,V0.heap.size=rb:=⟨_,rfl⟩
 have HRB:=Lib.hid (show rb=w.heap.size+1 by rw [←hrb];exact HK0.out.2)
 obtain⟨W2,hW2⟩:∃W,W=V0.alloc (.cells #[.slice (some ⟨ab,o,none⟩) (k-2) (cap-2), .int .i64 0] 90):=⟨_,rfl⟩
 have hb2:Below V0.heap.size V0 W2:=by rw [hW2];exact belowAuto
 have hbk:W2.heap[rb]?=some (.cells #[.slice (some ⟨ab,o,none⟩) (k-2) (cap-2), .int .i64 0] 90):=by rw [hW2,←hrb];exact heap_new _ _ rfl
 have hz2:W2.heap.size=rb+1:=by rw [hW2,←hrb];simp
 have HR2:=Lib.hid (show RdAt W2 rb (.slice (some ⟨ab,o,none⟩) (k-2) (cap-2)) ⟨bodyOf bs,0⟩ from
  ⟨hbk,SlAt.below HBD.out hb2 (Nat.le_refl _),body_bytes HAB.out,⟨_,_,_,by rw [show (bodyOf bs).length=k-2 by unfold bodyOf;rw [List.length_drop,List.length_take];have:=HKL.out;omega],by have:=HRB.out;omega⟩⟩)
 have HB2:=Lib.hid (And.intro (Below.trans' HV0.out hb2 (by have:=HK0.out.2;omega)) hz2)
 have HK2:Hid (W2.heap[w.heap.size]?=some (.cells zeroBC 35)):=Lib.hid ((hb2.block _ (by have:=HK0.out.2;omega)).trans HK0.out.1)
 rw [←hW2,hrb]
 have HC:=Lib.hid (count_rd (most:=16) HR2.out)
 have hcr:=cnt_range (r:=⟨bodyOf bs,0⟩) (most:=16) (by decide) HR2.out.ok
 obtain⟨q,hq⟩:∃q,(Rd.mk (bodyOf bs) 0).cnt 16=q:=⟨_,rfl⟩
 rw [hq]at HC hcr
 obtain⟨r1',cn⟩:=q
 obtain⟨n,rfl⟩:∃n:Nat,cn=n:=⟨cn.toNat,by have:=hcr.1;simp only at this;omega⟩
 have hn16:n≤16:=by have:=hcr.2;simp only at this;omega
 have HN:=Lib.hid (show bodyN (bodyOf bs)=namesD n r1' [] by unfold bodyN;rw [hq];rfl)
 clear hW2 hb2 hbk hz2 hq hcr hrb r0 r1 r2 r3 r4 r5 r6 r7 rf hsel ho hk2' HBD
 go_upto_block 0 with (first|fail|(go_at_call 40;(with_reducible refine HC.out.mono ?_);rintro e w3 ⟨rfl,hT3,v3,hR3⟩))
 go_cut [6,7,9]from 74 to 127 (fun nv _ _ wx=>∃(ns:List ByteArray) (v:Value) (r:Rd),Hid (bodyN (bodyOf bs)=(r,ns)∧ns.length≤16)∧Hid (OwnStrs (rb+1) wx nv ns∧Below rb W2 wx∧RdAt wx rb v r))
 case first=>
  have HI:=Lib.hid (show Below rb W2 w3 from hT3.below (Below.refl _ _) (by have:=HB2.out.2;omega) (fun i h=>by have h:i=rb:=h;omega))
  have HR3:=Lib.hid hR3
  have HNA:=Lib.hid (OwnStrs.nil (rb+1) w3)
  have HBZ:=Lib.hid hT3.size
  clear hR3 hT3 HC HR2
  go_wp2_with fail
  go_loopg [6,7] n (fun g nv iv wr=>∃(q:Nat) (ns:List ByteArray),q≤n∧g=n-q∧iv = .int .i64 q∧Hid (OwnStrs (rb+1) wr nv ns∧ns.length≤q)∧Hid (∃(v:Value) (r:Rd),Below rb W2 wr∧RdAt wr rb v r∧bodyN (bodyOf bs)=namesD (n-q) r ns))
  case atStart=>exact⟨0,[],Nat.zero_le _,rfl,rfl,Lib.hid ⟨HNA.out,Nat.le_refl _⟩,Lib.hid ⟨_,_,HI.out,HR3.out,HN.out⟩⟩
  case round=>
   clear HI HR3 HNA
   obtain⟨q,ns,hq,rfl,rfl,HO,HR⟩:=hrel
   obtain⟨v,r,hbw,hr,hnm⟩:=HR.out
   have HNM:=Lib.hid hnm
   have HRR:=Lib.hid hr
   have HBW:=Lib.hid hbw
   obtain⟨cc0,cc1,ccf⟩:=hr.cells
   obtain⟨so,sc,rfl⟩:=HO.out.1.isSlice
   clear HR hbw hr hnm
   by_cases hlt:q<n
   ·have hlt':(q:Int)<(n:Int):=by omega
    by_cases he:r.e=0
    ·rw [he]at cc1
     have HCT:=Lib.hid (count_rd (most:=10) HRR.out)
     have hgo:=namesD_go (k:=n-(q+1)) (ns:=ns) he
     have hrng:=cnt_range (r:=r) (most:=10) (by decide) HRR.out.ok
     rw [show n-(q+1)+1=n-q by omega]at hgo
     obtain⟨p,hp⟩:∃p,r.cnt 10=p:=⟨_,rfl⟩
     rw [hp]at HCT hgo hrng
     obtain⟨rc,m'⟩:=p
     obtain⟨m,rfl⟩:∃m:Nat,m'=m:=⟨m'.toNat,by have:=hrng.1;simp only at this;omega⟩
     have hm10:m≤10:=by have:=hrng.2;simp only at this;omega
     have HGO:=Lib.hid hgo
     clear hp hgo hrng he
     go_upto_region 16 with (first|fail|(go_at_call 40;(with_reducible refine HCT.out.mono ?_);rintro e w4 ⟨rfl,hT4,v4,hR4⟩))
     have HO4:=Lib.hid (HO.out.1.turn hT4)
     have HB4:=Lib.hid (hT4.below HBW.out (by have:=HBW.out.size;have:=HB2.out.2;omega) (fun i h=>by have h:i=rb:=h;omega):Below rb W2 w4)
     have HR4:=Lib.hid hR4
     have HZ4:=Lib.hid hT4.size
     obtain⟨d0,d1,df⟩:=hR4.cells
     obtain⟨vb,vo,vc,rfl,hvb⟩:=hR4.form
     clear hR4 hT4 HCT cc0 cc1 ccf HRR
     by_cases hce:rc.e=0
     ·have d1':=d1
      rw [hce]at d1
      by_cases hml:m≤rc.b.length
      ·have HNX:=Lib.hid (HNM.out.trans (HGO.out.1 ⟨hce,by show ((m:Nat):Int)≤_;omega⟩))
       have hml':¬((rc.b.length:Int)<(m:Int)):=by omega
       have s1:rc.b.length≤vc:=by
        obtain⟨_,_,hvv,s1,-⟩:=HR4.out.sl
        injection hvv with _ _ hv3
        subst hv3
        exact s1
       obtain⟨S,hS⟩:∃S,strOfNums (rc.b.take m)=S:=⟨_,rfl⟩
       have hcs:=ByteSl.str (sl_take (m:=m) HR4.out.sl hml)
       rw [hS]at hcs
       have hmc:m≤vc:=by omega
       have HSS:=Lib.hid hS
       have hnl:ns.length≤1000000:=by have:=HO.out.2;omega
       have HML:=Lib.hid hml
       clear hS hml
       go_upto_region 20 with ((at_builtin;refine wpList_append_strs rfl (.tmp 109) (.tmp 117) rfl (rb+1) _ ns rfl (HO4.out.alloc _) ⟨w4.heap.size,0,none⟩ S rfl str_new (by omega) (by simp;have:=HB4.out.size;have:=HB2.out.2;omega) ?_;intro v5 w5 own5 hg5))
       have hb5:Below (rb+1) w4 w5:=hg5 (rb+1) w4 ((Below.refl _ _).alloc (by have:=HB4.out.size;have:=HB2.out.2;omega) _) (Nat.le_refl _)
       have hr5:=HR4.out.later hb5
       obtain⟨e0,e1,ef⟩:=hr5.cells
       have HB5:=Lib.hid (show Below rb W2 w5 from hg5 rb W2 (HB4.out.alloc (by have:=HB4.out.size;have:=HB2.out.2;omega) _) (Nat.le_succ _))
       have HR5:=Lib.hid hr5
       have HO5:=Lib.hid own5
       have HOL:=Lib.hid HO.out.2
       obtain⟨o5,hsel5,ho5⟩:∃o,(if vc=m then some (⟨vb,vo,none⟩:Addr)else some ⟨vb,vo+m,none⟩)=some ⟨vb,o,none⟩∧(m<vc→o=vo+m):=by
        by_cases h1:vc=m
        ·exact⟨vo,if_pos h1,fun h=>by omega⟩
        ·exact⟨vo+m,if_neg h1,fun _=>rfl⟩
       have HD5:=Lib.hid (sl_drop (m:=m) HR5.out.sl HML.out o5 ho5)
       clear hg5 own5 hr5 hb5 d0 d1 d1' df hcs HO HO4 HBW ho5
       go_wp2_with fail
       have HS5:=HR5.out.setB HD5.out ⟨_,_,_,by rw [List.length_drop],hvb⟩ (fun x hx=>HR5.out.ok x (List.mem_of_mem_drop hx))
       rw [hce]at HS5
       go_roundg (n-(q+1))
       case measure=>omega
       case rel=>exact⟨q+1,ns++[S],hlt,rfl,by go_num,Lib.hid ⟨HO5.out.turn HS5.1,by have:=HOL.out;rw [List.length_append];simp only [List.length_singleton];omega⟩,Lib.hid ⟨_,_,HS5.1.below HB5.out (by have:=HB5.out.size;have:=HB2.out.2;omega) (fun i h=>by have h:i=rb:=h;omega),HS5.2,HNX.out.trans (by rw [Int.toNat_natCast,HSS.out])⟩⟩
      ·have HNX:=Lib.hid (HNM.out.trans (HGO.out.2.2 hce (by first|omega|(dsimp only;omega))))
       have hml':(rc.b.length:Int)<(m:Int):=by omega
       have HW:=Lib.hid (wrong_any (e:=5) HR4.out)
       have HWR:=Lib.hid (show rc.wrong 5=⟨rc.b,5⟩from if_pos hce)
       go_upto_region 18 with (first|fail|(go_at_call 41;(with_reducible refine HW.out.mono ?_);rintro e w5 ⟨rfl,hT5,hR5⟩))
       rw [HWR.out]at hR5
       obtain⟨f0,f1,ff⟩:=hR5.cells
       have HR5:=Lib.hid hR5
       clear hR5 d0 d1 d1' df hce hml hml'
       go_wp2_with fail
       go_roundg (n-(q+1))
       case measure=>omega
       case rel=>exact⟨q+1,ns,hlt,rfl,by go_num,Lib.hid ⟨HO4.out.turn hT5,by have:=HO.out.2;omega⟩,Lib.hid ⟨_,_,hT5.below HB4.out (by have:=HB4.out.size;have:=HB2.out.2;omega) (fun i h=>by have h:i=rb:=h;omega),HR5.out,HNX.out.trans (namesD_stop (show (5:Int)≠0 by decide)).symm⟩⟩
     ·have HNX:=Lib.hid (HNM.out.trans (HGO.out.2.1 hce))
      have HCE:=Lib.hid hce
      have hce':(rc.e == 0)=false:=by simp [hce]
      clear hce
      go_wp2_with fail
      go_roundg (n-(q+1))
      case measure=>omega
      case rel=>exact⟨q+1,ns,hlt,rfl,by go_num,Lib.hid ⟨HO4.out,by have:=HO.out.2;omega⟩,Lib.hid ⟨_,_,HB4.out,HR4.out,HNX.out.trans (namesD_stop HCE.out).symm⟩⟩
    ·have he':(r.e == 0)=false:=by simp [he]
     clear hlt
     go_wp2_with fail
     go_meet
     exact⟨ns,v,r,Lib.hid ⟨HNM.out.trans (namesD_stop he),by have:=HO.out.2;omega⟩,Lib.hid ⟨HO.out.1,HBW.out,HRR.out⟩⟩
   ·have hlt':¬(q:Int)<(n:Int):=by omega
    go_wp2_with fail
    go_meet
    exact⟨ns,v,r,Lib.hid ⟨HNM.out.trans (by rw [show n-q=0 by omega];rfl),by have:=HO.out.2;omega⟩,Lib.hid ⟨HO.out.1,HBW.out,HRR.out⟩⟩
 case rest=>
  obtain⟨ns,v,r,HNN,HA⟩:=hcut
  obtain⟨nso,nsc,rfl⟩:=HA.out.1.isSlice
  have HF:=Lib.hid (number_rd HA.out.2.2)
  have hfr:=num_range HA.out.2.2.ok
  obtain⟨p,hp⟩:∃p,r.num=p:=⟨_,rfl⟩
  have HP:=Lib.hid hp
  rw [hp]at HF hfr
  obtain⟨rf,fl⟩:=p
  have HFR:=Lib.hid hfr
  clear HC HR2 hp hfr HN
  go_upto_region 24 with (first|fail|(go_at_call 42;(with_reducible refine HF.out.mono ?_);rintro e w7 ⟨rfl,hT7,v7,hR7⟩))
  have HO7:=Lib.hid (HA.out.1.turn hT7)
  have HB7:=Lib.hid (hT7.below HA.out.2.1 (by have:=HA.out.2.1.size;have:=HB2.out.2;omega) (fun i h=>by have h:i=rb:=h;omega):Below rb W2 w7)
  have HC7:=Lib.hid (count_rd (most:=10000) hR7)
  have hcr:=cnt_range (r:=rf) (most:=10000) (by decide) hR7.ok
  obtain⟨p,hp⟩:∃p,rf.cnt 10000=p:=⟨_,rfl⟩
  have HBC:=Lib.hid (show bodyC (bodyOf bs)=p by unfold bodyC;rw [HNN.out.1,HP.out];exact hp)
  rw [hp]at HC7 hcr
  obtain⟨rc,cm'⟩:=p
  obtain⟨cm,rfl⟩:∃m:Nat,cm'=m:=⟨cm'.toNat,by have:=hcr.1;simp only at this;omega⟩
  have hcm:cm≤10000:=by have:=hcr.2;simp only at this;omega
  clear hp hcr hR7 hT7 HF HA
  go_upto_block 2 with (first|fail|(go_at_call 40;(with_reducible refine HC7.out.mono ?_);rintro e w8 ⟨rfl,hT8,v8,hR8⟩))
  have HO8:=Lib.hid (HO7.out.turn hT8)
  have HB8:=Lib.hid (hT8.below HB7.out (by have:=HB7.out.size;have:=HB2.out.2;omega) (fun i h=>by have h:i=rb:=h;omega):Below rb W2 w8)
  have HR8:=Lib.hid hR8
  have hz8:rb<w8.heap.size:=by have:=HB8.out.size;have:=HB2.out.2;omega
  clear hT8 hR8 HC7
  go_cut [11,12,13,15]from 132 to 198 (fun tv _ _ _ wx=>∃(es:List Ent) (v:Value) (r:Rd),Hid (bodyE (bodyOf bs)=(r,es)∧es.length≤10000)∧Hid (OwnEnts w8.heap.size wx tv es∧TurnR rb w8 wx∧RdAt wx rb v r))
  case first=>
   have HE0:=Lib.hid (show bodyE (bodyOf bs)=entsD cm rc [] by unfold bodyE;rw [HBC.out];rfl)
   go_wp2_with fail
   go_loopg [11,12,13] cm (fun g tv kv iv wr=>∃(q:Nat) (es:List Ent),q≤cm∧g=cm-q∧iv = .int .i64 q∧kv = .int .i64 (keyL es)∧Hid (OwnEnts w8.heap.size wr tv es∧es.length=q)∧Hid (∃(v:Value) (r:Rd),TurnR rb w8 wr∧RdAt wr rb v r∧bodyE (bodyOf bs)=entsD (cm-q) r es∧(r.e=0→0≤keyL es∧keyL es<1099511627776)))
   case atStart=>exact⟨0,[],Nat.zero_le _,rfl,rfl,rfl,Lib.hid ⟨OwnEnts.nil _ _,rfl⟩,Lib.hid ⟨_,_,Turn.refl _ _,HR8.out,HE0.out,fun _=>by decide⟩⟩
   case round=>
    clear HE0
    obtain⟨q,es,hq,rfl,rfl,rfl,HO,HR⟩:=hrel
    obtain⟨v,r,htw,hr,hnm,hkr⟩:=HR.out
    have HNM:=Lib.hid hnm
    have HRR:=Lib.hid hr
    have HTW:=Lib.hid htw
    obtain⟨cc0,cc1,ccf⟩:=hr.cells
    obtain⟨so,sc,rfl⟩:=HO.out.1.isSlice
    clear HR htw hr hnm
    by_cases hlt:q<cm
    ·have hlt':(q:Int)<(cm:Int):=by omega
     by_cases he:r.e=0
     ·rw [he]at cc1
      obtain⟨hk0,hk1⟩:=hkr he
      obtain⟨p,hp0⟩:∃p,r.num=p:=⟨_,rfl⟩
      obtain⟨ra,nk⟩:=p
      obtain⟨p,hp1⟩:∃p,ra.num=p:=⟨_,rfl⟩
      obtain⟨rb1,c⟩:=p
      obtain⟨p,hp2⟩:∃p,rb1.sgn=p:=⟨_,rfl⟩
      obtain⟨rc1,s1⟩:=p
      obtain⟨p,hp3⟩:∃p,rc1.sgn=p:=⟨_,rfl⟩
      obtain⟨rd1,s2⟩:=p
      obtain⟨p,hp4⟩:∃p,rd1.sgn=p:=⟨_,rfl⟩
      obtain⟨re1,s3⟩:=p
      obtain⟨p,hp5⟩:∃p,re1.sgn=p:=⟨_,rfl⟩
      obtain⟨rx,s4⟩:=p
      have hnr:=num_range HRR.out.ok
      rw [hp0]at hnr
      have hnr:0≤nk∧nk<72057594037927936:=hnr
      have HC0:=Lib.hid (fun(W:World) (v:Value) (h:RdAt W rb v r)=>(by have:=number_rd h;rw [hp0]at this;exact this:Calls Tryd.prog 42 #[.pointer (some ⟨rb,0,none⟩)] W fun x w'=>x = .returned (.int .i64 nk)∧TurnR rb W w'∧∃v',RdAt w' rb v' ra))
      have HC1:=Lib.hid (fun(W:World) (v:Value) (h:RdAt W rb v ra)=>(by have:=number_rd h;rw [hp1]at this;exact this:Calls Tryd.prog 42 #[.pointer (some ⟨rb,0,none⟩)] W fun x w'=>x = .returned (.int .i64 c)∧TurnR rb W w'∧∃v',RdAt w' rb v' rb1))
      have HC2:=Lib.hid (fun(W:World) (v:Value) (h:RdAt W rb v rb1)=>(by have:=signed_rd h;rw [hp2]at this;exact this:Calls Tryd.prog 43 #[.pointer (some ⟨rb,0,none⟩)] W fun x w'=>x = .returned (.int .i64 s1)∧TurnR rb W w'∧∃v',RdAt w' rb v' rc1))
      have HC3:=Lib.hid (fun(W:World) (v:Value) (h:RdAt W rb v rc1)=>(by have:=signed_rd h;rw [hp3]at this;exact this:Calls Tryd.prog 43 #[.pointer (some ⟨rb,0,none⟩)] W fun x w'=>x = .returned (.int .i64 s2)∧TurnR rb W w'∧∃v',RdAt w' rb v' rd1))
      have HC4:=Lib.hid (fun(W:World) (v:Value) (h:RdAt W rb v rd1)=>(by have:=signed_rd h;rw [hp4]at this;exact this:Calls Tryd.prog 43 #[.pointer (some ⟨rb,0,none⟩)] W fun x w'=>x = .returned (.int .i64 s3)∧TurnR rb W w'∧∃v',RdAt w' rb v' re1))
      have HC5:=Lib.hid (fun(W:World) (v:Value) (h:RdAt W rb v re1)=>(by have:=signed_rd h;rw [hp5]at this;exact this:Calls Tryd.prog 43 #[.pointer (some ⟨rb,0,none⟩)] W fun x w'=>x = .returned (.int .i64 s4)∧TurnR rb W w'∧∃v',RdAt w' rb v' rx))
      have HED:=Lib.hid (show entD r (keyL es)=(rx,⟨keyL es+nk,⟨c,s1,s2,s3,(keyL es+nk)%1048576,s4⟩⟩) by simp only [entD,hp0,hp1,hp2,hp3,hp4,hp5])
      have hgo:bodyE (bodyOf bs)=entsD (cm-(q+1)) (entW r es) (es++[(entD r (keyL es)).2]):=HNM.out.trans (by rw [show cm-q=(cm-(q+1))+1 by omega];exact entsD_go he)
      obtain⟨K,hK⟩:∃K,keyL es=K:=⟨_,rfl⟩
      rw [hK]at HED hgo hk0 hk1
      rw [hK]
      obtain⟨P,hP⟩:∃P,K+nk=P:=⟨_,rfl⟩
      rw [hP]at HED
      have hP0:0≤P∧P<73156568704811008:=by omega
      have hwP:IntKind.i64.wrap (K+nk)=P:=by rw [hP];exact IntWalk.i64_in _ (by omega)
      have htP:P.tmod 1048576=P%1048576:=Int.tmod_eq_emod_of_nonneg hP0.1
      have hwt:IntKind.i64.wrap (P%1048576)=P%1048576:=IntWalk.i64_in _ (by omega)
      have HGO:=Lib.hid hgo
      have HK:=Lib.hid hK
      have HPP:=Lib.hid hP
      clear hp0 hp1 hp2 hp3 hp4 hp5 hgo he hP hkr hnr
      go_upto_region 29 with (first|fail|(go_at_call 42;(with_reducible refine(HC0.out _ _ HRR.out).mono ?_);rintro e w9 ⟨rfl,hT9,v9,hR9⟩))
      obtain⟨W10,hW10⟩:∃W,W=w9.alloc (.cells #[.int .i64 P, .int .i64 0, .int .i64 0, .int .i64 0, .int .i64 0, .int .i64 0, .int .i64 0] 96):=⟨_,rfl⟩
      have hz9:w8.heap.size≤w9.heap.size:=Nat.le_trans HTW.out.size hT9.size
      have HT9:=Lib.hid (HTW.out.trans hT9)
      have hO9:=HO.out.1.block fun g hg=>hT9.block g (HO.out.1.lt g hg).2 (fun e=>by have:=(HO.out.1.lt g hg).1;have e:g=rb:=e;omega)
      have hb10:Below w9.heap.size w9 W10:=by rw [hW10];exact belowAuto
      obtain⟨xb,hxb⟩:∃xb,w9.heap.size=xb:=⟨_,rfl⟩
      have kx:W10.heap[xb]?=some (.cells #[.int .i64 P, .int .i64 0, .int .i64 0, .int .i64 0, .int .i64 0, .int .i64 0, .int .i64 0] 96):=by rw [hW10,←hxb];exact heap_new _ _ rfl
      have hz10:W10.heap.size=xb+1:=by rw [hW10,←hxb];simp
      have HR10:=Lib.hid (hR9.later (hb10.mono (by omega)))
      have HO10:=Lib.hid (hO9.below hb10 (Nat.le_refl _))
      have HT10:=Lib.hid (HT9.out.trans (Turn.of hb10 (Nat.le_refl _)):TurnR rb w8 W10)
      have HX10:=Lib.hid (And.intro kx hz10)
      have HO9:=Lib.hid hO9
      have HBX:=Lib.hid hb10
      have HXB:=Lib.hid hxb
      have hxr:w8.heap.size≤xb:=by omega
      rw [←hW10,hxb]
      clear hW10 hT9 hR9 hO9 hb10 kx hz10 cc0 cc1 ccf HC0 hz9
      go_upto_region 30 with (first|fail|(go_at_call 42;(with_reducible refine(HC1.out _ _ HR10.out).mono ?_);rintro e w11 ⟨rfl,hT11,v11,hR11⟩)|(go_at_call 43;(first|((with_reducible refine(HC2.out _ _ hR11).mono ?_);rintro e w12 ⟨rfl,hT12,v12,hR12⟩)|((with_reducible refine(HC3.out _ _ hR12).mono ?_);rintro e w13 ⟨rfl,hT13,v13,hR13⟩)|((with_reducible refine(HC4.out _ _ hR13).mono ?_);rintro e w14 ⟨rfl,hT14,v14,hR14⟩)|((with_reducible refine(HC5.out _ _ hR14).mono ?_);rintro e w15 ⟨rfl,hT15,v15,hR15⟩;have hT:=((((hT11.trans hT12).trans hT13).trans hT14).trans hT15);have kx:=(hT.block xb (by have:=HX10.out.2;omega) (fun e=>by have e:xb=rb:=e;omega)).trans HX10.out.1;obtain⟨z0,z1,z2,z3,z4,z5,z6,zf⟩:=ent_box kx))))
      obtain⟨V,hV⟩:∃V,V=(((((w15.setCell ⟨xb,1,none⟩ (.int .i64 c)).setCell ⟨xb,2,none⟩ (.int .i64 s1)).setCell ⟨xb,3,none⟩ (.int .i64 s2)).setCell ⟨xb,4,none⟩ (.int .i64 s3)).setCell ⟨xb,5,none⟩ (.int .i64 (P%1048576))).setCell ⟨xb,6,none⟩ (.int .i64 s4):=⟨_,rfl⟩
      have kV:V.heap[xb]?=some (.cells #[.int .i64 P, .int .i64 c, .int .i64 s1, .int .i64 s2, .int .i64 s3, .int .i64 (P%1048576), .int .i64 s4] 96):=by rw [hV];exact ent_set6 kx
      have HTV:=Lib.hid (show TurnR rb w8 V by rw [hV];exact turn_set6 (HT10.out.trans hT) hxr _ _ _ _ _ _)
      have hbV:Below xb w15 V:=by rw [hV];exact below_set6 (Nat.le_refl _) _ _ _ _ _ _
      have HRV:=Lib.hid (hR15.later (hbV.mono (by omega)))
      have hVg:∀g,g<xb→g≠rb→V.heap[g]?=w9.heap[g]?:=fun g h1 h2=>(hbV.block g h1).trans ((hT.block g (by have:=HX10.out.2;omega) h2).trans (HBX.out.block g (by have:=HXB.out;omega)))
      have hoV:Hid (∀W,TurnR rb V W→OwnEnts w8.heap.size W (.slice so es.length sc) es):=Lib.hid fun W hW=>HO9.out.block fun g hg=>by
       have h1:=HO9.out.lt g hg
       have h2:=HXB.out
       exact(hW.block g (by have:=HTV.out.size;have:=(Array.getElem?_eq_some_iff.1 kV).1;omega) (fun e=>by have e:g=rb:=e;omega)).trans (hVg g (by omega) (by omega))
      have hxV:=(Array.getElem?_eq_some_iff.1 kV).1
      rw [←hV]
      obtain⟨f0,f1,ff⟩:=HRV.out.cells
      obtain⟨y0,y1,y2,y3,y4,y5,y6,yf⟩:=ent_box kV
      have HHZ:=Lib.hid hxV
      clear hV hbV hVg hT kx hT11 hT12 hT13 hT14 hT15 hR11 hR12 hR13 hR14 hR15 HR10 HO10 HT10 HT9 HX10
      obtain⟨BB,hBB⟩:∃B,decide (rx.e=0∧entBad es ⟨P,⟨c,s1,s2,s3,P%1048576,s4⟩⟩)=B:=⟨_,rfl⟩
      go_cut [192]from 132 to 198 (fun cb wx=>cb = .bool BB∧V=wx)
      case first=>
       clear z0 z1 z2 z3 z4 z5 z6 zf
       by_cases hxe:rx.e=0
       ·have HXE:=Lib.hid hxe
        rw [hxe]at f1
        clear hxe
        by_cases hbig:1099511627776≤P
        ·go_wp2_with fail
         go_meet
         exact⟨congrArg Value.bool ((decide_eq_true (⟨HXE.out, .inl hbig⟩:rx.e=0∧entBad es ⟨P,⟨c,s1,s2,s3,P%1048576,s4⟩⟩)).symm.trans hBB),rfl⟩
        ·by_cases hc0:c=0
         ·go_wp2_with fail
          go_meet
          exact⟨congrArg Value.bool ((decide_eq_true (⟨HXE.out, .inr (.inl hc0)⟩:rx.e=0∧entBad es ⟨P,⟨c,s1,s2,s3,P%1048576,s4⟩⟩)).symm.trans hBB),rfl⟩
         ·have hc0':(c == 0)=false:=by simp [hc0]
          by_cases hq0:q=0
          ·have hes:=Lib.hid (List.eq_nil_of_length_eq_zero (by have:=HO.out.2;omega):es=[])
           have hq0':¬(0:Int)<(q:Int):=by omega
           clear hq0
           go_wp2_with fail
           go_meet
           exact⟨congrArg Value.bool ((decide_eq_false (fun hn=>by rcases hn.2 with h|h|h;exact absurd (show 1099511627776≤P from h) (by omega);exact hc0 h;exact h.1 hes.out:¬(rx.e=0∧entBad es ⟨P,⟨c,s1,s2,s3,P%1048576,s4⟩⟩))).symm.trans hBB),rfl⟩
          ·obtain⟨j,hj⟩:∃j,q=j+1:=⟨q-1,by omega⟩
           have HJ:=Lib.hid hj
           obtain⟨og,oo,hso,hlast⟩:=OwnEnts.last (hoV.out V (Turn.refl _ _)) (HO.out.2.trans hj) (by have:=HO.out.2;omega)
           rw [HK.out]at hlast
           subst hso
           have hixl:=fun w'=>idx_ents (ab:=og) (aoff:=oo) (n:=es.length) (cap:=sc) (show (j:Int)=((j:Nat):Int) by rfl) (by have:=HO.out.2;omega) w'
           have n1:IntKind.i64.wrap ((q:Int)-1)=(j:Int):=by rw [show (q:Int)-1=(j:Int) by omega];exact IntWalk.i64_in _ (by omega)
           have n2:(q:Int)-1=(j:Int):=by omega
           have hqp:(0:Int)<(q:Int):=by omega
           have hes:es≠[]:=fun hn=>by have:=HO.out.2;rw [hn]at this;simp at this;omega
           clear hj hq0
           by_cases hle:P≤K
           ·go_wp2_with fail
            go_meet
            exact⟨congrArg Value.bool ((decide_eq_true (⟨HXE.out, .inr (.inr ⟨hes,by rw [HK.out];exact hle⟩)⟩:rx.e=0∧entBad es ⟨P,⟨c,s1,s2,s3,P%1048576,s4⟩⟩)).symm.trans hBB),rfl⟩
           ·go_wp2_with fail
            go_meet
            exact⟨congrArg Value.bool ((decide_eq_false (fun hn=>by rcases hn.2 with h|h|h;exact absurd (show 1099511627776≤P from h) (by omega);exact hc0 h;exact absurd (show P≤K from HK.out▸h.2) (by omega):¬(rx.e=0∧entBad es ⟨P,⟨c,s1,s2,s3,P%1048576,s4⟩⟩))).symm.trans hBB),rfl⟩
       ·have hxe':(rx.e == 0)=false:=by simp [hxe]
        go_wp2_with fail
        go_meet
        exact⟨congrArg Value.bool ((decide_eq_false (fun hn=>hxe hn.1:¬(rx.e=0∧entBad es ⟨P,⟨c,s1,s2,s3,P%1048576,s4⟩⟩))).symm.trans hBB),rfl⟩
      case rest=>
       obtain⟨rfl,hwc⟩:=hcut
       subst hwc
       by_cases hb:rx.e=0∧entBad es ⟨P,⟨c,s1,s2,s3,P%1048576,s4⟩⟩
       ·have hBt:BB=true:=by rw [←hBB];exact decide_eq_true hb
        subst hBt
        have HB:=Lib.hid hb
        have HW7:=Lib.hid (wrong_any (e:=7) HRV.out)
        have HWR:=Lib.hid (show rx.wrong 7=⟨rx.b,7⟩from if_pos hb.1)
        clear hb hBB
        go_upto_region 32 with (first|fail|(go_at_call 41;(with_reducible refine HW7.out.mono ?_);rintro e w16 ⟨rfl,hT16,hR16⟩))
        rw [HWR.out]at hR16
        have HTW6:=Lib.hid (HTV.out.trans hT16:TurnR rb w8 w16)
        have HRW6:=Lib.hid hR16
        have HOW6:=Lib.hid (hoV.out w16 hT16)
        have kx6:=(hT16.block xb (by omega) (fun e=>by have e:xb=rb:=e;omega)).trans kV
        obtain⟨x0,x1,x2,x3,x4,x5,x6,xf⟩:=ent_box kx6
        have hel:es.length≤1000000:=by have:=HO.out.2;omega
        have hsz6:w8.heap.size≤w16.heap.size:=HTW6.out.size
        have HEW:=Lib.hid (HGO.out.trans (by rw [HED.out]):bodyE (bodyOf bs)=entsD (cm-(q+1)) (entW r es) (es++[⟨P,⟨c,s1,s2,s3,P%1048576,s4⟩⟩]))
        have HENW:=Lib.hid (show entW r es=⟨rx.b,7⟩ by unfold entW;rw [HK.out,HED.out];exact if_pos HB.out)
        clear z0 z1 z2 z3 z4 z5 z6 zf y0 y1 y2 y3 y4 y5 y6 yf f0 f1 ff kV kx6
        go_wp2_with ((at_builtin;refine wpList_append_ent rfl (.tmp 195) (.tmp 197) rfl w8.heap.size _ es rfl (HOW6.out.alloc _) ⟨_,0,none⟩ ⟨P,⟨c,s1,s2,s3,P%1048576,s4⟩⟩ rfl (fun j u h=>ent_new h) hel (by simp;omega) ?_;intro v17 w17 own17 hg17))
        have hb17:=hg17 w8.heap.size w16 ((Below.refl _ _).alloc hsz6 _) (Nat.le_refl _)
        go_roundg (cm-(q+1))
        case measure=>omega
        case rel=>exact⟨q+1,es++[⟨P,⟨c,s1,s2,s3,P%1048576,s4⟩⟩],hlt,rfl,by go_num,by rw [keyL_snoc],Lib.hid ⟨own17,by have:=HO.out.2;rw [List.length_append];simp only [List.length_singleton];omega⟩,Lib.hid ⟨_,_,turn_below HTW6.out hb17,HRW6.out.later (hb17.mono hz8),HEW.out.trans (by rw [HENW.out]),fun h7=>absurd h7 (by show ¬(7:Int)=0;decide)⟩⟩
       ·have hBt:BB=false:=by rw [←hBB];exact decide_eq_false hb
        subst hBt
        have HB:=Lib.hid hb
        clear hb hBB
        go_upto_region 32 with (fail)
        have HTW6:=Lib.hid (HTV.out:TurnR rb w8 V)
        have HRW6:=Lib.hid HRV.out
        have HOW6:=Lib.hid (hoV.out V (Turn.refl _ _))
        have kx6:=kV
        obtain⟨x0,x1,x2,x3,x4,x5,x6,xf⟩:=ent_box kx6
        have hel:es.length≤1000000:=by have:=HO.out.2;omega
        have hsz6:w8.heap.size≤V.heap.size:=HTW6.out.size
        have HEW:=Lib.hid (HGO.out.trans (by rw [HED.out]):bodyE (bodyOf bs)=entsD (cm-(q+1)) (entW r es) (es++[⟨P,⟨c,s1,s2,s3,P%1048576,s4⟩⟩]))
        have HENW:=Lib.hid (show entW r es=rx by unfold entW;rw [HK.out,HED.out];exact if_neg HB.out)
        clear z0 z1 z2 z3 z4 z5 z6 zf y0 y1 y2 y3 y4 y5 y6 yf f0 f1 ff kV kx6
        go_wp2_with ((at_builtin;refine wpList_append_ent rfl (.tmp 195) (.tmp 197) rfl w8.heap.size _ es rfl (HOW6.out.alloc _) ⟨_,0,none⟩ ⟨P,⟨c,s1,s2,s3,P%1048576,s4⟩⟩ rfl (fun j u h=>ent_new h) hel (by simp;omega) ?_;intro v17 w17 own17 hg17))
        have hb17:=hg17 w8.heap.size V ((Below.refl _ _).alloc hsz6 _) (Nat.le_refl _)
        go_roundg (cm-(q+1))
        case measure=>omega
        case rel=>exact⟨q+1,es++[⟨P,⟨c,s1,s2,s3,P%1048576,s4⟩⟩],hlt,rfl,by go_num,by rw [keyL_snoc],Lib.hid ⟨own17,by have:=HO.out.2;rw [List.length_append];simp only [List.length_singleton];omega⟩,Lib.hid ⟨_,_,turn_below HTW6.out hb17,HRW6.out.later (hb17.mono hz8),HEW.out.trans (by rw [HENW.out]),fun h7=>by rw [keyL_snoc];exact⟨hP0.1,Int.not_le.1 fun hn=>HB.out ⟨h7, .inl hn⟩⟩⟩⟩
     ·have he':(r.e == 0)=false:=by simp [he]
      clear hlt
      go_wp2_with fail
      go_meet
      exact⟨es,v,r,Lib.hid ⟨HNM.out.trans (entsD_stop he),by have:=HO.out.2;omega⟩,Lib.hid ⟨HO.out.1,HTW.out,HRR.out⟩⟩
    ·have hlt':¬(q:Int)<(cm:Int):=by omega
     go_wp2_with fail
     go_meet
     exact⟨es,v,r,Lib.hid ⟨HNM.out.trans (by rw [show cm-q=0 by omega];rfl),by have:=HO.out.2;omega⟩,Lib.hid ⟨HO.out.1,HTW.out,HRR.out⟩⟩
  case rest=>
   obtain⟨es,vx,rx,HEE,HZ⟩:=hcut
   obtain⟨eso,esc,rfl⟩:=HZ.out.1.isSlice
   have HRX:=Lib.hid HZ.out.2.2
   have HBR:=Lib.hid (show bodyR (bodyOf bs)=if rx.e=0∧0<rx.b.length then⟨rx.b,4⟩else rx by unfold bodyR;rw [HEE.out.1])
   have HBC':=Lib.hid (show Below rb W2 wc from HZ.out.2.1.below HB8.out (by omega) (fun i h=>by have h:i=rb:=h;omega))
   obtain⟨f0,f1,ff⟩:=HRX.out.cells
   obtain⟨vb,vo,vc,hvx,hvb⟩:=HRX.out.form
   subst hvx
   by_cases hxe:rx.e=0
   ·have HXE:=Lib.hid hxe
    rw [hxe]at f1
    clear hxe
    by_cases hlen:0<rx.b.length
    ·have hlen':(0:Int)<(rx.b.length:Int):=by omega
     have HD4:=Lib.hid (show decE bs=4 by rw [HD.out,HBR.out,if_pos ⟨HXE.out,hlen⟩])
     have HW4:=Lib.hid (wrong_any (e:=4) HRX.out)
     have HWR:=Lib.hid (show rx.wrong 4=⟨rx.b,4⟩from if_pos HXE.out)
     clear hlen
     go_upto_region 35 with (first|fail|(go_at_call 41;(with_reducible refine HW4.out.mono ?_);rintro e wz ⟨rfl,hTz,hRz⟩))
     rw [HWR.out]at hRz
     clear f0 f1 ff
     obtain⟨f0,f1,ff⟩:=hRz.cells
     have HBL:=Lib.hid (hTz.below HBC'.out (by have:=HBC'.out.size;have:=HB2.out.2;omega) (fun i h=>by have h:i=rb:=h;omega):Below rb W2 wz)
     have HWW:=Lib.hid (Below.trans' (Below.mono HB2.out.1 (Nat.le_refl _)) (Below.refl _ W2) HB2.out.1.size)
     have HBW:=Lib.hid (show Below w.heap.size w wz from ⟨HBL.out.os.trans HB2.out.1.os,HBL.out.tape.trans HB2.out.1.tape,HBL.out.output.trans HB2.out.1.output,Nat.le_trans HB2.out.1.size HBL.out.size,fun b hb=>(HBL.out.block b (by have:=HRB.out;omega)).trans (HB2.out.1.block b hb)⟩)
     have kz:wz.heap[w.heap.size]?=some (.cells zeroBC 35):=(HBL.out.block _ (by have:=HRB.out;omega)).trans HK2.out
     obtain⟨r0,r1,r2,r3,r4,r5,r6,r7,rf⟩:wz.cell? ⟨w.heap.size,0,none⟩=some (.slice none 0 0)∧wz.cell? ⟨w.heap.size,1,none⟩=some (.slice none 0 0)∧wz.cell? ⟨w.heap.size,2,none⟩=some (.int .i64 0)∧wz.cell? ⟨w.heap.size,3,none⟩=some (.slice none 0 0)∧wz.cell? ⟨w.heap.size,4,none⟩=some (.int .i64 0)∧wz.cell? ⟨w.heap.size,5,none⟩=some (.slice none 0 0)∧wz.cell? ⟨w.heap.size,6,none⟩=some (.int .i64 0)∧wz.cell? ⟨w.heap.size,7,none⟩=some (.int .i64 0)∧∀o,wz.frozen? ⟨w.heap.size,o,none⟩=false:=by simp [World.cell?,World.frozen?,kz,zeroBC]
     have hnr:rb≠w.heap.size:=by have:=HRB.out;omega
     have hnr':¬rb=w.heap.size:=hnr
     have hnr2:¬w.heap.size=rb:=fun e=>hnr e.symm
     have HKZ:=Lib.hid kz
     clear kz
     go_upto_region 36 with (fail)
     refine wp_region_schedG [(1,1),(2,1),(3,1),(4,0),(0,1),(5,2),(6,3)] 6
      (fun W=>W.cell? ⟨rb,1,none⟩=some (.int .i64 4)) (by kernel_rfl) (by kernel_rfl) (by exact f1) ?_
     (simp only [pickS,List.filterMap_cons,List.filterMap_nil,List.getElem?_cons_zero,List.getElem?_cons_succ,Option.map_some])
     (repeat (first|((refine schedG_pure (v:=?_) ?_ (fun W=>?_) ?_);rotate_left;(focus (first|exact wanted_bare rfl _|exact wanted_yes rfl rfl rfl rfl));(focus (go_simp;(try with_reducible rfl);done));(try simp only [Act.put,List.setIfInBounds_toArray,List.set_cons_zero,List.set_cons_succ]))|((refine schedG_read (v:=?_) ?_ (fun W hW=>?_) ?_);rotate_left;(focus (first|exact wanted_bare rfl _|exact wanted_yes rfl rfl rfl rfl));(focus ((try dsimp only at hW);go_simp;(try with_reducible rfl);done));(try simp only [Act.put,List.setIfInBounds_toArray,List.set_cons_zero,List.set_cons_succ]))|((refine schedG_skip ?_ ?_);(focus exact wanted_no rfl rfl rfl rfl);(try simp only [Act.put,List.setIfInBounds_toArray,List.set_cons_zero,List.set_cons_succ]))))
     refine schedG_does ?_ (fun K hK=>?_)
     (focus (first|exact wanted_bare rfl _|exact wanted_yes rfl rfl rfl rfl))
     go_simp
     obtain⟨VV,hVV⟩:∃V,V=((((((((wz.setCell ⟨w.heap.size,0,none⟩ (.slice none 0 0)).setCell ⟨w.heap.size,1,none⟩ (.slice none 0 0)).setCell ⟨w.heap.size,2,none⟩ (.int .i64 0)).setCell ⟨w.heap.size,3,none⟩ (.slice none 0 0)).setCell ⟨w.heap.size,4,none⟩ (.int .i64 0)).setCell ⟨w.heap.size,5,none⟩ (.slice none 0 0)).setCell ⟨w.heap.size,6,none⟩ (.int .i64 0)).setCell ⟨w.heap.size,7,none⟩ (.int .i64 0)):=⟨_,rfl⟩
     have hvr:VV.heap[rb]?=wz.heap[rb]?:=by rw [hVV];exact heap_set8_other hnr
     have hvb:Below w.heap.size w VV:=by rw [hVV];exact below_set8' HBW.out (Nat.le_refl _) _ _ _ _ _ _ _ _
     have hvs:VV.drew.cell? ⟨rb,1,none⟩=some (.int .i64 4):=(World.cell?_of_block (show VV.drew.heap[rb]?=wz.heap[rb]? from hvr)).trans f1
     rw [←hVV]
     have kV:=(by rw [hVV];exact heap_set8 HKZ.out:VV.heap[w.heap.size]?=some (.cells zeroBC 35))
     obtain⟨q0,q1,q2,q3,q4,q5,q6,q7⟩:VV.drew.cell? ⟨w.heap.size,0,none⟩=some (.slice none 0 0)∧VV.drew.cell? ⟨w.heap.size,1,none⟩=some (.slice none 0 0)∧VV.drew.cell? ⟨w.heap.size,2,none⟩=some (.int .i64 0)∧VV.drew.cell? ⟨w.heap.size,3,none⟩=some (.slice none 0 0)∧VV.drew.cell? ⟨w.heap.size,4,none⟩=some (.int .i64 0)∧VV.drew.cell? ⟨w.heap.size,5,none⟩=some (.slice none 0 0)∧VV.drew.cell? ⟨w.heap.size,6,none⟩=some (.int .i64 0)∧VV.drew.cell? ⟨w.heap.size,7,none⟩=some (.int .i64 0):=(by obtain⟨q0,q1,q2,q3,q4,q5,q6,q7,-⟩:=base_box (w:=VV.drew) kV;exact⟨q0,q1,q2,q3,q4,q5,q6,q7⟩)
     clear hVV kV
     refine hK _ _ hvs ?_
     clear hK K
     (repeat (first|((refine schedG_pure (v:=?_) ?_ (fun W=>?_) ?_);rotate_left;(focus (first|exact wanted_bare rfl _|exact wanted_yes rfl rfl rfl rfl));(focus (go_simp;(try with_reducible rfl);done));(try simp only [Act.put,List.setIfInBounds_toArray,List.set_cons_zero,List.set_cons_succ]))|((refine schedG_read (v:=?_) ?_ (fun W hW=>?_) ?_);rotate_left;(focus (first|exact wanted_bare rfl _|exact wanted_yes rfl rfl rfl rfl));(focus ((try dsimp only at hW);go_simp;(try with_reducible rfl);done));(try simp only [Act.put,List.setIfInBounds_toArray,List.set_cons_zero,List.set_cons_succ]))|((refine schedG_skip ?_ ?_);(focus exact wanted_no rfl rfl rfl rfl);(try simp only [Act.put,List.setIfInBounds_toArray,List.set_cons_zero,List.set_cons_succ]))))
     refine schedG_last ?_ (fun K hK=>?_)
     (focus (first|exact wanted_bare rfl _|exact wanted_yes rfl rfl rfl rfl))
     go_simp
     refine hK _ _ ?_
     clear hK K
     refine schedG_end ?_
     go_wp2_with fail
     exact bodyPost_ret (v:= .tuple #[zeroB, .int .i64 4]) (by simp [results,Tryd.results22,go_sem, *]) rfl ⟨hvb.drew, .inl ⟨4,by decide,rfl, .inl HD4.out⟩⟩
    ·have hlen':¬(0:Int)<(rx.b.length:Int):=by omega
     have HD0:=Lib.hid (show decE bs=0 by rw [HD.out,HBR.out,if_neg (fun hn=>hlen hn.2)];exact HXE.out)
     have HN2:=Lib.hid (show (bodyN (bodyOf bs)).2=ns by rw [HNN.out.1])
     have HF2:=Lib.hid (show (bodyN (bodyOf bs)).1.num.2=fl by rw [HNN.out.1];show r.num.2=fl;rw [HP.out])
     have HE2:=Lib.hid (show (bodyE (bodyOf bs)).2=es by rw [HEE.out.1])
     obtain⟨-,-,hl1,hl2,-,-,-⟩:=dec_ok HAB.out HD0.out
     rw [HE2.out]at hl1 hl2
     have HOW:=Lib.hid (HO8.out.turn HZ.out.2.1)
     have hsiz:∀s∈ns,s.size≤10:=by
      rw [←HN2.out]
      exact namesD_sizes (cnt_bytes (body_bytes HAB.out)) (fun s hs=>by cases hs)
     have HWWc:=Lib.hid (show Below w.heap.size w wc from ⟨HBC'.out.os.trans HB2.out.1.os,HBC'.out.tape.trans HB2.out.1.tape,HBC'.out.output.trans HB2.out.1.output,Nat.le_trans HB2.out.1.size HBC'.out.size,fun b hb=>(HBC'.out.block b (by have:=HRB.out;omega)).trans (HB2.out.1.block b hb)⟩)
     have HMD:=Lib.hid (made_any (fl:=fl) (HOW.out.at (by have:=HNN.out.2;omega)) (HZ.out.1.at (by omega)) ⟨hl2.2.1,fun e he=>⟨(hl2.1 e he).1,(hl2.1 e he).2.1⟩,hl1⟩ (fun s hs=>Nat.le_trans (hsiz s hs) (by decide)) (HSZ.out.below HWWc.out))
     clear hl1 hl2 hsiz hlen
     have hcz:w.heap.size<wc.heap.size:=by have:=HWWc.out.size;have:=HBC'.out.size;have:=HRB.out;have:=HB2.out.2;omega
     have HKC:=Lib.hid (show wc.heap[w.heap.size]?=some (.cells zeroBC 35)from (HBC'.out.block _ (by have:=HRB.out;omega)).trans HK2.out)
     go_upto_region 37 with (fail)
     clear f0 f1 ff
     go_wp2_with (go_at_call 44;(with_reducible refine HMD.out.mono ?_);rintro e wz ⟨hbz,hez⟩;have kz:=(hbz.block _ hcz).trans HKC.out;obtain⟨r0,r1,r2,r3,r4,r5,r6,r7,rf⟩:=base_box kz;have HBZ:=Lib.hid hbz;have HKZ:=Lib.hid kz;clear kz hbz;rcases hez with ⟨E,hE0,rfl,hbad⟩|⟨sn,sc,g0,l0,p0,g1,l1,p1,g2,l2,p2,T,hnv,rfl,hok,hba⟩)
     ·obtain⟨VV,hVV⟩:∃V,V=((((((((wz.setCell ⟨w.heap.size,0,none⟩ (.slice none 0 0)).setCell ⟨w.heap.size,1,none⟩ (.slice none 0 0)).setCell ⟨w.heap.size,2,none⟩ (.int .i64 0)).setCell ⟨w.heap.size,3,none⟩ (.slice none 0 0)).setCell ⟨w.heap.size,4,none⟩ (.int .i64 0)).setCell ⟨w.heap.size,5,none⟩ (.slice none 0 0)).setCell ⟨w.heap.size,6,none⟩ (.int .i64 0)).setCell ⟨w.heap.size,7,none⟩ (.int .i64 0)):=⟨_,rfl⟩
      have hvb:Below w.heap.size w VV:=by rw [hVV];exact below_set8' (Below.trans' HWWc.out HBZ.out HWWc.out.size) (Nat.le_refl _) _ _ _ _ _ _ _ _
      have kV:=(by rw [hVV];exact heap_set8 HKZ.out:VV.heap[w.heap.size]?=some (.cells zeroBC 35))
      obtain⟨q0,q1,q2,q3,q4,q5,q6,q7,-⟩:=base_box kV
      rw [←hVV]
      clear hVV kV
      exact bodyPost_ret (v:= .tuple #[zeroB, .int .i64 E]) (by simp [results,Tryd.results22,go_sem, *]) rfl ⟨hvb, .inl ⟨E,hE0,rfl, .inr ⟨HD0.out,by rw [HN2.out,HF2.out,HE2.out];exact hbad⟩⟩⟩
     ·obtain⟨VV,hVV⟩:∃V,V=((((((((wz.setCell ⟨w.heap.size,0,none⟩ (.slice nso ns.length nsc)).setCell ⟨w.heap.size,1,none⟩ (.slice g0 l0 p0)).setCell ⟨w.heap.size,2,none⟩ (.int .i64 (T 0).root)).setCell ⟨w.heap.size,3,none⟩ (.slice g1 l1 p1)).setCell ⟨w.heap.size,4,none⟩ (.int .i64 (T 1).root)).setCell ⟨w.heap.size,5,none⟩ (.slice g2 l2 p2)).setCell ⟨w.heap.size,6,none⟩ (.int .i64 (T 2).root)).setCell ⟨w.heap.size,7,none⟩ (.int .i64 fl)):=⟨_,rfl⟩
      have hvb:Below w.heap.size w VV:=by rw [hVV];exact below_set8' (Below.trans' HWWc.out HBZ.out HWWc.out.size) (Nat.le_refl _) _ _ _ _ _ _ _ _
      have kV:=(by rw [hVV];exact heap_set8 HKZ.out:VV.heap[w.heap.size]?=some (.cells #[.slice nso ns.length nsc, .slice g0 l0 p0, .int .i64 (T 0).root, .slice g1 l1 p1, .int .i64 (T 1).root, .slice g2 l2 p2, .int .i64 (T 2).root, .int .i64 fl] 35))
      have HKV:=Lib.hid (show Keep (wc.heap.size+2) wz VV by rw [hVV];exact keep_set8 (by omega) _ _ _ _ _ _ _ _)
      have HOV:=Lib.hid ((HOW.out.block fun g hg=>HBZ.out.block g (HOW.out.lt g hg).2).block fun g hg=>by
       rw [hVV]
       exact heap_set8_other (by have:=(HOW.out.lt g hg).1;have:=HRB.out;omega):OwnStrs (rb+1) VV (.slice nso ns.length nsc) ns)
      obtain⟨q0,q1,q2,q3,q4,q5,q6,q7,-⟩:=base_box kV
      rw [←hVV]
      have HBA:=Lib.hid hba
      clear hVV kV hba
      exact bodyPost_ret (v:= .tuple #[.agg (baCells nso ns.length nsc g0 l0 p0 g1 l1 p1 g2 l2 p2 ⟨ns,T 0,T 1,T 2,fl⟩), .int .i64 0]) (by simp [results,Tryd.results22,baCells,go_sem, *]) rfl ⟨hvb, .inr ⟨HD0.out,nso,nsc,g0,l0,p0,g1,l1,p1,g2,l2,p2,T,by rw [HN2.out,HF2.out],by rw [HN2.out,HF2.out,HE2.out];exact hok,fun w'' hw=>by
       rw [HN2.out,HF2.out]
       exact HBA.out w'' ((HOV.out.keep (by have:=HRB.out;omega) hw).at (by have:=HNN.out.2;omega)) (HKV.out.trans (hw.mono (by omega)))⟩⟩
   ·have hxe':(rx.e == 0)=false:=by simp [hxe]
    have HDE:=Lib.hid (show decE bs=rx.e by rw [HD.out,HBR.out,if_neg (fun hn=>hxe hn.1)])
    have HXE:=Lib.hid hxe
    clear hxe
    obtain⟨E,hE⟩:∃E,rx.e=E:=⟨_,rfl⟩
    rw [hE]at f1 hxe' HDE HXE
    clear hE
    have HBL:=Lib.hid (HBC'.out:Below rb W2 wc)
    have HWW:=Lib.hid (Below.trans' (Below.mono HB2.out.1 (Nat.le_refl _)) (Below.refl _ W2) HB2.out.1.size)
    have HBW:=Lib.hid (show Below w.heap.size w wc from ⟨HBL.out.os.trans HB2.out.1.os,HBL.out.tape.trans HB2.out.1.tape,HBL.out.output.trans HB2.out.1.output,Nat.le_trans HB2.out.1.size HBL.out.size,fun b hb=>(HBL.out.block b (by have:=HRB.out;omega)).trans (HB2.out.1.block b hb)⟩)
    have kz:wc.heap[w.heap.size]?=some (.cells zeroBC 35):=(HBL.out.block _ (by have:=HRB.out;omega)).trans HK2.out
    obtain⟨r0,r1,r2,r3,r4,r5,r6,r7,rf⟩:wc.cell? ⟨w.heap.size,0,none⟩=some (.slice none 0 0)∧wc.cell? ⟨w.heap.size,1,none⟩=some (.slice none 0 0)∧wc.cell? ⟨w.heap.size,2,none⟩=some (.int .i64 0)∧wc.cell? ⟨w.heap.size,3,none⟩=some (.slice none 0 0)∧wc.cell? ⟨w.heap.size,4,none⟩=some (.int .i64 0)∧wc.cell? ⟨w.heap.size,5,none⟩=some (.slice none 0 0)∧wc.cell? ⟨w.heap.size,6,none⟩=some (.int .i64 0)∧wc.cell? ⟨w.heap.size,7,none⟩=some (.int .i64 0)∧∀o,wc.frozen? ⟨w.heap.size,o,none⟩=false:=by simp [World.cell?,World.frozen?,kz,zeroBC]
    have hnr:rb≠w.heap.size:=by have:=HRB.out;omega
    have hnr':¬rb=w.heap.size:=hnr
    have hnr2:¬w.heap.size=rb:=fun e=>hnr e.symm
    have HKZ:=Lib.hid kz
    clear kz
    go_upto_region 36 with (fail)
    refine wp_region_schedG [(1,1),(2,1),(3,1),(4,0),(0,1),(5,2),(6,3)] 6
     (fun W=>W.cell? ⟨rb,1,none⟩=some (.int .i64 E)) (by kernel_rfl) (by kernel_rfl) (by exact f1) ?_
    (simp only [pickS,List.filterMap_cons,List.filterMap_nil,List.getElem?_cons_zero,List.getElem?_cons_succ,Option.map_some])
    (repeat (first|((refine schedG_pure (v:=?_) ?_ (fun W=>?_) ?_);rotate_left;(focus (first|exact wanted_bare rfl _|exact wanted_yes rfl rfl rfl rfl));(focus (go_simp;(try with_reducible rfl);done));(try simp only [Act.put,List.setIfInBounds_toArray,List.set_cons_zero,List.set_cons_succ]))|((refine schedG_read (v:=?_) ?_ (fun W hW=>?_) ?_);rotate_left;(focus (first|exact wanted_bare rfl _|exact wanted_yes rfl rfl rfl rfl));(focus ((try dsimp only at hW);go_simp;(try with_reducible rfl);done));(try simp only [Act.put,List.setIfInBounds_toArray,List.set_cons_zero,List.set_cons_succ]))|((refine schedG_skip ?_ ?_);(focus exact wanted_no rfl rfl rfl rfl);(try simp only [Act.put,List.setIfInBounds_toArray,List.set_cons_zero,List.set_cons_succ]))))
    refine schedG_does ?_ (fun K hK=>?_)
    (focus (first|exact wanted_bare rfl _|exact wanted_yes rfl rfl rfl rfl))
    go_simp
    obtain⟨VV,hVV⟩:∃V,V=((((((((wc.setCell ⟨w.heap.size,0,none⟩ (.slice none 0 0)).setCell ⟨w.heap.size,1,none⟩ (.slice none 0 0)).setCell ⟨w.heap.size,2,none⟩ (.int .i64 0)).setCell ⟨w.heap.size,3,none⟩ (.slice none 0 0)).setCell ⟨w.heap.size,4,none⟩ (.int .i64 0)).setCell ⟨w.heap.size,5,none⟩ (.slice none 0 0)).setCell ⟨w.heap.size,6,none⟩ (.int .i64 0)).setCell ⟨w.heap.size,7,none⟩ (.int .i64 0)):=⟨_,rfl⟩
    have hvr:VV.heap[rb]?=wc.heap[rb]?:=by rw [hVV];exact heap_set8_other hnr
    have hvb:Below w.heap.size w VV:=by rw [hVV];exact below_set8' HBW.out (Nat.le_refl _) _ _ _ _ _ _ _ _
    have hvs:VV.drew.cell? ⟨rb,1,none⟩=some (.int .i64 E):=(World.cell?_of_block (show VV.drew.heap[rb]?=wc.heap[rb]? from hvr)).trans f1
    rw [←hVV]
    have kV:=(by rw [hVV];exact heap_set8 HKZ.out:VV.heap[w.heap.size]?=some (.cells zeroBC 35))
    obtain⟨q0,q1,q2,q3,q4,q5,q6,q7⟩:VV.drew.cell? ⟨w.heap.size,0,none⟩=some (.slice none 0 0)∧VV.drew.cell? ⟨w.heap.size,1,none⟩=some (.slice none 0 0)∧VV.drew.cell? ⟨w.heap.size,2,none⟩=some (.int .i64 0)∧VV.drew.cell? ⟨w.heap.size,3,none⟩=some (.slice none 0 0)∧VV.drew.cell? ⟨w.heap.size,4,none⟩=some (.int .i64 0)∧VV.drew.cell? ⟨w.heap.size,5,none⟩=some (.slice none 0 0)∧VV.drew.cell? ⟨w.heap.size,6,none⟩=some (.int .i64 0)∧VV.drew.cell? ⟨w.heap.size,7,none⟩=some (.int .i64 0):=(by obtain⟨q0,q1,q2,q3,q4,q5,q6,q7,-⟩:=base_box (w:=VV.drew) kV;exact⟨q0,q1,q2,q3,q4,q5,q6,q7⟩)
    clear hVV kV
    refine hK _ _ hvs ?_
    clear hK K
    (repeat (first|((refine schedG_pure (v:=?_) ?_ (fun W=>?_) ?_);rotate_left;(focus (first|exact wanted_bare rfl _|exact wanted_yes rfl rfl rfl rfl));(focus (go_simp;(try with_reducible rfl);done));(try simp only [Act.put,List.setIfInBounds_toArray,List.set_cons_zero,List.set_cons_succ]))|((refine schedG_read (v:=?_) ?_ (fun W hW=>?_) ?_);rotate_left;(focus (first|exact wanted_bare rfl _|exact wanted_yes rfl rfl rfl rfl));(focus ((try dsimp only at hW);go_simp;(try with_reducible rfl);done));(try simp only [Act.put,List.setIfInBounds_toArray,List.set_cons_zero,List.set_cons_succ]))|((refine schedG_skip ?_ ?_);(focus exact wanted_no rfl rfl rfl rfl);(try simp only [Act.put,List.setIfInBounds_toArray,List.set_cons_zero,List.set_cons_succ]))))
    refine schedG_last ?_ (fun K hK=>?_)
    (focus (first|exact wanted_bare rfl _|exact wanted_yes rfl rfl rfl rfl))
    go_simp
    refine hK _ _ ?_
    clear hK K
    refine schedG_end ?_
    go_wp2_with fail
    exact bodyPost_ret (v:= .tuple #[zeroB, .int .i64 E]) (by simp [results,Tryd.results22,go_sem, *]) rfl ⟨hvb.drew, .inl ⟨E,HXE.out,rfl, .inl HDE.out⟩⟩
end Go.Proofs.YtnjfkcimboidnaaDoor
