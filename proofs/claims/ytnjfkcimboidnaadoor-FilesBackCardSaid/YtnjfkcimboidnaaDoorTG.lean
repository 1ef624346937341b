/- Texts of mine that come as one: Series ProRows TotalP TotalA TotalB ProTotal. -/
import Derived.Test.YtnjfkcimboidnaaDoorPS
import Derived.Test.YtnjfkcimboidnaaDoorPC
import Derived.Test.YtnjfkcimboidnaaDoorSO
/- The walks of placeOf, series, seriesFault, times; of slices.Index on ints. -/
namespace Go.Proofs.YtnjfkcimboidnaaDoor
open Go.RowKit
noncomputable def seriesI (b:Ba) (s:ByteArray):Int:=if seriesE b s=0 then placeI b.names s else 0
set_option maxRecDepth 100000 in
set_option maxHeartbeats 1000000 in
theorem series_any {v:Value} {b:Ba} {s:ByteArray} {w:World} (h:BaseAt w v b) (hst:∀s∈b.names,s.size≤140737488351232) (hsz:SizesAt w) :
  Calls Tryd.prog 58 #[v, .string s] w fun e w'=>e = .returned (.tuple #[.int .i64 (seriesI b s), .int .i64 (seriesE b s)])∧Below w.heap.size w w':=by
 have HC:=Lib.hid fun w' (hb:Below w.heap.size w w')=>baseCheck_any (h.below hb) hst (hsz.below hb)
 obtain⟨sa,sc,g0,l0,p0,g1,l1,p1,g2,l2,p2,rfl,hn,hnames,T0,T1,T2⟩:=h.open
 obtain⟨W0,hW0⟩:∃W0,W0=w.alloc (.cells (baCells sa b.names.length sc g0 l0 p0 g1 l1 p1 g2 l2 p2 b) 35):=⟨_,rfl⟩
 have hb0:Below w.heap.size w W0:=by rw [hW0];exact belowAuto
 have hz0:W0.heap.size=w.heap.size+1:=by rw [hW0];simp
 have k0:W0.heap[w.heap.size]?=some (.cells (baCells sa b.names.length sc g0 l0 p0 g1 l1 p1 g2 l2 p2 b) 35):=by rw [hW0];exact heap_new _ _ rfl
 have HX:=Lib.hid fun w' (hb:Below W0.heap.size W0 w')=>(by
  have b0:w'.heap[w.heap.size]?=_:=(hb.block _ (by omega)).trans k0
  simp [World.cell?,b0] :
  w'.cell? ⟨w.heap.size,0,none⟩=some (.slice sa b.names.length sc)∧w'.cell? ⟨w.heap.size,1,none⟩=some (.slice g0 l0 p0)∧w'.cell? ⟨w.heap.size,2,none⟩=some (.int .i64 b.t0.root)∧w'.cell? ⟨w.heap.size,3,none⟩=some (.slice g1 l1 p1)∧w'.cell? ⟨w.heap.size,4,none⟩=some (.int .i64 b.t1.root)∧w'.cell? ⟨w.heap.size,5,none⟩=some (.slice g2 l2 p2)∧w'.cell? ⟨w.heap.size,6,none⟩=some (.int .i64 b.t2.root)∧w'.cell? ⟨w.heap.size,7,none⟩=some (.int .i64 b.floor))
 have HB:=Lib.hid fun w' (hb:Below W0.heap.size W0 w')=>(Below.trans' hb0 hb hb0.size:Below w.heap.size w w')
 obtain⟨x0,x1,x2,x3,x4,x5,x6,x7⟩:=HX.out W0 (Below.refl _ _)
 have HIX:=Lib.hid fun w' (hb:Below W0.heap.size W0 w')=>indexStr_any (s:=s) (hnames.below (HB.out w' hb) (Nat.le_refl _))
 clear h hst hsz hnames T0 T1 T2
 go_enter Tryd.func58,Tryd.ntmps58
 go_upto_region 1 with (fail)
 rw [←hW0]
 clear hW0 k0
 rcases seriesE_cases b s with ⟨e1,e2⟩|⟨e1,e2,e3⟩|⟨e1,e2,k,hk,e3⟩
 ·have hc:checkE b=7:=checkE_no e2
  have HI:=Lib.hid (show seriesI b s=0 by unfold seriesI;rw [if_neg (by omega)])
  have HE:=Lib.hid e1
  rw [hc]at HC
  clear hc e1 e2
  go_wp2_with ((go_at_call 26;(with_reducible refine(HC.out _ hb0).mono ?_);rintro e w1 ⟨rfl,hb1⟩))
  go_ret2
  rw [HI.out,HE.out]
  exact⟨rfl,HB.out _ hb1⟩
 ·have hc:checkE b=0:=checkE_yes e2
  have HI:=Lib.hid (show seriesI b s=0 by unfold seriesI;rw [if_neg (by omega)])
  have HE:=Lib.hid e1
  rw [hc]at HC
  rw [e3]at HIX
  clear hc e1 e2 e3
  go_wp2_with (first|(go_at_call 26;(with_reducible refine(HC.out _ hb0).mono ?_);rintro e w1 ⟨rfl,hb1⟩;obtain⟨x0,-⟩:=HX.out _ hb1)|(go_at_call 78;(with_reducible refine(HIX.out _ hb1).mono ?_);rintro e w2 ⟨rfl,hb2⟩;have hb3:=Below.trans' hb1 hb2 hb1.size))
  go_ret2
  rw [HI.out,HE.out]
  exact⟨rfl,HB.out _ hb3⟩
 ·have hc:checkE b=0:=checkE_yes e2
  have HI:=Lib.hid (show seriesI b s=k by unfold seriesI;rw [if_pos e1];exact e3)
  have HE:=Lib.hid e1
  have hk0:decide ((k:Int)<0)=false:=by simp
  rw [hc]at HC
  rw [e3]at HIX
  clear hc e1 e2 e3
  go_wp2_with (first|(go_at_call 26;(with_reducible refine(HC.out _ hb0).mono ?_);rintro e w1 ⟨rfl,hb1⟩;obtain⟨x0,-⟩:=HX.out _ hb1)|(go_at_call 78;(with_reducible refine(HIX.out _ hb1).mono ?_);rintro e w2 ⟨rfl,hb2⟩;have hb3:=Below.trans' hb1 hb2 hb1.size))
  go_ret2
  rw [HI.out,HE.out]
  exact⟨rfl,HB.out _ hb3⟩
theorem times_any (a z:Int) (w:World):Calls Tryd.prog 59 #[.int .i64 a, .int .i64 z] w fun e w'=>e = .returned (.bool (decide (rowsOk a z)))∧w'=w:=by
 by_cases h1:0≤a
 ·have e1:decide (0≤a)=true:=by simp [h1]
  by_cases h2:z≤1048575
  ·have e2:decide (z≤1048575)=true:=by simp [h2]
   by_cases h3:a≤z
   ·have e3:decide (a≤z)=true:=by simp [h3]
    have HR:=Lib.hid (show true=decide (rowsOk a z) by simp [rowsOk,h1,h2,h3])
    clear h1 h2 h3
    go_enter Tryd.func59,Tryd.ntmps59
    go_wp2
    go_ret
    exact⟨ret_bool HR.out,rfl⟩
   ·have e3:decide (a≤z)=false:=by simp;omega
    have HR:=Lib.hid (show false=decide (rowsOk a z) by simp [rowsOk,h3])
    clear h1 h2 h3
    go_enter Tryd.func59,Tryd.ntmps59
    go_wp2
    go_ret
    exact⟨ret_bool HR.out,rfl⟩
  ·have e2:decide (z≤1048575)=false:=by simp;omega
   have HR:=Lib.hid (show false=decide (rowsOk a z) by simp [rowsOk,h2])
   clear h1 h2
   go_enter Tryd.func59,Tryd.ntmps59
   go_wp2
   go_ret
   exact⟨ret_bool HR.out,rfl⟩
 ·have e1:decide (0≤a)=false:=by simp;omega
  have HR:=Lib.hid (show false=decide (rowsOk a z) by simp [rowsOk,h1])
  clear h1
  go_enter Tryd.func59,Tryd.ntmps59
  go_wp2
  go_ret
  exact⟨ret_bool HR.out,rfl⟩
end Go.Proofs.YtnjfkcimboidnaaDoor

/- The walks of base.Rows and of the document's RowsOf. -/
namespace Go.Proofs.YtnjfkcimboidnaaDoor
open Go.RowKit
end Go.Proofs.YtnjfkcimboidnaaDoor

/- What points come to, all together: plain laws. No program in sight. -/
namespace Go.Proofs.YtnjfkcimboidnaaDoor
def joinAll:List Ent→Roll
 |[]=>Roll.zero
 |e::l=>e.is.join (joinAll l)
theorem joinAll_fine {l:List Ent} (h:Fines l):(joinAll l).Fine:=by
 induction l with
 |nil=>exact fine_zero
 |cons e l ih=>exact join_fine h.cons.1 (ih h.cons.2)
theorem joinAll_append {a b:List Ent} (ha:Fines a) (hb:Fines b):joinAll (a++b)=(joinAll a).join (joinAll b):=by
 induction a with
 |nil=>exact(zero_join (joinAll_fine hb)).symm
 |cons e l ih=>
  have:=ha.cons
  simp only [List.cons_append,joinAll]
  rw [ih this.2,join_assoc this.1 (joinAll_fine this.2) (joinAll_fine hb)]
theorem joinAll_ins {l:List Ent} {x:Ent} (h:Fines l) (hx:x.is.Fine):joinAll (ins l x)=(joinAll l).join x.is:=by
 induction l with
 |nil=>simp only [ins,joinAll];rw [join_zero,zero_join hx]
 |cons e l ih=>
  have hc:=h.cons
  have hf:=joinAll_fine hc.2
  unfold ins
  split
  ·simp only [joinAll];rw [ih hc.2,join_assoc hc.1 hf hx]
  ·split
   ·simp only [joinAll];rw [join_assoc hc.1 hx hf,join_assoc hc.1 hf hx,join_comm hx hf]
   ·simp only [joinAll];rw [join_comm (join_fine hc.1 hf) hx]
theorem joinAll_foldl {l:List Ent}:∀{m:List Ent},Rising m∧Goods m→Goods l→joinAll (l.foldl ins m)=(joinAll m).join (joinAll l):=by
 induction l with
 |nil=>intro m hm _;simp only [List.foldl_nil,joinAll];rw [join_zero]
 |cons x l ih=>
  intro m hm hl
  have hc:=hl.cons
  rw [List.foldl_cons,ih ⟨ins_rising hm.1,ins_goods hm.2 hc.1⟩ hc.2,joinAll_ins hm.2.fines (.inr hc.1)]
  simp only [joinAll]
  rw [join_assoc (joinAll_fine hm.2.fines) (.inr hc.1) (joinAll_fine hc.2.fines)]
theorem joinAll_bag {l:List Ent} (h:Goods l):joinAll (bag l)=joinAll l:=by
 have:=joinAll_foldl (m:=[]) ⟨List.Pairwise.nil,fun _ h=>by cases h⟩ h
 unfold bag;rw [this];exact zero_join (joinAll_fine h.fines)
theorem joinAll_map {f:Ent→Ent} (hf:∀e,(f e).is=e.is) (l:List Ent):joinAll (l.map f)=joinAll l:=by
 induction l with
 |nil=>rfl
 |cons e l ih=>simp only [List.map_cons,joinAll];rw [ih,hf]
theorem fines_filter {l:List Ent} (h:Fines l) (p:Ent→Bool):Fines (l.filter p):=fun e he=>h e (List.mem_filter.1 he).1
theorem joinAll_split {l:List Ent} (h:Fines l) {p q r:Ent→Bool} (hr:∀e∈l,r e=(p e || q e)) (hd:∀e∈l,¬(p e=true∧q e=true)) :
  joinAll (l.filter r)=(joinAll (l.filter p)).join (joinAll (l.filter q)):=by
 induction l with
 |nil=>simp only [List.filter_nil,joinAll];rw [join_zero]
 |cons e l ih=>
  have hc:=h.cons
  have ih:=ih hc.2 (fun x hx=>hr x (by simp [hx])) (fun x hx=>hd x (by simp [hx]))
  have h1:=hr e (by simp)
  have h2:=hd e (by simp)
  have fp:=joinAll_fine (fines_filter hc.2 p)
  have fq:=joinAll_fine (fines_filter hc.2 q)
  cases hp:p e with
  |true=>
   cases hq:q e with
   |true=>exact absurd ⟨hp,hq⟩ h2
   |false=>
    rw [hp,hq]at h1
    rw [List.filter_cons_of_pos (by simpa using h1),List.filter_cons_of_pos hp,List.filter_cons_of_neg (by simp [hq])]
    simp only [joinAll]
    rw [ih,join_assoc hc.1 fp fq]
  |false=>
   cases hq:q e with
   |true=>
    rw [hp,hq]at h1
    rw [List.filter_cons_of_pos (by simpa using h1),List.filter_cons_of_neg (by simp [hp]),List.filter_cons_of_pos hq]
    simp only [joinAll]
    rw [ih,←join_assoc fp hc.1 fq,join_comm fp hc.1,join_assoc hc.1 fp fq]
   |false=>
    rw [hp,hq]at h1
    rw [List.filter_cons_of_neg (by simp [h1]),List.filter_cons_of_neg (by simp [hp]),List.filter_cons_of_neg (by simp [hq]),ih]
def ptsT (l:List Ent) (p lo hi:Int):Roll:=joinAll (l.filter (inRange (p*1048576+lo) (p*1048576+hi)))
theorem ptsT_none {l:List Ent} {p lo hi:Int} (h:hi≤lo):ptsT l p lo hi=Roll.zero:=by
 unfold ptsT
 rw [List.filter_eq_nil_iff.2 fun e _=>by simp [inRange];omega];rfl
theorem ptsT_fine {l:List Ent} (h:Fines l) (p lo hi:Int):(ptsT l p lo hi).Fine:=joinAll_fine (fines_filter h _)
theorem ptsT_split {l:List Ent} (h:Fines l) {p lo mid hi:Int} (h1:lo≤mid) (h2:mid≤hi):ptsT l p lo hi=(ptsT l p lo mid).join (ptsT l p mid hi):=by
 unfold ptsT
 refine joinAll_split h (fun e _=>?_) fun e _=>?_
 ·rw [Bool.eq_iff_iff];simp [inRange];omega
 ·simp [inRange];omega
theorem ptsT_bucket {l m:List Ent} {k:Nat} {p lo hi:Int} (hg:PGood l) (hm:rolledR l (szOf k)=some m) (h0:0≤lo) (h1:hi≤1048576) (h2:lo%szOf k=0) (h3:hi%szOf k=0) :
  joinAll (m.filter (inRange (p*1048576+lo) (p*1048576+hi)))=ptsT l p lo hi:=by
 unfold rolledR at hm
 have hgb:=bucket_good (szOf_pos k) hg
 have hb:=bagC_filter hgb.1 hm fun x=>decide (p*1048576+lo≤x) && decide (x<p*1048576+hi)
 obtain⟨h4,_,_,_,_⟩:=bagC_some (checked_filter hgb.1) hb
 have e1:m.filter (inRange (p*1048576+lo) (p*1048576+hi))=m.filter (fun e=>decide (p*1048576+lo≤e.key) && decide (e.key<p*1048576+hi)):=rfl
 rw [e1,h4,joinAll_bag (goods_filter hgb.1.goods _),List.filter_map,joinAll_map (f:=bucket (szOf k)) (fun _=>rfl)]
 unfold ptsT
 congr 1
 refine List.filter_congr fun e he=>?_
 have hk:=hg.2.1 e he
 show (decide (p*1048576+lo≤e.key-e.key%1048576%szOf k) && decide (e.key-e.key%1048576%szOf k<p*1048576+hi))=inRange _ _ e
 unfold inRange
 rw [Bool.eq_iff_iff]
 simp only [Bool.and_eq_true,decide_eq_true_eq]
 have hm0:=Int.emod_nonneg e.key (show (1048576:Int)≠0 by decide)
 have hm1:=Int.emod_lt_of_pos e.key (show (0:Int)<1048576 by decide)
 have hr0:=Int.emod_nonneg (e.key%1048576) (show szOf k≠0 by have:=szOf_pos k;omega)
 have hr1:=mod_le hm0 (szOf_pos k)
 rcases Int.lt_trichotomy (e.key/1048576) p with h|h|h
 ·omega
 ·subst h
  have e2:e.key=e.key/1048576*1048576+e.key%1048576:=by omega
  generalize e.key/1048576=q at *
  generalize e.key%1048576=m at *
  rw [e2]
  unfold szOf at *
  split at h2
  ·rename_i hk0;rw [if_pos hk0]at *;omega
  ·rename_i hk0
   split at h2
   ·rename_i hk1;rw [if_neg hk0,if_pos hk1]at *;omega
   ·rename_i hk1;rw [if_neg hk0,if_neg hk1]at *;omega
 ·omega
def mergeTo (a T:Roll):Option Roll:=if a.c+T.c≤1073741824 then some (a.join T)else none
theorem mergeTo_two {a T U:Roll} (ha:a.Fine) (hT:T.Fine) (hU:U.Fine):(mergeTo a T).bind (fun r=>mergeTo r U)=mergeTo a (T.join U):=by
 have h1:=join_c a T
 have h2:=join_c T U
 have h3:=hU.pos
 unfold mergeTo
 by_cases h:a.c+T.c≤1073741824
 ·rw [if_pos h]
  show (if (a.join T).c+U.c≤1073741824 then _ else _)=_
  rw [h1,h2,join_assoc ha hT hU]
  by_cases h':a.c+T.c+U.c≤1073741824
  ·rw [if_pos h',if_pos (by omega)]
  ·rw [if_neg h',if_neg (by omega)]
 ·rw [if_neg h,if_neg (by omega)];rfl
theorem mergeTo_none {a T U:Roll} (hU:U.Fine) (h:mergeTo a T=none):mergeTo a (T.join U)=none:=by
 have h2:=join_c T U
 have h3:=hU.pos
 unfold mergeTo at *
 split at h
 ·cases h
 ·rw [if_neg (by omega)]
theorem mergeTo_zero {a:Roll} (h:a.c≤1073741824):mergeTo a Roll.zero=some a:=by
 unfold mergeTo
 rw [if_pos (by show a.c+0≤1073741824;omega),join_zero]
theorem mergeTo_some {a T r:Roll} (ha:a.Fine) (hT:T.Fine) (h:mergeTo a T=some r):r.Fine∧r.c≤1073741824:=by
 unfold mergeTo at h
 split at h
 ·simp only [Option.some.injEq]at h
  subst h
  exact⟨join_fine ha hT,by rw [join_c];omega⟩
 ·cases h
noncomputable def totalE (b:Ba) (s:ByteArray) (a z:Int):Int:=
 if seriesE b s≠0 then seriesE b s else if ¬rowsOk a z then 2 else match bookR b with|none=>0|some l=>match mergeTo Roll.zero (ptsT l (placeI b.names s) a (z+1)) with|none=>1|some _=>0
noncomputable def totalR (b:Ba) (s:ByteArray) (a z:Int):Roll:=
 if seriesE b s≠0 then Roll.zero else if ¬rowsOk a z then Roll.zero else match bookR b with|none=>Roll.zero|some l=>match mergeTo Roll.zero (ptsT l (placeI b.names s) a (z+1)) with|none=>Roll.zero|some r=>r
end Go.Proofs.YtnjfkcimboidnaaDoor

/- The walk of base.Total's inner function: what the buckets within times come to. -/
namespace Go.Proofs.YtnjfkcimboidnaaDoor
open Go.RowKit
structure TotW (W:World) (bb ib ob:Nat) (b:Ba) (l:List Ent) (p:Nat) (sa:Option Addr) (sc:Nat) (g0:Option Addr) (l0 p0:Nat) (g1:Option Addr) (l1 p1:Nat) (g2:Option Addr) (l2 p2:Nat):Prop where
 bo:bb<ob
 io:ib<ob
 oW:ob<W.heap.size
 base:W.heap[bb]?=some (.cells (baCells sa b.names.length sc g0 l0 p0 g1 l1 p1 g2 l2 p2 b) 35)
 ix:W.heap[ib]?=some (.cells #[.int .i64 p] 3)
 tr0:∀w',Below ob W w'→TreeAt w' (.agg #[.slice g0 l0 p0, .int .i64 b.t0.root]) b.t0
 tr1:∀w',Below ob W w'→TreeAt w' (.agg #[.slice g1 l1 p1, .int .i64 b.t1.root]) b.t1
 tr2:∀w',Below ob W w'→TreeAt w' (.agg #[.slice g2 l2 p2, .int .i64 b.t2.root]) b.t2
 sizes:∀w',Below ob W w'→SizesAt w'
 may:baseMay b=true
 book:bookR b=some l
 small:p<16
def TotS (W:World) (ob:Nat) (r:Roll) (w:World):Prop:=Below ob W w∧w.heap[ob]?=some (.cells #[.int .i64 r.c, .int .i64 r.s, .int .i64 r.mi, .int .i64 r.ma, .int .i64 r.t, .int .i64 r.l] 42)
def TotPost (W:World) (ob:Nat) (a T:Roll) (e:Ending) (w':World):Prop:=
 ∃r,TotS W ob r w'∧match mergeTo a T with|none=>e = .returned (.int .i64 1)|some r'=>r'=r∧e = .returned (.int .i64 0)
theorem Turn.at {ob:Nat} {a w:World} (h:Turn (fun x=>x=ob) a w) (o:Nat) (u:Value):Turn (fun x=>x=ob) a (w.setCell ⟨ob,o,none⟩ u):=h.setCell (.inl rfl) u
theorem joinAll_take_le {l:List Ent} (h:Fines l) (j:Nat):(joinAll (l.take j)).c≤(joinAll l).c:=by
 have h1:joinAll l=(joinAll (l.take j)).join (joinAll (l.drop j)):=by
  conv=>lhs;rw [←List.take_append_drop j l]
  exact joinAll_append (fun e he=>h e (List.mem_of_mem_take he)) (fun e he=>h e (List.mem_of_mem_drop he))
 have h2:=(joinAll_fine (l:=l.drop j) fun e he=>h e (List.mem_of_mem_drop he)).pos
 rw [h1,join_c];omega
theorem joinAll_step {l:List Ent} (h:Fines l) {j:Nat} (hj:j<l.length):joinAll (l.take (j+1))=(joinAll (l.take j)).join l[j].is:=by
 rw [List.take_succ_eq_append_getElem hj,joinAll_append (fun e he=>h e (List.mem_of_mem_take he)) (fun e he=>by simp at he;subst he;exact h _ (List.getElem_mem _))]
 simp only [joinAll];rw [join_zero]
theorem tot_tree {b:Ba} {l:List Ent} {k p:Nat} {lo hi:Int} (hm:baseMay b=true) (hl:bookR b=some l) (hk:k<3) (h0:0≤lo) (h1:hi≤1048576) (h2:lo%szOf k=0∧hi%szOf k=0) :
  ∃ms,treeFault (b.tree k)=0∧allR (b.tree k) ((p:Int)*1048576+lo) ((p:Int)*1048576+hi)=some ms∧joinAll ms=ptsT l p lo hi∧(∀e∈ms,rollCheck e.is=0)∧ms.length≤50000:=by
 obtain⟨l',hl',_,hg,ht⟩:=base_knows hm
 rw [hl]at hl'
 simp only [Option.some.injEq]at hl'
 subst hl'
 obtain⟨m,e1,e2⟩:=ht k hk
 obtain⟨e3,e4⟩:=allR_sub e2 ((p:Int)*1048576+lo) ((p:Int)*1048576+hi)
 refine⟨_,e3,e4,ptsT_bucket hg e1 h0 h1 h2.1 h2.2,fun e he=>((allT_good e2).2.1 e (List.mem_filter.1 he).1).2,Nat.le_trans (List.length_filter_le _ _) (allT_good e2).2.2.2⟩
set_option maxRecDepth 100000 in
set_option maxHeartbeats 4000000 in
theorem total1_any {W:World} {bb ib ob:Nat} {b:Ba} {l:List Ent} {p:Nat} {sa:Option Addr} {sc:Nat} {g0:Option Addr} {l0 p0:Nat} {g1:Option Addr} {l1 p1:Nat} {g2:Option Addr} {l2 p2:Nat}
  (HW:TotW W bb ib ob b l p sa sc g0 l0 p0 g1 l1 p1 g2 l2 p2) {k:Nat} (hk:k<3) {lo hi:Int} (h0:0≤lo) (hlo:lo≤1048576) (h1:0≤hi) (hhi:hi≤1048576) (h2:lo<hi→lo%szOf k=0∧hi%szOf k=0) {a:Roll} (ha:rollCheck a=0) {w:World} (hs:TotS W ob a w) :
  Calls Tryd.prog 60 #[.int .i64 k, .int .i64 lo, .int .i64 hi, .pointer (some ⟨bb,0,none⟩), .pointer (some ⟨ib,0,none⟩), .pointer (some ⟨ob,0,none⟩)] w (TotPost W ob a (ptsT l p lo hi)):=by
 obtain⟨hbw,hob⟩:=id hs
 obtain⟨hbo,hio,hoW,hbase,hix,tr0,tr1,tr2,-,hmay,hbook,hsm⟩:=HW
 have hzw:=hbw.size
 have HS:=Lib.hid hs
 have HA:=Lib.hid ha
 by_cases hlt:lo<hi
 ·have hld:decide (hi≤lo)=false:=by simp;omega
  obtain⟨ms,q1,q2,q3,q4,q5⟩:=tot_tree (p:=p) hmay hbook hk h0 hhi (h2 hlt)
  obtain⟨lo',hlo'⟩:∃lo',(p:Int)*1048576+lo=lo':=⟨_,rfl⟩
  obtain⟨hi',hhi'⟩:∃hi',(p:Int)*1048576+hi=hi':=⟨_,rfl⟩
  rw [hlo',hhi']at q2
  have m1:IntKind.i64.wrap ((p:Int)*1048576)=(p:Int)*1048576:=IntWalk.i64_in _ (by omega)
  have m2:IntKind.i64.wrap ((p:Int)*1048576+lo)=lo':=by rw [hlo'];exact IntWalk.i64_in _ (by omega)
  have m3:IntKind.i64.wrap ((p:Int)*1048576+hi)=hi':=by rw [hhi'];exact IntWalk.i64_in _ (by omega)
  have HQ1:=Lib.hid q1
  have HQ2:=Lib.hid q2
  have HQ3:=Lib.hid q3
  have HQ4:=Lib.hid q4
  have HFN:=Lib.hid (show Fines ms from fun e he=>((check_iff _).1 (q4 e he)).1)
  have HFA:=Lib.hid ((check_iff a).1 ha)
  obtain⟨b0,b1,b2,b3,b4,b5⟩:w.cell? ⟨bb,1,none⟩=some (.slice g0 l0 p0)∧w.cell? ⟨bb,2,none⟩=some (.int .i64 b.t0.root)∧w.cell? ⟨bb,3,none⟩=some (.slice g1 l1 p1)∧w.cell? ⟨bb,4,none⟩=some (.int .i64 b.t1.root)∧w.cell? ⟨bb,5,none⟩=some (.slice g2 l2 p2)∧w.cell? ⟨bb,6,none⟩=some (.int .i64 b.t2.root):=by
   have b0:w.heap[bb]?=_:=(hbw.block _ hbo).trans hbase
   simp [World.cell?,b0]
  have i0:w.cell? ⟨ib,0,none⟩=some (.int .i64 p):=by
   have b0:w.heap[ib]?=_:=(hbw.block _ hio).trans hix
   simp [World.cell?,b0]
  have HT0:=Lib.hid fun w' lo hi (hb:Below ob W w')=>all_any (lo:=lo) (hi:=hi) (tr0 w' hb)
  have HT1:=Lib.hid fun w' lo hi (hb:Below ob W w')=>all_any (lo:=lo) (hi:=hi) (tr1 w' hb)
  have HT2:=Lib.hid fun w' lo hi (hb:Below ob W w')=>all_any (lo:=lo) (hi:=hi) (tr2 w' hb)
  clear q1 q2 q3 q4 hlo' hhi' hlt h0 hlo h1 hhi h2 hmay hbook hbase hix tr0 tr1 tr2 hs ha
  go_enter Tryd.func60,Tryd.ntmps60
  go_upto_region 3 with (fail)
  clear hld
  go_cut [10,11] (fun u c wx=>∃su sd,u = .slice su ms.length sd∧c = .int .i64 0∧OwnEnts w.heap.size wx (.slice su ms.length sd) ms∧Below w.heap.size w wx)
  case first=>
   obtain rfl|rfl|rfl:k=0∨k=1∨k=2:=by omega
   ·have HAL:=Lib.hid (HT0.out w.drew lo' hi' hbw.drew)
    refine wp_region_pivot 12 _ rfl (by kernel_rfl) (by kernel_rfl) ?_
    (simp only [List.take_succ_cons,List.take_zero,List.drop_succ_cons,List.drop_zero];(repeat ((with_reducible refine wpStill_step (fun K hK=>?_));go_simp;(with_reducible refine hK _ ?_);clear hK K));(with_reducible refine wpStill_nil ?_))
    intro K hK
    go_simp
    (with_reducible refine HAL.out.mono ?_);rintro e w5 ⟨hb5,-,hok⟩
    have hok:=hok HQ1.out
    rw [show allR b.t0 lo' hi'=some ms from HQ2.out]at hok
    obtain⟨v5,rfl,ho5⟩:=hok
    obtain⟨su,sd,rfl⟩:=ho5.isSlice
    go_simp
    refine hK _ _ ?_
    clear hK K
    ((repeat ((with_reducible refine wpStill_step (fun K hK=>?_));go_simp;(with_reducible refine hK _ ?_);clear hK K));(with_reducible refine wpStill_nil ?_))
    all_goals
     go_wp2
     go_meet
     exact⟨_,_,rfl,rfl,ho5,Below.trans' (Below.refl _ _).drew hb5 (Nat.le_refl _)⟩
   ·have HAL:=Lib.hid (HT1.out w.drew lo' hi' hbw.drew)
    refine wp_region_pivot 12 _ rfl (by kernel_rfl) (by kernel_rfl) ?_
    (simp only [List.take_succ_cons,List.take_zero,List.drop_succ_cons,List.drop_zero];(repeat ((with_reducible refine wpStill_step (fun K hK=>?_));go_simp;(with_reducible refine hK _ ?_);clear hK K));(with_reducible refine wpStill_nil ?_))
    intro K hK
    go_simp
    (with_reducible refine HAL.out.mono ?_);rintro e w5 ⟨hb5,-,hok⟩
    have hok:=hok HQ1.out
    rw [show allR b.t1 lo' hi'=some ms from HQ2.out]at hok
    obtain⟨v5,rfl,ho5⟩:=hok
    obtain⟨su,sd,rfl⟩:=ho5.isSlice
    go_simp
    refine hK _ _ ?_
    clear hK K
    ((repeat ((with_reducible refine wpStill_step (fun K hK=>?_));go_simp;(with_reducible refine hK _ ?_);clear hK K));(with_reducible refine wpStill_nil ?_))
    all_goals
     go_wp2
     go_meet
     exact⟨_,_,rfl,rfl,ho5,Below.trans' (Below.refl _ _).drew hb5 (Nat.le_refl _)⟩
   ·have HAL:=Lib.hid (HT2.out w.drew lo' hi' hbw.drew)
    refine wp_region_pivot 12 _ rfl (by kernel_rfl) (by kernel_rfl) ?_
    (simp only [List.take_succ_cons,List.take_zero,List.drop_succ_cons,List.drop_zero];(repeat ((with_reducible refine wpStill_step (fun K hK=>?_));go_simp;(with_reducible refine hK _ ?_);clear hK K));(with_reducible refine wpStill_nil ?_))
    intro K hK
    go_simp
    (with_reducible refine HAL.out.mono ?_);rintro e w5 ⟨hb5,-,hok⟩
    have hok:=hok HQ1.out
    rw [show allR b.t2 lo' hi'=some ms from HQ2.out]at hok
    obtain⟨v5,rfl,ho5⟩:=hok
    obtain⟨su,sd,rfl⟩:=ho5.isSlice
    go_simp
    refine hK _ _ ?_
    clear hK K
    ((repeat ((with_reducible refine wpStill_step (fun K hK=>?_));go_simp;(with_reducible refine hK _ ?_);clear hK K));(with_reducible refine wpStill_nil ?_))
    all_goals
     go_wp2
     go_meet
     exact⟨_,_,rfl,rfl,ho5,Below.trans' (Below.refl _ _).drew hb5 (Nat.le_refl _)⟩
  case rest=>
   obtain⟨su,sd,rfl,rfl,ho3,hb3⟩:=hcut
   rename World=>w3
   clear b0 b1 b2 b3 b4 b5 i0 m1 m2 m3
   have hz3:=hb3.size
   have HEN:=Lib.hid (ho3.at (by omega))
   have hob3:w3.heap[ob]?=_:=(hb3.block _ (by omega)).trans hob
   have hb3W:Below ob W w3:=Below.trans' hbw hb3 (by omega)
   have HOW:=Lib.hid ho3
   clear ho3 hob
   go_upto_region 5 with (fail)
   go_loopg [11,35] ms.length (fun g ec i wr=>∃(j:Nat) (ok:Bool) (r:Roll),j≤ms.length∧g=ms.length-j∧i = .int .i64 j∧ec = .int .i64 (if ok=true then 0 else 1)∧Hid (if ok=true then r=a.join (joinAll (ms.take j))∧r.c≤1073741824 else mergeTo a (joinAll ms)=none)∧Hid (wr.heap[ob]?=some (.cells #[.int .i64 r.c, .int .i64 r.s, .int .i64 r.mi, .int .i64 r.ma, .int .i64 r.t, .int .i64 r.l] 42))∧Hid (Turn (fun x=>x=ob) w3 wr))
   case atStart=>exact⟨0,true,a,Nat.zero_le _,rfl,rfl,rfl,Lib.hid (by rw [if_pos rfl];exact⟨by simp only [List.take_zero,joinAll];rw [join_zero],HFA.out.2⟩),Lib.hid hob3,Lib.hid (Turn.refl _ _)⟩
   case round=>
    obtain⟨j,ok,r,hj,rfl,rfl,rfl,HOK,HOB,HTU⟩:=hrel
    have hzr:=HTU.out.size
    have hbr:Below ob W wr:=HTU.out.below hb3W (by omega) (fun i hi=>by omega)
    by_cases hjl:j<ms.length
    ·obtain⟨_,_,hv,-,-,-,-,h5⟩:=HEN.out
     injection hv with hv1 _ hv3
     subst hv1 hv3
     obtain⟨eb,eoff,hla,heb,hec⟩:=h5 (by omega)
     subst hla
     have hebo:eb≠ob:=by
      obtain⟨-,⟨-,h0'⟩|⟨g,_,_,hv',hBg,-⟩⟩:=HOW.out.row
      ·omega
      ·injection hv' with hv1' _ _
       injection hv1' with hv1'
       injection hv1' with h1 _
       omega
     obtain⟨y0,y1,y2,y3,y4,y5,y6⟩:=ent_cells (Below.refl _ _) heb hec hjl
     obtain⟨y,hy⟩:∃y,ms[j]=y:=⟨_,rfl⟩
     rw [hy]at y0 y1 y2 y3 y4 y5 y6
     rw [←HTU.out.cell heb hebo]at y0 y1 y2 y3 y4 y5 y6
     have HYC:=Lib.hid (HQ4.out y (by rw [←hy];exact List.getElem_mem hjl))
     have HSTP:=Lib.hid (joinAll_step HFN.out hjl)
     rw [hy]at HSTP
     have hixe:=fun w'=>idx_ents (ab:=eb) (aoff:=eoff) (n:=ms.length) (cap:=sd) (show (j:Int)=((j:Nat):Int) by rfl) hjl w'
     have hwz:eb<wr.heap.size:=by omega
     obtain⟨W1,hW1⟩:∃W1,W1=wr.alloc (.cells #[.int .i64 y.key, .int .i64 y.is.c, .int .i64 y.is.s, .int .i64 y.is.mi, .int .i64 y.is.ma, .int .i64 y.is.t, .int .i64 y.is.l] 96):=⟨_,rfl⟩
     have ht1:Turn (fun x=>x=ob) w3 W1:=by rw [hW1];exact HTU.out.alloc _
     have hz1:W1.heap.size=wr.heap.size+1:=by rw [hW1];simp
     have hb1:Below wr.heap.size wr W1:=by rw [hW1];exact belowAuto
     have k1:W1.heap[wr.heap.size]?=some (.cells #[.int .i64 y.key, .int .i64 y.is.c, .int .i64 y.is.s, .int .i64 y.is.mi, .int .i64 y.is.ma, .int .i64 y.is.t, .int .i64 y.is.l] 96):=by rw [hW1];exact heap_new _ _ rfl
     obtain⟨q1,q2,q3,q4,q5,q6⟩:W1.cell? ⟨wr.heap.size,1,none⟩=some (.int .i64 y.is.c)∧W1.cell? ⟨wr.heap.size,2,none⟩=some (.int .i64 y.is.s)∧W1.cell? ⟨wr.heap.size,3,none⟩=some (.int .i64 y.is.mi)∧W1.cell? ⟨wr.heap.size,4,none⟩=some (.int .i64 y.is.ma)∧W1.cell? ⟨wr.heap.size,5,none⟩=some (.int .i64 y.is.t)∧W1.cell? ⟨wr.heap.size,6,none⟩=some (.int .i64 y.is.l):=by simp [World.cell?,k1]
     have HO1:=Lib.hid ((hb1.block _ (by omega)).trans HOB.out:W1.heap[ob]?=_)
     obtain⟨o0,o1,o2,o3,o4,o5,-⟩:=zero_cells HO1.out
     clear hec h5 hy
     go_upto_region 7 with (fail)
     rw [←hW1]
     clear hW1 k1 y0 y1 y2 y3 y4 y5 y6
     cases ok with
     |false=>
      go_wp2
      go_roundg (ms.length-(j+1))
      case measure=>omega
      case rel=>exact⟨j+1,false,r,by omega,rfl,by go_num,rfl,HOK,HO1,Lib.hid ht1⟩
     |true=>
      obtain⟨hr1,hr2⟩:=HOK.out
      have hrc:rollCheck r=0:=(check_iff r).2 ⟨by rw [hr1];exact join_fine HFA.out.1 (joinAll_fine fun e he=>HFN.out e (List.mem_of_mem_take he)),hr2⟩
      by_cases hcc:r.c+y.is.c≤1073741824
      ·have HM:=Lib.hid fun w'=>(by have:=merge_any r y.is w';rw [(merge_ok hrc HYC.out hcc).1]at this;exact this :
        Calls Tryd.prog 19 #[.agg #[.int .i64 r.c, .int .i64 r.s, .int .i64 r.mi, .int .i64 r.ma, .int .i64 r.t, .int .i64 r.l], .agg #[.int .i64 y.is.c, .int .i64 y.is.s, .int .i64 y.is.mi, .int .i64 y.is.ma, .int .i64 y.is.t, .int .i64 y.is.l]] w' fun e' w5=>e' = .returned (.tuple #[.agg #[.int .i64 (r.join y.is).c, .int .i64 (r.join y.is).s, .int .i64 (r.join y.is).mi, .int .i64 (r.join y.is).ma, .int .i64 (r.join y.is).t, .int .i64 (r.join y.is).l], .int .i64 0])∧Below w'.heap.size w' w5)
       have HNX:=Lib.hid (show r.join y.is=a.join (joinAll (ms.take (j+1)))∧(r.join y.is).c≤1073741824 from ⟨by
        rw [HSTP.out,hr1,join_assoc HFA.out.1 (joinAll_fine fun e he=>HFN.out e (List.mem_of_mem_take he)) ((check_iff _).1 HYC.out).1],by rw [join_c];exact hcc⟩)
       generalize r.join y.is=J at *
       clear hr1 hr2 hrc hcc HOK
       go_wp2_with ((go_at_call 19;(with_reducible refine(HM.out _).mono ?_);rintro e' w5 ⟨rfl,hb5⟩;have ht5:=ht1.trans (Turn.of hb5 (Nat.le_refl _));have ho5:w5.heap[ob]?=_:=(hb5.block _ (by omega)).trans HO1.out;obtain⟨z0,z1,z2,z3,z4,z5,zf⟩:=zero_cells ho5))
       go_roundg (ms.length-(j+1))
       case measure=>omega
       case rel=>exact⟨j+1,true,J,by omega,rfl,by go_num,rfl,Lib.hid (by rw [if_pos rfl];exact HNX.out),Lib.hid (by with_reducible exact heap_set6 ho5),Lib.hid (by repeat (first|with_reducible exact Turn.refl _ _|with_reducible assumption|with_reducible refine Turn.drewN ?_ _|with_reducible refine Turn.drew ?_|with_reducible refine Turn.alloc ?_ _|with_reducible refine Turn.at ?_ _ _))⟩
      ·have HM:=Lib.hid fun w'=>(by have:=merge_any r y.is w';rw [(merge_fine hrc HYC.out).trans (if_neg hcc)]at this;exact this :
        Calls Tryd.prog 19 #[.agg #[.int .i64 r.c, .int .i64 r.s, .int .i64 r.mi, .int .i64 r.ma, .int .i64 r.t, .int .i64 r.l], .agg #[.int .i64 y.is.c, .int .i64 y.is.s, .int .i64 y.is.mi, .int .i64 y.is.ma, .int .i64 y.is.t, .int .i64 y.is.l]] w' fun e' w5=>e' = .returned (.tuple #[.agg #[.int .i64 Roll.zero.c, .int .i64 Roll.zero.s, .int .i64 Roll.zero.mi, .int .i64 Roll.zero.ma, .int .i64 Roll.zero.t, .int .i64 Roll.zero.l], .int .i64 1])∧Below w'.heap.size w' w5)
       have HNX:=Lib.hid (show mergeTo a (joinAll ms)=none by
        have e1:=joinAll_take_le HFN.out (j+1)
        have e2:=join_c (joinAll (ms.take j)) y.is
        have e3:=join_c a (joinAll (ms.take j))
        rw [HSTP.out]at e1
        rw [←hr1]at e3
        unfold mergeTo
        rw [if_neg (by omega)])
       generalize Roll.zero=J at *
       clear hr1 hr2 hrc hcc HOK
       go_wp2_with ((go_at_call 19;(with_reducible refine(HM.out _).mono ?_);rintro e' w5 ⟨rfl,hb5⟩;have ht5:=ht1.trans (Turn.of hb5 (Nat.le_refl _));have ho5:w5.heap[ob]?=_:=(hb5.block _ (by omega)).trans HO1.out;obtain⟨z0,z1,z2,z3,z4,z5,zf⟩:=zero_cells ho5))
       go_roundg (ms.length-(j+1))
       case measure=>omega
       case rel=>exact⟨j+1,false,J,by omega,rfl,by go_num,rfl,Lib.hid (by rw [if_neg (by decide)];exact HNX.out),Lib.hid (by with_reducible exact heap_set6 ho5),Lib.hid (by repeat (first|with_reducible exact Turn.refl _ _|with_reducible assumption|with_reducible refine Turn.drewN ?_ _|with_reducible refine Turn.drew ?_|with_reducible refine Turn.alloc ?_ _|with_reducible refine Turn.at ?_ _ _))⟩
    ·have hall:ms.take j=ms:=List.take_of_length_le (by omega)
     cases ok with
     |false=>
      have HEND:=Lib.hid (show mergeTo a (ptsT l p lo hi)=none by rw [←HQ3.out];exact HOK.out)
      go_wp2
      go_ret
      refine⟨r,⟨hbr,HOB.out⟩,?_⟩
      rw [HEND.out]
      exact rfl
     |true=>
      have HEND:=Lib.hid (show mergeTo a (ptsT l p lo hi)=some r by
       obtain⟨hr1,hr2⟩:=HOK.out
       rw [hall,HQ3.out]at hr1
       have:=join_c a (ptsT l p lo hi)
       unfold mergeTo
       rw [hr1]at hr2 ⊢
       rw [if_pos (by omega)])
      clear hall
      go_wp2
      go_ret
      refine⟨r,⟨hbr,HOB.out⟩,?_⟩
      rw [HEND.out]
      exact⟨rfl,rfl⟩
 ·have hld:decide (hi≤lo)=true:=by simp;omega
  have HEND:=Lib.hid (show mergeTo a (ptsT l p lo hi)=some a by rw [ptsT_none (by omega)];exact mergeTo_zero ((check_iff a).1 ha).2)
  clear hlt h0 hlo h1 hhi h2 hmay hbook hbase hix tr0 tr1 tr2 ha
  go_enter Tryd.func60,Tryd.ntmps60
  go_wp2
  go_ret
  refine⟨a,hs,?_⟩
  rw [HEND.out]
  exact⟨rfl,rfl⟩
end Go.Proofs.YtnjfkcimboidnaaDoor

/- The walk of base.cover. -/
namespace Go.Proofs.YtnjfkcimboidnaaDoor
open Go.RowKit
theorem TotPost.gNo {W:World} {ob:Nat} {a T:Roll} {e:Ending} {w':World} (h:TotPost W ob a T e w') (hm:mergeTo a T=none):e = .returned (.int .i64 1)∧∃r,TotS W ob r w':=by
 obtain⟨r,h1,h2⟩:=h
 rw [hm]at h2
 exact⟨h2,r,h1⟩
theorem TotPost.gYes {W:World} {ob:Nat} {a T r:Roll} {e:Ending} {w':World} (h:TotPost W ob a T e w') (hm:mergeTo a T=some r):e = .returned (.int .i64 0)∧TotS W ob r w':=by
 obtain⟨r',h1,h2⟩:=h
 rw [hm]at h2
 obtain⟨rfl,h3⟩:=h2
 exact⟨h3,h1⟩
theorem TotPost.no {W:World} {ob:Nat} {a T:Roll} {w':World} (hm:mergeTo a T=none) (h:∃r,TotS W ob r w'):TotPost W ob a T (.returned (.int .i64 1)) w':=by
 obtain⟨r,h⟩:=h
 exact⟨r,h,by rw [hm]⟩
theorem TotPost.yes {W:World} {ob:Nat} {a T r:Roll} {w':World} (hm:mergeTo a T=some r) (h:TotS W ob r w'):TotPost W ob a T (.returned (.int .i64 0)) w':=⟨r,h,by rw [hm];exact⟨rfl,rfl⟩⟩
abbrev totF (bb ib ob:Nat):Value:= .func (.func 60) #[] #[.pointer (some ⟨bb,0,none⟩), .pointer (some ⟨ib,0,none⟩), .pointer (some ⟨ob,0,none⟩)]
def Covers (W:World) (bb ib ob:Nat) (l:List Ent) (p:Nat) (n:Int):Prop:=∀(lo hi:Int),0≤lo→lo≤hi→hi≤1048576→∀a,rollCheck a=0→∀w,TotS W ob a w →
 Calls Tryd.prog 61 #[.int .i64 n, .int .i64 lo, .int .i64 hi,totF bb ib ob] w (TotPost W ob a (ptsT l p lo hi))
section
variable {W:World} {bb ib ob:Nat} {b:Ba} {l:List Ent} {p:Nat} {sa:Option Addr} {sc:Nat} {g0:Option Addr} {l0 p0:Nat} {g1:Option Addr} {l1 p1:Nat} {g2:Option Addr} {l2 p2:Nat}
set_option maxRecDepth 100000 in
set_option maxHeartbeats 1000000 in
theorem cover_zero (HW:TotW W bb ib ob b l p sa sc g0 l0 p0 g1 l1 p1 g2 l2 p2):Covers W bb ib ob l p 0:=by
 intro lo hi h0 h1 h2 a ha w hs
 have HT:=Lib.hid (show Calls Tryd.prog 60 #[.int .i64 0, .int .i64 lo, .int .i64 hi, .pointer (some ⟨bb,0,none⟩), .pointer (some ⟨ib,0,none⟩), .pointer (some ⟨ob,0,none⟩)] w (TotPost W ob a (ptsT l p lo hi)) from
  total1_any HW (k:=0) (by decide) h0 (by omega) (by omega) h2 (fun _=>⟨Int.emod_one lo,Int.emod_one hi⟩) ha hs)
 cases hm:mergeTo a (ptsT l p lo hi) with
 |none=>
  have HM:=Lib.hid hm
  clear hm
  go_enter Tryd.func61,Tryd.ntmps61
  go_wp2_with ((go_at_call 60;(with_reducible refine HT.out.mono ?_);intro e w5 h5;obtain⟨rfl,hs5⟩:=h5.gNo HM.out))
  go_ret
  exact TotPost.no HM.out hs5
 |some r=>
  have HM:=Lib.hid hm
  clear hm
  go_enter Tryd.func61,Tryd.ntmps61
  go_wp2_with ((go_at_call 60;(with_reducible refine HT.out.mono ?_);intro e w5 h5;obtain⟨rfl,hs5⟩:=h5.gYes HM.out))
  go_ret
  exact TotPost.yes HM.out hs5
set_option maxRecDepth 100000 in
set_option maxHeartbeats 2000000 in
theorem cover_step (HW:TotW W bb ib ob b l p sa sc g0 l0 p0 g1 l1 p1 g2 l2 p2) {k:Nat} (hk:k=1∨k=2) {M:Int} (hM:(k:Int)-1=M) (IH:Covers W bb ib ob l p M):Covers W bb ib ob l p k:=by
 intro lo hi h0 h1 h2 a ha w hs
 obtain⟨sz,hsz⟩:∃sz,szOf k=sz:=⟨_,rfl⟩
 have hszv:sz=60∨sz=3600:=by rcases hk with rfl|rfl;exact .inl hsz.symm;exact .inr hsz.symm
 have hs0:(sz == 0)=false:=by simp;omega
 obtain⟨F,hF⟩:∃F,(lo+sz-1)/sz=F:=⟨_,rfl⟩
 obtain⟨G,hG⟩:∃G,hi/sz=G:=⟨_,rfl⟩
 obtain⟨A,hA⟩:∃A,F*sz=A:=⟨_,rfl⟩
 obtain⟨Z,hZ⟩:∃Z,G*sz=Z:=⟨_,rfl⟩
 have hA1:lo≤A∧A≤lo+sz-1:=by
  rw [←hA,←hF]
  have e1:=Int.ediv_mul_le (lo+sz-1) (show sz≠0 by omega)
  have e2:=Int.lt_ediv_add_one_mul_self (lo+sz-1) (show 0<sz by omega)
  rw [Int.add_mul,Int.one_mul]at e2
  omega
 have hA2:A%sz=0:=by rw [←hA];exact Int.mul_emod_left F sz
 have hZ1:Z≤hi∧0≤Z:=by
  rw [←hZ,←hG]
  exact⟨Int.ediv_mul_le hi (by omega),Int.mul_nonneg (Int.ediv_nonneg (by omega) (by omega)) (by omega)⟩
 have hZ2:Z%sz=0:=by rw [←hZ];exact Int.mul_emod_left G sz
 have hF0:0≤F∧F≤lo+sz-1:=by rw [←hF];exact⟨Int.ediv_nonneg (by omega) (by omega),Int.ediv_le_self _ (by omega)⟩
 have hG0:0≤G∧G≤hi:=by rw [←hG];exact⟨Int.ediv_nonneg (by omega) (by omega),Int.ediv_le_self _ (by omega)⟩
 have m1:IntKind.i64.wrap (lo+sz)=lo+sz:=IntWalk.i64_in _ (by omega)
 have m2:IntKind.i64.wrap (lo+sz-1)=lo+sz-1:=IntWalk.i64_in _ (by omega)
 have m3:(lo+sz-1).tdiv sz=F:=by rw [Int.tdiv_eq_ediv_of_nonneg (by omega)];exact hF
 have m4:IntKind.i64.wrap F=F:=IntWalk.i64_in _ (by omega)
 have m5:IntKind.i64.wrap (F*sz)=A:=by rw [hA];exact IntWalk.i64_in _ (by omega)
 have m6:hi.tdiv sz=G:=by rw [Int.tdiv_eq_ediv_of_nonneg (by omega)];exact hG
 have m7:IntKind.i64.wrap G=G:=IntWalk.i64_in _ (by omega)
 have m8:IntKind.i64.wrap (G*sz)=Z:=by rw [hZ];exact IntWalk.i64_in _ (by omega)
 have m9:IntKind.i64.wrap ((k:Int)-1)=M:=by rw [hM];exact IntWalk.i64_in _ (by omega)
 have hkd:((k:Int) == 0)=false:=by simp;omega
 obtain⟨-,c0,c1,c2⟩:=HW.sizes w hs.1
 have HFN:=Lib.hid (show Fines l from (bookR_good HW.book).2.1.goods.fines)
 have HFA:=Lib.hid ((check_iff a).1 ha)
 have HIH:=Lib.hid IH
 have HT:=Lib.hid fun lo hi (h0:0≤lo) (h1:lo≤1048576) (h2:0≤hi) (h3:hi≤1048576) (h4:lo<hi→lo%sz=0∧hi%sz=0) a (ha:rollCheck a=0) w (hs:TotS W ob a w)=>total1_any HW (k:=k) (by omega) h0 h1 h2 h3 (by rw [hsz];exact h4) ha hs
 have HSZ:=Lib.hid hsz
 have HK:=Lib.hid hk
 have HSV:=Lib.hid hszv
 have HHA:=Lib.hid ha
 clear hsz hF hG hA hZ hM hF0 hG0 ha IH HW
 go_enter Tryd.func61,Tryd.ntmps61
 go_upto_region 3 with (fail)
 go_cut [9] (fun s wx=>s = .int .i64 sz∧wx=w)
 case first=>
  rcases HK.out with rfl|rfl
  ·obtain rfl:60=sz:=HSZ.out
   go_wp2
   go_meet
   exact⟨rfl,rfl⟩
  ·obtain rfl:3600=sz:=HSZ.out
   go_wp2
   go_meet
   exact⟨rfl,rfl⟩
 case rest=>
  obtain⟨rfl,hwc⟩:=hcut
  obtain rfl:=hwc.symm
  clear c0 c1 c2 hszv hk
  by_cases hAZ:Z≤A
  ·have hd:decide (Z≤A)=true:=by simp [hAZ]
   have HC:=Lib.hid (HIH.out lo hi h0 h1 h2 a HHA.out w hs)
   clear hAZ
   cases hm:mergeTo a (ptsT l p lo hi) with
   |none=>
    have HM:=Lib.hid hm
    clear hm
    go_wp2_with ((go_at_call 61;(with_reducible refine HC.out.mono ?_);intro e w5 h5;obtain⟨rfl,hs5⟩:=h5.gNo HM.out))
    go_ret
    exact TotPost.no HM.out hs5
   |some r=>
    have HM:=Lib.hid hm
    clear hm
    go_wp2_with ((go_at_call 61;(with_reducible refine HC.out.mono ?_);intro e w5 h5;obtain⟨rfl,hs5⟩:=h5.gYes HM.out))
    go_ret
    exact TotPost.yes HM.out hs5
  ·have hd:decide (Z≤A)=false:=by simp;omega
   have h3:A<Z:=by omega
   have HP:=Lib.hid (show ptsT l p lo hi=(ptsT l p lo A).join ((ptsT l p A Z).join (ptsT l p Z hi)) by
    rw [ptsT_split HFN.out (p:=p) (show lo≤A from hA1.1) (show A≤hi by omega),ptsT_split HFN.out (p:=p) (show A≤Z by omega) hZ1.1])
   have HC1:=Lib.hid (HIH.out lo A h0 hA1.1 (by omega) a HHA.out w hs)
   have hf1:=ptsT_fine HFN.out p lo A
   have hf2:=ptsT_fine HFN.out p A Z
   have hf3:=ptsT_fine HFN.out p Z hi
   cases hm1:mergeTo a (ptsT l p lo A) with
   |none=>
    have HM1:=Lib.hid hm1
    have HM:=Lib.hid (show mergeTo a (ptsT l p lo hi)=none by rw [HP.out];exact mergeTo_none (join_fine hf2 hf3) hm1)
    clear hm1 hAZ
    go_wp2_with ((go_at_call 61;(with_reducible refine HC1.out.mono ?_);intro e w5 h5;obtain⟨rfl,hs5⟩:=h5.gNo HM1.out))
    go_ret
    exact TotPost.no HM.out hs5
   |some r1=>
    have HM1:=Lib.hid hm1
    have hr1:=mergeTo_some HFA.out.1 hf1 hm1
    have HR1:=Lib.hid ((check_iff r1).2 hr1)
    have HT2:=Lib.hid fun w hs=>HT.out A Z (by omega) (by omega) (by omega) (by omega) (fun _=>⟨hA2,hZ2⟩) r1 HR1.out w hs
    have HQ:=Lib.hid (show mergeTo a (ptsT l p lo hi)=mergeTo r1 ((ptsT l p A Z).join (ptsT l p Z hi)) by
     rw [HP.out,←mergeTo_two HFA.out.1 hf1 (join_fine hf2 hf3),hm1];rfl)
    cases hm2:mergeTo r1 (ptsT l p A Z) with
    |none=>
     have HM2:=Lib.hid hm2
     have HM:=Lib.hid (show mergeTo a (ptsT l p lo hi)=none by rw [HQ.out];exact mergeTo_none hf3 hm2)
     clear hm1 hm2 hAZ hr1
     go_wp2_with (first|(go_at_call 61;(with_reducible refine HC1.out.mono ?_);intro e w5 h5;obtain⟨rfl,hs5⟩:=h5.gYes HM1.out)|(go_at_call 60;(with_reducible refine(HT2.out _ hs5).mono ?_);intro e w6 h6;obtain⟨rfl,hs6⟩:=h6.gNo HM2.out))
     go_ret
     exact TotPost.no HM.out hs6
    |some r2=>
     have HM2:=Lib.hid hm2
     have hr2:=mergeTo_some hr1.1 hf2 hm2
     have HC3:=Lib.hid fun w hs=>HIH.out Z hi hZ1.2 hZ1.1 h2 r2 ((check_iff r2).2 hr2) w hs
     have HQ2:=Lib.hid (show mergeTo a (ptsT l p lo hi)=mergeTo r2 (ptsT l p Z hi) by
      rw [HQ.out,←mergeTo_two hr1.1 hf2 hf3,hm2];rfl)
     cases hm3:mergeTo r2 (ptsT l p Z hi) with
     |none=>
      have HM3:=Lib.hid hm3
      have HM:=Lib.hid (HQ2.out.trans hm3)
      clear hm1 hm2 hm3 hAZ hr1 hr2
      go_wp2_with (first|(go_at_call 61;(with_reducible refine HC1.out.mono ?_);intro e w5 h5;obtain⟨rfl,hs5⟩:=h5.gYes HM1.out)|(go_at_call 60;(with_reducible refine(HT2.out _ hs5).mono ?_);intro e w6 h6;obtain⟨rfl,hs6⟩:=h6.gYes HM2.out)|(go_at_call 61;(with_reducible refine(HC3.out _ hs6).mono ?_);intro e w7 h7;obtain⟨rfl,hs7⟩:=h7.gNo HM3.out))
      go_ret
      exact TotPost.no HM.out hs7
     |some r3=>
      have HM3:=Lib.hid hm3
      have HM:=Lib.hid (HQ2.out.trans hm3)
      clear hm1 hm2 hm3 hAZ hr1 hr2
      go_wp2_with (first|(go_at_call 61;(with_reducible refine HC1.out.mono ?_);intro e w5 h5;obtain⟨rfl,hs5⟩:=h5.gYes HM1.out)|(go_at_call 60;(with_reducible refine(HT2.out _ hs5).mono ?_);intro e w6 h6;obtain⟨rfl,hs6⟩:=h6.gYes HM2.out)|(go_at_call 61;(with_reducible refine(HC3.out _ hs6).mono ?_);intro e w7 h7;obtain⟨rfl,hs7⟩:=h7.gYes HM3.out))
      go_ret
      exact TotPost.yes HM.out hs7
theorem cover_any (HW:TotW W bb ib ob b l p sa sc g0 l0 p0 g1 l1 p1 g2 l2 p2):Covers W bb ib ob l p 2:=
 cover_step (k:=2) HW (.inr rfl) (M:=1) (by decide) (cover_step (k:=1) HW (.inl rfl) (M:=0) (by decide) (cover_zero HW))
end
end Go.Proofs.YtnjfkcimboidnaaDoor

/- The walk of base.Total. -/
namespace Go.Proofs.YtnjfkcimboidnaaDoor
open Go.RowKit
def TotalPost (B:Nat) (w:World) (r:Roll) (E:Int) (e:Ending) (w':World):Prop:=Below B w w'∧e = .returned (.tuple #[r.v, .int .i64 E])
theorem total_series {b:Ba} {s:ByteArray} {a z:Int} (h:seriesE b s≠0):totalE b s a z=seriesE b s∧totalR b s a z=Roll.zero:=by
 unfold totalE totalR;rw [if_pos h,if_pos h];exact⟨rfl,rfl⟩
theorem total_range {b:Ba} {s:ByteArray} {a z:Int} (h:seriesE b s=0) (hr:¬rowsOk a z):totalE b s a z=2∧totalR b s a z=Roll.zero:=by
 unfold totalE totalR;rw [if_neg (not_not_intro h),if_neg (not_not_intro h),if_pos hr,if_pos hr];exact⟨rfl,rfl⟩
theorem total_none {b:Ba} {s:ByteArray} {a z:Int} {l:List Ent} {p:Int} (h:seriesE b s=0) (hr:rowsOk a z) (hl:bookR b=some l) (hp:placeI b.names s=p) (hm:mergeTo Roll.zero (ptsT l p a (z+1))=none):totalE b s a z=1∧totalR b s a z=Roll.zero:=by
 subst hp
 unfold totalE totalR;rw [if_neg (not_not_intro h),if_neg (not_not_intro h),if_neg (not_not_intro hr),if_neg (not_not_intro hr),hl];simp only;rw [hm];exact⟨rfl,rfl⟩
theorem total_some {b:Ba} {s:ByteArray} {a z:Int} {l:List Ent} {p:Int} {r:Roll} (h:seriesE b s=0) (hr:rowsOk a z) (hl:bookR b=some l) (hp:placeI b.names s=p) (hm:mergeTo Roll.zero (ptsT l p a (z+1))=some r):totalE b s a z=0∧totalR b s a z=r:=by
 subst hp
 unfold totalE totalR;rw [if_neg (not_not_intro h),if_neg (not_not_intro h),if_neg (not_not_intro hr),if_neg (not_not_intro hr),hl];simp only;rw [hm];exact⟨rfl,rfl⟩
set_option maxRecDepth 100000 in
set_option maxHeartbeats 4000000 in
theorem total_any {v:Value} {b:Ba} {s:ByteArray} {a z:Int} {w:World} (h:BaseAt w v b) (hst:∀s∈b.names,s.size≤140737488351232) (hsz:SizesAt w) :
  Calls Tryd.prog 28 #[v, .string s, .int .i64 a, .int .i64 z] w (TotalPost w.heap.size w (totalR b s a z) (totalE b s a z)):=by
 have HSE:=Lib.hid fun w' (hb:Below w.heap.size w w')=>series_any (s:=s) (h.below hb) hst (hsz.below hb)
 obtain⟨sa,sc,g0,l0,p0,g1,l1,p1,g2,l2,p2,rfl,hn,hnames,T0,T1,T2⟩:=h.open
 obtain⟨W0,hW0⟩:∃W0,W0=(w.alloc (.cells (baCells sa b.names.length sc g0 l0 p0 g1 l1 p1 g2 l2 p2 b) 35)).alloc (.cells #[.int .i64 0, .int .i64 0, .int .i64 0, .int .i64 0, .int .i64 0, .int .i64 0] 42):=⟨_,rfl⟩
 have hb0:Below w.heap.size w W0:=by rw [hW0];exact belowAuto
 have hz0:W0.heap.size=w.heap.size+2:=by rw [hW0];simp
 have k0:W0.heap[w.heap.size]?=some (.cells (baCells sa b.names.length sc g0 l0 p0 g1 l1 p1 g2 l2 p2 b) 35):=by rw [hW0,Below.heap_alloc _ _ _ (by simp)];exact heap_new _ _ rfl
 have k1:W0.heap[w.heap.size+1]?=some (.cells #[.int .i64 0, .int .i64 0, .int .i64 0, .int .i64 0, .int .i64 0, .int .i64 0] 42):=by rw [hW0];exact heap_new _ _ (by simp)
 have HZ:=Lib.hid fun w' (hb:Below W0.heap.size W0 w')=>zero_cells ((hb.block _ (by omega)).trans k1)
 have HX:=Lib.hid fun w' (hb:Below W0.heap.size W0 w')=>(by
  have b0:w'.heap[w.heap.size]?=_:=(hb.block _ (by omega)).trans k0
  simp [World.cell?,b0] :
  w'.cell? ⟨w.heap.size,0,none⟩=some (.slice sa b.names.length sc)∧w'.cell? ⟨w.heap.size,1,none⟩=some (.slice g0 l0 p0)∧w'.cell? ⟨w.heap.size,2,none⟩=some (.int .i64 b.t0.root)∧w'.cell? ⟨w.heap.size,3,none⟩=some (.slice g1 l1 p1)∧w'.cell? ⟨w.heap.size,4,none⟩=some (.int .i64 b.t1.root)∧w'.cell? ⟨w.heap.size,5,none⟩=some (.slice g2 l2 p2)∧w'.cell? ⟨w.heap.size,6,none⟩=some (.int .i64 b.t2.root)∧w'.cell? ⟨w.heap.size,7,none⟩=some (.int .i64 b.floor))
 have HB:=Lib.hid fun w' (hb:Below W0.heap.size W0 w')=>(Below.trans' hb0 hb hb0.size:Below w.heap.size w w')
 obtain⟨x0,x1,x2,x3,x4,x5,x6,x7⟩:=HX.out W0 (Below.refl _ _)
 have HSZ:=Lib.hid hsz
 have HT0:=Lib.hid T0
 have HT1:=Lib.hid T1
 have HT2:=Lib.hid T2
 have HSN:=Lib.hid hnames
 have hmf:∀(fn:Fn) (first cap:Array Value) (w:World),(Instr.makeFunc fn first cap).run Tryd.prog w = .ok (.func fn first cap) w:=fun _ _ _ _=>rfl
 have HK0:=Lib.hid k0
 clear h hst hsz hnames T0 T1 T2 k0
 go_enter Tryd.func28,Tryd.ntmps28
 go_upto_region 1 with (fail)
 rw [←hW0]
 clear hW0 k1
 rcases seriesE_cases b s with ⟨e1,e2⟩|⟨e1,e2,e3⟩|⟨e1,e2,p,hp,e3⟩
 ·obtain⟨r1,r2⟩:=total_series (a:=a) (z:=z) (show seriesE b s≠0 by omega)
  have HR:=Lib.hid (And.intro (r1.trans e1) r2)
  rw [e1]at HSE
  clear e1 e2 r1 r2
  go_upto_region 2 with ((go_at_call 58;(with_reducible refine(HSE.out _ hb0).mono ?_);rintro e w1 ⟨rfl,hb1⟩))
  obtain⟨W2,hW2⟩:∃W2,W2=w1.alloc (.cells #[.int .i64 (seriesI b s)] 3):=⟨_,rfl⟩
  have hz1:=hb1.size
  have hz2:W2.heap.size=w1.heap.size+1:=by rw [hW2];simp
  have hb2:Below w1.heap.size w1 W2:=by rw [hW2];exact belowAuto
  have k2:W2.heap[w1.heap.size]?=some (.cells #[.int .i64 (seriesI b s)] 3):=by rw [hW2];exact heap_new _ _ rfl
  have hb02:Below W0.heap.size W0 W2:=Below.trans' hb1 hb2 hz1
  have hbw:=HB.out _ hb02
  obtain⟨z0,z1,z2,z3,z4,z5,zf⟩:=HZ.out _ hb02
  rw [←hW2]
  clear hW2
  clear k2
  go_wp2
  exact bodyPost_ret (v:= .tuple #[.agg #[.int .i64 0, .int .i64 0, .int .i64 0, .int .i64 0, .int .i64 0, .int .i64 0], .int .i64 7]) (by simp [results,Tryd.results28,go_sem, *]) rfl ⟨belowAuto,by rw [HR.out.1,HR.out.2];rfl⟩
 ·obtain⟨r1,r2⟩:=total_series (a:=a) (z:=z) (show seriesE b s≠0 by omega)
  have HR:=Lib.hid (And.intro (r1.trans e1) r2)
  rw [e1]at HSE
  clear e1 e2 e3 r1 r2
  go_upto_region 2 with ((go_at_call 58;(with_reducible refine(HSE.out _ hb0).mono ?_);rintro e w1 ⟨rfl,hb1⟩))
  obtain⟨W2,hW2⟩:∃W2,W2=w1.alloc (.cells #[.int .i64 (seriesI b s)] 3):=⟨_,rfl⟩
  have hz1:=hb1.size
  have hz2:W2.heap.size=w1.heap.size+1:=by rw [hW2];simp
  have hb2:Below w1.heap.size w1 W2:=by rw [hW2];exact belowAuto
  have k2:W2.heap[w1.heap.size]?=some (.cells #[.int .i64 (seriesI b s)] 3):=by rw [hW2];exact heap_new _ _ rfl
  have hb02:Below W0.heap.size W0 W2:=Below.trans' hb1 hb2 hz1
  have hbw:=HB.out _ hb02
  obtain⟨z0,z1,z2,z3,z4,z5,zf⟩:=HZ.out _ hb02
  rw [←hW2]
  clear hW2
  clear k2
  go_wp2
  exact bodyPost_ret (v:= .tuple #[.agg #[.int .i64 0, .int .i64 0, .int .i64 0, .int .i64 0, .int .i64 0, .int .i64 0], .int .i64 6]) (by simp [results,Tryd.results28,go_sem, *]) rfl ⟨belowAuto,by rw [HR.out.1,HR.out.2];rfl⟩
 ·have hI:seriesI b s=p:=by unfold seriesI;rw [if_pos e1];exact e3
  rw [e1,hI]at HSE
  clear hI
  go_upto_region 2 with ((go_at_call 58;(with_reducible refine(HSE.out _ hb0).mono ?_);rintro e w1 ⟨rfl,hb1⟩))
  obtain⟨W2,hW2⟩:∃W2,W2=w1.alloc (.cells #[.int .i64 ((p:Int))] 3):=⟨_,rfl⟩
  have hz1:=hb1.size
  have hz2:W2.heap.size=w1.heap.size+1:=by rw [hW2];simp
  have hb2:Below w1.heap.size w1 W2:=by rw [hW2];exact belowAuto
  have k2:W2.heap[w1.heap.size]?=some (.cells #[.int .i64 ((p:Int))] 3):=by rw [hW2];exact heap_new _ _ rfl
  have hb02:Below W0.heap.size W0 W2:=Below.trans' hb1 hb2 hz1
  have hbw:=HB.out _ hb02
  obtain⟨z0,z1,z2,z3,z4,z5,zf⟩:=HZ.out _ hb02
  rw [←hW2]
  clear hW2
  have HT:=Lib.hid (times_any a z)
  by_cases hr:rowsOk a z
  ·have htd:decide (rowsOk a z)=true:=by simp [hr]
   rw [htd]at HT
   obtain⟨hr1,hr2,hr3⟩:=id hr
   obtain⟨l,hl,-⟩:=base_knows e2
   have m1:IntKind.i64.wrap (z+1)=z+1:=IntWalk.i64_in _ (by omega)
   have HSER:=Lib.hid e1
   have HMAY:=Lib.hid e2
   have HPL:=Lib.hid e3
   have HL:=Lib.hid hl
   have HRO:=Lib.hid hr
   clear e1 e2 e3 hl htd hr hr1 hr2 hr3
   clear z0 z1 z2 z3 z4 z5 zf
   go_upto_region 8 with ((go_at_call 59;(with_reducible refine(HT.out _).mono ?_);rintro e w2 ⟨rfl,hw2⟩;obtain rfl:=hw2.symm))
   obtain⟨W4,hW4⟩:∃W4,W4=W2.alloc (.cells #[.int .i64 0, .int .i64 0, .int .i64 0, .int .i64 0, .int .i64 0, .int .i64 0] 42):=⟨_,rfl⟩
   have hz4:W4.heap.size=W2.heap.size+1:=by rw [hW4];simp
   have hb4:Below W2.heap.size W2 W4:=by rw [hW4];exact belowAuto
   have k4:W4.heap[w1.heap.size]?=some (.cells #[.int .i64 p] 3):=(hb4.block _ (by omega)).trans k2
   have k5:W4.heap[W2.heap.size]?=some (.cells #[.int .i64 0, .int .i64 0, .int .i64 0, .int .i64 0, .int .i64 0, .int .i64 0] 42):=by rw [hW4];exact heap_new _ _ rfl
   have hb04:Below W0.heap.size W0 W4:=Below.trans' hb02 hb4 hb02.size
   have hbW:=Lib.hid fun w' (hb:Below W2.heap.size W4 w')=>(hb04.trans (hb.mono (by omega)):Below W0.heap.size W0 w')
   have HTW:TotW W4 w.heap.size w1.heap.size W2.heap.size b l p sa sc g0 l0 p0 g1 l1 p1 g2 l2 p2:=
    ⟨by omega,by omega,by omega,(hb04.block _ (by omega)).trans HK0.out,k4,fun w' hb=>HT0.out w' (HB.out _ (hbW.out w' hb)),fun w' hb=>HT1.out w' (HB.out _ (hbW.out w' hb)),fun w' hb=>HT2.out w' (HB.out _ (hbW.out w' hb)),fun w' hb=>HSZ.out.below (HB.out _ (hbW.out w' hb)),HMAY.out,HL.out,hp⟩
   have HCV:=Lib.hid (cover_any HTW a (z+1) HRO.out.1 (by have:=HRO.out.2.1;omega) (by have:=HRO.out.2.2;omega) Roll.zero (by decide) W4 ⟨Below.refl _ _,k5⟩)
   rw [hz2]at HCV hbW
   clear k2 k4 k5 HTW
   rw [←hW4]
   clear hW4
   cases hm:mergeTo Roll.zero (ptsT l p a (z+1)) with
   |none=>
    have HM:=Lib.hid hm
    have HR:=Lib.hid (total_none HSER.out HRO.out HL.out HPL.out hm)
    clear hm
    go_wp2_with ((go_at_call 61;(with_reducible refine HCV.out.mono ?_);intro e w5 h5;obtain⟨rfl,r5,hb5,-⟩:=h5.gNo HM.out;have hb05:=hbW.out _ hb5;have hbw5:=HB.out _ hb05;obtain⟨z0,z1,z2,z3,z4,z5,zf⟩:=HZ.out _ hb05))
    exact bodyPost_ret (v:= .tuple #[.agg #[.int .i64 0, .int .i64 0, .int .i64 0, .int .i64 0, .int .i64 0, .int .i64 0], .int .i64 1]) (by simp [results,Tryd.results28,go_sem, *]) rfl ⟨belowAuto,by rw [HR.out.1,HR.out.2];rfl⟩
   |some r=>
    have HM:=Lib.hid hm
    have HR:=Lib.hid (total_some HSER.out HRO.out HL.out HPL.out hm)
    clear hm
    go_wp2_with ((go_at_call 61;(with_reducible refine HCV.out.mono ?_);intro e w5 h5;obtain⟨rfl,hb5,ho5⟩:=h5.gYes HM.out;have hb05:=hbW.out _ hb5;have hbw5:=HB.out _ hb05;obtain⟨z0,z1,z2,z3,z4,z5,zf⟩:=HZ.out _ hb05;obtain⟨o0,o1,o2,o3,o4,o5,of⟩:=zero_cells ho5))
    exact bodyPost_ret (v:= .tuple #[.agg #[.int .i64 r.c, .int .i64 r.s, .int .i64 r.mi, .int .i64 r.ma, .int .i64 r.t, .int .i64 r.l], .int .i64 0]) (by simp [results,Tryd.results28,go_sem, *]) rfl ⟨belowAuto,by rw [HR.out.1,HR.out.2]⟩
  ·have htd:decide (rowsOk a z)=false:=by simp [hr]
   rw [htd]at HT
   have HR:=Lib.hid (total_range (s:=s) e1 hr)
   clear e1 e2 e3 hr htd
   clear k2
   go_wp2_with ((go_at_call 59;(with_reducible refine(HT.out _).mono ?_);rintro e w2 ⟨rfl,hw2⟩;obtain rfl:=hw2.symm))
   exact bodyPost_ret (v:= .tuple #[.agg #[.int .i64 0, .int .i64 0, .int .i64 0, .int .i64 0, .int .i64 0, .int .i64 0], .int .i64 2]) (by simp [results,Tryd.results28,go_sem, *]) rfl ⟨belowAuto,by rw [HR.out.1,HR.out.2];rfl⟩
end Go.Proofs.YtnjfkcimboidnaaDoor
