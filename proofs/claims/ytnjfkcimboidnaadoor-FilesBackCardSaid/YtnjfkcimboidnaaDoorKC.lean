/- Texts of mine that come as one: BstP KPoint KBaseP Pts. -/
import Derived.Test.YtnjfkcimboidnaaDoorAK
import Derived.Test.YtnjfkcimboidnaaDoorKT
import Derived.Test.YtnjfkcimboidnaaDoorKB
import Derived.Test.YtnjfkcimboidnaaDoorBK
import Derived.Test.YtnjfkcimboidnaaDoorSO
import Derived.Test.YtnjfkcimboidnaaDoorKG
import Derived.Maps.AppendAt
/- A base of which is known what it knows, and that it is not great: plain. -/
namespace Go.Proofs.YtnjfkcimboidnaaDoor
def allC (L:List Ent):Int:=(L.map fun e=>e.is.c).sum
theorem allC_cons (e:Ent) (L:List Ent):allC (e::L)=e.is.c+allC L:=by simp [allC]
theorem allC_append (a b:List Ent):allC (a++b)=allC a+allC b:=by
 induction a with
 |nil=>simp [allC]
 |cons e l ih=>rw [List.cons_append,allC_cons,allC_cons,ih];omega
theorem look_cnt_le {L:List Ent} (h:Goods L) (k:Int):(look L k).c≤allC L:=by
 induction L with
 |nil=>simp [look,Roll.zero,allC]
 |cons e l ih=>
  have h1:=ih h.cons.2
  have h2:=h.cons.1.1
  rw [allC_cons]
  unfold look
  split
  ·rw [join_c];omega
  ·omega
theorem allC_bucket (s:Int) (L:List Ent):allC (L.map (bucket s))=allC L:=by
 induction L with
 |nil=>rfl
 |cons e l ih=>rw [List.map_cons,allC_cons,allC_cons,ih];rfl
theorem allC_ins (x:Ent) (L:List Ent):allC (ins L x)=allC L+x.is.c:=by
 induction L with
 |nil=>simp [ins,allC]
 |cons e l ih=>
  show allC (if e.key<x.key then e::ins l x else if e.key=x.key then(⟨x.key,e.is.join x.is⟩:Ent)::l else x::e::l)=_
  split
  ·rw [allC_cons,allC_cons,ih];omega
  ·split
   ·rw [allC_cons,allC_cons];show (e.is.join x.is).c+_=_;rw [join_c];omega
   ·rw [allC_cons,allC_cons];omega
theorem small_of_allC {L:List Ent} (h:Goods L) (hc:allC L≤1073741824):Small L:=fun k=>Int.le_trans (look_cnt_le h k) hc
structure Bst (b:Ba) (L:List Ent) (N:Nat):Prop where
 may:baseMay b=true
 book:bookR b=some L
 wt:∀k,k<3→wtT (b.tree k)≤3+N
 allC:allC L≤N
theorem Bst.goods {b:Ba} {L:List Ent} {N:Nat} (h:Bst b L N):Rising L∧PGood L:=bookR_good h.book
theorem Bst.trees {b:Ba} {L:List Ent} {N:Nat} (h:Bst b L N) {k:Nat} (hk:k<3):treeFault (b.tree k)=0∧Eqv (b.tree k).all (L.map (bucket (szOf k)))∧Small (b.tree k).all:=by
 obtain⟨l,hl,-,-,ht⟩:=base_trees h.may
 obtain rfl:l=L:=Option.some.inj (hl.symm.trans h.book)
 exact ht k hk
theorem Bst.add {b:Ba} {L:List Ent} {N:Nat} {s:ByteArray} {time value:Int} (h:Bst b L N) (hN:N≤2900) (hn:nameMay s=true) (h0:0≤time) (h1:time≤1048575) (h2 : -1000000≤value) (h3:value≤1000000) (hf:b.floor≤time) (hp:placeI b.names s<0→b.names.length<16) :
  addF b s time value=0∧addE b s time value=0∧addL b s time value=ins L (addEnt b s time ⟨1,value,value,value,time,value⟩)∧∀b',baseMay b'=true→bookR b'=some (addL b s time value)→(∀k,k<3→wtT (b'.tree k)≤wtT (b.tree k)+1)→Bst b' (ins L (addEnt b s time ⟨1,value,value,value,time,value⟩)) (N+1):=by
 have hr:rollOf time value=(⟨1,value,value,value,time,value⟩,0):=if_pos ⟨h0,h1,h2,h3⟩
 have hF:addF b s time value=0:=by
  unfold addF
  rw [if_neg (by simp [h.may]),if_neg (by simp [hn]),if_neg (by simp [hr]),if_neg (by omega),if_neg (fun⟨a,c⟩=>by have:=hp a;omega)]
 have hS:∀k,k<3→Small (addK b s time value k::(b.tree k).all):=fun k hk=>by
  obtain⟨t1,t2,t3⟩:=h.trees hk
  have hg:(addK b s time value k).is.Good:=(good_check (point_check h0 h1 h2 h3) (by show (1:Int)≠0;decide)).1
  have e1:Eqv ([addK b s time value k]++(b.tree k).all) ([addK b s time value k]++L.map (bucket (szOf k))):=(Eqv.refl (fun e he=>by rw [List.mem_singleton]at he;subst he;exact hg)).append t2
  refine e1.small.2 (small_of_allC e1.2.1 ?_)
  rw [allC_append,allC_bucket]
  have hc:=h.allC
  have:Go.Proofs.YtnjfkcimboidnaaDoor.allC [addK b s time value k]=1:=by simp [Go.Proofs.YtnjfkcimboidnaaDoor.allC,addK]
  omega
 obtain⟨g1,g2,-⟩:=addE_good hF h.book hS
 refine⟨hF,g1,g2,fun b' hm hb hw=>⟨hm,by rw [←g2];exact hb,fun k hk=>by have:=hw k hk;have:=h.wt k hk;omega,?_⟩⟩
 rw [allC_ins]
 have hc:=h.allC
 show Go.Proofs.YtnjfkcimboidnaaDoor.allC L+1≤((N+1:Nat):Int)
 push_cast;omega
end Go.Proofs.YtnjfkcimboidnaaDoor

/- winnowerkeep's name and Point. -/
namespace Go.Proofs.YtnjfkcimboidnaaDoor
open Go.RowKit
def nameL:List ByteArray:=[⟨#[99,112,117]⟩,⟨#[109,101,109]⟩,⟨#[110,101,116,46,105,110]⟩,⟨#[57]⟩]
def nameF (n:Int):ByteArray:=nameL.getD (picked n 4).toNat ByteArray.empty
theorem nameF_cases (n:Int):nameF n∈nameL:=by
 have h:=picked_range (n:=n) (m:=4) (by decide)
 unfold nameF
 obtain hq|hq|hq|hq:picked n 4=0∨picked n 4=1∨picked n 4=2∨picked n 4=3:=by omega
 all_goals rw [hq];simp [nameL]
theorem nameL_may:∀s∈nameL,nameMay s=true∧s.size≤10:=by
 intro s hs
 simp only [nameL,List.mem_cons,List.not_mem_nil,or_false]at hs
 rcases hs with rfl|rfl|rfl|rfl <;> exact⟨by decide,by decide⟩
set_option maxRecDepth 100000 in
theorem kname_any {n:Int} {w:World} (h:i64 n):Calls Tryd.prog 64 #[.int .i64 n] w fun e w'=>e = .returned (.string (nameF n))∧Below w.heap.size w w':=by
 have HP:=Lib.hid fun W=>picked_any2 n 4 W h.1 h.2 (by decide) (by decide)
 have hr:=picked_range (n:=n) (m:=4) (by decide)
 have HNF:=Lib.hid (show nameF n=nameL.getD (picked n 4).toNat ByteArray.empty from rfl)
 obtain hq|hq|hq|hq:picked n 4=0∨picked n 4=1∨picked n 4=2∨picked n 4=3:=by omega
 all_goals
  rw [hq]at HP HNF
  clear hq hr
  go_enter Tryd.func64,Tryd.ntmps64
  go_wp2_with (go_at_call 31;(with_reducible refine(HP.out _).mono ?_);rintro e w1 ⟨rfl,hb1⟩;have k1:w1.heap[w.heap.size]?=some (.cells #[.string ⟨#[99,112,117]⟩, .string ⟨#[109,101,109]⟩, .string ⟨#[110,101,116,46,105,110]⟩, .string ⟨#[57]⟩] 9):=(hb1.block _ (by simp)).trans (heap_new _ _ rfl);obtain⟨c0,c1,c2,c3⟩:w1.cell? ⟨w.heap.size,0,none⟩=some (.string ⟨#[99,112,117]⟩)∧w1.cell? ⟨w.heap.size,1,none⟩=some (.string ⟨#[109,101,109]⟩)∧w1.cell? ⟨w.heap.size,2,none⟩=some (.string ⟨#[110,101,116,46,105,110]⟩)∧w1.cell? ⟨w.heap.size,3,none⟩=some (.string ⟨#[57]⟩):=by simp [World.cell?,k1])
  go_ret
  exact⟨by rw [HNF.out];rfl,Below.trans' (by exact belowAuto:Below w.heap.size w _) hb1 (by simp)⟩
structure Pnt where
 s:ByteArray
 t:Int
 v:Int
def pointF (r:Rw):Pnt:=⟨nameF r.k,picked r.a 12000,picked r.b 2000-1000⟩
theorem pointF_ok (r:Rw):(pointF r).s∈nameL∧0≤(pointF r).t∧(pointF r).t<12000∧-1000≤(pointF r).v∧(pointF r).v<1000:=by
 have h1:=picked_range (n:=r.a) (m:=12000) (by decide)
 have h2:=picked_range (n:=r.b) (m:=2000) (by decide)
 refine⟨nameF_cases _,h1.1,h1.2,?_,?_⟩ <;> simp only [pointF] <;> omega
set_option maxRecDepth 100000 in
set_option maxHeartbeats 4000000 in
theorem point_any {r:Rw} {w:World} (hr:r.ok) {p:Pnt} (hp:pointF r=p):Calls Tryd.prog 34 #[.agg #[.int .i64 r.k, .int .i64 r.a, .int .i64 r.b, .int .i64 r.c]] w fun e w'=>e = .returned (.agg #[.string p.s, .int .i64 p.t, .int .i64 p.v])∧Below w.heap.size w w':=by
 obtain⟨W0,hW0⟩:∃W0,W0=(w.alloc (.cells #[.int .i64 r.k, .int .i64 r.a, .int .i64 r.b, .int .i64 r.c] 74)).alloc (.cells #[.string ⟨#[]⟩, .int .i64 0, .int .i64 0] 76):=⟨_,rfl⟩
 have hb0:Below w.heap.size w W0:=by rw [hW0];exact belowAuto
 have hz0:W0.heap.size=w.heap.size+2:=by rw [hW0];simp
 have k0:W0.heap[w.heap.size]?=some (.cells #[.int .i64 r.k, .int .i64 r.a, .int .i64 r.b, .int .i64 r.c] 74):=by rw [hW0,Below.heap_alloc _ _ _ (by simp)];exact heap_new _ _ rfl
 have k1:W0.heap[w.heap.size+1]?=some (.cells #[.string ⟨#[]⟩, .int .i64 0, .int .i64 0] 76):=by rw [hW0];exact heap_new _ _ (by simp)
 have hG:∀W,Below W0.heap.size W0 W→W.cell? ⟨w.heap.size,0,none⟩=some (.int .i64 r.k)∧W.cell? ⟨w.heap.size,1,none⟩=some (.int .i64 r.a)∧W.cell? ⟨w.heap.size,2,none⟩=some (.int .i64 r.b)∧W.cell? ⟨w.heap.size+1,0,none⟩=some (.string ⟨#[]⟩)∧W.cell? ⟨w.heap.size+1,1,none⟩=some (.int .i64 0)∧W.cell? ⟨w.heap.size+1,2,none⟩=some (.int .i64 0)∧∀o,W.frozen? ⟨w.heap.size+1,o,none⟩=false:=fun W hb=>by
  have b0:=(hb.block w.heap.size (by omega)).trans k0
  have b1:=(hb.block (w.heap.size+1) (by omega)).trans k1
  simp [World.cell?,World.frozen?,b0,b1]
 obtain⟨T,hT⟩:∃T,picked r.a 12000=T:=⟨_,rfl⟩
 obtain⟨V,hV⟩:∃V,picked r.b 2000=V:=⟨_,rfl⟩
 have hVr:=picked_range (n:=r.b) (m:=2000) (by decide)
 rw [hV]at hVr
 have hwv:IntKind.i64.wrap (V-1000)=V-1000:=IntWalk.i64_in _ (by omega)
 obtain⟨NM,hNM⟩:∃q,nameF r.k=q:=⟨_,rfl⟩
 have HPP:=Lib.hid (show (.agg #[.string NM, .int .i64 T, .int .i64 (V-1000)]:Value) = .agg #[.string p.s, .int .i64 p.t, .int .i64 p.v] by rw [←hp,←hT,←hV,←hNM];rfl)
 have hn:∀W,Below W0.heap.size W0 W→Calls Tryd.prog 64 #[.int .i64 r.k] W fun e w'=>e = .returned (.string NM)∧Below W0.heap.size W0 w':=fun W hb=>by
  have:=kname_any (w:=W) hr.1
  rw [hNM]at this
  exact this.mono fun _ _ h=>⟨h.1,Below.trans' hb h.2 hb.size⟩
 have ha:∀W,Below W0.heap.size W0 W→Calls Tryd.prog 31 #[.int .i64 r.a, .int .i64 12000] W fun e w'=>e = .returned (.int .i64 T)∧Below W0.heap.size W0 w':=fun W hb=>by
  have:=picked_any2 r.a 12000 W hr.2.1.1 hr.2.1.2 (by decide) (by decide)
  rw [hT]at this
  exact this.mono fun _ _ h=>⟨h.1,Below.trans' hb h.2 hb.size⟩
 have hv:∀W,Below W0.heap.size W0 W→Calls Tryd.prog 31 #[.int .i64 r.b, .int .i64 2000] W fun e w'=>e = .returned (.int .i64 V)∧Below W0.heap.size W0 w':=fun W hb=>by
  have:=picked_any2 r.b 2000 W hr.2.2.1.1 hr.2.2.1.2 (by decide) (by decide)
  rw [hV]at this
  exact this.mono fun _ _ h=>⟨h.1,Below.trans' hb h.2 hb.size⟩
 have HFIN:=Lib.hid (fun W (hb:Below W0.heap.size W0 W)=>(Below.trans' hb0 hb hb0.size:Below w.heap.size w W))
 have B0:Below W0.heap.size W0 W0.drew:=(Below.refl _ _).drew
 obtain⟨c0,c1,c2,c3,c4,c5,cf⟩:=hG _ (Below.refl _ _)
 clear k0 k1 hb0 hr hT hV hNM hp
 go_enter Tryd.func34,Tryd.ntmps34
 go_upto_region 1 with (fail)
 rw [←hW0]
 clear hW0
 refine wp_region_sched [(0,1),(1,0),(3,1),(4,0),(6,1),(7,0),(2,2),(5,2),(8,2),(9,1),(10,1),(11,3)] 11
  (fun w'=>w'.cell? ⟨w.heap.size,0,none⟩=some (.int .i64 r.k)∧w'.cell? ⟨w.heap.size,1,none⟩=some (.int .i64 r.a)∧w'.cell? ⟨w.heap.size,2,none⟩=some (.int .i64 r.b)) (by kernel_rfl) (by kernel_rfl) ⟨c0,c1,c2⟩ ?_
 (simp only [pickS,List.filterMap_cons,List.filterMap_nil,List.getElem?_cons_zero,List.getElem?_cons_succ,Option.map_some])
 (repeat (first|((refine sched_pure (v:=?_) rfl (fun W=>?_) ?_);rotate_left;focus (go_simp;(try with_reducible rfl);done))|((refine sched_read (v:=?_) rfl (fun W hW=>?_) ?_);rotate_left;focus ((try dsimp only at hW);go_simp;(try with_reducible rfl);done))))
 refine sched_does rfl (fun K hK=>?_)
 go_simp
 (with_reducible refine(hn _ B0).mono ?_);rintro e w1 ⟨rfl,B1⟩
 go_simp
 refine hK _ _ (by have h:=hG _ B1;exact⟨h.1,h.2.1,h.2.2.1⟩) ?_
 clear hK K
 (repeat (first|((refine sched_pure (v:=?_) rfl (fun W=>?_) ?_);rotate_left;focus (go_simp;(try with_reducible rfl);done))|((refine sched_read (v:=?_) rfl (fun W hW=>?_) ?_);rotate_left;focus ((try dsimp only at hW);go_simp;(try with_reducible rfl);done))))
 refine sched_does rfl (fun K hK=>?_)
 go_simp
 (with_reducible refine(ha _ B1).mono ?_);rintro e w2 ⟨rfl,B2⟩
 go_simp
 refine hK _ _ (by have h:=hG _ B2;exact⟨h.1,h.2.1,h.2.2.1⟩) ?_
 clear hK K
 (repeat (first|((refine sched_pure (v:=?_) rfl (fun W=>?_) ?_);rotate_left;focus (go_simp;(try with_reducible rfl);done))|((refine sched_read (v:=?_) rfl (fun W hW=>?_) ?_);rotate_left;focus ((try dsimp only at hW);go_simp;(try with_reducible rfl);done))))
 refine sched_does rfl (fun K hK=>?_)
 go_simp
 (with_reducible refine(hv _ B2).mono ?_);rintro e w3 ⟨rfl,B3⟩
 go_simp
 refine hK _ _ (by have h:=hG _ B3;exact⟨h.1,h.2.1,h.2.2.1⟩) ?_
 clear hK K
 (repeat (first|((refine sched_pure (v:=?_) rfl (fun W=>?_) ?_);rotate_left;focus (go_simp;(try with_reducible rfl);done))|((refine sched_read (v:=?_) rfl (fun W hW=>?_) ?_);rotate_left;focus ((try dsimp only at hW);go_simp;(try with_reducible rfl);done))))
 obtain⟨-,-,-,y3,y4,y5,yf⟩:=hG _ B3
 clear c0 c1 c2 c3 c4 c5 cf
 refine sched_last rfl (fun K hK=>?_)
 go_simp
 refine hK _ _ ?_
 clear hK K
 refine sched_end ?_
 have hfin:=HFIN.out _ B3
 go_wp2_with fail
 exact bodyPost_ret (v:= .agg #[.string NM, .int .i64 T, .int .i64 (V-1000)]) (by simp [results,Tryd.results34,go_sem, *]) rfl ⟨congrArg Ending.returned HPP.out,belowAuto⟩
end Go.Proofs.YtnjfkcimboidnaaDoor

/- A base that points were added to, one by one (winnowerkeep.Base): what it knows. Plain. -/
namespace Go.Proofs.YtnjfkcimboidnaaDoor
theorem place_nonneg {xs:List ByteArray} {s:ByteArray}:0≤placeI xs s↔s∈xs:=by
 rcases place_cases xs s with ⟨k,hk,e,h1,-⟩|⟨e,h1⟩
 ·rw [e];exact⟨fun _=>h1▸List.getElem_mem hk,fun _=>by omega⟩
 ·rw [e]
  refine⟨fun h=>by omega,fun h=>?_⟩
  obtain⟨j,hj,e2⟩:=List.getElem_of_mem h
  exact absurd e2 (h1 j hj)
theorem place_snoc {xs:List ByteArray} {s x:ByteArray} (h:s∈xs):placeI (xs++[x]) s=placeI xs s:=by
 rcases place_cases xs s with ⟨k,hk,e,h1,h2⟩|⟨e,h1⟩
 ·rw [e]
  refine place_at (by rw [List.length_append];omega) (by rw [List.getElem_append_left hk];exact h1) fun j hj hjn=>?_
  rw [List.getElem_append_left (by omega)];exact h2 j hj (by omega)
 ·obtain⟨j,hj,e2⟩:=List.getElem_of_mem h
  exact absurd e2 (h1 j hj)
theorem place_new {xs:List ByteArray} {s:ByteArray} (h:s∉xs):placeI (xs++[s]) s=xs.length:=by
 refine place_at (by simp) (by simp) fun j hj hjn=>?_
 rw [List.getElem_append_left hj]
 exact fun e=>h (e▸List.getElem_mem hj)
def withName (ns:List ByteArray) (s:ByteArray):List ByteArray:=if placeI ns s<0 then ns++[s]else ns
theorem withName_in {ns:List ByteArray} {s:ByteArray} (h:s∈ns):withName ns s=ns:=by
 unfold withName;rw [if_neg (by have:=place_nonneg.2 h;omega)]
theorem withName_out {ns:List ByteArray} {s:ByteArray} (h:s∉ns):withName ns s=ns++[s]:=by
 unfold withName;rw [if_pos (by have:¬0≤placeI ns s:=fun h'=>h (place_nonneg.1 h');omega)]
theorem addNames_eq (b:Ba) (s:ByteArray):addNames b s=withName b.names s:=rfl
theorem addI_eq (b:Ba) (s:ByteArray):addI b s=placeI (withName b.names s) s:=by
 unfold addI
 by_cases h:s∈b.names
 ·rw [if_neg (by have:=place_nonneg.2 h;omega),withName_in h]
 ·rw [if_pos (by have:¬0≤placeI b.names s:=fun h'=>h (place_nonneg.1 h');omega),withName_out h,place_new h]
def entP (ns:List ByteArray) (p:Pnt):Ent:=⟨placeI ns p.s*1048576+p.t,⟨1,p.v,p.v,p.v,p.t,p.v⟩⟩
theorem entP_with {ns:List ByteArray} {p:Pnt} {x:ByteArray} (h:p.s∈ns):entP (withName ns x) p=entP ns p:=by
 unfold entP
 by_cases hx:x∈ns
 ·rw [withName_in hx]
 ·rw [withName_out hx,place_snoc h]
theorem withName_mem {ns:List ByteArray} {s x:ByteArray}:x∈withName ns s↔x∈ns∨x=s:=by
 by_cases h:s∈ns
 ·rw [withName_in h]
  exact⟨.inl,fun h'=>h'.elim id (fun e=>e▸h)⟩
 ·rw [withName_out h];simp
theorem withName_nodup {ns:List ByteArray} {s:ByteArray} (h:ns.Nodup):(withName ns s).Nodup:=by
 by_cases hs:s∈ns
 ·rw [withName_in hs];exact h
 ·rw [withName_out hs]
  exact List.nodup_append.2 ⟨h,by simp,fun a ha b hb=>by simp at hb;subst hb;exact fun e=>hs (e▸ha)⟩
structure KB (pts:List Pnt) (b:Ba):Prop where
 floor:b.floor=0
 names:b.names=(pts.map Pnt.s).foldl withName []
 st:Bst b (bag (pts.map (entP b.names))) pts.length
 ok:∀p∈pts,p.s∈b.names
theorem fold_names {xs:List ByteArray}:∀{ns:List ByteArray},(∀x∈ns,x∈nameL)→ns.Nodup→(∀x∈xs,x∈nameL)→(∀x∈xs.foldl withName ns,x∈nameL)∧(xs.foldl withName ns).Nodup:=by
 induction xs with
 |nil=>intro ns h1 h2 _;exact⟨h1,h2⟩
 |cons y xs ih=>
  intro ns h1 h2 h3
  refine ih (fun x hx=>?_) (withName_nodup h2) fun x hx=>h3 x (by simp [hx])
  rcases withName_mem.1 hx with hx|rfl
  ·exact h1 x hx
  ·exact h3 _ (by simp)
theorem KB.few {pts:List Pnt} {b:Ba} (h:KB pts b) (hp:∀p∈pts,p.s∈nameL):b.names.length≤4∧∀s∈b.names,s∈nameL:=by
 obtain⟨h1,h2⟩:=fold_names (xs:=pts.map Pnt.s) (ns:=[]) (by simp) (by simp) fun x hx=>by
  obtain⟨p,hp',rfl⟩:=List.mem_map.1 hx
  exact hp p hp'
 rw [←h.names]at h1 h2
 exact⟨nodup_length (m:=nameL) h2 h1,h1⟩
theorem bag_snoc {E:List Ent} {e:Ent}:bag (E++[e])=ins (bag E) e:=by unfold bag;rw [List.foldl_append];rfl
theorem KB.add {pts:List Pnt} {b b':Ba} {p:Pnt} (h:KB pts b) (hn:b'.names=addNames b p.s) (hf:b'.floor=b.floor) (hs:Bst b' (ins (bag (pts.map (entP b.names))) (addEnt b p.s p.t ⟨1,p.v,p.v,p.v,p.t,p.v⟩)) (pts.length+1)):KB (pts++[p]) b':=by
 rw [addNames_eq]at hn
 have hm:(pts++[p]).map (entP b'.names)=pts.map (entP b.names)++[addEnt b p.s p.t ⟨1,p.v,p.v,p.v,p.t,p.v⟩]:=by
  rw [List.map_append,hn]
  congr 1
  ·exact List.map_congr_left fun q hq=>entP_with (h.ok q hq)
  ·simp only [List.map_cons,List.map_nil]
   unfold entP addEnt
   rw [addI_eq]
 refine⟨hf.trans h.floor,?_,?_,fun q hq=>?_⟩
 ·rw [hn,List.map_append,List.foldl_append,←h.names];rfl
 ·rw [hm,bag_snoc,List.length_append];exact hs
 ·rw [hn]
  rcases List.mem_append.1 hq with hq|hq
  ·exact withName_mem.2 (.inl (h.ok q hq))
  ·simp at hq;subst hq;exact withName_mem.2 (.inr rfl)
end Go.Proofs.YtnjfkcimboidnaaDoor

/- Rows of points of the call's own. -/
namespace Go.Proofs.YtnjfkcimboidnaaDoor
open Go.RowKit
def enPt (p:Pnt):List Value:=[.string p.s, .int .i64 p.t, .int .i64 p.v]
theorem enPt_length (p:Pnt):(enPt p).length=3:=rfl
theorem enPt_one (xs:List Pnt):∀u∈xs.flatMap enPt,u.oneCell'=true:=by
 intro u hu
 obtain⟨p,_,hp⟩:=List.mem_flatMap.1 hu
 simp only [enPt,List.mem_cons,List.not_mem_nil,or_false]at hp
 rcases hp with rfl|rfl|rfl <;> rfl
abbrev PtsAt (w:World) (v:Value) (xs:List Pnt):Prop:=SlAt 3 32 enPt w v xs
theorem Tryd.iPnt:(Tryd.prog.info? 76).map (fun i=>(i.zero.map (fun z=>z.cells.size),i.size,i.bytes))=some (some 3,3,32):=by kernel_rfl
structure OwnPts (B:Nat) (w:World) (v:Value) (ps:List Pnt):Prop where
 row:w.ownsRow B 76 3 v ps.length (ps.flatMap enPt)
theorem OwnPts.nil (B:Nat) (w:World):OwnPts B w (.slice none 0 0) []:=⟨World.ownsRow_nil _ _ _ _⟩
theorem OwnPts.block {B:Nat} {w w':World} {v:Value} {es:List Pnt} (h:OwnPts B w v es) (hb:∀g,v.ownBlock=some g→w'.heap[g]?=w.heap[g]?):OwnPts B w' v es:=by
 obtain⟨hl,⟨rfl,h0⟩|⟨g,cap,cur,rfl,hB,hg,h1,h2,h3,h4⟩⟩:=h.row
 ·exact⟨⟨hl, .inl ⟨rfl,h0⟩⟩⟩
 ·exact⟨⟨hl, .inr ⟨g,cap,cur,rfl,hB,(hb g rfl).trans hg,h1,h2,h3,h4⟩⟩⟩
theorem OwnPts.lt {B:Nat} {w:World} {v:Value} {es:List Pnt} (h:OwnPts B w v es):∀g,v.ownBlock=some g→B≤g∧g<w.heap.size:=World.ownsRow.lt h.row
theorem OwnPts.below {B C:Nat} {w w':World} {v:Value} {es:List Pnt} (h:OwnPts B w v es) (hb:Below C w w') (hC:w.heap.size≤C):OwnPts B w' v es:=h.block fun g hg=>hb.block g (by have:=(h.lt g hg).2;omega)
theorem OwnPts.at {B:Nat} {w:World} {v:Value} {es:List Pnt} (h:OwnPts B w v es) (hs:es.length≤1000000):PtsAt w v es:=SlAt.owned enPt_length h.row rfl (by omega)
theorem OwnPts.isSlice {B:Nat} {w:World} {v:Value} {es:List Pnt} (h:OwnPts B w v es):∃ao cap,v = .slice ao es.length cap:=by
 obtain⟨hl,⟨rfl,h0⟩|⟨g,cap,cur,rfl,_⟩⟩:=h.row
 ·exact⟨none,0,by rw [h0]⟩
 ·exact⟨_,_,rfl⟩
theorem OwnPts.mono {B C:Nat} {w:World} {v:Value} {es:List Pnt} (h:OwnPts B w v es) (hC:C≤B):OwnPts C w v es:=by
 obtain⟨hl,⟨rfl,h0⟩|⟨g,cap,cur,rfl,hB,hg,h1,h2,h3,h4⟩⟩:=h.row
 ·exact⟨⟨hl, .inl ⟨rfl,h0⟩⟩⟩
 ·exact⟨⟨hl, .inr ⟨g,cap,cur,rfl,by omega,hg,h1,h2,h3,h4⟩⟩⟩
theorem pt_new {w:World} {p:Pnt} {T:TypeId} {j:Nat} {u:Value} (h:(enPt p)[j]?=some u) :
  (w.alloc (.cells #[.string p.s, .int .i64 p.t, .int .i64 p.v] T)).cell? (Addr.add ⟨w.heap.size,0,none⟩ j)=some u:=by
 have hk:=heap_new w (.cells #[.string p.s, .int .i64 p.t, .int .i64 p.v] T) rfl
 have ha:Addr.add ⟨w.heap.size,0,none⟩ j=⟨w.heap.size,j,none⟩:=by simp [Addr.add];omega
 rw [ha]
 simp only [World.cell?,hk]
 have hj:j<3:=(List.getElem?_eq_some_iff.1 h).1
 obtain rfl|rfl|rfl:j=0∨j=1∨j=2:=by omega
 all_goals simpa [enPt] using h
theorem wpList_append_pt {w:World} {ops:Array Oper} {rest:List Oper} {o:Oper} {a:Act} {Q:Exit→Act→World→Prop} (hgd:o.guard=none) (s x:Operand)
  (ho:o.op = .call { callee:= .builtin .append,args:=#[s,x],argTypes:=#[64,64] }) (B:Nat) (v:Value) (es:List Pnt) (hs:a.eval s=v) (hown:OwnPts B w v es)
  (ad:Addr) (e:Pnt) (hx:a.eval x = .slice (some ad) 1 1) (hnews:∀j u,(enPt e)[j]?=some u→w.cell? (ad.add j)=some u) (hlen:es.length≤1000000) (hbase:B≤w.heap.size)
  (h:∀v' w',OwnPts B w' v' (es++[e])→w.grownBy w' v.ownBlock→(v'.ownBlock=v.ownBlock∨v'.ownBlock=some w.heap.size)→wpList Tryd.prog ops Q rest (a.put o.dst v') w'):wpList Tryd.prog ops Q (o::rest) a w:=by
 obtain⟨i0,z,hi,hz,hz1,hz2,hz3⟩:=info_some Tryd.iPnt
 refine Go.wpList_append_own_at w hgd s x 64 ho B 76 i0 z 3 32 Tryd.underlying64 hi hz hz1 hz2 hz3 (by decide) v es.length _ hs hown.row ad 1 1 (enPt e) hx rfl hnews (enPt_one [e] |> fun h u hu=>h u (by simpa using hu)) (by unfold maxLen;omega) (by omega) hbase ?_
 intro v' w' hown' hg _ h4
 refine h v' w' ?_ hg h4
 have:(es++[e]).flatMap enPt=es.flatMap enPt++enPt e:=by simp
 refine⟨?_⟩
 rw [this,List.length_append]
 exact hown'
theorem pt_cells {w wr:World} {b off k:Nat} {xs:List Pnt} (hb:Below w.heap.size w wr) (hbb:b<w.heap.size)
  (h:∀i x,xs[i]?=some x→∀j u,(enPt x)[j]?=some u→w.cell? ⟨b,off+i*3+j,none⟩=some u) (hk:k<xs.length) :
  wr.cell? ⟨b,off+k*3,none⟩=some (.string xs[k].s)∧wr.cell? ⟨b,off+k*3+1,none⟩=some (.int .i64 xs[k].t)∧wr.cell? ⟨b,off+k*3+2,none⟩=some (.int .i64 xs[k].v):=by
 have g:∀j u,(enPt xs[k])[j]?=some u→wr.cell? ⟨b,off+k*3+j,none⟩=some u:=fun j u hu=>
  (hb.cell (p:=⟨b,_,none⟩) hbb).trans (h k xs[k] (by simp [hk]) j u hu)
 exact⟨by simpa using g 0 _ rfl,g 1 _ rfl,g 2 _ rfl⟩
theorem idx_pts {ab aoff n cap j:Nat} {i:Int} (h:i=j) (hj:j<n) (w:World):(Instr.indexAt 64 (.slice (some ⟨ab,aoff,none⟩) n cap) (.int .i64 i)).run Tryd.prog w = .ok (.pointer (some ⟨ab,aoff+j*3,none⟩)) w:=by
 subst h
 go_simp
end Go.Proofs.YtnjfkcimboidnaaDoor
