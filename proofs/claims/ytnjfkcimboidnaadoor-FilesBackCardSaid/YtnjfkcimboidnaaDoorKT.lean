/- Texts of mine that come as one: OpenRaw Grown Kmap KTree. -/
import Derived.Test.YtnjfkcimboidnaaDoorKG
import Derived.Test.YtnjfkcimboidnaaDoorPU
import Derived.Test.YtnjfkcimboidnaaDoorSR
import Derived.Test.YtnjfkcimboidnaaDoorKB
import Derived.Test.YtnjfkcimboidnaaDoorOG
/- Arguments that are raw things (winnowerkeep.Raw), one or many, read as data. -/
namespace Go.Proofs.YtnjfkcimboidnaaDoor
open Go.ChangeShapes Go.WideShapes Go.ChangeAt Go.RowKit Go.Deep
structure Rw where
 k:Int
 a:Int
 b:Int
 c:Int
def Rw.ok (r:Rw):Prop:=i64 r.k∧i64 r.a∧i64 r.b∧i64 r.c
def enRw (r:Rw):List Value:=[.int .i64 r.k, .int .i64 r.a, .int .i64 r.b, .int .i64 r.c]
abbrev RwsAt (w:World) (v:Value) (xs:List Rw):Prop:=SlAt 4 32 enRw w v xs
theorem Tryd.cellsRaw:Tryd.prog.cellsOf 74=4:=by kernel_rfl
theorem Tryd.bytesRaw:Tryd.prog.bytesOf 74=32:=by kernel_rfl
section
variable {H:Type} {enc:TypeId×Value→H} {w:World} {base:Nat} {sp:Nat→Bool} {held:Bool}
theorem list4 {α:Type} {cs:List α} {a b c d:α} (hl:cs.length=4) (h0:cs[0]?=some a) (h1:cs[1]?=some b) (h2:cs[2]?=some c) (h3:cs[3]?=some d):cs=[a,b,c,d]:=by
 match cs,hl with
 |[x0,x1,x2,x3],_=>simp at h0 h1 h2 h3;simp [h0,h1,h2,h3]
set_option maxRecDepth 100000 in
theorem read_rw {fuel:Nat} {cs:List Value} {x:DataW H×List MemPlace} (h:DataW.trod enc Tryd.prog w base sp held fuel 74 cs=some x):∃r:Rw,cs=enRw r∧r.ok:=by
 obtain⟨xs,n,_,_,hl,hn,hf⟩:=DataW.trod_struct Tryd.underlying74 h
 rw [Tryd.cellsRaw]at hl
 match xs,hn with
 |[x0,x1,x2,x3],_=>
  obtain⟨a,ha,ha'⟩:=read_int_at (hf 0 _ rfl)
  obtain⟨b,hb,hb'⟩:=read_int_at (hf 1 _ rfl)
  obtain⟨c,hc,hc'⟩:=read_int_at (hf 2 _ rfl)
  obtain⟨d,hd,hd'⟩:=read_int_at (hf 3 _ rfl)
  exact⟨⟨a,b,c,d⟩,list4 hl ha hb hc hd,ha',hb',hc',hd'⟩
theorem read_rws {fuel:Nat} {cs:List Value} {x:DataW H×List MemPlace} (h:DataW.trod enc Tryd.prog w base sp held fuel 22 cs=some x) (hw:∀m∈x.1.weights Tryd.prog 22,m≤reachBytes) :
  ∃(v:Value) (xs:List Rw),cs=[v]∧RwsAt w v xs∧∀a∈xs,a.ok:=
 read_slice enRw Rw.ok Tryd.underlying22 Tryd.cellsRaw (by decide) Tryd.bytesRaw h hw fun _ _ _ h1 _=>read_rw h1
set_option maxRecDepth 100000 in
theorem open_raws' {r:Reach} {b0:Nat} {v:Value} {d:DataW H} {p:List MemPlace} (hv:Value.okWide Tryd.prog w r b0 22 v) (h:DataW.Trod enc Tryd.prog w base sp held 22 v d p) (hw:∀m∈d.weights Tryd.prog 22,m≤reachBytes) :
  ∃xs:List Rw,RwsAt w v xs∧∀a∈xs,a.ok:=by
 obtain⟨fuel,hf⟩:=h
 obtain⟨v',xs,e,h1,h2⟩:=read_rws hf hw
 rw [slice_cell Tryd.underlying22 hv e]
 exact⟨xs,h1,h2⟩
end
end Go.Proofs.YtnjfkcimboidnaaDoor

/- A tree that was grown by putting entries, one by one: plain. -/
namespace Go.Proofs.YtnjfkcimboidnaaDoor
theorem look_cnt {m:Nat} {k:Int}:∀{E:List Ent},(∀e∈E,e.is.c≤m)→(look E k).c≤(m:Int)*(E.length:Int)
 |[],_=>by simp [look,Roll.zero]
 |e::E,h=>by
  have ih:=look_cnt (k:=k) (E:=E) fun x hx=>h x (by simp [hx])
  have h1:=h e (by simp)
  have e1:(m:Int)*(((e::E).length:Nat):Int)=(m:Int)*(E.length:Int)+m:=by rw [List.length_cons];push_cast;rw [Int.mul_add,Int.mul_one]
  rw [e1]
  unfold look
  split
  ·rw [join_c];omega
  ·omega
structure Grown (E:List Ent) (t:Tr):Prop where
 fault:treeFault t=0
 ev:Eqv t.all E
 ok:∀e∈E,EntOk e
 wt:wtT t≤3+E.length
theorem Grown.goods {E:List Ent} {t:Tr} (h:Grown E t):Goods E:=h.ev.2.1
theorem Grown.look {E:List Ent} {t:Tr} (h:Grown E t) (k:Int):look t.all k=Go.Proofs.YtnjfkcimboidnaaDoor.look E k:=h.ev.2.2 k
theorem Grown.start:Grown [] startT:=by
 obtain⟨h1,h2,-,-,-,h6⟩:=made_new
 exact⟨h1,h2,(fun e h=>by cases h),h6⟩
theorem Grown.cons_ev {E:List Ent} {t:Tr} {e:Ent} (h:Grown E t) (he:EntOk e):Eqv (e::t.all) (e::E):=
 Eqv.append (a:=[e]) (b:=[e]) (Eqv.refl fun x hx=>by rw [List.mem_singleton]at hx;subst hx;exact he.good) h.ev
theorem Grown.small {E:List Ent} {t:Tr} {e:Ent} (h:Grown E t) (he:EntOk e) (hs:Small (e::E)):Small (e::t.all):=(h.cons_ev he).small.2 hs
theorem small_cnt {m:Nat} {E:List Ent} (h:∀e∈E,e.is.c≤m) (hl:m*E.length≤1073741824):Small E:=fun k=>by
 have:=look_cnt (k:=k) h
 have h2:((m*E.length:Nat):Int)=(m:Int)*(E.length:Int):=by push_cast;rfl
 omega
theorem Grown.putE {E:List Ent} {t:Tr} {e:Ent} (h:Grown E t) (he:EntOk e) (hs:Small (e::E)):putE t e.key e.is=0:=by
 unfold Go.Proofs.YtnjfkcimboidnaaDoor.putE
 obtain⟨h1,h2,h3,h4⟩:=he
 have h5:(Go.Proofs.YtnjfkcimboidnaaDoor.look t.all e.key).c+e.is.c≤1073741824:=by
  have:=hs e.key
  unfold Go.Proofs.YtnjfkcimboidnaaDoor.look at this
  rw [if_pos rfl,join_c]at this
  rw [h.look];omega
 rw [if_neg (by simp [h.fault]),if_neg (by omega),if_neg (by simp [h2]),if_pos h5]
theorem Grown.put {E:List Ent} {t t2:Tr} {e:Ent} {h2:Nat} {l2:List Int} (h:Grown E t) (he:EntOk e) (hn:E.length≤2900) (hf:Full t2 h2 l2) (h3:Eqv t2.all (e::t.all)) (h4:wtT t2≤wtT t+1):treeFault t2=0∧Grown (e::E) t2:=by
 have hw:=h.wt
 have hft:=hf.fault (by omega)
 exact⟨hft,hft,h3.trans (h.cons_ev he),fun x hx=>by
  rcases List.mem_cons.1 hx with rfl|hx
  ·exact he
  ·exact h.ok x hx,by rw [List.length_cons];omega⟩
theorem Grown.knows {E:List Ent} {t:Tr} (h:Grown E t) (hs:Small E):allT t=some (bag E):=by
 have hg:=h.goods
 refine allT_of h.fault (h.ev.trans ⟨hg,bag_goods hg,fun k=>(look_bag hg k).symm⟩) (bag_rising hg) fun e he=>?_
 have hlk:Go.Proofs.YtnjfkcimboidnaaDoor.look E e.key=e.is:=by rw [←look_bag hg,look_rising (bag_rising hg) he]
 have hgd:=bag_goods hg e he
 have hle:=hs e.key
 rw [hlk]at hle
 exact⟨by have:=hgd.1;omega,check_good hgd hle⟩
theorem Grown.nodes {E:List Ent} {t:Tr} (h:Grown E t):t.nodes.length+1≤2*((3+E.length)/3):=by
 obtain⟨l,hh,-,hf⟩:=valid_full (treeFault_ok h.fault).2
 obtain⟨k,a1,a2,-⟩:=hf.bound
 have:=h.wt
 omega
theorem Grown.get {E:List Ent} {t:Tr} (h:Grown E t) (hs:Small E) {k:Int}:(Go.Proofs.YtnjfkcimboidnaaDoor.look t.all k).c≤1073741824:=by rw [h.look];exact hs k
end Go.Proofs.YtnjfkcimboidnaaDoor

/- A map of rollups that a call makes. -/
namespace Go.Proofs.YtnjfkcimboidnaaDoor
open Go.RowKit Go.Maps
def rollD (r:Roll):DataW Unit:= .agg [.lit (.int .i64 r.c), .lit (.int .i64 r.s), .lit (.int .i64 r.mi), .lit (.int .i64 r.ma), .lit (.int .i64 r.t), .lit (.int .i64 r.l)]
def rollElem:Value→Option (DataW Unit×List MemPlace)
 |.agg cs=>match cs.toList with
  |[.int .i64 a, .int .i64 b, .int .i64 c, .int .i64 d, .int .i64 e, .int .i64 f]=>some (rollD ⟨a,b,c,d,e,f⟩,[])
  |_=>none
 |_=>none
def mapE:List Ent→DataW Unit
 |[]=> .map []
 |e::E=>(mapE E).put (.int .i64 e.key) (rollD (look (e::E) e.key))
def MapAt (w:World) (mb:Nat) (E:List Ent):Prop:=w.ownsMap (H:=Unit) Tryd.prog 3 rollElem mb E.length (mapE E)
theorem MapAt.lt {w:World} {mb:Nat} {E:List Ent} (h:MapAt w mb E):mb<w.heap.size:=World.ownsMap.lt h
theorem MapAt.block {w w':World} {mb:Nat} {E:List Ent} (h:MapAt w mb E) (hb:w'.heap[mb]?=w.heap[mb]?):MapAt w' mb E:=by
 obtain⟨es,clock,h1,F,hs,hD⟩:=h
 exact⟨es,clock,hb.trans h1,F,hs,hD⟩
theorem MapAt.made (w:World):MapAt (w.alloc (.map #[] 0)) w.heap.size []:=World.ownsMap_made (H:=Unit) w Tryd.prog 3 rollElem
end Go.Proofs.YtnjfkcimboidnaaDoor

/- winnowerkeep.Tree at any raw things: a tree that was grown, and the map of what it knows. -/
namespace Go.Proofs.YtnjfkcimboidnaaDoor
open Go.RowKit Go.Maps
theorem rw_cells {w wr:World} {b off k:Nat} {xs:List Rw} (hb:Below w.heap.size w wr) (hbb:b<w.heap.size)
  (h:∀i x,xs[i]?=some x→∀j u,(enRw x)[j]?=some u→w.cell? ⟨b,off+i*4+j,none⟩=some u) (hk:k<xs.length) :
  wr.cell? ⟨b,off+k*4,none⟩=some (.int .i64 xs[k].k)∧wr.cell? ⟨b,off+k*4+1,none⟩=some (.int .i64 xs[k].a)∧wr.cell? ⟨b,off+k*4+2,none⟩=some (.int .i64 xs[k].b)∧wr.cell? ⟨b,off+k*4+3,none⟩=some (.int .i64 xs[k].c):=by
 have g:∀j u,(enRw xs[k])[j]?=some u→wr.cell? ⟨b,off+k*4+j,none⟩=some u:=fun j u hu=>
  (hb.cell (p:=⟨b,_,none⟩) hbb).trans (h k xs[k] (by simp [hk]) j u hu)
 exact⟨by simpa using g 0 _ rfl,g 1 _ rfl,g 2 _ rfl,g 3 _ rfl⟩
theorem idx_rws {ab aoff n cap j:Nat} {i:Int} (h:i=j) (hj:j<n) (w:World):(Instr.indexAt 22 (.slice (some ⟨ab,aoff,none⟩) n cap) (.int .i64 i)).run Tryd.prog w = .ok (.pointer (some ⟨ab,aoff+j*4,none⟩)) w:=by
 subst h
 go_simp
def KE (many:Int) (E:List Ent):Prop:=∀e∈E,1≤e.is.c∧e.is.c≤(4:Nat)∧0≤e.key∧e.key<many
theorem KE.small {many:Int} {E:List Ent} (h:KE many E) (hl:E.length≤1000):Small E:=small_cnt (fun e he=>(h e he).2.1) (by omega)
structure KtAt (w:World) (tb mb:Nat) (many:Int) (k:Nat) (s:Option Addr) (n c:Nat) (t:Tr) (E:List Ent) (wr:World):Prop where
 below:Below w.heap.size w wr
 size:w.heap.size<tb
 lt:tb<mb
 t0:wr.cell? ⟨tb,0,none⟩=some (.slice s n c)
 t1:wr.cell? ⟨tb,1,none⟩=some (.int .i64 t.root)
 tf:∀o,wr.frozen? ⟨tb,o,none⟩=false
 z0:wr.cell? ⟨w.heap.size,0,none⟩=some (.slice none 0 0)
 z1:wr.cell? ⟨w.heap.size,1,none⟩=some (.int .i64 0)
 zf:∀o,wr.frozen? ⟨w.heap.size,o,none⟩=false
 tree:∀w'',wr.heap.size≤w''.heap.size→(∀b,w.heap.size<b→b≠tb→b≠mb→b<wr.heap.size→w''.heap[b]?=wr.heap[b]?)→TreeAt w'' (.agg #[.slice s n c, .int .i64 t.root]) t
 grown:Grown E t
 ke:KE many E
 len:E.length=k
 map:MapAt wr mb E
theorem KtAt.later {w:World} {tb mb k:Nat} {many:Int} {s:Option Addr} {n c:Nat} {t:Tr} {E:List Ent} {wr w':World} (h:KtAt w tb mb many k s n c t E wr) (hb:Below wr.heap.size wr w'):KtAt w tb mb many k s n c t E w':=by
 have h1:=h.size
 have h2:=h.lt
 have h3:=h.map.lt
 have k0:=keep1 hb (B:=w.heap.size) (by omega)
 have k1:=keep1 hb (B:=tb) (by omega)
 exact⟨Below.trans' h.below hb h.below.size,h1,h2,(k1.2.1 _).trans h.t0,(k1.2.1 _).trans h.t1,fun o=>(k1.2.2 o).trans (h.tf o),(k0.2.1 _).trans h.z0,(k0.2.1 _).trans h.z1,fun o=>(k0.2.2 o).trans (h.zf o),fun w'' hs hk=>h.tree w'' (Nat.le_trans hb.size hs) fun b b1 b2 b3 b4=>(hk b b1 b2 b3 (Nat.lt_of_lt_of_le b4 hb.size)).trans (hb.block b b4),h.grown,h.ke,h.len,h.map.block (hb.block _ h3)⟩
theorem KtAt.at {w:World} {tb mb k:Nat} {many:Int} {s:Option Addr} {n c:Nat} {t:Tr} {E:List Ent} {wr:World} (h:KtAt w tb mb many k s n c t E wr):TreeAt wr (.agg #[.slice s n c, .int .i64 t.root]) t:=h.tree _ (Nat.le_refl _) fun _ _ _ _ _=>rfl
theorem MapAt.put {w1:World} {mb:Nat} {E:List Ent} {e:Ent} (h:w1.ownsMap (H:=Unit) Tryd.prog 3 rollElem mb (E.length+1) ((mapE E).put (.int .i64 e.key) (rollD (Go.Proofs.YtnjfkcimboidnaaDoor.look (e::E) e.key)))):MapAt w1 mb (e::E):=h
end Go.Proofs.YtnjfkcimboidnaaDoor
