/- Texts of mine that come as one: Mem OpenSl Kit Eq App Own Roll RollB Merge MergeRef Clone Nodes Turn. -/
import Derived.Test.YtnjfkcimboidnaaDoorPA
import Derived.Deep.Slices
import Derived.Test.YtnjfkcimboidnaaDoorProg
import Derived.WalkKit
import Derived.WalkLawsBesides
import Derived.WalkSpells
import Derived.BigQuiet
import Derived.Deep.QuietTactic
import Derived.Deep.DeepCutAuto
import Derived.Lib.Hide
import Derived.Deep.LoopGhost
import Derived.Outline
import Derived.Laws.StructEq
import Derived.OwnWalk
import Derived.Lib.LazyBuf
/- Slices in memory: 'the slice value v holds these elements'. -/
namespace Go.Proofs.YtnjfkcimboidnaaDoor
open Go.ChangeShapes Go.WideShapes Go.ChangeAt Go.RowKit Go.Deep
def SlAt {α:Type} (k sz:Nat) (en:α→List Value) (w:World) (v:Value) (xs:List α):Prop:=
 ∃ao cap,v = .slice ao xs.length cap∧xs.length≤cap∧cap≤9223372036854775807∧xs.length*sz≤140737488351232∧(ao=none→cap=0) ∧
  (0<xs.length→∃b off,ao=some ⟨b,off,none⟩∧b<w.heap.size∧∀i x,xs[i]?=some x→∀j u,(en x)[j]?=some u→w.cell? ⟨b,off+i*k+j,none⟩=some u)
theorem SlAt.below {α:Type} {k sz:Nat} {en:α→List Value} {w w':World} {v:Value} {xs:List α} (h:SlAt k sz en w v xs) {B:Nat} (hb:Below B w w') (hB:w.heap.size≤B):SlAt k sz en w' v xs:=by
 obtain⟨ao,cap,rfl,h1,h2,h3,h4,h5⟩:=h
 refine⟨ao,cap,rfl,h1,h2,h3,h4,fun h=>?_⟩
 obtain⟨b,off,rfl,hlt,hc⟩:=h5 h
 exact⟨b,off,rfl,Nat.lt_of_lt_of_le hlt hb.size,fun i x hx j u hu=>(hb.cell (p:=⟨b,_,none⟩) (by show b<B;omega)).trans (hc i x hx j u hu)⟩
theorem SlAt.nil {α:Type} (k sz:Nat) (en:α→List Value) (w:World):SlAt k sz en w (.slice none 0 0) ([]:List α):=⟨none,0,rfl,by simp,by simp,by simp,fun _=>rfl,by simp⟩
section
variable {H:Type} {enc:TypeId×Value→H} {P:Program} {w:World} {base:Nat} {sp:Nat→Bool} {held:Bool}
theorem weights_all {e:TypeId}:∀{ds:List (DataW H)} {d:DataW H},d∈ds→∀m∈d.weights P e,m∈DataW.weightsAll P e ds
 |d'::ds,d,hd,m,hm=>by
  simp only [DataW.weightsAll,List.mem_append]
  rcases List.mem_cons.1 hd with rfl|hd
  ·exact .inl hm
  ·exact .inr (weights_all hd m hm)
theorem cells_lt {b:Nat} {o:Nat} {u:Value} (h:w.cell? ⟨b,o,none⟩=some u):b<w.heap.size:=by
 by_cases hb:b<w.heap.size
 ·exact hb
 ·simp [World.cell?,Array.getElem?_eq_none (Nat.le_of_not_lt hb)]at h
theorem add_cell {a:Addr} {i j:Nat} {u:Value} (h:w.cell? ((a.add i).add j)=some u):a.spot=none∨0<i∨0<j:=by
 by_cases hi:i=0
 ·by_cases hj:j=0
  ·subst hi;subst hj
   left
   obtain⟨b,o,s⟩:=a
   cases s with
   |none=>rfl
   |some s=>simp [Addr.add,World.cell?]at h;split at h <;> simp at h
  ·exact .inr (.inr (by omega))
 ·exact .inr (.inl (by omega))
theorem read_slice {α:Type} {t e:TypeId} {k sz fuel:Nat} {cs:List Value} {x:DataW H×List MemPlace} (en:α→List Value) (Q:α→Prop)
  (ht:P.underlying t=some (.slice e)) (hk:P.cellsOf e=k) (hk0:0<k) (hsz:P.bytesOf e=sz)
  (h:DataW.trod enc P w base sp held fuel t cs=some x) (hw:∀m∈x.1.weights P t,m≤reachBytes)
  (hel:∀(n:Nat) (cs':List Value) (y:DataW H×List MemPlace),DataW.trod enc P w base sp held n e cs'=some y→(∀m∈y.1.weights P e,m≤reachBytes)→∃a:α,cs'=en a∧Q a) :
  ∃(v:Value) (xs:List α),cs=[v]∧SlAt k sz en w v xs∧∀a∈xs,Q a:=by
 rcases open_slice ht h with ⟨rfl,_⟩|⟨a,len,cap,m,n,D,Pl,rfl,_,hl,hm,hmm,rfl,hx⟩
 ·exact⟨_,[],rfl,SlAt.nil _ _ _ _,by simp⟩
 ·simp only [DataW.weights,ht]at hw
  have hlm:len≤m:=by rw [hmm];split <;> omega
  have hel':∀i,i<len→∃z:α,∃cs',w.cells? base (a.add (i*k)) k=some cs'∧cs'=en z∧Q z:=by
   intro i hi
   obtain⟨cs',h1,h2⟩:=hx i (by omega)
   rw [hk]at h1
   obtain⟨z,hz,hq⟩:=hel n cs' _ h2 (fun m' hm'=>hw m' (by
    simp only [List.mem_cons,List.mem_append]
    exact .inr (.inl (weights_all (List.mem_map.2 ⟨i,List.mem_range.2 hi,rfl⟩) m' hm'))))
   exact⟨z,cs',h1,hz,hq⟩
  obtain⟨F,hF⟩:∃F:(i:Nat)→i<len→α,∀i (hi:i<len),∃cs',w.cells? base (a.add (i*k)) k=some cs'∧cs'=en (F i hi)∧Q (F i hi):=
   ⟨fun i hi=>Classical.choose (hel' i hi),fun i hi=>Classical.choose_spec (hel' i hi)⟩
  have hlen:(List.ofFn fun i:Fin len=>F i.1 i.2).length=len:=by simp
  have hbytes:=hw _ (List.mem_cons_self ..)
  simp only [List.length_map,List.length_range,hsz]at hbytes
  refine⟨_,List.ofFn fun i:Fin len=>F i.1 i.2,rfl,⟨some a,cap,by rw [hlen],by omega,by unfold maxLen at hm;omega,?_,by simp,?_⟩,?_⟩
  ·rw [hlen]
   have:len*sz≤(len+(m-len))*sz:=Nat.mul_le_mul_right _ (by omega)
   unfold reachBytes at hbytes
   omega
  ·rw [hlen]
   intro h0
   obtain⟨cs0,c0,e0,_⟩:=hF 0 h0
   obtain⟨_,l0,g0⟩:=World.cells?_some c0
   obtain⟨u0,hu0⟩:∃u,cs0[0]?=some u:=⟨cs0[0]'(by omega),by simp [show 0<cs0.length by omega]⟩
   have q0:=(g0 0 (by omega)).trans hu0
   have hspot:a.spot=none:=by
    have:=add_cell q0
    rcases this with h|h|h <;> first|exact h|omega
   obtain⟨b,off,s⟩:=a
   simp only at hspot
   subst hspot
   refine⟨b,off,rfl,?_,?_⟩
   ·simp only [Addr.add]at q0
    exact cells_lt (by simpa using q0)
   ·intro i x hxi j u hu
    obtain⟨hi,hxe⟩:=List.getElem?_eq_some_iff.1 hxi
    rw [hlen]at hi
    obtain⟨csi,ci,ei,_⟩:=hF i hi
    obtain⟨_,li,gi⟩:=World.cells?_some ci
    have hxe':x=F i hi:=by rw [←hxe];simp
    rw [hxe',←ei]at hu
    have hj:j<k:=by
     have:=(List.getElem?_eq_some_iff.1 hu).1
     omega
    have:=(gi j hj).trans hu
    rw [←this]
    congr 1
    simp only [Addr.add]
    split <;> split <;> simp_all <;> omega
  ·intro z hz
   obtain⟨i,hi⟩:=List.mem_ofFn.1 hz
   obtain⟨_,_,_,hq⟩:=hF i.1 i.2
   rw [←hi];exact hq
end
end Go.Proofs.YtnjfkcimboidnaaDoor

/- Arguments that are slices, read as data. -/
namespace Go.Proofs.YtnjfkcimboidnaaDoor
open Go.ChangeShapes Go.WideShapes Go.ChangeAt Go.RowKit Go.Deep
def enInt (n:Int):List Value:=[.int .i64 n]
def i64 (n:Int):Prop:=-9223372036854775808≤n∧n≤9223372036854775807
abbrev IntsAt (w:World) (v:Value) (xs:List Int):Prop:=SlAt 1 8 enInt w v xs
theorem weights_le {H:Type} {P:Program} {ts:List TypeId} {ds:List (DataW H)} (h:(DataW.weightsEach P ts ds).all (·≤reachBytes)=true) {j:Nat} {t:TypeId} {d:DataW H} (ht:ts[j]?=some t) (hd:ds[j]?=some d) :
  ∀m∈d.weights P t,m≤reachBytes:=by
 intro m hm
 have:=List.all_eq_true.1 h m (DataW.weights_mem_each ht hd m hm)
 simpa using this
section
variable {H:Type} {enc:TypeId×Value→H} {w:World} {base:Nat} {sp:Nat→Bool} {held:Bool}
set_option maxRecDepth 100000 in
theorem slice_cell {r:Reach} {b0:Nat} {t e:TypeId} {v v':Value} (ht:Tryd.prog.underlying t=some (.slice e)) (hv:Value.okWide Tryd.prog w r b0 t v) (h:v.cells.toList=[v']):v=v':=by
 obtain⟨a,len,cap,rfl⟩:=okWide_slice ht hv
 simpa [Value.cells] using h
end
end Go.Proofs.YtnjfkcimboidnaaDoor

/- What all walks share: imports, and small laws. -/
namespace Go.Proofs.YtnjfkcimboidnaaDoor
open Go.RowKit
abbrev Roll.v (r:Roll):Value:= .agg #[.int .i64 r.c, .int .i64 r.s, .int .i64 r.mi, .int .i64 r.ma, .int .i64 r.t, .int .i64 r.l]
theorem ret_int {k:IntKind} {a b:Int} (h:a=b):Ending.returned (.int k a) = .returned (.int k b):=by rw [h]
theorem ret_bool {a b:Bool} (h:a=b):Ending.returned (.bool a) = .returned (.bool b):=by rw [h]
theorem keep1 {W w2:World} (hb:Below W.heap.size W w2) {B:Nat} (hB:B<W.heap.size) :
  B<w2.heap.size∧(∀o,w2.cell? ⟨B,o,none⟩=W.cell? ⟨B,o,none⟩)∧(∀o,w2.frozen? ⟨B,o,none⟩=W.frozen? ⟨B,o,none⟩):=
 ⟨Nat.lt_of_lt_of_le hB hb.size,fun o=>hb.cell (p:=⟨B,o,none⟩) hB,fun o=>hb.frozen (p:=⟨B,o,none⟩) hB⟩
theorem heap_setCell_same {w:World} {B off:Nat} {c:Array Value} {e:TypeId} {fr:Nat×Nat} {v:Value} (h:w.heap[B]?=some (.cells c e fr)) :
  (w.setCell ⟨B,off,none⟩ v).heap[B]?=some (.cells (c.setIfInBounds off v) e fr):=by
 simp [World.setCell,Array.getElem?_modify,h]
theorem heap_setCell_size (w:World) (a:Addr) (v:Value):(w.setCell a v).heap.size=w.heap.size:=by simp [World.setCell]
theorem heap_set6 {w:World} {B:Nat} {a0 a1 a2 a3 a4 a5 v0 v1 v2 v3 v4 v5:Value} {e:TypeId} {fr:Nat×Nat} (h:w.heap[B]?=some (.cells #[a0,a1,a2,a3,a4,a5] e fr)) :
  ((((((w.setCell ⟨B,0,none⟩ v0).setCell ⟨B,1,none⟩ v1).setCell ⟨B,2,none⟩ v2).setCell ⟨B,3,none⟩ v3).setCell ⟨B,4,none⟩ v4).setCell ⟨B,5,none⟩ v5).heap[B]?=some (.cells #[v0,v1,v2,v3,v4,v5] e fr):=by
 have h:=heap_setCell_same (off:=5) (v:=v5) (heap_setCell_same (off:=4) (v:=v4) (heap_setCell_same (off:=3) (v:=v3) (heap_setCell_same (off:=2) (v:=v2) (heap_setCell_same (off:=1) (v:=v1) (heap_setCell_same (off:=0) (v:=v0) h)))))
 simpa using h
theorem int_eq {k:IntKind} {a b:Int} (h:a=b):Value.int k a=Value.int k b:=by rw [h]
@[go_sem high] theorem run_min_one {P:Program} {w:World} (ts:Array TypeId) (t:TypeId) (k k':IntKind) (x y:Int):(Builtin.min_ ts t #[.int k x, .int k' y]).run P w = .ok (.int k (min x y)) w:=by
 rw [run_min_int2];congr 2;omega
@[go_sem high] theorem run_max_one {P:Program} {w:World} (ts:Array TypeId) (t:TypeId) (k k':IntKind) (x y:Int):(Builtin.max_ ts t #[.int k x, .int k' y]).run P w = .ok (.int k (max x y)) w:=by
 rw [run_max_int2];congr 2;omega
end Go.Proofs.YtnjfkcimboidnaaDoor

/- '==' and '!=' on rollups and entries, as the model runs them. -/
namespace Go.Proofs.YtnjfkcimboidnaaDoor
open Go.RowKit
theorem below_dn {B:Nat} {a w:World} (h:Below B a w) (n:Nat):Below B a (w.drewN n):=⟨h.os,h.tape,h.output,h.size,h.block⟩
theorem belowAuto {B:Nat} {w w':World} (h:Below B w w':=by repeat (first|with_reducible exact Below.refl _ _|with_reducible assumption|with_reducible refine below_dn ?_ _|with_reducible refine Below.drew ?_|with_reducible refine Below.alloc ?_ (by first|omega|(simp;done)|(simp;omega)|(simp [drew_size];done)|(simp [drew_size];omega)) _|with_reducible refine Below.setCell ?_ (by first|omega|(simp;done)|(simp;omega)|(simp [drew_size];done)|(simp [drew_size];omega)) _)):Below B w w':=h
def enEnt (e:Ent):List Value:=[.int .i64 e.key, .int .i64 e.is.c, .int .i64 e.is.s, .int .i64 e.is.mi, .int .i64 e.is.ma, .int .i64 e.is.t, .int .i64 e.is.l]
abbrev EntsAt (w:World) (v:Value) (xs:List Ent):Prop:=SlAt 7 56 enEnt w v xs
theorem Tryd.sRoll:Tryd.prog.underlying 42=some (.struct (Tryd.prog.fieldsOf 42)):=by kernel_rfl
theorem Tryd.sEnt:Tryd.prog.underlying 96=some (.struct (Tryd.prog.fieldsOf 96)):=by kernel_rfl
theorem Tryd.hRoll:Tryd.prog.stoodInHeld 42=false:=by kernel_rfl
theorem Tryd.hEnt:Tryd.prog.stoodInHeld 96=false:=by kernel_rfl
set_option maxRecDepth 100000 in
theorem run_equalIn_roll (d:Nat) (a b:Roll) (w:World):(Op.equalIn (d+2) 42 (.agg #[.int .i64 a.c, .int .i64 a.s, .int .i64 a.mi, .int .i64 a.ma, .int .i64 a.t, .int .i64 a.l]) (.agg #[.int .i64 b.c, .int .i64 b.s, .int .i64 b.mi, .int .i64 b.ma, .int .i64 b.t, .int .i64 b.l])).run Tryd.prog w = .ok (decide (a=b)) w:=by
 have u3:=Tryd.underlying3
 rw [run_equalIn_struct w (d+1) 42 _ _ Tryd.sRoll Tryd.hRoll]
 simp only [Program.fieldsOf,Tryd.underlying42]
 go_simp
 obtain⟨a0,a1,a2,a3,a4,a5⟩:=a
 obtain⟨b0,b1,b2,b3,b4,b5⟩:=b
 simp only [Roll.mk.injEq]
 by_cases h0:a0=b0
 ·by_cases h1:a1=b1
  ·by_cases h2:a2=b2
   ·by_cases h3:a3=b3
    ·by_cases h4:a4=b4
     ·by_cases h5:a5=b5 <;> simp [h0,h1,h2,h3,h4,h5]
     ·simp [h0,h1,h2,h3,h4]
    ·simp [h0,h1,h2,h3]
   ·simp [h0,h1,h2]
  ·simp [h0,h1]
 ·simp [h0]
set_option maxRecDepth 100000 in
theorem run_equalIn_ent (d:Nat) (e f:Ent) (w:World):(Op.equalIn (d+3) 96 (.agg #[.int .i64 e.key, .int .i64 e.is.c, .int .i64 e.is.s, .int .i64 e.is.mi, .int .i64 e.is.ma, .int .i64 e.is.t, .int .i64 e.is.l]) (.agg #[.int .i64 f.key, .int .i64 f.is.c, .int .i64 f.is.s, .int .i64 f.is.mi, .int .i64 f.is.ma, .int .i64 f.is.t, .int .i64 f.is.l])).run Tryd.prog w = .ok (decide (e=f)) w:=by
 have u3:=Tryd.underlying3
 have hr:=fun w=>run_equalIn_roll d e.is f.is w
 rw [run_equalIn_struct w (d+2) 96 _ _ Tryd.sEnt Tryd.hEnt]
 simp only [Program.fieldsOf,Tryd.underlying96]
 go_simp
 obtain⟨e0,e1⟩:=e
 obtain⟨f0,f1⟩:=f
 simp only [Ent.mk.injEq]
 by_cases h0:e0=f0
 ·by_cases h1:e1=f1 <;> simp [h0,h1]
 ·simp [h0]
theorem run_neq_ent (e f:Ent) (w:World):(binOp .neq 96 (.agg #[.int .i64 e.key, .int .i64 e.is.c, .int .i64 e.is.s, .int .i64 e.is.mi, .int .i64 e.is.ma, .int .i64 e.is.t, .int .i64 e.is.l]) (.agg #[.int .i64 f.key, .int .i64 f.is.c, .int .i64 f.is.s, .int .i64 f.is.mi, .int .i64 f.is.ma, .int .i64 f.is.t, .int .i64 f.is.l])).run Tryd.prog w = .ok (.bool (!decide (e=f))) w:=by
 rw [run_neq_struct,run_equalIn_ent 9997];rfl
end Go.Proofs.YtnjfkcimboidnaaDoor

/- Rows of the call's own, and slices that hold elements: plain laws for 'append'. -/
namespace Go.Proofs.YtnjfkcimboidnaaDoor
open Go.RowKit
theorem flat_length {α:Type} {en:α→List Value} {k:Nat} (he:∀x,(en x).length=k):∀xs:List α,(xs.flatMap en).length=xs.length*k
 |[]=>by simp
 |x::xs=>by
  rw [List.flatMap_cons,List.length_append,flat_length he xs,he,List.length_cons,Nat.add_mul,Nat.one_mul,Nat.add_comm]
theorem flat_get {α:Type} {en:α→List Value} {k:Nat} (he:∀x,(en x).length=k):∀{xs:List α} {j:Nat} {u:Value},(xs.flatMap en)[j]?=some u →
  ∃i x,xs[i]?=some x∧i*k≤j∧j<i*k+k∧(en x)[j-i*k]?=some u
 |[],j,u,h=>by simp at h
 |x::xs,j,u,h=>by
  rw [List.flatMap_cons]at h
  by_cases hj:j<k
  ·rw [List.getElem?_append_left (by rw [he];exact hj)]at h
   exact⟨0,x,rfl,by omega,by omega,by simpa using h⟩
  ·rw [List.getElem?_append_right (by rw [he];omega),he]at h
   obtain⟨i,y,h1,h2,h3,h4⟩:=flat_get he h
   have e1:(i+1)*k=i*k+k:=by rw [Nat.add_mul,Nat.one_mul]
   refine⟨i+1,y,by simpa using h1,by omega,by omega,?_⟩
   have e2:j-(i+1)*k=j-k-i*k:=by omega
   rw [e2];exact h4
theorem flat_at {α:Type} {en:α→List Value} {k:Nat} (he:∀x,(en x).length=k):∀{xs:List α} {i r:Nat} {x:α} {u:Value},xs[i]?=some x→(en x)[r]?=some u→(xs.flatMap en)[i*k+r]?=some u
 |[],i,r,x,u,h,_=>by simp at h
 |y::xs,0,r,x,u,h,hu=>by
  simp only [List.getElem?_cons_zero,Option.some.injEq]at h
  subst h
  have hr:=(List.getElem?_eq_some_iff.1 hu).1
  rw [List.flatMap_cons,Nat.zero_mul,Nat.zero_add,List.getElem?_append_left hr]
  exact hu
 |y::xs,i+1,r,x,u,h,hu=>by
  simp only [List.getElem?_cons_succ]at h
  have e1:(i+1)*k=i*k+k:=by rw [Nat.add_mul,Nat.one_mul]
  rw [List.flatMap_cons,List.getElem?_append_right (by rw [he];omega),he,show (i+1)*k+r-k=i*k+r from by omega]
  exact flat_at he h hu
theorem SlAt.news {α:Type} {k sz:Nat} {en:α→List Value} {w:World} {ad:Addr} {n cap:Nat} {xs:List α} (he:∀x,(en x).length=k) (h:SlAt k sz en w (.slice (some ad) n cap) xs) :
  n=xs.length∧(xs.flatMap en).length=xs.length*k∧∀j u,(xs.flatMap en)[j]?=some u→w.cell? (ad.add j)=some u:=by
 obtain⟨ao,cap',e,h1,h2,h3,h4,h5⟩:=h
 injection e with e1 e2 e3
 subst e1 e2 e3
 refine⟨rfl,flat_length he xs,fun j u hj=>?_⟩
 obtain⟨i,x,hx,a1,a2,a3⟩:=flat_get he hj
 obtain⟨hi,_⟩:=List.getElem?_eq_some_iff.1 hx
 obtain⟨b,off,e,hb,hc⟩:=h5 (by omega)
 injection e with e
 subst e
 rw [←hc i x hx (j-i*k) u a3]
 congr 1
 simp only [Addr.add]
 split <;> simp <;> omega
theorem SlAt.owned {α:Type} {k sz:Nat} {en:α→List Value} {w:World} {B:Nat} {e:TypeId} {v:Value} {n:Nat} {xs:List α} (he:∀x,(en x).length=k) (h:w.ownsRow B e k v n (xs.flatMap en)) (hn:n=xs.length)
  (hs:xs.length*sz≤140737488351232):SlAt k sz en w v xs:=by
 subst hn
 obtain⟨hl,⟨rfl,h0⟩|⟨g,cap,cur,rfl,hb,hg,h1,h2,h3,h4⟩⟩:=h
 ·obtain rfl:=List.eq_nil_of_length_eq_zero h0
  exact SlAt.nil _ _ _ _
 ·refine⟨some ⟨g,0,none⟩,cap,rfl,h1,by unfold maxLen at h2;exact h2,hs,by simp,fun _=>⟨g,0,rfl,?_,fun i x hx j u hu=>?_⟩⟩
  ·exact(Array.getElem?_eq_some_iff.1 hg).1
  ·have hi:=(List.getElem?_eq_some_iff.1 hx).1
   have hj:j<k:=by have:=(List.getElem?_eq_some_iff.1 hu).1;rw [he]at this;exact this
   have hf:=flat_at he hx hu
   rw [←h4,List.getElem?_take]at hf
   split at hf
   ·simp only [World.cell?,hg]
    simpa [Nat.zero_add] using hf
   ·cases hf
theorem cell_alloc {w:World} {o:Obj} {a:Addr} {u:Value} (h:w.cell? a=some u):(w.alloc o).cell? a=some u:=
 (((Below.refl w.heap.size w).alloc (Nat.le_refl _) o).cell (p:=a) (World.block_lt_of_cell? w a h)).trans h
theorem info_some {P:Program} {e:TypeId} {size bytes:Nat} (h:(P.info? e).map (fun i=>(i.zero.map (fun z=>z.cells.size),i.size,i.bytes))=some (some size,size,bytes)) :
  ∃i z,P.info? e=some i∧i.zero=some z∧i.size=size∧i.bytes=bytes∧z.cells.size=size:=by
 obtain⟨i,hi,hzz⟩:=Option.map_eq_some_iff.1 h
 simp only [Prod.mk.injEq]at hzz
 obtain⟨z,hz,hzs⟩:=Option.map_eq_some_iff.1 hzz.1
 exact⟨i,z,hi,hz,hzz.2.1,hzz.2.2,hzs⟩
theorem enEnt_length (e:Ent):(enEnt e).length=7:=rfl
theorem enInt_length (e:Int):(enInt e).length=1:=rfl
theorem enEnt_one (xs:List Ent):∀u∈xs.flatMap enEnt,u.oneCell'=true:=by
 intro u hu
 obtain⟨x,_,hx⟩:=List.mem_flatMap.1 hu
 simp [enEnt]at hx
 rcases hx with rfl|rfl|rfl|rfl|rfl|rfl|rfl <;> rfl
theorem enInt_one (xs:List Int):∀u∈xs.flatMap enInt,u.oneCell'=true:=by
 intro u hu
 obtain⟨x,_,hx⟩:=List.mem_flatMap.1 hu
 simp [enInt]at hx
 subst hx;rfl
theorem Tryd.iEnt:(Tryd.prog.info? 96).map (fun i=>(i.zero.map (fun z=>z.cells.size),i.size,i.bytes))=some (some 7,7,56):=by kernel_rfl
theorem Tryd.iInt:(Tryd.prog.info? 3).map (fun i=>(i.zero.map (fun z=>z.cells.size),i.size,i.bytes))=some (some 1,1,8):=by kernel_rfl
end Go.Proofs.YtnjfkcimboidnaaDoor

/- A row of entries of the call's own. -/
namespace Go.Proofs.YtnjfkcimboidnaaDoor
open Go.RowKit
@[simp,go_sem] theorem drew_size (w:World):w.drew.heap.size=w.heap.size:=rfl
structure OwnEnts (B:Nat) (w:World) (v:Value) (es:List Ent):Prop where
 row:w.ownsRow B 96 7 v es.length (es.flatMap enEnt)
theorem OwnEnts.nil (B:Nat) (w:World):OwnEnts B w (.slice none 0 0) []:=⟨World.ownsRow_nil _ _ _ _⟩
theorem OwnEnts.alloc {B:Nat} {w:World} {v:Value} {es:List Ent} (h:OwnEnts B w v es) (o:Obj):OwnEnts B (w.alloc o) v es:=⟨World.ownsRow.alloc h.row o⟩
theorem OwnEnts.block {B:Nat} {w w':World} {v:Value} {es:List Ent} (h:OwnEnts B w v es) (hb:∀g,v.ownBlock=some g→w'.heap[g]?=w.heap[g]?):OwnEnts B w' v es:=by
 obtain⟨hl,⟨rfl,h0⟩|⟨g,cap,cur,rfl,hB,hg,h1,h2,h3,h4⟩⟩:=h.row
 ·exact⟨⟨hl, .inl ⟨rfl,h0⟩⟩⟩
 ·exact⟨⟨hl, .inr ⟨g,cap,cur,rfl,hB,(hb g rfl).trans hg,h1,h2,h3,h4⟩⟩⟩
theorem OwnEnts.drew {B:Nat} {w:World} {v:Value} {es:List Ent} (h:OwnEnts B w v es):OwnEnts B w.drew v es:=h.block fun _ _=>rfl
theorem OwnEnts.drewN {B:Nat} {w:World} {v:Value} {es:List Ent} (h:OwnEnts B w v es) (n:Nat):OwnEnts B (w.drewN n) v es:=h.block fun _ _=>rfl
theorem OwnEnts.lt {B:Nat} {w:World} {v:Value} {es:List Ent} (h:OwnEnts B w v es):∀g,v.ownBlock=some g→B≤g∧g<w.heap.size:=World.ownsRow.lt h.row
theorem OwnEnts.below {B C:Nat} {w w':World} {v:Value} {es:List Ent} (h:OwnEnts B w v es) (hb:Below C w w') (hC:w.heap.size≤C):OwnEnts B w' v es:=h.block fun g hg=>hb.block g (by have:=(h.lt g hg).2;omega)
theorem OwnEnts.mono {B C:Nat} {w:World} {v:Value} {es:List Ent} (h:OwnEnts B w v es) (hC:C≤B):OwnEnts C w v es:=by
 obtain⟨hl,⟨rfl,h0⟩|⟨g,cap,cur,rfl,hB,hg,h1,h2,h3,h4⟩⟩:=h.row
 ·exact⟨⟨hl, .inl ⟨rfl,h0⟩⟩⟩
 ·exact⟨⟨hl, .inr ⟨g,cap,cur,rfl,by omega,hg,h1,h2,h3,h4⟩⟩⟩
theorem OwnEnts.at {B:Nat} {w:World} {v:Value} {es:List Ent} (h:OwnEnts B w v es) (hs:es.length≤1000000):EntsAt w v es:=SlAt.owned enEnt_length h.row rfl (by omega)
theorem OwnEnts.isSlice {B:Nat} {w:World} {v:Value} {es:List Ent} (h:OwnEnts B w v es):∃ao cap,v = .slice ao es.length cap:=by
 obtain⟨hl,⟨rfl,h0⟩|⟨g,cap,cur,rfl,_⟩⟩:=h.row
 ·exact⟨none,0,by rw [h0]⟩
 ·exact⟨_,_,rfl⟩
theorem ent_new {w:World} {e:Ent} {T:TypeId} {j:Nat} {u:Value} (h:(enEnt e)[j]?=some u) :
  (w.alloc (.cells #[.int .i64 e.key, .int .i64 e.is.c, .int .i64 e.is.s, .int .i64 e.is.mi, .int .i64 e.is.ma, .int .i64 e.is.t, .int .i64 e.is.l] T)).cell? (Addr.add ⟨w.heap.size,0,none⟩ j)=some u:=by
 have hk:(w.alloc (.cells #[.int .i64 e.key, .int .i64 e.is.c, .int .i64 e.is.s, .int .i64 e.is.mi, .int .i64 e.is.ma, .int .i64 e.is.t, .int .i64 e.is.l] T)).heap[w.heap.size]?=some (.cells #[.int .i64 e.key, .int .i64 e.is.c, .int .i64 e.is.s, .int .i64 e.is.mi, .int .i64 e.is.ma, .int .i64 e.is.t, .int .i64 e.is.l] T):=by
  show (w.heap.push _)[w.heap.size]?=_;simp
 have ha:Addr.add ⟨w.heap.size,0,none⟩ j=⟨w.heap.size,j,none⟩:=by simp [Addr.add];omega
 rw [ha]
 simp only [World.cell?,hk]
 simpa [enEnt] using h
theorem wpList_append_ent {w:World} {ops:Array Oper} {rest:List Oper} {o:Oper} {a:Act} {Q:Exit→Act→World→Prop} (hgd:o.guard=none) (s x:Operand)
  (ho:o.op = .call { callee:= .builtin .append,args:=#[s,x],argTypes:=#[94,94] }) (B:Nat) (v:Value) (es:List Ent) (hs:a.eval s=v) (hown:OwnEnts B w v es)
  (ad:Addr) (e:Ent) (hx:a.eval x = .slice (some ad) 1 1) (hnews:∀j u,(enEnt e)[j]?=some u→w.cell? (ad.add j)=some u) (hlen:es.length≤1000000) (hbase:B≤w.heap.size)
  (h:∀v' w',OwnEnts B w' v' (es++[e])→(∀C W,Below C W w→C≤B→Below C W w')→wpList Tryd.prog ops Q rest (a.put o.dst v') w'):wpList Tryd.prog ops Q (o::rest) a w:=by
 obtain⟨i0,z,hi,hz,hz1,hz2,hz3⟩:=info_some Tryd.iEnt
 refine wpList_append_own w hgd s x 94 ho B 96 i0 z 7 56 Tryd.underlying94 hi hz hz1 hz2 hz3 (by decide) v es.length _ hs hown.row ad 1 1 (enEnt e) hx rfl hnews (enEnt_one [e] |> fun h u hu=>h u (by simpa using hu)) (by unfold maxLen;omega) (by omega) hbase ?_
 intro v' w' hown' hg _
 refine h v' w' ?_ fun C W hb hC=>Below.grown hb hg (by omega) (fun j hj=>by have:=(hown.lt j hj).1;omega)
 have:(es++[e]).flatMap enEnt=es.flatMap enEnt++enEnt e:=by simp
 refine⟨?_⟩
 rw [this,List.length_append]
 exact hown'
end Go.Proofs.YtnjfkcimboidnaaDoor

/- The walks of package roll and of its reference. -/
namespace Go.Proofs.YtnjfkcimboidnaaDoor
open Go.RowKit
theorem within_any (n m:Int) (w:World) (h0:0≤m) (h1:m≤1125899906842624):Calls Tryd.prog 37 #[.int .i64 n, .int .i64 m] w fun e w'=>e = .returned (.bool (within n m))∧w=w':=by
 by_cases h : -m≤n
 ·go_enter Tryd.func37,Tryd.ntmps37
  go_wp2
  go_ret
  simp [within,h]
 ·go_enter Tryd.func37,Tryd.ntmps37
  go_wp2
  go_ret
  simp [within];omega
set_option maxHeartbeats 1000000 in
theorem check_any (r:Roll) (w:World):Calls Tryd.prog 38 #[.agg #[.int .i64 r.c, .int .i64 r.s, .int .i64 r.mi, .int .i64 r.ma, .int .i64 r.t, .int .i64 r.l]] w fun e w'=>e = .returned (.int .i64 (rollCheck r))∧w.alloc (.cells #[.int .i64 r.c, .int .i64 r.s, .int .i64 r.mi, .int .i64 r.ma, .int .i64 r.t, .int .i64 r.l] 42)=w':=by
 obtain⟨c,s,mi,ma,t,l⟩:=r
 simp only
 go_enter Tryd.func38,Tryd.ntmps38
 go_wp2_with (go_at_call 37;refine(within_any _ _ _ (by omega) (by omega)).mono ?_;rintro e w' ⟨rfl,rfl⟩)
 all_goals (go_ret;refine⟨ret_int ?_,by first|rfl|simp [*]⟩)
 all_goals (try simp only [within_true]at *)
 all_goals first
  |exact(rc2 (by simp only [Roll.ranged];omega)).symm
  |exact(rc0z (by simp only [Roll.zero,Roll.mk.injEq];omega)).symm
  |exact(rc4z (by simp only [Roll.ranged];omega) (by simp only;omega) (by simp only [Roll.zero,ne_eq,Roll.mk.injEq];omega)).symm
  |skip
 all_goals
  have m1:=mul_range (c:=c) (m:=mi) (by omega) (by omega) (by omega) (by omega)
  have m2:=mul_range (c:=c) (m:=ma) (by omega) (by omega) (by omega) (by omega)
  have e1:=IntWalk.wrap64_in (c*mi) ⟨by omega,by omega⟩
  have e2:=IntWalk.wrap64_in (c*ma) ⟨by omega,by omega⟩
  simp only [e1,e2]at *
  first
  |exact(rc0 (by simp only [Roll.ranged];omega) (by simp only;omega) (by simp only [Roll.formed];omega)).symm
  |exact(rc4 (by simp only [Roll.ranged];omega) (by simp only;omega) (by simp only [Roll.formed];omega)).symm
end Go.Proofs.YtnjfkcimboidnaaDoor

/- The walk of roll.Of. -/
namespace Go.Proofs.YtnjfkcimboidnaaDoor
open Go.RowKit
theorem of_any (t v:Int) (w:World):Calls Tryd.prog 18 #[.int .i64 t, .int .i64 v] w fun e w'=>e = .returned (.tuple #[(rollOf t v).1.v, .int .i64 (rollOf t v).2])∧Below w.heap.size w w':=by
 by_cases h:0≤t∧t≤1048575∧-1000000≤v∧v≤1000000
 ·have hr:rollOf t v=(⟨1,v,v,v,t,v⟩,0):=by simp [rollOf,h]
  obtain⟨h1,h2,h3⟩:=h
  rw [hr]
  have hw:within v 1000000=true:=within_true.2 h3
  clear hr
  go_enter Tryd.func18,Tryd.ntmps18
  go_wp2_with (go_at_call 37;refine(within_any _ _ _ (by omega) (by omega)).mono ?_;rintro e w' ⟨rfl,rfl⟩)
  exact bodyPost_ret (v:= .tuple #[.agg #[.int .i64 1, .int .i64 v, .int .i64 v, .int .i64 v, .int .i64 t, .int .i64 v], .int .i64 0]) (by simp [results,Tryd.results18,go_sem]) rfl ⟨rfl,(by repeat (first|exact Below.refl _ _|assumption|refine Below.drew ?_|refine Below.alloc ?_ (by simp <;> omega) _|refine Below.setCell ?_ (by simp <;> omega) _))⟩
 ·have hr:rollOf t v=(Roll.zero,2):=by simp [rollOf,h]
  rw [hr]
  have hw:(0≤t∧t≤1048575)→within v 1000000=false:=fun hh=>within_false.2 (by omega)
  clear hr
  go_enter Tryd.func18,Tryd.ntmps18
  go_wp2_with (go_at_call 37;refine(within_any _ _ _ (by omega) (by omega)).mono ?_;rintro e w' ⟨rfl,rfl⟩;have hw1:=hw ⟨by omega,by omega⟩)
  all_goals exact bodyPost_ret (v:= .tuple #[.agg #[.int .i64 0, .int .i64 0, .int .i64 0, .int .i64 0, .int .i64 0, .int .i64 0], .int .i64 2]) (by simp [results,Tryd.results18,go_sem]) rfl ⟨rfl,(by repeat (first|exact Below.refl _ _|assumption|refine Below.drew ?_|refine Below.alloc ?_ (by simp <;> omega) _|refine Below.setCell ?_ (by simp <;> omega) _))⟩
end Go.Proofs.YtnjfkcimboidnaaDoor

/- The walks of roll.Merge and of its reference. -/
namespace Go.Proofs.YtnjfkcimboidnaaDoor
open Go.RowKit
theorem merge_bad1 {a b:Roll} (h:rollCheck a≠0):rollMerge a b=(Roll.zero,rollCheck a):=by simp [rollMerge,h]
theorem merge_bad2 {a b:Roll} (h:rollCheck a=0) (h2:rollCheck b≠0):rollMerge a b=(Roll.zero,rollCheck b):=by simp [rollMerge,h,h2]
theorem check_zero {a:Roll} (h:rollCheck a=0):a.ranged:=by
 unfold rollCheck at h
 split at h
 ·assumption
 ·cases h
theorem check_zero_c {a:Roll} (h:rollCheck a=0) (hc:a.c=0):a=Roll.zero:=by
 have hr:=check_zero h
 unfold rollCheck at h
 rw [if_pos hr,if_pos hc]at h
 by_cases hz:a=Roll.zero
 ·exact hz
 ·rw [if_neg hz]at h;cases h
theorem merge_a0 {a b:Roll} (h:rollCheck a=0) (h2:rollCheck b=0) (h3:a.c=0):rollMerge a b=(b,0):=by
 by_cases h4:b.c=0
 ·rw [check_zero_c h h3,check_zero_c h2 h4];decide
 ·simp [rollMerge,h,h2,h3,Roll.join,h4]
theorem merge_b0 {a b:Roll} (h:rollCheck a=0) (h2:rollCheck b=0) (h3:b.c=0):rollMerge a b=(a,0):=by
 simp [rollMerge,h,h2,h3,Roll.join]
theorem merge_many {a b:Roll} (h:rollCheck a=0) (h2:rollCheck b=0) (h3:a.c≠0) (h4:b.c≠0) (h5:a.c+b.c>1073741824∨within (a.s+b.s) 1125899906842624=false):rollMerge a b=(Roll.zero,1):=by
 simp [rollMerge,h,h2,h3,h4,h5]
theorem merge_join {a b:Roll} (h:rollCheck a=0) (h2:rollCheck b=0) (h3:a.c≠0) (h4:b.c≠0) (h5:a.c+b.c≤1073741824) (h6:within (a.s+b.s) 1125899906842624=true):rollMerge a b=(a.join b,0):=by
 have:¬(a.c+b.c>1073741824∨within (a.s+b.s) 1125899906842624=false):=by simp [h6];omega
 simp [rollMerge,h,h2,h3,h4,this]
def newer (a b:Roll):Prop:=a.t<b.t∨(a.t=b.t∧a.l<b.l)
theorem join_new {a b:Roll} (h3:a.c≠0) (h4:b.c≠0) (h:newer a b):a.join b=⟨a.c+b.c,a.s+b.s,min a.mi b.mi,max a.ma b.ma,b.t,b.l⟩:=by
 unfold newer at h
 simp only [Roll.join,h3,h4,if_false,h,if_true]
theorem join_old {a b:Roll} (h3:a.c≠0) (h4:b.c≠0) (h:¬newer a b):a.join b=⟨a.c+b.c,a.s+b.s,min a.mi b.mi,max a.ma b.ma,a.t,a.l⟩:=by
 unfold newer at h
 simp only [Roll.join,h3,h4,if_false,h]
set_option maxHeartbeats 1000000 in
theorem merge_early (a b:Roll) (w:World) (h:rollCheck a≠0∨rollCheck b≠0∨a.c=0∨b.c=0):Calls Tryd.prog 19 #[.agg #[.int .i64 a.c, .int .i64 a.s, .int .i64 a.mi, .int .i64 a.ma, .int .i64 a.t, .int .i64 a.l], .agg #[.int .i64 b.c, .int .i64 b.s, .int .i64 b.mi, .int .i64 b.ma, .int .i64 b.t, .int .i64 b.l]] w fun e w'=>e = .returned (.tuple #[(rollMerge a b).1.v, .int .i64 (rollMerge a b).2])∧Below w.heap.size w w':=by
 by_cases h1:rollCheck a=0
 ·by_cases h2:rollCheck b=0
  ·by_cases h3:a.c=0
   ·rw [merge_a0 h1 h2 h3]
    have h1':(rollCheck a != 0)=false:=by simp [h1]
    have h2':(rollCheck b != 0)=false:=by simp [h2]
    have h3':(a.c == 0)=true:=by simp [h3]
    clear h h1 h2 h3
    go_enter Tryd.func19,Tryd.ntmps19
    go_wp2_with (go_at_call 38;refine(check_any _ _).mono ?_;rintro e w1 ⟨rfl,rfl⟩)
    exact bodyPost_ret (v:= .tuple #[.agg #[.int .i64 b.c, .int .i64 b.s, .int .i64 b.mi, .int .i64 b.ma, .int .i64 b.t, .int .i64 b.l], .int .i64 0]) (by simp [results,Tryd.results19,go_sem]) rfl ⟨rfl,(by repeat (first|exact Below.refl _ _|assumption|refine Below.drew ?_|refine Below.alloc ?_ (by simp <;> omega) _|refine Below.setCell ?_ (by simp <;> omega) _))⟩
   ·have h4:b.c=0:=by omega
    rw [merge_b0 h1 h2 h4]
    have h1':(rollCheck a != 0)=false:=by simp [h1]
    have h2':(rollCheck b != 0)=false:=by simp [h2]
    have h3':(a.c == 0)=false:=by simp [h3]
    have h4':(b.c == 0)=true:=by simp [h4]
    clear h h1 h2 h3 h4
    go_enter Tryd.func19,Tryd.ntmps19
    go_wp2_with (go_at_call 38;refine(check_any _ _).mono ?_;rintro e w1 ⟨rfl,rfl⟩)
    exact bodyPost_ret (v:= .tuple #[.agg #[.int .i64 a.c, .int .i64 a.s, .int .i64 a.mi, .int .i64 a.ma, .int .i64 a.t, .int .i64 a.l], .int .i64 0]) (by simp [results,Tryd.results19,go_sem]) rfl ⟨rfl,(by repeat (first|exact Below.refl _ _|assumption|refine Below.drew ?_|refine Below.alloc ?_ (by simp <;> omega) _|refine Below.setCell ?_ (by simp <;> omega) _))⟩
  ·rw [merge_bad2 h1 h2]
   have h1':(rollCheck a != 0)=false:=by simp [h1]
   have h2':(rollCheck b != 0)=true:=by simp [h2]
   clear h h1 h2
   go_enter Tryd.func19,Tryd.ntmps19
   go_wp2_with (go_at_call 38;refine(check_any _ _).mono ?_;rintro e w1 ⟨rfl,rfl⟩)
   exact bodyPost_ret (v:= .tuple #[.agg #[.int .i64 0, .int .i64 0, .int .i64 0, .int .i64 0, .int .i64 0, .int .i64 0], .int .i64 (rollCheck b)]) (by simp [results,Tryd.results19,go_sem]) rfl ⟨rfl,(by repeat (first|exact Below.refl _ _|assumption|refine Below.drew ?_|refine Below.alloc ?_ (by simp <;> omega) _|refine Below.setCell ?_ (by simp <;> omega) _))⟩
 ·rw [merge_bad1 h1]
  have h1':(rollCheck a != 0)=true:=by simp [h1]
  clear h h1
  go_enter Tryd.func19,Tryd.ntmps19
  go_wp2_with (go_at_call 38;refine(check_any _ _).mono ?_;rintro e w1 ⟨rfl,rfl⟩)
  exact bodyPost_ret (v:= .tuple #[.agg #[.int .i64 0, .int .i64 0, .int .i64 0, .int .i64 0, .int .i64 0, .int .i64 0], .int .i64 (rollCheck a)]) (by simp [results,Tryd.results19,go_sem]) rfl ⟨rfl,(by repeat (first|exact Below.refl _ _|assumption|refine Below.drew ?_|refine Below.alloc ?_ (by simp <;> omega) _|refine Below.setCell ?_ (by simp <;> omega) _))⟩
set_option maxHeartbeats 1000000 in
theorem merge_late (a b:Roll) (w:World) (h1:rollCheck a=0) (h2:rollCheck b=0) (h3:a.c≠0) (h4:b.c≠0):Calls Tryd.prog 19 #[.agg #[.int .i64 a.c, .int .i64 a.s, .int .i64 a.mi, .int .i64 a.ma, .int .i64 a.t, .int .i64 a.l], .agg #[.int .i64 b.c, .int .i64 b.s, .int .i64 b.mi, .int .i64 b.ma, .int .i64 b.t, .int .i64 b.l]] w fun e w'=>e = .returned (.tuple #[(rollMerge a b).1.v, .int .i64 (rollMerge a b).2])∧Below w.heap.size w w':=by
 have ra:=check_zero h1
 have rb:=check_zero h2
 unfold Roll.ranged at ra rb
 obtain⟨ra1,ra2,ra3,ra4,-⟩:=ra
 obtain⟨rb1,rb2,rb3,rb4,-⟩:=rb
 have h1':(rollCheck a != 0)=false:=by simp [h1]
 have h2':(rollCheck b != 0)=false:=by simp [h2]
 have h3':(a.c == 0)=false:=by simp [h3]
 have h4':(b.c == 0)=false:=by simp [h4]
 by_cases h5:a.c+b.c>1073741824
 ·rw [merge_many h1 h2 h3 h4 (.inl h5)]
  clear h1 h2 h3 h4
  go_enter Tryd.func19,Tryd.ntmps19
  go_wp2_with (go_at_call 38;refine(check_any _ _).mono ?_;rintro e w1 ⟨rfl,rfl⟩)
  exact bodyPost_ret (v:= .tuple #[.agg #[.int .i64 0, .int .i64 0, .int .i64 0, .int .i64 0, .int .i64 0, .int .i64 0], .int .i64 1]) (by simp [results,Tryd.results19,go_sem]) rfl ⟨rfl,(by repeat (first|exact Below.refl _ _|assumption|refine Below.drew ?_|refine Below.alloc ?_ (by simp <;> omega) _|refine Below.setCell ?_ (by simp <;> omega) _))⟩
 ·have h5':a.c+b.c≤1073741824:=by omega
  clear h5
  cases h6:within (a.s+b.s) 1125899906842624
  ·rw [merge_many h1 h2 h3 h4 (.inr h6)]
   clear h1 h2 h3 h4
   go_enter Tryd.func19,Tryd.ntmps19
   go_wp2_with (first
    |(go_at_call 37;refine(within_any _ _ _ (by omega) (by omega)).mono ?_;rintro e w' ⟨rfl,rfl⟩)
    |(go_at_call 38;refine(check_any _ _).mono ?_;rintro e w1 ⟨rfl,rfl⟩))
   exact bodyPost_ret (v:= .tuple #[.agg #[.int .i64 0, .int .i64 0, .int .i64 0, .int .i64 0, .int .i64 0, .int .i64 0], .int .i64 1]) (by simp [results,Tryd.results19,go_sem]) rfl ⟨rfl,(by repeat (first|exact Below.refl _ _|assumption|refine Below.drew ?_|refine Below.alloc ?_ (by simp <;> omega) _|refine Below.setCell ?_ (by simp <;> omega) _))⟩
  ·rw [merge_join h1 h2 h3 h4 h5' h6]
   have hcase:a.t<b.t∨(a.t=b.t∧a.l<b.l)∨(a.t=b.t∧b.l≤a.l)∨b.t<a.t:=by omega
   rcases hcase with h7|⟨h7,h8⟩|⟨h7,h8⟩|h7
   ·rw [join_new h3 h4 (.inl h7)]
    clear h1 h2 h3 h4
    go_enter Tryd.func19,Tryd.ntmps19
    go_wp2_with (first
     |(go_at_call 37;refine(within_any _ _ _ (by omega) (by omega)).mono ?_;rintro e w' ⟨rfl,rfl⟩)
     |(go_at_call 38;refine(check_any _ _).mono ?_;rintro e w1 ⟨rfl,rfl⟩))
    go_region
    all_goals go_wp2
    all_goals exact bodyPost_ret (v:= .tuple #[.agg #[.int .i64 (a.c+b.c), .int .i64 (a.s+b.s), .int .i64 (min a.mi b.mi), .int .i64 (max a.ma b.ma), .int .i64 b.t, .int .i64 b.l], .int .i64 0]) (by simp [results,Tryd.results19,go_sem]) rfl ⟨rfl,(by repeat (first|exact Below.refl _ _|assumption|refine Below.drew ?_|refine Below.alloc ?_ (by simp <;> omega) _|refine Below.setCell ?_ (by simp <;> omega) _))⟩
   ·rw [join_new h3 h4 (.inr ⟨h7,h8⟩)]
    have h7':(b.t == a.t)=true:=by simp [h7]
    have h7'':¬a.t<b.t:=by omega
    clear h1 h2 h3 h4 h7
    go_enter Tryd.func19,Tryd.ntmps19
    go_wp2_with (first
     |(go_at_call 37;refine(within_any _ _ _ (by omega) (by omega)).mono ?_;rintro e w' ⟨rfl,rfl⟩)
     |(go_at_call 38;refine(check_any _ _).mono ?_;rintro e w1 ⟨rfl,rfl⟩))
    go_region
    all_goals go_wp2
    all_goals exact bodyPost_ret (v:= .tuple #[.agg #[.int .i64 (a.c+b.c), .int .i64 (a.s+b.s), .int .i64 (min a.mi b.mi), .int .i64 (max a.ma b.ma), .int .i64 b.t, .int .i64 b.l], .int .i64 0]) (by simp [results,Tryd.results19,go_sem]) rfl ⟨rfl,(by repeat (first|exact Below.refl _ _|assumption|refine Below.drew ?_|refine Below.alloc ?_ (by simp <;> omega) _|refine Below.setCell ?_ (by simp <;> omega) _))⟩
   ·rw [join_old h3 h4 (by unfold newer;omega)]
    have h7':(b.t == a.t)=true:=by simp [h7]
    have h7'':¬a.t<b.t:=by omega
    clear h1 h2 h3 h4 h7
    go_enter Tryd.func19,Tryd.ntmps19
    go_wp2_with (first
     |(go_at_call 37;refine(within_any _ _ _ (by omega) (by omega)).mono ?_;rintro e w' ⟨rfl,rfl⟩)
     |(go_at_call 38;refine(check_any _ _).mono ?_;rintro e w1 ⟨rfl,rfl⟩))
    exact bodyPost_ret (v:= .tuple #[.agg #[.int .i64 (a.c+b.c), .int .i64 (a.s+b.s), .int .i64 (min a.mi b.mi), .int .i64 (max a.ma b.ma), .int .i64 a.t, .int .i64 a.l], .int .i64 0]) (by simp [results,Tryd.results19,go_sem]) rfl ⟨rfl,(by repeat (first|exact Below.refl _ _|assumption|refine Below.drew ?_|refine Below.alloc ?_ (by simp <;> omega) _|refine Below.setCell ?_ (by simp <;> omega) _))⟩
   ·rw [join_old h3 h4 (by unfold newer;omega)]
    have h7':(b.t == a.t)=false:=by simp;omega
    clear h1 h2 h3 h4
    go_enter Tryd.func19,Tryd.ntmps19
    go_wp2_with (first
     |(go_at_call 37;refine(within_any _ _ _ (by omega) (by omega)).mono ?_;rintro e w' ⟨rfl,rfl⟩)
     |(go_at_call 38;refine(check_any _ _).mono ?_;rintro e w1 ⟨rfl,rfl⟩))
    exact bodyPost_ret (v:= .tuple #[.agg #[.int .i64 (a.c+b.c), .int .i64 (a.s+b.s), .int .i64 (min a.mi b.mi), .int .i64 (max a.ma b.ma), .int .i64 a.t, .int .i64 a.l], .int .i64 0]) (by simp [results,Tryd.results19,go_sem]) rfl ⟨rfl,(by repeat (first|exact Below.refl _ _|assumption|refine Below.drew ?_|refine Below.alloc ?_ (by simp <;> omega) _|refine Below.setCell ?_ (by simp <;> omega) _))⟩
theorem merge_any (a b:Roll) (w:World):Calls Tryd.prog 19 #[.agg #[.int .i64 a.c, .int .i64 a.s, .int .i64 a.mi, .int .i64 a.ma, .int .i64 a.t, .int .i64 a.l], .agg #[.int .i64 b.c, .int .i64 b.s, .int .i64 b.mi, .int .i64 b.ma, .int .i64 b.t, .int .i64 b.l]] w fun e w'=>e = .returned (.tuple #[(rollMerge a b).1.v, .int .i64 (rollMerge a b).2])∧Below w.heap.size w w':=by
 by_cases h:rollCheck a≠0∨rollCheck b≠0∨a.c=0∨b.c=0
 ·exact merge_early a b w h
 ·simp only [not_or,ne_eq,Decidable.not_not]at h
  exact merge_late a b w h.1 h.2.1 h.2.2.1 h.2.2.2
end Go.Proofs.YtnjfkcimboidnaaDoor

/- The walk of the reference's MergedOf. -/
namespace Go.Proofs.YtnjfkcimboidnaaDoor
open Go.RowKit
abbrev rc (r:Roll):Obj:= .cells #[.int .i64 r.c, .int .i64 r.s, .int .i64 r.mi, .int .i64 r.ma, .int .i64 r.t, .int .i64 r.l] 42
end Go.Proofs.YtnjfkcimboidnaaDoor

/- slices.Clone. -/
namespace Go.Proofs.YtnjfkcimboidnaaDoor
open Go.RowKit
set_option maxRecDepth 100000 in
set_option maxHeartbeats 1000000 in
theorem cloneEnt_any {v:Value} {xs:List Ent} {w:World} (h:SlAt 7 56 enEnt w v xs) :
  Calls Tryd.prog 72 #[v] w fun e w'=>∃v',e = .returned v'∧w'.ownsRow w.heap.size 96 7 v' xs.length (xs.flatMap enEnt)∧Below w.heap.size w w':=by
 obtain⟨ao,cap,rfl,h1,h2,h3,h4,h5⟩:=id h
 have hnil:∀w,(binOp .eql 94 (.slice ao xs.length cap) (.slice none 0 0)).run Tryd.prog w = .ok (.bool ao.isNone) w:=fun w=>Lib.run_eql_slice_nil w _ _ _ _ _ _ _ Tryd.underlying94
 cases ao with
 |none=>
  have h0:xs.length=0:=by have:=h4 rfl;omega
  obtain rfl:=List.eq_nil_of_length_eq_zero h0
  obtain rfl:cap=0:=h4 rfl
  clear h4 h5
  simp only [Option.isNone_none,List.length_nil]at hnil
  go_enter Tryd.func72,Tryd.ntmps72
  go_wp2_with fail
  go_ret
  exact⟨_,rfl,World.ownsRow_nil _ _ _ _,Below.refl _ _⟩
 |some ad=>
  obtain⟨_,g1,g2⟩:=h.news (enEnt_length)
  obtain⟨i0,z,hi,hz,hz1,hz2,hz3⟩:=info_some Tryd.iEnt
  simp only [Option.isNone_some]at hnil
  have hown0:(w.alloc (.cells #[] 96)).ownsRow w.heap.size 96 7 (.slice (some ⟨w.heap.size,0,none⟩) 0 0) 0 []:=World.ownsRow_made w #[] 0 (Nat.le_refl _) (by simp [maxLen]) (by simp)
  clear h4 h5
  go_enter Tryd.func72,Tryd.ntmps72
  go_wp2_with (at_builtin;refine wpList_append_own _ rfl _ _ 94 rfl w.heap.size 96 i0 z 7 56 Tryd.underlying94 hi hz hz1 hz2 hz3 (by decide) _ _ _ rfl hown0 ad xs.length cap (xs.flatMap enEnt) rfl g1 (fun j u hj=>cell_alloc (g2 j u hj)) (enEnt_one xs) (by unfold maxLen;omega) (by omega) (by simp) ?_;intro v' w3 hown' hgrow hv)
  go_ret
  exact⟨v',rfl,by simpa using hown',Below.grown ((Below.refl _ _).alloc (Nat.le_refl _) _) hgrow (by simp) (fun j hj=>(hown0.lt j hj).1)⟩
set_option maxRecDepth 100000 in
set_option maxHeartbeats 1000000 in
theorem cloneInt_any {v:Value} {xs:List Int} {w:World} (h:SlAt 1 8 enInt w v xs) :
  Calls Tryd.prog 88 #[v] w fun e w'=>∃v',e = .returned v'∧w'.ownsRow w.heap.size 3 1 v' xs.length (xs.flatMap enInt)∧Below w.heap.size w w':=by
 obtain⟨ao,cap,rfl,h1,h2,h3,h4,h5⟩:=id h
 have hnil:∀w,(binOp .eql 83 (.slice ao xs.length cap) (.slice none 0 0)).run Tryd.prog w = .ok (.bool ao.isNone) w:=fun w=>Lib.run_eql_slice_nil w _ _ _ _ _ _ _ Tryd.underlying83
 cases ao with
 |none=>
  have h0:xs.length=0:=by have:=h4 rfl;omega
  obtain rfl:=List.eq_nil_of_length_eq_zero h0
  obtain rfl:cap=0:=h4 rfl
  clear h4 h5
  simp only [Option.isNone_none,List.length_nil]at hnil
  go_enter Tryd.func88,Tryd.ntmps88
  go_wp2_with fail
  go_ret
  exact⟨_,rfl,World.ownsRow_nil _ _ _ _,Below.refl _ _⟩
 |some ad=>
  obtain⟨_,g1,g2⟩:=h.news (enInt_length)
  obtain⟨i0,z,hi,hz,hz1,hz2,hz3⟩:=info_some Tryd.iInt
  simp only [Option.isNone_some]at hnil
  have hown0:(w.alloc (.cells #[] 3)).ownsRow w.heap.size 3 1 (.slice (some ⟨w.heap.size,0,none⟩) 0 0) 0 []:=World.ownsRow_made w #[] 0 (Nat.le_refl _) (by simp [maxLen]) (by simp)
  clear h4 h5
  go_enter Tryd.func88,Tryd.ntmps88
  go_wp2_with (at_builtin;refine wpList_append_own _ rfl _ _ 83 rfl w.heap.size 3 i0 z 1 8 Tryd.underlying83 hi hz hz1 hz2 hz3 (by decide) _ _ _ rfl hown0 ad xs.length cap (xs.flatMap enInt) rfl g1 (fun j u hj=>cell_alloc (g2 j u hj)) (enInt_one xs) (by unfold maxLen;omega) (by omega) (by simp) ?_;intro v' w3 hown' hgrow hv)
  go_ret
  exact⟨v',rfl,by simpa using hown',Below.grown ((Below.refl _ _).alloc (Nat.le_refl _) _) hgrow (by simp) (fun j hj=>(hown0.lt j hj).1)⟩
end Go.Proofs.YtnjfkcimboidnaaDoor

/- Nodes and trees in memory. -/
namespace Go.Proofs.YtnjfkcimboidnaaDoor
open Go.RowKit
structure Raw where
 leaf:Bool
 ev:Value
 kv:Value
 dv:Value
 bv:Value
def enRaw (r:Raw):List Value:=[.bool r.leaf,r.ev,r.kv,r.dv,r.bv]
structure NodeAt (w:World) (r:Raw) (x:Nd):Prop where
 leaf:r.leaf=x.leaf
 ents:EntsAt w r.ev x.ents
 keys:IntsAt w r.kv x.keys
 kids:IntsAt w r.dv x.kids
 buf:EntsAt w r.bv x.buf
def RawsAt (w:World) (rs:List Raw) (xs:List Nd):Prop:=rs.length=xs.length∧∀(i:Nat) r x,rs[i]?=some r→xs[i]?=some x→NodeAt w r x
def NodesAt (w:World) (v:Value) (xs:List Nd):Prop:=∃rs,SlAt 5 104 enRaw w v rs∧RawsAt w rs xs
def TreeAt (w:World) (v:Value) (t:Tr):Prop:=∃nv,v = .agg #[nv, .int .i64 t.root]∧NodesAt w nv t.nodes
theorem NodeAt.below {w w':World} {r:Raw} {x:Nd} (h:NodeAt w r x) {B:Nat} (hb:Below B w w') (hB:w.heap.size≤B):NodeAt w' r x:=
 ⟨h.leaf,h.ents.below hb hB,h.keys.below hb hB,h.kids.below hb hB,h.buf.below hb hB⟩
theorem RawsAt.below {w w':World} {rs:List Raw} {xs:List Nd} (h:RawsAt w rs xs) {B:Nat} (hb:Below B w w') (hB:w.heap.size≤B):RawsAt w' rs xs:=
 ⟨h.1,fun i r x hr hx=>(h.2 i r x hr hx).below hb hB⟩
theorem NodesAt.below {w w':World} {v:Value} {xs:List Nd} (h:NodesAt w v xs) {B:Nat} (hb:Below B w w') (hB:w.heap.size≤B):NodesAt w' v xs:=
 let ⟨rs,h1,h2⟩:=h
 ⟨rs,h1.below hb hB,h2.below hb hB⟩
theorem TreeAt.below {w w':World} {v:Value} {t:Tr} (h:TreeAt w v t) {B:Nat} (hb:Below B w w') (hB:w.heap.size≤B):TreeAt w' v t:=
 let ⟨nv,h1,h2⟩:=h
 ⟨nv,h1,h2.below hb hB⟩
theorem SlAt.one {α:Type} {k sz:Nat} {en:α→List Value} {w:World} {v:Value} {xs:List α} (h:SlAt k sz en w v xs):v.oneCell'=true:=by
 obtain⟨ao,cap,rfl,_⟩:=h;rfl
theorem SlAt.isSlice {α:Type} {k sz:Nat} {en:α→List Value} {w:World} {v:Value} {xs:List α} (h:SlAt k sz en w v xs):∃ao cap,v = .slice ao xs.length cap:=by
 obtain⟨ao,cap,rfl,_⟩:=h;exact⟨_,_,rfl⟩
theorem enRaw_length (e:Raw):(enRaw e).length=5:=rfl
theorem NodeAt.one {w:World} {r:Raw} {x:Nd} (h:NodeAt w r x):∀u∈enRaw r,u.oneCell'=true:=by
 intro u hu
 simp [enRaw]at hu
 rcases hu with rfl|rfl|rfl|rfl|rfl
 ·rfl
 ·exact h.ents.one
 ·exact h.keys.one
 ·exact h.kids.one
 ·exact h.buf.one
theorem RawsAt.one {w:World} {rs:List Raw} {xs:List Nd} (h:RawsAt w rs xs):∀u∈rs.flatMap enRaw,u.oneCell'=true:=by
 intro u hu
 obtain⟨r,hr,hx⟩:=List.mem_flatMap.1 hu
 obtain⟨i,hi,rfl⟩:=List.getElem_of_mem hr
 have hix:i<xs.length:=by rw [←h.1];exact hi
 exact(h.2 i rs[i] xs[i] (by simp [hi]) (by simp [hix])).one u hx
theorem Tryd.iNode:(Tryd.prog.info? 133).map (fun i=>(i.zero.map (fun z=>z.cells.size),i.size,i.bytes))=some (some 5,5,104):=by kernel_rfl
set_option maxRecDepth 100000 in
set_option maxHeartbeats 1000000 in
theorem cloneRaw_any {v:Value} {xs:List Raw} {w:World} (h:SlAt 5 104 enRaw w v xs) (hone:∀u∈xs.flatMap enRaw,u.oneCell'=true) :
  Calls Tryd.prog 87 #[v] w fun e w'=>∃v',e = .returned v'∧w'.ownsRow w.heap.size 133 5 v' xs.length (xs.flatMap enRaw)∧Below w.heap.size w w':=by
 obtain⟨ao,cap,rfl,h1,h2,h3,h4,h5⟩:=id h
 have hnil:∀w,(binOp .eql 30 (.slice ao xs.length cap) (.slice none 0 0)).run Tryd.prog w = .ok (.bool ao.isNone) w:=fun w=>Lib.run_eql_slice_nil w _ _ _ _ _ _ _ Tryd.underlying30
 cases ao with
 |none=>
  have h0:xs.length=0:=by have:=h4 rfl;omega
  obtain rfl:=List.eq_nil_of_length_eq_zero h0
  obtain rfl:cap=0:=h4 rfl
  clear h4 h5
  simp only [Option.isNone_none,List.length_nil]at hnil
  go_enter Tryd.func87,Tryd.ntmps87
  go_wp2_with fail
  go_ret
  exact⟨_,rfl,World.ownsRow_nil _ _ _ _,Below.refl _ _⟩
 |some ad=>
  obtain⟨_,g1,g2⟩:=h.news (enRaw_length)
  obtain⟨i0,z,hi,hz,hz1,hz2,hz3⟩:=info_some Tryd.iNode
  simp only [Option.isNone_some]at hnil
  have hown0:(w.alloc (.cells #[] 133)).ownsRow w.heap.size 133 5 (.slice (some ⟨w.heap.size,0,none⟩) 0 0) 0 []:=World.ownsRow_made w #[] 0 (Nat.le_refl _) (by simp [maxLen]) (by simp)
  clear h4 h5
  go_enter Tryd.func87,Tryd.ntmps87
  go_wp2_with (at_builtin;refine wpList_append_own _ rfl _ _ 30 rfl w.heap.size 133 i0 z 5 104 Tryd.underlying30 hi hz hz1 hz2 hz3 (by decide) _ _ _ rfl hown0 ad xs.length cap (xs.flatMap enRaw) rfl g1 (fun j u hj=>cell_alloc (g2 j u hj)) hone (by unfold maxLen;omega) (by omega) (by simp) ?_;intro v' w3 hown' hgrow hv)
  go_ret
  exact⟨v',rfl,by simpa using hown',Below.grown ((Below.refl _ _).alloc (Nat.le_refl _) _) hgrow (by simp) (fun j hj=>(hown0.lt j hj).1)⟩
theorem Below.trans' {B:Nat} {w w1 w2:World} (h:Below B w w1) (h':Below w1.heap.size w1 w2) (hB:B≤w1.heap.size):Below B w w2:=
 ⟨h'.os.trans h.os,h'.tape.trans h.tape,h'.output.trans h.output,Nat.le_trans h.size h'.size,fun k hk=>(h'.block k (by omega)).trans (h.block k hk)⟩
theorem ownsRow_set5 {w:World} {B n g cap i:Nat} {e:TypeId} {rs:List Raw} {r:Raw} (h:w.ownsRow B e 5 (.slice (some ⟨g,0,none⟩) n cap) n (rs.flatMap enRaw)) (_hi:i<n) (hn:n=rs.length) :
  (((((w.setCell ⟨g,i*5,none⟩ (.bool r.leaf)).setCell ⟨g,i*5+1,none⟩ r.ev).setCell ⟨g,i*5+2,none⟩ r.kv).setCell ⟨g,i*5+3,none⟩ r.dv).setCell ⟨g,i*5+4,none⟩ r.bv).ownsRow B e 5 (.slice (some ⟨g,0,none⟩) n cap) n ((rs.set i r).flatMap enRaw):=by
 obtain⟨hl,⟨h0,_⟩|⟨g',cap',cur,e1,hb,hg,h1,h2,h3,h4⟩⟩:=h
 ·cases h0
 ·cases e1
  refine⟨by rw [flat_length enRaw_length,List.length_set,hn], .inr ⟨g,cap,_,rfl,hb,heap_setCell_same (heap_setCell_same (heap_setCell_same (heap_setCell_same (heap_setCell_same hg)))),h1,h2,by simp [h3],?_⟩⟩
  apply List.ext_getElem?
  intro j
  rw [List.getElem?_take]
  have hold:∀j:Nat,(cur.toList.take (n*5))[j]?=(rs.flatMap enRaw)[j]?:=fun j=>by rw [h4]
  by_cases hj:j<n*5
  ·rw [if_pos hj]
   have hin:j/5<(rs.set i r).length:=by rw [List.length_set,←hn];omega
   have hrt:j%5<5:=Nat.mod_lt _ (by omega)
   have hjj:j/5*5+j%5=j:=by omega
   have hget:∀ys:List Raw,(hy:j/5<ys.length)→(ys.flatMap enRaw)[j]?=(enRaw ys[j/5])[j%5]?:=fun ys hy=>by
    have hlt:j%5<(enRaw ys[j/5]).length:=by rw [enRaw_length];exact hrt
    have:=flat_at enRaw_length (xs:=ys) (i:=j/5) (r:=j%5) (x:=ys[j/5]) (u:=(enRaw ys[j/5])[j%5]) (by simp [hy]) (by simp [hlt])
    rw [hjj]at this
    rw [this];simp [hlt]
   rw [hget _ hin]
   have ho:=hold j
   rw [List.getElem?_take,if_pos hj,hget _ (by rw [←hn];omega)]at ho
   by_cases hij:j/5=i
   ·have e2:(rs.set i r)[j/5]=r:=by simp [hij]
    rw [e2]
    have hlen:j<cur.size:=by have:=Nat.mul_le_mul_right 5 h1;omega
    have:j%5=0∨j%5=1∨j%5=2∨j%5=3∨j%5=4:=by omega
    rcases this with h|h|h|h|h <;> rw [h]
    ·obtain rfl:j=i*5:=by omega
     simp [enRaw,hlen]
    ·obtain rfl:j=i*5+1:=by omega
     simp [enRaw,hlen]
    ·obtain rfl:j=i*5+2:=by omega
     simp [enRaw,hlen]
    ·obtain rfl:j=i*5+3:=by omega
     simp [enRaw,hlen]
    ·obtain rfl:j=i*5+4:=by omega
     simp [enRaw,hlen]
   ·have e2:(rs.set i r)[j/5]=rs[j/5]'(by rw [←hn];omega):=by rw [List.getElem_set_ne (by omega)]
    rw [e2,←ho]
    simp only [Array.toList_setIfInBounds,List.getElem?_set]
    have a0:i*5≠j:=by omega
    have a1:i*5+1≠j:=by omega
    have a2:i*5+2≠j:=by omega
    have a3:i*5+3≠j:=by omega
    have a4:i*5+4≠j:=by omega
    rw [if_neg a4,if_neg a3,if_neg a2,if_neg a1,if_neg a0]
  ·rw [if_neg hj]
   have:((rs.set i r).flatMap enRaw)[j]?=none:=by
    apply List.getElem?_eq_none
    rw [flat_length enRaw_length,List.length_set,←hn];omega
   rw [this]
end Go.Proofs.YtnjfkcimboidnaaDoor

/- Worlds between which only some blocks have changed. -/
namespace Go.Proofs.YtnjfkcimboidnaaDoor
open Go.RowKit
theorem heap_new (w:World) (o:Obj) {n:Nat} (h:n=w.heap.size):(w.alloc o).heap[n]?=some o:=by subst h;show (w.heap.push o)[w.heap.size]?=_;simp
structure Turn (X:Nat→Prop) (w w':World):Prop where
 os:w'.os=w.os
 tape:w'.tape=w.tape
 output:w'.output=w.output
 size:w.heap.size≤w'.heap.size
 block:∀b,b<w.heap.size→¬X b→w'.heap[b]?=w.heap[b]?
theorem Turn.refl (X:Nat→Prop) (w:World):Turn X w w:=⟨rfl,rfl,rfl,Nat.le_refl _,fun _ _ _=>rfl⟩
theorem Turn.trans {X:Nat→Prop} {a b c:World} (h:Turn X a b) (k:Turn X b c):Turn X a c:=
 ⟨k.os.trans h.os,k.tape.trans h.tape,k.output.trans h.output,Nat.le_trans h.size k.size,fun i hi hx=>(k.block i (Nat.lt_of_lt_of_le hi h.size) hx).trans (h.block i hi hx)⟩
theorem Turn.trans' {X Y:Nat→Prop} {a b c:World} (h:Turn X a b) (k:Turn Y b c) (hy:∀i,i<a.heap.size→Y i→X i):Turn X a c:=
 ⟨k.os.trans h.os,k.tape.trans h.tape,k.output.trans h.output,Nat.le_trans h.size k.size,fun i hi hx=>(k.block i (Nat.lt_of_lt_of_le hi h.size) (fun hh=>hx (hy i hi hh))).trans (h.block i hi hx)⟩
theorem Turn.mono {X Y:Nat→Prop} {a b:World} (h:Turn X a b) (hx:∀i,i<a.heap.size→X i→Y i):Turn Y a b:=⟨h.os,h.tape,h.output,h.size,fun i hi hy=>h.block i hi (fun hh=>hy (hx i hi hh))⟩
theorem Turn.of {X:Nat→Prop} {B:Nat} {a b:World} (h:Below B a b) (hB:a.heap.size≤B):Turn X a b:=⟨h.os,h.tape,h.output,h.size,fun i hi _=>h.block i (by omega)⟩
theorem Turn.alloc {X:Nat→Prop} {a w:World} (h:Turn X a w) (o:Obj):Turn X a (w.alloc o):=h.trans (Turn.of ((Below.refl _ w).alloc (Nat.le_refl _) o) (Nat.le_refl _))
theorem Turn.drew {X:Nat→Prop} {a w:World} (h:Turn X a w):Turn X a w.drew:=⟨h.os,h.tape,h.output,h.size,h.block⟩
theorem Turn.drewN {X:Nat→Prop} {a w:World} (h:Turn X a w) (n:Nat):Turn X a (w.drewN n):=⟨h.os,h.tape,h.output,h.size,h.block⟩
theorem Turn.setCell {X:Nat→Prop} {a w:World} (h:Turn X a w) {p:Addr} (hp:X p.block∨a.heap.size≤p.block) (u:Value):Turn X a (w.setCell p u):=
 ⟨h.os,h.tape,h.output,by rw [heap_setCell_size];exact h.size,fun i hi hx=>(Below.heap_setCell w p u i (fun e=>by subst e;rcases hp with hp|hp;exact hx hp;omega)).trans (h.block i hi hx)⟩
theorem Turn.below {X:Nat→Prop} {B:Nat} {a b c:World} (h:Turn X b c) (hb:Below B a b) (hB:B≤b.heap.size) (hx:∀i,X i→B≤i):Below B a c:=
 ⟨h.os.trans hb.os,h.tape.trans hb.tape,h.output.trans hb.output,Nat.le_trans hb.size h.size,fun k hk=>(h.block k (by omega) (fun hh=>by have:=hx k hh;omega)).trans (hb.block k hk)⟩
theorem Turn.cell {X:Nat→Prop} {a b:World} (h:Turn X a b) {B:Nat} (hB:B<a.heap.size) (hx:¬X B) (o:Nat):b.cell? ⟨B,o,none⟩=a.cell? ⟨B,o,none⟩:=World.cell?_of_block (h.block B hB hx)
theorem Turn.frozen {X:Nat→Prop} {a b:World} (h:Turn X a b) {B:Nat} (hB:B<a.heap.size) (hx:¬X B) (o:Nat):b.frozen? ⟨B,o,none⟩=a.frozen? ⟨B,o,none⟩:=World.frozen?_of_block (h.block B hB hx)
theorem Turn.keep {X:Nat→Prop} {a b:World} (h:Turn X a b) {B:Nat} (hB:B<a.heap.size) (hx:¬X B) :
  B<b.heap.size∧(∀o,b.cell? ⟨B,o,none⟩=a.cell? ⟨B,o,none⟩)∧(∀o,b.frozen? ⟨B,o,none⟩=a.frozen? ⟨B,o,none⟩):=
 ⟨Nat.lt_of_lt_of_le hB h.size,h.cell hB hx,h.frozen hB hx⟩
end Go.Proofs.YtnjfkcimboidnaaDoor
