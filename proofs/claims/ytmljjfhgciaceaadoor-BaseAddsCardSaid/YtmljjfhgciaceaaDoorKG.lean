/- Texts of mine that come as one: Mem OpenSl Kit Eq App Own Roll RollB Merge MergeRef Clone Nodes Turn. -/
import Derived.Test.YtmljjfhgciaceaaDoorHd
import Derived.Test.YtmljjfhgciaceaaDoorPA
import Derived.Deep.Slices
import Derived.Test.YtmljjfhgciaceaaDoorProg
import Derived.WalkKit
import Derived.WalkLawsBesides
import Derived.WalkSpells
import Derived.BigQuiet
import Derived.Deep.QuietTactic
import Derived.Deep.DeepCutAuto
import Derived.Lib.Hide
import Derived.Deep.LoopGhost
import Derived.Outline
import Derived.Laws.StructEq
import Derived.OwnWalk
import Derived.Lib.LazyBuf
namespace Go.Proofs.YtmljjfhgciaceaaDoor
open Go.ChangeShapes Go.WideShapes Go.ChangeAt Go.RowKit Go.Deep
section
variable {k sz:Nat} {α:Type} {u:Value}
def dK (k sz:Nat) (en:α->List Value) (w:World) (v:Value) (xs:List α):Prop:=
 ∃ao cap,v = .slice ao xs.length cap/\xs.length<=cap/\cap<=9223372036854775807/\xs.length*sz<=140737488351232/\(ao=none->cap=0) /\
  (0<xs.length->∃b off,ao=some ⟨b,off,none⟩/\b<w.heap.size/\∀i x,xs[i]?=some x->∀j u,(en x)[j]?=some u->w.cell? ⟨b,off+i*k+j,none⟩=some u)
theorem dK.below {en:α->List Value} {w w':World} {v:Value} {xs:List α} (h:dK k sz en w v xs) {B:Nat} (hb:Below B w w') (hB:w.heap.size<=B):dK k sz en w' v xs:=by
 obtain⟨ao,cap,rfl,h1,h2,h3,h4,h5⟩:=h
 refine⟨ao,cap,rfl,h1,h2,h3,h4,fun h=>?_⟩
 obtain⟨b,off,rfl,hlt,hc⟩:=h5 h
 exact⟨b,off,rfl,mQ hlt hb.size,fun i x hx j u hu=>(hb.cell (p:=⟨b,_,none⟩) (by show b<B;omega)).trans (hc i x hx j u hu)⟩
theorem dK.nil (k sz:Nat) (en:α->List Value) (w:World):dK k sz en w (.slice none 0 0) ([]:List α):=⟨none,0,rfl,bj,bj,bj,fun _=>rfl,bj⟩
section
variable {H:Type} {enc:TypeId×Value->H} {P:Program} {w:World} {base:Nat} {sp:Nat->Bool} {held:Bool}
theorem wZ {e:TypeId}:∀{ds:List (DataW H)} {d:DataW H},d∈ds->∀m∈d.weights P e,m∈DataW.weightsAll P e ds
 |d'::ds,d,hd,m,hm=>by
  simp only [DataW.weightsAll,kJ]
  rcases fk.1 hd with rfl|hd
  ·exact .inl hm
  ·exact .inr (wZ hd m hm)
theorem cells_lt {b:Nat} {o:Nat} (h:w.cell? ⟨b,o,none⟩=some u):b<w.heap.size:=by
 by_cases hb:b<w.heap.size
 ·exact hb
 ·simp [World.cell?,Array.getElem?_eq_none (Nat.le_of_not_lt hb)]at h
theorem NI {a:Addr} {i j:Nat} (h:w.cell? ((a.add i).add j)=some u):a.spot=none\/0<i\/0<j:=by
 by_cases hi:i=0
 ·by_cases hj:j=0
  ·subst hi;subst hj
   left
   obtain⟨b,o,s⟩:=a
   cases s with
   |none=>rfl
   |some s=>simp [Addr.add,World.cell?]at h;split at h <;> simp at h
  ·exact .inr (.inr af)
 ·exact .inr (.inl af)
theorem Gb {t e:TypeId} {fuel:Nat} {cs:List Value} {x:DataW H×List MemPlace} (en:α->List Value) (Q:α->Prop)
  (ht:P.underlying t=some (.slice e)) (hk:P.cellsOf e=k) (im:0<k) (hsz:P.bytesOf e=sz)
  (h:DataW.trod enc P w base sp held fuel t cs=some x) (hw:∀m∈x.1.weights P t,m<=reachBytes)
  (hel:∀(n:Nat) (cs':List Value) (y:DataW H×List MemPlace),DataW.trod enc P w base sp held n e cs'=some y->(∀m∈y.1.weights P e,m<=reachBytes)->∃a:α,cs'=en a/\Q a) :
  ∃(v:Value) (xs:List α),cs=[v]/\dK k sz en w v xs/\∀a∈xs,Q a:=by
 rcases open_slice ht h with ⟨rfl,_⟩|⟨a,len,cap,m,n,D,Pl,rfl,_,hl,hm,hmm,rfl,hx⟩
 ·exact⟨_,[],rfl,dK.nil _ _ _ _,bj⟩
 ·simp only [DataW.weights,ht]at hw
  have hlm:len<=m:=by rw [hmm];split <;> omega
  have WI:∀i,i<len->∃z:α,∃cs',w.cells? base (a.add (i*k)) k=some cs'/\cs'=en z/\Q z:=by
   intro i hi
   obtain⟨cs',h1,h2⟩:=hx i af
   rw [hk]at h1
   obtain⟨z,hz,hq⟩:=hel n cs' _ h2 (fun m' hm'=>hw m' (by
    simp only [fk,kJ]
    exact .inr (.inl (wZ (wN.2 ⟨i,List.mem_range.2 hi,rfl⟩) m' hm'))))
   exact⟨z,cs',h1,hz,hq⟩
  obtain⟨F,hF⟩:∃F:(i:Nat)->i<len->α,∀i (hi:i<len),∃cs',w.cells? base (a.add (i*k)) k=some cs'/\cs'=en (F i hi)/\Q (F i hi):=
   ⟨fun i hi=>Classical.choose (WI i hi),fun i hi=>Classical.choose_spec (WI i hi)⟩
  have hlen:(List.ofFn fun i:Fin len=>F i.1 i.2).length=len:=bj
  have hbytes:=hw _ (List.mem_cons_self ..)
  simp only [oJ,List.length_range,hsz]at hbytes
  refine⟨_,List.ofFn fun i:Fin len=>F i.1 i.2,rfl,⟨some a,cap,by rw [hlen],af,by unfold maxLen at hm;omega,?_,bj,?_⟩,?_⟩
  ·rw [hlen]
   have:len*sz<=(len+(m-len))*sz:=Nat.mul_le_mul_right _ af
   unfold reachBytes at hbytes
   omega
  ·rw [hlen]
   intro h0
   obtain⟨cs0,c0,e0,_⟩:=hF 0 h0
   obtain⟨_,l0,g0⟩:=World.cells?_some c0
   obtain⟨u0,hu0⟩:∃u,cs0[0]?=some u:=⟨cs0[0]'(by omega),by simp [show 0<cs0.length by omega]⟩
   have q0:=(g0 0 af).trans hu0
   have hspot:a.spot=none:=by
    have:=NI q0
    rcases this with h|h|h <;> first|exact h|omega
   obtain⟨b,off,s⟩:=a
   simp only at hspot
   subst hspot
   refine⟨b,off,rfl,?_,?_⟩
   ·simp only [Addr.add]at q0
    exact cells_lt (by simpa using q0)
   ·intro i x hxi j u hu
    obtain⟨hi,GI⟩:=gJ.1 hxi
    rw [hlen]at hi
    obtain⟨csi,ci,ei,_⟩:=hF i hi
    obtain⟨_,li,gi⟩:=World.cells?_some ci
    have PK:x=F i hi:=by rw [<-GI];simp
    rw [PK,<-ei]at hu
    have hj:j<k:=by
     have:=(gJ.1 hu).1
     omega
    have:=(gi j hj).trans hu
    rw [<-this]
    congr 1
    simp only [Addr.add]
    split <;> split <;> simp_all <;> omega
  ·intro z hz
   obtain⟨i,hi⟩:=List.mem_ofFn.1 hz
   obtain⟨_,_,_,hq⟩:=hF i.1 i.2
   rw [<-hi];exact hq
end
end
section
variable {cs:List Value}
def bX (n:Int):List Value:=[.int .i64 n]
def i64 (n:Int):Prop:=-9223372036854775808<=n/\n<=9223372036854775807
abbrev gy (w:World) (v:Value) (xs:List Int):Prop:=dK 1 8 bX w v xs
theorem pD {H:Type} {P:Program} {ts:List TypeId} {ds:List (DataW H)} (h:(DataW.weightsEach P ts ds).all (·<=reachBytes)=true) {j:Nat} {t:TypeId} {d:DataW H} (ht:ts[j]?=some t) (hd:ds[j]?=some d) :
  ∀m∈d.weights P t,m<=reachBytes:=by
 intro m hm
 have:=nK.1 h m (DataW.weights_mem_each ht hd m hm)
 simpa using this
theorem Tryd.aiU:Tryd.prog.bytesOf 3=8:=bT
section
variable {H:Type} {enc:TypeId×Value->H} {w:World} {base:Nat} {sp:Nat->Bool} {held:Bool}
theorem aiN {n:Nat} {y:DataW H×List MemPlace} (h:DataW.trod enc Tryd.prog w base sp held n 3 cs=some y):∃a:Int,cs=bX a/\i64 a:=by
 obtain⟨a,e,_,hw⟩:=DataW.trod_int Tryd.underlying3 h
 exact⟨a,e,Lg hw⟩
theorem afS {fuel:Nat} {x:DataW H×List MemPlace} (h:DataW.trod enc Tryd.prog w base sp held fuel 82 cs=some x) (hw:∀m∈x.1.weights Tryd.prog 82,m<=reachBytes) :
  ∃(v:Value) (xs:List Int),cs=[v]/\gy w v xs/\∀a∈xs,i64 a:=
 Gb bX i64 Tryd.underlying82 Tryd.E3 aW Tryd.aiU h hw fun _ _ _ h1 _=>aiN h1
end
end
end Go.Proofs.YtmljjfhgciaceaaDoor
namespace Go.Proofs.YtmljjfhgciaceaaDoor
open Go.RowKit
section
variable {B:Nat} {e:TypeId} {w:World}
abbrev aw.v (r:aw):Value:= .agg #[.int .i64 r.c, .int .i64 r.s, .int .i64 r.mi, .int .i64 r.ma, .int .i64 r.t, .int .i64 r.l]
theorem gZ {k:IntKind} {a b:Int} (h:a=b):Ending.returned (.int k a) = .returned (.int k b):=by rw [h]
theorem dP {a b:Bool} (h:a=b):Ending.returned (.bool a) = .returned (.bool b):=by rw [h]
theorem nj {W w2:World} (hb:ah W w2) (hB:B<W.heap.size) :
  B<w2.heap.size/\(∀o,w2.cell? ⟨B,o,none⟩=W.cell? ⟨B,o,none⟩)/\(∀o,w2.frozen? ⟨B,o,none⟩=W.frozen? ⟨B,o,none⟩):=
 ⟨mQ hB hb.size,fun o=>hb.cell (p:=⟨B,o,none⟩) hB,fun o=>hb.frozen (p:=⟨B,o,none⟩) hB⟩
theorem heap_setCell_same {off:Nat} {c:Array Value} {fr:Nat×Nat} {v:Value} (h:w.heap[B]?=some (.cells c e fr)) :
  (w.setCell ⟨B,off,none⟩ v).heap[B]?=some (.cells (c.setIfInBounds off v) e fr):=by
 simp [World.setCell,Array.getElem?_modify,h]
theorem aA (w:World) (a:Addr) (v:Value):(w.setCell a v).heap.size=w.heap.size:=by simp [World.setCell]
theorem jT {a0 a1 a2 a3 a4 a5 v0 v1 v2 v3 v4 v5:Value} {fr:Nat×Nat} (h:w.heap[B]?=some (.cells #[a0,a1,a2,a3,a4,a5] e fr)) :
  ((((((w.setCell ⟨B,0,none⟩ v0).setCell ⟨B,1,none⟩ v1).setCell ⟨B,2,none⟩ v2).setCell ⟨B,3,none⟩ v3).setCell ⟨B,4,none⟩ v4).setCell ⟨B,5,none⟩ v5).heap[B]?=some (.cells #[v0,v1,v2,v3,v4,v5] e fr):=by
 have h:=heap_setCell_same (off:=5) (v:=v5) (heap_setCell_same (off:=4) (v:=v4) (heap_setCell_same (off:=3) (v:=v3) (heap_setCell_same (off:=2) (v:=v2) (heap_setCell_same (off:=1) (v:=v1) (heap_setCell_same (off:=0) (v:=v0) h)))))
 simpa using h
@[go_sem high] theorem QM {P:Program} {w:World} (ts:Array TypeId) (t:TypeId) (k k':IntKind) (x y:Int):(Builtin.min_ ts t #[.int k x, .int k' y]).run P w = .ok (.int k (min x y)) w:=by
 rw [run_min_int2];congr 2;omega
@[go_sem high] theorem QN {P:Program} {w:World} (ts:Array TypeId) (t:TypeId) (k k':IntKind) (x y:Int):(Builtin.max_ ts t #[.int k x, .int k' y]).run P w = .ok (.int k (max x y)) w:=by
 rw [run_max_int2];congr 2;omega
end
section
set_option maxRecDepth 100000
theorem cJ {B:Nat} {a w:World} (h:Below B a w) (n:Nat):Below B a (w.drewN n):=⟨h.os,h.tape,h.output,h.size,h.block⟩
theorem ag {B:Nat} {w w':World} (h:Below B w w':=by repeat (first|with_reducible exact aI _ _|with_reducible assumption|with_reducible refine cJ ?_ _|with_reducible refine Below.drew ?_|with_reducible refine Below.alloc ?_ (by first|omega|(simp;done)|(simp;omega)|(simp [aJ];done)|(simp [aJ];omega)) _|with_reducible refine Below.setCell ?_ (by first|omega|(simp;done)|(simp;omega)|(simp [aJ];done)|(simp [aJ];omega)) _)):Below B w w':=h
def aZ (e:aC):List Value:=[.int .i64 e.key, .int .i64 e.is.c, .int .i64 e.is.s, .int .i64 e.is.mi, .int .i64 e.is.ma, .int .i64 e.is.t, .int .i64 e.is.l]
abbrev fu (w:World) (v:Value) (xs:List aC):Prop:=dK 7 56 aZ w v xs
theorem Tryd.VF:Tryd.prog.underlying 42=some (.struct (Tryd.prog.fieldsOf 42)):=bT
theorem Tryd.ZM:Tryd.prog.underlying 96=some (.struct (Tryd.prog.fieldsOf 96)):=bT
theorem Tryd.Xh:Tryd.prog.stoodInHeld 42=false:=bT
theorem Tryd.abI:Tryd.prog.stoodInHeld 96=false:=bT
theorem vP (d:Nat) (a b:aw) (w:World):(Op.equalIn (d+2) 42 (.agg #[.int .i64 a.c, .int .i64 a.s, .int .i64 a.mi, .int .i64 a.ma, .int .i64 a.t, .int .i64 a.l]) (.agg #[.int .i64 b.c, .int .i64 b.s, .int .i64 b.mi, .int .i64 b.ma, .int .i64 b.t, .int .i64 b.l])).run Tryd.prog w = .ok (decide (a=b)) w:=by
 have u3:=Tryd.underlying3
 rw [run_equalIn_struct w (d+1) 42 _ _ Tryd.VF Tryd.Xh]
 simp only [Program.fieldsOf,Tryd.underlying42]
 go_simp
 obtain⟨a0,a1,a2,a3,a4,a5⟩:=a
 obtain⟨b0,b1,b2,b3,b4,b5⟩:=b
 simp only [aw.mk.injEq]
 by_cases h0:a0=b0
 ·by_cases h1:a1=b1
  ·by_cases h2:a2=b2
   ·by_cases h3:a3=b3
    ·by_cases h4:a4=b4
     ·by_cases h5:a5=b5 <;> simp [h0,h1,h2,h3,h4,h5]
     ·simp [h0,h1,h2,h3,h4]
    ·simp [h0,h1,h2,h3]
   ·simp [h0,h1,h2]
  ·simp [h0,h1]
 ·simp [h0]
theorem xX (d:Nat) (e f:aC) (w:World):(Op.equalIn (d+3) 96 (.agg #[.int .i64 e.key, .int .i64 e.is.c, .int .i64 e.is.s, .int .i64 e.is.mi, .int .i64 e.is.ma, .int .i64 e.is.t, .int .i64 e.is.l]) (.agg #[.int .i64 f.key, .int .i64 f.is.c, .int .i64 f.is.s, .int .i64 f.is.mi, .int .i64 f.is.ma, .int .i64 f.is.t, .int .i64 f.is.l])).run Tryd.prog w = .ok (decide (e=f)) w:=by
 have u3:=Tryd.underlying3
 have hr:=fun w=>vP d e.is f.is w
 rw [run_equalIn_struct w (d+2) 96 _ _ Tryd.ZM Tryd.abI]
 simp only [Program.fieldsOf,Tryd.underlying96]
 go_simp
 obtain⟨e0,e1⟩:=e
 obtain⟨f0,f1⟩:=f
 simp only [aC.mk.injEq]
 by_cases h0:e0=f0
 ·by_cases h1:e1=f1 <;> simp [h0,h1]
 ·simp [h0]
theorem Dn (e f:aC) (w:World):(binOp .neq 96 (.agg #[.int .i64 e.key, .int .i64 e.is.c, .int .i64 e.is.s, .int .i64 e.is.mi, .int .i64 e.is.ma, .int .i64 e.is.t, .int .i64 e.is.l]) (.agg #[.int .i64 f.key, .int .i64 f.is.c, .int .i64 f.is.s, .int .i64 f.is.mi, .int .i64 f.is.ma, .int .i64 f.is.t, .int .i64 f.is.l])).run Tryd.prog w = .ok (.bool (!decide (e=f))) w:=by
 rw [run_neq_struct,xX 9997];rfl
end
section
variable {k sz n:Nat} {α:Type} {e:TypeId} {w:World}
theorem nX {α:Type} {en:α->List Value} {k:Nat} (he:∀x,(en x).length=k):∀xs:List α,(xs.flatMap en).length=xs.length*k
 |[]=>bj
 |x::xs=>by
  rw [gQ,dO,nX he xs,he,gp,Nat.add_mul,Nat.one_mul,Nat.add_comm]
theorem EI {α:Type} {en:α->List Value} {k:Nat} (he:∀x,(en x).length=k):∀{xs:List α} {j:Nat} {u:Value},(xs.flatMap en)[j]?=some u ->
  ∃i x,xs[i]?=some x/\i*k<=j/\j<i*k+k/\(en x)[j-i*k]?=some u
 |[],j,u,h=>by simp at h
 |x::xs,j,u,h=>by
  rw [gQ]at h
  by_cases hj:j<k
  ·rw [Ao (by rw [he];exact hj)]at h
   exact⟨0,x,rfl,af,af,by simpa using h⟩
  ·rw [List.getElem?_append_right (by rw [he];omega),he]at h
   obtain⟨i,y,h1,h2,h3,h4⟩:=EI he h
   have e1:(i+1)*k=i*k+k:=by rw [Nat.add_mul,Nat.one_mul]
   refine⟨i+1,y,by simpa using h1,af,af,?_⟩
   have e2:j-(i+1)*k=j-k-i*k:=af
   rw [e2];exact h4
theorem yF {α:Type} {en:α->List Value} {k:Nat} (he:∀x,(en x).length=k):∀{xs:List α} {i r:Nat} {x:α} {u:Value},xs[i]?=some x->(en x)[r]?=some u->(xs.flatMap en)[i*k+r]?=some u
 |[],i,r,x,u,h,_=>by simp at h
 |y::xs,0,r,x,u,h,hu=>by
  simp only [List.getElem?_cons_zero,iw]at h
  subst h
  have hr:=(gJ.1 hu).1
  rw [gQ,Nat.zero_mul,iW,Ao hr]
  exact hu
 |y::xs,i+1,r,x,u,h,hu=>by
  simp only [List.getElem?_cons_succ]at h
  have e1:(i+1)*k=i*k+k:=by rw [Nat.add_mul,Nat.one_mul]
  rw [gQ,List.getElem?_append_right (by rw [he];omega),he,show (i+1)*k+r-k=i*k+r from by omega]
  exact yF he h hu
theorem dK.news {en:α->List Value} {ad:Addr} {cap:Nat} {xs:List α} (he:∀x,(en x).length=k) (h:dK k sz en w (.slice (some ad) n cap) xs) :
  n=xs.length/\(xs.flatMap en).length=xs.length*k/\∀j u,(xs.flatMap en)[j]?=some u->w.cell? (ad.add j)=some u:=by
 obtain⟨ao,cap',e,h1,h2,h3,h4,h5⟩:=h
 injection e with e1 e2 e3
 subst e1 e2 e3
 refine⟨rfl,nX he xs,fun j u hj=>?_⟩
 obtain⟨i,x,hx,a1,a2,a3⟩:=EI he hj
 obtain⟨hi,_⟩:=gJ.1 hx
 obtain⟨b,off,e,hb,hc⟩:=h5 af
 injection e with e
 subst e
 rw [<-hc i x hx (j-i*k) u a3]
 congr 1
 simp only [Addr.add]
 split <;> simp <;> omega
theorem dK.owned {en:α->List Value} {B:Nat} {v:Value} {xs:List α} (he:∀x,(en x).length=k) (h:w.ownsRow B e k v n (xs.flatMap en)) (hn:n=xs.length)
  (hs:xs.length*sz<=140737488351232):dK k sz en w v xs:=by
 subst hn
 obtain⟨hl,⟨rfl,h0⟩|⟨g,cap,cur,rfl,hb,hg,h1,h2,h3,h4⟩⟩:=h
 ·obtain rfl:=wO h0
  exact dK.nil _ _ _ _
 ·refine⟨some ⟨g,0,none⟩,cap,rfl,h1,by unfold maxLen at h2;exact h2,hs,bj,fun _=>⟨g,0,rfl,?_,fun i x hx j u hu=>?_⟩⟩
  ·exact(eI.1 hg).1
  ·have hi:=(gJ.1 hx).1
   have hj:j<k:=by have:=(gJ.1 hu).1;rw [he]at this;exact this
   have hf:=yF he hx hu
   rw [<-h4,qg]at hf
   split at hf
   ·simp only [World.cell?,hg]
    simpa [iW] using hf
   ·cases hf
theorem nu {o:Obj} {a:Addr} {u:Value} (h:w.cell? a=some u):(w.alloc o).cell? a=some u:=
 (((aI w.heap.size w).alloc aH o).cell (p:=a) (World.block_lt_of_cell? w a h)).trans h
theorem cj {P:Program} {size bytes:Nat} (h:(P.info? e).map (fun i=>(i.zero.map (fun z=>z.cells.size),i.size,i.bytes))=some (some size,size,bytes)) :
  ∃i z,P.info? e=some i/\i.zero=some z/\i.size=size/\i.bytes=bytes/\z.cells.size=size:=by
 obtain⟨i,hi,hzz⟩:=Option.map_eq_some_iff.1 h
 simp only [jM]at hzz
 obtain⟨z,hz,hzs⟩:=Option.map_eq_some_iff.1 hzz.1
 exact⟨i,z,hi,hz,hzz.2.1,hzz.2.2,hzs⟩
theorem cX (e:aC):(aZ e).length=7:=rfl
theorem kG (e:Int):(bX e).length=1:=rfl
theorem jc (xs:List aC):∀u∈xs.flatMap aZ,u.oneCell'=true:=by
 intro u hu
 obtain⟨x,_,hx⟩:=List.mem_flatMap.1 hu
 simp [aZ]at hx
 rcases hx with rfl|rfl|rfl|rfl|rfl|rfl|rfl <;> rfl
theorem aay (xs:List Int):∀u∈xs.flatMap bX,u.oneCell'=true:=by
 intro u hu
 obtain⟨x,_,hx⟩:=List.mem_flatMap.1 hu
 simp [bX]at hx
 subst hx;rfl
theorem Tryd.GH:(Tryd.prog.info? 96).map (fun i=>(i.zero.map (fun z=>z.cells.size),i.size,i.bytes))=some (some 7,7,56):=bT
theorem Tryd.PF:(Tryd.prog.info? 3).map (fun i=>(i.zero.map (fun z=>z.cells.size),i.size,i.bytes))=some (some 1,1,8):=bT
end
section
variable {es:List aC} {B C:Nat} {w w':World}
@[simp,go_sem] theorem aJ (w:World):w.drew.heap.size=w.heap.size:=rfl
structure au (B:Nat) (w:World) (v:Value) (es:List aC):Prop where
 row:w.ownsRow B 96 7 v es.length (es.flatMap aZ)
theorem au.nil (B:Nat) (w:World):au B w (.slice none 0 0) []:=⟨World.ownsRow_nil _ _ _ _⟩
theorem au.alloc {v:Value} (h:au B w v es) (o:Obj):au B (w.alloc o) v es:=⟨World.ownsRow.alloc h.row o⟩
theorem au.block {v:Value} (h:au B w v es) (hb:∀g,v.ownBlock=some g->w'.heap[g]?=w.heap[g]?):au B w' v es:=by
 obtain⟨hl,⟨rfl,h0⟩|⟨g,cap,cur,rfl,hB,hg,h1,h2,h3,h4⟩⟩:=h.row
 ·exact⟨⟨hl, .inl ⟨rfl,h0⟩⟩⟩
 ·exact⟨⟨hl, .inr ⟨g,cap,cur,rfl,hB,(hb g rfl).trans hg,h1,h2,h3,h4⟩⟩⟩
theorem au.drew {v:Value} (h:au B w v es):au B w.drew v es:=h.block fun _ _=>rfl
theorem au.drewN {v:Value} (h:au B w v es) (n:Nat):au B (w.drewN n) v es:=h.block fun _ _=>rfl
theorem au.lt {v:Value} (h:au B w v es):∀g,v.ownBlock=some g->B<=g/\g<w.heap.size:=World.ownsRow.lt h.row
theorem au.below {v:Value} (h:au B w v es) (hb:Below C w w') (hC:w.heap.size<=C):au B w' v es:=h.block fun g hg=>hb.block g (by have:=(h.lt g hg).2;omega)
theorem au.mono {v:Value} (h:au B w v es) (hC:C<=B):au C w v es:=by
 obtain⟨hl,⟨rfl,h0⟩|⟨g,cap,cur,rfl,hB,hg,h1,h2,h3,h4⟩⟩:=h.row
 ·exact⟨⟨hl, .inl ⟨rfl,h0⟩⟩⟩
 ·exact⟨⟨hl, .inr ⟨g,cap,cur,rfl,af,hg,h1,h2,h3,h4⟩⟩⟩
theorem au.at {v:Value} (h:au B w v es) (hs:es.length<=1000000):fu w v es:=dK.owned cX h.row rfl af
theorem au.isSlice {v:Value} (h:au B w v es):∃ao cap,v = .slice ao es.length cap:=by
 obtain⟨hl,⟨rfl,h0⟩|⟨g,cap,cur,rfl,_⟩⟩:=h.row
 ·exact⟨none,0,by rw [h0]⟩
 ·exact⟨_,_,rfl⟩
theorem af4 {b:Nat} {o:Option Obj} (h:w.heap[b]?=o):w.drew.heap[b]?=o:=h
theorem afj {a0 a1 a2 a3 a4 a5 a6 v0 v1 v2 v3 v4 v5 v6:Value} {e:TypeId} {fr:Nat×Nat} (h:w.heap[B]?=some (.cells #[a0,a1,a2,a3,a4,a5,a6] e fr)) :
  (((((((w.setCell ⟨B,0,none⟩ v0).setCell ⟨B,1,none⟩ v1).setCell ⟨B,2,none⟩ v2).setCell ⟨B,3,none⟩ v3).setCell ⟨B,4,none⟩ v4).setCell ⟨B,5,none⟩ v5).setCell ⟨B,6,none⟩ v6).heap[B]?=some (.cells #[v0,v1,v2,v3,v4,v5,v6] e fr):=by
 have h:=heap_setCell_same (off:=6) (v:=v6) (heap_setCell_same (off:=5) (v:=v5) (heap_setCell_same (off:=4) (v:=v4) (heap_setCell_same (off:=3) (v:=v3) (heap_setCell_same (off:=2) (v:=v2) (heap_setCell_same (off:=1) (v:=v1) (heap_setCell_same (off:=0) (v:=v0) h))))))
 simpa using h
theorem mO {e:aC} {T:TypeId} {j:Nat} {u:Value} (h:(aZ e)[j]?=some u) :
  (w.alloc (.cells #[.int .i64 e.key, .int .i64 e.is.c, .int .i64 e.is.s, .int .i64 e.is.mi, .int .i64 e.is.ma, .int .i64 e.is.t, .int .i64 e.is.l] T)).cell? (Addr.add ⟨w.heap.size,0,none⟩ j)=some u:=by
 have hk:(w.alloc (.cells #[.int .i64 e.key, .int .i64 e.is.c, .int .i64 e.is.s, .int .i64 e.is.mi, .int .i64 e.is.ma, .int .i64 e.is.t, .int .i64 e.is.l] T)).heap[w.heap.size]?=some (.cells #[.int .i64 e.key, .int .i64 e.is.c, .int .i64 e.is.s, .int .i64 e.is.mi, .int .i64 e.is.ma, .int .i64 e.is.t, .int .i64 e.is.l] T):=by
  show (w.heap.push _)[w.heap.size]?=_;simp
 have ha:Addr.add ⟨w.heap.size,0,none⟩ j=⟨w.heap.size,j,none⟩:=by simp [Addr.add];omega
 rw [ha]
 simp only [World.cell?,hk]
 simpa [aZ] using h
theorem eW {ops:Array Oper} {rest:List Oper} {o:Oper} {a:Act} {Q:Exit->Act->World->Prop} (hgd:o.guard=none) (s x:Operand)
  (ho:o.op = .call { callee:= .builtin .append,args:=#[s,x],argTypes:=#[63,63] }) (B:Nat) (v:Value) (es:List aC) (hs:a.eval s=v) (hown:au B w v es)
  (ad:Addr) (e:aC) (hx:a.eval x = .slice (some ad) 1 1) (hnews:∀j u,(aZ e)[j]?=some u->w.cell? (ad.add j)=some u) (hlen:es.length<=1000000) (hbase:B<=w.heap.size)
  (h:∀v' w',au B w' v' (es++[e])->(∀C W,Below C W w->C<=B->Below C W w')->wpList Tryd.prog ops Q rest (a.put o.dst v') w'):wpList Tryd.prog ops Q (o::rest) a w:=by
 obtain⟨i0,z,hi,hz,hz1,hz2,hz3⟩:=cj Tryd.GH
 refine wpList_append_own w hgd s x 63 ho B 96 i0 z 7 56 Tryd.underlying63 hi hz hz1 hz2 hz3 aW v es.length _ hs hown.row ad 1 1 (aZ e) hx rfl hnews (jc [e] |> fun h u hu=>h u (by simpa using hu)) (by unfold maxLen;omega) af hbase ?_
 intro v' w' hown' hg _
 refine h v' w' ?_ fun C W hb hC=>Below.grown hb hg af (fun j hj=>by have:=(hown.lt j hj).1;omega)
 have:(es++[e]).flatMap aZ=es.flatMap aZ++aZ e:=bj
 refine⟨?_⟩
 rw [this,dO]
 exact hown'
end
section
set_option maxHeartbeats 1000000
theorem iJ (n m:Int) (w:World) (h0:0<=m) (h1:m<=1125899906842624):Calls Tryd.prog 36 #[.int .i64 n, .int .i64 m] w fun e w'=>e = .returned (.bool (within n m))/\w=w':=by
 by_cases h : -m<=n
 ·go_enter Tryd.func36,Tryd.ntmps36
  go_wp2
  go_ret
  simp [within,h]
 ·go_enter Tryd.func36,Tryd.ntmps36
  go_wp2
  go_ret
  simp [within];omega
theorem ac2 (n l h:Int) (w:World):Calls Tryd.prog 76 #[.int .i64 n, .int .i64 l, .int .i64 h] w fun e w'=>e = .returned (.bool (av n l h))/\w=w':=by
 by_cases h':l<=n
 ·go_enter Tryd.func76,Tryd.ntmps76
  go_wp2
  go_ret
  simp [av,h']
 ·go_enter Tryd.func76,Tryd.ntmps76
  go_wp2
  go_ret
  simp [av];omega
theorem gP (r:aw) (w:World):Calls Tryd.prog 37 #[.agg #[.int .i64 r.c, .int .i64 r.s, .int .i64 r.mi, .int .i64 r.ma, .int .i64 r.t, .int .i64 r.l]] w fun e w'=>e = .returned (.int .i64 (aq r))/\w.alloc (.cells #[.int .i64 r.c, .int .i64 r.s, .int .i64 r.mi, .int .i64 r.ma, .int .i64 r.t, .int .i64 r.l] 42)=w':=by
 obtain⟨c,s,mi,ma,t,l⟩:=r
 simp only
 go_enter Tryd.func37,Tryd.ntmps37
 go_wp2_with (go_at_call 36;refine(iJ _ _ _ af af).mono ?_;rintro e w' ⟨rfl,rfl⟩)
 all_goals (go_ret;refine⟨gZ ?_,by first|rfl|simp [*]⟩)
 all_goals (try simp only [wY]at *)
 all_goals first
  |exact(rc2 (by simp only [aw.ranged];omega)).symm
  |exact(ZR (by simp only [aw.zero,aw.mk.injEq];omega)).symm
  |exact(ZP (by simp only [aw.ranged];omega) (by simp only;omega) (by simp only [aw.zero,ne_eq,aw.mk.injEq];omega)).symm
  |skip
 all_goals
  have m1:=r8 (c:=c) (m:=mi) af af af af
  have m2:=r8 (c:=c) (m:=ma) af af af af
  have e1:=IntWalk.wrap64_in (c*mi) ⟨af,af⟩
  have e2:=IntWalk.wrap64_in (c*ma) ⟨af,af⟩
  simp only [e1,e2]at *
  first
  |exact(ZT (by simp only [aw.ranged];omega) (by simp only;omega) (by simp only [aw.formed];omega)).symm
  |exact(rc4 (by simp only [aw.ranged];omega) (by simp only;omega) (by simp only [aw.formed];omega)).symm
theorem adZ (r:aw) (w:World):Calls Tryd.prog 99 #[.agg #[.int .i64 r.c, .int .i64 r.s, .int .i64 r.mi, .int .i64 r.ma, .int .i64 r.t, .int .i64 r.l]] w fun e w'=>e = .returned (.int .i64 (aq r))/\w.alloc (.cells #[.int .i64 r.c, .int .i64 r.s, .int .i64 r.mi, .int .i64 r.ma, .int .i64 r.t, .int .i64 r.l] 42)=w':=by
 obtain⟨c,s,mi,ma,t,l⟩:=r
 simp only
 go_enter Tryd.func99,Tryd.ntmps99
 go_wp2_with (go_at_call 76;refine(ac2 _ _ _ _).mono ?_;rintro e w' ⟨rfl,rfl⟩)
 all_goals (go_ret;refine⟨gZ ?_,by first|rfl|simp [*]⟩)
 all_goals (try simp only [Bool.not_eq_true',Bool.not_eq_false',beq_iff_eq,beq_eq_false_iff_ne,bne_iff_ne,bne_eq_false_iff_eq,ne_eq,acY,adV]at *)
 all_goals first
  |exact(rc2 (by simp only [aw.ranged];omega)).symm
  |exact(ZR (by simp only [aw.zero,aw.mk.injEq];omega)).symm
  |exact(ZP (by simp only [aw.ranged];omega) (by simp only;omega) (by simp only [aw.zero,ne_eq,aw.mk.injEq];omega)).symm
  |skip
 all_goals
  have m1:=r8 (c:=c) (m:=mi) af af af af
  have m2:=r8 (c:=c) (m:=ma) af af af af
  have e1:=IntWalk.wrap64_in (c*mi) ⟨af,af⟩
  have e2:=IntWalk.wrap64_in (c*ma) ⟨af,af⟩
  simp only [e1,e2]at *
  first
  |exact(ZT (by simp only [aw.ranged];omega) (by simp only;omega) (by simp only [aw.formed];omega)).symm
  |exact(rc4 (by simp only [aw.ranged];omega) (by simp only;omega) (by simp only [aw.formed];omega)).symm
end
theorem Gf (t v:Int) (w:World):Calls Tryd.prog 17 #[.int .i64 t, .int .i64 v] w fun e w'=>e = .returned (.tuple #[(fF t v).1.v, .int .i64 (fF t v).2])/\ah w w':=by
 by_cases h:0<=t/\t<=1048575/\-1000000<=v/\v<=1000000
 ·have hr:fF t v=(⟨1,v,v,v,t,v⟩,0):=by simp [fF,h]
  obtain⟨h1,h2,h3⟩:=h
  rw [hr]
  have hw:within v 1000000=true:=wY.2 h3
  clear hr
  go_enter Tryd.func17,Tryd.ntmps17
  go_wp2_with (go_at_call 36;refine(iJ _ _ _ af af).mono ?_;rintro e w' ⟨rfl,rfl⟩)
  exact bodyPost_ret (v:= .tuple #[.agg #[.int .i64 1, .int .i64 v, .int .i64 v, .int .i64 v, .int .i64 t, .int .i64 v], .int .i64 0]) (by simp [results,Tryd.results17,go_sem]) rfl ⟨rfl,(by repeat (first|exact aI _ _|assumption|refine Below.drew ?_|refine Below.alloc ?_ (by simp <;> omega) _|refine Below.setCell ?_ (by simp <;> omega) _))⟩
 ·have hr:fF t v=(aw.zero,2):=by simp [fF,h]
  rw [hr]
  have hw:(0<=t/\t<=1048575)->within v 1000000=false:=fun hh=>Cf.2 af
  clear hr
  go_enter Tryd.func17,Tryd.ntmps17
  go_wp2_with (go_at_call 36;refine(iJ _ _ _ af af).mono ?_;rintro e w' ⟨rfl,rfl⟩;have hw1:=hw ⟨af,af⟩)
  all_goals exact bodyPost_ret (v:= .tuple #[.agg #[.int .i64 0, .int .i64 0, .int .i64 0, .int .i64 0, .int .i64 0, .int .i64 0], .int .i64 2]) (by simp [results,Tryd.results17,go_sem]) rfl ⟨rfl,(by repeat (first|exact aI _ _|assumption|refine Below.drew ?_|refine Below.alloc ?_ (by simp <;> omega) _|refine Below.setCell ?_ (by simp <;> omega) _))⟩
section
set_option maxHeartbeats 1000000
variable {a b:aw}
theorem Gt (h:aq a≠0):bH a b=(aw.zero,aq a):=by simp [bH,h]
theorem Gs (h:aq a=0) (h2:aq b≠0):bH a b=(aw.zero,aq b):=by simp [bH,h,h2]
theorem tL (h:aq a=0):a.ranged:=by
 unfold aq at h
 split at h
 ·assumption
 ·cases h
theorem uU (h:aq a=0) (hc:a.c=0):a=aw.zero:=by
 have hr:=tL h
 unfold aq at h
 rw [ar hr,ar hc]at h
 by_cases hz:a=aw.zero
 ·exact hz
 ·rw [ai hz]at h;cases h
theorem Mh (h:aq a=0) (h2:aq b=0) (h3:a.c=0):bH a b=(b,0):=by
 by_cases h4:b.c=0
 ·rw [uU h h3,uU h2 h4];decide
 ·simp [bH,h,h2,h3,aw.join,h4]
theorem Mg (h:aq a=0) (h2:aq b=0) (h3:b.c=0):bH a b=(a,0):=by
 simp [bH,h,h2,h3,aw.join]
theorem zq (h:aq a=0) (h2:aq b=0) (h3:a.c≠0) (h4:b.c≠0) (h5:a.c+b.c>1073741824\/within (a.s+b.s) 1125899906842624=false):bH a b=(aw.zero,1):=by
 simp [bH,h,h2,h3,h4,h5]
theorem merge_join (h:aq a=0) (h2:aq b=0) (h3:a.c≠0) (h4:b.c≠0) (h5:a.c+b.c<=1073741824) (h6:within (a.s+b.s) 1125899906842624=true):bH a b=(a.join b,0):=by
 have:¬(a.c+b.c>1073741824\/within (a.s+b.s) 1125899906842624=false):=by simp [h6];omega
 simp [bH,h,h2,h3,h4,this]
def newer (a b:aw):Prop:=a.t<b.t\/(a.t=b.t/\a.l<b.l)
theorem D6 (h3:a.c≠0) (h4:b.c≠0) (h:newer a b):a.join b=⟨a.c+b.c,a.s+b.s,min a.mi b.mi,max a.ma b.ma,b.t,b.l⟩:=by
 unfold newer at h
 simp only [aw.join,h3,h4,if_false,h,if_true]
theorem D5 (h3:a.c≠0) (h4:b.c≠0) (h:¬newer a b):a.join b=⟨a.c+b.c,a.s+b.s,min a.mi b.mi,max a.ma b.ma,a.t,a.l⟩:=by
 unfold newer at h
 simp only [aw.join,h3,h4,if_false,h]
theorem DM (a b:aw) (w:World) (h:aq a≠0\/aq b≠0\/a.c=0\/b.c=0):Calls Tryd.prog 18 #[.agg #[.int .i64 a.c, .int .i64 a.s, .int .i64 a.mi, .int .i64 a.ma, .int .i64 a.t, .int .i64 a.l], .agg #[.int .i64 b.c, .int .i64 b.s, .int .i64 b.mi, .int .i64 b.ma, .int .i64 b.t, .int .i64 b.l]] w fun e w'=>e = .returned (.tuple #[(bH a b).1.v, .int .i64 (bH a b).2])/\ah w w':=by
 by_cases h1:aq a=0
 ·by_cases h2:aq b=0
  ·by_cases h3:a.c=0
   ·rw [Mh h1 h2 h3]
    have h1':(aq a != 0)=false:=by simp [h1]
    have h2':(aq b != 0)=false:=by simp [h2]
    have h3':(a.c == 0)=true:=by simp [h3]
    clear h h1 h2 h3
    go_enter Tryd.func18,Tryd.ntmps18
    go_wp2_with (go_at_call 37;refine(gP _ _).mono ?_;rintro e w1 ⟨rfl,rfl⟩)
    exact bodyPost_ret (v:= .tuple #[.agg #[.int .i64 b.c, .int .i64 b.s, .int .i64 b.mi, .int .i64 b.ma, .int .i64 b.t, .int .i64 b.l], .int .i64 0]) (by simp [results,Tryd.results18,go_sem]) rfl ⟨rfl,(by repeat (first|exact aI _ _|assumption|refine Below.drew ?_|refine Below.alloc ?_ (by simp <;> omega) _|refine Below.setCell ?_ (by simp <;> omega) _))⟩
   ·have h4:b.c=0:=af
    rw [Mg h1 h2 h4]
    have h1':(aq a != 0)=false:=by simp [h1]
    have h2':(aq b != 0)=false:=by simp [h2]
    have h3':(a.c == 0)=false:=by simp [h3]
    have h4':(b.c == 0)=true:=by simp [h4]
    clear h h1 h2 h3 h4
    go_enter Tryd.func18,Tryd.ntmps18
    go_wp2_with (go_at_call 37;refine(gP _ _).mono ?_;rintro e w1 ⟨rfl,rfl⟩)
    exact bodyPost_ret (v:= .tuple #[.agg #[.int .i64 a.c, .int .i64 a.s, .int .i64 a.mi, .int .i64 a.ma, .int .i64 a.t, .int .i64 a.l], .int .i64 0]) (by simp [results,Tryd.results18,go_sem]) rfl ⟨rfl,(by repeat (first|exact aI _ _|assumption|refine Below.drew ?_|refine Below.alloc ?_ (by simp <;> omega) _|refine Below.setCell ?_ (by simp <;> omega) _))⟩
  ·rw [Gs h1 h2]
   have h1':(aq a != 0)=false:=by simp [h1]
   have h2':(aq b != 0)=true:=by simp [h2]
   clear h h1 h2
   go_enter Tryd.func18,Tryd.ntmps18
   go_wp2_with (go_at_call 37;refine(gP _ _).mono ?_;rintro e w1 ⟨rfl,rfl⟩)
   exact bodyPost_ret (v:= .tuple #[.agg #[.int .i64 0, .int .i64 0, .int .i64 0, .int .i64 0, .int .i64 0, .int .i64 0], .int .i64 (aq b)]) (by simp [results,Tryd.results18,go_sem]) rfl ⟨rfl,(by repeat (first|exact aI _ _|assumption|refine Below.drew ?_|refine Below.alloc ?_ (by simp <;> omega) _|refine Below.setCell ?_ (by simp <;> omega) _))⟩
 ·rw [Gt h1]
  have h1':(aq a != 0)=true:=by simp [h1]
  clear h h1
  go_enter Tryd.func18,Tryd.ntmps18
  go_wp2_with (go_at_call 37;refine(gP _ _).mono ?_;rintro e w1 ⟨rfl,rfl⟩)
  exact bodyPost_ret (v:= .tuple #[.agg #[.int .i64 0, .int .i64 0, .int .i64 0, .int .i64 0, .int .i64 0, .int .i64 0], .int .i64 (aq a)]) (by simp [results,Tryd.results18,go_sem]) rfl ⟨rfl,(by repeat (first|exact aI _ _|assumption|refine Below.drew ?_|refine Below.alloc ?_ (by simp <;> omega) _|refine Below.setCell ?_ (by simp <;> omega) _))⟩
theorem Gq (a b:aw) (w:World) (h1:aq a=0) (h2:aq b=0) (h3:a.c≠0) (h4:b.c≠0):Calls Tryd.prog 18 #[.agg #[.int .i64 a.c, .int .i64 a.s, .int .i64 a.mi, .int .i64 a.ma, .int .i64 a.t, .int .i64 a.l], .agg #[.int .i64 b.c, .int .i64 b.s, .int .i64 b.mi, .int .i64 b.ma, .int .i64 b.t, .int .i64 b.l]] w fun e w'=>e = .returned (.tuple #[(bH a b).1.v, .int .i64 (bH a b).2])/\ah w w':=by
 have ra:=tL h1
 have rb:=tL h2
 unfold aw.ranged at ra rb
 obtain⟨ra1,ra2,ra3,ra4,-⟩:=ra
 obtain⟨YF,rb2,rb3,rb4,-⟩:=rb
 have h1':(aq a != 0)=false:=by simp [h1]
 have h2':(aq b != 0)=false:=by simp [h2]
 have h3':(a.c == 0)=false:=by simp [h3]
 have h4':(b.c == 0)=false:=by simp [h4]
 by_cases h5:a.c+b.c>1073741824
 ·rw [zq h1 h2 h3 h4 (.inl h5)]
  clear h1 h2 h3 h4
  go_enter Tryd.func18,Tryd.ntmps18
  go_wp2_with (go_at_call 37;refine(gP _ _).mono ?_;rintro e w1 ⟨rfl,rfl⟩)
  exact bodyPost_ret (v:= .tuple #[.agg #[.int .i64 0, .int .i64 0, .int .i64 0, .int .i64 0, .int .i64 0, .int .i64 0], .int .i64 1]) (by simp [results,Tryd.results18,go_sem]) rfl ⟨rfl,(by repeat (first|exact aI _ _|assumption|refine Below.drew ?_|refine Below.alloc ?_ (by simp <;> omega) _|refine Below.setCell ?_ (by simp <;> omega) _))⟩
 ·have Y8:a.c+b.c<=1073741824:=af
  clear h5
  cases h6:within (a.s+b.s) 1125899906842624
  ·rw [zq h1 h2 h3 h4 (.inr h6)]
   clear h1 h2 h3 h4
   go_enter Tryd.func18,Tryd.ntmps18
   go_wp2_with (first
    |(go_at_call 36;refine(iJ _ _ _ af af).mono ?_;rintro e w' ⟨rfl,rfl⟩)
    |(go_at_call 37;refine(gP _ _).mono ?_;rintro e w1 ⟨rfl,rfl⟩))
   exact bodyPost_ret (v:= .tuple #[.agg #[.int .i64 0, .int .i64 0, .int .i64 0, .int .i64 0, .int .i64 0, .int .i64 0], .int .i64 1]) (by simp [results,Tryd.results18,go_sem]) rfl ⟨rfl,(by repeat (first|exact aI _ _|assumption|refine Below.drew ?_|refine Below.alloc ?_ (by simp <;> omega) _|refine Below.setCell ?_ (by simp <;> omega) _))⟩
  ·rw [merge_join h1 h2 h3 h4 Y8 h6]
   have WO:a.t<b.t\/(a.t=b.t/\a.l<b.l)\/(a.t=b.t/\b.l<=a.l)\/b.t<a.t:=af
   rcases WO with h7|⟨h7,h8⟩|⟨h7,h8⟩|h7
   ·rw [D6 h3 h4 (.inl h7)]
    clear h1 h2 h3 h4
    go_enter Tryd.func18,Tryd.ntmps18
    go_wp2_with (first
     |(go_at_call 36;refine(iJ _ _ _ af af).mono ?_;rintro e w' ⟨rfl,rfl⟩)
     |(go_at_call 37;refine(gP _ _).mono ?_;rintro e w1 ⟨rfl,rfl⟩))
    go_region
    all_goals go_wp2
    all_goals exact bodyPost_ret (v:= .tuple #[.agg #[.int .i64 (a.c+b.c), .int .i64 (a.s+b.s), .int .i64 (min a.mi b.mi), .int .i64 (max a.ma b.ma), .int .i64 b.t, .int .i64 b.l], .int .i64 0]) (by simp [results,Tryd.results18,go_sem]) rfl ⟨rfl,(by repeat (first|exact aI _ _|assumption|refine Below.drew ?_|refine Below.alloc ?_ (by simp <;> omega) _|refine Below.setCell ?_ (by simp <;> omega) _))⟩
   ·rw [D6 h3 h4 (.inr ⟨h7,h8⟩)]
    have h7':(b.t == a.t)=true:=by simp [h7]
    have abO:¬a.t<b.t:=af
    clear h1 h2 h3 h4 h7
    go_enter Tryd.func18,Tryd.ntmps18
    go_wp2_with (first
     |(go_at_call 36;refine(iJ _ _ _ af af).mono ?_;rintro e w' ⟨rfl,rfl⟩)
     |(go_at_call 37;refine(gP _ _).mono ?_;rintro e w1 ⟨rfl,rfl⟩))
    go_region
    all_goals go_wp2
    all_goals exact bodyPost_ret (v:= .tuple #[.agg #[.int .i64 (a.c+b.c), .int .i64 (a.s+b.s), .int .i64 (min a.mi b.mi), .int .i64 (max a.ma b.ma), .int .i64 b.t, .int .i64 b.l], .int .i64 0]) (by simp [results,Tryd.results18,go_sem]) rfl ⟨rfl,(by repeat (first|exact aI _ _|assumption|refine Below.drew ?_|refine Below.alloc ?_ (by simp <;> omega) _|refine Below.setCell ?_ (by simp <;> omega) _))⟩
   ·rw [D5 h3 h4 (by unfold newer;omega)]
    have h7':(b.t == a.t)=true:=by simp [h7]
    have abO:¬a.t<b.t:=af
    clear h1 h2 h3 h4 h7
    go_enter Tryd.func18,Tryd.ntmps18
    go_wp2_with (first
     |(go_at_call 36;refine(iJ _ _ _ af af).mono ?_;rintro e w' ⟨rfl,rfl⟩)
     |(go_at_call 37;refine(gP _ _).mono ?_;rintro e w1 ⟨rfl,rfl⟩))
    exact bodyPost_ret (v:= .tuple #[.agg #[.int .i64 (a.c+b.c), .int .i64 (a.s+b.s), .int .i64 (min a.mi b.mi), .int .i64 (max a.ma b.ma), .int .i64 a.t, .int .i64 a.l], .int .i64 0]) (by simp [results,Tryd.results18,go_sem]) rfl ⟨rfl,(by repeat (first|exact aI _ _|assumption|refine Below.drew ?_|refine Below.alloc ?_ (by simp <;> omega) _|refine Below.setCell ?_ (by simp <;> omega) _))⟩
   ·rw [D5 h3 h4 (by unfold newer;omega)]
    have h7':(b.t == a.t)=false:=by simp;omega
    clear h1 h2 h3 h4
    go_enter Tryd.func18,Tryd.ntmps18
    go_wp2_with (first
     |(go_at_call 36;refine(iJ _ _ _ af af).mono ?_;rintro e w' ⟨rfl,rfl⟩)
     |(go_at_call 37;refine(gP _ _).mono ?_;rintro e w1 ⟨rfl,rfl⟩))
    exact bodyPost_ret (v:= .tuple #[.agg #[.int .i64 (a.c+b.c), .int .i64 (a.s+b.s), .int .i64 (min a.mi b.mi), .int .i64 (max a.ma b.ma), .int .i64 a.t, .int .i64 a.l], .int .i64 0]) (by simp [results,Tryd.results18,go_sem]) rfl ⟨rfl,(by repeat (first|exact aI _ _|assumption|refine Below.drew ?_|refine Below.alloc ?_ (by simp <;> omega) _|refine Below.setCell ?_ (by simp <;> omega) _))⟩
theorem jQ (a b:aw) (w:World):Calls Tryd.prog 18 #[.agg #[.int .i64 a.c, .int .i64 a.s, .int .i64 a.mi, .int .i64 a.ma, .int .i64 a.t, .int .i64 a.l], .agg #[.int .i64 b.c, .int .i64 b.s, .int .i64 b.mi, .int .i64 b.ma, .int .i64 b.t, .int .i64 b.l]] w fun e w'=>e = .returned (.tuple #[(bH a b).1.v, .int .i64 (bH a b).2])/\ah w w':=by
 by_cases h:aq a≠0\/aq b≠0\/a.c=0\/b.c=0
 ·exact DM a b w h
 ·simp only [not_or,ne_eq,Decidable.not_not]at h
  exact Gq a b w h.1 h.2.1 h.2.2.1 h.2.2.2
end
section
set_option maxRecDepth 100000
set_option maxHeartbeats 1000000
abbrev rc (r:aw):Obj:= .cells #[.int .i64 r.c, .int .i64 r.s, .int .i64 r.mi, .int .i64 r.ma, .int .i64 r.t, .int .i64 r.l] 42
theorem af1 (a b:aw) (w:World) (h:aq a≠0\/aq b≠0\/a.c=0\/b.c=0):Calls Tryd.prog 78 #[.agg #[.int .i64 a.c, .int .i64 a.s, .int .i64 a.mi, .int .i64 a.ma, .int .i64 a.t, .int .i64 a.l], .agg #[.int .i64 b.c, .int .i64 b.s, .int .i64 b.mi, .int .i64 b.ma, .int .i64 b.t, .int .i64 b.l]] w fun e w'=>e = .returned (.tuple #[(bH a b).1.v, .int .i64 (bH a b).2])/\ah w w':=by
 by_cases h1:aq a=0
 ·by_cases h2:aq b=0
  ·by_cases h3:b.c=0
   ·rw [Mg h1 h2 h3]
    have h1':(aq a == 0)=true:=by simp [h1]
    have h2':(aq b != 0)=false:=by simp [h2]
    have h3':(b.c == 0)=true:=by simp [h3]
    clear h h1 h2 h3
    go_enter Tryd.func78,Tryd.ntmps78
    go_wp2_with (go_at_call 99;refine(adZ _ _).mono ?_;rintro e w1 ⟨rfl,rfl⟩)
    exact bodyPost_ret (v:= .tuple #[.agg #[.int .i64 a.c, .int .i64 a.s, .int .i64 a.mi, .int .i64 a.ma, .int .i64 a.t, .int .i64 a.l], .int .i64 0]) (by simp [results,Tryd.results78,go_sem]) rfl ⟨rfl,(by repeat (first|exact aI _ _|assumption|refine Below.drew ?_|refine Below.alloc ?_ (by simp <;> omega) _|refine Below.setCell ?_ (by simp <;> omega) _))⟩
   ·have h4:a.c=0:=af
    rw [Mh h1 h2 h4]
    have h1':(aq a == 0)=true:=by simp [h1]
    have h2':(aq b != 0)=false:=by simp [h2]
    have h3':(b.c == 0)=false:=by simp [h3]
    have h4':(a.c == 0)=true:=by simp [h4]
    clear h h1 h2 h3 h4
    go_enter Tryd.func78,Tryd.ntmps78
    go_wp2_with (go_at_call 99;refine(adZ _ _).mono ?_;rintro e w1 ⟨rfl,rfl⟩)
    exact bodyPost_ret (v:= .tuple #[.agg #[.int .i64 b.c, .int .i64 b.s, .int .i64 b.mi, .int .i64 b.ma, .int .i64 b.t, .int .i64 b.l], .int .i64 0]) (by simp [results,Tryd.results78,go_sem]) rfl ⟨rfl,(by repeat (first|exact aI _ _|assumption|refine Below.drew ?_|refine Below.alloc ?_ (by simp <;> omega) _|refine Below.setCell ?_ (by simp <;> omega) _))⟩
  ·rw [Gs h1 h2]
   have h1':(aq a == 0)=true:=by simp [h1]
   have h2':(aq b != 0)=true:=by simp [h2]
   clear h h1 h2
   go_enter Tryd.func78,Tryd.ntmps78
   go_wp2_with (go_at_call 99;refine(adZ _ _).mono ?_;rintro e w1 ⟨rfl,rfl⟩)
   exact bodyPost_ret (v:= .tuple #[.agg #[.int .i64 0, .int .i64 0, .int .i64 0, .int .i64 0, .int .i64 0, .int .i64 0], .int .i64 (aq b)]) (by simp [results,Tryd.results78,go_sem]) rfl ⟨rfl,(by repeat (first|exact aI _ _|assumption|refine Below.drew ?_|refine Below.alloc ?_ (by simp <;> omega) _|refine Below.setCell ?_ (by simp <;> omega) _))⟩
 ·rw [Gt h1]
  have h1':(aq a == 0)=false:=by simp [h1]
  have aq1:(aq a != 0)=true:=by simp [h1]
  clear h h1
  go_enter Tryd.func78,Tryd.ntmps78
  go_wp2_with (go_at_call 99;refine(adZ _ _).mono ?_;rintro e w1 ⟨rfl,rfl⟩)
  exact bodyPost_ret (v:= .tuple #[.agg #[.int .i64 0, .int .i64 0, .int .i64 0, .int .i64 0, .int .i64 0, .int .i64 0], .int .i64 (aq a)]) (by simp [results,Tryd.results78,go_sem]) rfl ⟨rfl,(by repeat (first|exact aI _ _|assumption|refine Below.drew ?_|refine Below.alloc ?_ (by simp <;> omega) _|refine Below.setCell ?_ (by simp <;> omega) _))⟩
theorem afe (a b:aw) (w:World) (h1:aq a=0) (h2:aq b=0) (h3:a.c≠0) (h4:b.c≠0):Calls Tryd.prog 78 #[.agg #[.int .i64 a.c, .int .i64 a.s, .int .i64 a.mi, .int .i64 a.ma, .int .i64 a.t, .int .i64 a.l], .agg #[.int .i64 b.c, .int .i64 b.s, .int .i64 b.mi, .int .i64 b.ma, .int .i64 b.t, .int .i64 b.l]] w fun e w'=>e = .returned (.tuple #[(bH a b).1.v, .int .i64 (bH a b).2])/\ah w w':=by
 have ra:=tL h1
 have rb:=tL h2
 unfold aw.ranged at ra rb
 obtain⟨ra1,ra2,ra3,ra4,-⟩:=ra
 obtain⟨YF,rb2,rb3,rb4,-⟩:=rb
 have h1':(aq a == 0)=true:=by simp [h1]
 have h2':(aq b != 0)=false:=by simp [h2]
 have h3':(a.c == 0)=false:=by simp [h3]
 have h4':(b.c == 0)=false:=by simp [h4]
 obtain⟨T,hT⟩:=bt ((if a.t<b.t\/(a.t=b.t/\a.l<b.l)then b.t else a.t))
 obtain⟨L,hL⟩:=bt ((if a.t<b.t\/(a.t=b.t/\a.l<b.l)then b.l else a.l))
 have hj:a.join b=⟨a.c+b.c,a.s+b.s,min a.mi b.mi,max a.ma b.ma,T,L⟩:=by simp [aw.join,h3,h4,hT,hL]
 have hres:bH a b=if a.c+b.c>1073741824\/within (a.s+b.s) 1125899906842624=false then(aw.zero,1) else(⟨a.c+b.c,a.s+b.s,min a.mi b.mi,max a.ma b.ma,T,L⟩,0):=by
  simp [bH,h1,h2,h3,h4,hj]
 obtain⟨X,hX⟩:=bt (bH a b)
 rw [hX]
 rw [hres]at hX
 have HX:=hdd hX
 obtain⟨nb,hnb⟩:∃nb:Bool,decide (a.t<b.t\/(a.t=b.t/\a.l<b.l))=nb:=⟨_,rfl⟩
 have HN:=hdd hnb
 have HT:=hdd hT
 have HL:=hdd hL
 clear h1 h2 h3 h4 hT hL hj hres hnb hX
 go_enter Tryd.func78,Tryd.ntmps78
 go_upto_if 43 with (go_at_call 99;refine(adZ _ _).mono ?_;rintro e w1 ⟨rfl,rfl⟩)
 go_cut [] (fun wx=>wx=(((((w.alloc (rc a)).alloc (rc b)).alloc (rc aw.zero)).alloc (rc a)).alloc (rc b)).alloc (rc ⟨a.c+b.c,a.s+b.s,min a.mi b.mi,a.ma,a.t,a.l⟩))
 case first=>
  go_wp2
  all_goals go_meet
  all_goals first|(rw [show min a.mi b.mi=b.mi from by omega];rfl)|(rw [show min a.mi b.mi=a.mi from by omega];rfl)
 simp only [rc,aw.zero]at hcut
 subst hcut
 go_upto_if 51 with (fail)
 go_cut [] (fun wx=>wx=(((((w.alloc (rc a)).alloc (rc b)).alloc (rc aw.zero)).alloc (rc a)).alloc (rc b)).alloc (rc ⟨a.c+b.c,a.s+b.s,min a.mi b.mi,max a.ma b.ma,a.t,a.l⟩))
 case first=>
  go_wp2
  all_goals go_meet
  all_goals first|(rw [show max a.ma b.ma=b.ma from by omega];rfl)|(rw [show max a.ma b.ma=a.ma from by omega];rfl)
 simp only [rc,aw.zero]at hcut
 subst hcut
 go_upto_region 17 with (fail)
 go_cut [73] (fun c wx=>c = .bool nb/\wx=(((((w.alloc (rc a)).alloc (rc b)).alloc (rc aw.zero)).alloc (rc a)).alloc (rc b)).alloc (rc ⟨a.c+b.c,a.s+b.s,min a.mi b.mi,max a.ma b.ma,a.t,a.l⟩))
 case first=>
  by_cases hq:a.t<b.t
  ·go_wp2
   go_meet
   exact⟨by rw [<-HN.out];simp [hq],rfl⟩
  ·by_cases hq2:b.t=a.t
   ·have hq':(b.t == a.t)=true:=by simp;omega
    have HQ:=hdd hq2
    by_cases hq3:a.l<b.l
    ·clear hq2
     go_wp2
     go_meet
     exact⟨by rw [<-HN.out];have:=HQ.out;simp;omega,rfl⟩
    ·clear hq2
     go_wp2
     go_meet
     exact⟨by rw [<-HN.out];have:=HQ.out;simp;omega,rfl⟩
   ·have hq':(b.t == a.t)=false:=by simp;omega
    go_wp2
    go_meet
    exact⟨by rw [<-HN.out];simp;omega,rfl⟩
 simp only [rc,aw.zero]at hcut
 obtain⟨rfl,hcut⟩:=hcut
 subst hcut
 go_upto_if 73 with (fail)
 go_cut [] (fun wx=>wx=(((((w.alloc (rc a)).alloc (rc b)).alloc (rc aw.zero)).alloc (rc a)).alloc (rc b)).alloc (rc ⟨a.c+b.c,a.s+b.s,min a.mi b.mi,max a.ma b.ma,T,L⟩))
 case first=>
  have eT:=HT.out
  have eL:=HL.out
  have eN:=HN.out
  cases nb
  ·have hn:¬(a.t<b.t\/(a.t=b.t/\a.l<b.l)):=Ql eN
   rw [ai hn]at eT eL
   have ET:=hdd eT
   have EL:=hdd eL
   clear eT eL eN hn
   go_wp2
   go_meet
   rw [<-ET.out,<-EL.out]
   rfl
  ·have hn:(a.t<b.t\/(a.t=b.t/\a.l<b.l)):=iy eN
   rw [ar hn]at eT eL
   have ET:=hdd eT
   have EL:=hdd eL
   clear eT eL eN hn
   go_wp2
   go_meet
   rw [<-ET.out,<-EL.out]
   rfl
 simp only [rc,aw.zero]at hcut
 subst hcut
 by_cases h5:a.c+b.c>1073741824
 ·have eX:=HX.out
  rw [ar (.inl h5)]at eX
  have EX:=hdd eX
  clear eX
  go_wp2
  exact bodyPost_ret (v:= .tuple #[.agg #[.int .i64 0, .int .i64 0, .int .i64 0, .int .i64 0, .int .i64 0, .int .i64 0], .int .i64 1]) (by simp [results,Tryd.results78,go_sem]) rfl ⟨by rw [<-EX.out];rfl,(by repeat (first|exact aI _ _|assumption|refine Below.drew ?_|refine Below.alloc ?_ (by simp <;> omega) _|refine Below.setCell ?_ (by simp <;> omega) _))⟩
 ·have Y8:a.c+b.c<=1073741824:=af
  cases h6:within (a.s+b.s) 1125899906842624
  ·have eX:=HX.out
   rw [ar (.inr h6)]at eX
   have EX:=hdd eX
   have h6':av (a.s+b.s) (-1125899906842624) 1125899906842624=false:=h6
   clear h5 h6 eX
   go_wp2_with (go_at_call 76;refine(ac2 _ _ _ _).mono ?_;rintro e w' ⟨rfl,rfl⟩)
   exact bodyPost_ret (v:= .tuple #[.agg #[.int .i64 0, .int .i64 0, .int .i64 0, .int .i64 0, .int .i64 0, .int .i64 0], .int .i64 1]) (by simp [results,Tryd.results78,go_sem]) rfl ⟨by rw [<-EX.out];rfl,(by repeat (first|exact aI _ _|assumption|refine Below.drew ?_|refine Below.alloc ?_ (by simp <;> omega) _|refine Below.setCell ?_ (by simp <;> omega) _))⟩
  ·have eX:=HX.out
   rw [ai (by simp [h6];omega)]at eX
   have EX:=hdd eX
   have h6':av (a.s+b.s) (-1125899906842624) 1125899906842624=true:=h6
   clear h5 h6 eX
   go_wp2_with (go_at_call 76;refine(ac2 _ _ _ _).mono ?_;rintro e w' ⟨rfl,rfl⟩)
   exact bodyPost_ret (v:= .tuple #[.agg #[.int .i64 (a.c+b.c), .int .i64 (a.s+b.s), .int .i64 (min a.mi b.mi), .int .i64 (max a.ma b.ma), .int .i64 T, .int .i64 L], .int .i64 0]) (by simp [results,Tryd.results78,go_sem]) rfl ⟨by rw [<-EX.out],(by repeat (first|exact aI _ _|assumption|refine Below.drew ?_|refine Below.alloc ?_ (by simp <;> omega) _|refine Below.setCell ?_ (by simp <;> omega) _))⟩
theorem afq (a b:aw) (w:World):Calls Tryd.prog 78 #[.agg #[.int .i64 a.c, .int .i64 a.s, .int .i64 a.mi, .int .i64 a.ma, .int .i64 a.t, .int .i64 a.l], .agg #[.int .i64 b.c, .int .i64 b.s, .int .i64 b.mi, .int .i64 b.ma, .int .i64 b.t, .int .i64 b.l]] w fun e w'=>e = .returned (.tuple #[(bH a b).1.v, .int .i64 (bH a b).2])/\ah w w':=by
 by_cases h:aq a≠0\/aq b≠0\/a.c=0\/b.c=0
 ·exact af1 a b w h
 ·simp only [not_or,ne_eq,Decidable.not_not]at h
  exact afe a b w h.1 h.2.1 h.2.2.1 h.2.2.2
end
section
set_option maxRecDepth 100000
set_option maxHeartbeats 1000000
variable {w:World}
theorem acz {v:Value} {xs:List aC} (h:dK 7 56 aZ w v xs) :
  Calls Tryd.prog 88 #[v] w fun e w'=>∃v',e = .returned v'/\w'.ownsRow w.heap.size 96 7 v' xs.length (xs.flatMap aZ)/\ah w w':=by
 obtain⟨ao,cap,rfl,h1,h2,h3,h4,h5⟩:=id h
 have hnil:∀w,(binOp .eql 63 (.slice ao xs.length cap) (.slice none 0 0)).run Tryd.prog w = .ok (.bool ao.isNone) w:=fun w=>Lib.run_eql_slice_nil w _ _ _ _ _ _ _ Tryd.underlying63
 cases ao with
 |none=>
  have h0:xs.length=0:=by have:=h4 rfl;omega
  obtain rfl:=wO h0
  obtain rfl:cap=0:=h4 rfl
  clear h4 h5
  simp only [Option.isNone_none,List.length_nil]at hnil
  go_enter Tryd.func88,Tryd.ntmps88
  go_wp2_with fail
  go_ret
  exact⟨_,rfl,World.ownsRow_nil _ _ _ _,aI _ _⟩
 |some ad=>
  obtain⟨_,g1,g2⟩:=h.news (cX)
  obtain⟨i0,z,hi,hz,hz1,hz2,hz3⟩:=cj Tryd.GH
  simp only [Option.isNone_some]at hnil
  have hown0:(w.alloc (.cells #[] 96)).ownsRow w.heap.size 96 7 (.slice (some ⟨w.heap.size,0,none⟩) 0 0) 0 []:=World.ownsRow_made w #[] 0 aH (by simp [maxLen]) bj
  clear h4 h5
  go_enter Tryd.func88,Tryd.ntmps88
  go_wp2_with (at_builtin;refine wpList_append_own _ rfl _ _ 63 rfl w.heap.size 96 i0 z 7 56 Tryd.underlying63 hi hz hz1 hz2 hz3 aW _ _ _ rfl hown0 ad xs.length cap (xs.flatMap aZ) rfl g1 (fun j u hj=>nu (g2 j u hj)) (jc xs) (by unfold maxLen;omega) af bj ?_;intro v' w3 hown' hgrow hv)
  go_ret
  exact⟨v',rfl,by simpa using hown',Below.grown ((aI _ _).alloc aH _) hgrow bj (fun j hj=>(hown0.lt j hj).1)⟩
theorem dU {v:Value} {xs:List Int} (h:dK 1 8 bX w v xs) :
  Calls Tryd.prog 92 #[v] w fun e w'=>∃v',e = .returned v'/\w'.ownsRow w.heap.size 3 1 v' xs.length (xs.flatMap bX)/\ah w w':=by
 obtain⟨ao,cap,rfl,h1,h2,h3,h4,h5⟩:=id h
 have hnil:∀w,(binOp .eql 82 (.slice ao xs.length cap) (.slice none 0 0)).run Tryd.prog w = .ok (.bool ao.isNone) w:=fun w=>Lib.run_eql_slice_nil w _ _ _ _ _ _ _ Tryd.underlying82
 cases ao with
 |none=>
  have h0:xs.length=0:=by have:=h4 rfl;omega
  obtain rfl:=wO h0
  obtain rfl:cap=0:=h4 rfl
  clear h4 h5
  simp only [Option.isNone_none,List.length_nil]at hnil
  go_enter Tryd.func92,Tryd.ntmps92
  go_wp2_with fail
  go_ret
  exact⟨_,rfl,World.ownsRow_nil _ _ _ _,aI _ _⟩
 |some ad=>
  obtain⟨_,g1,g2⟩:=h.news (kG)
  obtain⟨i0,z,hi,hz,hz1,hz2,hz3⟩:=cj Tryd.PF
  simp only [Option.isNone_some]at hnil
  have hown0:(w.alloc (.cells #[] 3)).ownsRow w.heap.size 3 1 (.slice (some ⟨w.heap.size,0,none⟩) 0 0) 0 []:=World.ownsRow_made w #[] 0 aH (by simp [maxLen]) bj
  clear h4 h5
  go_enter Tryd.func92,Tryd.ntmps92
  go_wp2_with (at_builtin;refine wpList_append_own _ rfl _ _ 82 rfl w.heap.size 3 i0 z 1 8 Tryd.underlying82 hi hz hz1 hz2 hz3 aW _ _ _ rfl hown0 ad xs.length cap (xs.flatMap bX) rfl g1 (fun j u hj=>nu (g2 j u hj)) (aay xs) (by unfold maxLen;omega) af bj ?_;intro v' w3 hown' hgrow hv)
  go_ret
  exact⟨v',rfl,by simpa using hown',Below.grown ((aI _ _).alloc aH _) hgrow bj (fun j hj=>(hown0.lt j hj).1)⟩
end
section
set_option maxRecDepth 100000
set_option maxHeartbeats 1000000
variable {xs:List Nd} {B k sz:Nat} {x:Nd} {α:Type} {w w':World}
structure Raw where
 leaf:Bool
 ev:Value
 kv:Value
 dv:Value
 bv:Value
def cI (r:Raw):List Value:=[.bool r.leaf,r.ev,r.kv,r.dv,r.bv]
structure lL (w:World) (r:Raw) (x:Nd):Prop where
 leaf:r.leaf=x.leaf
 aF:fu w r.ev x.aF
 keys:gy w r.kv x.keys
 kids:gy w r.dv x.kids
 buf:fu w r.bv x.buf
def wR (w:World) (rs:List Raw) (xs:List Nd):Prop:=rs.length=xs.length/\∀(i:Nat) r x,rs[i]?=some r->xs[i]?=some x->lL w r x
def bz (w:World) (v:Value) (xs:List Nd):Prop:=∃rs,dK 5 104 cI w v rs/\wR w rs xs
def bM (w:World) (v:Value) (t:Tr):Prop:=∃nv,v = .agg #[nv, .int .i64 t.root]/\bz w nv t.nodes
theorem lL.below {r:Raw} (h:lL w r x) (hb:Below B w w') (hB:w.heap.size<=B):lL w' r x:=
 ⟨h.leaf,h.aF.below hb hB,h.keys.below hb hB,h.kids.below hb hB,h.buf.below hb hB⟩
theorem wR.below {rs:List Raw} (h:wR w rs xs) (hb:Below B w w') (hB:w.heap.size<=B):wR w' rs xs:=
 ⟨h.1,fun i r x hr hx=>(h.2 i r x hr hx).below hb hB⟩
theorem bz.below {v:Value} (h:bz w v xs) (hb:Below B w w') (hB:w.heap.size<=B):bz w' v xs:=
 let ⟨rs,h1,h2⟩:=h
 ⟨rs,h1.below hb hB,h2.below hb hB⟩
theorem bM.below {v:Value} {t:Tr} (h:bM w v t) (hb:Below B w w') (hB:w.heap.size<=B):bM w' v t:=
 let ⟨nv,h1,h2⟩:=h
 ⟨nv,h1,h2.below hb hB⟩
theorem dK.one {en:α->List Value} {v:Value} {xs:List α} (h:dK k sz en w v xs):v.oneCell'=true:=by
 obtain⟨ao,cap,rfl,_⟩:=h;rfl
theorem dK.isSlice {en:α->List Value} {v:Value} {xs:List α} (h:dK k sz en w v xs):∃ao cap,v = .slice ao xs.length cap:=by
 obtain⟨ao,cap,rfl,_⟩:=h;exact⟨_,_,rfl⟩
theorem gh (e:Raw):(cI e).length=5:=rfl
theorem lL.one {r:Raw} (h:lL w r x):∀u∈cI r,u.oneCell'=true:=by
 intro u hu
 simp [cI]at hu
 rcases hu with rfl|rfl|rfl|rfl|rfl
 ·rfl
 ·exact h.aF.one
 ·exact h.keys.one
 ·exact h.kids.one
 ·exact h.buf.one
theorem wR.one {rs:List Raw} (h:wR w rs xs):∀u∈rs.flatMap cI,u.oneCell'=true:=by
 intro u hu
 obtain⟨r,hr,hx⟩:=List.mem_flatMap.1 hu
 obtain⟨i,hi,rfl⟩:=adU hr
 have jS:i<xs.length:=by rw [<-h.1];exact hi
 exact(h.2 i rs[i] xs[i] (by simp [hi]) (by simp [jS])).one u hx
theorem Tryd.QR:(Tryd.prog.info? 119).map (fun i=>(i.zero.map (fun z=>z.cells.size),i.size,i.bytes))=some (some 5,5,104):=bT
theorem uR {v:Value} {xs:List Raw} (h:dK 5 104 cI w v xs) (hone:∀u∈xs.flatMap cI,u.oneCell'=true) :
  Calls Tryd.prog 91 #[v] w fun e w'=>∃v',e = .returned v'/\w'.ownsRow w.heap.size 119 5 v' xs.length (xs.flatMap cI)/\ah w w':=by
 obtain⟨ao,cap,rfl,h1,h2,h3,h4,h5⟩:=id h
 have hnil:∀w,(binOp .eql 30 (.slice ao xs.length cap) (.slice none 0 0)).run Tryd.prog w = .ok (.bool ao.isNone) w:=fun w=>Lib.run_eql_slice_nil w _ _ _ _ _ _ _ Tryd.underlying30
 cases ao with
 |none=>
  have h0:xs.length=0:=by have:=h4 rfl;omega
  obtain rfl:=wO h0
  obtain rfl:cap=0:=h4 rfl
  clear h4 h5
  simp only [Option.isNone_none,List.length_nil]at hnil
  go_enter Tryd.func91,Tryd.ntmps91
  go_wp2_with fail
  go_ret
  exact⟨_,rfl,World.ownsRow_nil _ _ _ _,aI _ _⟩
 |some ad=>
  obtain⟨_,g1,g2⟩:=h.news (gh)
  obtain⟨i0,z,hi,hz,hz1,hz2,hz3⟩:=cj Tryd.QR
  simp only [Option.isNone_some]at hnil
  have hown0:(w.alloc (.cells #[] 119)).ownsRow w.heap.size 119 5 (.slice (some ⟨w.heap.size,0,none⟩) 0 0) 0 []:=World.ownsRow_made w #[] 0 aH (by simp [maxLen]) bj
  clear h4 h5
  go_enter Tryd.func91,Tryd.ntmps91
  go_wp2_with (at_builtin;refine wpList_append_own _ rfl _ _ 30 rfl w.heap.size 119 i0 z 5 104 Tryd.underlying30 hi hz hz1 hz2 hz3 aW _ _ _ rfl hown0 ad xs.length cap (xs.flatMap cI) rfl g1 (fun j u hj=>nu (g2 j u hj)) hone (by unfold maxLen;omega) af bj ?_;intro v' w3 hown' hgrow hv)
  go_ret
  exact⟨v',rfl,by simpa using hown',Below.grown ((aI _ _).alloc aH _) hgrow bj (fun j hj=>(hown0.lt j hj).1)⟩
theorem Below.trans' {w1 w2:World} (h:Below B w w1) (h':ah w1 w2) (hB:B<=w1.heap.size):Below B w w2:=
 ⟨h'.os.trans h.os,h'.tape.trans h.tape,h'.output.trans h.output,ik h.size h'.size,fun k hk=>(h'.block k af).trans (h.block k hk)⟩
theorem pM {n g cap i:Nat} {e:TypeId} {rs:List Raw} {r:Raw} (h:w.ownsRow B e 5 (.slice (some ⟨g,0,none⟩) n cap) n (rs.flatMap cI)) (_hi:i<n) (hn:n=rs.length) :
  (((((w.setCell ⟨g,i*5,none⟩ (.bool r.leaf)).setCell ⟨g,i*5+1,none⟩ r.ev).setCell ⟨g,i*5+2,none⟩ r.kv).setCell ⟨g,i*5+3,none⟩ r.dv).setCell ⟨g,i*5+4,none⟩ r.bv).ownsRow B e 5 (.slice (some ⟨g,0,none⟩) n cap) n ((rs.set i r).flatMap cI):=by
 obtain⟨hl,⟨h0,_⟩|⟨g',cap',cur,e1,hb,hg,h1,h2,h3,h4⟩⟩:=h
 ·cases h0
 ·cases e1
  refine⟨by rw [nX gh,tQ,hn], .inr ⟨g,cap,_,rfl,hb,heap_setCell_same (heap_setCell_same (heap_setCell_same (heap_setCell_same (heap_setCell_same hg)))),h1,h2,by simp [h3],?_⟩⟩
  apply List.ext_getElem?
  intro j
  rw [qg]
  have hold:∀j:Nat,(cur.toList.take (n*5))[j]?=(rs.flatMap cI)[j]?:=fun j=>by rw [h4]
  by_cases hj:j<n*5
  ·rw [ar hj]
   have hin:j/5<(rs.set i r).length:=by rw [tQ,<-hn];omega
   have hrt:j%5<5:=Nat.mod_lt _ af
   have hjj:j/5*5+j%5=j:=af
   have hget:∀ys:List Raw,(hy:j/5<ys.length)->(ys.flatMap cI)[j]?=(cI ys[j/5])[j%5]?:=fun ys hy=>by
    have hlt:j%5<(cI ys[j/5]).length:=by rw [gh];exact hrt
    have:=yF gh (xs:=ys) (i:=j/5) (r:=j%5) (x:=ys[j/5]) (u:=(cI ys[j/5])[j%5]) (by simp [hy]) (by simp [hlt])
    rw [hjj]at this
    rw [this];simp [hlt]
   rw [hget _ hin]
   have ho:=hold j
   rw [qg,ar hj,hget _ (by rw [<-hn];omega)]at ho
   by_cases hij:j/5=i
   ·have e2:(rs.set i r)[j/5]=r:=by simp [hij]
    rw [e2]
    have hlen:j<cur.size:=by have:=Nat.mul_le_mul_right 5 h1;omega
    have:j%5=0\/j%5=1\/j%5=2\/j%5=3\/j%5=4:=af
    rcases this with h|h|h|h|h <;> rw [h]
    ·obtain rfl:j=i*5:=af
     simp [cI,hlen]
    ·obtain rfl:j=i*5+1:=af
     simp [cI,hlen]
    ·obtain rfl:j=i*5+2:=af
     simp [cI,hlen]
    ·obtain rfl:j=i*5+3:=af
     simp [cI,hlen]
    ·obtain rfl:j=i*5+4:=af
     simp [cI,hlen]
   ·have e2:(rs.set i r)[j/5]=rs[j/5]'(by rw [<-hn];omega):=by rw [List.getElem_set_ne af]
    rw [e2,<-ho]
    simp only [Array.toList_setIfInBounds,List.getElem?_set]
    have a0:i*5≠j:=af
    have a1:i*5+1≠j:=af
    have a2:i*5+2≠j:=af
    have a3:i*5+3≠j:=af
    have a4:i*5+4≠j:=af
    rw [ai a4,ai a3,ai a2,ai a1,ai a0]
  ·rw [ai hj]
   have:((rs.set i r).flatMap cI)[j]?=none:=by
    apply List.getElem?_eq_none
    rw [nX gh,tQ,<-hn];omega
   rw [this]
end
section
variable {B:Nat} {X Y:Nat->Prop} {a b c w:World}
theorem aj (w:World) (o:Obj) {n:Nat} (h:n=w.heap.size):(w.alloc o).heap[n]?=some o:=by subst h;show (w.heap.push o)[w.heap.size]?=_;simp
structure aa0 (X:Nat->Prop) (w w':World):Prop where
 os:w'.os=w.os
 tape:w'.tape=w.tape
 output:w'.output=w.output
 size:w.heap.size<=w'.heap.size
 block:∀b,b<w.heap.size->¬X b->w'.heap[b]?=w.heap[b]?
theorem aa0.refl (X:Nat->Prop) (w:World):aa0 X w w:=⟨rfl,rfl,rfl,km _,fun _ _ _=>rfl⟩
theorem aa0.trans (h:aa0 X a b) (k:aa0 X b c):aa0 X a c:=
 ⟨k.os.trans h.os,k.tape.trans h.tape,k.output.trans h.output,ik h.size k.size,fun i hi hx=>(k.block i (mQ hi h.size) hx).trans (h.block i hi hx)⟩
theorem aa0.trans' (h:aa0 X a b) (k:aa0 Y b c) (hy:∀i,i<a.heap.size->Y i->X i):aa0 X a c:=
 ⟨k.os.trans h.os,k.tape.trans h.tape,k.output.trans h.output,ik h.size k.size,fun i hi hx=>(k.block i (mQ hi h.size) (fun hh=>hx (hy i hi hh))).trans (h.block i hi hx)⟩
theorem aa0.mono (h:aa0 X a b) (hx:∀i,i<a.heap.size->X i->Y i):aa0 Y a b:=⟨h.os,h.tape,h.output,h.size,fun i hi hy=>h.block i hi (fun hh=>hy (hx i hi hh))⟩
theorem aa0.of (h:Below B a b) (hB:a.heap.size<=B):aa0 X a b:=⟨h.os,h.tape,h.output,h.size,fun i hi _=>h.block i af⟩
theorem aa0.alloc (h:aa0 X a w) (o:Obj):aa0 X a (w.alloc o):=h.trans (aa0.of ((aI _ w).alloc aH o) aH)
theorem aa0.drew (h:aa0 X a w):aa0 X a w.drew:=⟨h.os,h.tape,h.output,h.size,h.block⟩
theorem aa0.drewN (h:aa0 X a w) (n:Nat):aa0 X a (w.drewN n):=⟨h.os,h.tape,h.output,h.size,h.block⟩
theorem aa0.setCell (h:aa0 X a w) {p:Addr} (hp:X p.block\/a.heap.size<=p.block) (u:Value):aa0 X a (w.setCell p u):=
 ⟨h.os,h.tape,h.output,by rw [aA];exact h.size,fun i hi hx=>(qd w p u i (fun e=>by subst e;rcases hp with hp|hp;exact hx hp;omega)).trans (h.block i hi hx)⟩
theorem aa0.below (h:aa0 X b c) (hb:Below B a b) (hB:B<=b.heap.size) (hx:∀i,X i->B<=i):Below B a c:=
 ⟨h.os.trans hb.os,h.tape.trans hb.tape,h.output.trans hb.output,ik hb.size h.size,fun k hk=>(h.block k af (fun hh=>by have:=hx k hh;omega)).trans (hb.block k hk)⟩
theorem aa0.cell (h:aa0 X a b) (hB:B<a.heap.size) (hx:¬X B) (o:Nat):b.cell? ⟨B,o,none⟩=a.cell? ⟨B,o,none⟩:=World.cell?_of_block (h.block B hB hx)
theorem aa0.frozen (h:aa0 X a b) (hB:B<a.heap.size) (hx:¬X B) (o:Nat):b.frozen? ⟨B,o,none⟩=a.frozen? ⟨B,o,none⟩:=World.frozen?_of_block (h.block B hB hx)
theorem aa0.keep (h:aa0 X a b) (hB:B<a.heap.size) (hx:¬X B) :
  B<b.heap.size/\(∀o,b.cell? ⟨B,o,none⟩=a.cell? ⟨B,o,none⟩)/\(∀o,b.frozen? ⟨B,o,none⟩=a.frozen? ⟨B,o,none⟩):=
 ⟨mQ hB h.size,h.cell hB hx,h.frozen hB hx⟩
end
end Go.Proofs.YtmljjfhgciaceaaDoor
