/- Texts of mine that come as one: Mem OpenSl Kit Eq App Own Roll RollB Merge MergeRef Clone Nodes Turn. -/
import Derived.Test.YtmljjfhgciaceaaDoorHd
import Derived.Test.YtmljjfhgciaceaaDoorPA
import Derived.Deep.Slices
import Derived.Test.YtmljjfhgciaceaaDoorProg
import Derived.WalkKit
import Derived.WalkLawsBesides
import Derived.WalkSpells
import Derived.BigQuiet
import Derived.Deep.QuietTactic
import Derived.Deep.DeepCutAuto
import Derived.Lib.Hide
import Derived.Deep.LoopGhost
import Derived.Outline
import Derived.Laws.StructEq
import Derived.OwnWalk
import Derived.Lib.LazyBuf
namespace Go.Proofs.YtmljjfhgciaceaaDoor
open Go.ChangeShapes Go.WideShapes Go.ChangeAt Go.RowKit Go.Deep
section
variable {k sz:Nat} {α:Type} {u:Value}
def dN (k sz:Nat) (en:α->List Value) (w:World) (v:Value) (xs:List α):Prop:=
 ∃ao cap,v = .slice ao xs.length cap/\xs.length<=cap/\cap<=9223372036854775807/\xs.length*sz<=140737488351232/\(ao=none->cap=0) /\
  (0<xs.length->∃b off,ao=some ⟨b,off,none⟩/\b<w.heap.size/\∀i x,xs[i]?=some x->∀j u,(en x)[j]?=some u->w.cell? ⟨b,off+i*k+j,none⟩=some u)
theorem dN.below {en:α->List Value} {w w':World} {v:Value} {xs:List α} (h:dN k sz en w v xs) {B:Nat} (hb:Below B w w') (hB:w.heap.size<=B):dN k sz en w' v xs:=by
 obtain⟨ao,cap,rfl,h1,h2,h3,h4,h5⟩:=h
 refine⟨ao,cap,rfl,h1,h2,h3,h4,fun h=>?_⟩
 obtain⟨b,off,rfl,hlt,hc⟩:=h5 h
 exact⟨b,off,rfl,mE hlt hb.size,fun i x hx j u hu=>(hb.cell (p:=⟨b,_,none⟩) (by show b<B;omega)).trans (hc i x hx j u hu)⟩
theorem dN.nil (k sz:Nat) (en:α->List Value) (w:World):dN k sz en w (.slice none 0 0) ([]:List α):=⟨none,0,rfl,bq,bq,bq,fun _=>rfl,bq⟩
section
variable {H:Type} {enc:TypeId×Value->H} {P:Program} {w:World} {base:Nat} {sp:Nat->Bool} {held:Bool}
theorem wS {e:TypeId}:∀{ds:List (DataW H)} {d:DataW H},d∈ds->∀m∈d.weights P e,m∈DataW.weightsAll P e ds
 |d'::ds,d,hd,m,hm=>by
  simp only [DataW.weightsAll,kI]
  rcases fc.1 hd with rfl|hd
  ·exact .inl hm
  ·exact .inr (wS hd m hm)
theorem cells_lt {b:Nat} {o:Nat} (h:w.cell? ⟨b,o,none⟩=some u):b<w.heap.size:=by
 by_cases hb:b<w.heap.size
 ·exact hb
 ·simp [World.cell?,Array.getElem?_eq_none (Nat.le_of_not_lt hb)]at h
theorem NG {a:Addr} {i j:Nat} (h:w.cell? ((a.add i).add j)=some u):a.spot=none\/0<i\/0<j:=by
 by_cases hi:i=0
 ·by_cases hj:j=0
  ·subst hi;subst hj
   left
   obtain⟨b,o,s⟩:=a
   cases s with
   |none=>rfl
   |some s=>simp [Addr.add,World.cell?]at h;split at h <;> simp at h
  ·exact .inr (.inr af)
 ·exact .inr (.inl af)
theorem FO {t e:TypeId} {fuel:Nat} {cs:List Value} {x:DataW H×List MemPlace} (en:α->List Value) (Q:α->Prop)
  (ht:P.underlying t=some (.slice e)) (hk:P.cellsOf e=k) (ie:0<k) (hsz:P.bytesOf e=sz)
  (h:DataW.trod enc P w base sp held fuel t cs=some x) (hw:∀m∈x.1.weights P t,m<=reachBytes)
  (hel:∀(n:Nat) (cs':List Value) (y:DataW H×List MemPlace),DataW.trod enc P w base sp held n e cs'=some y->(∀m∈y.1.weights P e,m<=reachBytes)->∃a:α,cs'=en a/\Q a) :
  ∃(v:Value) (xs:List α),cs=[v]/\dN k sz en w v xs/\∀a∈xs,Q a:=by
 rcases open_slice ht h with ⟨rfl,_⟩|⟨a,len,cap,m,n,D,Pl,rfl,_,hl,hm,hmm,rfl,hx⟩
 ·exact⟨_,[],rfl,dN.nil _ _ _ _,bq⟩
 ·simp only [DataW.weights,ht]at hw
  have hlm:len<=m:=by rw [hmm];split <;> omega
  have WT:∀i,i<len->∃z:α,∃cs',w.cells? base (a.add (i*k)) k=some cs'/\cs'=en z/\Q z:=by
   intro i hi
   obtain⟨cs',h1,h2⟩:=hx i af
   rw [hk]at h1
   obtain⟨z,hz,hq⟩:=hel n cs' _ h2 (fun m' hm'=>hw m' (by
    simp only [fc,kI]
    exact .inr (.inl (wS (lI.2 ⟨i,List.mem_range.2 hi,rfl⟩) m' hm'))))
   exact⟨z,cs',h1,hz,hq⟩
  obtain⟨F,hF⟩:∃F:(i:Nat)->i<len->α,∀i (hi:i<len),∃cs',w.cells? base (a.add (i*k)) k=some cs'/\cs'=en (F i hi)/\Q (F i hi):=
   ⟨fun i hi=>Classical.choose (WT i hi),fun i hi=>Classical.choose_spec (WT i hi)⟩
  have hlen:(List.ofFn fun i:Fin len=>F i.1 i.2).length=len:=bq
  have hbytes:=hw _ (List.mem_cons_self ..)
  simp only [nA,List.length_range,hsz]at hbytes
  refine⟨_,List.ofFn fun i:Fin len=>F i.1 i.2,rfl,⟨some a,cap,by rw [hlen],af,by unfold maxLen at hm;omega,?_,bq,?_⟩,?_⟩
  ·rw [hlen]
   have:len*sz<=(len+(m-len))*sz:=Nat.mul_le_mul_right _ af
   unfold reachBytes at hbytes
   omega
  ·rw [hlen]
   intro h0
   obtain⟨cs0,c0,e0,_⟩:=hF 0 h0
   obtain⟨_,l0,g0⟩:=World.cells?_some c0
   obtain⟨u0,hu0⟩:∃u,cs0[0]?=some u:=⟨cs0[0]'(by omega),by simp [show 0<cs0.length by omega]⟩
   have q0:=(g0 0 af).trans hu0
   have hspot:a.spot=none:=by
    have:=NG q0
    rcases this with h|h|h <;> first|exact h|omega
   obtain⟨b,off,s⟩:=a
   simp only at hspot
   subst hspot
   refine⟨b,off,rfl,?_,?_⟩
   ·simp only [Addr.add]at q0
    exact cells_lt (by simpa using q0)
   ·intro i x hxi j u hu
    obtain⟨hi,Gq⟩:=gH.1 hxi
    rw [hlen]at hi
    obtain⟨csi,ci,ei,_⟩:=hF i hi
    obtain⟨_,li,gi⟩:=World.cells?_some ci
    have PK:x=F i hi:=by rw [<-Gq];simp
    rw [PK,<-ei]at hu
    have hj:j<k:=by
     have:=(gH.1 hu).1
     omega
    have:=(gi j hj).trans hu
    rw [<-this]
    congr 1
    simp only [Addr.add]
    split <;> split <;> simp_all <;> omega
  ·intro z hz
   obtain⟨i,hi⟩:=List.mem_ofFn.1 hz
   obtain⟨_,_,_,hq⟩:=hF i.1 i.2
   rw [<-hi];exact hq
end
end
section
set_option maxRecDepth 100000
def bV (n:Int):List Value:=[.int .i64 n]
def i64 (n:Int):Prop:=-9223372036854775808<=n/\n<=9223372036854775807
abbrev gu (w:World) (v:Value) (xs:List Int):Prop:=dN 1 8 bV w v xs
theorem Fl {H:Type} {P:Program} {ts:List TypeId} {ds:List (DataW H)} (h:(DataW.weightsEach P ts ds).all (·<=reachBytes)=true) {j:Nat} {t:TypeId} {d:DataW H} (ht:ts[j]?=some t) (hd:ds[j]?=some d) :
  ∀m∈d.weights P t,m<=reachBytes:=by
 intro m hm
 have:=pA.1 h m (DataW.weights_mem_each ht hd m hm)
 simpa using this
section
variable {H:Type} {enc:TypeId×Value->H} {w:World} {base:Nat} {sp:Nat->Bool} {held:Bool}
theorem Fy {r:Reach} {b0:Nat} {t e:TypeId} {v v':Value} (ht:Tryd.prog.underlying t=some (.slice e)) (hv:Value.okWide Tryd.prog w r b0 t v) (h:v.cells.toList=[v']):v=v':=by
 obtain⟨a,len,cap,rfl⟩:=okWide_slice ht hv
 simpa [Value.cells] using h
end
end
end Go.Proofs.YtmljjfhgciaceaaDoor
namespace Go.Proofs.YtmljjfhgciaceaaDoor
open Go.RowKit
section
variable {a b:Int} {k:IntKind} {B:Nat} {e:TypeId} {w:World}
abbrev au.v (r:au):Value:= .agg #[.int .i64 r.c, .int .i64 r.s, .int .i64 r.mi, .int .i64 r.ma, .int .i64 r.t, .int .i64 r.l]
theorem ia (h:a=b):Ending.returned (.int k a) = .returned (.int k b):=by rw [h]
theorem dQ {a b:Bool} (h:a=b):Ending.returned (.bool a) = .returned (.bool b):=by rw [h]
theorem nr {W w2:World} (hb:ah W w2) (hB:B<W.heap.size) :
  B<w2.heap.size/\(∀o,w2.cell? ⟨B,o,none⟩=W.cell? ⟨B,o,none⟩)/\(∀o,w2.frozen? ⟨B,o,none⟩=W.frozen? ⟨B,o,none⟩):=
 ⟨mE hB hb.size,fun o=>hb.cell (p:=⟨B,o,none⟩) hB,fun o=>hb.frozen (p:=⟨B,o,none⟩) hB⟩
theorem heap_setCell_same {off:Nat} {c:Array Value} {fr:Nat×Nat} {v:Value} (h:w.heap[B]?=some (.cells c e fr)) :
  (w.setCell ⟨B,off,none⟩ v).heap[B]?=some (.cells (c.setIfInBounds off v) e fr):=by
 simp [World.setCell,Array.getElem?_modify,h]
theorem ay (w:World) (a:Addr) (v:Value):(w.setCell a v).heap.size=w.heap.size:=by simp [World.setCell]
theorem jO {a0 a1 a2 a3 a4 a5 v0 v1 v2 v3 v4 v5:Value} {fr:Nat×Nat} (h:w.heap[B]?=some (.cells #[a0,a1,a2,a3,a4,a5] e fr)) :
  ((((((w.setCell ⟨B,0,none⟩ v0).setCell ⟨B,1,none⟩ v1).setCell ⟨B,2,none⟩ v2).setCell ⟨B,3,none⟩ v3).setCell ⟨B,4,none⟩ v4).setCell ⟨B,5,none⟩ v5).heap[B]?=some (.cells #[v0,v1,v2,v3,v4,v5] e fr):=by
 have h:=heap_setCell_same (off:=5) (v:=v5) (heap_setCell_same (off:=4) (v:=v4) (heap_setCell_same (off:=3) (v:=v3) (heap_setCell_same (off:=2) (v:=v2) (heap_setCell_same (off:=1) (v:=v1) (heap_setCell_same (off:=0) (v:=v0) h)))))
 simpa using h
theorem int_eq (h:a=b):Value.int k a=Value.int k b:=by rw [h]
@[go_sem high] theorem QL {P:Program} {w:World} (ts:Array TypeId) (t:TypeId) (k k':IntKind) (x y:Int):(Builtin.min_ ts t #[.int k x, .int k' y]).run P w = .ok (.int k (min x y)) w:=by
 rw [run_min_int2];congr 2;omega
@[go_sem high] theorem QM {P:Program} {w:World} (ts:Array TypeId) (t:TypeId) (k k':IntKind) (x y:Int):(Builtin.max_ ts t #[.int k x, .int k' y]).run P w = .ok (.int k (max x y)) w:=by
 rw [run_max_int2];congr 2;omega
end
section
set_option maxRecDepth 100000
theorem cM {B:Nat} {a w:World} (h:Below B a w) (n:Nat):Below B a (w.drewN n):=⟨h.os,h.tape,h.output,h.size,h.block⟩
theorem ag {B:Nat} {w w':World} (h:Below B w w':=by repeat (first|with_reducible exact aJ _ _|with_reducible assumption|with_reducible refine cM ?_ _|with_reducible refine Below.drew ?_|with_reducible refine Below.alloc ?_ (by first|omega|(simp;done)|(simp;omega)|(simp [aL];done)|(simp [aL];omega)) _|with_reducible refine Below.setCell ?_ (by first|omega|(simp;done)|(simp;omega)|(simp [aL];done)|(simp [aL];omega)) _)):Below B w w':=h
def bj (e:aA):List Value:=[.int .i64 e.key, .int .i64 e.is.c, .int .i64 e.is.s, .int .i64 e.is.mi, .int .i64 e.is.ma, .int .i64 e.is.t, .int .i64 e.is.l]
abbrev eQ (w:World) (v:Value) (xs:List aA):Prop:=dN 7 56 bj w v xs
theorem Tryd.VG:Tryd.prog.underlying 42=some (.struct (Tryd.prog.fieldsOf 42)):=cy
theorem Tryd.ZU:Tryd.prog.underlying 96=some (.struct (Tryd.prog.fieldsOf 96)):=cy
theorem Tryd.Xt:Tryd.prog.stoodInHeld 42=false:=cy
theorem Tryd.abQ:Tryd.prog.stoodInHeld 96=false:=cy
theorem vJ (d:Nat) (a b:au) (w:World):(Op.equalIn (d+2) 42 (.agg #[.int .i64 a.c, .int .i64 a.s, .int .i64 a.mi, .int .i64 a.ma, .int .i64 a.t, .int .i64 a.l]) (.agg #[.int .i64 b.c, .int .i64 b.s, .int .i64 b.mi, .int .i64 b.ma, .int .i64 b.t, .int .i64 b.l])).run Tryd.prog w = .ok (decide (a=b)) w:=by
 have u3:=Tryd.underlying3
 rw [run_equalIn_struct w (d+1) 42 _ _ Tryd.VG Tryd.Xt]
 simp only [Program.fieldsOf,Tryd.underlying42]
 go_simp
 obtain⟨a0,a1,a2,a3,a4,a5⟩:=a
 obtain⟨b0,b1,b2,b3,b4,b5⟩:=b
 simp only [au.mk.injEq]
 by_cases h0:a0=b0
 ·by_cases h1:a1=b1
  ·by_cases h2:a2=b2
   ·by_cases h3:a3=b3
    ·by_cases h4:a4=b4
     ·by_cases h5:a5=b5 <;> simp [h0,h1,h2,h3,h4,h5]
     ·simp [h0,h1,h2,h3,h4]
    ·simp [h0,h1,h2,h3]
   ·simp [h0,h1,h2]
  ·simp [h0,h1]
 ·simp [h0]
theorem xI (d:Nat) (e f:aA) (w:World):(Op.equalIn (d+3) 96 (.agg #[.int .i64 e.key, .int .i64 e.is.c, .int .i64 e.is.s, .int .i64 e.is.mi, .int .i64 e.is.ma, .int .i64 e.is.t, .int .i64 e.is.l]) (.agg #[.int .i64 f.key, .int .i64 f.is.c, .int .i64 f.is.s, .int .i64 f.is.mi, .int .i64 f.is.ma, .int .i64 f.is.t, .int .i64 f.is.l])).run Tryd.prog w = .ok (decide (e=f)) w:=by
 have u3:=Tryd.underlying3
 have hr:=fun w=>vJ d e.is f.is w
 rw [run_equalIn_struct w (d+2) 96 _ _ Tryd.ZU Tryd.abQ]
 simp only [Program.fieldsOf,Tryd.underlying96]
 go_simp
 obtain⟨e0,e1⟩:=e
 obtain⟨f0,f1⟩:=f
 simp only [aA.mk.injEq]
 by_cases h0:e0=f0
 ·by_cases h1:e1=f1 <;> simp [h0,h1]
 ·simp [h0]
theorem C2 (e f:aA) (w:World):(binOp .neq 96 (.agg #[.int .i64 e.key, .int .i64 e.is.c, .int .i64 e.is.s, .int .i64 e.is.mi, .int .i64 e.is.ma, .int .i64 e.is.t, .int .i64 e.is.l]) (.agg #[.int .i64 f.key, .int .i64 f.is.c, .int .i64 f.is.s, .int .i64 f.is.mi, .int .i64 f.is.ma, .int .i64 f.is.t, .int .i64 f.is.l])).run Tryd.prog w = .ok (.bool (!decide (e=f))) w:=by
 rw [run_neq_struct,xI 9997];rfl
end
section
variable {k sz n:Nat} {α:Type} {e:TypeId} {w:World}
theorem nZ {α:Type} {en:α->List Value} {k:Nat} (he:∀x,(en x).length=k):∀xs:List α,(xs.flatMap en).length=xs.length*k
 |[]=>bq
 |x::xs=>by
  rw [gG,eP,nZ he xs,he,fR,Nat.add_mul,Nat.one_mul,Nat.add_comm]
theorem El {α:Type} {en:α->List Value} {k:Nat} (he:∀x,(en x).length=k):∀{xs:List α} {j:Nat} {u:Value},(xs.flatMap en)[j]?=some u ->
  ∃i x,xs[i]?=some x/\i*k<=j/\j<i*k+k/\(en x)[j-i*k]?=some u
 |[],j,u,h=>by simp at h
 |x::xs,j,u,h=>by
  rw [gG]at h
  by_cases hj:j<k
  ·rw [zP (by rw [he];exact hj)]at h
   exact⟨0,x,rfl,af,af,by simpa using h⟩
  ·rw [List.getElem?_append_right (by rw [he];omega),he]at h
   obtain⟨i,y,h1,h2,h3,h4⟩:=El he h
   have e1:(i+1)*k=i*k+k:=by rw [Nat.add_mul,Nat.one_mul]
   refine⟨i+1,y,by simpa using h1,af,af,?_⟩
   have e2:j-(i+1)*k=j-k-i*k:=af
   rw [e2];exact h4
theorem yh {α:Type} {en:α->List Value} {k:Nat} (he:∀x,(en x).length=k):∀{xs:List α} {i r:Nat} {x:α} {u:Value},xs[i]?=some x->(en x)[r]?=some u->(xs.flatMap en)[i*k+r]?=some u
 |[],i,r,x,u,h,_=>by simp at h
 |y::xs,0,r,x,u,h,hu=>by
  simp only [List.getElem?_cons_zero,iE]at h
  subst h
  have hr:=(gH.1 hu).1
  rw [gG,Nat.zero_mul,iM,zP hr]
  exact hu
 |y::xs,i+1,r,x,u,h,hu=>by
  simp only [List.getElem?_cons_succ]at h
  have e1:(i+1)*k=i*k+k:=by rw [Nat.add_mul,Nat.one_mul]
  rw [gG,List.getElem?_append_right (by rw [he];omega),he,show (i+1)*k+r-k=i*k+r from by omega]
  exact yh he h hu
theorem dN.news {en:α->List Value} {ad:Addr} {cap:Nat} {xs:List α} (he:∀x,(en x).length=k) (h:dN k sz en w (.slice (some ad) n cap) xs) :
  n=xs.length/\(xs.flatMap en).length=xs.length*k/\∀j u,(xs.flatMap en)[j]?=some u->w.cell? (ad.add j)=some u:=by
 obtain⟨ao,cap',e,h1,h2,h3,h4,h5⟩:=h
 injection e with e1 e2 e3
 subst e1 e2 e3
 refine⟨rfl,nZ he xs,fun j u hj=>?_⟩
 obtain⟨i,x,hx,a1,a2,a3⟩:=El he hj
 obtain⟨hi,_⟩:=gH.1 hx
 obtain⟨b,off,e,hb,hc⟩:=h5 af
 injection e with e
 subst e
 rw [<-hc i x hx (j-i*k) u a3]
 congr 1
 simp only [Addr.add]
 split <;> simp <;> omega
theorem dN.owned {en:α->List Value} {B:Nat} {v:Value} {xs:List α} (he:∀x,(en x).length=k) (h:w.ownsRow B e k v n (xs.flatMap en)) (hn:n=xs.length)
  (hs:xs.length*sz<=140737488351232):dN k sz en w v xs:=by
 subst hn
 obtain⟨hl,⟨rfl,h0⟩|⟨g,cap,cur,rfl,hb,hg,h1,h2,h3,h4⟩⟩:=h
 ·obtain rfl:=xN h0
  exact dN.nil _ _ _ _
 ·refine⟨some ⟨g,0,none⟩,cap,rfl,h1,by unfold maxLen at h2;exact h2,hs,bq,fun _=>⟨g,0,rfl,?_,fun i x hx j u hu=>?_⟩⟩
  ·exact(eW.1 hg).1
  ·have hi:=(gH.1 hx).1
   have hj:j<k:=by have:=(gH.1 hu).1;rw [he]at this;exact this
   have hf:=yh he hx hu
   rw [<-h4,qd]at hf
   split at hf
   ·simp only [World.cell?,hg]
    simpa [iM] using hf
   ·cases hf
theorem pY {o:Obj} {a:Addr} {u:Value} (h:w.cell? a=some u):(w.alloc o).cell? a=some u:=
 (((aJ w.heap.size w).alloc aI o).cell (p:=a) (World.block_lt_of_cell? w a h)).trans h
theorem cC {P:Program} {size bytes:Nat} (h:(P.info? e).map (fun i=>(i.zero.map (fun z=>z.cells.size),i.size,i.bytes))=some (some size,size,bytes)) :
  ∃i z,P.info? e=some i/\i.zero=some z/\i.size=size/\i.bytes=bytes/\z.cells.size=size:=by
 obtain⟨i,hi,hzz⟩:=Option.map_eq_some_iff.1 h
 simp only [jK]at hzz
 obtain⟨z,hz,hzs⟩:=Option.map_eq_some_iff.1 hzz.1
 exact⟨i,z,hi,hz,hzz.2.1,hzz.2.2,hzs⟩
theorem dg (e:aA):(bj e).length=7:=rfl
theorem kE (e:Int):(bV e).length=1:=rfl
theorem jf (xs:List aA):∀u∈xs.flatMap bj,u.oneCell'=true:=by
 intro u hu
 obtain⟨x,_,hx⟩:=List.mem_flatMap.1 hu
 simp [bj]at hx
 rcases hx with rfl|rfl|rfl|rfl|rfl|rfl|rfl <;> rfl
theorem pq (xs:List Int):∀u∈xs.flatMap bV,u.oneCell'=true:=by
 intro u hu
 obtain⟨x,_,hx⟩:=List.mem_flatMap.1 hu
 simp [bV]at hx
 subst hx;rfl
theorem Tryd.Gp:(Tryd.prog.info? 96).map (fun i=>(i.zero.map (fun z=>z.cells.size),i.size,i.bytes))=some (some 7,7,56):=cy
theorem Tryd.PG:(Tryd.prog.info? 3).map (fun i=>(i.zero.map (fun z=>z.cells.size),i.size,i.bytes))=some (some 1,1,8):=cy
end
section
variable {es:List aA} {B C:Nat} {w w':World}
@[simp,go_sem] theorem aL (w:World):w.drew.heap.size=w.heap.size:=rfl
structure av (B:Nat) (w:World) (v:Value) (es:List aA):Prop where
 row:w.ownsRow B 96 7 v es.length (es.flatMap bj)
theorem av.nil (B:Nat) (w:World):av B w (.slice none 0 0) []:=⟨World.ownsRow_nil _ _ _ _⟩
theorem av.alloc {v:Value} (h:av B w v es) (o:Obj):av B (w.alloc o) v es:=⟨World.ownsRow.alloc h.row o⟩
theorem av.block {v:Value} (h:av B w v es) (hb:∀g,v.ownBlock=some g->w'.heap[g]?=w.heap[g]?):av B w' v es:=by
 obtain⟨hl,⟨rfl,h0⟩|⟨g,cap,cur,rfl,hB,hg,h1,h2,h3,h4⟩⟩:=h.row
 ·exact⟨⟨hl, .inl ⟨rfl,h0⟩⟩⟩
 ·exact⟨⟨hl, .inr ⟨g,cap,cur,rfl,hB,(hb g rfl).trans hg,h1,h2,h3,h4⟩⟩⟩
theorem av.drew {v:Value} (h:av B w v es):av B w.drew v es:=h.block fun _ _=>rfl
theorem av.drewN {v:Value} (h:av B w v es) (n:Nat):av B (w.drewN n) v es:=h.block fun _ _=>rfl
theorem av.lt {v:Value} (h:av B w v es):∀g,v.ownBlock=some g->B<=g/\g<w.heap.size:=World.ownsRow.lt h.row
theorem av.below {v:Value} (h:av B w v es) (hb:Below C w w') (hC:w.heap.size<=C):av B w' v es:=h.block fun g hg=>hb.block g (by have:=(h.lt g hg).2;omega)
theorem av.mono {v:Value} (h:av B w v es) (hC:C<=B):av C w v es:=by
 obtain⟨hl,⟨rfl,h0⟩|⟨g,cap,cur,rfl,hB,hg,h1,h2,h3,h4⟩⟩:=h.row
 ·exact⟨⟨hl, .inl ⟨rfl,h0⟩⟩⟩
 ·exact⟨⟨hl, .inr ⟨g,cap,cur,rfl,af,hg,h1,h2,h3,h4⟩⟩⟩
theorem av.at {v:Value} (h:av B w v es) (hs:es.length<=1000000):eQ w v es:=dN.owned dg h.row rfl af
theorem av.isSlice {v:Value} (h:av B w v es):∃ao cap,v = .slice ao es.length cap:=by
 obtain⟨hl,⟨rfl,h0⟩|⟨g,cap,cur,rfl,_⟩⟩:=h.row
 ·exact⟨none,0,by rw [h0]⟩
 ·exact⟨_,_,rfl⟩
theorem mR {e:aA} {T:TypeId} {j:Nat} {u:Value} (h:(bj e)[j]?=some u) :
  (w.alloc (.cells #[.int .i64 e.key, .int .i64 e.is.c, .int .i64 e.is.s, .int .i64 e.is.mi, .int .i64 e.is.ma, .int .i64 e.is.t, .int .i64 e.is.l] T)).cell? (Addr.add ⟨w.heap.size,0,none⟩ j)=some u:=by
 have hk:(w.alloc (.cells #[.int .i64 e.key, .int .i64 e.is.c, .int .i64 e.is.s, .int .i64 e.is.mi, .int .i64 e.is.ma, .int .i64 e.is.t, .int .i64 e.is.l] T)).heap[w.heap.size]?=some (.cells #[.int .i64 e.key, .int .i64 e.is.c, .int .i64 e.is.s, .int .i64 e.is.mi, .int .i64 e.is.ma, .int .i64 e.is.t, .int .i64 e.is.l] T):=by
  show (w.heap.push _)[w.heap.size]?=_;simp
 have ha:Addr.add ⟨w.heap.size,0,none⟩ j=⟨w.heap.size,j,none⟩:=by simp [Addr.add];omega
 rw [ha]
 simp only [World.cell?,hk]
 simpa [bj] using h
theorem fg {ops:Array Oper} {rest:List Oper} {o:Oper} {a:Act} {Q:Exit->Act->World->Prop} (hgd:o.guard=none) (s x:Operand)
  (ho:o.op = .call { callee:= .builtin .append,args:=#[s,x],argTypes:=#[63,63] }) (B:Nat) (v:Value) (es:List aA) (hs:a.eval s=v) (hown:av B w v es)
  (ad:Addr) (e:aA) (hx:a.eval x = .slice (some ad) 1 1) (hnews:∀j u,(bj e)[j]?=some u->w.cell? (ad.add j)=some u) (hlen:es.length<=1000000) (hbase:B<=w.heap.size)
  (h:∀v' w',av B w' v' (es++[e])->(∀C W,Below C W w->C<=B->Below C W w')->wpList Tryd.prog ops Q rest (a.put o.dst v') w'):wpList Tryd.prog ops Q (o::rest) a w:=by
 obtain⟨i0,z,hi,hz,hz1,hz2,hz3⟩:=cC Tryd.Gp
 refine wpList_append_own w hgd s x 63 ho B 96 i0 z 7 56 Tryd.underlying63 hi hz hz1 hz2 hz3 aW v es.length _ hs hown.row ad 1 1 (bj e) hx rfl hnews (jf [e] |> fun h u hu=>h u (by simpa using hu)) (by unfold maxLen;omega) af hbase ?_
 intro v' w' hown' hg _
 refine h v' w' ?_ fun C W hb hC=>Below.grown hb hg af (fun j hj=>by have:=(hown.lt j hj).1;omega)
 have:(es++[e]).flatMap bj=es.flatMap bj++bj e:=bq
 refine⟨?_⟩
 rw [this,eP]
 exact hown'
end
section
set_option maxHeartbeats 1000000
theorem iO (n m:Int) (w:World) (h0:0<=m) (h1:m<=1125899906842624):Calls Tryd.prog 36 #[.int .i64 n, .int .i64 m] w fun e w'=>e = .returned (.bool (within n m))/\w=w':=by
 by_cases h : -m<=n
 ·go_enter Tryd.func36,Tryd.ntmps36
  go_wp2
  go_ret
  simp [within,h]
 ·go_enter Tryd.func36,Tryd.ntmps36
  go_wp2
  go_ret
  simp [within];omega
theorem gP (r:au) (w:World):Calls Tryd.prog 37 #[.agg #[.int .i64 r.c, .int .i64 r.s, .int .i64 r.mi, .int .i64 r.ma, .int .i64 r.t, .int .i64 r.l]] w fun e w'=>e = .returned (.int .i64 (aj r))/\w.alloc (.cells #[.int .i64 r.c, .int .i64 r.s, .int .i64 r.mi, .int .i64 r.ma, .int .i64 r.t, .int .i64 r.l] 42)=w':=by
 obtain⟨c,s,mi,ma,t,l⟩:=r
 simp only
 go_enter Tryd.func37,Tryd.ntmps37
 go_wp2_with (go_at_call 36;refine(iO _ _ _ af af).mono ?_;rintro e w' ⟨rfl,rfl⟩)
 all_goals (go_ret;refine⟨ia ?_,by first|rfl|simp [*]⟩)
 all_goals (try simp only [wR]at *)
 all_goals first
  |exact(rc2 (by simp only [au.ranged];omega)).symm
  |exact(Z0 (by simp only [au.zero,au.mk.injEq];omega)).symm
  |exact(ZY (by simp only [au.ranged];omega) (by simp only;omega) (by simp only [au.zero,ne_eq,au.mk.injEq];omega)).symm
  |skip
 all_goals
  have m1:=rS (c:=c) (m:=mi) af af af af
  have m2:=rS (c:=c) (m:=ma) af af af af
  have e1:=IntWalk.wrap64_in (c*mi) ⟨af,af⟩
  have e2:=IntWalk.wrap64_in (c*ma) ⟨af,af⟩
  simp only [e1,e2]at *
  first
  |exact(YH (by simp only [au.ranged];omega) (by simp only;omega) (by simp only [au.formed];omega)).symm
  |exact(rc4 (by simp only [au.ranged];omega) (by simp only;omega) (by simp only [au.formed];omega)).symm
end
theorem FU (t v:Int) (w:World):Calls Tryd.prog 17 #[.int .i64 t, .int .i64 v] w fun e w'=>e = .returned (.tuple #[(eJ t v).1.v, .int .i64 (eJ t v).2])/\ah w w':=by
 by_cases h:0<=t/\t<=1048575/\-1000000<=v/\v<=1000000
 ·have hr:eJ t v=(⟨1,v,v,v,t,v⟩,0):=by simp [eJ,h]
  obtain⟨h1,h2,h3⟩:=h
  rw [hr]
  have hw:within v 1000000=true:=wR.2 h3
  clear hr
  go_enter Tryd.func17,Tryd.ntmps17
  go_wp2_with (go_at_call 36;refine(iO _ _ _ af af).mono ?_;rintro e w' ⟨rfl,rfl⟩)
  exact bodyPost_ret (v:= .tuple #[.agg #[.int .i64 1, .int .i64 v, .int .i64 v, .int .i64 v, .int .i64 t, .int .i64 v], .int .i64 0]) (by simp [results,Tryd.results17,go_sem]) rfl ⟨rfl,(by repeat (first|exact aJ _ _|assumption|refine Below.drew ?_|refine Below.alloc ?_ (by simp <;> omega) _|refine Below.setCell ?_ (by simp <;> omega) _))⟩
 ·have hr:eJ t v=(au.zero,2):=by simp [eJ,h]
  rw [hr]
  have hw:(0<=t/\t<=1048575)->within v 1000000=false:=fun hh=>BA.2 af
  clear hr
  go_enter Tryd.func17,Tryd.ntmps17
  go_wp2_with (go_at_call 36;refine(iO _ _ _ af af).mono ?_;rintro e w' ⟨rfl,rfl⟩;have hw1:=hw ⟨af,af⟩)
  all_goals exact bodyPost_ret (v:= .tuple #[.agg #[.int .i64 0, .int .i64 0, .int .i64 0, .int .i64 0, .int .i64 0, .int .i64 0], .int .i64 2]) (by simp [results,Tryd.results17,go_sem]) rfl ⟨rfl,(by repeat (first|exact aJ _ _|assumption|refine Below.drew ?_|refine Below.alloc ?_ (by simp <;> omega) _|refine Below.setCell ?_ (by simp <;> omega) _))⟩
section
set_option maxHeartbeats 1000000
variable {a b:au}
theorem Ga (h:aj a≠0):bG a b=(au.zero,aj a):=by simp [bG,h]
theorem F9 (h:aj a=0) (h2:aj b≠0):bG a b=(au.zero,aj b):=by simp [bG,h,h2]
theorem tF (h:aj a=0):a.ranged:=by
 unfold aj at h
 split at h
 ·assumption
 ·cases h
theorem uV (h:aj a=0) (hc:a.c=0):a=au.zero:=by
 have hr:=tF h
 unfold aj at h
 rw [ar hr,ar hc]at h
 by_cases hz:a=au.zero
 ·exact hz
 ·rw [ai hz]at h;cases h
theorem L9 (h:aj a=0) (h2:aj b=0) (h3:a.c=0):bG a b=(b,0):=by
 by_cases h4:b.c=0
 ·rw [uV h h3,uV h2 h4];decide
 ·simp [bG,h,h2,h3,au.join,h4]
theorem L8 (h:aj a=0) (h2:aj b=0) (h3:b.c=0):bG a b=(a,0):=by
 simp [bG,h,h2,h3,au.join]
theorem yR (h:aj a=0) (h2:aj b=0) (h3:a.c≠0) (h4:b.c≠0) (h5:a.c+b.c>1073741824\/within (a.s+b.s) 1125899906842624=false):bG a b=(au.zero,1):=by
 simp [bG,h,h2,h3,h4,h5]
theorem merge_join (h:aj a=0) (h2:aj b=0) (h3:a.c≠0) (h4:b.c≠0) (h5:a.c+b.c<=1073741824) (h6:within (a.s+b.s) 1125899906842624=true):bG a b=(a.join b,0):=by
 have:¬(a.c+b.c>1073741824\/within (a.s+b.s) 1125899906842624=false):=by simp [h6];omega
 simp [bG,h,h2,h3,h4,this]
def newer (a b:au):Prop:=a.t<b.t\/(a.t=b.t/\a.l<b.l)
theorem DG (h3:a.c≠0) (h4:b.c≠0) (h:newer a b):a.join b=⟨a.c+b.c,a.s+b.s,min a.mi b.mi,max a.ma b.ma,b.t,b.l⟩:=by
 unfold newer at h
 simp only [au.join,h3,h4,if_false,h,if_true]
theorem DF (h3:a.c≠0) (h4:b.c≠0) (h:¬newer a b):a.join b=⟨a.c+b.c,a.s+b.s,min a.mi b.mi,max a.ma b.ma,a.t,a.l⟩:=by
 unfold newer at h
 simp only [au.join,h3,h4,if_false,h]
theorem Ds (a b:au) (w:World) (h:aj a≠0\/aj b≠0\/a.c=0\/b.c=0):Calls Tryd.prog 18 #[.agg #[.int .i64 a.c, .int .i64 a.s, .int .i64 a.mi, .int .i64 a.ma, .int .i64 a.t, .int .i64 a.l], .agg #[.int .i64 b.c, .int .i64 b.s, .int .i64 b.mi, .int .i64 b.ma, .int .i64 b.t, .int .i64 b.l]] w fun e w'=>e = .returned (.tuple #[(bG a b).1.v, .int .i64 (bG a b).2])/\ah w w':=by
 by_cases h1:aj a=0
 ·by_cases h2:aj b=0
  ·by_cases h3:a.c=0
   ·rw [L9 h1 h2 h3]
    have h1':(aj a != 0)=false:=by simp [h1]
    have h2':(aj b != 0)=false:=by simp [h2]
    have h3':(a.c == 0)=true:=by simp [h3]
    clear h h1 h2 h3
    go_enter Tryd.func18,Tryd.ntmps18
    go_wp2_with (go_at_call 37;refine(gP _ _).mono ?_;rintro e w1 ⟨rfl,rfl⟩)
    exact bodyPost_ret (v:= .tuple #[.agg #[.int .i64 b.c, .int .i64 b.s, .int .i64 b.mi, .int .i64 b.ma, .int .i64 b.t, .int .i64 b.l], .int .i64 0]) (by simp [results,Tryd.results18,go_sem]) rfl ⟨rfl,(by repeat (first|exact aJ _ _|assumption|refine Below.drew ?_|refine Below.alloc ?_ (by simp <;> omega) _|refine Below.setCell ?_ (by simp <;> omega) _))⟩
   ·have h4:b.c=0:=af
    rw [L8 h1 h2 h4]
    have h1':(aj a != 0)=false:=by simp [h1]
    have h2':(aj b != 0)=false:=by simp [h2]
    have h3':(a.c == 0)=false:=by simp [h3]
    have h4':(b.c == 0)=true:=by simp [h4]
    clear h h1 h2 h3 h4
    go_enter Tryd.func18,Tryd.ntmps18
    go_wp2_with (go_at_call 37;refine(gP _ _).mono ?_;rintro e w1 ⟨rfl,rfl⟩)
    exact bodyPost_ret (v:= .tuple #[.agg #[.int .i64 a.c, .int .i64 a.s, .int .i64 a.mi, .int .i64 a.ma, .int .i64 a.t, .int .i64 a.l], .int .i64 0]) (by simp [results,Tryd.results18,go_sem]) rfl ⟨rfl,(by repeat (first|exact aJ _ _|assumption|refine Below.drew ?_|refine Below.alloc ?_ (by simp <;> omega) _|refine Below.setCell ?_ (by simp <;> omega) _))⟩
  ·rw [F9 h1 h2]
   have h1':(aj a != 0)=false:=by simp [h1]
   have h2':(aj b != 0)=true:=by simp [h2]
   clear h h1 h2
   go_enter Tryd.func18,Tryd.ntmps18
   go_wp2_with (go_at_call 37;refine(gP _ _).mono ?_;rintro e w1 ⟨rfl,rfl⟩)
   exact bodyPost_ret (v:= .tuple #[.agg #[.int .i64 0, .int .i64 0, .int .i64 0, .int .i64 0, .int .i64 0, .int .i64 0], .int .i64 (aj b)]) (by simp [results,Tryd.results18,go_sem]) rfl ⟨rfl,(by repeat (first|exact aJ _ _|assumption|refine Below.drew ?_|refine Below.alloc ?_ (by simp <;> omega) _|refine Below.setCell ?_ (by simp <;> omega) _))⟩
 ·rw [Ga h1]
  have h1':(aj a != 0)=true:=by simp [h1]
  clear h h1
  go_enter Tryd.func18,Tryd.ntmps18
  go_wp2_with (go_at_call 37;refine(gP _ _).mono ?_;rintro e w1 ⟨rfl,rfl⟩)
  exact bodyPost_ret (v:= .tuple #[.agg #[.int .i64 0, .int .i64 0, .int .i64 0, .int .i64 0, .int .i64 0, .int .i64 0], .int .i64 (aj a)]) (by simp [results,Tryd.results18,go_sem]) rfl ⟨rfl,(by repeat (first|exact aJ _ _|assumption|refine Below.drew ?_|refine Below.alloc ?_ (by simp <;> omega) _|refine Below.setCell ?_ (by simp <;> omega) _))⟩
theorem F7 (a b:au) (w:World) (h1:aj a=0) (h2:aj b=0) (h3:a.c≠0) (h4:b.c≠0):Calls Tryd.prog 18 #[.agg #[.int .i64 a.c, .int .i64 a.s, .int .i64 a.mi, .int .i64 a.ma, .int .i64 a.t, .int .i64 a.l], .agg #[.int .i64 b.c, .int .i64 b.s, .int .i64 b.mi, .int .i64 b.ma, .int .i64 b.t, .int .i64 b.l]] w fun e w'=>e = .returned (.tuple #[(bG a b).1.v, .int .i64 (bG a b).2])/\ah w w':=by
 have ra:=tF h1
 have rb:=tF h2
 unfold au.ranged at ra rb
 obtain⟨ra1,ra2,ra3,ra4,-⟩:=ra
 obtain⟨YI,rb2,rb3,rb4,-⟩:=rb
 have h1':(aj a != 0)=false:=by simp [h1]
 have h2':(aj b != 0)=false:=by simp [h2]
 have h3':(a.c == 0)=false:=by simp [h3]
 have h4':(b.c == 0)=false:=by simp [h4]
 by_cases h5:a.c+b.c>1073741824
 ·rw [yR h1 h2 h3 h4 (.inl h5)]
  clear h1 h2 h3 h4
  go_enter Tryd.func18,Tryd.ntmps18
  go_wp2_with (go_at_call 37;refine(gP _ _).mono ?_;rintro e w1 ⟨rfl,rfl⟩)
  exact bodyPost_ret (v:= .tuple #[.agg #[.int .i64 0, .int .i64 0, .int .i64 0, .int .i64 0, .int .i64 0, .int .i64 0], .int .i64 1]) (by simp [results,Tryd.results18,go_sem]) rfl ⟨rfl,(by repeat (first|exact aJ _ _|assumption|refine Below.drew ?_|refine Below.alloc ?_ (by simp <;> omega) _|refine Below.setCell ?_ (by simp <;> omega) _))⟩
 ·have Za:a.c+b.c<=1073741824:=af
  clear h5
  cases h6:within (a.s+b.s) 1125899906842624
  ·rw [yR h1 h2 h3 h4 (.inr h6)]
   clear h1 h2 h3 h4
   go_enter Tryd.func18,Tryd.ntmps18
   go_wp2_with (first
    |(go_at_call 36;refine(iO _ _ _ af af).mono ?_;rintro e w' ⟨rfl,rfl⟩)
    |(go_at_call 37;refine(gP _ _).mono ?_;rintro e w1 ⟨rfl,rfl⟩))
   exact bodyPost_ret (v:= .tuple #[.agg #[.int .i64 0, .int .i64 0, .int .i64 0, .int .i64 0, .int .i64 0, .int .i64 0], .int .i64 1]) (by simp [results,Tryd.results18,go_sem]) rfl ⟨rfl,(by repeat (first|exact aJ _ _|assumption|refine Below.drew ?_|refine Below.alloc ?_ (by simp <;> omega) _|refine Below.setCell ?_ (by simp <;> omega) _))⟩
  ·rw [merge_join h1 h2 h3 h4 Za h6]
   have Xb:a.t<b.t\/(a.t=b.t/\a.l<b.l)\/(a.t=b.t/\b.l<=a.l)\/b.t<a.t:=af
   rcases Xb with h7|⟨h7,h8⟩|⟨h7,h8⟩|h7
   ·rw [DG h3 h4 (.inl h7)]
    clear h1 h2 h3 h4
    go_enter Tryd.func18,Tryd.ntmps18
    go_wp2_with (first
     |(go_at_call 36;refine(iO _ _ _ af af).mono ?_;rintro e w' ⟨rfl,rfl⟩)
     |(go_at_call 37;refine(gP _ _).mono ?_;rintro e w1 ⟨rfl,rfl⟩))
    go_region
    all_goals go_wp2
    all_goals exact bodyPost_ret (v:= .tuple #[.agg #[.int .i64 (a.c+b.c), .int .i64 (a.s+b.s), .int .i64 (min a.mi b.mi), .int .i64 (max a.ma b.ma), .int .i64 b.t, .int .i64 b.l], .int .i64 0]) (by simp [results,Tryd.results18,go_sem]) rfl ⟨rfl,(by repeat (first|exact aJ _ _|assumption|refine Below.drew ?_|refine Below.alloc ?_ (by simp <;> omega) _|refine Below.setCell ?_ (by simp <;> omega) _))⟩
   ·rw [DG h3 h4 (.inr ⟨h7,h8⟩)]
    have h7':(b.t == a.t)=true:=by simp [h7]
    have abW:¬a.t<b.t:=af
    clear h1 h2 h3 h4 h7
    go_enter Tryd.func18,Tryd.ntmps18
    go_wp2_with (first
     |(go_at_call 36;refine(iO _ _ _ af af).mono ?_;rintro e w' ⟨rfl,rfl⟩)
     |(go_at_call 37;refine(gP _ _).mono ?_;rintro e w1 ⟨rfl,rfl⟩))
    go_region
    all_goals go_wp2
    all_goals exact bodyPost_ret (v:= .tuple #[.agg #[.int .i64 (a.c+b.c), .int .i64 (a.s+b.s), .int .i64 (min a.mi b.mi), .int .i64 (max a.ma b.ma), .int .i64 b.t, .int .i64 b.l], .int .i64 0]) (by simp [results,Tryd.results18,go_sem]) rfl ⟨rfl,(by repeat (first|exact aJ _ _|assumption|refine Below.drew ?_|refine Below.alloc ?_ (by simp <;> omega) _|refine Below.setCell ?_ (by simp <;> omega) _))⟩
   ·rw [DF h3 h4 (by unfold newer;omega)]
    have h7':(b.t == a.t)=true:=by simp [h7]
    have abW:¬a.t<b.t:=af
    clear h1 h2 h3 h4 h7
    go_enter Tryd.func18,Tryd.ntmps18
    go_wp2_with (first
     |(go_at_call 36;refine(iO _ _ _ af af).mono ?_;rintro e w' ⟨rfl,rfl⟩)
     |(go_at_call 37;refine(gP _ _).mono ?_;rintro e w1 ⟨rfl,rfl⟩))
    exact bodyPost_ret (v:= .tuple #[.agg #[.int .i64 (a.c+b.c), .int .i64 (a.s+b.s), .int .i64 (min a.mi b.mi), .int .i64 (max a.ma b.ma), .int .i64 a.t, .int .i64 a.l], .int .i64 0]) (by simp [results,Tryd.results18,go_sem]) rfl ⟨rfl,(by repeat (first|exact aJ _ _|assumption|refine Below.drew ?_|refine Below.alloc ?_ (by simp <;> omega) _|refine Below.setCell ?_ (by simp <;> omega) _))⟩
   ·rw [DF h3 h4 (by unfold newer;omega)]
    have h7':(b.t == a.t)=false:=by simp;omega
    clear h1 h2 h3 h4
    go_enter Tryd.func18,Tryd.ntmps18
    go_wp2_with (first
     |(go_at_call 36;refine(iO _ _ _ af af).mono ?_;rintro e w' ⟨rfl,rfl⟩)
     |(go_at_call 37;refine(gP _ _).mono ?_;rintro e w1 ⟨rfl,rfl⟩))
    exact bodyPost_ret (v:= .tuple #[.agg #[.int .i64 (a.c+b.c), .int .i64 (a.s+b.s), .int .i64 (min a.mi b.mi), .int .i64 (max a.ma b.ma), .int .i64 a.t, .int .i64 a.l], .int .i64 0]) (by simp [results,Tryd.results18,go_sem]) rfl ⟨rfl,(by repeat (first|exact aJ _ _|assumption|refine Below.drew ?_|refine Below.alloc ?_ (by simp <;> omega) _|refine Below.setCell ?_ (by simp <;> omega) _))⟩
theorem ja (a b:au) (w:World):Calls Tryd.prog 18 #[.agg #[.int .i64 a.c, .int .i64 a.s, .int .i64 a.mi, .int .i64 a.ma, .int .i64 a.t, .int .i64 a.l], .agg #[.int .i64 b.c, .int .i64 b.s, .int .i64 b.mi, .int .i64 b.ma, .int .i64 b.t, .int .i64 b.l]] w fun e w'=>e = .returned (.tuple #[(bG a b).1.v, .int .i64 (bG a b).2])/\ah w w':=by
 by_cases h:aj a≠0\/aj b≠0\/a.c=0\/b.c=0
 ·exact Ds a b w h
 ·simp only [not_or,ne_eq,Decidable.not_not]at h
  exact F7 a b w h.1 h.2.1 h.2.2.1 h.2.2.2
end
abbrev rc (r:au):Obj:= .cells #[.int .i64 r.c, .int .i64 r.s, .int .i64 r.mi, .int .i64 r.ma, .int .i64 r.t, .int .i64 r.l] 42
section
set_option maxRecDepth 100000
set_option maxHeartbeats 1000000
variable {w:World}
theorem eV {v:Value} {xs:List aA} (h:dN 7 56 bj w v xs) :
  Calls Tryd.prog 88 #[v] w fun e w'=>∃v',e = .returned v'/\w'.ownsRow w.heap.size 96 7 v' xs.length (xs.flatMap bj)/\ah w w':=by
 obtain⟨ao,cap,rfl,h1,h2,h3,h4,h5⟩:=id h
 have hnil:∀w,(binOp .eql 63 (.slice ao xs.length cap) (.slice none 0 0)).run Tryd.prog w = .ok (.bool ao.isNone) w:=fun w=>Lib.run_eql_slice_nil w _ _ _ _ _ _ _ Tryd.underlying63
 cases ao with
 |none=>
  have h0:xs.length=0:=by have:=h4 rfl;omega
  obtain rfl:=xN h0
  obtain rfl:cap=0:=h4 rfl
  clear h4 h5
  simp only [Option.isNone_none,List.length_nil]at hnil
  go_enter Tryd.func88,Tryd.ntmps88
  go_wp2_with fail
  go_ret
  exact⟨_,rfl,World.ownsRow_nil _ _ _ _,aJ _ _⟩
 |some ad=>
  obtain⟨_,g1,g2⟩:=h.news (dg)
  obtain⟨i0,z,hi,hz,hz1,hz2,hz3⟩:=cC Tryd.Gp
  simp only [Option.isNone_some]at hnil
  have hown0:(w.alloc (.cells #[] 96)).ownsRow w.heap.size 96 7 (.slice (some ⟨w.heap.size,0,none⟩) 0 0) 0 []:=World.ownsRow_made w #[] 0 aI (by simp [maxLen]) bq
  clear h4 h5
  go_enter Tryd.func88,Tryd.ntmps88
  go_wp2_with (at_builtin;refine wpList_append_own _ rfl _ _ 63 rfl w.heap.size 96 i0 z 7 56 Tryd.underlying63 hi hz hz1 hz2 hz3 aW _ _ _ rfl hown0 ad xs.length cap (xs.flatMap bj) rfl g1 (fun j u hj=>pY (g2 j u hj)) (jf xs) (by unfold maxLen;omega) af bq ?_;intro v' w3 hown' hgrow hv)
  go_ret
  exact⟨v',rfl,by simpa using hown',Below.grown ((aJ _ _).alloc aI _) hgrow bq (fun j hj=>(hown0.lt j hj).1)⟩
theorem dV {v:Value} {xs:List Int} (h:dN 1 8 bV w v xs) :
  Calls Tryd.prog 92 #[v] w fun e w'=>∃v',e = .returned v'/\w'.ownsRow w.heap.size 3 1 v' xs.length (xs.flatMap bV)/\ah w w':=by
 obtain⟨ao,cap,rfl,h1,h2,h3,h4,h5⟩:=id h
 have hnil:∀w,(binOp .eql 82 (.slice ao xs.length cap) (.slice none 0 0)).run Tryd.prog w = .ok (.bool ao.isNone) w:=fun w=>Lib.run_eql_slice_nil w _ _ _ _ _ _ _ Tryd.underlying82
 cases ao with
 |none=>
  have h0:xs.length=0:=by have:=h4 rfl;omega
  obtain rfl:=xN h0
  obtain rfl:cap=0:=h4 rfl
  clear h4 h5
  simp only [Option.isNone_none,List.length_nil]at hnil
  go_enter Tryd.func92,Tryd.ntmps92
  go_wp2_with fail
  go_ret
  exact⟨_,rfl,World.ownsRow_nil _ _ _ _,aJ _ _⟩
 |some ad=>
  obtain⟨_,g1,g2⟩:=h.news (kE)
  obtain⟨i0,z,hi,hz,hz1,hz2,hz3⟩:=cC Tryd.PG
  simp only [Option.isNone_some]at hnil
  have hown0:(w.alloc (.cells #[] 3)).ownsRow w.heap.size 3 1 (.slice (some ⟨w.heap.size,0,none⟩) 0 0) 0 []:=World.ownsRow_made w #[] 0 aI (by simp [maxLen]) bq
  clear h4 h5
  go_enter Tryd.func92,Tryd.ntmps92
  go_wp2_with (at_builtin;refine wpList_append_own _ rfl _ _ 82 rfl w.heap.size 3 i0 z 1 8 Tryd.underlying82 hi hz hz1 hz2 hz3 aW _ _ _ rfl hown0 ad xs.length cap (xs.flatMap bV) rfl g1 (fun j u hj=>pY (g2 j u hj)) (pq xs) (by unfold maxLen;omega) af bq ?_;intro v' w3 hown' hgrow hv)
  go_ret
  exact⟨v',rfl,by simpa using hown',Below.grown ((aJ _ _).alloc aI _) hgrow bq (fun j hj=>(hown0.lt j hj).1)⟩
end
section
set_option maxRecDepth 100000
set_option maxHeartbeats 1000000
variable {xs:List Nd} {B k sz:Nat} {x:Nd} {α:Type} {w w':World}
structure Raw where
 leaf:Bool
 ev:Value
 kv:Value
 dv:Value
 bv:Value
def cL (r:Raw):List Value:=[.bool r.leaf,r.ev,r.kv,r.dv,r.bv]
structure lN (w:World) (r:Raw) (x:Nd):Prop where
 leaf:r.leaf=x.leaf
 aF:eQ w r.ev x.aF
 keys:gu w r.kv x.keys
 kids:gu w r.dv x.kids
 buf:eQ w r.bv x.buf
def wL (w:World) (rs:List Raw) (xs:List Nd):Prop:=rs.length=xs.length/\∀(i:Nat) r x,rs[i]?=some r->xs[i]?=some x->lN w r x
def bu (w:World) (v:Value) (xs:List Nd):Prop:=∃rs,dN 5 104 cL w v rs/\wL w rs xs
def bL (w:World) (v:Value) (t:Tr):Prop:=∃nv,v = .agg #[nv, .int .i64 t.root]/\bu w nv t.nodes
theorem lN.below {r:Raw} (h:lN w r x) (hb:Below B w w') (hB:w.heap.size<=B):lN w' r x:=
 ⟨h.leaf,h.aF.below hb hB,h.keys.below hb hB,h.kids.below hb hB,h.buf.below hb hB⟩
theorem wL.below {rs:List Raw} (h:wL w rs xs) (hb:Below B w w') (hB:w.heap.size<=B):wL w' rs xs:=
 ⟨h.1,fun i r x hr hx=>(h.2 i r x hr hx).below hb hB⟩
theorem bu.below {v:Value} (h:bu w v xs) (hb:Below B w w') (hB:w.heap.size<=B):bu w' v xs:=
 let ⟨rs,h1,h2⟩:=h
 ⟨rs,h1.below hb hB,h2.below hb hB⟩
theorem bL.below {v:Value} {t:Tr} (h:bL w v t) (hb:Below B w w') (hB:w.heap.size<=B):bL w' v t:=
 let ⟨nv,h1,h2⟩:=h
 ⟨nv,h1,h2.below hb hB⟩
theorem dN.one {en:α->List Value} {v:Value} {xs:List α} (h:dN k sz en w v xs):v.oneCell'=true:=by
 obtain⟨ao,cap,rfl,_⟩:=h;rfl
theorem dN.isSlice {en:α->List Value} {v:Value} {xs:List α} (h:dN k sz en w v xs):∃ao cap,v = .slice ao xs.length cap:=by
 obtain⟨ao,cap,rfl,_⟩:=h;exact⟨_,_,rfl⟩
theorem gh (e:Raw):(cL e).length=5:=rfl
theorem lN.one {r:Raw} (h:lN w r x):∀u∈cL r,u.oneCell'=true:=by
 intro u hu
 simp [cL]at hu
 rcases hu with rfl|rfl|rfl|rfl|rfl
 ·rfl
 ·exact h.aF.one
 ·exact h.keys.one
 ·exact h.kids.one
 ·exact h.buf.one
theorem wL.one {rs:List Raw} (h:wL w rs xs):∀u∈rs.flatMap cL,u.oneCell'=true:=by
 intro u hu
 obtain⟨r,hr,hx⟩:=List.mem_flatMap.1 hu
 obtain⟨i,hi,rfl⟩:=kW hr
 have kS:i<xs.length:=by rw [<-h.1];exact hi
 exact(h.2 i rs[i] xs[i] (by simp [hi]) (by simp [kS])).one u hx
theorem Tryd.QO:(Tryd.prog.info? 119).map (fun i=>(i.zero.map (fun z=>z.cells.size),i.size,i.bytes))=some (some 5,5,104):=cy
theorem uS {v:Value} {xs:List Raw} (h:dN 5 104 cL w v xs) (hone:∀u∈xs.flatMap cL,u.oneCell'=true) :
  Calls Tryd.prog 91 #[v] w fun e w'=>∃v',e = .returned v'/\w'.ownsRow w.heap.size 119 5 v' xs.length (xs.flatMap cL)/\ah w w':=by
 obtain⟨ao,cap,rfl,h1,h2,h3,h4,h5⟩:=id h
 have hnil:∀w,(binOp .eql 30 (.slice ao xs.length cap) (.slice none 0 0)).run Tryd.prog w = .ok (.bool ao.isNone) w:=fun w=>Lib.run_eql_slice_nil w _ _ _ _ _ _ _ Tryd.underlying30
 cases ao with
 |none=>
  have h0:xs.length=0:=by have:=h4 rfl;omega
  obtain rfl:=xN h0
  obtain rfl:cap=0:=h4 rfl
  clear h4 h5
  simp only [Option.isNone_none,List.length_nil]at hnil
  go_enter Tryd.func91,Tryd.ntmps91
  go_wp2_with fail
  go_ret
  exact⟨_,rfl,World.ownsRow_nil _ _ _ _,aJ _ _⟩
 |some ad=>
  obtain⟨_,g1,g2⟩:=h.news (gh)
  obtain⟨i0,z,hi,hz,hz1,hz2,hz3⟩:=cC Tryd.QO
  simp only [Option.isNone_some]at hnil
  have hown0:(w.alloc (.cells #[] 119)).ownsRow w.heap.size 119 5 (.slice (some ⟨w.heap.size,0,none⟩) 0 0) 0 []:=World.ownsRow_made w #[] 0 aI (by simp [maxLen]) bq
  clear h4 h5
  go_enter Tryd.func91,Tryd.ntmps91
  go_wp2_with (at_builtin;refine wpList_append_own _ rfl _ _ 30 rfl w.heap.size 119 i0 z 5 104 Tryd.underlying30 hi hz hz1 hz2 hz3 aW _ _ _ rfl hown0 ad xs.length cap (xs.flatMap cL) rfl g1 (fun j u hj=>pY (g2 j u hj)) hone (by unfold maxLen;omega) af bq ?_;intro v' w3 hown' hgrow hv)
  go_ret
  exact⟨v',rfl,by simpa using hown',Below.grown ((aJ _ _).alloc aI _) hgrow bq (fun j hj=>(hown0.lt j hj).1)⟩
theorem Below.trans' {w1 w2:World} (h:Below B w w1) (h':ah w1 w2) (hB:B<=w1.heap.size):Below B w w2:=
 ⟨h'.os.trans h.os,h'.tape.trans h.tape,h'.output.trans h.output,gT h.size h'.size,fun k hk=>(h'.block k af).trans (h.block k hk)⟩
theorem pP {n g cap i:Nat} {e:TypeId} {rs:List Raw} {r:Raw} (h:w.ownsRow B e 5 (.slice (some ⟨g,0,none⟩) n cap) n (rs.flatMap cL)) (_hi:i<n) (hn:n=rs.length) :
  (((((w.setCell ⟨g,i*5,none⟩ (.bool r.leaf)).setCell ⟨g,i*5+1,none⟩ r.ev).setCell ⟨g,i*5+2,none⟩ r.kv).setCell ⟨g,i*5+3,none⟩ r.dv).setCell ⟨g,i*5+4,none⟩ r.bv).ownsRow B e 5 (.slice (some ⟨g,0,none⟩) n cap) n ((rs.set i r).flatMap cL):=by
 obtain⟨hl,⟨h0,_⟩|⟨g',cap',cur,e1,hb,hg,h1,h2,h3,h4⟩⟩:=h
 ·cases h0
 ·cases e1
  refine⟨by rw [nZ gh,zQ,hn], .inr ⟨g,cap,_,rfl,hb,heap_setCell_same (heap_setCell_same (heap_setCell_same (heap_setCell_same (heap_setCell_same hg)))),h1,h2,by simp [h3],?_⟩⟩
  apply List.ext_getElem?
  intro j
  rw [qd]
  have hold:∀j:Nat,(cur.toList.take (n*5))[j]?=(rs.flatMap cL)[j]?:=fun j=>by rw [h4]
  by_cases hj:j<n*5
  ·rw [ar hj]
   have hin:j/5<(rs.set i r).length:=by rw [zQ,<-hn];omega
   have hrt:j%5<5:=Nat.mod_lt _ af
   have hjj:j/5*5+j%5=j:=af
   have hget:∀ys:List Raw,(hy:j/5<ys.length)->(ys.flatMap cL)[j]?=(cL ys[j/5])[j%5]?:=fun ys hy=>by
    have hlt:j%5<(cL ys[j/5]).length:=by rw [gh];exact hrt
    have:=yh gh (xs:=ys) (i:=j/5) (r:=j%5) (x:=ys[j/5]) (u:=(cL ys[j/5])[j%5]) (by simp [hy]) (by simp [hlt])
    rw [hjj]at this
    rw [this];simp [hlt]
   rw [hget _ hin]
   have ho:=hold j
   rw [qd,ar hj,hget _ (by rw [<-hn];omega)]at ho
   by_cases hij:j/5=i
   ·have e2:(rs.set i r)[j/5]=r:=by simp [hij]
    rw [e2]
    have hlen:j<cur.size:=by have:=Nat.mul_le_mul_right 5 h1;omega
    have:j%5=0\/j%5=1\/j%5=2\/j%5=3\/j%5=4:=af
    rcases this with h|h|h|h|h <;> rw [h]
    ·obtain rfl:j=i*5:=af
     simp [cL,hlen]
    ·obtain rfl:j=i*5+1:=af
     simp [cL,hlen]
    ·obtain rfl:j=i*5+2:=af
     simp [cL,hlen]
    ·obtain rfl:j=i*5+3:=af
     simp [cL,hlen]
    ·obtain rfl:j=i*5+4:=af
     simp [cL,hlen]
   ·have e2:(rs.set i r)[j/5]=rs[j/5]'(by rw [<-hn];omega):=by rw [List.getElem_set_ne af]
    rw [e2,<-ho]
    simp only [Array.toList_setIfInBounds,List.getElem?_set]
    have a0:i*5≠j:=af
    have a1:i*5+1≠j:=af
    have a2:i*5+2≠j:=af
    have a3:i*5+3≠j:=af
    have a4:i*5+4≠j:=af
    rw [ai a4,ai a3,ai a2,ai a1,ai a0]
  ·rw [ai hj]
   have:((rs.set i r).flatMap cL)[j]?=none:=by
    apply List.getElem?_eq_none
    rw [nZ gh,zQ,<-hn];omega
   rw [this]
end
section
variable {B:Nat} {X Y:Nat->Prop} {a b c w:World}
theorem aq (w:World) (o:Obj) {n:Nat} (h:n=w.heap.size):(w.alloc o).heap[n]?=some o:=by subst h;show (w.heap.push o)[w.heap.size]?=_;simp
structure aw (X:Nat->Prop) (w w':World):Prop where
 os:w'.os=w.os
 tape:w'.tape=w.tape
 output:w'.output=w.output
 size:w.heap.size<=w'.heap.size
 block:∀b,b<w.heap.size->¬X b->w'.heap[b]?=w.heap[b]?
theorem aw.refl (X:Nat->Prop) (w:World):aw X w w:=⟨rfl,rfl,rfl,kK _,fun _ _ _=>rfl⟩
theorem aw.trans (h:aw X a b) (k:aw X b c):aw X a c:=
 ⟨k.os.trans h.os,k.tape.trans h.tape,k.output.trans h.output,gT h.size k.size,fun i hi hx=>(k.block i (mE hi h.size) hx).trans (h.block i hi hx)⟩
theorem aw.trans' (h:aw X a b) (k:aw Y b c) (hy:∀i,i<a.heap.size->Y i->X i):aw X a c:=
 ⟨k.os.trans h.os,k.tape.trans h.tape,k.output.trans h.output,gT h.size k.size,fun i hi hx=>(k.block i (mE hi h.size) (fun hh=>hx (hy i hi hh))).trans (h.block i hi hx)⟩
theorem aw.mono (h:aw X a b) (hx:∀i,i<a.heap.size->X i->Y i):aw Y a b:=⟨h.os,h.tape,h.output,h.size,fun i hi hy=>h.block i hi (fun hh=>hy (hx i hi hh))⟩
theorem aw.of (h:Below B a b) (hB:a.heap.size<=B):aw X a b:=⟨h.os,h.tape,h.output,h.size,fun i hi _=>h.block i af⟩
theorem aw.alloc (h:aw X a w) (o:Obj):aw X a (w.alloc o):=h.trans (aw.of ((aJ _ w).alloc aI o) aI)
theorem aw.drew (h:aw X a w):aw X a w.drew:=⟨h.os,h.tape,h.output,h.size,h.block⟩
theorem aw.drewN (h:aw X a w) (n:Nat):aw X a (w.drewN n):=⟨h.os,h.tape,h.output,h.size,h.block⟩
theorem aw.setCell (h:aw X a w) {p:Addr} (hp:X p.block\/a.heap.size<=p.block) (u:Value):aw X a (w.setCell p u):=
 ⟨h.os,h.tape,h.output,by rw [ay];exact h.size,fun i hi hx=>(qc w p u i (fun e=>by subst e;rcases hp with hp|hp;exact hx hp;omega)).trans (h.block i hi hx)⟩
theorem aw.below (h:aw X b c) (hb:Below B a b) (hB:B<=b.heap.size) (hx:∀i,X i->B<=i):Below B a c:=
 ⟨h.os.trans hb.os,h.tape.trans hb.tape,h.output.trans hb.output,gT hb.size h.size,fun k hk=>(h.block k af (fun hh=>by have:=hx k hh;omega)).trans (hb.block k hk)⟩
theorem aw.cell (h:aw X a b) (hB:B<a.heap.size) (hx:¬X B) (o:Nat):b.cell? ⟨B,o,none⟩=a.cell? ⟨B,o,none⟩:=World.cell?_of_block (h.block B hB hx)
theorem aw.frozen (h:aw X a b) (hB:B<a.heap.size) (hx:¬X B) (o:Nat):b.frozen? ⟨B,o,none⟩=a.frozen? ⟨B,o,none⟩:=World.frozen?_of_block (h.block B hB hx)
theorem aw.keep (h:aw X a b) (hB:B<a.heap.size) (hx:¬X B) :
  B<b.heap.size/\(∀o,b.cell? ⟨B,o,none⟩=a.cell? ⟨B,o,none⟩)/\(∀o,b.frozen? ⟨B,o,none⟩=a.frozen? ⟨B,o,none⟩):=
 ⟨mE hB h.size,h.cell hB hx,h.frozen hB hx⟩
end
end Go.Proofs.YtmljjfhgciaceaaDoor
