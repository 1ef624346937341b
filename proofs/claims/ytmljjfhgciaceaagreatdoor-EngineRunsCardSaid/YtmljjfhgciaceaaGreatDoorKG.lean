/- Lemmas of the proof. -/
import Derived.Test.YtmljjfhgciaceaaGreatDoorHd
import Derived.Test.YtmljjfhgciaceaaGreatDoorCz
import Derived.Test.YtmljjfhgciaceaaGreatDoorPA
import Derived.Deep.Slices
import Derived.Test.YtmljjfhgciaceaaGreatDoorProg
import Derived.WalkKit
import Derived.WalkLawsBesides
import Derived.WalkSpells
import Derived.BigQuiet
import Derived.Deep.QuietTactic
import Derived.Deep.DeepCutAuto
import Derived.Lib.Hide
import Derived.Deep.LoopGhost
import Derived.Outline
import Derived.Laws.StructEq
import Derived.OwnWalk
import Derived.Lib.LazyBuf
set_option maxRecDepth 100000
set_option maxHeartbeats 1000000
namespace Go.Proofs.YtmljjfhgciaceaaGreatDoor
open Go.ChangeShapes Go.WideShapes Go.ChangeAt Go.RowKit Go.Deep
section
variable {α:Type} {u:Value}
def ct (k sz:Nat) (en:α->List Value) (w:World) (v:Value) (xs:List α):Prop:=
 ∃ao cap,v=ah ao xs cap/\xs.length<=cap/\cap<=9223372036854775807/\xs*sz<=140737488351232/\(ao=none->cap=0) /\
  (0<xs.length->∃b off,ao=some ⟨b,off,none⟩/\b<w.heap.size/\∀i x,xs[i]?=some x->∀j u,(en x)[j]?=some u->w.cell? (b,off+i*k+j)=some u)
theorem ct.below {k sz:Nat} {en:α->List Value} {w w':World} {v:Value} {xs:List α} (h:ct k sz en w v xs) {B:Nat} (hb:Below B w w') (hB:w<=B):ct k sz en w' v xs:=by
 obtain⟨ao,cap,rfl,h1,h2,h3,h4,h5⟩:=h;refine⟨ao,cap,rfl,h1,h2,h3,h4,fun h=>?_⟩;obtain⟨b,off,rfl,hlt,hc⟩:=h5 h;exact⟨b,off,rfl,oI hlt hb.size,fun i x hx j u hu=>(hb.cell (p:=⟨b,_,none⟩) (by show b<B;omega)).trans (hc i x hx j u hu)⟩
theorem ct.nil (k sz:Nat) (en:α->List Value) (w:World):ct k sz en w (az 0 0) ([]:List α):=⟨none,0,rfl,bh,bh,bh,fun _=>rfl,bh⟩
section
variable {H:Type} {enc:TypeId×Value->H} {P:Program} {w:World} {base:Nat} {sp:Nat->Bool} {held:Bool}
theorem Ag {e:TypeId}:∀{ds:List (DataW H)} {d:DataW H},d∈ds->∀m∈d.weights P e,m∈DataW.weightsAll P e ds
 |d'::ds,d,hd,m,hm=>by
  simp only [DataW.weightsAll,kW];rcases fy.1 hd with rfl|hd
  ·exact .inl hm
  ·exact .inr (Ag hd m hm)
theorem cells_lt {b:Nat} {o:Nat} (h:w.cell? (b,o)=some u):b<w:=by
 by_cases hb:b<w
 ·exact hb
 ·simp [World.cell?,Array.getElem?_eq_none (Nat.le_of_not_lt hb)]at h
theorem SQ {a:Addr} {i j:Nat} (h:w.cell? ((a.add i).add j)=some u):a.spot=none\/0<i\/0<j:=by
 by_cases hi:i=0
 ·by_cases hj:j=0
  ·subst hi;subst hj;left;obtain⟨b,o,s⟩:=a
   cases s with
   |none=>rfl
   |some s=>simp [Addr.add,World.cell?]at h;split at h <;> simp at h
  ·exact .inr (.inr ai)
 ·exact .inr (.inl ai)
theorem K3 {t e:TypeId} {k sz fuel:Nat} {cs:List Value} {x:DataW H×List MemPlace} (en:α->List Value) (Q:α->Prop)
  (ht:P.underlying t=some (.slice e)) (hk:P.cellsOf e=k) (iy:0<k) (hsz:P.bytesOf e=sz)
  (h:DataW.trod enc P w base sp held fuel t cs=some x) (hw:∀m∈x.1.weights P t,m<=reachBytes)
  (hel:∀(n:Nat) (cs':List Value) (y:DataW H×List MemPlace),DataW.trod enc P w base sp held n e cs'=some y->(∀m∈y.1.weights P e,m<=reachBytes)->∃a:α,cs'=en a/\Q a) :
  ∃(v:Value) (xs:List α),cs=[v]/\ct k sz en w v xs/\∀a∈xs,Q a:=by
 rcases open_slice ht h with ⟨rfl,_⟩|⟨a,len,cap,m,n,D,Pl,rfl,_,hl,hm,hmm,rfl,hx⟩
 ·exact⟨_,[],rfl,ct.nil _ _ _ _,bh⟩
 ·simp only [DataW.weights,ht]at hw;have hlm:len<=m:=by rw [hmm];split <;> omega
  have aca:∀i,i<len->∃z:α,∃cs',w.cells? base (a.add (i*k)) k=some cs'/\cs'=en z/\Q z:=by
   intro i hi;obtain⟨cs',h1,h2⟩:=hx i ai;rw [hk]at h1;obtain⟨z,hz,hq⟩:=hel n cs' _ h2 (fun m' hm'=>hw m' (by
    simp only [fy,kW];exact .inr (.inl (Ag (ua.2 ⟨i,List.mem_range.2 hi,rfl⟩) m' hm'))))
   exact⟨z,cs',h1,hz,hq⟩
  obtain⟨F,hF⟩:∃F:(i:Nat)->i<len->α,∀i (hi:i<len),∃cs',w.cells? base (a.add (i*k)) k=some cs'/\cs'=en (F i hi)/\Q (F i hi):=
   ⟨fun i hi=>Classical.choose (aca i hi),fun i hi=>Classical.choose_spec (aca i hi)⟩
  have hlen:(List.ofFn fun i:Fin len=>F i.1 i.2).length=len:=bh;have hbytes:=hw _ (List.mem_cons_self ..);simp only [oX,List.length_range,hsz]at hbytes;refine⟨_,List.ofFn fun i:Fin len=>F i.1 i.2,rfl,⟨some a,cap,by rw [hlen],ai,by unfold maxLen at hm;omega,?_,bh,?_⟩,?_⟩
  ·rw [hlen];have:len*sz<=(len+(m-len))*sz:=Nat.mul_le_mul_right _ ai;unfold reachBytes at hbytes;omega
  ·rw [hlen];intro h0;obtain⟨cs0,c0,e0,_⟩:=hF 0 h0;obtain⟨_,l0,g0⟩:=World.cells?_some c0;obtain⟨u0,hu0⟩:∃u,cs0[0]?=some u:=⟨cs0[0]'(by omega),by simp [show 0<cs0.length by omega]⟩;have q0:=(g0 0 ai).trans hu0;have hspot:a.spot=none:=by
    have:=SQ q0;rcases this with h|h|h <;> first|exact h|omega
   obtain⟨b,off,s⟩:=a;simp only at hspot;subst hspot;refine⟨b,off,rfl,?_,?_⟩
   ·simp only [Addr.add]at q0;exact cells_lt (by simpa using q0)
   ·intro i x hxi j u hu;obtain⟨hi,LF⟩:=dW.1 hxi;rw [hlen]at hi;obtain⟨csi,ci,ei,_⟩:=hF i hi;obtain⟨_,li,gi⟩:=World.cells?_some ci;have U4:x=F i hi:=(by rw [<-LF];simp);rw [U4,<-ei]at hu;have hj:j<k:=by
     have:=(dW.1 hu).1;omega
    have:=(gi j hj).trans hu;rw [<-this]
    congr 1
    simp only [Addr.add]
    split <;> split <;> simp_all <;> omega
  ·intro z hz;obtain⟨i,hi⟩:=List.mem_ofFn.1 hz;obtain⟨_,_,_,hq⟩:=hF i.1 i.2;rw [<-hi];exact hq
end
end
def bP (n:Int):List Value:=[af n]
def i64 (n:Int):Prop:=-9223372036854775808<=n/\n<=9223372036854775807
abbrev gM (w:World) (v:Value) (xs:List Int):Prop:=ct 1 8 bP w v xs
theorem KA {H:Type} {P:Program} {ts:List TypeId} {ds:List (DataW H)} (h:(DataW.weightsEach P ts ds).all (·<=reachBytes)=true) {j:Nat} {t:TypeId} {d:DataW H} (ht:ts[j]?=some t) (hd:ds[j]?=some d) :
  ∀m∈d.weights P t,m<=reachBytes:=by
 intro m hm;have:=rH.1 h m (DataW.weights_mem_each ht hd m hm);simpa using this
section
variable {H:Type} {enc:TypeId×Value->H} {w:World} {base:Nat} {sp:Nat->Bool} {held:Bool}
theorem KJ {r:Reach} {b0:Nat} {t e:TypeId} {v v':Value} (ht:Tryz.prog.underlying t=some (.slice e)) (hv:Value.okWide Tryz.prog w r b0 t v) (h:v.cells.toList=[v']):v=v':=by
 obtain⟨a,len,cap,rfl⟩:=okWide_slice ht hv;simpa [Value.cells] using h
end
section
variable {a b:Int} {B:Nat} {e:TypeId} {w:World}
abbrev ax.v (r:ax):Value:= .agg #[af r.c,af r.s,af r.mi,af r.ma,af r.t,af r.l]
theorem ij {k:IntKind} (h:a=b):Ending.returned (.int k a) = .returned (.int k b):=by rw [h]
theorem bz {a b:Bool} (h:a=b):Ending.returned (.bool a) = .returned (.bool b):=by rw [h]
theorem rY {W w2:World} (hb:aq W w2) (hB:B<W) :
  B<w2/\(∀o,w2.cell? ⟨B,o,none⟩=W.cell? ⟨B,o,none⟩)/\(∀o,w2.frozen? ⟨B,o,none⟩=W.frozen? ⟨B,o,none⟩):=
 ⟨oI hB hb.size,fun o=>hb.cell (p:=⟨B,o,none⟩) hB,fun o=>hb.frozen (p:=⟨B,o,none⟩) hB⟩
theorem aM {off:Nat} {c:Array Value} {fr:Nat×Nat} {v:Value} (h:w.heap[B]?=some (.cells c e fr)) :
  (w.setCell (B,off) v).heap[B]?=some (.cells (c.setIfInBounds off v) e fr):=by
 simp [World.setCell,Array.getElem?_modify,h]
theorem aG (w:World) (a:Addr) (v:Value):(w.setCell a v).heap.size=w:=by simp [World.setCell]
theorem jB {a0 a1 a2 a3 a4 a5 v0 v1 v2 v3 v4 v5:Value} {fr:Nat×Nat} (h:w.heap[B]?=some (.cells #[a0,a1,a2,a3,a4,a5] e fr)) :
  ((((((w.setCell (B,0) v0).setCell (B,1) v1).setCell (B,2) v2).setCell (B,3) v3).setCell (B,4) v4).setCell (B,5) v5).heap[B]?=some (.cells #[v0,v1,v2,v3,v4,v5] e fr):=by
 have h:=aM (off:=5) (v:=v5) (aM (off:=4) (v:=v4) (aM (off:=3) (v:=v3) (aM (off:=2) (v:=v2) (aM (off:=1) (v:=v1) (aM (off:=0) (v:=v0) h)))));simpa using h
theorem int_eq {k:IntKind} (h:a=b):Value.int k a=Value.int k b:=by rw [h]
@[go_sem high] theorem Wh {P:Program} {w:World} (ts:Array TypeId) (t:TypeId) (k k':IntKind) (x y:Int):(Builtin.min_ ts t #[.int k x, .int k' y]).run P w = .ok (.int k (min x y)) w:=by
 rw [run_min_int2];congr 2;omega
@[go_sem high] theorem Wi {P:Program} {w:World} (ts:Array TypeId) (t:TypeId) (k k':IntKind) (x y:Int):(Builtin.max_ ts t #[.int k x, .int k' y]).run P w = .ok (.int k (max x y)) w:=by
 rw [run_max_int2];congr 2;omega
end
section
variable {α:Type}
def upd (f:Nat->α) (k:Nat) (v:α):Nat->α:=fun j=>if j=k then v else f j
theorem iq (f:Nat->α) (k:Nat) (v:α):upd f k v k=v:=aw rfl
theorem upd_ne (f:Nat->α) {k j:Nat} (v:α) (h:j≠k):upd f k v j=f j:=ar h
def ny (a b c:α):Nat->α|0=>a|1=>b|_=>c
abbrev cz:Array Value:=#[az 0 0,az 0 0,af 0,az 0 0,af 0,az 0 0,af 0,af 0]
abbrev ey:Value:= .agg #[az 0 0,az 0 0,af 0,az 0 0,af 0,az 0 0,af 0,af 0]
theorem kr {w:World} {B:Nat} {a0 a1 a2 a3 a4 a5 a6 a7 v0 v1 v2 v3 v4 v5 v6 v7:Value} {e:TypeId} {fr:Nat×Nat} (h:w.heap[B]?=some (.cells #[a0,a1,a2,a3,a4,a5,a6,a7] e fr)) :
  ((((((((w.setCell (B,0) v0).setCell (B,1) v1).setCell (B,2) v2).setCell (B,3) v3).setCell (B,4) v4).setCell (B,5) v5).setCell (B,6) v6).setCell (B,7) v7).heap[B]?=some (.cells #[v0,v1,v2,v3,v4,v5,v6,v7] e fr):=by
 have h:=aM (off:=7) (v:=v7) (aM (off:=6) (v:=v6) (aM (off:=5) (v:=v5) (aM (off:=4) (v:=v4) (aM (off:=3) (v:=v3) (aM (off:=2) (v:=v2) (aM (off:=1) (v:=v1) (aM (off:=0) (v:=v0) h)))))));simpa using h
end
theorem oG {B:Nat} {a w:World} (h:Below B a w) (n:Nat):Below B a (w.drewN n):=⟨h.os,h.tape,h.output,h.size,h.block⟩
theorem aj {B:Nat} {w w':World} (h:Below B w w':=by repeat (first|with_reducible exact aW _ _|with_reducible assumption|with_reducible refine oG ?_ _|with_reducible refine Below.drew ?_|with_reducible refine Below.alloc ?_ dI _|with_reducible refine Below.setCell ?_ dI _)):Below B w w':=h
def bu (e:aH):List Value:=[af e.key,af e.is.c,af e.is.s,af e.is.mi,af e.is.ma,af e.is.t,af e.is.l]
abbrev cX (w:World) (v:Value) (xs:List aH):Prop:=ct 7 56 bu w v xs
theorem Tryz.aaX:Tryz.prog.underlying 39=some (.struct (Tryz.prog.fieldsOf 39)):=cV
theorem Tryz.afs:Tryz.prog.underlying 107=some (.struct (Tryz.prog.fieldsOf 107)):=cV
theorem Tryz.acE:Tryz.prog.stoodInHeld 39=false:=cV
theorem Tryz.ahy:Tryz.prog.stoodInHeld 107=false:=cV
theorem rO (d:Nat) (a b:ax) (w:World):(Op.equalIn (d+2) 39 (.agg #[af a.c,af a.s,af a.mi,af a.ma,af a.t,af a.l]) (.agg #[af b.c,af b.s,af b.mi,af b.ma,af b.t,af b.l])).run Tryz.prog w = .ok (decide (a=b)) w:=by
 have u3:=Tryz.underlying3;rw [run_equalIn_struct w (d+1) 39 _ _ Tryz.aaX Tryz.acE];simp only [Program.fieldsOf,Tryz.underlying39];go_simp;obtain⟨a0,a1,a2,a3,a4,a5⟩:=a;obtain⟨b0,b1,b2,b3,b4,b5⟩:=b;simp only [ax.mk.injEq];by_cases h0:a0=b0
 ·by_cases h1:a1=b1
  ·by_cases h2:a2=b2
   ·by_cases h3:a3=b3
    ·by_cases h4:a4=b4
     ·by_cases h5:a5=b5 <;> simp [h0,h1,h2,h3,h4,h5]
     ·simp [h0,h1,h2,h3,h4]
    ·simp [h0,h1,h2,h3]
   ·simp [h0,h1,h2]
  ·simp [h0,h1]
 ·simp [h0]
theorem AY (d:Nat) (e f:aH) (w:World):(Op.equalIn (d+3) 107 (.agg #[af e.key,af e.is.c,af e.is.s,af e.is.mi,af e.is.ma,af e.is.t,af e.is.l]) (.agg #[af f.key,af f.is.c,af f.is.s,af f.is.mi,af f.is.ma,af f.is.t,af f.is.l])).run Tryz.prog w = .ok (decide (e=f)) w:=by
 have u3:=Tryz.underlying3;have hr:=fun w=>rO d e.is f.is w;rw [run_equalIn_struct w (d+2) 107 _ _ Tryz.afs Tryz.ahy];simp only [Program.fieldsOf,Tryz.underlying107];go_simp;obtain⟨e0,e1⟩:=e;obtain⟨f0,f1⟩:=f;simp only [aH.mk.injEq];by_cases h0:e0=f0
 ·by_cases h1:e1=f1 <;> simp [h0,h1]
 ·simp [h0]
theorem Ak (e f:aH) (w:World):(binOp .neq 107 (.agg #[af e.key,af e.is.c,af e.is.s,af e.is.mi,af e.is.ma,af e.is.t,af e.is.l]) (.agg #[af f.key,af f.is.c,af f.is.s,af f.is.mi,af f.is.ma,af f.is.t,af f.is.l])).run Tryz.prog w = .ok (.bool (!decide (e=f))) w:=by
 rw [run_neq_struct,AY 9997];rfl
section
variable {n:Nat} {α:Type} {e:TypeId} {w:World}
theorem qW {α:Type} {en:α->List Value} {k:Nat} (he:∀x,(en x).length=k):∀xs:List α,(xs.flatMap en).length=xs*k
 |[]=>bh
 |x::xs=>by
  rw [fO,dF,qW he xs,he,gD,Nat.add_mul,Nat.one_mul,Nat.add_comm]
theorem Jn {α:Type} {en:α->List Value} {k:Nat} (he:∀x,(en x).length=k):∀{xs:List α} {j:Nat} {u:Value},(xs.flatMap en)[j]?=some u ->
  ∃i x,xs[i]?=some x/\i*k<=j/\j<i*k+k/\(en x)[j-i*k]?=some u
 |[],j,u,h=>by simp at h
 |x::xs,j,u,h=>by
  rw [fO]at h;by_cases hj:j<k
  ·rw [rE (by rw [he];exact hj)]at h;exact⟨0,x,rfl,ai,ai,by simpa using h⟩
  ·rw [xw (by rw [he];omega),he]at h;obtain⟨i,y,h1,h2,h3,h4⟩:=Jn he h;have e1:(i+1)*k=i*k+k:=by rw [Nat.add_mul,Nat.one_mul]
   refine⟨i+1,y,by simpa using h1,ai,ai,?_⟩;have e2:j-(i+1)*k=j-k-i*k:=ai;rw [e2];exact h4
theorem Bu {α:Type} {en:α->List Value} {k:Nat} (he:∀x,(en x).length=k):∀{xs:List α} {i r:Nat} {x:α} {u:Value},xs[i]?=some x->(en x)[r]?=some u->(xs.flatMap en)[i*k+r]?=some u
 |[],i,r,x,u,h,_=>by simp at h
 |y::xs,0,r,x,u,h,hu=>by
  simp only [List.getElem?_cons_zero,iJ]at h;subst h;have hr:=(dW.1 hu).1;rw [fO,Nat.zero_mul,iR,rE hr];exact hu
 |y::xs,i+1,r,x,u,h,hu=>by
  simp only [List.getElem?_cons_succ]at h;have e1:(i+1)*k=i*k+k:=by rw [Nat.add_mul,Nat.one_mul]
  rw [fO,xw (by rw [he];omega),he,show (i+1)*k+r-k=i*k+r from by omega];exact Bu he h hu
theorem ct.news {k sz:Nat} {en:α->List Value} {ad:Addr} {cap:Nat} {xs:List α} (he:∀x,(en x).length=k) (h:ct k sz en w (ah (some ad) n cap) xs) :
  n=xs/\(xs.flatMap en).length=xs*k/\∀j u,(xs.flatMap en)[j]?=some u->w.cell? (ad.add j)=some u:=by
 obtain⟨ao,cap',e,h1,h2,h3,h4,h5⟩:=h;injection e with e1 e2 e3;subst e1 e2 e3;refine⟨rfl,qW he xs,fun j u hj=>?_⟩;obtain⟨i,x,hx,a1,a2,a3⟩:=Jn he hj;obtain⟨hi,_⟩:=dW.1 hx;obtain⟨b,off,e,hb,hc⟩:=h5 ai;injection e with e;subst e;rw [<-hc i x hx (j-i*k) u a3]
 congr 1
 simp only [Addr.add]
 split <;> simp <;> omega
theorem ct.owned {k sz:Nat} {en:α->List Value} {B:Nat} {v:Value} {xs:List α} (he:∀x,(en x).length=k) (h:w.ownsRow B e k v n (xs.flatMap en)) (hn:n=xs)
  (hs:xs*sz<=140737488351232):ct k sz en w v xs:=by
 subst hn;obtain⟨hl,⟨rfl,h0⟩|⟨g,cap,cur,rfl,hb,hg,h1,h2,h3,h4⟩⟩:=h
 ·obtain rfl:=yX h0;exact ct.nil _ _ _ _
 ·refine⟨some (g,0),cap,rfl,h1,by unfold maxLen at h2;exact h2,hs,bh,fun _=>⟨g,0,rfl,?_,fun i x hx j u hu=>?_⟩⟩
  ·exact(eJ.1 hg).1
  ·have hi:=(dW.1 hx).1;have hj:j<k:=by have:=(dW.1 hu).1;rw [he]at this;exact this
   have hf:=Bu he hx hu;rw [<-h4,rF]at hf
   split at hf
   ·simp only [World.cell?,hg];simpa [iR] using hf
   ·cases hf
theorem tG {o:Obj} {a:Addr} {u:Value} (h:w.cell? a=some u):(w.alloc o).cell? a=some u:=
 (((aW w w).alloc aO o).cell (p:=a) (World.block_lt_of_cell? w a h)).trans h
theorem cG {P:Program} {size bytes:Nat} (h:(P.info? e).map (fun i=>(i.zero.map (fun z=>z.cells.size),i.size,i.bytes))=some (some size,size,bytes)) :
  ∃i z,P.info? e=some i/\i.zero=some z/\i.size=size/\i.bytes=bytes/\z.cells.size=size:=by
 obtain⟨i,hi,hzz⟩:=Option.map_eq_some_iff.1 h;simp only [kC]at hzz;obtain⟨z,hz,hzs⟩:=Option.map_eq_some_iff.1 hzz.1;exact⟨i,z,hi,hz,hzz.2.1,hzz.2.2,hzs⟩
theorem cO (e:aH):(bu e).length=7:=rfl
theorem fS (e:Int):(bP e).length=1:=rfl
theorem iW (xs:List aH):∀u∈xs.flatMap bu,u.oneCell'=true:=by
 intro u hu;obtain⟨x,_,hx⟩:=List.mem_flatMap.1 hu;simp [bu]at hx;rcases hx with rfl|rfl|rfl|rfl|rfl|rfl|rfl <;> rfl
theorem nM (xs:List Int):∀u∈xs.flatMap bP,u.oneCell'=true:=by
 intro u hu;obtain⟨x,_,hx⟩:=List.mem_flatMap.1 hu;simp [bP]at hx;subst hx;rfl
theorem Tryz.IU:(Tryz.prog.info? 107).map (fun i=>(i.zero.map (fun z=>z.cells.size),i.size,i.bytes))=some (some 7,7,56):=cV
theorem Tryz.FU:(Tryz.prog.info? 3).map (fun i=>(i.zero.map (fun z=>z.cells.size),i.size,i.bytes))=some (some 1,1,8):=cV
end
section
variable {es:List aH} {B C:Nat} {w w':World}
@[simp,go_sem] theorem pT (w:World):w.drew=w.heap.size:=rfl
structure ay (B:Nat) (w:World) (v:Value) (es:List aH):Prop where
 row:w.ownsRow B 107 7 v es (es.flatMap bu)
theorem ay.nil (B:Nat) (w:World):ay B w (az 0 0) []:=⟨oV _ _ _ _⟩
theorem ay.alloc {v:Value} (h:ay B w v es) (o:Obj):ay B (w.alloc o) v es:=⟨Dn h.row o⟩
theorem ay.block {v:Value} (h:ay B w v es) (hb:∀g,v.ownBlock=some g->w'.heap[g]?=w.heap[g]?):ay B w' v es:=by
 obtain⟨hl,⟨rfl,h0⟩|⟨g,cap,cur,rfl,hB,hg,h1,h2,h3,h4⟩⟩:=h.row
 ·exact⟨⟨hl, .inl ⟨rfl,h0⟩⟩⟩
 ·exact⟨⟨hl, .inr ⟨g,cap,cur,rfl,hB,(hb g rfl).trans hg,h1,h2,h3,h4⟩⟩⟩
theorem ay.drew {v:Value} (h:ay B w v es):ay B w.drew v es:=h.block fun _ _=>rfl
theorem ay.drewN {v:Value} (h:ay B w v es) (n:Nat):ay B (w.drewN n) v es:=h.block fun _ _=>rfl
theorem ay.lt {v:Value} (h:ay B w v es):∀g,v.ownBlock=some g->B<=g/\g<w.heap.size:=World.ownsRow.lt h.row
theorem ay.below {v:Value} (h:ay B w v es) (hb:Below C w w') (hC:w<=C):ay B w' v es:=h.block fun g hg=>hb.block g (by have:=(h.lt g hg).2;omega)
theorem ay.mono {v:Value} (h:ay B w v es) (hC:C<=B):ay C w v es:=by
 obtain⟨hl,⟨rfl,h0⟩|⟨g,cap,cur,rfl,hB,hg,h1,h2,h3,h4⟩⟩:=h.row
 ·exact⟨⟨hl, .inl ⟨rfl,h0⟩⟩⟩
 ·exact⟨⟨hl, .inr ⟨g,cap,cur,rfl,ai,hg,h1,h2,h3,h4⟩⟩⟩
theorem ay.at {v:Value} (h:ay B w v es) (hs:es.length<=1000000):cX w v es:=ct.owned cO h.row rfl ai
theorem ay.isSlice {v:Value} (h:ay B w v es):∃ao cap,v=ah ao es cap:=by
 obtain⟨hl,⟨rfl,h0⟩|⟨g,cap,cur,rfl,_⟩⟩:=h.row
 ·exact⟨none,0,by rw [h0]⟩
 ·exact⟨_,_,rfl⟩
theorem C9 {b:Nat} {o:Option Obj} (h:w.heap[b]?=o):w.drew.heap[b]?=o:=h
theorem E4 {a0 a1 a2 a3 a4 a5 a6 v0 v1 v2 v3 v4 v5 v6:Value} {e:TypeId} {fr:Nat×Nat} (h:w.heap[B]?=some (.cells #[a0,a1,a2,a3,a4,a5,a6] e fr)) :
  (((((((w.setCell (B,0) v0).setCell (B,1) v1).setCell (B,2) v2).setCell (B,3) v3).setCell (B,4) v4).setCell (B,5) v5).setCell (B,6) v6).heap[B]?=some (.cells #[v0,v1,v2,v3,v4,v5,v6] e fr):=by
 have h:=aM (off:=6) (v:=v6) (aM (off:=5) (v:=v5) (aM (off:=4) (v:=v4) (aM (off:=3) (v:=v3) (aM (off:=2) (v:=v2) (aM (off:=1) (v:=v1) (aM (off:=0) (v:=v0) h))))));simpa using h
theorem ik {e:aH} {T:TypeId} {j:Nat} {u:Value} (h:(bu e)[j]?=some u) :
  (w.alloc (.cells #[af e.key,af e.is.c,af e.is.s,af e.is.mi,af e.is.ma,af e.is.t,af e.is.l] T)).cell? (Addr.add (w,0) j)=some u:=by
 have hk:(w.alloc (.cells #[af e.key,af e.is.c,af e.is.s,af e.is.mi,af e.is.ma,af e.is.t,af e.is.l] T)).heap[w.heap.size]?=some (.cells #[af e.key,af e.is.c,af e.is.s,af e.is.mi,af e.is.ma,af e.is.t,af e.is.l] T):=by
  show (w.heap.push _)[w.heap.size]?=_;simp
 have ha:Addr.add (w,0) j=(w,j):=by simp [Addr.add];omega
 rw [ha];simp only [World.cell?,hk];simpa [bu] using h
theorem cg {ops:Array Oper} {rest:List Oper} {o:Oper} {a:Act} {Q:Exit->Act->World->Prop} (hgd:o.guard=none) (s x:Operand)
  (ho:o.op = .call { callee:= .builtin .append,args:=#[s,x],argTypes:=#[35,35] }) (B:Nat) (v:Value) (es:List aH) (hs:a.eval s=v) (hown:ay B w v es)
  (ad:Addr) (e:aH) (hx:a.eval x=ah (some ad) 1 1) (hnews:∀j u,(bu e)[j]?=some u->w.cell? (ad.add j)=some u) (hlen:es.length<=1000000) (hbase:B<=w)
  (h:∀v' w',ay B w' v' (es++[e])->(∀C W,Below C W w->C<=B->Below C W w')->wpList Tryz.prog ops Q rest (a.put o.dst v') w'):wpList Tryz.prog ops Q (o::rest) a w:=by
 obtain⟨i0,z,hi,hz,hz1,hz2,hz3⟩:=cG Tryz.IU;refine wpList_append_own w hgd s x 35 ho B 107 i0 z 7 56 Tryz.underlying35 hi hz hz1 hz2 hz3 bY v es _ hs hown.row ad 1 1 (bu e) hx rfl hnews (iW [e] |> fun h u hu=>h u (by simpa using hu)) iI ai hbase ?_;intro v' w' hown' hg _;refine h v' w' ?_ fun C W hb hC=>nP hb hg ai (fun j hj=>by have:=(hown.lt j hj).1;omega);have:(es++[e]).flatMap bu=es.flatMap bu++bu e:=bh;refine⟨?_⟩;rw [this,dF];exact hown'
end
theorem jT (n m:Int) (w:World) (h0:0<=m) (h1:m<=1125899906842624):Calls Tryz.prog 32 #[af n,af m] w fun e w'=>e = .returned (.bool (within n m))/\w=w':=by
 by_cases h : -m<=n
 ·go_enter Tryz.func32,Tryz.ntmps32;go_wp2;go_ret;simp [within,h]
 ·go_enter Tryz.func32,Tryz.ntmps32;go_wp2;go_ret;simp [within];omega
theorem dH (n l h:Int) (w:World):Calls Tryz.prog 51 #[af n,af l,af h] w fun e w'=>e = .returned (.bool (mn n l h))/\w=w':=by
 by_cases h':l<=n
 ·go_enter Tryz.func51,Tryz.ntmps51;go_wp2;go_ret;simp [mn,h']
 ·go_enter Tryz.func51,Tryz.ntmps51;go_wp2;go_ret;simp [mn];omega
theorem iY (r:ax) (w:World):Calls Tryz.prog 31 #[.agg #[af r.c,af r.s,af r.mi,af r.ma,af r.t,af r.l]] w fun e w'=>e = .returned (af (av r))/\w.alloc (.cells #[af r.c,af r.s,af r.mi,af r.ma,af r.t,af r.l] 39)=w':=by
 obtain⟨c,s,mi,ma,t,l⟩:=r;simp only;go_enter Tryz.func31,Tryz.ntmps31;go_wp2_with (go_at_call 32;refine(jT _ _ _ ai ai).mono ?_;rintro e w' ⟨rfl,rfl⟩)
 all_goals (go_ret;refine⟨ij ?_,by first|rfl|simp [*]⟩)
 all_goals (try simp only [Ae]at *)
 all_goals first
  |exact(rc2 (by simp only [ax.ranged];omega)).symm
  |exact(ab1 (by simp only [ax.zero,ax.mk.injEq];omega)).symm
  |exact(ab0 (by simp only [ax.ranged];omega) (by simp only;omega) (by simp only [ax.zero,ne_eq,ax.mk.injEq];omega)).symm
  |skip
 all_goals
  have m1:=pP (c:=c) (m:=mi) ai ai ai ai;have m2:=pP (c:=c) (m:=ma) ai ai ai ai;have e1:=IntWalk.wrap64_in (c*mi) ⟨ai,ai⟩;have e2:=IntWalk.wrap64_in (c*ma) ⟨ai,ai⟩;simp only [e1,e2]at *
  first
  |exact(rc0 (by simp only [ax.ranged];omega) (by simp only;omega) (by simp only [ax.formed];omega)).symm
  |exact(rc4 (by simp only [ax.ranged];omega) (by simp only;omega) (by simp only [ax.formed];omega)).symm
theorem pS (r:ax) (w:World):Calls Tryz.prog 93 #[.agg #[af r.c,af r.s,af r.mi,af r.ma,af r.t,af r.l]] w fun e w'=>e = .returned (af (av r))/\w.alloc (.cells #[af r.c,af r.s,af r.mi,af r.ma,af r.t,af r.l] 39)=w':=by
 obtain⟨c,s,mi,ma,t,l⟩:=r;simp only;go_enter Tryz.func93,Tryz.ntmps93;go_wp2_with (go_at_call 51;refine(dH _ _ _ _).mono ?_;rintro e w' ⟨rfl,rfl⟩)
 all_goals (go_ret;refine⟨ij ?_,by first|rfl|simp [*]⟩)
 all_goals (try simp only [Bool.not_eq_true',Bool.not_eq_false',beq_iff_eq,beq_eq_false_iff_ne,bne_iff_ne,bne_eq_false_iff_eq,ne_eq,gX,nK]at *)
 all_goals first
  |exact(rc2 (by simp only [ax.ranged];omega)).symm
  |exact(ab1 (by simp only [ax.zero,ax.mk.injEq];omega)).symm
  |exact(ab0 (by simp only [ax.ranged];omega) (by simp only;omega) (by simp only [ax.zero,ne_eq,ax.mk.injEq];omega)).symm
  |skip
 all_goals
  have m1:=pP (c:=c) (m:=mi) ai ai ai ai;have m2:=pP (c:=c) (m:=ma) ai ai ai ai;have e1:=IntWalk.wrap64_in (c*mi) ⟨ai,ai⟩;have e2:=IntWalk.wrap64_in (c*ma) ⟨ai,ai⟩;simp only [e1,e2]at *
  first
  |exact(rc0 (by simp only [ax.ranged];omega) (by simp only;omega) (by simp only [ax.formed];omega)).symm
  |exact(rc4 (by simp only [ax.ranged];omega) (by simp only;omega) (by simp only [ax.formed];omega)).symm
theorem K9 (t v:Int) (w:World):Calls Tryz.prog 68 #[af t,af v] w fun e w'=>e = .returned (.tuple #[(ej t v).1.v,af (ej t v).2])/\aq w w':=by
 by_cases h:0<=t/\t<=1048575/\-1000000<=v/\v<=1000000
 ·have hr:ej t v=(⟨1,v,v,v,t,v⟩,0):=by simp [ej,h]
  obtain⟨h1,h2,h3⟩:=h;rw [hr];have hw:within v 1000000=true:=Ae.2 h3;clear hr;go_enter Tryz.func68,Tryz.ntmps68;go_wp2_with (go_at_call 32;refine(jT _ _ _ ai ai).mono ?_;rintro e w' ⟨rfl,rfl⟩);exact bW (v:= .tuple #[.agg #[af 1,af v,af v,af v,af t,af v],af 0]) (by simp [results,Tryz.results68,go_sem]) rfl ⟨rfl,fA⟩
 ·have hr:ej t v=(ax.zero,2):=by simp [ej,h]
  rw [hr];have hw:(0<=t/\t<=1048575)->within v 1000000=false:=fun hh=>Fu.2 ai;clear hr;go_enter Tryz.func68,Tryz.ntmps68;go_wp2_with (go_at_call 32;refine(jT _ _ _ ai ai).mono ?_;rintro e w' ⟨rfl,rfl⟩;have hw1:=hw ⟨ai,ai⟩)
  all_goals exact bW (v:= .tuple #[.agg #[af 0,af 0,af 0,af 0,af 0,af 0],af 2]) (by simp [results,Tryz.results68,go_sem]) rfl ⟨rfl,fA⟩
section
variable {a b:ax}
theorem Ct (h:av a≠0):bF a b=(ax.zero,av a):=by simp [bF,h]
theorem Cs (h:av a=0) (h2:av b≠0):bF a b=(ax.zero,av b):=by simp [bF,h,h2]
theorem qp (h:av a=0):a.ranged:=by
 unfold av at h
 split at h
 ·assumption
 ·cases h
theorem yR (h:av a=0) (hc:a.c=0):a=ax.zero:=by
 have hr:=qp h;unfold av at h;rw [aw hr,aw hc]at h;by_cases hz:a=ax.zero
 ·exact hz
 ·rw [ar hz]at h;cases h
theorem Im (h:av a=0) (h2:av b=0) (h3:a.c=0):bF a b=(b,0):=by
 by_cases h4:b.c=0
 ·rw [yR h h3,yR h2 h4];decide
 ·simp [bF,h,h2,h3,ax.join,h4]
theorem Il (h:av a=0) (h2:av b=0) (h3:b.c=0):bF a b=(a,0):=by
 simp [bF,h,h2,h3,ax.join]
theorem Cr (h:av a=0) (h2:av b=0) (h3:a.c≠0) (h4:b.c≠0) (h5:a.c+b.c>1073741824\/within (a.s+b.s) 1125899906842624=false):bF a b=(ax.zero,1):=by
 simp [bF,h,h2,h3,h4,h5]
theorem merge_join (h:av a=0) (h2:av b=0) (h3:a.c≠0) (h4:b.c≠0) (h5:a.c+b.c<=1073741824) (h6:within (a.s+b.s) 1125899906842624=true):bF a b=(a.join b,0):=by
 have:¬(a.c+b.c>1073741824\/within (a.s+b.s) 1125899906842624=false):=by simp [h6];omega
 simp [bF,h,h2,h3,h4,this]
def newer (a b:ax):Prop:=a.t<b.t\/(a.t=b.t/\a.l<b.l)
theorem IG (h3:a.c≠0) (h4:b.c≠0) (h:newer a b):a.join b=⟨a.c+b.c,a.s+b.s,min a.mi b.mi,max a.ma b.ma,b.t,b.l⟩:=by
 unfold newer at h;simp only [ax.join,h3,h4,if_false,h,if_true]
theorem IE (h3:a.c≠0) (h4:b.c≠0) (h:¬newer a b):a.join b=⟨a.c+b.c,a.s+b.s,min a.mi b.mi,max a.ma b.ma,a.t,a.l⟩:=by
 unfold newer at h;simp only [ax.join,h3,h4,if_false,h]
theorem Ik (a b:ax) (w:World) (h:av a≠0\/av b≠0\/a.c=0\/b.c=0):Calls Tryz.prog 15 #[.agg #[af a.c,af a.s,af a.mi,af a.ma,af a.t,af a.l], .agg #[af b.c,af b.s,af b.mi,af b.ma,af b.t,af b.l]] w fun e w'=>e = .returned (.tuple #[(bF a b).1.v,af (bF a b).2])/\aq w w':=by
 by_cases h1:av a=0
 ·by_cases h2:av b=0
  ·by_cases h3:a.c=0
   ·rw [Im h1 h2 h3];have h1':(av a != 0)=false:=(by simp [h1]);have h2':(av b != 0)=false:=(by simp [h2]);have h3':(a.c == 0)=true:=(by simp [h3]);clear h h1 h2 h3;go_enter Tryz.func15,Tryz.ntmps15;go_wp2_with (go_at_call 31;refine(iY _ _).mono ?_;rintro e w1 ⟨rfl,rfl⟩);exact bW (v:= .tuple #[.agg #[af b.c,af b.s,af b.mi,af b.ma,af b.t,af b.l],af 0]) (by simp [results,Tryz.results15,go_sem]) rfl ⟨rfl,fA⟩
   ·have h4:b.c=0:=ai;rw [Il h1 h2 h4];have h1':(av a != 0)=false:=(by simp [h1]);have h2':(av b != 0)=false:=(by simp [h2]);have h3':(a.c == 0)=false:=(by simp [h3]);have h4':(b.c == 0)=true:=(by simp [h4]);clear h h1 h2 h3 h4;go_enter Tryz.func15,Tryz.ntmps15;go_wp2_with (go_at_call 31;refine(iY _ _).mono ?_;rintro e w1 ⟨rfl,rfl⟩);exact bW (v:= .tuple #[.agg #[af a.c,af a.s,af a.mi,af a.ma,af a.t,af a.l],af 0]) (by simp [results,Tryz.results15,go_sem]) rfl ⟨rfl,fA⟩
  ·rw [Cs h1 h2];have h1':(av a != 0)=false:=by simp [h1]
   have h2':(av b != 0)=true:=by simp [h2]
   clear h h1 h2;go_enter Tryz.func15,Tryz.ntmps15;go_wp2_with (go_at_call 31;refine(iY _ _).mono ?_;rintro e w1 ⟨rfl,rfl⟩);exact bW (v:= .tuple #[.agg #[af 0,af 0,af 0,af 0,af 0,af 0],af (av b)]) (by simp [results,Tryz.results15,go_sem]) rfl ⟨rfl,fA⟩
 ·rw [Ct h1];have h1':(av a != 0)=true:=by simp [h1]
  clear h h1;go_enter Tryz.func15,Tryz.ntmps15;go_wp2_with (go_at_call 31;refine(iY _ _).mono ?_;rintro e w1 ⟨rfl,rfl⟩);exact bW (v:= .tuple #[.agg #[af 0,af 0,af 0,af 0,af 0,af 0],af (av a)]) (by simp [results,Tryz.results15,go_sem]) rfl ⟨rfl,fA⟩
theorem Lj (a b:ax) (w:World) (h1:av a=0) (h2:av b=0) (h3:a.c≠0) (h4:b.c≠0):Calls Tryz.prog 15 #[.agg #[af a.c,af a.s,af a.mi,af a.ma,af a.t,af a.l], .agg #[af b.c,af b.s,af b.mi,af b.ma,af b.t,af b.l]] w fun e w'=>e = .returned (.tuple #[(bF a b).1.v,af (bF a b).2])/\aq w w':=by
 have ra:=qp h1;have rb:=qp h2;unfold ax.ranged at ra rb;obtain⟨ra1,ra2,ra3,ra4,-⟩:=ra;obtain⟨rb1,rb2,rb3,rb4,-⟩:=rb;have h1':(av a != 0)=false:=by simp [h1]
 have h2':(av b != 0)=false:=by simp [h2]
 have h3':(a.c == 0)=false:=by simp [h3]
 have h4':(b.c == 0)=false:=by simp [h4]
 by_cases h5:a.c+b.c>1073741824
 ·rw [Cr h1 h2 h3 h4 (.inl h5)];clear h1 h2 h3 h4;go_enter Tryz.func15,Tryz.ntmps15;go_wp2_with (go_at_call 31;refine(iY _ _).mono ?_;rintro e w1 ⟨rfl,rfl⟩);exact bW (v:= .tuple #[.agg #[af 0,af 0,af 0,af 0,af 0,af 0],af 1]) (by simp [results,Tryz.results15,go_sem]) rfl ⟨rfl,fA⟩
 ·have h5':a.c+b.c<=1073741824:=ai;clear h5
  cases h6:within (a.s+b.s) 1125899906842624
  ·rw [Cr h1 h2 h3 h4 (.inr h6)];clear h1 h2 h3 h4;go_enter Tryz.func15,Tryz.ntmps15;go_wp2_with (first
    |(go_at_call 32;refine(jT _ _ _ ai ai).mono ?_;rintro e w' ⟨rfl,rfl⟩)
    |(go_at_call 31;refine(iY _ _).mono ?_;rintro e w1 ⟨rfl,rfl⟩))
   exact bW (v:= .tuple #[.agg #[af 0,af 0,af 0,af 0,af 0,af 0],af 1]) (by simp [results,Tryz.results15,go_sem]) rfl ⟨rfl,fA⟩
  ·rw [merge_join h1 h2 h3 h4 h5' h6];have acg:a.t<b.t\/(a.t=b.t/\a.l<b.l)\/(a.t=b.t/\b.l<=a.l)\/b.t<a.t:=ai;rcases acg with h7|⟨h7,h8⟩|⟨h7,h8⟩|h7
   ·rw [IG h3 h4 (.inl h7)];clear h1 h2 h3 h4;go_enter Tryz.func15,Tryz.ntmps15;go_wp2_with (first
     |(go_at_call 32;refine(jT _ _ _ ai ai).mono ?_;rintro e w' ⟨rfl,rfl⟩)
     |(go_at_call 31;refine(iY _ _).mono ?_;rintro e w1 ⟨rfl,rfl⟩))
    go_region
    all_goals go_wp2
    all_goals exact bW (v:= .tuple #[.agg #[af (a.c+b.c),af (a.s+b.s),af (min a.mi b.mi),af (max a.ma b.ma),af b.t,af b.l],af 0]) (by simp [results,Tryz.results15,go_sem]) rfl ⟨rfl,fA⟩
   ·rw [IG h3 h4 (.inr ⟨h7,h8⟩)];have h7':(b.t == a.t)=true:=(by simp [h7]);have ahE:¬a.t<b.t:=ai;clear h1 h2 h3 h4 h7;go_enter Tryz.func15,Tryz.ntmps15;go_wp2_with (first
     |(go_at_call 32;refine(jT _ _ _ ai ai).mono ?_;rintro e w' ⟨rfl,rfl⟩)
     |(go_at_call 31;refine(iY _ _).mono ?_;rintro e w1 ⟨rfl,rfl⟩))
    go_region
    all_goals go_wp2
    all_goals exact bW (v:= .tuple #[.agg #[af (a.c+b.c),af (a.s+b.s),af (min a.mi b.mi),af (max a.ma b.ma),af b.t,af b.l],af 0]) (by simp [results,Tryz.results15,go_sem]) rfl ⟨rfl,fA⟩
   ·rw [IE h3 h4 (by unfold newer;omega)];have h7':(b.t == a.t)=true:=(by simp [h7]);have ahE:¬a.t<b.t:=ai;clear h1 h2 h3 h4 h7;go_enter Tryz.func15,Tryz.ntmps15;go_wp2_with (first
     |(go_at_call 32;refine(jT _ _ _ ai ai).mono ?_;rintro e w' ⟨rfl,rfl⟩)
     |(go_at_call 31;refine(iY _ _).mono ?_;rintro e w1 ⟨rfl,rfl⟩))
    exact bW (v:= .tuple #[.agg #[af (a.c+b.c),af (a.s+b.s),af (min a.mi b.mi),af (max a.ma b.ma),af a.t,af a.l],af 0]) (by simp [results,Tryz.results15,go_sem]) rfl ⟨rfl,fA⟩
   ·rw [IE h3 h4 (by unfold newer;omega)];have h7':(b.t == a.t)=false:=(by simp;omega);clear h1 h2 h3 h4;go_enter Tryz.func15,Tryz.ntmps15;go_wp2_with (first
     |(go_at_call 32;refine(jT _ _ _ ai ai).mono ?_;rintro e w' ⟨rfl,rfl⟩)
     |(go_at_call 31;refine(iY _ _).mono ?_;rintro e w1 ⟨rfl,rfl⟩))
    exact bW (v:= .tuple #[.agg #[af (a.c+b.c),af (a.s+b.s),af (min a.mi b.mi),af (max a.ma b.ma),af a.t,af a.l],af 0]) (by simp [results,Tryz.results15,go_sem]) rfl ⟨rfl,fA⟩
theorem lT (a b:ax) (w:World):Calls Tryz.prog 15 #[.agg #[af a.c,af a.s,af a.mi,af a.ma,af a.t,af a.l], .agg #[af b.c,af b.s,af b.mi,af b.ma,af b.t,af b.l]] w fun e w'=>e = .returned (.tuple #[(bF a b).1.v,af (bF a b).2])/\aq w w':=by
 by_cases h:av a≠0\/av b≠0\/a.c=0\/b.c=0
 ·exact Ik a b w h
 ·simp only [not_or,ne_eq,Decidable.not_not]at h;exact Lj a b w h.1 h.2.1 h.2.2.1 h.2.2.2
end
abbrev rc (r:ax):Obj:= .cells #[af r.c,af r.s,af r.mi,af r.ma,af r.t,af r.l] 39
theorem Ch (a b:ax) (w:World) (h:av a≠0\/av b≠0\/a.c=0\/b.c=0):Calls Tryz.prog 52 #[.agg #[af a.c,af a.s,af a.mi,af a.ma,af a.t,af a.l], .agg #[af b.c,af b.s,af b.mi,af b.ma,af b.t,af b.l]] w fun e w'=>e = .returned (.tuple #[(bF a b).1.v,af (bF a b).2])/\aq w w':=by
 by_cases h1:av a=0
 ·by_cases h2:av b=0
  ·by_cases h3:b.c=0
   ·rw [Il h1 h2 h3];have h1':(av a == 0)=true:=(by simp [h1]);have h2':(av b != 0)=false:=(by simp [h2]);have h3':(b.c == 0)=true:=(by simp [h3]);clear h h1 h2 h3;go_enter Tryz.func52,Tryz.ntmps52;go_wp2_with (go_at_call 93;refine(pS _ _).mono ?_;rintro e w1 ⟨rfl,rfl⟩);exact bW (v:= .tuple #[.agg #[af a.c,af a.s,af a.mi,af a.ma,af a.t,af a.l],af 0]) (by simp [results,Tryz.results52,go_sem]) rfl ⟨rfl,fA⟩
   ·have h4:a.c=0:=ai;rw [Im h1 h2 h4];have h1':(av a == 0)=true:=(by simp [h1]);have h2':(av b != 0)=false:=(by simp [h2]);have h3':(b.c == 0)=false:=(by simp [h3]);have h4':(a.c == 0)=true:=(by simp [h4]);clear h h1 h2 h3 h4;go_enter Tryz.func52,Tryz.ntmps52;go_wp2_with (go_at_call 93;refine(pS _ _).mono ?_;rintro e w1 ⟨rfl,rfl⟩);exact bW (v:= .tuple #[.agg #[af b.c,af b.s,af b.mi,af b.ma,af b.t,af b.l],af 0]) (by simp [results,Tryz.results52,go_sem]) rfl ⟨rfl,fA⟩
  ·rw [Cs h1 h2];have h1':(av a == 0)=true:=by simp [h1]
   have h2':(av b != 0)=true:=by simp [h2]
   clear h h1 h2;go_enter Tryz.func52,Tryz.ntmps52;go_wp2_with (go_at_call 93;refine(pS _ _).mono ?_;rintro e w1 ⟨rfl,rfl⟩);exact bW (v:= .tuple #[.agg #[af 0,af 0,af 0,af 0,af 0,af 0],af (av b)]) (by simp [results,Tryz.results52,go_sem]) rfl ⟨rfl,fA⟩
 ·rw [Ct h1];have h1':(av a == 0)=false:=by simp [h1]
  have an6:(av a != 0)=true:=by simp [h1]
  clear h h1;go_enter Tryz.func52,Tryz.ntmps52;go_wp2_with (go_at_call 93;refine(pS _ _).mono ?_;rintro e w1 ⟨rfl,rfl⟩);exact bW (v:= .tuple #[.agg #[af 0,af 0,af 0,af 0,af 0,af 0],af (av a)]) (by simp [results,Tryz.results52,go_sem]) rfl ⟨rfl,fA⟩
theorem D9 (a b:ax) (w:World) (h1:av a=0) (h2:av b=0) (h3:a.c≠0) (h4:b.c≠0):Calls Tryz.prog 52 #[.agg #[af a.c,af a.s,af a.mi,af a.ma,af a.t,af a.l], .agg #[af b.c,af b.s,af b.mi,af b.ma,af b.t,af b.l]] w fun e w'=>e = .returned (.tuple #[(bF a b).1.v,af (bF a b).2])/\aq w w':=by
 have ra:=qp h1;have rb:=qp h2;unfold ax.ranged at ra rb;obtain⟨ra1,ra2,ra3,ra4,-⟩:=ra;obtain⟨rb1,rb2,rb3,rb4,-⟩:=rb;have h1':(av a == 0)=true:=by simp [h1]
 have h2':(av b != 0)=false:=by simp [h2]
 have h3':(a.c == 0)=false:=by simp [h3]
 have h4':(b.c == 0)=false:=by simp [h4]
 obtain⟨T,hT⟩:=bG ((if a.t<b.t\/(a.t=b.t/\a.l<b.l)then b.t else a.t));obtain⟨L,hL⟩:=bG ((if a.t<b.t\/(a.t=b.t/\a.l<b.l)then b.l else a.l));have hj:a.join b=⟨a.c+b.c,a.s+b.s,min a.mi b.mi,max a.ma b.ma,T,L⟩:=by simp [ax.join,h3,h4,hT,hL]
 have hres:bF a b=if a.c+b.c>1073741824\/within (a.s+b.s) 1125899906842624=false then(ax.zero,1) else(⟨a.c+b.c,a.s+b.s,min a.mi b.mi,max a.ma b.ma,T,L⟩,0):=by
  simp [bF,h1,h2,h3,h4,hj]
 obtain⟨X,hX⟩:=bG (bF a b);rw [hX];rw [hres]at hX;have HX:=ag hX;obtain⟨nb,hnb⟩:∃nb:Bool,decide (a.t<b.t\/(a.t=b.t/\a.l<b.l))=nb:=⟨_,rfl⟩;have HN:=ag hnb;have HT:=ag hT;have HL:=ag hL;clear h1 h2 h3 h4 hT hL hj hres hnb hX;go_enter Tryz.func52,Tryz.ntmps52;go_upto_if 43 with (go_at_call 93;refine(pS _ _).mono ?_;rintro e w1 ⟨rfl,rfl⟩);go_cut [] (fun wx=>wx=(((((w.alloc (rc a)).alloc (rc b)).alloc (rc ax.zero)).alloc (rc a)).alloc (rc b)).alloc (rc ⟨a.c+b.c,a.s+b.s,min a.mi b.mi,a.ma,a.t,a.l⟩))
 case first=>
  go_wp2
  all_goals go_meet
  all_goals first|(rw [show min a.mi b.mi=b.mi from by omega];rfl)|(rw [show min a.mi b.mi=a.mi from by omega];rfl)
 simp only [rc,ax.zero]at hcut;subst hcut;go_upto_if 51 with (fail);go_cut [] (fun wx=>wx=(((((w.alloc (rc a)).alloc (rc b)).alloc (rc ax.zero)).alloc (rc a)).alloc (rc b)).alloc (rc ⟨a.c+b.c,a.s+b.s,min a.mi b.mi,max a.ma b.ma,a.t,a.l⟩))
 case first=>
  go_wp2
  all_goals go_meet
  all_goals first|(rw [show max a.ma b.ma=b.ma from by omega];rfl)|(rw [show max a.ma b.ma=a.ma from by omega];rfl)
 simp only [rc,ax.zero]at hcut;subst hcut;go_upto_region 17 with (fail);go_cut [73] (fun c wx=>c = .bool nb/\wx=(((((w.alloc (rc a)).alloc (rc b)).alloc (rc ax.zero)).alloc (rc a)).alloc (rc b)).alloc (rc ⟨a.c+b.c,a.s+b.s,min a.mi b.mi,max a.ma b.ma,a.t,a.l⟩))
 case first=>
  by_cases hq:a.t<b.t
  ·go_wp2;go_meet;exact⟨by rw [<-HN];simp [hq],rfl⟩
  ·by_cases hq2:b.t=a.t
   ·have hq':(b.t == a.t)=true:=(by simp;omega);have HQ:=ag hq2;by_cases hq3:a.l<b.l
    ·clear hq2;go_wp2;go_meet;exact⟨by rw [<-HN];have:=HQ.out;simp;omega,rfl⟩
    ·clear hq2;go_wp2;go_meet;exact⟨by rw [<-HN];have:=HQ.out;simp;omega,rfl⟩
   ·have hq':(b.t == a.t)=false:=(by simp;omega);go_wp2;go_meet;exact⟨by rw [<-HN];simp;omega,rfl⟩
 simp only [rc,ax.zero]at hcut;obtain⟨rfl,hcut⟩:=hcut;subst hcut;go_upto_if 73 with (fail);go_cut [] (fun wx=>wx=(((((w.alloc (rc a)).alloc (rc b)).alloc (rc ax.zero)).alloc (rc a)).alloc (rc b)).alloc (rc ⟨a.c+b.c,a.s+b.s,min a.mi b.mi,max a.ma b.ma,T,L⟩))
 case first=>
  have eT:=HT.out;have eL:=HL.out;have eN:=HN.out
  cases nb
  ·have hn:¬(a.t<b.t\/(a.t=b.t/\a.l<b.l)):=Zj eN;rw [ar hn]at eT eL;have ET:=ag eT;have EL:=ag eL;clear eT eL eN hn;go_wp2;go_meet;rw [<-ET,<-EL];rfl
  ·have hn:(a.t<b.t\/(a.t=b.t/\a.l<b.l)):=kD eN;rw [aw hn]at eT eL;have ET:=ag eT;have EL:=ag eL;clear eT eL eN hn;go_wp2;go_meet;rw [<-ET,<-EL];rfl
 simp only [rc,ax.zero]at hcut;subst hcut;by_cases h5:a.c+b.c>1073741824
 ·have eX:=HX.out;rw [aw (.inl h5)]at eX;have EX:=ag eX;clear eX;go_wp2;exact bW (v:= .tuple #[.agg #[af 0,af 0,af 0,af 0,af 0,af 0],af 1]) (by simp [results,Tryz.results52,go_sem]) rfl ⟨by rw [<-EX];rfl,fA⟩
 ·have h5':a.c+b.c<=1073741824:=ai
  cases h6:within (a.s+b.s) 1125899906842624
  ·have eX:=HX.out;rw [aw (.inr h6)]at eX;have EX:=ag eX;have h6':mn (a.s+b.s) (-1125899906842624) 1125899906842624=false:=h6;clear h5 h6 eX;go_wp2_with (go_at_call 51;refine(dH _ _ _ _).mono ?_;rintro e w' ⟨rfl,rfl⟩);exact bW (v:= .tuple #[.agg #[af 0,af 0,af 0,af 0,af 0,af 0],af 1]) (by simp [results,Tryz.results52,go_sem]) rfl ⟨by rw [<-EX];rfl,fA⟩
  ·have eX:=HX.out;rw [ar (by simp [h6];omega)]at eX;have EX:=ag eX;have h6':mn (a.s+b.s) (-1125899906842624) 1125899906842624=true:=h6;clear h5 h6 eX;go_wp2_with (go_at_call 51;refine(dH _ _ _ _).mono ?_;rintro e w' ⟨rfl,rfl⟩);exact bW (v:= .tuple #[.agg #[af (a.c+b.c),af (a.s+b.s),af (min a.mi b.mi),af (max a.ma b.ma),af T,af L],af 0]) (by simp [results,Tryz.results52,go_sem]) rfl ⟨by rw [<-EX],fA⟩
theorem xU (a b:ax) (w:World):Calls Tryz.prog 52 #[.agg #[af a.c,af a.s,af a.mi,af a.ma,af a.t,af a.l], .agg #[af b.c,af b.s,af b.mi,af b.ma,af b.t,af b.l]] w fun e w'=>e = .returned (.tuple #[(bF a b).1.v,af (bF a b).2])/\aq w w':=by
 by_cases h:av a≠0\/av b≠0\/a.c=0\/b.c=0
 ·exact Ch a b w h
 ·simp only [not_or,ne_eq,Decidable.not_not]at h;exact D9 a b w h.1 h.2.1 h.2.2.1 h.2.2.2
section
variable {w:World}
theorem fT {v:Value} {xs:List aH} (h:ct 7 56 bu w v xs) :
  Calls Tryz.prog 89 #[v] w fun e w'=>∃v',e = .returned v'/\w'.ownsRow w 107 7 v' xs (xs.flatMap bu)/\aq w w':=by
 obtain⟨ao,cap,rfl,h1,h2,h3,h4,h5⟩:=id h;have hnil:∀w,(binOp .eql 35 (ah ao xs cap) (az 0 0)).run Tryz.prog w = .ok (.bool ao.isNone) w:=fun w=>Lib.run_eql_slice_nil w _ _ _ _ _ _ _ Tryz.underlying35
 cases ao with
 |none=>
  have h0:xs.length=0:=by have:=h4 rfl;omega
  obtain rfl:=yX h0;obtain rfl:cap=0:=h4 rfl;clear h4 h5;simp only [Option.isNone_none,List.length_nil]at hnil;go_enter Tryz.func89,Tryz.ntmps89;go_wp2_with fail;go_ret;exact⟨_,rfl,oV _ _ _ _,aW _ _⟩
 |some ad=>
  obtain⟨_,g1,g2⟩:=h.news (cO);obtain⟨i0,z,hi,hz,hz1,hz2,hz3⟩:=cG Tryz.IU;simp only [Option.isNone_some]at hnil;have hown0:(w.alloc (.cells #[] 107)).ownsRow w 107 7 (ah w 0 0) 0 []:=World.ownsRow_made w #[] 0 aO (by simp [maxLen]) bh;clear h4 h5;go_enter Tryz.func89,Tryz.ntmps89;go_wp2_with (at_builtin;refine wpList_append_own _ rfl _ _ 35 rfl w 107 i0 z 7 56 Tryz.underlying35 hi hz hz1 hz2 hz3 bY _ _ _ rfl hown0 ad xs cap (xs.flatMap bu) rfl g1 (fun j u hj=>tG (g2 j u hj)) (iW xs) iI ai bh ?_;intro v' w3 hown' hgrow hv);go_ret;exact⟨v',rfl,by simpa using hown',nP ((aW _ _).alloc aO _) hgrow bh (fun j hj=>(hown0.lt j hj).1)⟩
theorem eQ {v:Value} {xs:List Int} (h:ct 1 8 bP w v xs) :
  Calls Tryz.prog 90 #[v] w fun e w'=>∃v',e = .returned v'/\w'.ownsRow w 3 1 v' xs (xs.flatMap bP)/\aq w w':=by
 obtain⟨ao,cap,rfl,h1,h2,h3,h4,h5⟩:=id h;have hnil:∀w,(binOp .eql 52 (ah ao xs cap) (az 0 0)).run Tryz.prog w = .ok (.bool ao.isNone) w:=fun w=>Lib.run_eql_slice_nil w _ _ _ _ _ _ _ Tryz.underlying52
 cases ao with
 |none=>
  have h0:xs.length=0:=by have:=h4 rfl;omega
  obtain rfl:=yX h0;obtain rfl:cap=0:=h4 rfl;clear h4 h5;simp only [Option.isNone_none,List.length_nil]at hnil;go_enter Tryz.func90,Tryz.ntmps90;go_wp2_with fail;go_ret;exact⟨_,rfl,oV _ _ _ _,aW _ _⟩
 |some ad=>
  obtain⟨_,g1,g2⟩:=h.news (fS);obtain⟨i0,z,hi,hz,hz1,hz2,hz3⟩:=cG Tryz.FU;simp only [Option.isNone_some]at hnil;have hown0:(w.alloc (.cells #[] 3)).ownsRow w 3 1 (ah w 0 0) 0 []:=World.ownsRow_made w #[] 0 aO (by simp [maxLen]) bh;clear h4 h5;go_enter Tryz.func90,Tryz.ntmps90;go_wp2_with (at_builtin;refine wpList_append_own _ rfl _ _ 52 rfl w 3 i0 z 1 8 Tryz.underlying52 hi hz hz1 hz2 hz3 bY _ _ _ rfl hown0 ad xs cap (xs.flatMap bP) rfl g1 (fun j u hj=>tG (g2 j u hj)) (nM xs) iI ai bh ?_;intro v' w3 hown' hgrow hv);go_ret;exact⟨v',rfl,by simpa using hown',nP ((aW _ _).alloc aO _) hgrow bh (fun j hj=>(hown0.lt j hj).1)⟩
end
section
variable {xs:List Nd} {B:Nat} {x:Nd} {α:Type} {w w':World}
structure Raw where
 leaf:Bool
 ev:Value
 kv:Value
 dv:Value
 bv:Value
def bS (r:Raw):List Value:=[.bool r.leaf,r.ev,r.kv,r.dv,r.bv]
structure nS (w:World) (r:Raw) (x:Nd):Prop where
 leaf:r.leaf=x.leaf
 aI:cX w r.ev x.aI
 keys:gM w r.kv x.keys
 kids:gM w r.dv x.kids
 buf:cX w r.bv x.buf
def xC (w:World) (rs:List Raw) (xs:List Nd):Prop:=rs=xs.length/\∀(i:Nat) r x,rs[i]?=some r->xs[i]?=some x->nS w r x
def bn (w:World) (v:Value) (xs:List Nd):Prop:=∃rs,ct 5 104 bS w v rs/\xC w rs xs
def di (w:World) (v:Value) (t:Tr):Prop:=∃nv,v = .agg #[nv,af t.root]/\bn w nv t.nodes
theorem nS.below {r:Raw} (h:nS w r x) (hb:Below B w w') (hB:w<=B):nS w' r x:=
 ⟨h.leaf,h.aI.below hb hB,h.keys.below hb hB,h.kids.below hb hB,h.buf.below hb hB⟩
theorem xC.below {rs:List Raw} (h:xC w rs xs) (hb:Below B w w') (hB:w<=B):xC w' rs xs:=
 ⟨h.1,fun i r x hr hx=>(h.2 i r x hr hx).below hb hB⟩
theorem bn.below {v:Value} (h:bn w v xs) (hb:Below B w w') (hB:w<=B):bn w' v xs:=
 let ⟨rs,h1,h2⟩:=h
 ⟨rs,h1.below hb hB,h2.below hb hB⟩
theorem di.below {v:Value} {t:Tr} (h:di w v t) (hb:Below B w w') (hB:w<=B):di w' v t:=
 let ⟨nv,h1,h2⟩:=h
 ⟨nv,h1,h2.below hb hB⟩
theorem ct.one {k sz:Nat} {en:α->List Value} {v:Value} {xs:List α} (h:ct k sz en w v xs):v.oneCell'=true:=by
 obtain⟨ao,cap,rfl,_⟩:=h;rfl
theorem ct.isSlice {k sz:Nat} {en:α->List Value} {v:Value} {xs:List α} (h:ct k sz en w v xs):∃ao cap,v=ah ao xs cap:=by
 obtain⟨ao,cap,rfl,_⟩:=h;exact⟨_,_,rfl⟩
theorem fR (e:Raw):(bS e).length=5:=rfl
theorem nS.one {r:Raw} (h:nS w r x):∀u∈bS r,u.oneCell'=true:=by
 intro u hu;simp [bS]at hu;rcases hu with rfl|rfl|rfl|rfl|rfl
 ·rfl
 ·exact h.aI.one
 ·exact h.keys.one
 ·exact h.kids.one
 ·exact h.buf.one
theorem xC.one {rs:List Raw} (h:xC w rs xs):∀u∈rs.flatMap bS,u.oneCell'=true:=by
 intro u hu;obtain⟨r,hr,hx⟩:=List.mem_flatMap.1 hu;obtain⟨i,hi,rfl⟩:=nr hr;have jA:i<xs:=by rw [<-h.1];exact hi
 exact(h.2 i rs[i] xs[i] (by simp [hi]) (by simp [jA])).one u hx
theorem Tryz.Nu:(Tryz.prog.info? 125).map (fun i=>(i.zero.map (fun z=>z.cells.size),i.size,i.bytes))=some (some 5,5,104):=cV
theorem yO {v:Value} {xs:List Raw} (h:ct 5 104 bS w v xs) (hone:∀u∈xs.flatMap bS,u.oneCell'=true) :
  Calls Tryz.prog 88 #[v] w fun e w'=>∃v',e = .returned v'/\w'.ownsRow w 125 5 v' xs (xs.flatMap bS)/\aq w w':=by
 obtain⟨ao,cap,rfl,h1,h2,h3,h4,h5⟩:=id h;have hnil:∀w,(binOp .eql 25 (ah ao xs cap) (az 0 0)).run Tryz.prog w = .ok (.bool ao.isNone) w:=fun w=>Lib.run_eql_slice_nil w _ _ _ _ _ _ _ Tryz.underlying25
 cases ao with
 |none=>
  have h0:xs.length=0:=by have:=h4 rfl;omega
  obtain rfl:=yX h0;obtain rfl:cap=0:=h4 rfl;clear h4 h5;simp only [Option.isNone_none,List.length_nil]at hnil;go_enter Tryz.func88,Tryz.ntmps88;go_wp2_with fail;go_ret;exact⟨_,rfl,oV _ _ _ _,aW _ _⟩
 |some ad=>
  obtain⟨_,g1,g2⟩:=h.news (fR);obtain⟨i0,z,hi,hz,hz1,hz2,hz3⟩:=cG Tryz.Nu;simp only [Option.isNone_some]at hnil;have hown0:(w.alloc (.cells #[] 125)).ownsRow w 125 5 (ah w 0 0) 0 []:=World.ownsRow_made w #[] 0 aO (by simp [maxLen]) bh;clear h4 h5;go_enter Tryz.func88,Tryz.ntmps88;go_wp2_with (at_builtin;refine wpList_append_own _ rfl _ _ 25 rfl w 125 i0 z 5 104 Tryz.underlying25 hi hz hz1 hz2 hz3 bY _ _ _ rfl hown0 ad xs cap (xs.flatMap bS) rfl g1 (fun j u hj=>tG (g2 j u hj)) hone iI ai bh ?_;intro v' w3 hown' hgrow hv);go_ret;exact⟨v',rfl,by simpa using hown',nP ((aW _ _).alloc aO _) hgrow bh (fun j hj=>(hown0.lt j hj).1)⟩
theorem aF {w1 w2:World} (h:Below B w w1) (h':aq w1 w2) (hB:B<=w1):Below B w w2:=
 ⟨h'.os.trans h.os,h'.tape.trans h.tape,h'.output.trans h.output,fZ h.size h'.size,fun k hk=>(h'.block k ai).trans (h.block k hk)⟩
theorem td {n g cap i:Nat} {e:TypeId} {rs:List Raw} {r:Raw} (h:w.ownsRow B e 5 (ah g n cap) n (rs.flatMap bS)) (_hi:i<n) (hn:n=rs) :
  (((((w.setCell (g,i*5) (.bool r.leaf)).setCell (g,i*5+1) r.ev).setCell (g,i*5+2) r.kv).setCell (g,i*5+3) r.dv).setCell (g,i*5+4) r.bv).ownsRow B e 5 (ah g n cap) n ((rs.set i r).flatMap bS):=by
 obtain⟨hl,⟨h0,_⟩|⟨g',cap',cur,e1,hb,hg,h1,h2,h3,h4⟩⟩:=h
 ·cases h0
 ·cases e1
  refine⟨by rw [qW fR,xx,hn], .inr ⟨g,cap,_,rfl,hb,aM (aM (aM (aM (aM hg)))),h1,h2,by simp [h3],?_⟩⟩;apply List.ext_getElem?;intro j;rw [rF];have hold:∀j:Nat,(cur.toList.take (n*5))[j]?=(rs.flatMap bS)[j]?:=fun j=>by rw [h4]
  by_cases hj:j<n*5
  ·rw [aw hj];have hin:j/5<(rs.set i r).length:=by rw [xx,<-hn];omega
   have hrt:j%5<5:=Nat.mod_lt _ ai;have hjj:j/5*5+j%5=j:=ai;have hget:∀ys:List Raw,(hy:j/5<ys)->(ys.flatMap bS)[j]?=(bS ys[j/5])[j%5]?:=fun ys hy=>by
    have hlt:j%5<(bS ys[j/5]).length:=(by rw [fR];exact hrt);have:=Bu fR (xs:=ys) (i:=j/5) (r:=j%5) (x:=ys[j/5]) (u:=(bS ys[j/5])[j%5]) (by simp [hy]) (by simp [hlt]);rw [hjj]at this;rw [this];simp [hlt]
   rw [hget _ hin];have ho:=hold j;rw [rF,aw hj,hget _ (by rw [<-hn];omega)]at ho;by_cases hij:j/5=i
   ·have e2:(rs.set i r)[j/5]=r:=(by simp [hij]);rw [e2];have hlen:j<cur.size:=(by have:=Nat.mul_le_mul_right 5 h1;omega);have:j%5=0\/j%5=1\/j%5=2\/j%5=3\/j%5=4:=ai;rcases this with h|h|h|h|h <;> rw [h]
    ·obtain rfl:j=i*5:=ai;simp [bS,hlen]
    ·obtain rfl:j=i*5+1:=ai;simp [bS,hlen]
    ·obtain rfl:j=i*5+2:=ai;simp [bS,hlen]
    ·obtain rfl:j=i*5+3:=ai;simp [bS,hlen]
    ·obtain rfl:j=i*5+4:=ai;simp [bS,hlen]
   ·have e2:(rs.set i r)[j/5]=rs[j/5]'(by rw [<-hn];omega):=(by rw [List.getElem_set_ne ai]);rw [e2,<-ho];simp only [Array.toList_setIfInBounds,List.getElem?_set];have a0:i*5≠j:=ai;have a1:i*5+1≠j:=ai;have a2:i*5+2≠j:=ai;have a3:i*5+3≠j:=ai;have a4:i*5+4≠j:=ai;rw [ar a4,ar a3,ar a2,ar a1,ar a0]
  ·rw [ar hj];have:((rs.set i r).flatMap bS)[j]?=none:=by
    apply List.getElem?_eq_none;rw [qW fR,xx,<-hn];omega
   rw [this]
end
section
variable {B:Nat} {X Y:Nat->Prop} {a b c w:World}
theorem au (w:World) (o:Obj) {n:Nat} (h:n=w):(w.alloc o).heap[n]?=some o:=by subst h;show (w.heap.push o)[w.heap.size]?=_;simp
structure aA (X:Nat->Prop) (w w':World):Prop where
 os:w'.os=w.os
 tape:w'.tape=w.tape
 output:w'.output=w.output
 size:w<=w'.heap.size
 block:∀b,b<w.heap.size->¬X b->w'.heap[b]?=w.heap[b]?
theorem aA.refl (X:Nat->Prop) (w:World):aA X w w:=⟨rfl,rfl,rfl,nu _,fun _ _ _=>rfl⟩
theorem aA.trans (h:aA X a b) (k:aA X b c):aA X a c:=
 ⟨k.os.trans h.os,k.tape.trans h.tape,k.output.trans h.output,fZ h.size k.size,fun i hi hx=>(k.block i (oI hi h.size) hx).trans (h.block i hi hx)⟩
theorem aA.trans' (h:aA X a b) (k:aA Y b c) (hy:∀i,i<a.heap.size->Y i->X i):aA X a c:=
 ⟨k.os.trans h.os,k.tape.trans h.tape,k.output.trans h.output,fZ h.size k.size,fun i hi hx=>(k.block i (oI hi h.size) (fun hh=>hx (hy i hi hh))).trans (h.block i hi hx)⟩
theorem aA.mono (h:aA X a b) (hx:∀i,i<a.heap.size->X i->Y i):aA Y a b:=⟨h.os,h.tape,h.output,h.size,fun i hi hy=>h.block i hi (fun hh=>hy (hx i hi hh))⟩
theorem aA.of (h:Below B a b) (hB:a<=B):aA X a b:=⟨h.os,h.tape,h.output,h.size,fun i hi _=>h.block i ai⟩
theorem aA.alloc (h:aA X a w) (o:Obj):aA X a (w.alloc o):=h.trans (aA.of ((aW _ w).alloc aO o) aO)
theorem aA.drew (h:aA X a w):aA X a w.drew:=⟨h.os,h.tape,h.output,h.size,h.block⟩
theorem aA.drewN (h:aA X a w) (n:Nat):aA X a (w.drewN n):=⟨h.os,h.tape,h.output,h.size,h.block⟩
theorem aA.setCell (h:aA X a w) {p:Addr} (hp:X p.block\/a<=p.block) (u:Value):aA X a (w.setCell p u):=
 ⟨h.os,h.tape,h.output,by rw [aG];exact h.size,fun i hi hx=>(xy w p u i (fun e=>by subst e;rcases hp with hp|hp;exact hx hp;omega)).trans (h.block i hi hx)⟩
theorem aA.below (h:aA X b c) (hb:Below B a b) (hB:B<=b) (hx:∀i,X i->B<=i):Below B a c:=
 ⟨h.os.trans hb.os,h.tape.trans hb.tape,h.output.trans hb.output,fZ hb.size h.size,fun k hk=>(h.block k ai (fun hh=>by have:=hx k hh;omega)).trans (hb.block k hk)⟩
theorem aA.cell (h:aA X a b) (hB:B<a) (hx:¬X B) (o:Nat):b.cell? (B,o)=a.cell? (B,o):=oH (h.block B hB hx)
theorem aA.frozen (h:aA X a b) (hB:B<a) (hx:¬X B) (o:Nat):b.frozen? ⟨B,o,none⟩=a.frozen? ⟨B,o,none⟩:=World.frozen?_of_block (h.block B hB hx)
theorem aA.keep (h:aA X a b) (hB:B<a) (hx:¬X B) :
  B<b/\(∀o,b.cell? ⟨B,o,none⟩=a.cell? ⟨B,o,none⟩)/\(∀o,b.frozen? ⟨B,o,none⟩=a.frozen? ⟨B,o,none⟩):=
 ⟨oI hB h.size,h.cell hB hx,h.frozen hB hx⟩
end
end Go.Proofs.YtmljjfhgciaceaaGreatDoor
