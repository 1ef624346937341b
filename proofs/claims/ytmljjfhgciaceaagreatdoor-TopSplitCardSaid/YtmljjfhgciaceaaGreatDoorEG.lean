/- Texts of mine that come as one: MoP EngA EngQ DecI RowsE Act Run TopP TopQ. -/
import Derived.Test.YtmljjfhgciaceaaGreatDoorHd
import Derived.Test.YtmljjfhgciaceaaGreatDoorMD
import Derived.Test.YtmljjfhgciaceaaGreatDoorKC
import Derived.Test.YtmljjfhgciaceaaGreatDoorEX
import Derived.Test.YtmljjfhgciaceaaGreatDoorKE
import Derived.Test.YtmljjfhgciaceaaGreatDoorKD
import Derived.Test.YtmljjfhgciaceaaGreatDoorTG
import Derived.Test.YtmljjfhgciaceaaGreatDoorBG
import Derived.Test.YtmljjfhgciaceaaGreatDoorPS
import Derived.Test.YtmljjfhgciaceaaGreatDoorKG
import Derived.Test.YtmljjfhgciaceaaGreatDoorDK
import Derived.Maps.AppendAt
import Derived.Test.YtmljjfhgciaceaaGreatDoorSO
import Derived.Deep.CutBlock
namespace Go.Proofs.YtmljjfhgciaceaaGreatDoor
section
variable {b:Ba} {N M:Nat}
structure Mo where
 ns:List ByteArray
 fl:Int
 L:List aA
def Mo.zero:Mo:=⟨[],0,[]⟩
structure Ac where
 k:Int
 s:ByteArray
 t:Int
 z:Int
 sz:Int
 v:Int
structure An where
 code:Int
 is:av
 rows:List aA
noncomputable def Mo.jN (m:Mo) (s:ByteArray) (t v:Int):Int:=
 if dG s=false then 4 else if (eH t v).2≠0 then(eH t v).2 else if t<m.fl then 8 else if aG m.ns s<0/\16<=m.ns.length then 1 else 0
def Mo.add (m:Mo) (s:ByteArray) (t v:Int):Mo:=⟨dA m.ns s,m.fl,ins m.L ⟨aG (dA m.ns s) s*1048576+t,⟨1,v,v,v,t,v⟩⟩⟩
def Mo.um (m:Mo) (s:ByteArray):Int:=if aG m.ns s<0 then 6 else 0
def Mo.eX (m:Mo) (s:ByteArray) (n a z:Int):Int:=if m.um s≠0 then m.um s else if n≠1/\n≠60/\n≠3600 then 3 else if ¬cO a z then 2 else 0
def Mo.rows (m:Mo) (s:ByteArray) (n a z:Int):List aA:=if m.eX s n a z=0 then Ix m.L n (aG m.ns s) a z else []
def Mo.pH (m:Mo) (s:ByteArray) (a z:Int):Int:=if m.um s≠0 then m.um s else if ¬cO a z then 2 else 0
def Mo.KU (m:Mo) (s:ByteArray) (a z:Int):av:=if m.pH s a z=0 then eT m.L (aG m.ns s) a (z+1)else av.zero
def Mo.wC (m:Mo) (t:Int):Int:=if ¬(0<=t/\t<=1048575)then 2 else if t%3600≠0 then 4 else if t<m.fl then 8 else 0
def Mo.exp (m:Mo) (t:Int):Mo:=⟨m.ns,t,m.L.filter (bO t)⟩
def Mo.bytes (m:Mo):List Int:=eJ m.ns m.fl m.L++ki (eJ m.ns m.fl m.L)
structure Mo.Ok (m:Mo) (N:Nat):Prop where
 fit:Fit m.ns m.fl m.L
 fB:fB m.L<=N
structure Is (b:Ba) (m:Mo) (N:Nat):Prop where
 st:Fp b m.L N
 ns:b.names=m.ns
 fl:b.floor=m.fl
theorem Mo.Ok.mono {m:Mo} (h:m.Ok N) (hN:N<=M):m.Ok M:=⟨h.fit,by have:=h.fB;omega⟩
theorem Mo.Ok.len {m:Mo} (h:m.Ok N):m.L.length<=N:=by
 have h1:=DA h.fit.good.1.bP
 have h2:=h.fB
 omega
theorem Mo.IA (N:Nat):Mo.zero.Ok N:=by
 refine⟨⟨?_,?_,?_,?_,?_,?_,⟨?_,?_,?_⟩,?_,?_,?_⟩,?_⟩ <;> simp [Mo.zero,aX,Checked,Go.Proofs.YtmljjfhgciaceaaGreatDoor.fB]
theorem Is.mono {m:Mo} (h:Is b m N) (hN:N<=M):Is b m M:=
 ⟨⟨h.st.may,h.st.book,fun k hk=>by have:=h.st.wt k hk;omega,by have:=h.st.fB;omega⟩,h.ns,h.fl⟩
theorem Is.kn {m:Mo} (h:Is b m N):Kn b m.L N:=h.st.kn
theorem Is.ok {m:Mo} (h:Is b m N) (hN:N<=2900):m.Ok N:=by
 have hb:=dK h.st.may
 have hg:=h.st.bP
 have hl:=h.kn.len
 have hbk:=(lC h.st.book).2
 have hc:=h.st.fB
 refine⟨⟨by rw [<-h.ns];exact hb.n16,fun s hs=>?_,?_,by rw [<-h.fl];exact⟨hb.Zh,hb.XR⟩,by rw [<-h.fl];exact hb.fl2,hg.1,hg.2,af,af,fun e he=>?_⟩,hc⟩
 ·rw [<-h.ns]at hs
  obtain⟨i,hi,rfl⟩:=kS hs
  exact(hb.names i hi).1
 ·rw [<-h.ns]
  exact px.2 fun i j hi hj hij=>(hb.names j hj).2 i hij
 ·have:=py.1 hbk e he
  simp [jm]at this
  rw [h.ns,h.fl]at this
  exact⟨this.1.1,this.1.2,this.2⟩
theorem Is.UY {m:Mo} (h:Is b m N) (s:ByteArray):bU b s=m.um s:=by
 unfold bU Mo.um
 rw [ar h.st.may,h.ns]
theorem Is.Pn {m:Mo} (h:Is b m N) (hN:N<=500) (s:ByteArray) (n a z:Int):Go.Proofs.YtmljjfhgciaceaaGreatDoor.eX b s n a z=m.eX s n a z/\nM b s n a z=m.rows s n a z:=by
 by_cases h1:m.um s≠0
 ·have he:=pJ (b:=b) (s:=s) (n:=n) (a:=a) (z:=z) (by rw [h.UY];exact h1)
  rw [h.UY]at he
  have e1:m.eX s n a z=m.um s:=ar h1
  exact⟨he.1.trans e1.symm,by unfold Mo.rows;rw [e1,ai h1];exact he.2⟩
 ·have h1':m.um s=0:=Decidable.not_not.1 h1
  have hs:bU b s=0:=(h.UY s).trans h1'
  by_cases h2:n≠1/\n≠60/\n≠3600
  ·have he:=yK (a:=a) (z:=z) hs h2
   have e1:m.eX s n a z=3:=by unfold Mo.eX;rw [ai h1,ar h2]
   exact⟨he.1.trans e1.symm,by unfold Mo.rows;rw [e1];exact he.2⟩
  ·obtain⟨k,hk,hn⟩:∃k,k<3/\n=aS k:=by
    rcases wW n with ⟨k,hk,e,-⟩|⟨g1,g2,g3,-⟩
    ·exact⟨k,hk,e⟩
    ·exact absurd ⟨g1,g2,g3⟩ h2
   by_cases h3:cO a z
   ·have hp:0<=aG b.names s:=by
     rcases h.kn.BW s with ⟨-,g⟩|⟨g,-⟩
     ·omega
     ·exact g
    obtain⟨g1,g2⟩:=h.kn.rows hN hp hk h3
    subst hn
    have e1:m.eX s (aS k) a z=0:=by unfold Mo.eX;rw [ai h1,ai h2,ai (iM h3)]
    exact⟨g1.trans e1.symm,by unfold Mo.rows;rw [ar e1,g2,h.ns];rfl⟩
   ·have he:=wZ hs hk hn h3
    have e1:m.eX s n a z=2:=by unfold Mo.eX;rw [ai h1,ai h2,ar h3]
    exact⟨he.1.trans e1.symm,by unfold Mo.rows;rw [e1];exact he.2⟩
theorem Is.VN {m:Mo} (h:Is b m N) (hN:N<=1000000) (s:ByteArray) (a z:Int):mz b s a z=m.pH s a z/\mv b s a z=m.KU s a z:=by
 by_cases h1:m.um s≠0
 ·have he:=pG (b:=b) (s:=s) (a:=a) (z:=z) (by rw [h.UY];exact h1)
  rw [h.UY]at he
  have e1:m.pH s a z=m.um s:=ar h1
  exact⟨he.1.trans e1.symm,by unfold Mo.KU;rw [e1,ai h1];exact he.2⟩
 ·have hs:bU b s=0:=(h.UY s).trans (Decidable.not_not.1 h1)
  by_cases h3:cO a z
  ·have hp:0<=aG b.names s:=by
    rcases h.kn.BW s with ⟨-,g⟩|⟨g,-⟩
    ·omega
    ·exact g
   obtain⟨g1,g2⟩:=h.kn.total hN hp h3
   have e1:m.pH s a z=0:=by unfold Mo.pH;rw [ai h1,ai (iM h3)]
   exact⟨g1.trans e1.symm,by unfold Mo.KU;rw [ar e1,g2,h.ns]⟩
  ·have he:=wV hs h3
   have e1:m.pH s a z=2:=by unfold Mo.pH;rw [ai h1,ar h3]
   exact⟨he.1.trans e1.symm,by unfold Mo.KU;rw [e1];exact he.2⟩
theorem Is.Rx {m:Mo} (h:Is b m N) (s:ByteArray) (t v:Int):jv b s t v=m.jN s t v:=by
 unfold jv Mo.jN
 rw [ai (by simp [h.st.may]),h.ns,h.fl]
theorem Is.Rt {m:Mo} (h:Is b m N) (t:Int):nI b t=m.wC t/\ry b t=(m.exp t).L:=by
 refine⟨?_,?_⟩
 ·unfold nI Mo.wC
  rw [ai (by simp [h.st.may]),h.fl]
 ·unfold ry
  rw [h.st.book];rfl
theorem Is.enc {m:Mo} (h:Is b m N) (hN:N<=500):AG b=0/\AF b=m.bytes:=by
 have hl:=h.kn.len
 have hg:=h.st.bP
 have ho:=h.ok af
 have e:jl b m.L=eJ m.ns m.fl m.L:=by rw [Bv,h.ns,h.fl]
 have hsm:(jl b m.L).length<=30000:=by
  have h1:=uQ (last:=0) hg.2 (Int.le_refl 0)
  have h2:=rW (ns:=b.names) (nS h.st.may)
  have h3:=(dK h.st.may).n16
  have h4:=cd (n:=b.names.length) af
  have h5:=cd (n:=b.floor.toNat) (by have:=(dK h.st.may).XR;omega)
  have h6:=cd (n:=m.L.length) af
  unfold jl
  simp only [eO,fR,List.length_nil]
  omega
 obtain⟨g1,g2⟩:=I1 h.st.may h.st.book af af
 exact⟨g1,by rw [g2,e];rfl⟩
structure St where
 m:Mo
 s:Mo
def St.zero:St:=⟨Mo.zero,Mo.zero⟩
noncomputable def fD (x:St) (a:Ac):St:=
 if a.k=1 then(if x.m.jN a.s a.t a.v=0 then⟨x.m.add a.s a.t a.v,x.s⟩else x)
 else if a.k=4 then(if x.m.wC a.t=0 then⟨x.m.exp a.t,x.s⟩else x)
 else if a.k=5 then⟨x.m,x.m⟩else if a.k=6 then⟨x.s,x.s⟩else x
noncomputable def iN (x:St) (a:Ac):An:=
 if a.k=1 then⟨x.m.jN a.s a.t a.v,av.zero,[]⟩
 else if a.k=2 then⟨x.m.eX a.s a.sz a.t a.z,av.zero,x.m.rows a.s a.sz a.t a.z⟩
 else if a.k=3 then⟨x.m.pH a.s a.t a.z,x.m.KU a.s a.t a.z,[]⟩
 else if a.k=4 then⟨x.m.wC a.t,av.zero,[]⟩
 else if a.k=5\/a.k=6 then⟨0,av.zero,[]⟩ else⟨3,av.zero,[]⟩
noncomputable def iL (x:St) (l:List Ac):St:=l.foldl fD x
noncomputable def lu:St->List Ac->List An
 |_,[]=>[]
 |x,a::l=>iN x a::lu (fD x a) l
theorem na:∀(x:St) (l:List Ac),(lu x l).length=l.length
 |_,[]=>rfl
 |x,a::l=>by rw [lu,fR,fR,na]
theorem qT:∀(x:St) (l r:List Ac),lu x (l++r)=lu x l++lu (iL x l) r
 |_,[],_=>rfl
 |x,a::l,r=>by rw [List.cons_append,lu,lu,qT];rfl
theorem C8 (x:St) (l r:List Ac):iL x (l++r)=iL (iL x l) r:=List.foldl_append
theorem Js (x:St) (l:List Ac) (a:Ac):lu x (l++[a])=lu x l++[iN (iL x l) a]:=by rw [qT];rfl
theorem vN (x:St) (l:List Ac) (a:Ac):iL x (l++[a])=fD (iL x l) a:=by rw [C8];rfl
end
open Go.RowKit
section
set_option maxRecDepth 100000
variable {B M K yc m0 q0 m1 q1 m2 q2 gb N:Nat} {D E:Nat->Prop} {z0 z1 z2:Option Addr} {x:St} {a0 a1 a2 a3 a4 a5 a6 a7 a8 a9:Value} {w w' W1 W2:World}
abbrev Ac.cs (a:Ac):Array Value:=#[.int .i64 a.k, .string a.s, .int .i64 a.t, .int .i64 a.z, .int .i64 a.sz, .int .i64 a.v]
def qD (a:Ac):List Value:=[.int .i64 a.k, .string a.s, .int .i64 a.t, .int .i64 a.z, .int .i64 a.sz, .int .i64 a.v]
theorem xu (a:Ac):(qD a).length=6:=rfl
theorem EG (xs:List Ac):∀u∈xs.flatMap qD,u.oneCell'=true:=by
 intro u hu
 obtain⟨p,_,hp⟩:=List.mem_flatMap.1 hu
 simp only [qD,eZ,List.not_mem_nil,or_false]at hp
 rcases hp with rfl|rfl|rfl|rfl|rfl|rfl <;> rfl
abbrev Ot (w:World) (v:Value) (xs:List Ac):Prop:=dN 6 56 qD w v xs
theorem Tryz.Wf:(Tryz.prog.info? 46).map (fun i=>(i.zero.map (fun z=>z.cells.size),i.size,i.bytes))=some (some 6,6,56):=cv
structure qu where
 an:An
 so:Option Addr
 n:Nat
 c:Nat
abbrev qu.v (q:qu):Value:= .slice q.so q.n q.c
abbrev qu.cs (q:qu):Array Value:=#[.int .i64 q.an.code, .int .i64 q.an.is.c, .int .i64 q.an.is.s, .int .i64 q.an.is.mi, .int .i64 q.an.is.ma, .int .i64 q.an.is.t, .int .i64 q.an.is.l, .slice q.so q.n q.c]
def uS (q:qu):List Value:=[.int .i64 q.an.code, .int .i64 q.an.is.c, .int .i64 q.an.is.s, .int .i64 q.an.is.mi, .int .i64 q.an.is.ma, .int .i64 q.an.is.t, .int .i64 q.an.is.l, .slice q.so q.n q.c]
theorem EF (q:qu):(uS q).length=8:=rfl
theorem Ns (xs:List qu):∀u∈xs.flatMap uS,u.oneCell'=true:=by
 intro u hu
 obtain⟨p,_,hp⟩:=List.mem_flatMap.1 hu
 simp only [uS,eZ,List.not_mem_nil,or_false]at hp
 rcases hp with rfl|rfl|rfl|rfl|rfl|rfl|rfl|rfl <;> rfl
abbrev RY (w:World) (v:Value) (xs:List qu):Prop:=dN 8 80 uS w v xs
theorem Tryz.PL:(Tryz.prog.info? 42).map (fun i=>(i.zero.map (fun z=>z.cells.size),i.size,i.bytes))=some (some 8,8,80):=cv
structure Only (D:Nat->Prop) (w w':World):Prop where
 size:w.heap.size<=w'.heap.size
 block:∀q,q<w.heap.size->¬D q->w'.heap[q]?=w.heap[q]?
theorem Only.refl (D:Nat->Prop) (w:World):Only D w w:=⟨kT _,fun _ _ _=>rfl⟩
theorem Only.trans {a b c:World} (h:Only D a b) (k:Only D b c):Only D a c:=
 ⟨im h.size k.size,fun i hi hx=>(k.block i (mR hi h.size) hx).trans (h.block i hi hx)⟩
theorem Only.of (h:Below B w w') (hB:w.heap.size<=B):Only D w w':=⟨h.size,fun q hq _=>h.block q af⟩
theorem Only.turn {X:Nat->Prop} (h:aw X w w') (hX:∀q,X q->D q):Only D w w':=⟨h.size,fun q hq hd=>h.block q hq fun hx=>hd (hX q hx)⟩
theorem Only.mono (h:Only D w w') (hX:∀q,q<w.heap.size->D q->E q):Only E w w':=⟨h.size,fun q hq hd=>h.block q hq fun hx=>hd (hX q hq hx)⟩
theorem Only.keep (h:Only D w w') (hD:∀q,D q->q<B):aQ B w w':=⟨h.size,fun q hq hs=>h.block q hs fun hd=>by have:=hD q hd;omega⟩
structure mn (gb:Nat) (D:Nat->Prop) (w:World) (x:St) (N:Nat) (b:Ba) (sa:Option Addr) (sc:Nat) (g0:Option Addr) (l0 p0:Nat) (g1:Option Addr) (l1 p1:Nat) (g2:Option Addr) (l2 p2:Nat) (so:Option Addr) (sn sp:Nat) (kp:Bool):Prop where
 box:w.heap[gb]?=some (.cells #[.slice sa b.names.length sc, .slice g0 l0 p0, .int .i64 b.t0.root, .slice g1 l1 p1, .int .i64 b.t1.root, .slice g2 l2 p2, .int .i64 b.t2.root, .int .i64 b.floor, .slice so sn sp, .bool kp] 63)
 is:Is b x.m N
 ok:x.s.Ok N
 base:∀w'',Only D w w''->bQ w'' (.agg (aJ sa b.names.length sc g0 l0 p0 g1 l1 p1 g2 l2 p2 b)) b
 saved:kp=true->∀w'',Only D w w''->fF w'' (.slice so sn sp) x.s.bytes
 U1:kp=false->x.s=Mo.zero
section
variable {gb:Nat} {D:Nat->Prop} {w w':World} {x:St} {N:Nat} {b:Ba} {sa:Option Addr} {sc:Nat} {g0:Option Addr} {l0 p0:Nat} {g1:Option Addr} {l1 p1:Nat} {g2:Option Addr} {l2 p2:Nat} {so:Option Addr} {sn sp:Nat} {kp:Bool}
theorem mn.later (h:mn gb D w x N b sa sc g0 l0 p0 g1 l1 p1 g2 l2 p2 so sn sp kp) (hO:Only D w w') (hg:w'.heap[gb]?=w.heap[gb]?):mn gb D w' x N b sa sc g0 l0 p0 g1 l1 p1 g2 l2 p2 so sn sp kp:=
 ⟨hg.trans h.box,h.is,h.ok,fun w'' hw=>h.base w'' (hO.trans hw),fun hk w'' hw=>h.saved hk w'' (hO.trans hw),h.U1⟩
theorem mn.lt (h:mn gb D w x N b sa sc g0 l0 p0 g1 l1 p1 g2 l2 p2 so sn sp kp):gb<w.heap.size:=(eP.1 h.box).1
theorem mn.below (h:mn gb D w x N b sa sc g0 l0 p0 g1 l1 p1 g2 l2 p2 so sn sp kp) (hb:Below B w w') (hB:w.heap.size<=B):mn gb D w' x N b sa sc g0 l0 p0 g1 l1 p1 g2 l2 p2 so sn sp kp:=
 h.later (Only.of hb hB) (hb.block _ (by have:=h.lt;omega))
theorem mn.mono (h:mn gb D w x N b sa sc g0 l0 p0 g1 l1 p1 g2 l2 p2 so sn sp kp) (hN:N<=M):mn gb D w x M b sa sc g0 l0 p0 g1 l1 p1 g2 l2 p2 so sn sp kp:=
 ⟨h.box,h.is.mono hN,h.ok.mono hN,h.base,h.saved,h.U1⟩
theorem mn.cells (h:mn gb D w x N b sa sc g0 l0 p0 g1 l1 p1 g2 l2 p2 so sn sp kp) :
  w.cell? ⟨gb,0,none⟩=some (.slice sa b.names.length sc)/\w.cell? ⟨gb,1,none⟩=some (.slice g0 l0 p0)/\w.cell? ⟨gb,2,none⟩=some (.int .i64 b.t0.root)/\w.cell? ⟨gb,3,none⟩=some (.slice g1 l1 p1)/\w.cell? ⟨gb,4,none⟩=some (.int .i64 b.t1.root)/\w.cell? ⟨gb,5,none⟩=some (.slice g2 l2 p2)/\w.cell? ⟨gb,6,none⟩=some (.int .i64 b.t2.root)/\w.cell? ⟨gb,7,none⟩=some (.int .i64 b.floor)/\w.cell? ⟨gb,8,none⟩=some (.slice so sn sp)/\w.cell? ⟨gb,9,none⟩=some (.bool kp)/\∀o,w.frozen? ⟨gb,o,none⟩=false:=by
 have h1:=h.box
 simp [World.cell?,World.frozen?,h1]
theorem mn.names (h:mn gb D w x N b sa sc g0 l0 p0 g1 l1 p1 g2 l2 p2 so sn sp kp):∀s∈b.names,s.size<=140737488351232:=fun s hs=>by
 have:=nS h.is.st.may s hs
 omega
def Loc (gb B M:Nat):Nat->Prop:=fun q=>q=gb\/(B<=q/\q<M)
theorem mn.set {y:Mo} {c:Ba} {ya:Option Addr}
  (h:mn gb D w x N b sa sc g0 l0 p0 g1 l1 p1 g2 l2 p2 so sn sp kp) (hD:∀q,D q->q<w.heap.size) (hg:D gb) (hN:N<=M) (h1:ah w W1) (hK:w.heap.size<=K)
  (hc:∀w'',aQ K W1 w''->bQ w'' (.agg (aJ ya c.names.length yc z0 m0 q0 z1 m1 q1 z2 m2 q2 c)) c) (hi:Is c y M) (ht:aw (Loc gb w.heap.size K) W1 W2)
  (hb:W2.heap[gb]?=some (.cells #[.slice ya c.names.length yc, .slice z0 m0 q0, .int .i64 c.t0.root, .slice z1 m1 q1, .int .i64 c.t1.root, .slice z2 m2 q2, .int .i64 c.t2.root, .int .i64 c.floor, .slice so sn sp, .bool kp] 63)) :
  mn gb D W2 ⟨y,x.s⟩ M c ya yc z0 m0 q0 z1 m1 q1 z2 m2 q2 so sn sp kp:=by
 have hgl:=hD gb hg
 have hs1:=h1.size
 have hO2:Only D w W2:=⟨im h1.size ht.size,fun q hq hd=>(ht.block q af (fun hx=>by
  rcases hx with rfl|hx
  ·exact hd hg
  ·omega)).trans (h1.block q hq)⟩
 refine⟨hb,hi,h.ok.mono hN,fun w'' hw=>hc w'' ⟨im ht.size hw.size,fun q hq PV=>?_⟩,fun hk w'' hw=>h.saved hk w'' (hO2.trans hw),h.U1⟩
 rw [hw.block q (mR PV ht.size) fun hd=>by have:=hD q hd;omega]
 exact ht.block q PV fun hx=>by rcases hx with rfl|hx <;> omega
theorem mn.save {ro:Option Addr} {tn tp:Nat} (h:mn gb D w x N b sa sc g0 l0 p0 g1 l1 p1 g2 l2 p2 so sn sp kp) (hN:N<=500) (hD:∀q,D q->q<w.heap.size) (hg:D gb) (h1:ah w W1) (hK:w.heap.size<=K)
  (ho:aC K W1 (.slice ro tn tp) x.m.bytes) (hl:x.m.bytes.length<=1000000) (ht:aw (Loc gb w.heap.size K) W1 W2)
  (hb:W2.heap[gb]?=some (.cells #[.slice sa b.names.length sc, .slice g0 l0 p0, .int .i64 b.t0.root, .slice g1 l1 p1, .int .i64 b.t1.root, .slice g2 l2 p2, .int .i64 b.t2.root, .int .i64 b.floor, .slice ro tn tp, .bool true] 63)) :
  mn gb D W2 ⟨x.m,x.m⟩ N b sa sc g0 l0 p0 g1 l1 p1 g2 l2 p2 ro tn tp true:=by
 have hgl:=hD gb hg
 have hs1:=h1.size
 have hO2:Only D w W2:=⟨im h1.size ht.size,fun q hq hd=>(ht.block q af (fun hx=>by
  rcases hx with rfl|hx
  ·exact hd hg
  ·omega)).trans (h1.block q hq)⟩
 refine⟨hb,h.is,h.is.ok af,fun w'' hw=>h.base w'' (hO2.trans hw),fun _ w'' hw=>(ho.block fun g hg'=>?_).at hl,fun hk=>by cases hk⟩
 obtain⟨q1,q2⟩:=ho.lt g hg'
 rw [hw.block g (mR q2 ht.size) fun hd=>by have:=hD g hd;omega]
 exact ht.block g q2 fun hx=>by rcases hx with rfl|hx <;> omega
end
def rM (gb:Nat) (D:Nat->Prop) (w:World) (x:St) (N:Nat):Prop:=
 ∃b sa sc g0 l0 p0 g1 l1 p1 g2 l2 p2 so sn sp kp,mn gb D w x N b sa sc g0 l0 p0 g1 l1 p1 g2 l2 p2 so sn sp kp
theorem rM.later (h:rM gb D w x N) (hO:Only D w w') (hg:w'.heap[gb]?=w.heap[gb]?):rM gb D w' x N:=by
 obtain⟨b,sa,sc,g0,l0,p0,g1,l1,p1,g2,l2,p2,so,sn,sp,kp,h⟩:=h
 exact⟨b,sa,sc,g0,l0,p0,g1,l1,p1,g2,l2,p2,so,sn,sp,kp,h.later hO hg⟩
theorem rM.mono (h:rM gb D w x N) (hN:N<=M):rM gb D w x M:=by
 obtain⟨b,sa,sc,g0,l0,p0,g1,l1,p1,g2,l2,p2,so,sn,sp,kp,h⟩:=h
 exact⟨b,sa,sc,g0,l0,p0,g1,l1,p1,g2,l2,p2,so,sn,sp,kp,h.mono hN⟩
theorem rM.swap (h:rM gb D w x N) (hD:∀q,q<w.heap.size->E q->D q):rM gb E w x N:=by
 obtain⟨b,sa,sc,g0,l0,p0,g1,l1,p1,g2,l2,p2,so,sn,sp,kp,h⟩:=h
 exact⟨b,sa,sc,g0,l0,p0,g1,l1,p1,g2,l2,p2,so,sn,sp,kp,h.box,h.is,h.ok,fun w'' hw=>h.base w'' (hw.mono hD),fun hk w'' hw=>h.saved hk w'' (hw.mono hD),h.U1⟩
theorem zx {v0 v1 v2 v3 v4 v5 v6 v7:Value} {e:TypeId} {fr:Nat×Nat} (h:w.heap[B]?=some (.cells #[a0,a1,a2,a3,a4,a5,a6,a7,a8,a9] e fr)) :
  ((((((((w.setCell ⟨B,0,none⟩ v0).setCell ⟨B,1,none⟩ v1).setCell ⟨B,2,none⟩ v2).setCell ⟨B,3,none⟩ v3).setCell ⟨B,4,none⟩ v4).setCell ⟨B,5,none⟩ v5).setCell ⟨B,6,none⟩ v6).setCell ⟨B,7,none⟩ v7).heap[B]?=some (.cells #[v0,v1,v2,v3,v4,v5,v6,v7,a8,a9] e fr):=by
 have h:=heap_setCell_same (off:=7) (v:=v7) (heap_setCell_same (off:=6) (v:=v6) (heap_setCell_same (off:=5) (v:=v5) (heap_setCell_same (off:=4) (v:=v4) (heap_setCell_same (off:=3) (v:=v3) (heap_setCell_same (off:=2) (v:=v2) (heap_setCell_same (off:=1) (v:=v1) (heap_setCell_same (off:=0) (v:=v0) h)))))))
 simpa using h
theorem sV {g:Nat} {a:World} (h:aw (fun b=>b=g) a w) (v0 v1 v2 v3 v4 v5 v6 v7:Value) :
  aw (fun b=>b=g) a ((((((((w.setCell ⟨g,0,none⟩ v0).setCell ⟨g,1,none⟩ v1).setCell ⟨g,2,none⟩ v2).setCell ⟨g,3,none⟩ v3).setCell ⟨g,4,none⟩ v4).setCell ⟨g,5,none⟩ v5).setCell ⟨g,6,none⟩ v6).setCell ⟨g,7,none⟩ v7):=
 aw.setCell (aw.setCell (aw.setCell (aw.setCell (aw.setCell (aw.setCell (aw.setCell (aw.setCell h (.inl rfl) _) (.inl rfl) _) (.inl rfl) _) (.inl rfl) _) (.inl rfl) _) (.inl rfl) _) (.inl rfl) _) (.inl rfl) _
theorem Ir {E:Int} (hE:E≠0) :
  Calls Tryz.prog 34 #[.pointer (some ⟨gb,0,none⟩),dH, .int .i64 E] w fun e w'=>e = .returned (.int .i64 E)/\ah w w':=by
 have hd:(E == 0)=false:=by simpa using hE
 go_enter Tryz.func34,Tryz.ntmps34
 go_wp2_with fail
 go_ret
 exact⟨rfl,ag⟩
theorem FH {y:Option Addr} {yn:Nat} {r0 r1 r2 fl:Int} {T:TypeId} (hb:w.heap[gb]?=some (.cells #[a0,a1,a2,a3,a4,a5,a6,a7,a8,a9] T)) :
  Calls Tryz.prog 34 #[.pointer (some ⟨gb,0,none⟩), .agg #[.slice y yn yc, .slice z0 m0 q0, .int .i64 r0, .slice z1 m1 q1, .int .i64 r1, .slice z2 m2 q2, .int .i64 r2, .int .i64 fl], .int .i64 0] w fun e w'=>e = .returned (.int .i64 0)/\aw (fun b=>b=gb) w w'/\w'.heap[gb]?=some (.cells #[.slice y yn yc, .slice z0 m0 q0, .int .i64 r0, .slice z1 m1 q1, .int .i64 r1, .slice z2 m2 q2, .int .i64 r2, .int .i64 fl,a8,a9] T):=by
 have hlt:gb<w.heap.size:=(eP.1 hb).1
 obtain⟨W0,hW0⟩:=bR (w.alloc (.cells #[.slice y yn yc, .slice z0 m0 q0, .int .i64 r0, .slice z1 m1 q1, .int .i64 r1, .slice z2 m2 q2, .int .i64 r2, .int .i64 fl] 30))
 have hT0:aw (fun b=>b=gb) w W0:=by rw [hW0];exact(aw.refl _ _).alloc _
 have kg:W0.heap[gb]?=some (.cells #[a0,a1,a2,a3,a4,a5,a6,a7,a8,a9] T):=by rw [hW0,lI _ _ _ hlt];exact hb
 have kb:W0.heap[w.heap.size]?=some (.cells #[.slice y yn yc, .slice z0 m0 q0, .int .i64 r0, .slice z1 m1 q1, .int .i64 r1, .slice z2 m2 q2, .int .i64 r2, .int .i64 fl] 30):=by rw [hW0];exact aq _ _ rfl
 obtain⟨x0,x1,x2,x3,x4,x5,x6,x7,-⟩:=gS kb
 obtain⟨c0,c1,c2,c3,c4,c5,c6,c7,cf⟩:W0.cell? ⟨gb,0,none⟩=some a0/\W0.cell? ⟨gb,1,none⟩=some a1/\W0.cell? ⟨gb,2,none⟩=some a2/\W0.cell? ⟨gb,3,none⟩=some a3/\W0.cell? ⟨gb,4,none⟩=some a4/\W0.cell? ⟨gb,5,none⟩=some a5/\W0.cell? ⟨gb,6,none⟩=some a6/\W0.cell? ⟨gb,7,none⟩=some a7/\∀o,W0.frozen? ⟨gb,o,none⟩=false:=by simp [World.cell?,World.frozen?,kg]
 have HT:=hdd (aO (sV hT0 (.slice y yn yc) (.slice z0 m0 q0) (.int .i64 r0) (.slice z1 m1 q1) (.int .i64 r1) (.slice z2 m2 q2) (.int .i64 r2) (.int .i64 fl)) (zx (v0:= .slice y yn yc) (v1:= .slice z0 m0 q0) (v2:= .int .i64 r0) (v3:= .slice z1 m1 q1) (v4:= .int .i64 r1) (v5:= .slice z2 m2 q2) (v6:= .int .i64 r2) (v7:= .int .i64 fl) kg))
 clear hT0 kg kb hb
 go_enter Tryz.func34,Tryz.ntmps34
 go_upto_region 1 with (fail)
 rw [<-hW0]
 clear hW0
 go_wp2_with fail
 go_ret
 exact⟨rfl,HT.out.1,HT.out.2⟩
end
section
variable {s:ByteArray} {t n a z:Int}
section
variable {v:Value} {b:Ba} {m:Mo} {N:Nat} {w:World}
def QM (w:World) (m:Mo) (N:Nat) (x:Ending) (w':World):Prop:=ah w w' /\
 ∃b' sa sc g0 l0 p0 g1 l1 p1 g2 l2 p2,x = .returned (.tuple #[.agg (aJ sa b'.names.length sc g0 l0 p0 g1 l1 p1 g2 l2 p2 b'), .int .i64 0])/\(∀w'',aQ w.heap.size w' w''->bQ w'' (.agg (aJ sa b'.names.length sc g0 l0 p0 g1 l1 p1 g2 l2 p2 b')) b')/\Is b' m N
def Ry (w:World) (E:Int) (x:Ending) (w':World):Prop:=ah w w'/\x = .returned (.tuple #[dH, .int .i64 E])
theorem Is.small (h:Is b m N):∀s∈b.names,s.size<=140737488351232:=fun s hs=>by
 have:=nS h.st.may s hs
 omega
theorem Kz (hi:Is b m N) (hN:N<=2900) (h:bQ w v b) (xj:s.size<=140737488351232) (hsz:bS w) (h0:m.jN s t n=0) :
  Calls Tryz.prog 35 #[v, .agg #[.string s, .int .i64 t, .int .i64 n]] w (QM w (m.add s t n) (N+1)):=by
 obtain⟨-,h1,-,h2,h3,h4,h5,h6,-,-,h7⟩:=mS ((hi.Rx s t n).trans h0)
 refine(Hp h hi.small xj hsz hi.st hN h1 h2 h3 h4 h5 h6 h7).mono ?_
 rintro x w' ⟨hb,b',sa,sc,g0,l0,p0,g1,l1,p1,g2,l2,p2,rfl,hk,e1,e2,hst⟩
 refine⟨hb,b',sa,sc,g0,l0,p0,g1,l1,p1,g2,l2,p2,rfl,hk,?_,?_,?_⟩
 ·have e:(m.add s t n).L=ins m.L (cu b s t ⟨1,n,n,n,t,n⟩):=by
   unfold cu
   rw [I6,hi.ns];rfl
  rw [e];exact hst
 ·rw [e1,xC,hi.ns];rfl
 ·rw [e2,hi.fl];rfl
theorem Hs (hi:Is b m N) (h:bQ w v b) (xj:s.size<=140737488351232) (hsz:bS w) (h0:m.jN s t n≠0) :
  Calls Tryz.prog 35 #[v, .agg #[.string s, .int .i64 t, .int .i64 n]] w (Ry w (m.jN s t n)):=by
 have e:=hi.Rx s t n
 refine(xx h hi.small xj hsz).mono ?_
 rintro x w' ⟨hb,⟨-,h2⟩|⟨h1,-⟩⟩
 ·rw [e]at h2;exact⟨hb,h2⟩
 ·exact absurd (e.symm.trans h1) h0
theorem Kb (hi:Is b m N) (hN:N<=2900) (h:bQ w v b) (hsz:bS w) (h0:m.wC t=0) :
  Calls Tryz.prog 38 #[v, .int .i64 t] w (QM w (m.exp t) N):=by
 obtain⟨e1,e2⟩:=hi.Rt t
 have hl:(ry b t).length<=N:=by
  rw [e2]
  have h1:=tQ (bO t) m.L
  have h2:=hi.kn.len
  show (m.L.filter (bO t)).length<=N
  omega
 refine(rA h hi.small hsz).mono ?_
 rintro x w' ⟨hb,⟨h1,-⟩|⟨-,⟨-,h2⟩|⟨b',sa,sc,g0,l0,p0,g1,l1,p1,g2,l2,p2,rfl,hk,q1,q2,q3,q4,q5⟩⟩⟩
 ·exact absurd (e1.trans h0) h1
 ·omega
 ·refine⟨hb,b',sa,sc,g0,l0,p0,g1,l1,p1,g2,l2,p2,rfl,hk,⟨q3,by rw [q4,e2],fun k hk=>?_,?_⟩,?_,?_⟩
  ·have:=q5 k hk;omega
  ·have h1:=rC hi.st.bP.2.1.bP (bO t)
   have h2:=hi.st.fB
   show fB (m.L.filter (bO t))<=_
   omega
  ·rw [q1,hi.ns];rfl
  ·rw [q2];rfl
theorem G7 (hi:Is b m N) (h:bQ w v b) (hsz:bS w) (h0:m.wC t≠0) :
  Calls Tryz.prog 38 #[v, .int .i64 t] w (Ry w (m.wC t)):=by
 have e:=(hi.Rt t).1
 refine(rA h hi.small hsz).mono ?_
 rintro x w' ⟨hb,⟨-,h2⟩|⟨h1,-⟩⟩
 ·rw [e]at h2;exact⟨hb,h2⟩
 ·exact absurd (e.symm.trans h1) h0
theorem Pm (hi:Is b m N) (hN:N<=500) (h:bQ w v b) (hsz:bS w) :
  Calls Tryz.prog 36 #[v, .string s, .int .i64 n, .int .i64 a, .int .i64 z] w fun x w'=>ah w w'/\∃ao c,x = .returned (.tuple #[.slice ao (m.rows s n a z).length c, .int .i64 (m.eX s n a z)])/\OwnRows w.heap.size w' (.slice ao (m.rows s n a z).length c) (m.rows s n a z):=by
 obtain⟨e1,e2⟩:=hi.Pn hN s n a z
 refine(Lr h hi.small hsz).mono ?_
 rintro x w' ⟨hb,v',rfl,ho⟩
 rw [e2]at ho
 obtain⟨ao,c,rfl⟩:=ho.isSlice
 exact⟨hb,ao,c,by rw [e1],ho⟩
theorem Sd (hi:Is b m N) (hN:N<=1000000) (h:bQ w v b) (hsz:bS w) :
  Calls Tryz.prog 37 #[v, .string s, .int .i64 a, .int .i64 z] w fun x w'=>ah w w'/\x = .returned (.tuple #[(m.KU s a z).v, .int .i64 (m.pH s a z)]):=by
 obtain⟨e1,e2⟩:=hi.VN hN s a z
 refine(Jk h hi.small hsz).mono ?_
 rintro x w' ⟨hb,rfl⟩
 exact⟨hb,by rw [e1,e2]⟩
theorem Ud (hi:Is b m N) (hN:N<=500) (h:bQ w v b) (hsz:bS w) :
  Calls Tryz.prog 39 #[v] w fun x w'=>ah w w'/\∃ao c,x = .returned (.tuple #[.slice ao m.bytes.length c, .int .i64 0])/\aC w.heap.size w' (.slice ao m.bytes.length c) m.bytes:=by
 obtain⟨e1,e2⟩:=hi.enc hN
 refine(Hb h hi.small hsz).mono ?_
 rintro x w' ⟨hb,v',rfl,ho⟩
 rw [e2]at ho
 obtain⟨ao,c,rfl⟩:=ho.isSlice
 exact⟨hb,ao,c,by rw [e1],ho⟩
end
end
theorem Ug {v:Value} {m:Mo} {N:Nat} {w:World} (ho:m.Ok N) (hN:N<=500) (h:fF w v m.bytes) (hsz:bS w):Calls Tryz.prog 40 #[v] w (QM w m N):=by
 obtain⟨d0,d1,d2,d3⟩:=ho.fit.dec (by have:=ho.len;omega) (rfl:m.bytes=_)
 refine(He h (Et _ _ _) hsz).mono ?_
 rintro x w' ⟨hb,⟨E,hE,-,h1|⟨-,h1⟩⟩|⟨-,sn,sc,g0,l0,p0,g1,l1,p1,g2,l2,p2,T,hx,hok,hk⟩⟩
 ·exact absurd (h1.symm.trans d0) hE
 ·rw [d1,d2,d3]at h1;exact absurd h1 ho.fit.Py
 ·rw [d1,d2]at hx hk
  rw [d1,d2,d3]at hok
  exact⟨hb,⟨m.ns,T 0,T 1,T 2,m.fl⟩,sn,sc,g0,l0,p0,g1,l1,p1,g2,l2,p2,hx,hk,ho.fit.bst hok ho.len ho.fB,rfl,rfl⟩
section
variable {a:Act} {ops:Array Oper} {Q:Exit->Act->World->Prop} {i:Int} {es:List Ac} {rest:List Oper} {B C j b off k ab bp n cap:Nat} {o:Oper} {T:TypeId} {u:Value} {w w':World}
structure cy (B:Nat) (w:World) (v:Value) (ps:List Ac):Prop where
 row:w.ownsRow B 46 6 v ps.length (ps.flatMap qD)
theorem cy.nil (B:Nat) (w:World):cy B w (.slice none 0 0) []:=⟨World.ownsRow_nil _ _ _ _⟩
theorem cy.block {v:Value} (h:cy B w v es) (hb:∀g,v.ownBlock=some g->w'.heap[g]?=w.heap[g]?):cy B w' v es:=by
 obtain⟨hl,⟨rfl,h0⟩|⟨g,cap,cur,rfl,hB,hg,h1,h2,h3,h4⟩⟩:=h.row
 ·exact⟨⟨hl, .inl ⟨rfl,h0⟩⟩⟩
 ·exact⟨⟨hl, .inr ⟨g,cap,cur,rfl,hB,(hb g rfl).trans hg,h1,h2,h3,h4⟩⟩⟩
theorem cy.alloc {v:Value} (h:cy B w v es) (o:Obj):cy B (w.alloc o) v es:=⟨World.ownsRow.alloc h.row o⟩
theorem cy.lt {v:Value} (h:cy B w v es):∀g,v.ownBlock=some g->B<=g/\g<w.heap.size:=World.ownsRow.lt h.row
theorem cy.below {v:Value} (h:cy B w v es) (hb:Below C w w') (hC:w.heap.size<=C):cy B w' v es:=h.block fun g hg=>hb.block g (by have:=(h.lt g hg).2;omega)
theorem cy.at {v:Value} (h:cy B w v es) (hs:es.length<=1000000):Ot w v es:=dN.owned xu h.row rfl af
theorem cy.isSlice {v:Value} (h:cy B w v es):∃ao cap,v = .slice ao es.length cap:=by
 obtain⟨hl,⟨rfl,h0⟩|⟨g,cap,cur,rfl,_⟩⟩:=h.row
 ·exact⟨none,0,by rw [h0]⟩
 ·exact⟨_,_,rfl⟩
theorem cy.mono {v:Value} (h:cy B w v es) (hC:C<=B):cy C w v es:=by
 obtain⟨hl,⟨rfl,h0⟩|⟨g,cap,cur,rfl,hB,hg,h1,h2,h3,h4⟩⟩:=h.row
 ·exact⟨⟨hl, .inl ⟨rfl,h0⟩⟩⟩
 ·exact⟨⟨hl, .inr ⟨g,cap,cur,rfl,af,hg,h1,h2,h3,h4⟩⟩⟩
theorem QQ {p:Ac} (h:(qD p)[j]?=some u) :
  (w.alloc (.cells p.cs T)).cell? (Addr.add ⟨w.heap.size,0,none⟩ j)=some u:=by
 have hk:=aq w (.cells p.cs T) rfl
 have ha:Addr.add ⟨w.heap.size,0,none⟩ j=⟨w.heap.size,j,none⟩:=by simp [Addr.add];omega
 rw [ha]
 simp only [World.cell?,hk]
 have hj:j<6:=(gJ.1 h).1
 obtain rfl|rfl|rfl|rfl|rfl|rfl:j=0\/j=1\/j=2\/j=3\/j=4\/j=5:=af
 all_goals simpa [qD,Ac.cs] using h
theorem uf (hgd:o.guard=none) (s x:Operand)
  (ho:o.op = .call { callee:= .builtin .append,args:=#[s,x],argTypes:=#[22,22] }) (B:Nat) (v:Value) (es:List Ac) (hs:a.eval s=v) (hown:cy B w v es)
  (ad:Addr) (e:Ac) (hx:a.eval x = .slice (some ad) 1 1) (hnews:∀j u,(qD e)[j]?=some u->w.cell? (ad.add j)=some u) (hlen:es.length<=1000000) (hbase:B<=w.heap.size)
  (h:∀v' w',cy B w' v' (es++[e])->w.grownBy w' v.ownBlock->(v'.ownBlock=v.ownBlock\/v'.ownBlock=some w.heap.size)->wpList Tryz.prog ops Q rest (a.put o.dst v') w'):wpList Tryz.prog ops Q (o::rest) a w:=by
 obtain⟨i0,z,hi,hz,hz1,hz2,hz3⟩:=cG Tryz.Wf
 refine Go.wpList_append_own_at w hgd s x 22 ho B 46 i0 z 6 56 Tryz.underlying22 hi hz hz1 hz2 hz3 aY v es.length _ hs hown.row ad 1 1 (qD e) hx rfl hnews (EG [e] |> fun h u hu=>h u (by simpa using hu)) (by unfold maxLen;omega) af hbase ?_
 intro v' w' hown' hg _ h4
 refine h v' w' ?_ hg h4
 have:(es++[e]).flatMap qD=es.flatMap qD++qD e:=bt
 refine⟨?_⟩
 rw [this,eO]
 exact hown'
theorem KS {xs:List Ac}
  (h:∀i x,xs[i]?=some x->∀j u,(qD x)[j]?=some u->w.cell? ⟨b,off+i*6+j,none⟩=some u) (hk:k<xs.length) :
  w.cell? ⟨b,off+k*6,none⟩=some (.int .i64 xs[k].k)/\w.cell? ⟨b,off+k*6+1,none⟩=some (.string xs[k].s)/\w.cell? ⟨b,off+k*6+2,none⟩=some (.int .i64 xs[k].t)/\w.cell? ⟨b,off+k*6+3,none⟩=some (.int .i64 xs[k].z)/\w.cell? ⟨b,off+k*6+4,none⟩=some (.int .i64 xs[k].sz)/\w.cell? ⟨b,off+k*6+5,none⟩=some (.int .i64 xs[k].v):=by
 have g:∀j u,(qD xs[k])[j]?=some u->w.cell? ⟨b,off+k*6+j,none⟩=some u:=fun j u hu=>h k xs[k] (by simp [hk]) j u hu
 exact⟨by simpa using g 0 _ rfl,by simpa using g 1 _ rfl,by simpa using g 2 _ rfl,by simpa using g 3 _ rfl,by simpa using g 4 _ rfl,by simpa using g 5 _ rfl⟩
theorem PJ (h:i=j) (hj:j<n) (w:World):(Instr.indexAt 22 (.slice (some ⟨ab,bp,none⟩) n cap) (.int .i64 i)).run Tryz.prog w = .ok (.pointer (some ⟨ab,bp+j*6,none⟩)) w:=by
 subst h
 go_simp
structure dZ (B:Nat) (w:World) (v:Value) (ps:List qu):Prop where
 row:w.ownsRow B 42 8 v ps.length (ps.flatMap uS)
theorem dZ.nil (B:Nat) (w:World):dZ B w (.slice none 0 0) []:=⟨World.ownsRow_nil _ _ _ _⟩
theorem dZ.block {v:Value} {es:List qu} (h:dZ B w v es) (hb:∀g,v.ownBlock=some g->w'.heap[g]?=w.heap[g]?):dZ B w' v es:=by
 obtain⟨hl,⟨rfl,h0⟩|⟨g,cap,cur,rfl,hB,hg,h1,h2,h3,h4⟩⟩:=h.row
 ·exact⟨⟨hl, .inl ⟨rfl,h0⟩⟩⟩
 ·exact⟨⟨hl, .inr ⟨g,cap,cur,rfl,hB,(hb g rfl).trans hg,h1,h2,h3,h4⟩⟩⟩
theorem dZ.alloc {v:Value} {es:List qu} (h:dZ B w v es) (o:Obj):dZ B (w.alloc o) v es:=⟨World.ownsRow.alloc h.row o⟩
theorem dZ.lt {v:Value} {es:List qu} (h:dZ B w v es):∀g,v.ownBlock=some g->B<=g/\g<w.heap.size:=World.ownsRow.lt h.row
theorem dZ.below {v:Value} {es:List qu} (h:dZ B w v es) (hb:Below C w w') (hC:w.heap.size<=C):dZ B w' v es:=h.block fun g hg=>hb.block g (by have:=(h.lt g hg).2;omega)
theorem dZ.at {v:Value} {es:List qu} (h:dZ B w v es) (hs:es.length<=1000000):RY w v es:=dN.owned EF h.row rfl af
theorem dZ.isSlice {v:Value} {es:List qu} (h:dZ B w v es):∃ao cap,v = .slice ao es.length cap:=by
 obtain⟨hl,⟨rfl,h0⟩|⟨g,cap,cur,rfl,_⟩⟩:=h.row
 ·exact⟨none,0,by rw [h0]⟩
 ·exact⟨_,_,rfl⟩
theorem dZ.mono {v:Value} {es:List qu} (h:dZ B w v es) (hC:C<=B):dZ C w v es:=by
 obtain⟨hl,⟨rfl,h0⟩|⟨g,cap,cur,rfl,hB,hg,h1,h2,h3,h4⟩⟩:=h.row
 ·exact⟨⟨hl, .inl ⟨rfl,h0⟩⟩⟩
 ·exact⟨⟨hl, .inr ⟨g,cap,cur,rfl,af,hg,h1,h2,h3,h4⟩⟩⟩
theorem QP {p:qu} (h:(uS p)[j]?=some u) :
  (w.alloc (.cells p.cs T)).cell? (Addr.add ⟨w.heap.size,0,none⟩ j)=some u:=by
 have hk:=aq w (.cells p.cs T) rfl
 have ha:Addr.add ⟨w.heap.size,0,none⟩ j=⟨w.heap.size,j,none⟩:=by simp [Addr.add];omega
 rw [ha]
 simp only [World.cell?,hk]
 have hj:j<8:=(gJ.1 h).1
 obtain rfl|rfl|rfl|rfl|rfl|rfl|rfl|rfl:j=0\/j=1\/j=2\/j=3\/j=4\/j=5\/j=6\/j=7:=af
 all_goals simpa [uS,qu.cs] using h
theorem ud (hgd:o.guard=none) (s x:Operand)
  (ho:o.op = .call { callee:= .builtin .append,args:=#[s,x],argTypes:=#[23,23] }) (B:Nat) (v:Value) (es:List qu) (hs:a.eval s=v) (hown:dZ B w v es)
  (ad:Addr) (e:qu) (hx:a.eval x = .slice (some ad) 1 1) (hnews:∀j u,(uS e)[j]?=some u->w.cell? (ad.add j)=some u) (hlen:es.length<=1000000) (hbase:B<=w.heap.size)
  (h:∀v' w',dZ B w' v' (es++[e])->w.grownBy w' v.ownBlock->(v'.ownBlock=v.ownBlock\/v'.ownBlock=some w.heap.size)->wpList Tryz.prog ops Q rest (a.put o.dst v') w'):wpList Tryz.prog ops Q (o::rest) a w:=by
 obtain⟨i0,z,hi,hz,hz1,hz2,hz3⟩:=cG Tryz.PL
 refine Go.wpList_append_own_at w hgd s x 23 ho B 42 i0 z 8 80 Tryz.underlying23 hi hz hz1 hz2 hz3 aY v es.length _ hs hown.row ad 1 1 (uS e) hx rfl hnews (Ns [e] |> fun h u hu=>h u (by simpa using hu)) (by unfold maxLen;omega) af hbase ?_
 intro v' w' hown' hg _ h4
 refine h v' w' ?_ hg h4
 have:(es++[e]).flatMap uS=es.flatMap uS++uS e:=bt
 refine⟨?_⟩
 rw [this,eO]
 exact hown'
theorem KR {xs:List qu}
  (h:∀i x,xs[i]?=some x->∀j u,(uS x)[j]?=some u->w.cell? ⟨b,off+i*8+j,none⟩=some u) (hk:k<xs.length) :
  w.cell? ⟨b,off+k*8,none⟩=some (.int .i64 xs[k].an.code)/\w.cell? ⟨b,off+k*8+1,none⟩=some (.int .i64 xs[k].an.is.c)/\w.cell? ⟨b,off+k*8+2,none⟩=some (.int .i64 xs[k].an.is.s)/\w.cell? ⟨b,off+k*8+3,none⟩=some (.int .i64 xs[k].an.is.mi)/\w.cell? ⟨b,off+k*8+4,none⟩=some (.int .i64 xs[k].an.is.ma)/\w.cell? ⟨b,off+k*8+5,none⟩=some (.int .i64 xs[k].an.is.t)/\w.cell? ⟨b,off+k*8+6,none⟩=some (.int .i64 xs[k].an.is.l)/\w.cell? ⟨b,off+k*8+7,none⟩=some (.slice xs[k].so xs[k].n xs[k].c):=by
 have g:∀j u,(uS xs[k])[j]?=some u->w.cell? ⟨b,off+k*8+j,none⟩=some u:=fun j u hu=>h k xs[k] (by simp [hk]) j u hu
 exact⟨by simpa using g 0 _ rfl,by simpa using g 1 _ rfl,by simpa using g 2 _ rfl,by simpa using g 3 _ rfl,by simpa using g 4 _ rfl,by simpa using g 5 _ rfl,by simpa using g 6 _ rfl,by simpa using g 7 _ rfl⟩
theorem Cj (h:i=j) (hj:j<n) (w:World):(Instr.indexAt 23 (.slice (some ⟨ab,bp,none⟩) n cap) (.int .i64 i)).run Tryz.prog w = .ok (.pointer (some ⟨ab,bp+j*8,none⟩)) w:=by
 subst h
 go_simp
end
section
set_option maxRecDepth 100000
set_option maxHeartbeats 4000000
variable {b:Ba} {N:Nat} {w:World}
def yx (gb:Nat) (D:Nat->Prop) (w:World) (x:St) (a:Ac) (N:Nat) (e:Ending) (w':World):Prop:=
 ∃q:qu,e = .returned (.agg q.cs)/\q.an=iN x a/\aw (fun i=>i=gb) w w'/\rM gb D w' (fD x a) (N+1)/\OwnRows w.heap.size w' q.v q.an.rows
structure jx (w:World) (a:Ac) (q:qu) (W:World):Prop where
 ac:W.heap[w.heap.size]?=some (.cells a.cs 46)
 res:W.heap[w.heap.size+1]?=some (.cells #[.int .i64 0, .int .i64 0, .int .i64 0, .int .i64 0, .int .i64 0, .int .i64 0, .int .i64 0, .slice none 0 0] 42)
 XV:W.heap[w.heap.size+1+1]?=some (.cells q.cs 42)
section
variable {gb:Nat} {D:Nat->Prop} {w W W':World} {x:St} {N:Nat} {b:Ba} {sa:Option Addr} {sc:Nat} {g0:Option Addr} {l0 p0:Nat} {g1:Option Addr} {l1 p1:Nat} {g2:Option Addr} {l2 p2:Nat} {so:Option Addr} {sn sp:Nat} {kp:Bool} {a:Ac} {q:qu}
theorem jx.size (h:jx w a q W):w.heap.size+3<=W.heap.size:=(eP.1 h.XV).1
theorem jx.turn (h:jx w a q W) (ht:aw (fun i=>i=gb) W W') (hg:gb<w.heap.size):jx w a q W':=by
 have hs:=h.size
 exact⟨(ht.block _ af af).trans h.ac,(ht.block _ af af).trans h.res,(ht.block _ af af).trans h.XV⟩
theorem jx.below (h:jx w a q W) (hb:ah W W'):jx w a q W':=by
 have hs:=h.size
 exact⟨(hb.block _ af).trans h.ac,(hb.block _ af).trans h.res,(hb.block _ af).trans h.XV⟩
theorem jx.OJ (h:jx w a q W):W.cell? ⟨w.heap.size,0,none⟩=some (.int .i64 a.k)/\W.cell? ⟨w.heap.size,1,none⟩=some (.string a.s)/\W.cell? ⟨w.heap.size,2,none⟩=some (.int .i64 a.t)/\W.cell? ⟨w.heap.size,3,none⟩=some (.int .i64 a.z)/\W.cell? ⟨w.heap.size,4,none⟩=some (.int .i64 a.sz)/\W.cell? ⟨w.heap.size,5,none⟩=some (.int .i64 a.v):=by
 have h1:=h.ac
 simp [World.cell?,h1,Ac.cs]
theorem jx.oC (h:jx w a q W):W.cell? ⟨w.heap.size+1+1,0,none⟩=some (.int .i64 q.an.code)/\W.cell? ⟨w.heap.size+1+1,1,none⟩=some (.int .i64 q.an.is.c)/\W.cell? ⟨w.heap.size+1+1,2,none⟩=some (.int .i64 q.an.is.s)/\W.cell? ⟨w.heap.size+1+1,3,none⟩=some (.int .i64 q.an.is.mi)/\W.cell? ⟨w.heap.size+1+1,4,none⟩=some (.int .i64 q.an.is.ma)/\W.cell? ⟨w.heap.size+1+1,5,none⟩=some (.int .i64 q.an.is.t)/\W.cell? ⟨w.heap.size+1+1,6,none⟩=some (.int .i64 q.an.is.l)/\W.cell? ⟨w.heap.size+1+1,7,none⟩=some (.slice q.so q.n q.c)/\∀o,W.frozen? ⟨w.heap.size+1+1,o,none⟩=false:=by
 exact gS h.XV
theorem jx.Ap (h:jx w a q W):W.cell? ⟨w.heap.size+1,0,none⟩=some (.int .i64 0)/\W.cell? ⟨w.heap.size+1,1,none⟩=some (.int .i64 0)/\W.cell? ⟨w.heap.size+1,2,none⟩=some (.int .i64 0)/\W.cell? ⟨w.heap.size+1,3,none⟩=some (.int .i64 0)/\W.cell? ⟨w.heap.size+1,4,none⟩=some (.int .i64 0)/\W.cell? ⟨w.heap.size+1,5,none⟩=some (.int .i64 0)/\W.cell? ⟨w.heap.size+1,6,none⟩=some (.int .i64 0)/\W.cell? ⟨w.heap.size+1,7,none⟩=some (.slice none 0 0)/\∀o,W.frozen? ⟨w.heap.size+1,o,none⟩=false:=by
 exact gS h.res
theorem jx.set (h:jx w a q W) {r:qu} {o:Nat} {u:Value} (hr:q.cs.setIfInBounds o u=r.cs):jx w a r (W.setCell ⟨w.heap.size+1+1,o,none⟩ u):=by
 refine⟨(heap_setCell_other _ ⟨w.heap.size+1+1,_,none⟩ _ _ (by show w.heap.size≠w.heap.size+1+1;omega)).trans h.ac,(heap_setCell_other _ ⟨w.heap.size+1+1,_,none⟩ _ _ (by show w.heap.size+1≠w.heap.size+1+1;omega)).trans h.res,?_⟩
 have:=heap_setCell_same (off:=o) (v:=u) h.XV
 rw [hr]at this;exact this
end
section
variable {V W1:World} {gb:Nat} {D:Nat->Prop} {w:World} {x:St} {N:Nat} {b:Ba} {sa:Option Addr} {sc:Nat} {g0:Option Addr} {l0 p0:Nat} {g1:Option Addr} {l1 p1:Nat} {g2:Option Addr} {l2 p2:Nat} {so:Option Addr} {sn sp:Nat} {kp:Bool} {a:Ac} {q:qu}
theorem Mh:Is kq Mo.zero 0:=⟨(show Fp kq (mo (([]:List sk).map (l8 kq.names))) 0 from Mg.st),rfl,rfl⟩
theorem EO {B xb:Nat} {w0:World} (h:Below B w w0) (hx:B<=xb) (v1 v2 v3 v4 v5 v6:Value):Below B w ((((((w0.setCell ⟨xb,1,none⟩ v1).setCell ⟨xb,2,none⟩ v2).setCell ⟨xb,3,none⟩ v3).setCell ⟨xb,4,none⟩ v4).setCell ⟨xb,5,none⟩ v5).setCell ⟨xb,6,none⟩ v6):=
 (((((h.setCell hx _).setCell hx _).setCell hx _).setCell hx _).setCell hx _).setCell hx _
theorem G6 {v:Value} {m:Mo} {t:Int} (hi:Is b m N) (hN:N<=2900) (h:bQ w v b) (hsz:bS w) (h0:m.wC t=0) :
  Calls Tryz.prog 38 #[v, .int .i64 t] w (QM w (m.exp t) (N+1)):=
 (Kb hi hN h hsz h0).mono fun _ _ ⟨h1,b',sa,sc,g0,l0,p0,g1,l1,p1,g2,l2,p2,h2,h3,h4⟩=>⟨h1,b',sa,sc,g0,l0,p0,g1,l1,p1,g2,l2,p2,h2,h3,h4.mono af⟩
abbrev UZ (V w:World) (q:qu):World:=((((((((V.setCell ⟨w.heap.size+1,0,none⟩ (.int .i64 q.an.code)).setCell ⟨w.heap.size+1,1,none⟩ (.int .i64 q.an.is.c)).setCell ⟨w.heap.size+1,2,none⟩ (.int .i64 q.an.is.s)).setCell ⟨w.heap.size+1,3,none⟩ (.int .i64 q.an.is.mi)).setCell ⟨w.heap.size+1,4,none⟩ (.int .i64 q.an.is.ma)).setCell ⟨w.heap.size+1,5,none⟩ (.int .i64 q.an.is.t)).setCell ⟨w.heap.size+1,6,none⟩ (.int .i64 q.an.is.l)).setCell ⟨w.heap.size+1,7,none⟩ (.slice q.so q.n q.c))
abbrev SA (gb:Nat) (w:World) (b:Ba) (a:Ac) (sa:Option Addr) (sc:Nat) (g0:Option Addr) (l0 p0:Nat) (g1:Option Addr) (l1 p1:Nat) (g2:Option Addr) (l2 p2:Nat) (so:Option Addr) (sn sp:Nat) (kp:Bool) (W:World):Prop:=W.cell? ⟨gb,0,none⟩=some (.slice sa b.names.length sc)/\W.cell? ⟨gb,1,none⟩=some (.slice g0 l0 p0)/\W.cell? ⟨gb,2,none⟩=some (.int .i64 b.t0.root)/\W.cell? ⟨gb,3,none⟩=some (.slice g1 l1 p1)/\W.cell? ⟨gb,4,none⟩=some (.int .i64 b.t1.root)/\W.cell? ⟨gb,5,none⟩=some (.slice g2 l2 p2)/\W.cell? ⟨gb,6,none⟩=some (.int .i64 b.t2.root)/\W.cell? ⟨gb,7,none⟩=some (.int .i64 b.floor)/\W.cell? ⟨gb,8,none⟩=some (.slice so sn sp)/\W.cell? ⟨gb,9,none⟩=some (.bool kp)/\W.cell? ⟨w.heap.size,0,none⟩=some (.int .i64 a.k)/\W.cell? ⟨w.heap.size,1,none⟩=some (.string a.s)/\W.cell? ⟨w.heap.size,2,none⟩=some (.int .i64 a.t)/\W.cell? ⟨w.heap.size,3,none⟩=some (.int .i64 a.z)/\W.cell? ⟨w.heap.size,4,none⟩=some (.int .i64 a.sz)/\W.cell? ⟨w.heap.size,5,none⟩=some (.int .i64 a.v)
theorem pc {i:Nat} (h:i≠w.heap.size+1):((((((((V.setCell ⟨w.heap.size+1,0,none⟩ (.int .i64 q.an.code)).setCell ⟨w.heap.size+1,1,none⟩ (.int .i64 q.an.is.c)).setCell ⟨w.heap.size+1,2,none⟩ (.int .i64 q.an.is.s)).setCell ⟨w.heap.size+1,3,none⟩ (.int .i64 q.an.is.mi)).setCell ⟨w.heap.size+1,4,none⟩ (.int .i64 q.an.is.ma)).setCell ⟨w.heap.size+1,5,none⟩ (.int .i64 q.an.is.t)).setCell ⟨w.heap.size+1,6,none⟩ (.int .i64 q.an.is.l)).setCell ⟨w.heap.size+1,7,none⟩ (.slice q.so q.n q.c)).heap[i]?=V.heap[i]?:=fk h
theorem EA:((((((((V.setCell ⟨w.heap.size+1,0,none⟩ (.int .i64 q.an.code)).setCell ⟨w.heap.size+1,1,none⟩ (.int .i64 q.an.is.c)).setCell ⟨w.heap.size+1,2,none⟩ (.int .i64 q.an.is.s)).setCell ⟨w.heap.size+1,3,none⟩ (.int .i64 q.an.is.mi)).setCell ⟨w.heap.size+1,4,none⟩ (.int .i64 q.an.is.ma)).setCell ⟨w.heap.size+1,5,none⟩ (.int .i64 q.an.is.t)).setCell ⟨w.heap.size+1,6,none⟩ (.int .i64 q.an.is.l)).setCell ⟨w.heap.size+1,7,none⟩ (.slice q.so q.n q.c)).heap.size=V.heap.size:=by simp only [ay]
theorem IZ:aw (fun i=>i=w.heap.size+1) V ((((((((V.setCell ⟨w.heap.size+1,0,none⟩ (.int .i64 q.an.code)).setCell ⟨w.heap.size+1,1,none⟩ (.int .i64 q.an.is.c)).setCell ⟨w.heap.size+1,2,none⟩ (.int .i64 q.an.is.s)).setCell ⟨w.heap.size+1,3,none⟩ (.int .i64 q.an.is.mi)).setCell ⟨w.heap.size+1,4,none⟩ (.int .i64 q.an.is.ma)).setCell ⟨w.heap.size+1,5,none⟩ (.int .i64 q.an.is.t)).setCell ⟨w.heap.size+1,6,none⟩ (.int .i64 q.an.is.l)).setCell ⟨w.heap.size+1,7,none⟩ (.slice q.so q.n q.c)):=sV (aw.refl _ _) _ _ _ _ _ _ _ _
theorem rF (h:mn gb D w x N b sa sc g0 l0 p0 g1 l1 p1 g2 l2 p2 so sn sp kp) (_hz:jx w a q V) (hb:ah w V) (_hD:∀i,D i->i<w.heap.size) (hs:fD x a=x) (hr:OwnRows (w.heap.size+3) V q.v q.an.rows) (hq:q.an=iN x a) :
  yx gb D w x a N (.returned (.agg q.cs)) (UZ V w q):=by
 have hb2:ah w (UZ V w q):=cH hb af _ _ _ _ _ _ _ _
 refine⟨q,rfl,hq,aw.of hb2 aI,?_,(hr.block fun g hg=>pc (by have:=(hr.lt g hg).1;omega)).mono af⟩
 rw [hs]
 exact⟨b,sa,sc,g0,l0,p0,g1,l1,p1,g2,l2,p2,so,sn,sp,kp,(h.below hb2 aI).mono af⟩
theorem Ez (h1:ah w W1) (ht:aw (Loc gb w.heap.size (w.heap.size+3)) W1 V):aw (fun i=>i=gb) w (UZ V w q):=by
 have hS:=IZ (V:=V) (w:=w) (q:=q)
 refine⟨hS.os.trans (ht.os.trans h1.os),hS.tape.trans (ht.tape.trans h1.tape),hS.output.trans (ht.output.trans h1.output),by rw [EA];exact im h1.size ht.size,fun i hi hx=>?_⟩
 have:=h1.size
 rw [pc af,ht.block i af fun hl=>?_,h1.block i hi]
 rcases hl with hl|hl
 ·exact hx hl
 ·omega
theorem I0 (ht:aw (Loc gb w.heap.size (w.heap.size+3)) W1 V):aw (Loc gb w.heap.size (w.heap.size+3)) W1 (UZ V w q):=by
 have hS:=IZ (V:=V) (w:=w) (q:=q)
 refine⟨hS.os.trans ht.os,hS.tape.trans ht.tape,hS.output.trans ht.output,by rw [EA];exact ht.size,fun i hi hx=>?_⟩
 rw [pc (fun e=>hx (.inr af)),ht.block i hi hx]
theorem vk {y:Mo} {c:Ba} {ya:Option Addr} {yc:Nat} {z0:Option Addr} {m0 q0:Nat} {z1:Option Addr} {m1 q1:Nat} {z2:Option Addr} {m2 q2:Nat} (h:mn gb D w x N b sa sc g0 l0 p0 g1 l1 p1 g2 l2 p2 so sn sp kp) (hD:∀i,D i->i<w.heap.size) (hg:D gb) (h1:ah w W1)
  (hc:∀w'',aQ (w.heap.size+3) W1 w''->bQ w'' (.agg (aJ ya c.names.length yc z0 m0 q0 z1 m1 q1 z2 m2 q2 c)) c) (hi:Is c y (N+1)) (ht:aw (Loc gb w.heap.size (w.heap.size+3)) W1 V)
  (hb:V.heap[gb]?=some (.cells #[.slice ya c.names.length yc, .slice z0 m0 q0, .int .i64 c.t0.root, .slice z1 m1 q1, .int .i64 c.t1.root, .slice z2 m2 q2, .int .i64 c.t2.root, .int .i64 c.floor, .slice so sn sp, .bool kp] 63))
  (hs:fD x a=⟨y,x.s⟩) (hq:q.an=iN x a) (hr:q.an.rows=[]/\q.so=none/\q.n=0/\q.c=0):yx gb D w x a N (.returned (.agg q.cs)) (UZ V w q):=by
 have hgl:=hD gb hg
 obtain⟨r1,r2,r3,r4⟩:=hr
 refine⟨q,rfl,hq,Ez h1 ht,?_,?_⟩
 ·rw [hs]
  exact⟨_,_,_,_,_,_,_,_,_,_,_,_,_,_,_,_,h.set hD hg af h1 af hc hi (I0 ht) ((pc af).trans hb)⟩
 ·show OwnRows _ _ (.slice q.so q.n q.c) _
  rw [r1,r2,r3,r4]
  exact OwnRows.nil _ _
theorem NP {ro:Option Addr} {tn tp:Nat} (h:mn gb D w x N b sa sc g0 l0 p0 g1 l1 p1 g2 l2 p2 so sn sp kp) (hN:N+1<=500) (hD:∀i,D i->i<w.heap.size) (hg:D gb) (h1:ah w W1) (ho:aC (w.heap.size+3) W1 (.slice ro tn tp) x.m.bytes) (hl:x.m.bytes.length<=1000000) (ht:aw (Loc gb w.heap.size (w.heap.size+3)) W1 V)
  (hb:V.heap[gb]?=some (.cells #[.slice sa b.names.length sc, .slice g0 l0 p0, .int .i64 b.t0.root, .slice g1 l1 p1, .int .i64 b.t1.root, .slice g2 l2 p2, .int .i64 b.t2.root, .int .i64 b.floor, .slice ro tn tp, .bool true] 63))
  (hs:fD x a=⟨x.m,x.m⟩) (hq:q.an=iN x a) (hr:q.an.rows=[]/\q.so=none/\q.n=0/\q.c=0):yx gb D w x a N (.returned (.agg q.cs)) (UZ V w q):=by
 have hgl:=hD gb hg
 obtain⟨r1,r2,r3,r4⟩:=hr
 refine⟨q,rfl,hq,Ez h1 ht,?_,?_⟩
 ·rw [hs]
  exact⟨_,_,_,_,_,_,_,_,_,_,_,_,_,_,_,_,(h.save af hD hg h1 af ho hl (I0 ht) ((pc af).trans hb)).mono af⟩
 ·show OwnRows _ _ (.slice q.so q.n q.c) _
  rw [r1,r2,r3,r4]
  exact OwnRows.nil _ _
end
theorem Qu {gb:Nat} {D:Nat->Prop} {x:St} {sa:Option Addr} {sc:Nat} {g0:Option Addr} {l0 p0:Nat} {g1:Option Addr} {l1 p1:Nat} {g2:Option Addr} {l2 p2:Nat} {so:Option Addr} {sn sp:Nat} {kp:Bool} {a:Ac}
  (h:mn gb D w x N b sa sc g0 l0 p0 g1 l1 p1 g2 l2 p2 so sn sp kp) (hD:∀q,D q->q<w.heap.size) (hg:D gb) (hN:N+1<=500) (hs:a.s.size<=140737488351232) (hsz:bS w) :
  Calls Tryz.prog 17 #[.pointer (some ⟨gb,0,none⟩), .agg a.cs] w (yx gb D w x a N):=by
 have hgl:=h.lt
 obtain⟨W0,hW0⟩:=bR (((w.alloc (.cells a.cs 46)).alloc (.cells #[.int .i64 0, .int .i64 0, .int .i64 0, .int .i64 0, .int .i64 0, .int .i64 0, .int .i64 0, .slice none 0 0] 42)).alloc (.cells #[.int .i64 0, .int .i64 0, .int .i64 0, .int .i64 0, .int .i64 0, .int .i64 0, .int .i64 0, .slice none 0 0] 42))
 have hb0:ah w W0:=by rw [hW0];exact ag
 have hz0:W0.heap.size=w.heap.size+3:=by rw [hW0];simp
 have hZ:jx w a ⟨⟨0,av.zero,[]⟩,none,0,0⟩ W0:=by
  rw [hW0]
  refine⟨?_,?_,aq _ _ bt⟩
  ·rw [lI _ _ _ (by simp;omega),lI _ _ _ bt];exact aq _ _ rfl
  ·rw [lI _ _ _ bt];exact aq _ _ bt
 have HZ:=hdd fun W (hb:ah W0 W)=>hZ.below hb
 have HC:=hdd fun W (hb:ah W0 W)=>h.below (Below.trans' hb0 hb hb0.size) aI
 have HB:=hdd fun W (hb:ah W0 W)=>(Below.trans' hb0 hb hb0.size:ah w W)
 have sI:=hdd fun W (hb:ah W0 W)=>hsz.below (Below.trans' hb0 hb hb0.size)
 have HE:=hdd h
 have HD:=hdd (aO hD hg)
 obtain⟨a0,a1,a2,a3,a4,a5⟩:=hZ.OJ
 obtain⟨e0,e1,e2,e3,e4,e5,e6,e7,e8,e9,ef⟩:=(HC.out W0 (aL _ _)).cells
 have Gz:gb≠w.heap.size+1+1:=af
 have B0:ah W0 W0.drew:=(aL _ _).drew
 clear h hD hg hsz hZ hb0
 go_enter Tryz.func17,Tryz.ntmps17
 go_upto_region 2 with (fail)
 rw [<-hW0]
 clear hW0
 have HS:=hdd fun W (hb:ah W0 W)=>(by
  obtain⟨e0,e1,e2,e3,e4,e5,e6,e7,e8,e9,-⟩:=(HC.out W hb).cells
  obtain⟨a0,a1,a2,a3,a4,a5⟩:=(HZ.out W hb).OJ
  exact⟨e0,e1,e2,e3,e4,e5,e6,e7,e8,e9,a0,a1,a2,a3,a4,a5⟩:SA gb w b a sa sc g0 l0 p0 g1 l1 p1 g2 l2 p2 so sn sp kp W)
 have hk3:W0.drew.heap.size=w.heap.size+3:=hz0
 by_cases hk:a.k=1
 ·skip
  have d1:(a.k == 1)=true:=by simp [hk]
  by_cases ee:x.m.jN a.s a.t a.v=0
  ·have Aa:=hdd (show fD x a=⟨x.m.add a.s a.t a.v,x.s⟩ by unfold fD;rw [ar hk,ar ee])
   have rL:=hdd (show (⟨0,av.zero,[]⟩:An)=iN x a by unfold iN;rw [ar hk,ee])
   have wR:=hdd (Kz HE.out.is af ((HC.out _ B0).base _ (Only.refl _ _)) hs (sI.out _ B0) ee)
   clear ee hk
   go_upto_region 5 with (fail)
   refine eG [(0,1),(1,1),(2,1),(3,1),(4,0),(5,1),(6,0),(7,1),(8,0),(9,1),(10,0),(11,1),(12,2),(13,1),(14,1),(15,3),(16,1),(17,3)] 15 (fun W=>SA gb w b a sa sc g0 l0 p0 g1 l1 p1 g2 l2 p2 so sn sp kp W) cv cv (HS.out _ B0) ?_
   (simp only [bF,List.filterMap_cons,List.filterMap_nil,List.getElem?_cons_zero,List.getElem?_cons_succ,Option.map_some])
   (repeat first|refine aV ?_|refine aU ?_)
   refine aM rfl (fun K hK=>?_)
   go_simp
   (with_reducible refine wR.out.mono ?_)
   rintro e w1 ⟨hb1,c,ya,yc,z0,m0,q0,z1,m1,q1,z2,m2,q2,rfl,OC,hi⟩
   go_simp
   have B1:ah W0 w1:=Below.trans' B0 hb1 aI
   refine hK _ _ (HS.out _ B1) ?_
   clear hK K
   have Fk:=hdd (aO OC hi)
   clear OC hi hb1 e0 e1 e2 e3 e4 e5 e6 e7 e8 e9 ef
   (repeat first|refine aV ?_|refine aU ?_)
   have Fl:=hdd (HC.out _ B1).box
   refine bn rfl (fun K hK=>?_)
   go_simp
   (with_reducible refine(FH Fl.out).mono ?_)
   rintro e w2 ⟨rfl,ht2,hb2⟩
   go_simp
   refine hK _ _ ?_
   clear hK K
   have OL:=hdd ((HZ.out _ B1).turn ht2 hgl)
   obtain⟨o0,o1,o2,o3,o4,o5,o6,o7,of⟩:=OL.out.oC
   have rI:=hdd (aO ht2 hb2)
   clear ht2 hb2
   (repeat first|refine aV ?_|refine aU ?_)
   refine bn rfl (fun K hK=>?_)
   go_simp
   refine hK _ _ ?_
   clear hK K
   refine cj ?_
   obtain⟨V,hV⟩:=bR (w2.setCell ⟨w.heap.size+1+1,0,none⟩ (.int .i64 0))
   have sf:jx w a ⟨⟨0,av.zero,[]⟩,none,0,0⟩ V:=by rw [hV];exact OL.out.set rfl
   have jq:=hdd (vk (V:=V) (q:=⟨⟨0,av.zero,[]⟩,none,0,0⟩) HE.out HD.out.1 HD.out.2 (HB.out _ B1) (fun w'' hw=>Fk.out.1 w'' (by rw [hk3];exact hw)) Fk.out.2 (by rw [hV];exact aw.setCell (rI.out.1.mono fun i _ hi=> .inl hi) (.inl (.inr ⟨by show w.heap.size<=w.heap.size+1+1;omega,by show w.heap.size+1+1<w.heap.size+3;omega⟩)) _) (by rw [hV];exact(heap_setCell_other _ ⟨w.heap.size+1+1,_,none⟩ _ _ Gz).trans rI.out.2) Aa.out rL.out ⟨rfl,rfl,rfl,rfl⟩)
   rw [<-hV]
   clear hV o0 o1 o2 o3 o4 o5 o6 o7 of
   obtain⟨o0,o1,o2,o3,o4,o5,o6,o7,of⟩:=sf.oC
   obtain⟨r0,r1,r2,r3,r4,r5,r6,r7,rf⟩:=sf.Ap
   go_wp2_with fail
   exact bodyPost_ret (v:= .agg #[.int .i64 0, .int .i64 av.zero.c, .int .i64 av.zero.s, .int .i64 av.zero.mi, .int .i64 av.zero.ma, .int .i64 av.zero.t, .int .i64 av.zero.l, .slice none 0 0]) (by simp [results,Tryz.results17,go_sem, *]) rfl jq.out
  ·obtain⟨E,hE⟩:=bC (x.m.jN a.s a.t a.v)
   have Aa:=hdd (show fD x a=x by unfold fD;rw [ar hk,ai ee])
   have rL:=hdd (show (⟨E,av.zero,[]⟩:An)=iN x a by unfold iN;rw [ar hk,hE])
   have tG:=Hs HE.out.is ((HC.out _ B0).base _ (Only.refl _ _)) hs (sI.out _ B0) ee
   rw [hE]at tG ee
   have wR:=hdd tG
   have VE:=hdd ee
   clear ee hk hE tG
   go_upto_region 5 with (fail)
   refine eG [(0,1),(1,1),(2,1),(3,1),(4,0),(5,1),(6,0),(7,1),(8,0),(9,1),(10,0),(11,1),(12,2),(13,1),(14,1),(15,3),(16,1),(17,3)] 15 (fun W=>SA gb w b a sa sc g0 l0 p0 g1 l1 p1 g2 l2 p2 so sn sp kp W) cv cv (HS.out _ B0) ?_
   (simp only [bF,List.filterMap_cons,List.filterMap_nil,List.getElem?_cons_zero,List.getElem?_cons_succ,Option.map_some])
   (repeat first|refine aV ?_|refine aU ?_)
   refine aM rfl (fun K hK=>?_)
   go_simp
   (with_reducible refine wR.out.mono ?_)
   rintro e w1 ⟨hb1,rfl⟩
   go_simp
   have B1:ah W0 w1:=Below.trans' B0 hb1 aI
   refine hK _ _ (HS.out _ B1) ?_
   clear hK K hb1
   (repeat first|refine aV ?_|refine aU ?_)
   refine bn rfl (fun K hK=>?_)
   go_simp
   (with_reducible refine(Ir VE.out).mono ?_)
   rintro e w2 ⟨rfl,hb2⟩
   go_simp
   refine hK _ _ ?_
   clear hK K
   have B2:ah W0 w2:=Below.trans' B1 hb2 B1.size
   obtain⟨o0,o1,o2,o3,o4,o5,o6,o7,of⟩:=(HZ.out _ B2).oC
   (repeat first|refine aV ?_|refine aU ?_)
   refine bn rfl (fun K hK=>?_)
   go_simp
   refine hK _ _ ?_
   clear hK K
   refine cj ?_
   obtain⟨V,hV⟩:=bR (w2.setCell ⟨w.heap.size+1+1,0,none⟩ (.int .i64 E))
   have sf:jx w a ⟨⟨E,av.zero,[]⟩,none,0,0⟩ V:=by rw [hV];exact(HZ.out _ B2).set rfl
   have jq:=hdd (rF (V:=V) (q:=⟨⟨E,av.zero,[]⟩,none,0,0⟩) HE.out sf (by rw [hV];exact(HB.out _ B2).setCell (by show w.heap.size<=w.heap.size+1+1;omega) _) HD.out.1 Aa.out (OwnRows.nil _ _) rL.out)
   rw [<-hV]
   clear hV B2 o0 o1 o2 o3 o4 o5 o6 o7 of
   obtain⟨o0,o1,o2,o3,o4,o5,o6,o7,of⟩:=sf.oC
   obtain⟨r0,r1,r2,r3,r4,r5,r6,r7,rf⟩:=sf.Ap
   go_wp2_with fail
   exact bodyPost_ret (v:= .agg #[.int .i64 E, .int .i64 av.zero.c, .int .i64 av.zero.s, .int .i64 av.zero.mi, .int .i64 av.zero.ma, .int .i64 av.zero.t, .int .i64 av.zero.l, .slice none 0 0]) (by simp [results,Tryz.results17,go_sem, *]) rfl jq.out
 have H8:=hdd hk
 clear hk
 by_cases hk:a.k=2
 ·skip
  have d1:(a.k == 1)=false:=by simp;omega
  have d2:(a.k == 2)=true:=by simp [hk]
  have Aa:=hdd (show fD x a=x by unfold fD;rw [ai af,ai af,ai af,ai af])
  have rL:=hdd (show (⟨x.m.eX a.s a.sz a.t a.z,av.zero,x.m.rows a.s a.sz a.t a.z⟩:An)=iN x a by unfold iN;rw [ai af,ar hk])
  have tG:=Pm (s:=a.s) (n:=a.sz) (a:=a.t) (z:=a.z) HE.out.is af ((HC.out _ B0).base _ (Only.refl _ _)) (sI.out _ B0)
  obtain⟨E,hE⟩:=bC (x.m.eX a.s a.sz a.t a.z)
  obtain⟨R,hR⟩:=bC (x.m.rows a.s a.sz a.t a.z)
  rw [hE,hR]at tG rL
  have wR:=hdd tG
  clear hk hE hR tG
  go_upto_region 7 with (fail)
  refine eG [(0,1),(1,1),(2,1),(3,0),(4,1),(5,0),(6,1),(7,0),(8,1),(9,0),(10,1),(11,0),(12,3),(13,1),(14,1),(15,1),(16,1),(17,3),(18,1),(19,3)] 12 (fun W=>SA gb w b a sa sc g0 l0 p0 g1 l1 p1 g2 l2 p2 so sn sp kp W) cv cv (HS.out _ B0) ?_
  (simp only [bF,List.filterMap_cons,List.filterMap_nil,List.getElem?_cons_zero,List.getElem?_cons_succ,Option.map_some])
  (repeat first|refine aV ?_|refine aU ?_)
  refine bn rfl (fun K hK=>?_)
  go_simp
  (with_reducible refine wR.out.mono ?_)
  rintro e w1 ⟨hb1,ro,rc,rfl,hro⟩
  go_simp
  refine hK _ _ ?_
  clear hK K
  have B1:ah W0 w1:=Below.trans' B0 hb1 aI
  obtain⟨o0,o1,o2,o3,o4,o5,o6,o7,of⟩:=(HZ.out _ B1).oC
  clear hb1 e0 e1 e2 e3 e4 e5 e6 e7 e8 e9 ef
  (repeat first|refine aV ?_|refine aU ?_)
  refine bn rfl (fun K hK=>?_)
  go_simp
  refine hK _ _ ?_
  clear hK K
  obtain⟨V1,hV1⟩:=bR (w1.setCell ⟨w.heap.size+1+1,7,none⟩ (.slice ro R.length rc))
  have M8:jx w a ⟨⟨0,av.zero,R⟩,ro,R.length,rc⟩ V1:=by rw [hV1];exact(HZ.out _ B1).set rfl
  have KQ:=hdd (show ah w V1 by rw [hV1];exact(HB.out _ B1).setCell (by show w.heap.size<=w.heap.size+1+1;omega) _)
  have Zu:=hdd (show OwnRows (w.heap.size+3) V1 (.slice ro R.length rc) R by rw [hV1];rw [hk3]at hro;exact hro.block fun g hg=>heap_setCell_other _ ⟨w.heap.size+1+1,_,none⟩ _ _ (by have h:=(hro.lt g hg).1;show g≠w.heap.size+1+1;omega))
  rw [<-hV1]
  clear hV1 hro o0 o1 o2 o3 o4 o5 o6 o7 of
  have OM:=hdd M8
  obtain⟨o0,o1,o2,o3,o4,o5,o6,o7,of⟩:=M8.oC
  clear M8
  (repeat first|refine aV ?_|refine aU ?_)
  refine bn rfl (fun K hK=>?_)
  go_simp
  refine hK _ _ ?_
  clear hK K
  refine cj ?_
  obtain⟨V,hV⟩:=bR (V1.setCell ⟨w.heap.size+1+1,0,none⟩ (.int .i64 E))
  have sf:jx w a ⟨⟨E,av.zero,R⟩,ro,R.length,rc⟩ V:=by rw [hV];exact OM.out.set rfl
  have jq:=hdd (rF (V:=V) (q:=⟨⟨E,av.zero,R⟩,ro,R.length,rc⟩) HE.out sf (by rw [hV];exact KQ.out.setCell (by show w.heap.size<=w.heap.size+1+1;omega) _) HD.out.1 Aa.out (by rw [hV];exact Zu.out.block fun g hg=>heap_setCell_other _ ⟨w.heap.size+1+1,_,none⟩ _ _ (by have h:=(Zu.out.lt g hg).1;show g≠w.heap.size+1+1;omega)) rL.out)
  rw [<-hV]
  clear hV o0 o1 o2 o3 o4 o5 o6 o7 of
  obtain⟨o0,o1,o2,o3,o4,o5,o6,o7,of⟩:=sf.oC
  obtain⟨r0,r1,r2,r3,r4,r5,r6,r7,rf⟩:=sf.Ap
  go_wp2_with fail
  exact bodyPost_ret (v:= .agg #[.int .i64 E, .int .i64 av.zero.c, .int .i64 av.zero.s, .int .i64 av.zero.mi, .int .i64 av.zero.ma, .int .i64 av.zero.t, .int .i64 av.zero.l, .slice ro R.length rc]) (by simp [results,Tryz.results17,go_sem, *]) rfl jq.out
 have Oi:=hdd hk
 clear hk
 have k1:=H8.out
 have k2:=Oi.out
 by_cases hk:a.k=3
 ·skip
  have d1:(a.k == 1)=false:=by simp;omega
  have d2:(a.k == 2)=false:=by simp;omega
  have d3:(a.k == 3)=true:=by simp [hk]
  have Aa:=hdd (show fD x a=x by have k1:=H8.out;have k2:=Oi.out;unfold fD;rw [ai af,ai af,ai af,ai af])
  have rL:=hdd (show (⟨x.m.pH a.s a.t a.z,x.m.KU a.s a.t a.z,[]⟩:An)=iN x a by unfold iN;rw [ai af,ai af,ar hk])
  have tG:=Sd (s:=a.s) (a:=a.t) (z:=a.z) HE.out.is af ((HC.out _ B0).base _ (Only.refl _ _)) (sI.out _ B0)
  obtain⟨E,hE⟩:=bC (x.m.pH a.s a.t a.z)
  obtain⟨R,hR⟩:=bC (x.m.KU a.s a.t a.z)
  rw [hE,hR]at tG rL
  have wR:=hdd tG
  clear hk hE hR tG
  go_upto_region 9 with (fail)
  refine eG [(0,1),(1,1),(2,1),(3,0),(4,1),(5,0),(6,1),(7,0),(8,1),(9,0),(10,3),(11,1),(12,1),(13,1),(14,1),(15,3),(16,1),(17,3)] 10 (fun W=>SA gb w b a sa sc g0 l0 p0 g1 l1 p1 g2 l2 p2 so sn sp kp W) cv cv (HS.out _ B0) ?_
  (simp only [bF,List.filterMap_cons,List.filterMap_nil,List.getElem?_cons_zero,List.getElem?_cons_succ,Option.map_some])
  (repeat first|refine aV ?_|refine aU ?_)
  refine bn rfl (fun K hK=>?_)
  go_simp
  (with_reducible refine wR.out.mono ?_)
  rintro e w1 ⟨hb1,rfl⟩
  go_simp
  refine hK _ _ ?_
  clear hK K
  have B1:ah W0 w1:=Below.trans' B0 hb1 aI
  obtain⟨o0,o1,o2,o3,o4,o5,o6,o7,of⟩:=(HZ.out _ B1).oC
  clear hb1 e0 e1 e2 e3 e4 e5 e6 e7 e8 e9 ef
  (repeat first|refine aV ?_|refine aU ?_)
  refine bn rfl (fun K hK=>?_)
  go_simp
  refine hK _ _ ?_
  clear hK K
  obtain⟨V1,hV1⟩:=bR ((((((w1.setCell ⟨w.heap.size+1+1,1,none⟩ (.int .i64 R.c)).setCell ⟨w.heap.size+1+1,2,none⟩ (.int .i64 R.s)).setCell ⟨w.heap.size+1+1,3,none⟩ (.int .i64 R.mi)).setCell ⟨w.heap.size+1+1,4,none⟩ (.int .i64 R.ma)).setCell ⟨w.heap.size+1+1,5,none⟩ (.int .i64 R.t)).setCell ⟨w.heap.size+1+1,6,none⟩ (.int .i64 R.l))
  have M8:jx w a ⟨⟨0,R,[]⟩,none,0,0⟩ V1:=by rw [hV1];exact(((((((HZ.out _ B1).set (r:=⟨⟨0,⟨R.c,0,0,0,0,0⟩,[]⟩,none,0,0⟩) rfl).set (r:=⟨⟨0,⟨R.c,R.s,0,0,0,0⟩,[]⟩,none,0,0⟩) rfl).set (r:=⟨⟨0,⟨R.c,R.s,R.mi,0,0,0⟩,[]⟩,none,0,0⟩) rfl).set (r:=⟨⟨0,⟨R.c,R.s,R.mi,R.ma,0,0⟩,[]⟩,none,0,0⟩) rfl).set (r:=⟨⟨0,⟨R.c,R.s,R.mi,R.ma,R.t,0⟩,[]⟩,none,0,0⟩) rfl).set (r:=⟨⟨0,R,[]⟩,none,0,0⟩) rfl)
  have KQ:=hdd (show ah w V1 by rw [hV1];exact EO (HB.out _ B1) af _ _ _ _ _ _)
  rw [<-hV1]
  clear hV1 o0 o1 o2 o3 o4 o5 o6 o7 of
  have OM:=hdd M8
  obtain⟨o0,o1,o2,o3,o4,o5,o6,o7,of⟩:=M8.oC
  clear M8
  (repeat first|refine aV ?_|refine aU ?_)
  refine bn rfl (fun K hK=>?_)
  go_simp
  refine hK _ _ ?_
  clear hK K
  refine cj ?_
  obtain⟨V,hV⟩:=bR (V1.setCell ⟨w.heap.size+1+1,0,none⟩ (.int .i64 E))
  have sf:jx w a ⟨⟨E,R,[]⟩,none,0,0⟩ V:=by rw [hV];exact OM.out.set rfl
  have jq:=hdd (rF (V:=V) (q:=⟨⟨E,R,[]⟩,none,0,0⟩) HE.out sf (by rw [hV];exact KQ.out.setCell (by show w.heap.size<=w.heap.size+1+1;omega) _) HD.out.1 Aa.out (OwnRows.nil _ _) rL.out)
  rw [<-hV]
  clear hV o0 o1 o2 o3 o4 o5 o6 o7 of
  obtain⟨o0,o1,o2,o3,o4,o5,o6,o7,of⟩:=sf.oC
  obtain⟨r0,r1,r2,r3,r4,r5,r6,r7,rf⟩:=sf.Ap
  go_wp2_with fail
  exact bodyPost_ret (v:= .agg #[.int .i64 E, .int .i64 R.c, .int .i64 R.s, .int .i64 R.mi, .int .i64 R.ma, .int .i64 R.t, .int .i64 R.l, .slice none 0 0]) (by simp [results,Tryz.results17,go_sem, *]) rfl jq.out
 have VA:=hdd hk
 have k3:=hk
 clear hk
 by_cases hk:a.k=4
 ·skip
  have d1:(a.k == 1)=false:=by simp;omega
  have d2:(a.k == 2)=false:=by simp;omega
  have d3:(a.k == 3)=false:=by simp;omega
  have d4:(a.k == 4)=true:=by simp [hk]
  by_cases ee:x.m.wC a.t=0
  ·have Aa:=hdd (show fD x a=⟨x.m.exp a.t,x.s⟩ by unfold fD;rw [ai af,ar hk,ar ee])
   have rL:=hdd (show (⟨0,av.zero,[]⟩:An)=iN x a by unfold iN;rw [ai af,ai af,ai af,ar hk,ee])
   have wR:=hdd (G6 HE.out.is af ((HC.out _ B0).base _ (Only.refl _ _)) (sI.out _ B0) ee)
   clear ee hk
   go_upto_region 11 with (fail)
   refine eG [(0,1),(1,1),(2,1),(3,1),(4,0),(5,1),(6,0),(7,2),(8,1),(9,1),(10,3),(11,1),(12,3)] 10 (fun W=>SA gb w b a sa sc g0 l0 p0 g1 l1 p1 g2 l2 p2 so sn sp kp W) cv cv (HS.out _ B0) ?_
   (simp only [bF,List.filterMap_cons,List.filterMap_nil,List.getElem?_cons_zero,List.getElem?_cons_succ,Option.map_some])
   (repeat first|refine aV ?_|refine aU ?_)
   refine aM rfl (fun K hK=>?_)
   go_simp
   (with_reducible refine wR.out.mono ?_)
   rintro e w1 ⟨hb1,c,ya,yc,z0,m0,q0,z1,m1,q1,z2,m2,q2,rfl,OC,hi⟩
   go_simp
   have B1:ah W0 w1:=Below.trans' B0 hb1 aI
   refine hK _ _ (HS.out _ B1) ?_
   clear hK K
   have Fk:=hdd (aO OC hi)
   clear OC hi hb1 e0 e1 e2 e3 e4 e5 e6 e7 e8 e9 ef
   (repeat first|refine aV ?_|refine aU ?_)
   have Fl:=hdd (HC.out _ B1).box
   refine bn rfl (fun K hK=>?_)
   go_simp
   (with_reducible refine(FH Fl.out).mono ?_)
   rintro e w2 ⟨rfl,ht2,hb2⟩
   go_simp
   refine hK _ _ ?_
   clear hK K
   have OL:=hdd ((HZ.out _ B1).turn ht2 hgl)
   obtain⟨o0,o1,o2,o3,o4,o5,o6,o7,of⟩:=OL.out.oC
   have rI:=hdd (aO ht2 hb2)
   clear ht2 hb2
   (repeat first|refine aV ?_|refine aU ?_)
   refine bn rfl (fun K hK=>?_)
   go_simp
   refine hK _ _ ?_
   clear hK K
   refine cj ?_
   obtain⟨V,hV⟩:=bR (w2.setCell ⟨w.heap.size+1+1,0,none⟩ (.int .i64 0))
   have sf:jx w a ⟨⟨0,av.zero,[]⟩,none,0,0⟩ V:=by rw [hV];exact OL.out.set rfl
   have jq:=hdd (vk (V:=V) (q:=⟨⟨0,av.zero,[]⟩,none,0,0⟩) HE.out HD.out.1 HD.out.2 (HB.out _ B1) (fun w'' hw=>Fk.out.1 w'' (by rw [hk3];exact hw)) Fk.out.2 (by rw [hV];exact aw.setCell (rI.out.1.mono fun i _ hi=> .inl hi) (.inl (.inr ⟨by show w.heap.size<=w.heap.size+1+1;omega,by show w.heap.size+1+1<w.heap.size+3;omega⟩)) _) (by rw [hV];exact(heap_setCell_other _ ⟨w.heap.size+1+1,_,none⟩ _ _ Gz).trans rI.out.2) Aa.out rL.out ⟨rfl,rfl,rfl,rfl⟩)
   rw [<-hV]
   clear hV o0 o1 o2 o3 o4 o5 o6 o7 of
   obtain⟨o0,o1,o2,o3,o4,o5,o6,o7,of⟩:=sf.oC
   obtain⟨r0,r1,r2,r3,r4,r5,r6,r7,rf⟩:=sf.Ap
   go_wp2_with fail
   exact bodyPost_ret (v:= .agg #[.int .i64 0, .int .i64 av.zero.c, .int .i64 av.zero.s, .int .i64 av.zero.mi, .int .i64 av.zero.ma, .int .i64 av.zero.t, .int .i64 av.zero.l, .slice none 0 0]) (by simp [results,Tryz.results17,go_sem, *]) rfl jq.out
  ·obtain⟨E,hE⟩:=bC (x.m.wC a.t)
   have Aa:=hdd (show fD x a=x by unfold fD;rw [ai af,ar hk,ai ee])
   have rL:=hdd (show (⟨E,av.zero,[]⟩:An)=iN x a by unfold iN;rw [ai af,ai af,ai af,ar hk,hE])
   have tG:=G7 HE.out.is ((HC.out _ B0).base _ (Only.refl _ _)) (sI.out _ B0) ee
   rw [hE]at tG ee
   have wR:=hdd tG
   have VE:=hdd ee
   clear ee hk hE tG
   go_upto_region 11 with (fail)
   refine eG [(0,1),(1,1),(2,1),(3,1),(4,0),(5,1),(6,0),(7,2),(8,1),(9,1),(10,3),(11,1),(12,3)] 10 (fun W=>SA gb w b a sa sc g0 l0 p0 g1 l1 p1 g2 l2 p2 so sn sp kp W) cv cv (HS.out _ B0) ?_
   (simp only [bF,List.filterMap_cons,List.filterMap_nil,List.getElem?_cons_zero,List.getElem?_cons_succ,Option.map_some])
   (repeat first|refine aV ?_|refine aU ?_)
   refine aM rfl (fun K hK=>?_)
   go_simp
   (with_reducible refine wR.out.mono ?_)
   rintro e w1 ⟨hb1,rfl⟩
   go_simp
   have B1:ah W0 w1:=Below.trans' B0 hb1 aI
   refine hK _ _ (HS.out _ B1) ?_
   clear hK K hb1
   (repeat first|refine aV ?_|refine aU ?_)
   refine bn rfl (fun K hK=>?_)
   go_simp
   (with_reducible refine(Ir VE.out).mono ?_)
   rintro e w2 ⟨rfl,hb2⟩
   go_simp
   refine hK _ _ ?_
   clear hK K
   have B2:ah W0 w2:=Below.trans' B1 hb2 B1.size
   obtain⟨o0,o1,o2,o3,o4,o5,o6,o7,of⟩:=(HZ.out _ B2).oC
   (repeat first|refine aV ?_|refine aU ?_)
   refine bn rfl (fun K hK=>?_)
   go_simp
   refine hK _ _ ?_
   clear hK K
   refine cj ?_
   obtain⟨V,hV⟩:=bR (w2.setCell ⟨w.heap.size+1+1,0,none⟩ (.int .i64 E))
   have sf:jx w a ⟨⟨E,av.zero,[]⟩,none,0,0⟩ V:=by rw [hV];exact(HZ.out _ B2).set rfl
   have jq:=hdd (rF (V:=V) (q:=⟨⟨E,av.zero,[]⟩,none,0,0⟩) HE.out sf (by rw [hV];exact(HB.out _ B2).setCell (by show w.heap.size<=w.heap.size+1+1;omega) _) HD.out.1 Aa.out (OwnRows.nil _ _) rL.out)
   rw [<-hV]
   clear hV B2 o0 o1 o2 o3 o4 o5 o6 o7 of
   obtain⟨o0,o1,o2,o3,o4,o5,o6,o7,of⟩:=sf.oC
   obtain⟨r0,r1,r2,r3,r4,r5,r6,r7,rf⟩:=sf.Ap
   go_wp2_with fail
   exact bodyPost_ret (v:= .agg #[.int .i64 E, .int .i64 av.zero.c, .int .i64 av.zero.s, .int .i64 av.zero.mi, .int .i64 av.zero.ma, .int .i64 av.zero.t, .int .i64 av.zero.l, .slice none 0 0]) (by simp [results,Tryz.results17,go_sem, *]) rfl jq.out
 have k4:=hk
 clear hk
 by_cases hk:a.k=5
 ·skip
  have d1:(a.k == 1)=false:=by simp;omega
  have d2:(a.k == 2)=false:=by simp;omega
  have d3:(a.k == 3)=false:=by simp;omega
  have d4:(a.k == 4)=false:=by simp;omega
  have d5:(a.k == 5)=true:=by simp [hk]
  have Aa:=hdd (show fD x a=⟨x.m,x.m⟩ by unfold fD;rw [ai af,ai af,ar hk])
  have rL:=hdd (show (⟨0,av.zero,[]⟩:An)=iN x a by unfold iN;rw [ai af,ai af,ai af,ai af,ar (.inl hk)])
  have WM:x.m.bytes.length<=1000000:=by have h1:=HE.out.is.ok af;have h2:=h1.fit.short (by have:=h1.len;omega);show (eJ _ _ _++_).length<=_;omega
  have wR:=hdd (Ud HE.out.is af ((HC.out W0 (aL _ _)).base _ (Only.refl _ _)) (sI.out W0 (aL _ _)))
  have ZE:=hdd WM
  clear hk WM
  go_upto_region 14 with (go_at_call 39;(with_reducible refine wR.out.mono ?_);rintro e w1 ⟨hb1,ro,rc,rfl,hro⟩)
  have B1:ah W0 w1:=hb1
  have RM:=hdd hro
  have KQ:=hdd (HC.out _ B1).box
  obtain⟨RN,hRN⟩:=bC (x.m.bytes.length)
  have tY:=hdd hRN
  rw [hRN]
  clear hRN hro
  obtain⟨o0,o1,o2,o3,o4,o5,o6,o7,of⟩:=(HZ.out _ B1).oC
  clear hb1 e0 e1 e2 e3 e4 e5 e6 e7 e8 e9 ef
  go_upto_region 15 with (fail)
  obtain⟨V1,hV1⟩:=bR (w1.setCell ⟨w.heap.size+1+1,0,none⟩ (.int .i64 0))
  have OM:=hdd (show jx w a ⟨⟨0,av.zero,[]⟩,none,0,0⟩ V1 by rw [hV1];exact(HZ.out _ B1).set rfl)
  have N4:=hdd (show aw (Loc gb w.heap.size (w.heap.size+3)) w1 V1 by rw [hV1];exact aw.setCell (aw.refl _ _) (.inl (.inr ⟨by show w.heap.size<=w.heap.size+1+1;omega,by show w.heap.size+1+1<w.heap.size+3;omega⟩)) _)
  have hg1:V1.heap[gb]?=w1.heap[gb]?:=by rw [hV1];exact heap_setCell_other _ ⟨w.heap.size+1+1,_,none⟩ _ _ Gz
  have ZH:=hdd (hg1.trans KQ.out)
  clear hg1
  rw [<-hV1]
  clear hV1 o0 o1 o2 o3 o4 o5 o6 o7 of
  obtain⟨g8,g9,gf⟩:V1.cell? ⟨gb,8,none⟩=some (.slice so sn sp)/\V1.cell? ⟨gb,9,none⟩=some (.bool kp)/\∀o,V1.frozen? ⟨gb,o,none⟩=false:=by have h1:=ZH.out;simp [World.cell?,World.frozen?,h1]
  go_upto_region 21 with (fail)
  obtain⟨V,hV⟩:=bR ((V1.setCell ⟨gb,8,none⟩ (.slice ro RN rc)).setCell ⟨gb,9,none⟩ (.bool true))
  have TI:aw (fun i=>i=gb) V1 V:=by rw [hV];exact aw.setCell (X:=fun i=>i=gb) (p:=⟨gb,9,none⟩) (aw.setCell (X:=fun i=>i=gb) (p:=⟨gb,8,none⟩) (aw.refl _ _) (.inl rfl) _) (.inl rfl) _
  have sf:jx w a ⟨⟨0,av.zero,[]⟩,none,0,0⟩ V:=OM.out.turn TI hgl
  have jq:=hdd (NP (V:=V) (q:=⟨⟨0,av.zero,[]⟩,none,0,0⟩) HE.out hN HD.out.1 HD.out.2 (HB.out _ B1) (by have h:=RM.out;rw [hz0]at h;exact h) ZE.out (N4.out.trans (TI.mono fun i _ hi=> .inl hi)) (by rw [hV,tY.out];have h:=heap_setCell_same (off:=9) (v:= .bool true) (heap_setCell_same (off:=8) (v:= .slice ro RN rc) ZH.out);simpa using h) Aa.out rL.out ⟨rfl,rfl,rfl,rfl⟩)
  rw [<-hV]
  clear hV TI g8 g9 gf
  obtain⟨o0,o1,o2,o3,o4,o5,o6,o7,of⟩:=sf.oC
  obtain⟨r0,r1,r2,r3,r4,r5,r6,r7,rf⟩:=sf.Ap
  go_wp2_with fail
  exact bodyPost_ret (v:= .agg #[.int .i64 0, .int .i64 av.zero.c, .int .i64 av.zero.s, .int .i64 av.zero.mi, .int .i64 av.zero.ma, .int .i64 av.zero.t, .int .i64 av.zero.l, .slice none 0 0]) (by simp [results,Tryz.results17,go_sem, *]) rfl jq.out
 have k5:=hk
 clear hk
 by_cases hk:a.k=6
 ·skip
  have d1:(a.k == 1)=false:=by simp;omega
  have d2:(a.k == 2)=false:=by simp;omega
  have d3:(a.k == 3)=false:=by simp;omega
  have d4:(a.k == 4)=false:=by simp;omega
  have d5:(a.k == 5)=false:=by simp;omega
  have d6:(a.k == 6)=true:=by simp [hk]
  have Aa:=hdd (show fD x a=⟨x.s,x.s⟩ by unfold fD;rw [ai af,ai af,ai af,ar hk])
  have rL:=hdd (show (⟨0,av.zero,[]⟩:An)=iN x a by unfold iN;rw [ai af,ai af,ai af,ai af,ar (.inr hk)])
  clear hk
  cases kp with
  |false=>
   have hx0:=HE.out.U1 rfl
   have HN:=hdd (vd W0)
   have HX0:=hdd hx0
   clear hx0
   go_upto_region 19 with (fail)
   clear e0 e1 e2 e3 e4 e5 e6 e7 e8 e9 ef
   have rH:=hdd fun w1 (hb1:ah W0 w1)=>(HC.out w1 hb1).cells
   go_upto_region 21 with (go_at_call 16;(with_reducible refine HN.out.mono ?_);rintro e w1 ⟨⟨v1,rfl,vC⟩,hb1⟩;obtain⟨ya,yc,z0,m0,q0,z1,m1,q1,z2,m2,q2,rfl,-⟩:=(vC w1 (aQ.refl _ _)).open;obtain⟨e0,e1,e2,e3,e4,e5,e6,e7,e8,e9,ef⟩:=rH.out _ hb1)
   have B1:ah W0 w1:=hb1
   obtain⟨V,hV⟩:=bR (((((((((w1.setCell ⟨gb,0,none⟩ (.slice ya kq.names.length yc)).setCell ⟨gb,1,none⟩ (.slice z0 m0 q0)).setCell ⟨gb,2,none⟩ (.int .i64 kq.t0.root)).setCell ⟨gb,3,none⟩ (.slice z1 m1 q1)).setCell ⟨gb,4,none⟩ (.int .i64 kq.t1.root)).setCell ⟨gb,5,none⟩ (.slice z2 m2 q2)).setCell ⟨gb,6,none⟩ (.int .i64 kq.t2.root)).setCell ⟨gb,7,none⟩ (.int .i64 kq.floor)))
   have TI:aw (fun i=>i=gb) w1 V:=by rw [hV];exact sV (aw.refl _ _) _ _ _ _ _ _ _ _
   have sf:jx w a ⟨⟨0,av.zero,[]⟩,none,0,0⟩ V:=(HZ.out _ B1).turn TI hgl
   have jq:=hdd (vk (V:=V) (q:=⟨⟨0,av.zero,[]⟩,none,0,0⟩) (y:=x.s) HE.out HD.out.1 HD.out.2 (HB.out _ B1) (fun w'' hw=>vC w'' (hw.mono af)) (by rw [HX0.out];exact Mh.mono af) (TI.mono fun i _ hi=> .inl hi) (by rw [hV];exact zx (HC.out _ B1).box) Aa.out rL.out ⟨rfl,rfl,rfl,rfl⟩)
   rw [<-hV]
   clear hV TI vC hb1 e0 e1 e2 e3 e4 e5 e6 e7 e8 e9 ef
   obtain⟨o0,o1,o2,o3,o4,o5,o6,o7,of⟩:=sf.oC
   obtain⟨r0,r1,r2,r3,r4,r5,r6,r7,rf⟩:=sf.Ap
   go_wp2_with fail
   exact bodyPost_ret (v:= .agg #[.int .i64 0, .int .i64 av.zero.c, .int .i64 av.zero.s, .int .i64 av.zero.mi, .int .i64 av.zero.ma, .int .i64 av.zero.t, .int .i64 av.zero.l, .slice none 0 0]) (by simp [results,Tryz.results17,go_sem, *]) rfl jq.out
  |true=>
   have HDC:=hdd (Ug HE.out.ok af ((HC.out W0 (aL _ _)).saved rfl _ (Only.refl _ _)) (sI.out W0 (aL _ _)))
   have rH:=hdd fun w1 (hb1:ah W0 w1)=>(HC.out w1 hb1).box
   go_upto_region 20 with (fail)
   go_upto_region 21 with (first|(go_at_call 40;(with_reducible refine HDC.out.mono ?_);rintro e w1 ⟨hb1,c,ya,yc,z0,m0,q0,z1,m1,q1,z2,m2,q2,rfl,OC,hi⟩;have Fk:=hdd (aO OC hi);clear OC hi;have Fl:=rH.out _ hb1)|(go_at_call 34;(with_reducible refine(FH Fl).mono ?_);rintro e w2 ⟨rfl,ht2,hb2⟩;have OL:=hdd ((HZ.out _ hb1).turn ht2 hgl);obtain⟨o0,o1,o2,o3,o4,o5,o6,o7,of⟩:=OL.out.oC;have rI:=hdd (aO ht2 hb2);clear ht2 hb2))
   have B1:ah W0 w1:=hb1
   obtain⟨V,hV⟩:=bR (w2.setCell ⟨w.heap.size+1+1,0,none⟩ (.int .i64 0))
   have sf:jx w a ⟨⟨0,av.zero,[]⟩,none,0,0⟩ V:=by rw [hV];exact OL.out.set rfl
   have jq:=hdd (vk (V:=V) (q:=⟨⟨0,av.zero,[]⟩,none,0,0⟩) HE.out HD.out.1 HD.out.2 (HB.out _ B1) (fun w'' hw=>Fk.out.1 w'' (by rw [hz0];exact hw)) (Fk.out.2.mono af) (by rw [hV];exact aw.setCell (rI.out.1.mono fun i _ hi=> .inl hi) (.inl (.inr ⟨by show w.heap.size<=w.heap.size+1+1;omega,by show w.heap.size+1+1<w.heap.size+3;omega⟩)) _) (by rw [hV];exact(heap_setCell_other _ ⟨w.heap.size+1+1,_,none⟩ _ _ Gz).trans rI.out.2) Aa.out rL.out ⟨rfl,rfl,rfl,rfl⟩)
   rw [<-hV]
   clear hV Fl o0 o1 o2 o3 o4 o5 o6 o7 of
   clear e0 e1 e2 e3 e4 e5 e6 e7 e8 e9 ef
   obtain⟨o0,o1,o2,o3,o4,o5,o6,o7,of⟩:=sf.oC
   obtain⟨r0,r1,r2,r3,r4,r5,r6,r7,rf⟩:=sf.Ap
   go_wp2_with fail
   exact bodyPost_ret (v:= .agg #[.int .i64 0, .int .i64 av.zero.c, .int .i64 av.zero.s, .int .i64 av.zero.mi, .int .i64 av.zero.ma, .int .i64 av.zero.t, .int .i64 av.zero.l, .slice none 0 0]) (by simp [results,Tryz.results17,go_sem, *]) rfl jq.out
 have k6:=hk
 clear hk
 have d1:(a.k == 1)=false:=by simp;omega
 have d2:(a.k == 2)=false:=by simp;omega
 have d3:(a.k == 3)=false:=by simp;omega
 have d4:(a.k == 4)=false:=by simp;omega
 have d5:(a.k == 5)=false:=by simp;omega
 have d6:(a.k == 6)=false:=by simp;omega
 have Aa:=hdd (show fD x a=x by unfold fD;rw [ai af,ai af,ai af,ai af])
 have rL:=hdd (show (⟨3,av.zero,[]⟩:An)=iN x a by unfold iN;rw [ai af,ai af,ai af,ai af,ai af])
 clear e0 e1 e2 e3 e4 e5 e6 e7 e8 e9 ef
 obtain⟨o0,o1,o2,o3,o4,o5,o6,o7,of⟩:=(HZ.out W0 (aL _ _)).oC
 go_upto_region 21 with (fail)
 obtain⟨V,hV⟩:=bR (W0.setCell ⟨w.heap.size+1+1,0,none⟩ (.int .i64 3))
 have sf:jx w a ⟨⟨3,av.zero,[]⟩,none,0,0⟩ V:=by rw [hV];exact(HZ.out W0 (aL _ _)).set rfl
 have jq:=hdd (rF (V:=V) (q:=⟨⟨3,av.zero,[]⟩,none,0,0⟩) HE.out sf (by rw [hV];exact(HB.out W0 (aL _ _)).setCell (by show w.heap.size<=w.heap.size+1+1;omega) _) HD.out.1 Aa.out (OwnRows.nil _ _) rL.out)
 rw [<-hV]
 clear hV o0 o1 o2 o3 o4 o5 o6 o7 of
 obtain⟨o0,o1,o2,o3,o4,o5,o6,o7,of⟩:=sf.oC
 obtain⟨r0,r1,r2,r3,r4,r5,r6,r7,rf⟩:=sf.Ap
 go_wp2_with fail
 exact bodyPost_ret (v:= .agg #[.int .i64 3, .int .i64 av.zero.c, .int .i64 av.zero.s, .int .i64 av.zero.mi, .int .i64 av.zero.ma, .int .i64 av.zero.t, .int .i64 av.zero.l, .slice none 0 0]) (by simp [results,Tryz.results17,go_sem, *]) rfl jq.out
end
section
set_option maxRecDepth 100000
set_option maxHeartbeats 4000000
variable {xs:List Ac} {gb N:Nat} {D:Nat->Prop} {x:St} {w:World}
def yw (xs:List Ac) (w:World) (e:Ending) (w':World):Prop:=ah w w' /\
 ∃ao ac,∃qs:List qu,∃b sa sc g0 l0 p0 g1 l1 p1 g2 l2 p2,e = .returned (.tuple #[.slice ao qs.length ac, .agg (aJ sa b.names.length sc g0 l0 p0 g1 l1 p1 g2 l2 p2 b), .int .i64 0])/\qs.map qu.an=lu St.zero xs /\
  dZ w.heap.size w' (.slice ao qs.length ac) qs/\(∀q∈qs,OwnRows w.heap.size w' q.v q.an.rows)/\(∀w'',aQ w.heap.size w' w''->bQ w'' (.agg (aJ sa b.names.length sc g0 l0 p0 g1 l1 p1 g2 l2 p2 b)) b)/\Is b (iL St.zero xs).m xs.length /\
  ∀j,j<=xs.length->(iL St.zero (xs.take j)).m.Ok j
structure NT (w:World) (gb:Nat) (xs:List Ac) (k:Nat) (ov:Value) (qs:List qu) (wr:World):Prop where
 below:ah w wr
 lo:w.heap.size<gb
 lt:gb<wr.heap.size
 res:wr.heap[w.heap.size]?=some (.cells cN 30)
 own:dZ (gb+1) wr ov qs
 an:qs.map qu.an=lu St.zero (xs.take k)
 eng:rM gb (fun i=>i=gb\/ov.ownBlock=some i) wr (iL St.zero (xs.take k)) k
 rows:∀q∈qs,OwnRows (gb+1) wr q.v q.an.rows/\∀g,q.v.ownBlock=some g->ov.ownBlock≠some g
 ok:∀j,j<=k->(iL St.zero (xs.take j)).m.Ok j
theorem rM.ok (h:rM gb D w x N) (hN:N<=2900):x.m.Ok N:=by
 obtain⟨b,sa,sc,g0,l0,p0,g1,l1,p1,g2,l2,p2,so,sn,sp,kp,h⟩:=h
 exact h.is.ok hN
theorem rM.move {E:Nat->Prop} {w':World} (h:rM gb D w x N) (hO:Only D w w') (hg:w'.heap[gb]?=w.heap[gb]?) (hE:∀q,q<w.heap.size->E q->D q):rM gb E w' x N:=by
 obtain⟨b,sa,sc,g0,l0,p0,g1,l1,p1,g2,l2,p2,so,sn,sp,kp,h⟩:=h
 have key:∀w'',Only E w' w''->Only D w w'':=fun w'' hw=>⟨im hO.size hw.size,fun q hq hd=>(hw.block q (mR hq hO.size) (fun he=>hd (hE q hq he))).trans (hO.block q hq hd)⟩
 exact⟨b,sa,sc,g0,l0,p0,g1,l1,p1,g2,l2,p2,so,sn,sp,kp,hg.trans h.box,h.is,h.ok,fun w'' hw=>h.base w'' (key w'' hw),fun hk w'' hw=>h.saved hk w'' (key w'' hw),h.U1⟩
theorem Le {k:Nat} (hk:k<xs.length) (x:St):iL x (xs.take (k+1))=fD (iL x (xs.take k)) xs[k]/\lu x (xs.take (k+1))=lu x (xs.take k)++[iN (iL x (xs.take k)) xs[k]]:=by
 rw [mf hk]
 exact⟨vN _ _ _,Js _ _ _⟩
section
variable {w wr w1 w2 w3 w4:World} {gb:Nat} {xs:List Ac} {k:Nat} {ov v':Value} {qs:List qu} {q:qu} {a:Ac}
theorem NT.step (h:NT w gb xs k ov qs wr) (hk:k<xs.length) (ha:xs[k]=a) (h5:k+1<=500) (h1:ah wr w1) (hq:q.an=iN (iL St.zero (xs.take k)) a) (ht:aw (fun i=>i=gb) w1 w2)
  (he:rM gb (fun i=>i=gb\/ov.ownBlock=some i) w2 (fD (iL St.zero (xs.take k)) a) (k+1)) (hr:OwnRows w1.heap.size w2 q.v q.an.rows)
  (h3:ah w2 w3) (h4:dZ (gb+1) w4 v' (qs++[q])) (hg:w3.grownBy w4 ov.ownBlock) (hv:v'.ownBlock=ov.ownBlock\/v'.ownBlock=some w3.heap.size):NT w gb xs (k+1) v' (qs++[q]) w4:=by
 subst ha
 have hol:=h.own.lt
 have s1:=h1.size
 have s2:=ht.size
 have s3:=h3.size
 have s4:=hg.size
 have hlo:=h.lo
 have hlt:=h.lt
 obtain⟨e1,e2⟩:=Le hk St.zero
 have t3:aw (fun i=>i=gb\/ov.ownBlock=some i) w2 w4:=aw.grown (aw.of h3 aI) hg fun k hk=> .inl (.inr hk)
 have T:aw (fun i=>i=gb\/ov.ownBlock=some i) wr w4:=((aw.of h1 aI).trans (ht.mono fun i _ hi=> .inl hi)).trans t3
 have dh:=h.below.size
 have MD:∀i,i<gb->¬(i=gb\/ov.ownBlock=some i):=fun i hi hx=>by
  rcases hx with hx|hx
  ·omega
  ·have:=(hol i hx).1;omega
 have g34:∀i,i<w3.heap.size->ov.ownBlock≠some i->w4.heap[i]?=w3.heap[i]?:=fun i hi hn=>hg.block i hi fun e=>hn e.symm
 refine⟨T.below h.below dh fun i hi=>?_,hlo,by have:=T.size;omega,(T.block _ af (MD _ hlo)).trans h.res,h4,?_,?_,fun p hp=>?_,fun j hj=>?_⟩
 ·rcases hi with hi|hi
  ·omega
  ·have:=(hol i hi).1;omega
 ·rw [wJ,h.an,e2,List.map_cons,List.map_nil,hq]
 ·rw [e1]
  refine he.move (Only.turn t3 fun q hq=>hq) ?_ fun q hq hx=>?_
  ·rw [g34 gb af fun e=>by have:=(hol gb e).1;omega]
   exact h3.block gb af
  ·rcases hx with hx|hx
   ·exact .inl hx
   ·rcases hv with hv|hv
    ·exact .inr (hv▸hx)
    ·rw [hv]at hx;injection hx with hx;omega
 ·rcases kH.1 hp with hp|hp
  ·obtain⟨r1,r2⟩:=h.rows p hp
   refine⟨r1.block fun g hgg=>T.block g (r1.lt g hgg).2 fun hx=>?_,fun g hgg hx=>?_⟩
   ·rcases hx with hx|hx
    ·have:=(r1.lt g hgg).1;omega
    ·exact r2 g hgg hx
   ·have:=(r1.lt g hgg).2
    rcases hv with hv|hv
    ·exact r2 g hgg (hv▸hx)
    ·rw [hv]at hx;injection hx with hx;omega
  ·rw [ny.1 hp]
   refine⟨(hr.block fun g hgg=>?_).mono af,fun g hgg hx=>?_⟩
   ·obtain⟨q1,q2⟩:=hr.lt g hgg
    rw [g34 g af fun e=>by have:=(hol g e).2;omega]
    exact h3.block g q2
   ·obtain⟨q1,q2⟩:=hr.lt g hgg
    rcases hv with hv|hv
    ·have:=(hol g (hv▸hx)).2;omega
    ·rw [hv]at hx;injection hx with hx;omega
 ·by_cases hjk:j<=k
  ·exact h.ok j hjk
  ·obtain rfl:j=k+1:=af
   rw [e1]
   exact he.ok af
end
theorem Pk {v:Value} (h:Ot w v xs) (hs:∀a∈xs,a.s.size<=140737488351232) (hl:xs.length<=500) (hsz:bS w) :
  Calls Tryz.prog 5 #[v] w (yw xs w):=by
 obtain⟨ao,cap,rfl,a1,a2,a3,a4,a5⟩:=h
 obtain⟨W0,hW0⟩:=bR (w.alloc (.cells cN 30))
 have hb0:ah w W0:=by rw [hW0];exact ag
 have hz0:W0.heap.size=w.heap.size+1:=by rw [hW0];simp
 have k0:W0.heap[w.heap.size]?=some (.cells cN 30):=by rw [hW0];exact aq _ _ rfl
 have hd:decide ((500:Int)<(xs.length:Int))=false:=by simp;omega
 have HN:=hdd (vd W0)
 have sI:=hdd hsz
 have HL:=hdd hl
 have HSS:=hdd hs
 clear hsz hl hs
 go_enter Tryz.func5,Tryz.ntmps5
 go_upto_region 1 with (fail)
 rw [<-hW0]
 clear hW0
 go_upto_region 4 with (go_at_call 16;(with_reducible refine HN.out.mono ?_);rintro e w1 ⟨⟨v1,rfl,vC⟩,hb1⟩;obtain⟨sa,sc,g0,l0,p0,g1,l1,p1,g2,l2,p2,rfl,-⟩:=(vC w1 (aQ.refl _ _)).open)
 obtain⟨W1,hW1⟩:=bR (w1.alloc (.cells #[.slice sa kq.names.length sc, .slice g0 l0 p0, .int .i64 kq.t0.root, .slice g1 l1 p1, .int .i64 kq.t1.root, .slice g2 l2 p2, .int .i64 kq.t2.root, .int .i64 kq.floor, .slice none 0 0, .bool false] 63))
 have o8:ah w1 W1:=by rw [hW1];exact ag
 have k1:W1.heap[w1.heap.size]?=some (.cells #[.slice sa kq.names.length sc, .slice g0 l0 p0, .int .i64 kq.t0.root, .slice g1 l1 p1, .int .i64 kq.t1.root, .slice g2 l2 p2, .int .i64 kq.t2.root, .int .i64 kq.floor, .slice none 0 0, .bool false] 63):=by rw [hW1];exact aq _ _ rfl
 have hs1:=hb1.size
 have hz1:W1.heap.size=w1.heap.size+1:=by rw [hW1];simp
 have HI:=hdd (show NT w w1.heap.size xs 0 (.slice none 0 0) [] W1 from
  ⟨Below.trans' (Below.trans' hb0 hb1 hb0.size) o8 af,af,af,(o8.block _ af).trans ((hb1.block _ af).trans k0),dZ.nil _ _,rfl,
   ⟨kq,sa,sc,g0,l0,p0,g1,l1,p1,g2,l2,p2,none,0,0,false,k1,Mh,Mo.IA 0,fun w'' hw=>vC w'' ⟨by have:=hw.size;omega,fun q _ hq=>(hw.block q af (fun hx=>by
    rcases hx with hx|hx
    ·omega
    ·cases hx)).trans (o8.block q hq)⟩,(fun hk=>by cases hk),fun _=>rfl⟩,(fun q hq=>by cases hq),fun j hj=>by
   obtain rfl:j=0:=af
   exact Mo.IA 0⟩)
 rw [<-hW1]
 obtain⟨gb,hgb⟩:=bC (w1.heap.size)
 rw [hgb]at HI ⊢
 clear hW1 k1 hs1 hz1 k0 hb1 o8 hb0 hgb vC HN hd
 go_wp2_with fail
 go_loopg [6,18] xs.length (fun g ov i wr=>∃k:Nat,k<=xs.length/\g=xs.length-k/\i = .int .i64 k/\Hid (∃qs,NT w gb xs k ov qs wr))
 case atStart=>exact⟨0,jf _,rfl,rfl,hdd ⟨_,HI.out⟩⟩
 case round=>
  clear HI
  obtain⟨k,hk,rfl,rfl,HR⟩:=hrel
  obtain⟨qs,hA⟩:=HR.out
  obtain⟨oa,oc,rfl⟩:=hA.own.isSlice
  clear HR
  have PV:qs.length=k:=by
   have h1:=congrArg List.length hA.an
   rw [po,na,fx]at h1
   omega
  have HQL:=hdd PV
  clear PV
  by_cases hlt:k<xs.length
  ·have GD:(k:Int)<(xs.length:Int):=af
   obtain⟨ab,bp,rfl,xD,ac⟩:=a5 af
   obtain⟨a,ha⟩:=bC (xs[k])
   have hcs:∀W,ah w W->_:=fun W (hb:ah w W)=>KS (w:=W) (b:=ab) (off:=bp) (xs:=xs) (fun i x hi j u hu=>(hb.cell (p:=⟨ab,_,none⟩) xD).trans (ac i x hi j u hu)) hlt
   obtain⟨c0,c1,c2,c3,c4,c5⟩:=hcs _ hA.below
   rw [ha]at c0 c1 c2 c3 c4 c5
   have lA:=fun w'=>PJ (ab:=ab) (bp:=bp) (n:=xs.length) (cap:=cap) (show (k:Int)=((k:Nat):Int) by rfl) hlt w'
   have HA:=hdd hA
   have ZG:=hdd ha
   have xj:a.s.size<=140737488351232:=by rw [<-ha];exact HSS.out _ (gj hlt)
   have Zp:=hdd xj
   clear hA ha ac a5 hcs xj
   go_upto_region 8 with (fail)
   obtain⟨W1,hW1⟩:=bR (wr.alloc (.cells a.cs 46))
   have hb1:ah wr W1:=by rw [hW1];exact ag
   have k1:W1.heap[wr.heap.size]?=some (.cells a.cs 46):=by rw [hW1];exact aq _ _ rfl
   have hz1:W1.heap.size=wr.heap.size+1:=by rw [hW1];simp
   obtain⟨x0,x1,x2,x3,x4,x5⟩:W1.cell? ⟨wr.heap.size,0,none⟩=some (.int .i64 a.k)/\W1.cell? ⟨wr.heap.size,1,none⟩=some (.string a.s)/\W1.cell? ⟨wr.heap.size,2,none⟩=some (.int .i64 a.t)/\W1.cell? ⟨wr.heap.size,3,none⟩=some (.int .i64 a.z)/\W1.cell? ⟨wr.heap.size,4,none⟩=some (.int .i64 a.sz)/\W1.cell? ⟨wr.heap.size,5,none⟩=some (.int .i64 a.v):=by simp [World.cell?,k1,Ac.cs]
   have MC:=HA.out.own.lt
   obtain⟨b,sa,sc,g0,l0,p0,g1,l1,p1,g2,l2,p2,so,sn,sp,kp,hE⟩:=HA.out.eng
   have acZ:=hdd (Qu (a:=a) (hE.below hb1 aI) (fun q hq=>by
    have h1:=HA.out.lt
    rcases hq with hq|hq
    ·omega
    ·have:=(MC q hq).2;omega) (.inl rfl) (by have:=HL.out;omega) Zp.out (sI.out.below (Below.trans' HA.out.below hb1 HA.out.below.size)))
   have KQ:=hdd hb1
   have OM:=hdd hz1
   have HON:=hdd MC
   rw [<-hW1]
   obtain⟨qb,Oz⟩:=bC (wr.heap.size)
   rw [Oz]at x0 x1 x2 x3 x4 x5 ⊢
   clear hE MC hW1 hb1 k1 hz1 Oz c0 c1 c2 c3 c4 c5 lA
   go_wp2_with (first
    |(go_at_call 17;(with_reducible refine acZ.out.mono ?_);rintro e w2 ⟨q,rfl,hq,ht,he,hr⟩;have nG:=hdd (aO hq (aO ht (aO he hr)));have agt:gb+1<=w2.heap.size:=(by have h1:=ht.size;have h2:=HA.out.lt;have h3:=OM.out;omega);have Z7:dZ (gb+1) w2 (.slice oa qs.length oc) qs:=(HA.out.own.block fun g hg=>(ht.block g (by have:=(HON.out g hg).2;have:=OM.out;omega) (by have:=(HON.out g hg).1;omega)).trans (KQ.out.block g (HON.out g hg).2));clear hq ht he hr)
    |(at_builtin;refine ud rfl (.tmp 22) (.tmp 26) rfl (gb+1) _ qs rfl (Z7.alloc _) ⟨_,0,none⟩ q rfl (fun j u h=>QP h) (by have:=HL.out;have:=HQL.out;omega) (by simp;omega) ?_;intro v4 w4 Sn hg4 hv4))
   go_roundg (xs.length-(k+1))
   case measure=>omega
   case rel=>exact⟨k+1,af,rfl,by go_num,hdd ⟨_,HA.out.step hlt ZG.out (by have:=HL.out;omega) KQ.out nG.out.1 nG.out.2.1 nG.out.2.2.1 nG.out.2.2.2 (Below.alloc (aL _ _) aI _) Sn hg4 hv4⟩⟩
  ·obtain rfl:k=xs.length:=af
   obtain⟨b,sa,sc,g0,l0,p0,g1,l1,p1,g2,l2,p2,so,sn,sp,kp,hE⟩:=hA.eng
   obtain⟨e0,e1,e2,e3,e4,e5,e6,e7,-⟩:=hE.cells
   have RV:=hdd (oz (hE.base wr (Only.refl _ _)))
   have HA:=hdd hA
   have HI:=hdd hE.is
   clear hE hA
   have k0:=HA.out.res
   have UQ:=hdd (fun W (hb:ah wr W)=>(hb.block w.heap.size (by have:=HA.out.lo;have:=HA.out.lt;omega)).trans k0)
   go_upto_region 10 with (fail)
   clear k0
   go_wp2_with (go_at_call 18;(with_reducible refine RV.out.mono ?_);rintro e w5 ⟨cz,ya,yc,z0,m0,q0,z1,m1,q1,z2,m2,q2,rfl,-,-,-,-,-,-,kY⟩;have k5:=UQ.out _ cz;obtain⟨r0,r1,r2,r3,r4,r5,r6,r7,rf⟩:=gS k5;have Ib:=hdd (aO cz kY);clear cz kY k5)
   obtain⟨V,hV⟩:=bR (((((((((w5.setCell ⟨w.heap.size,0,none⟩ (.slice ya b.names.length yc)).setCell ⟨w.heap.size,1,none⟩ (.slice z0 m0 q0)).setCell ⟨w.heap.size,2,none⟩ (.int .i64 b.t0.root)).setCell ⟨w.heap.size,3,none⟩ (.slice z1 m1 q1)).setCell ⟨w.heap.size,4,none⟩ (.int .i64 b.t1.root)).setCell ⟨w.heap.size,5,none⟩ (.slice z2 m2 q2)).setCell ⟨w.heap.size,6,none⟩ (.int .i64 b.t2.root)).setCell ⟨w.heap.size,7,none⟩ (.int .i64 b.floor)))
   have Qc:ah w V:=by rw [hV];exact cH (Below.trans' HA.out.below Ib.out.1 HA.out.below.size) aI _ _ _ _ _ _ _ _
   have XJ:aQ (wr.heap.size+2) w5 V:=by rw [hV];exact rY (by have:=HA.out.lo;have:=HA.out.lt;omega) _ _ _ _ _ _ _ _
   have hbk:∀g,gb<g->g<wr.heap.size->V.heap[g]?=wr.heap[g]?:=fun g h1 h2=>by
    rw [hV,fk (by have:=HA.out.lo;omega)]
    exact Ib.out.1.block g h2
   have kV:V.heap[w.heap.size]?=some (.cells #[.slice ya b.names.length yc, .slice z0 m0 q0, .int .i64 b.t0.root, .slice z1 m1 q1, .int .i64 b.t1.root, .slice z2 m2 q2, .int .i64 b.t2.root, .int .i64 b.floor] 30):=by rw [hV];exact jd (UQ.out _ Ib.out.1)
   have jq:=hdd (show yw xs w (.returned (.tuple #[.slice oa qs.length oc, .agg (aJ ya b.names.length yc z0 m0 q0 z1 m1 q1 z2 m2 q2 b), .int .i64 0])) V from
    ⟨Qc,oa,oc,qs,b,ya,yc,z0,m0,q0,z1,m1,q1,z2,m2,q2,rfl,by rw [HA.out.an,List.take_length],(HA.out.own.block fun g hg=>hbk g (by have:=(HA.out.own.lt g hg).1;omega) (HA.out.own.lt g hg).2).mono (by have:=HA.out.lo;omega),
     fun q hq=>((HA.out.rows q hq).1.block fun g hg=>hbk g (by have:=((HA.out.rows q hq).1.lt g hg).1;omega) ((HA.out.rows q hq).1.lt g hg).2).mono (by have:=HA.out.lo;omega),
     fun w'' hw=>Ib.out.2 w'' (XJ.trans (hw.mono (by have:=HA.out.lo;have:=HA.out.lt;omega))),by have h:=HI.out;rw [List.take_length]at h;exact h,HA.out.ok⟩)
   obtain⟨r0',Z4,r2',r3',r4',r5',r6',r7',-⟩:=gS kV
   rw [<-hV]
   clear hV Qc XJ hbk kV r0 r1 r2 r3 r4 r5 r6 r7 rf e0 e1 e2 e3 e4 e5 e6 e7
   exact bodyPost_ret (v:= .tuple #[.slice oa qs.length oc, .agg (aJ ya b.names.length yc z0 m0 q0 z1 m1 q1 z2 m2 q2 b), .int .i64 0]) (by simp [results,Tryz.results5,aJ,go_sem, *]) rfl jq.out
end
end Go.Proofs.YtmljjfhgciaceaaGreatDoor
namespace Go.Proofs.YtmljjfhgciaceaaGreatDoor
section
variable {a:Ac} {s:ByteArray} {m:Mo} {x:St}
def pz (r:Rw):Ac:=
 if picked r.c 16=0 then⟨2,(ko r).s,picked r.a 6000,picked r.a 6000+picked r.b 9000,aS (picked r.b 3).toNat,0⟩
 else if picked r.c 16<3 then⟨3,(ko r).s,picked r.a 6000,picked r.a 6000+picked r.b 9000,0,0⟩
 else if picked r.c 16=3/\picked r.a 4=0 then⟨4,ByteArray.empty,3600*picked r.b 3,0,0,0⟩
 else if picked r.c 16=4 then⟨5,ByteArray.empty,0,0,0,0⟩
 else if picked r.c 16=5/\picked r.a 3=0 then⟨6,ByteArray.empty,0,0,0,0⟩
 else⟨1,(ko r).s,(ko r).t,0,0,(ko r).v⟩
def tU (a:Ac):Prop:=
 (a.k=1/\a.s∈iG/\0<=a.t/\a.t<12000/\-1000<=a.v/\a.v<1000)\/a.k=2\/a.k=3\/(a.k=4/\(a.t=0\/a.t=3600\/a.t=7200))\/a.k=5\/a.k=6
theorem BF (r:Rw):tU (pz r):=by
 unfold pz
 split
 ·exact .inr (.inl rfl)
 ·split
  ·exact .inr (.inr (.inl rfl))
  ·split
   ·have h:=cx (n:=r.b) (m:=3) aY
    refine .inr (.inr (.inr (.inl ⟨rfl,?_⟩)))
    show 3600*picked r.b 3=0\/3600*picked r.b 3=3600\/3600*picked r.b 3=7200
    omega
   ·split
    ·exact .inr (.inr (.inr (.inr (.inl rfl))))
    ·split
     ·exact .inr (.inr (.inr (.inr (.inr rfl))))
     ·exact .inl ⟨rfl,A9 r⟩
structure mh (m:Mo):Prop where
 nm:∀s∈m.ns,s∈iG
 nd:m.ns.Nodup
 f0:0<=m.fl
 f1:m.fl<=7200
 early:∀e∈m.L,e.key%1048576<14400
theorem mh.zero:mh Mo.zero:=⟨fun _ h=>(by cases h),List.Pairwise.nil,aY,aY,fun _ h=>(by cases h)⟩
theorem mh.few (h:mh m):m.ns.length<=4:=by
 exact ja (m:=iG) h.nd h.nm
theorem PF {L:List aA} {x e:aA} (h:e∈ins L x):e.key=x.key\/∃y∈L,e.key=y.key:=by
 induction L with
 |nil=>simp [ins]at h;exact .inl (by rw [h])
 |cons y l ih=>
  unfold ins at h
  split at h
  ·rcases eZ.1 h with rfl|h
   ·exact .inr ⟨_,bt,rfl⟩
   ·rcases ih h with h|⟨z,hz,h⟩
    ·exact .inl h
    ·exact .inr ⟨z,by simp [hz],h⟩
  ·split at h
   ·rcases eZ.1 h with rfl|h
    ·exact .inl rfl
    ·exact .inr ⟨e,by simp [h],rfl⟩
   ·rcases eZ.1 h with rfl|h
    ·exact .inl rfl
    ·exact .inr ⟨e,h,rfl⟩
theorem mh.add {t v:Int} (h:mh m) (hs:s∈iG) (h0:0<=t) (h1:t<14400):mh (m.add s t v):=by
 refine⟨fun x hx=>?_,qK h.nd,h.f0,h.f1,fun e he=>?_⟩
 ·rcases fV.1 hx with hx|rfl
  ·exact h.nm x hx
  ·exact hs
 ·rcases PF he with he|⟨y,hy,he⟩
  ·rw [he];simp only;omega
  ·rw [he];exact h.early y hy
theorem mh.exp {t:Int} (h:mh m) (h0:t=0\/t=3600\/t=7200):mh (m.exp t):=
 ⟨h.nm,h.nd,by show 0<=t;omega,by show t<=7200;omega,fun e he=>h.early e (ju.1 he).1⟩
theorem mh.act (h:mh x.m/\mh x.s) (ha:tU a):mh (fD x a).m/\mh (fD x a).s:=by
 unfold fD
 split
 ·rename_i hk
  split
  ·rcases ha with ⟨-,h1,h2,h3,-⟩|h1|h1|⟨h1,-⟩|h1|h1
   ·exact⟨h.1.add h1 h2 af,h.2⟩
   all_goals omega
  ·exact h
 ·split
  ·rename_i hk
   split
   ·rcases ha with ⟨h1,-⟩|h1|h1|⟨-,h1⟩|h1|h1
    ·omega
    ·omega
    ·omega
    ·exact⟨h.1.exp h1,h.2⟩
    all_goals omega
   ·exact h
  ·split
   ·exact⟨h.1,h.1⟩
   ·split
    ·exact⟨h.2,h.2⟩
    ·exact h
theorem mh.run {l:List Ac}:∀{x:St},mh x.m/\mh x.s->(∀a∈l,tU a)->mh (iL x l).m/\mh (iL x l).s:=by
 induction l with
 |nil=>intro x h _;exact h
 |cons a l ih=>intro x h ha;exact ih (mh.act h (ha a bt)) fun b hb=>ha b (by simp [hb])
theorem mh.takes {t v:Int} (h:mh m) (hs:s∈iG) (h0:m.fl<=t) (h1:t<=1048575) (h2 : -1000000<=v) (h3:v<=1000000):m.jN s t v=0:=by
 have hf:=h.few
 have h00:=h.f0
 unfold Mo.jN
 have hr:(eH t v).2=0:=by unfold eH;rw [ar ⟨af,h1,h2,h3⟩]
 rw [ai (by simp [(Bg s hs).1]),ai (iM hr),ai af,ai af]
theorem NQ (h:a.k=2\/a.k=3):fD x a=x:=by
 unfold fD
 rw [ai af,ai af,ai af,ai af]
theorem Qt {t v:Int} (h:m.jN s t v=0):dG s=true/\0<=t/\t<=1048575/\-1000000<=v/\v<=1000000/\m.fl<=t/\(aG m.ns s<0->m.ns.length<16):=by
 unfold Mo.jN at h
 split at h
 ·cases h
 rename_i h1
 split at h
 ·rename_i h2;exact absurd h h2
 rename_i h2
 split at h
 ·cases h
 rename_i h3
 split at h
 ·cases h
 rename_i h4
 have h2:(eH t v).2=0:=Decidable.not_not.1 h2
 unfold eH at h2
 split at h2
 ·rename_i hr
  exact⟨by simpa using h1,hr.1,hr.2.1,hr.2.2.1,hr.2.2.2,af,fun hp=>af⟩
 ·cases h2
end
section
variable {a:Ac} {s:ByteArray} {z:Int} {P:List sk} {x:St}
theorem LH {lN:List sk} {ns:List ByteArray} {a:Int} (hm:∀p∈lN,p.s∈ns) (hs:s∈ns) (hp:∀p∈lN,NV p) (ha:0<=a) (hz:z<=1048575):eT (mo (lN.map (l8 ns))) (aG ns s) a (z+1)=Gh lN s a z:=by
 have hg:aW (lN.map (l8 ns)):=fun e he=>by
  obtain⟨p,MB,rfl⟩:=pn.1 he
  exact(cp (nN (hp p MB)) (by show (1:Int)≠0;decide)).1
 have WR:=fun(q:Int->Bool)=>(show aW ((lN.map (l8 ns)).filter fun e=>q e.key)from fun e he=>hg e (ju.1 he).1)
 unfold eT
 have e1:aT (aG ns s*1048576+a) (aG ns s*1048576+(z+1))=fun e:aA=>(fun k:Int=>decide (aG ns s*1048576+a<=k) && decide (k<aG ns s*1048576+(z+1))) e.key:=rfl
 rw [e1,zT hg (fun k:Int=>decide (aG ns s*1048576+a<=k) && decide (k<aG ns s*1048576+(z+1))),xh (show aW ((lN.map (l8 ns)).filter fun e=>decide (aG ns s*1048576+a<=e.key) && decide (e.key<aG ns s*1048576+(z+1)))from WR fun k=>decide (aG ns s*1048576+a<=k) && decide (k<aG ns s*1048576+(z+1)))]
 have e2:(lN.map (l8 ns)).filter (fun e:aA=>(fun k:Int=>decide (aG ns s*1048576+a<=k) && decide (k<aG ns s*1048576+(z+1))) e.key)=(lN.filter (Gp s a z)).map (l8 ns):=by
  rw [List.filter_map]
  congr 1
  refine List.filter_congr fun p MB=>?_
  have hk:=hp p MB
  have hin:=hm p MB
  have hpos:=eU.2 hin
  have adt:=eU.2 hs
  obtain⟨k1,k2,-,-⟩:=hk
  simp only [Function.comp,l8,Gp]
  by_cases hps:p.s=s
  ·subst hps
   rw [Bool.eq_iff_iff];simp;omega
  ·have hne:aG ns p.s≠aG ns s:=fun e=>hps (JC hin e)
   rw [Bool.eq_iff_iff]
   simp only [Bool.and_eq_true,wI]
   refine⟨fun⟨h1,h2⟩=>?_,fun h1=>absurd h1.1.1 hps⟩
   have h1:=iY h1
   have h2:=iY h2
   omega
 rw [e2]
 have e3:=wk (s:=s) (a:=a) (z:=z) (ns:=ns) (ps:=lN) (r:=av.zero) si (fun p MB=> .inr (cp (nN (hp p MB)) (by show (1:Int)≠0;decide)).1)
 unfold Gh
 rw [e3,eF (cg fun e he=>by
  obtain⟨p,MB,rfl⟩:=pn.1 he
  exact .inr (cp (nN (hp p (ju.1 MB).1)) (by show (1:Int)≠0;decide)).1)]
noncomputable def Fx:St->List Ac->List sk
 |_,[]=>[]
 |x,a::l=>(if a.k=1/\(iN x a).code=0 then [⟨a.s,a.t,a.v⟩]else [])++Fx (fD x a) l
theorem Nx (h:a.k=1):(iN x a).code=x.m.jN a.s a.t a.v:=by unfold iN;rw [ar h]
structure CR (x:St) (P:List sk):Prop where
 ns:x.m.ns=(P.map sk.s).foldl dA []
 mem:∀p∈P,p.s∈x.m.ns
 ok:∀p∈P,NV p
 L:x.m.L=mo ((P.filter fun p=>decide (x.m.fl<=p.t)).map (l8 x.m.ns))
theorem CR.zero:CR St.zero []:=⟨rfl,fun _ h=>(by cases h),fun _ h=>(by cases h),rfl⟩
theorem Jx {ns:List ByteArray} (h:∀p∈P,NV p):aW (P.map (l8 ns)):=fun e he=>by
 obtain⟨p,hp,rfl⟩:=pn.1 he
 exact(cp (nN (h p hp)) (by show (1:Int)≠0;decide)).1
theorem CR.put (h:CR x P) (hk:a.k=1) (h0:x.m.jN a.s a.t a.v=0):CR (fD x a) (P++[⟨a.s,a.t,a.v⟩]):=by
 have e:fD x a=⟨x.m.add a.s a.t a.v,x.s⟩:=by unfold fD;rw [ar hk,ar h0]
 obtain⟨-,p0,p1,p2,p3,p4,-⟩:=Qt h0
 rw [e]
 refine⟨?_,fun p hp=>?_,fun p hp=>?_,?_⟩
 ·show dA x.m.ns a.s=_
  rw [wJ,List.foldl_append,<-h.ns];rfl
 ·show p.s∈dA x.m.ns a.s
  rcases kH.1 hp with hp|hp
  ·exact fV.2 (.inl (h.mem p hp))
  ·rw [ny.1 hp];exact fV.2 (.inr rfl)
 ·rcases kH.1 hp with hp|hp
  ·exact h.ok p hp
  ·rw [ny.1 hp];exact⟨p0,p1,p2,p3⟩
 ·show ins x.m.L _=mo (((P++[(⟨a.s,a.t,a.v⟩:sk)]).filter fun p=>decide (x.m.fl<=p.t)).map (l8 (dA x.m.ns a.s)))
  rw [sG,wJ]
  have e1:([⟨a.s,a.t,a.v⟩]:List sk).filter (fun p=>decide (x.m.fl<=p.t))=[⟨a.s,a.t,a.v⟩]:=by simp [p4]
  have e2:(P.filter fun p=>decide (x.m.fl<=p.t)).map (l8 (dA x.m.ns a.s))=(P.filter fun p=>decide (x.m.fl<=p.t)).map (l8 x.m.ns):=
   List.map_congr_left fun p hp=>Bt (h.mem p (ju.1 hp).1)
  rw [e1,e2,List.map_cons,List.map_nil,EP,<-h.L]
  rfl
theorem Ke {ns:List ByteArray} {p:sk} (h:NV p):(l8 ns p).key%1048576=p.t:=by
 have h1:=h.1
 have h2:=h.2.1
 show (aG ns p.s*1048576+p.t)%1048576=p.t
 omega
theorem CR.exp (h:CR x P) (hk:a.k=4) (h0:x.m.wC a.t=0):CR (fD x a) P:=by
 have e:fD x a=⟨x.m.exp a.t,x.s⟩:=by unfold fD;rw [ai af,ar hk,ar h0]
 have hfl:x.m.fl<=a.t:=by
  unfold Mo.wC at h0
  split at h0
  ·cases h0
  split at h0
  ·cases h0
  split at h0
  ·cases h0
  omega
 rw [e]
 refine⟨h.ns,h.mem,h.ok,?_⟩
 show x.m.L.filter (bO a.t)=mo ((P.filter fun p=>decide (a.t<=p.t)).map (l8 x.m.ns))
 have hg:aW ((P.filter fun p=>decide (x.m.fl<=p.t)).map (l8 x.m.ns)):=Jx fun p hp=>h.ok p (ju.1 hp).1
 have hy:bO a.t=fun e:aA=>(fun k:Int=>decide (a.t<=k%1048576)) e.key:=rfl
 rw [h.L,hy,zT hg fun k:Int=>decide (a.t<=k%1048576)]
 congr 1
 rw [List.filter_map,List.filter_filter]
 congr 1
 refine List.filter_congr fun p hp=>?_
 have ht:=Ke (ns:=x.m.ns) (h.ok p hp)
 simp only [Function.comp]
 rw [ht,Bool.eq_iff_iff]
 simp only [Bool.and_eq_true,wI]
 omega
theorem CR.act (h:CR x P) (hk:a.k≠5/\a.k≠6):CR (fD x a) (P++(if a.k=1/\(iN x a).code=0 then [⟨a.s,a.t,a.v⟩]else [])):=by
 by_cases h1:a.k=1
 ·have hc:=Nx (x:=x) h1
  by_cases h0:x.m.jN a.s a.t a.v=0
  ·rw [ar ⟨h1,by rw [hc];exact h0⟩]
   exact h.put h1 h0
  ·rw [ai (fun hn=>h0 (hc▸hn.2)),pq]
   have e:fD x a=x:=by unfold fD;rw [ar h1,ai h0]
   rw [e];exact h
 ·rw [ai (fun hn=>h1 hn.1),pq]
  by_cases h4:a.k=4
  ·by_cases h0:x.m.wC a.t=0
   ·exact h.exp h4 h0
   ·have e:fD x a=x:=by unfold fD;rw [ai h1,ar h4,ai h0]
    rw [e];exact h
  ·have e:fD x a=x:=by unfold fD;rw [ai h1,ai h4,ai hk.1,ai hk.2]
   rw [e];exact h
theorem CR.run {l:List Ac}:∀{x:St} {P:List sk},CR x P->(∀a∈l,a.k≠5/\a.k≠6)->CR (iL x l) (P++Fx x l):=by
 induction l with
 |nil=>intro x P h _;simpa [Fx,iL] using h
 |cons a l ih=>
  intro x P h hk
  have:=ih (h.act (hk a bt)) fun b hb=>hk b (by simp [hb])
  rw [jn]at this
  exact this
theorem Nj {xs:List ByteArray}:∀{ns:List ByteArray} {s:ByteArray},s∈xs.foldl dA ns↔s∈ns\/s∈xs:=by
 induction xs with
 |nil=>intro ns s;simp
 |cons x xs ih=>
  intro ns s
  rw [List.foldl_cons,ih,fV]
  constructor
  ·rintro((h|h)|h)
   ·exact .inl h
   ·exact .inr (by simp [h])
   ·exact .inr (by simp [h])
  ·rintro(h|h)
   ·exact .inl (.inl h)
   ·rcases eZ.1 h with h|h
    ·exact .inl (.inr h)
    ·exact .inr h
theorem CR.any (h:CR x P) (s:ByteArray):s∈x.m.ns↔∃p∈P,p.s=s:=by
 rw [h.ns,Nj]
 constructor
 ·rintro(h|h)
  ·cases h
  ·obtain⟨p,h1,h2⟩:=pn.1 h
   exact⟨p,h1,h2⟩
 ·rintro⟨p,h1,h2⟩
  exact .inr (pn.2 ⟨p,h1,h2⟩)
theorem CR.total (h:CR x P) {a:Int} (hr:cO a z) :
  (s∉x.m.ns->x.m.pH s a z=6)/\(s∈x.m.ns->x.m.pH s a z=0/\x.m.KU s a z=Gh (P.filter fun p=>decide (x.m.fl<=p.t)) s a z):=by
 refine⟨fun hs=>?_,fun hs=>?_⟩
 ·have hp:aG x.m.ns s<0:=by
   have:¬0<=aG x.m.ns s:=fun h'=>hs (eU.1 h')
   omega
  have e:x.m.um s=6:=ar hp
  unfold Mo.pH
  rw [e,ar aY]
 ·have hp:=eU.2 hs
  have e:x.m.um s=0:=ai af
  have e2:x.m.pH s a z=0:=by unfold Mo.pH;rw [e,ai aY,ai (iM hr)]
  refine⟨e2,?_⟩
  unfold Mo.KU
  rw [ar e2,h.L]
  exact LH (fun p hp=>h.mem p (ju.1 hp).1) hs (fun p hp=>h.ok p (ju.1 hp).1) hr.1 hr.2.2
end
end Go.Proofs.YtmljjfhgciaceaaGreatDoor
