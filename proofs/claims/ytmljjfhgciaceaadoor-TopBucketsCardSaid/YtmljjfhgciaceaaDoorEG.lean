/- Texts of mine that come as one: MoP EngA EngQ DecI RowsE Act Run TopP TopQ. -/
import Derived.Test.YtmljjfhgciaceaaDoorHd
import Derived.Test.YtmljjfhgciaceaaDoorMD
import Derived.Test.YtmljjfhgciaceaaDoorKC
import Derived.Test.YtmljjfhgciaceaaDoorEX
import Derived.Test.YtmljjfhgciaceaaDoorKE
import Derived.Test.YtmljjfhgciaceaaDoorKD
import Derived.Test.YtmljjfhgciaceaaDoorTG
import Derived.Test.YtmljjfhgciaceaaDoorBG
import Derived.Test.YtmljjfhgciaceaaDoorPS
import Derived.Test.YtmljjfhgciaceaaDoorKG
import Derived.Test.YtmljjfhgciaceaaDoorDK
import Derived.Maps.AppendAt
import Derived.Test.YtmljjfhgciaceaaDoorSO
import Derived.Deep.CutBlock
namespace Go.Proofs.YtmljjfhgciaceaaDoor
section
variable {b:Ba} {N M:Nat}
structure Mo where
 ns:List ByteArray
 fl:Int
 L:List aA
def Mo.zero:Mo:=⟨[],0,[]⟩
structure Ac where
 k:Int
 s:ByteArray
 t:Int
 z:Int
 sz:Int
 v:Int
structure An where
 code:Int
 is:au
 rows:List aA
noncomputable def Mo.jL (m:Mo) (s:ByteArray) (t v:Int):Int:=
 if dG s=false then 4 else if (eJ t v).2≠0 then(eJ t v).2 else if t<m.fl then 8 else if aG m.ns s<0/\16<=m.ns.length then 1 else 0
def Mo.add (m:Mo) (s:ByteArray) (t v:Int):Mo:=⟨dB m.ns s,m.fl,ins m.L ⟨aG (dB m.ns s) s*1048576+t,⟨1,v,v,v,t,v⟩⟩⟩
def Mo.uj (m:Mo) (s:ByteArray):Int:=if aG m.ns s<0 then 6 else 0
def Mo.ey (m:Mo) (s:ByteArray) (n a z:Int):Int:=if m.uj s≠0 then m.uj s else if n≠1/\n≠60/\n≠3600 then 3 else if ¬cO a z then 2 else 0
def Mo.rows (m:Mo) (s:ByteArray) (n a z:Int):List aA:=if m.ey s n a z=0 then qo m.L n (aG m.ns s) a z else []
def Mo.pJ (m:Mo) (s:ByteArray) (a z:Int):Int:=if m.uj s≠0 then m.uj s else if ¬cO a z then 2 else 0
def Mo.KP (m:Mo) (s:ByteArray) (a z:Int):au:=if m.pJ s a z=0 then eF m.L (aG m.ns s) a (z+1)else au.zero
def Mo.wj (m:Mo) (t:Int):Int:=if ¬(0<=t/\t<=1048575)then 2 else if t%3600≠0 then 4 else if t<m.fl then 8 else 0
def Mo.exp (m:Mo) (t:Int):Mo:=⟨m.ns,t,m.L.filter (bM t)⟩
def Mo.bytes (m:Mo):List Int:=eN m.ns m.fl m.L++j6 (eN m.ns m.fl m.L)
structure Mo.Ok (m:Mo) (N:Nat):Prop where
 fit:Fit m.ns m.fl m.L
 fA:fA m.L<=N
structure Is (b:Ba) (m:Mo) (N:Nat):Prop where
 st:Fk b m.L N
 ns:b.names=m.ns
 fl:b.floor=m.fl
theorem Mo.Ok.mono {m:Mo} (h:m.Ok N) (hN:N<=M):m.Ok M:=⟨h.fit,by have:=h.fA;omega⟩
theorem Mo.Ok.len {m:Mo} (h:m.Ok N):m.L.length<=N:=by
 have h1:=Dx h.fit.good.1.bJ
 have h2:=h.fA
 omega
theorem Mo.Iq (N:Nat):Mo.zero.Ok N:=by
 refine⟨⟨?_,?_,?_,?_,?_,?_,⟨?_,?_,?_⟩,?_,?_,?_⟩,?_⟩ <;> simp [Mo.zero,aV,Checked,Go.Proofs.YtmljjfhgciaceaaDoor.fA]
theorem Is.mono {m:Mo} (h:Is b m N) (hN:N<=M):Is b m M:=
 ⟨⟨h.st.may,h.st.book,fun k hk=>by have:=h.st.wt k hk;omega,by have:=h.st.fA;omega⟩,h.ns,h.fl⟩
theorem Is.kn {m:Mo} (h:Is b m N):Kn b m.L N:=h.st.kn
theorem Is.ok {m:Mo} (h:Is b m N) (hN:N<=2900):m.Ok N:=by
 have hb:=dJ h.st.may
 have hg:=h.st.bJ
 have hl:=h.kn.len
 have hbk:=(lC h.st.book).2
 have hc:=h.st.fA
 refine⟨⟨by rw [<-h.ns];exact hb.n16,fun s hs=>?_,?_,by rw [<-h.fl];exact⟨hb.Zb,hb.XM⟩,by rw [<-h.fl];exact hb.fl2,hg.1,hg.2,af,af,fun e he=>?_⟩,hc⟩
 ·rw [<-h.ns]at hs
  obtain⟨i,hi,rfl⟩:=kW hs
  exact(hb.names i hi).1
 ·rw [<-h.ns]
  exact pz.2 fun i j hi hj hij=>(hb.names j hj).2 i hij
 ·have:=pA.1 hbk e he
  simp [jm]at this
  rw [h.ns,h.fl]at this
  exact⟨this.1.1,this.1.2,this.2⟩
theorem Is.UK {m:Mo} (h:Is b m N) (s:ByteArray):bT b s=m.uj s:=by
 unfold bT Mo.uj
 rw [ar h.st.may,h.ns]
theorem Is.Ph {m:Mo} (h:Is b m N) (hN:N<=500) (s:ByteArray) (n a z:Int):Go.Proofs.YtmljjfhgciaceaaDoor.ey b s n a z=m.ey s n a z/\nR b s n a z=m.rows s n a z:=by
 by_cases h1:m.uj s≠0
 ·have he:=pL (b:=b) (s:=s) (n:=n) (a:=a) (z:=z) (by rw [h.UK];exact h1)
  rw [h.UK]at he
  have e1:m.ey s n a z=m.uj s:=ar h1
  exact⟨he.1.trans e1.symm,by unfold Mo.rows;rw [e1,ai h1];exact he.2⟩
 ·have h1':m.uj s=0:=Decidable.not_not.1 h1
  have hs:bT b s=0:=(h.UK s).trans h1'
  by_cases h2:n≠1/\n≠60/\n≠3600
  ·have he:=yF (a:=a) (z:=z) hs h2
   have e1:m.ey s n a z=3:=by unfold Mo.ey;rw [ai h1,ar h2]
   exact⟨he.1.trans e1.symm,by unfold Mo.rows;rw [e1];exact he.2⟩
  ·obtain⟨k,hk,hn⟩:∃k,k<3/\n=aR k:=by
    rcases wV n with ⟨k,hk,e,-⟩|⟨g1,g2,g3,-⟩
    ·exact⟨k,hk,e⟩
    ·exact absurd ⟨g1,g2,g3⟩ h2
   by_cases h3:cO a z
   ·have hp:0<=aG b.names s:=by
     rcases h.kn.BN s with ⟨-,g⟩|⟨g,-⟩
     ·omega
     ·exact g
    obtain⟨g1,g2⟩:=h.kn.rows hN hp hk h3
    subst hn
    have e1:m.ey s (aR k) a z=0:=by unfold Mo.ey;rw [ai h1,ai h2,ai (iF h3)]
    exact⟨g1.trans e1.symm,by unfold Mo.rows;rw [ar e1,g2,h.ns];rfl⟩
   ·have he:=wY hs hk hn h3
    have e1:m.ey s n a z=2:=by unfold Mo.ey;rw [ai h1,ai h2,ar h3]
    exact⟨he.1.trans e1.symm,by unfold Mo.rows;rw [e1];exact he.2⟩
theorem Is.VE {m:Mo} (h:Is b m N) (hN:N<=1000000) (s:ByteArray) (a z:Int):mA b s a z=m.pJ s a z/\mz b s a z=m.KP s a z:=by
 by_cases h1:m.uj s≠0
 ·have he:=pI (b:=b) (s:=s) (a:=a) (z:=z) (by rw [h.UK];exact h1)
  rw [h.UK]at he
  have e1:m.pJ s a z=m.uj s:=ar h1
  exact⟨he.1.trans e1.symm,by unfold Mo.KP;rw [e1,ai h1];exact he.2⟩
 ·have hs:bT b s=0:=(h.UK s).trans (Decidable.not_not.1 h1)
  by_cases h3:cO a z
  ·have hp:0<=aG b.names s:=by
    rcases h.kn.BN s with ⟨-,g⟩|⟨g,-⟩
    ·omega
    ·exact g
   obtain⟨g1,g2⟩:=h.kn.total hN hp h3
   have e1:m.pJ s a z=0:=by unfold Mo.pJ;rw [ai h1,ai (iF h3)]
   exact⟨g1.trans e1.symm,by unfold Mo.KP;rw [ar e1,g2,h.ns]⟩
  ·have he:=wU hs h3
   have e1:m.pJ s a z=2:=by unfold Mo.pJ;rw [ai h1,ar h3]
   exact⟨he.1.trans e1.symm,by unfold Mo.KP;rw [e1];exact he.2⟩
theorem Is.Ro {m:Mo} (h:Is b m N) (s:ByteArray) (t v:Int):jt b s t v=m.jL s t v:=by
 unfold jt Mo.jL
 rw [ai (by simp [h.st.may]),h.ns,h.fl]
theorem Is.Rl {m:Mo} (h:Is b m N) (t:Int):nL b t=m.wj t/\qZ b t=(m.exp t).L:=by
 refine⟨?_,?_⟩
 ·unfold nL Mo.wj
  rw [ai (by simp [h.st.may]),h.fl]
 ·unfold qZ
  rw [h.st.book];rfl
theorem Is.enc {m:Mo} (h:Is b m N) (hN:N<=500):Aw b=0/\Av b=m.bytes:=by
 have hl:=h.kn.len
 have hg:=h.st.bJ
 have ho:=h.ok af
 have e:jl b m.L=eN m.ns m.fl m.L:=by rw [Bo,h.ns,h.fl]
 have hsm:(jl b m.L).length<=30000:=by
  have h1:=uN (last:=0) hg.2 (Int.le_refl 0)
  have h2:=rR (ns:=b.names) (nX h.st.may)
  have h3:=(dJ h.st.may).n16
  have h4:=cd (n:=b.names.length) af
  have h5:=cd (n:=b.floor.toNat) (by have:=(dJ h.st.may).XM;omega)
  have h6:=cd (n:=m.L.length) af
  unfold jl
  simp only [eP,fR,List.length_nil]
  omega
 obtain⟨g1,g2⟩:=IY h.st.may h.st.book af af
 exact⟨g1,by rw [g2,e];rfl⟩
structure St where
 m:Mo
 s:Mo
def St.zero:St:=⟨Mo.zero,Mo.zero⟩
noncomputable def fB (x:St) (a:Ac):St:=
 if a.k=1 then(if x.m.jL a.s a.t a.v=0 then⟨x.m.add a.s a.t a.v,x.s⟩else x)
 else if a.k=4 then(if x.m.wj a.t=0 then⟨x.m.exp a.t,x.s⟩else x)
 else if a.k=5 then⟨x.m,x.m⟩else if a.k=6 then⟨x.s,x.s⟩else x
noncomputable def iq (x:St) (a:Ac):An:=
 if a.k=1 then⟨x.m.jL a.s a.t a.v,au.zero,[]⟩
 else if a.k=2 then⟨x.m.ey a.s a.sz a.t a.z,au.zero,x.m.rows a.s a.sz a.t a.z⟩
 else if a.k=3 then⟨x.m.pJ a.s a.t a.z,x.m.KP a.s a.t a.z,[]⟩
 else if a.k=4 then⟨x.m.wj a.t,au.zero,[]⟩
 else if a.k=5\/a.k=6 then⟨0,au.zero,[]⟩ else⟨3,au.zero,[]⟩
noncomputable def iC (x:St) (l:List Ac):St:=l.foldl fB x
noncomputable def lZ:St->List Ac->List An
 |_,[]=>[]
 |x,a::l=>iq x a::lZ (fB x a) l
theorem ng:∀(x:St) (l:List Ac),(lZ x l).length=l.length
 |_,[]=>rfl
 |x,a::l=>by rw [lZ,fR,fR,ng]
theorem qN:∀(x:St) (l r:List Ac),lZ x (l++r)=lZ x l++lZ (iC x l) r
 |_,[],_=>rfl
 |x,a::l,r=>by rw [List.cons_append,lZ,lZ,qN];rfl
theorem C3 (x:St) (l r:List Ac):iC x (l++r)=iC (iC x l) r:=List.foldl_append
theorem Jo (x:St) (l:List Ac) (a:Ac):lZ x (l++[a])=lZ x l++[iq (iC x l) a]:=by rw [qN];rfl
theorem vL (x:St) (l:List Ac) (a:Ac):iC x (l++[a])=fB (iC x l) a:=by rw [C3];rfl
end
open Go.RowKit
section
set_option maxRecDepth 100000
variable {B M K yc m0 q0 m1 q1 m2 q2 gb N:Nat} {D E:Nat->Prop} {z0 z1 z2:Option Addr} {x:St} {a0 a1 a2 a3 a4 a5 a6 a7 a8 a9:Value} {w w' W1 W2:World}
abbrev Ac.cs (a:Ac):Array Value:=#[.int .i64 a.k, .string a.s, .int .i64 a.t, .int .i64 a.z, .int .i64 a.sz, .int .i64 a.v]
def px (a:Ac):List Value:=[.int .i64 a.k, .string a.s, .int .i64 a.t, .int .i64 a.z, .int .i64 a.sz, .int .i64 a.v]
theorem xu (a:Ac):(px a).length=6:=rfl
theorem EB (xs:List Ac):∀u∈xs.flatMap px,u.oneCell'=true:=by
 intro u hu
 obtain⟨p,_,hp⟩:=List.mem_flatMap.1 hu
 simp only [px,fc,List.not_mem_nil,or_false]at hp
 rcases hp with rfl|rfl|rfl|rfl|rfl|rfl <;> rfl
abbrev Oq (w:World) (v:Value) (xs:List Ac):Prop:=dN 6 56 px w v xs
theorem Tryd.V8:(Tryd.prog.info? 26).map (fun i=>(i.zero.map (fun z=>z.cells.size),i.size,i.bytes))=some (some 6,6,56):=cy
structure qx where
 an:An
 so:Option Addr
 n:Nat
 c:Nat
abbrev qx.v (q:qx):Value:= .slice q.so q.n q.c
abbrev qx.cs (q:qx):Array Value:=#[.int .i64 q.an.code, .int .i64 q.an.is.c, .int .i64 q.an.is.s, .int .i64 q.an.is.mi, .int .i64 q.an.is.ma, .int .i64 q.an.is.t, .int .i64 q.an.is.l, .slice q.so q.n q.c]
def uP (q:qx):List Value:=[.int .i64 q.an.code, .int .i64 q.an.is.c, .int .i64 q.an.is.s, .int .i64 q.an.is.mi, .int .i64 q.an.is.ma, .int .i64 q.an.is.t, .int .i64 q.an.is.l, .slice q.so q.n q.c]
theorem EA (q:qx):(uP q).length=8:=rfl
theorem Nq (xs:List qx):∀u∈xs.flatMap uP,u.oneCell'=true:=by
 intro u hu
 obtain⟨p,_,hp⟩:=List.mem_flatMap.1 hu
 simp only [uP,fc,List.not_mem_nil,or_false]at hp
 rcases hp with rfl|rfl|rfl|rfl|rfl|rfl|rfl|rfl <;> rfl
abbrev RM (w:World) (v:Value) (xs:List qx):Prop:=dN 8 80 uP w v xs
theorem Tryd.PH:(Tryd.prog.info? 45).map (fun i=>(i.zero.map (fun z=>z.cells.size),i.size,i.bytes))=some (some 8,8,80):=cy
structure Only (D:Nat->Prop) (w w':World):Prop where
 size:w.heap.size<=w'.heap.size
 block:∀q,q<w.heap.size->¬D q->w'.heap[q]?=w.heap[q]?
theorem Only.refl (D:Nat->Prop) (w:World):Only D w w:=⟨kK _,fun _ _ _=>rfl⟩
theorem Only.trans {a b c:World} (h:Only D a b) (k:Only D b c):Only D a c:=
 ⟨gT h.size k.size,fun i hi hx=>(k.block i (mE hi h.size) hx).trans (h.block i hi hx)⟩
theorem Only.of (h:Below B w w') (hB:w.heap.size<=B):Only D w w':=⟨h.size,fun q hq _=>h.block q af⟩
theorem Only.turn {X:Nat->Prop} (h:aw X w w') (hX:∀q,X q->D q):Only D w w':=⟨h.size,fun q hq hd=>h.block q hq fun hx=>hd (hX q hx)⟩
theorem Only.mono (h:Only D w w') (hX:∀q,q<w.heap.size->D q->E q):Only E w w':=⟨h.size,fun q hq hd=>h.block q hq fun hx=>hd (hX q hq hx)⟩
theorem Only.keep (h:Only D w w') (hD:∀q,D q->q<B):aP B w w':=⟨h.size,fun q hq hs=>h.block q hs fun hd=>by have:=hD q hd;omega⟩
structure mq (gb:Nat) (D:Nat->Prop) (w:World) (x:St) (N:Nat) (b:Ba) (sa:Option Addr) (sc:Nat) (g0:Option Addr) (l0 p0:Nat) (g1:Option Addr) (l1 p1:Nat) (g2:Option Addr) (l2 p2:Nat) (so:Option Addr) (sn sp:Nat) (kp:Bool):Prop where
 box:w.heap[gb]?=some (.cells #[.slice sa b.names.length sc, .slice g0 l0 p0, .int .i64 b.t0.root, .slice g1 l1 p1, .int .i64 b.t1.root, .slice g2 l2 p2, .int .i64 b.t2.root, .int .i64 b.floor, .slice so sn sp, .bool kp] 104)
 is:Is b x.m N
 ok:x.s.Ok N
 base:∀w'',Only D w w''->bN w'' (.agg (aH sa b.names.length sc g0 l0 p0 g1 l1 p1 g2 l2 p2 b)) b
 saved:kp=true->∀w'',Only D w w''->fE w'' (.slice so sn sp) x.s.bytes
 UO:kp=false->x.s=Mo.zero
section
variable {gb:Nat} {D:Nat->Prop} {w w':World} {x:St} {N:Nat} {b:Ba} {sa:Option Addr} {sc:Nat} {g0:Option Addr} {l0 p0:Nat} {g1:Option Addr} {l1 p1:Nat} {g2:Option Addr} {l2 p2:Nat} {so:Option Addr} {sn sp:Nat} {kp:Bool}
theorem mq.later (h:mq gb D w x N b sa sc g0 l0 p0 g1 l1 p1 g2 l2 p2 so sn sp kp) (hO:Only D w w') (hg:w'.heap[gb]?=w.heap[gb]?):mq gb D w' x N b sa sc g0 l0 p0 g1 l1 p1 g2 l2 p2 so sn sp kp:=
 ⟨hg.trans h.box,h.is,h.ok,fun w'' hw=>h.base w'' (hO.trans hw),fun hk w'' hw=>h.saved hk w'' (hO.trans hw),h.UO⟩
theorem mq.lt (h:mq gb D w x N b sa sc g0 l0 p0 g1 l1 p1 g2 l2 p2 so sn sp kp):gb<w.heap.size:=(eW.1 h.box).1
theorem mq.below (h:mq gb D w x N b sa sc g0 l0 p0 g1 l1 p1 g2 l2 p2 so sn sp kp) (hb:Below B w w') (hB:w.heap.size<=B):mq gb D w' x N b sa sc g0 l0 p0 g1 l1 p1 g2 l2 p2 so sn sp kp:=
 h.later (Only.of hb hB) (hb.block _ (by have:=h.lt;omega))
theorem mq.mono (h:mq gb D w x N b sa sc g0 l0 p0 g1 l1 p1 g2 l2 p2 so sn sp kp) (hN:N<=M):mq gb D w x M b sa sc g0 l0 p0 g1 l1 p1 g2 l2 p2 so sn sp kp:=
 ⟨h.box,h.is.mono hN,h.ok.mono hN,h.base,h.saved,h.UO⟩
theorem mq.cells (h:mq gb D w x N b sa sc g0 l0 p0 g1 l1 p1 g2 l2 p2 so sn sp kp) :
  w.cell? ⟨gb,0,none⟩=some (.slice sa b.names.length sc)/\w.cell? ⟨gb,1,none⟩=some (.slice g0 l0 p0)/\w.cell? ⟨gb,2,none⟩=some (.int .i64 b.t0.root)/\w.cell? ⟨gb,3,none⟩=some (.slice g1 l1 p1)/\w.cell? ⟨gb,4,none⟩=some (.int .i64 b.t1.root)/\w.cell? ⟨gb,5,none⟩=some (.slice g2 l2 p2)/\w.cell? ⟨gb,6,none⟩=some (.int .i64 b.t2.root)/\w.cell? ⟨gb,7,none⟩=some (.int .i64 b.floor)/\w.cell? ⟨gb,8,none⟩=some (.slice so sn sp)/\w.cell? ⟨gb,9,none⟩=some (.bool kp)/\∀o,w.frozen? ⟨gb,o,none⟩=false:=by
 have h1:=h.box
 simp [World.cell?,World.frozen?,h1]
theorem mq.names (h:mq gb D w x N b sa sc g0 l0 p0 g1 l1 p1 g2 l2 p2 so sn sp kp):∀s∈b.names,s.size<=140737488351232:=fun s hs=>by
 have:=nX h.is.st.may s hs
 omega
def Loc (gb B M:Nat):Nat->Prop:=fun q=>q=gb\/(B<=q/\q<M)
theorem mq.set {y:Mo} {c:Ba} {ya:Option Addr}
  (h:mq gb D w x N b sa sc g0 l0 p0 g1 l1 p1 g2 l2 p2 so sn sp kp) (hD:∀q,D q->q<w.heap.size) (hg:D gb) (hN:N<=M) (h1:ah w W1) (hK:w.heap.size<=K)
  (hc:∀w'',aP K W1 w''->bN w'' (.agg (aH ya c.names.length yc z0 m0 q0 z1 m1 q1 z2 m2 q2 c)) c) (hi:Is c y M) (ht:aw (Loc gb w.heap.size K) W1 W2)
  (hb:W2.heap[gb]?=some (.cells #[.slice ya c.names.length yc, .slice z0 m0 q0, .int .i64 c.t0.root, .slice z1 m1 q1, .int .i64 c.t1.root, .slice z2 m2 q2, .int .i64 c.t2.root, .int .i64 c.floor, .slice so sn sp, .bool kp] 104)) :
  mq gb D W2 ⟨y,x.s⟩ M c ya yc z0 m0 q0 z1 m1 q1 z2 m2 q2 so sn sp kp:=by
 have hgl:=hD gb hg
 have hs1:=h1.size
 have hO2:Only D w W2:=⟨gT h1.size ht.size,fun q hq hd=>(ht.block q af (fun hx=>by
  rcases hx with rfl|hx
  ·exact hd hg
  ·omega)).trans (h1.block q hq)⟩
 refine⟨hb,hi,h.ok.mono hN,fun w'' hw=>hc w'' ⟨gT ht.size hw.size,fun q hq PS=>?_⟩,fun hk w'' hw=>h.saved hk w'' (hO2.trans hw),h.UO⟩
 rw [hw.block q (mE PS ht.size) fun hd=>by have:=hD q hd;omega]
 exact ht.block q PS fun hx=>by rcases hx with rfl|hx <;> omega
theorem mq.save {ro:Option Addr} {tn tp:Nat} (h:mq gb D w x N b sa sc g0 l0 p0 g1 l1 p1 g2 l2 p2 so sn sp kp) (hN:N<=500) (hD:∀q,D q->q<w.heap.size) (hg:D gb) (h1:ah w W1) (hK:w.heap.size<=K)
  (ho:aC K W1 (.slice ro tn tp) x.m.bytes) (hl:x.m.bytes.length<=1000000) (ht:aw (Loc gb w.heap.size K) W1 W2)
  (hb:W2.heap[gb]?=some (.cells #[.slice sa b.names.length sc, .slice g0 l0 p0, .int .i64 b.t0.root, .slice g1 l1 p1, .int .i64 b.t1.root, .slice g2 l2 p2, .int .i64 b.t2.root, .int .i64 b.floor, .slice ro tn tp, .bool true] 104)) :
  mq gb D W2 ⟨x.m,x.m⟩ N b sa sc g0 l0 p0 g1 l1 p1 g2 l2 p2 ro tn tp true:=by
 have hgl:=hD gb hg
 have hs1:=h1.size
 have hO2:Only D w W2:=⟨gT h1.size ht.size,fun q hq hd=>(ht.block q af (fun hx=>by
  rcases hx with rfl|hx
  ·exact hd hg
  ·omega)).trans (h1.block q hq)⟩
 refine⟨hb,h.is,h.is.ok af,fun w'' hw=>h.base w'' (hO2.trans hw),fun _ w'' hw=>(ho.block fun g hg'=>?_).at hl,fun hk=>by cases hk⟩
 obtain⟨q1,q2⟩:=ho.lt g hg'
 rw [hw.block g (mE q2 ht.size) fun hd=>by have:=hD g hd;omega]
 exact ht.block g q2 fun hx=>by rcases hx with rfl|hx <;> omega
end
def rG (gb:Nat) (D:Nat->Prop) (w:World) (x:St) (N:Nat):Prop:=
 ∃b sa sc g0 l0 p0 g1 l1 p1 g2 l2 p2 so sn sp kp,mq gb D w x N b sa sc g0 l0 p0 g1 l1 p1 g2 l2 p2 so sn sp kp
theorem rG.later (h:rG gb D w x N) (hO:Only D w w') (hg:w'.heap[gb]?=w.heap[gb]?):rG gb D w' x N:=by
 obtain⟨b,sa,sc,g0,l0,p0,g1,l1,p1,g2,l2,p2,so,sn,sp,kp,h⟩:=h
 exact⟨b,sa,sc,g0,l0,p0,g1,l1,p1,g2,l2,p2,so,sn,sp,kp,h.later hO hg⟩
theorem rG.mono (h:rG gb D w x N) (hN:N<=M):rG gb D w x M:=by
 obtain⟨b,sa,sc,g0,l0,p0,g1,l1,p1,g2,l2,p2,so,sn,sp,kp,h⟩:=h
 exact⟨b,sa,sc,g0,l0,p0,g1,l1,p1,g2,l2,p2,so,sn,sp,kp,h.mono hN⟩
theorem rG.swap (h:rG gb D w x N) (hD:∀q,q<w.heap.size->E q->D q):rG gb E w x N:=by
 obtain⟨b,sa,sc,g0,l0,p0,g1,l1,p1,g2,l2,p2,so,sn,sp,kp,h⟩:=h
 exact⟨b,sa,sc,g0,l0,p0,g1,l1,p1,g2,l2,p2,so,sn,sp,kp,h.box,h.is,h.ok,fun w'' hw=>h.base w'' (hw.mono hD),fun hk w'' hw=>h.saved hk w'' (hw.mono hD),h.UO⟩
theorem zo {v0 v1 v2 v3 v4 v5 v6 v7:Value} {e:TypeId} {fr:Nat×Nat} (h:w.heap[B]?=some (.cells #[a0,a1,a2,a3,a4,a5,a6,a7,a8,a9] e fr)) :
  ((((((((w.setCell ⟨B,0,none⟩ v0).setCell ⟨B,1,none⟩ v1).setCell ⟨B,2,none⟩ v2).setCell ⟨B,3,none⟩ v3).setCell ⟨B,4,none⟩ v4).setCell ⟨B,5,none⟩ v5).setCell ⟨B,6,none⟩ v6).setCell ⟨B,7,none⟩ v7).heap[B]?=some (.cells #[v0,v1,v2,v3,v4,v5,v6,v7,a8,a9] e fr):=by
 have h:=heap_setCell_same (off:=7) (v:=v7) (heap_setCell_same (off:=6) (v:=v6) (heap_setCell_same (off:=5) (v:=v5) (heap_setCell_same (off:=4) (v:=v4) (heap_setCell_same (off:=3) (v:=v3) (heap_setCell_same (off:=2) (v:=v2) (heap_setCell_same (off:=1) (v:=v1) (heap_setCell_same (off:=0) (v:=v0) h)))))))
 simpa using h
theorem sP {g:Nat} {a:World} (h:aw (fun b=>b=g) a w) (v0 v1 v2 v3 v4 v5 v6 v7:Value) :
  aw (fun b=>b=g) a ((((((((w.setCell ⟨g,0,none⟩ v0).setCell ⟨g,1,none⟩ v1).setCell ⟨g,2,none⟩ v2).setCell ⟨g,3,none⟩ v3).setCell ⟨g,4,none⟩ v4).setCell ⟨g,5,none⟩ v5).setCell ⟨g,6,none⟩ v6).setCell ⟨g,7,none⟩ v7):=
 aw.setCell (aw.setCell (aw.setCell (aw.setCell (aw.setCell (aw.setCell (aw.setCell (aw.setCell h (.inl rfl) _) (.inl rfl) _) (.inl rfl) _) (.inl rfl) _) (.inl rfl) _) (.inl rfl) _) (.inl rfl) _) (.inl rfl) _
theorem Ik {E:Int} (hE:E≠0) :
  Calls Tryd.prog 82 #[.pointer (some ⟨gb,0,none⟩),dH, .int .i64 E] w fun e w'=>e = .returned (.int .i64 E)/\ah w w':=by
 have hd:(E == 0)=false:=by simpa using hE
 go_enter Tryd.func82,Tryd.ntmps82
 go_wp2_with fail
 go_ret
 exact⟨rfl,ag⟩
theorem FC {y:Option Addr} {yn:Nat} {r0 r1 r2 fl:Int} {T:TypeId} (hb:w.heap[gb]?=some (.cells #[a0,a1,a2,a3,a4,a5,a6,a7,a8,a9] T)) :
  Calls Tryd.prog 82 #[.pointer (some ⟨gb,0,none⟩), .agg #[.slice y yn yc, .slice z0 m0 q0, .int .i64 r0, .slice z1 m1 q1, .int .i64 r1, .slice z2 m2 q2, .int .i64 r2, .int .i64 fl], .int .i64 0] w fun e w'=>e = .returned (.int .i64 0)/\aw (fun b=>b=gb) w w'/\w'.heap[gb]?=some (.cells #[.slice y yn yc, .slice z0 m0 q0, .int .i64 r0, .slice z1 m1 q1, .int .i64 r1, .slice z2 m2 q2, .int .i64 r2, .int .i64 fl,a8,a9] T):=by
 have hlt:gb<w.heap.size:=(eW.1 hb).1
 obtain⟨W0,hW0⟩:=bQ (w.alloc (.cells #[.slice y yn yc, .slice z0 m0 q0, .int .i64 r0, .slice z1 m1 q1, .int .i64 r1, .slice z2 m2 q2, .int .i64 r2, .int .i64 fl] 35))
 have hT0:aw (fun b=>b=gb) w W0:=by rw [hW0];exact(aw.refl _ _).alloc _
 have kg:W0.heap[gb]?=some (.cells #[a0,a1,a2,a3,a4,a5,a6,a7,a8,a9] T):=by rw [hW0,lJ _ _ _ hlt];exact hb
 have kb:W0.heap[w.heap.size]?=some (.cells #[.slice y yn yc, .slice z0 m0 q0, .int .i64 r0, .slice z1 m1 q1, .int .i64 r1, .slice z2 m2 q2, .int .i64 r2, .int .i64 fl] 35):=by rw [hW0];exact aq _ _ rfl
 obtain⟨x0,x1,x2,x3,x4,x5,x6,x7,-⟩:=gQ kb
 obtain⟨c0,c1,c2,c3,c4,c5,c6,c7,cf⟩:W0.cell? ⟨gb,0,none⟩=some a0/\W0.cell? ⟨gb,1,none⟩=some a1/\W0.cell? ⟨gb,2,none⟩=some a2/\W0.cell? ⟨gb,3,none⟩=some a3/\W0.cell? ⟨gb,4,none⟩=some a4/\W0.cell? ⟨gb,5,none⟩=some a5/\W0.cell? ⟨gb,6,none⟩=some a6/\W0.cell? ⟨gb,7,none⟩=some a7/\∀o,W0.frozen? ⟨gb,o,none⟩=false:=by simp [World.cell?,World.frozen?,kg]
 have HT:=hdd (aM (sP hT0 (.slice y yn yc) (.slice z0 m0 q0) (.int .i64 r0) (.slice z1 m1 q1) (.int .i64 r1) (.slice z2 m2 q2) (.int .i64 r2) (.int .i64 fl)) (zo (v0:= .slice y yn yc) (v1:= .slice z0 m0 q0) (v2:= .int .i64 r0) (v3:= .slice z1 m1 q1) (v4:= .int .i64 r1) (v5:= .slice z2 m2 q2) (v6:= .int .i64 r2) (v7:= .int .i64 fl) kg))
 clear hT0 kg kb hb
 go_enter Tryd.func82,Tryd.ntmps82
 go_upto_region 1 with (fail)
 rw [<-hW0]
 clear hW0
 go_wp2_with fail
 go_ret
 exact⟨rfl,HT.out.1,HT.out.2⟩
end
section
variable {s:ByteArray} {t n a z:Int}
section
variable {v:Value} {b:Ba} {m:Mo} {N:Nat} {w:World}
def QF (w:World) (m:Mo) (N:Nat) (x:Ending) (w':World):Prop:=ah w w' /\
 ∃b' sa sc g0 l0 p0 g1 l1 p1 g2 l2 p2,x = .returned (.tuple #[.agg (aH sa b'.names.length sc g0 l0 p0 g1 l1 p1 g2 l2 p2 b'), .int .i64 0])/\(∀w'',aP w.heap.size w' w''->bN w'' (.agg (aH sa b'.names.length sc g0 l0 p0 g1 l1 p1 g2 l2 p2 b')) b')/\Is b' m N
def Rp (w:World) (E:Int) (x:Ending) (w':World):Prop:=ah w w'/\x = .returned (.tuple #[dH, .int .i64 E])
theorem Is.small (h:Is b m N):∀s∈b.names,s.size<=140737488351232:=fun s hs=>by
 have:=nX h.st.may s hs
 omega
theorem Kw (hi:Is b m N) (hN:N<=2900) (h:bN w v b) (xh:s.size<=140737488351232) (hsz:bS w) (h0:m.jL s t n=0) :
  Calls Tryd.prog 22 #[v, .agg #[.string s, .int .i64 t, .int .i64 n]] w (QF w (m.add s t n) (N+1)):=by
 obtain⟨-,h1,-,h2,h3,h4,h5,h6,-,-,h7⟩:=mU ((hi.Ro s t n).trans h0)
 refine(Hk h hi.small xh hsz hi.st hN h1 h2 h3 h4 h5 h6 h7).mono ?_
 rintro x w' ⟨hb,b',sa,sc,g0,l0,p0,g1,l1,p1,g2,l2,p2,rfl,hk,e1,e2,hst⟩
 refine⟨hb,b',sa,sc,g0,l0,p0,g1,l1,p1,g2,l2,p2,rfl,hk,?_,?_,?_⟩
 ·have e:(m.add s t n).L=ins m.L (cu b s t ⟨1,n,n,n,t,n⟩):=by
   unfold cu
   rw [I4,hi.ns];rfl
  rw [e];exact hst
 ·rw [e1,xC,hi.ns];rfl
 ·rw [e2,hi.fl];rfl
theorem Hn (hi:Is b m N) (h:bN w v b) (xh:s.size<=140737488351232) (hsz:bS w) (h0:m.jL s t n≠0) :
  Calls Tryd.prog 22 #[v, .agg #[.string s, .int .i64 t, .int .i64 n]] w (Rp w (m.jL s t n)):=by
 have e:=hi.Ro s t n
 refine(xx h hi.small xh hsz).mono ?_
 rintro x w' ⟨hb,⟨-,h2⟩|⟨h1,-⟩⟩
 ·rw [e]at h2;exact⟨hb,h2⟩
 ·exact absurd (e.symm.trans h1) h0
theorem J9 (hi:Is b m N) (hN:N<=2900) (h:bN w v b) (hsz:bS w) (h0:m.wj t=0) :
  Calls Tryd.prog 85 #[v, .int .i64 t] w (QF w (m.exp t) N):=by
 obtain⟨e1,e2⟩:=hi.Rl t
 have hl:(qZ b t).length<=N:=by
  rw [e2]
  have h1:=tO (bM t) m.L
  have h2:=hi.kn.len
  show (m.L.filter (bM t)).length<=N
  omega
 refine(rp h hi.small hsz).mono ?_
 rintro x w' ⟨hb,⟨h1,-⟩|⟨-,⟨-,h2⟩|⟨b',sa,sc,g0,l0,p0,g1,l1,p1,g2,l2,p2,rfl,hk,q1,q2,q3,q4,q5⟩⟩⟩
 ·exact absurd (e1.trans h0) h1
 ·omega
 ·refine⟨hb,b',sa,sc,g0,l0,p0,g1,l1,p1,g2,l2,p2,rfl,hk,⟨q3,by rw [q4,e2],fun k hk=>?_,?_⟩,?_,?_⟩
  ·have:=q5 k hk;omega
  ·have h1:=ru hi.st.bJ.2.1.bJ (bM t)
   have h2:=hi.st.fA
   show fA (m.L.filter (bM t))<=_
   omega
  ·rw [q1,hi.ns];rfl
  ·rw [q2];rfl
theorem G3 (hi:Is b m N) (h:bN w v b) (hsz:bS w) (h0:m.wj t≠0) :
  Calls Tryd.prog 85 #[v, .int .i64 t] w (Rp w (m.wj t)):=by
 have e:=(hi.Rl t).1
 refine(rp h hi.small hsz).mono ?_
 rintro x w' ⟨hb,⟨-,h2⟩|⟨h1,-⟩⟩
 ·rw [e]at h2;exact⟨hb,h2⟩
 ·exact absurd (e.symm.trans h1) h0
theorem Pg (hi:Is b m N) (hN:N<=500) (h:bN w v b) (hsz:bS w) :
  Calls Tryd.prog 83 #[v, .string s, .int .i64 n, .int .i64 a, .int .i64 z] w fun x w'=>ah w w'/\∃ao c,x = .returned (.tuple #[.slice ao (m.rows s n a z).length c, .int .i64 (m.ey s n a z)])/\OwnRows w.heap.size w' (.slice ao (m.rows s n a z).length c) (m.rows s n a z):=by
 obtain⟨e1,e2⟩:=hi.Ph hN s n a z
 refine(Lp h hi.small hsz).mono ?_
 rintro x w' ⟨hb,v',rfl,ho⟩
 rw [e2]at ho
 obtain⟨ao,c,rfl⟩:=ho.isSlice
 exact⟨hb,ao,c,by rw [e1],ho⟩
theorem RZ (hi:Is b m N) (hN:N<=1000000) (h:bN w v b) (hsz:bS w) :
  Calls Tryd.prog 84 #[v, .string s, .int .i64 a, .int .i64 z] w fun x w'=>ah w w'/\x = .returned (.tuple #[(m.KP s a z).v, .int .i64 (m.pJ s a z)]):=by
 obtain⟨e1,e2⟩:=hi.VE hN s a z
 refine(Ji h hi.small hsz).mono ?_
 rintro x w' ⟨hb,rfl⟩
 exact⟨hb,by rw [e1,e2]⟩
theorem TS (hi:Is b m N) (hN:N<=500) (h:bN w v b) (hsz:bS w) :
  Calls Tryd.prog 30 #[v] w fun x w'=>ah w w'/\∃ao c,x = .returned (.tuple #[.slice ao m.bytes.length c, .int .i64 0])/\aC w.heap.size w' (.slice ao m.bytes.length c) m.bytes:=by
 obtain⟨e1,e2⟩:=hi.enc hN
 refine(G8 h hi.small hsz).mono ?_
 rintro x w' ⟨hb,v',rfl,ho⟩
 rw [e2]at ho
 obtain⟨ao,c,rfl⟩:=ho.isSlice
 exact⟨hb,ao,c,by rw [e1],ho⟩
end
end
theorem TV {v:Value} {m:Mo} {N:Nat} {w:World} (ho:m.Ok N) (hN:N<=500) (h:fE w v m.bytes) (hsz:bS w):Calls Tryd.prog 86 #[v] w (QF w m N):=by
 obtain⟨d0,d1,d2,d3⟩:=ho.fit.dec (by have:=ho.len;omega) (rfl:m.bytes=_)
 refine(Hb h (Ep _ _ _) hsz).mono ?_
 rintro x w' ⟨hb,⟨E,hE,-,h1|⟨-,h1⟩⟩|⟨-,sn,sc,g0,l0,p0,g1,l1,p1,g2,l2,p2,T,hx,hok,hk⟩⟩
 ·exact absurd (h1.symm.trans d0) hE
 ·rw [d1,d2,d3]at h1;exact absurd h1 ho.fit.Pt
 ·rw [d1,d2]at hx hk
  rw [d1,d2,d3]at hok
  exact⟨hb,⟨m.ns,T 0,T 1,T 2,m.fl⟩,sn,sc,g0,l0,p0,g1,l1,p1,g2,l2,p2,hx,hk,ho.fit.bst hok ho.len ho.fA,rfl,rfl⟩
section
variable {a:Act} {ops:Array Oper} {Q:Exit->Act->World->Prop} {i:Int} {es:List Ac} {rest:List Oper} {B C j b off k ab aY n cap:Nat} {o:Oper} {T:TypeId} {u:Value} {w w':World}
structure cp (B:Nat) (w:World) (v:Value) (ps:List Ac):Prop where
 row:w.ownsRow B 26 6 v ps.length (ps.flatMap px)
theorem cp.nil (B:Nat) (w:World):cp B w (.slice none 0 0) []:=⟨World.ownsRow_nil _ _ _ _⟩
theorem cp.block {v:Value} (h:cp B w v es) (hb:∀g,v.ownBlock=some g->w'.heap[g]?=w.heap[g]?):cp B w' v es:=by
 obtain⟨hl,⟨rfl,h0⟩|⟨g,cap,cur,rfl,hB,hg,h1,h2,h3,h4⟩⟩:=h.row
 ·exact⟨⟨hl, .inl ⟨rfl,h0⟩⟩⟩
 ·exact⟨⟨hl, .inr ⟨g,cap,cur,rfl,hB,(hb g rfl).trans hg,h1,h2,h3,h4⟩⟩⟩
theorem cp.alloc {v:Value} (h:cp B w v es) (o:Obj):cp B (w.alloc o) v es:=⟨World.ownsRow.alloc h.row o⟩
theorem cp.lt {v:Value} (h:cp B w v es):∀g,v.ownBlock=some g->B<=g/\g<w.heap.size:=World.ownsRow.lt h.row
theorem cp.below {v:Value} (h:cp B w v es) (hb:Below C w w') (hC:w.heap.size<=C):cp B w' v es:=h.block fun g hg=>hb.block g (by have:=(h.lt g hg).2;omega)
theorem cp.at {v:Value} (h:cp B w v es) (hs:es.length<=1000000):Oq w v es:=dN.owned xu h.row rfl af
theorem cp.isSlice {v:Value} (h:cp B w v es):∃ao cap,v = .slice ao es.length cap:=by
 obtain⟨hl,⟨rfl,h0⟩|⟨g,cap,cur,rfl,_⟩⟩:=h.row
 ·exact⟨none,0,by rw [h0]⟩
 ·exact⟨_,_,rfl⟩
theorem cp.mono {v:Value} (h:cp B w v es) (hC:C<=B):cp C w v es:=by
 obtain⟨hl,⟨rfl,h0⟩|⟨g,cap,cur,rfl,hB,hg,h1,h2,h3,h4⟩⟩:=h.row
 ·exact⟨⟨hl, .inl ⟨rfl,h0⟩⟩⟩
 ·exact⟨⟨hl, .inr ⟨g,cap,cur,rfl,af,hg,h1,h2,h3,h4⟩⟩⟩
theorem QJ {p:Ac} (h:(px p)[j]?=some u) :
  (w.alloc (.cells p.cs T)).cell? (Addr.add ⟨w.heap.size,0,none⟩ j)=some u:=by
 have hk:=aq w (.cells p.cs T) rfl
 have ha:Addr.add ⟨w.heap.size,0,none⟩ j=⟨w.heap.size,j,none⟩:=by simp [Addr.add];omega
 rw [ha]
 simp only [World.cell?,hk]
 have hj:j<6:=(gH.1 h).1
 obtain rfl|rfl|rfl|rfl|rfl|rfl:j=0\/j=1\/j=2\/j=3\/j=4\/j=5:=af
 all_goals simpa [px,Ac.cs] using h
theorem ua (hgd:o.guard=none) (s x:Operand)
  (ho:o.op = .call { callee:= .builtin .append,args:=#[s,x],argTypes:=#[23,23] }) (B:Nat) (v:Value) (es:List Ac) (hs:a.eval s=v) (hown:cp B w v es)
  (ad:Addr) (e:Ac) (hx:a.eval x = .slice (some ad) 1 1) (hnews:∀j u,(px e)[j]?=some u->w.cell? (ad.add j)=some u) (hlen:es.length<=1000000) (hbase:B<=w.heap.size)
  (h:∀v' w',cp B w' v' (es++[e])->w.grownBy w' v.ownBlock->(v'.ownBlock=v.ownBlock\/v'.ownBlock=some w.heap.size)->wpList Tryd.prog ops Q rest (a.put o.dst v') w'):wpList Tryd.prog ops Q (o::rest) a w:=by
 obtain⟨i0,z,hi,hz,hz1,hz2,hz3⟩:=cC Tryd.V8
 refine Go.wpList_append_own_at w hgd s x 23 ho B 26 i0 z 6 56 Tryd.underlying23 hi hz hz1 hz2 hz3 aW v es.length _ hs hown.row ad 1 1 (px e) hx rfl hnews (EB [e] |> fun h u hu=>h u (by simpa using hu)) (by unfold maxLen;omega) af hbase ?_
 intro v' w' hown' hg _ h4
 refine h v' w' ?_ hg h4
 have:(es++[e]).flatMap px=es.flatMap px++px e:=bq
 refine⟨?_⟩
 rw [this,eP]
 exact hown'
theorem KO {xs:List Ac}
  (h:∀i x,xs[i]?=some x->∀j u,(px x)[j]?=some u->w.cell? ⟨b,off+i*6+j,none⟩=some u) (hk:k<xs.length) :
  w.cell? ⟨b,off+k*6,none⟩=some (.int .i64 xs[k].k)/\w.cell? ⟨b,off+k*6+1,none⟩=some (.string xs[k].s)/\w.cell? ⟨b,off+k*6+2,none⟩=some (.int .i64 xs[k].t)/\w.cell? ⟨b,off+k*6+3,none⟩=some (.int .i64 xs[k].z)/\w.cell? ⟨b,off+k*6+4,none⟩=some (.int .i64 xs[k].sz)/\w.cell? ⟨b,off+k*6+5,none⟩=some (.int .i64 xs[k].v):=by
 have g:∀j u,(px xs[k])[j]?=some u->w.cell? ⟨b,off+k*6+j,none⟩=some u:=fun j u hu=>h k xs[k] (by simp [hk]) j u hu
 exact⟨by simpa using g 0 _ rfl,by simpa using g 1 _ rfl,by simpa using g 2 _ rfl,by simpa using g 3 _ rfl,by simpa using g 4 _ rfl,by simpa using g 5 _ rfl⟩
theorem PF (h:i=j) (hj:j<n) (w:World):(Instr.indexAt 23 (.slice (some ⟨ab,aY,none⟩) n cap) (.int .i64 i)).run Tryd.prog w = .ok (.pointer (some ⟨ab,aY+j*6,none⟩)) w:=by
 subst h
 go_simp
structure dZ (B:Nat) (w:World) (v:Value) (ps:List qx):Prop where
 row:w.ownsRow B 45 8 v ps.length (ps.flatMap uP)
theorem dZ.nil (B:Nat) (w:World):dZ B w (.slice none 0 0) []:=⟨World.ownsRow_nil _ _ _ _⟩
theorem dZ.block {v:Value} {es:List qx} (h:dZ B w v es) (hb:∀g,v.ownBlock=some g->w'.heap[g]?=w.heap[g]?):dZ B w' v es:=by
 obtain⟨hl,⟨rfl,h0⟩|⟨g,cap,cur,rfl,hB,hg,h1,h2,h3,h4⟩⟩:=h.row
 ·exact⟨⟨hl, .inl ⟨rfl,h0⟩⟩⟩
 ·exact⟨⟨hl, .inr ⟨g,cap,cur,rfl,hB,(hb g rfl).trans hg,h1,h2,h3,h4⟩⟩⟩
theorem dZ.alloc {v:Value} {es:List qx} (h:dZ B w v es) (o:Obj):dZ B (w.alloc o) v es:=⟨World.ownsRow.alloc h.row o⟩
theorem dZ.lt {v:Value} {es:List qx} (h:dZ B w v es):∀g,v.ownBlock=some g->B<=g/\g<w.heap.size:=World.ownsRow.lt h.row
theorem dZ.below {v:Value} {es:List qx} (h:dZ B w v es) (hb:Below C w w') (hC:w.heap.size<=C):dZ B w' v es:=h.block fun g hg=>hb.block g (by have:=(h.lt g hg).2;omega)
theorem dZ.at {v:Value} {es:List qx} (h:dZ B w v es) (hs:es.length<=1000000):RM w v es:=dN.owned EA h.row rfl af
theorem dZ.isSlice {v:Value} {es:List qx} (h:dZ B w v es):∃ao cap,v = .slice ao es.length cap:=by
 obtain⟨hl,⟨rfl,h0⟩|⟨g,cap,cur,rfl,_⟩⟩:=h.row
 ·exact⟨none,0,by rw [h0]⟩
 ·exact⟨_,_,rfl⟩
theorem dZ.mono {v:Value} {es:List qx} (h:dZ B w v es) (hC:C<=B):dZ C w v es:=by
 obtain⟨hl,⟨rfl,h0⟩|⟨g,cap,cur,rfl,hB,hg,h1,h2,h3,h4⟩⟩:=h.row
 ·exact⟨⟨hl, .inl ⟨rfl,h0⟩⟩⟩
 ·exact⟨⟨hl, .inr ⟨g,cap,cur,rfl,af,hg,h1,h2,h3,h4⟩⟩⟩
theorem QI {p:qx} (h:(uP p)[j]?=some u) :
  (w.alloc (.cells p.cs T)).cell? (Addr.add ⟨w.heap.size,0,none⟩ j)=some u:=by
 have hk:=aq w (.cells p.cs T) rfl
 have ha:Addr.add ⟨w.heap.size,0,none⟩ j=⟨w.heap.size,j,none⟩:=by simp [Addr.add];omega
 rw [ha]
 simp only [World.cell?,hk]
 have hj:j<8:=(gH.1 h).1
 obtain rfl|rfl|rfl|rfl|rfl|rfl|rfl|rfl:j=0\/j=1\/j=2\/j=3\/j=4\/j=5\/j=6\/j=7:=af
 all_goals simpa [uP,qx.cs] using h
theorem tZ (hgd:o.guard=none) (s x:Operand)
  (ho:o.op = .call { callee:= .builtin .append,args:=#[s,x],argTypes:=#[28,28] }) (B:Nat) (v:Value) (es:List qx) (hs:a.eval s=v) (hown:dZ B w v es)
  (ad:Addr) (e:qx) (hx:a.eval x = .slice (some ad) 1 1) (hnews:∀j u,(uP e)[j]?=some u->w.cell? (ad.add j)=some u) (hlen:es.length<=1000000) (hbase:B<=w.heap.size)
  (h:∀v' w',dZ B w' v' (es++[e])->w.grownBy w' v.ownBlock->(v'.ownBlock=v.ownBlock\/v'.ownBlock=some w.heap.size)->wpList Tryd.prog ops Q rest (a.put o.dst v') w'):wpList Tryd.prog ops Q (o::rest) a w:=by
 obtain⟨i0,z,hi,hz,hz1,hz2,hz3⟩:=cC Tryd.PH
 refine Go.wpList_append_own_at w hgd s x 28 ho B 45 i0 z 8 80 Tryd.underlying28 hi hz hz1 hz2 hz3 aW v es.length _ hs hown.row ad 1 1 (uP e) hx rfl hnews (Nq [e] |> fun h u hu=>h u (by simpa using hu)) (by unfold maxLen;omega) af hbase ?_
 intro v' w' hown' hg _ h4
 refine h v' w' ?_ hg h4
 have:(es++[e]).flatMap uP=es.flatMap uP++uP e:=bq
 refine⟨?_⟩
 rw [this,eP]
 exact hown'
theorem wQ {xs:List qx}
  (h:∀i x,xs[i]?=some x->∀j u,(uP x)[j]?=some u->w.cell? ⟨b,off+i*8+j,none⟩=some u) (hk:k<xs.length) :
  w.cell? ⟨b,off+k*8,none⟩=some (.int .i64 xs[k].an.code)/\w.cell? ⟨b,off+k*8+1,none⟩=some (.int .i64 xs[k].an.is.c)/\w.cell? ⟨b,off+k*8+2,none⟩=some (.int .i64 xs[k].an.is.s)/\w.cell? ⟨b,off+k*8+3,none⟩=some (.int .i64 xs[k].an.is.mi)/\w.cell? ⟨b,off+k*8+4,none⟩=some (.int .i64 xs[k].an.is.ma)/\w.cell? ⟨b,off+k*8+5,none⟩=some (.int .i64 xs[k].an.is.t)/\w.cell? ⟨b,off+k*8+6,none⟩=some (.int .i64 xs[k].an.is.l)/\w.cell? ⟨b,off+k*8+7,none⟩=some (.slice xs[k].so xs[k].n xs[k].c):=by
 have g:∀j u,(uP xs[k])[j]?=some u->w.cell? ⟨b,off+k*8+j,none⟩=some u:=fun j u hu=>h k xs[k] (by simp [hk]) j u hu
 exact⟨by simpa using g 0 _ rfl,by simpa using g 1 _ rfl,by simpa using g 2 _ rfl,by simpa using g 3 _ rfl,by simpa using g 4 _ rfl,by simpa using g 5 _ rfl,by simpa using g 6 _ rfl,by simpa using g 7 _ rfl⟩
theorem rV (h:i=j) (hj:j<n) (w:World):(Instr.indexAt 28 (.slice (some ⟨ab,aY,none⟩) n cap) (.int .i64 i)).run Tryd.prog w = .ok (.pointer (some ⟨ab,aY+j*8,none⟩)) w:=by
 subst h
 go_simp
end
section
set_option maxRecDepth 100000
set_option maxHeartbeats 4000000
variable {b:Ba} {N:Nat} {w:World}
def yr (gb:Nat) (D:Nat->Prop) (w:World) (x:St) (a:Ac) (N:Nat) (e:Ending) (w':World):Prop:=
 ∃q:qx,e = .returned (.agg q.cs)/\q.an=iq x a/\aw (fun i=>i=gb) w w'/\rG gb D w' (fB x a) (N+1)/\OwnRows w.heap.size w' q.v q.an.rows
structure jv (w:World) (a:Ac) (q:qx) (W:World):Prop where
 ac:W.heap[w.heap.size]?=some (.cells a.cs 26)
 res:W.heap[w.heap.size+1]?=some (.cells #[.int .i64 0, .int .i64 0, .int .i64 0, .int .i64 0, .int .i64 0, .int .i64 0, .int .i64 0, .slice none 0 0] 45)
 XR:W.heap[w.heap.size+1+1]?=some (.cells q.cs 45)
section
variable {gb:Nat} {D:Nat->Prop} {w W W':World} {x:St} {N:Nat} {b:Ba} {sa:Option Addr} {sc:Nat} {g0:Option Addr} {l0 p0:Nat} {g1:Option Addr} {l1 p1:Nat} {g2:Option Addr} {l2 p2:Nat} {so:Option Addr} {sn sp:Nat} {kp:Bool} {a:Ac} {q:qx}
theorem jv.size (h:jv w a q W):w.heap.size+3<=W.heap.size:=(eW.1 h.XR).1
theorem jv.turn (h:jv w a q W) (ht:aw (fun i=>i=gb) W W') (hg:gb<w.heap.size):jv w a q W':=by
 have hs:=h.size
 exact⟨(ht.block _ af af).trans h.ac,(ht.block _ af af).trans h.res,(ht.block _ af af).trans h.XR⟩
theorem jv.below (h:jv w a q W) (hb:ah W W'):jv w a q W':=by
 have hs:=h.size
 exact⟨(hb.block _ af).trans h.ac,(hb.block _ af).trans h.res,(hb.block _ af).trans h.XR⟩
theorem jv.OH (h:jv w a q W):W.cell? ⟨w.heap.size,0,none⟩=some (.int .i64 a.k)/\W.cell? ⟨w.heap.size,1,none⟩=some (.string a.s)/\W.cell? ⟨w.heap.size,2,none⟩=some (.int .i64 a.t)/\W.cell? ⟨w.heap.size,3,none⟩=some (.int .i64 a.z)/\W.cell? ⟨w.heap.size,4,none⟩=some (.int .i64 a.sz)/\W.cell? ⟨w.heap.size,5,none⟩=some (.int .i64 a.v):=by
 have h1:=h.ac
 simp [World.cell?,h1,Ac.cs]
theorem jv.oI (h:jv w a q W):W.cell? ⟨w.heap.size+1+1,0,none⟩=some (.int .i64 q.an.code)/\W.cell? ⟨w.heap.size+1+1,1,none⟩=some (.int .i64 q.an.is.c)/\W.cell? ⟨w.heap.size+1+1,2,none⟩=some (.int .i64 q.an.is.s)/\W.cell? ⟨w.heap.size+1+1,3,none⟩=some (.int .i64 q.an.is.mi)/\W.cell? ⟨w.heap.size+1+1,4,none⟩=some (.int .i64 q.an.is.ma)/\W.cell? ⟨w.heap.size+1+1,5,none⟩=some (.int .i64 q.an.is.t)/\W.cell? ⟨w.heap.size+1+1,6,none⟩=some (.int .i64 q.an.is.l)/\W.cell? ⟨w.heap.size+1+1,7,none⟩=some (.slice q.so q.n q.c)/\∀o,W.frozen? ⟨w.heap.size+1+1,o,none⟩=false:=by
 exact gQ h.XR
theorem jv.Ag (h:jv w a q W):W.cell? ⟨w.heap.size+1,0,none⟩=some (.int .i64 0)/\W.cell? ⟨w.heap.size+1,1,none⟩=some (.int .i64 0)/\W.cell? ⟨w.heap.size+1,2,none⟩=some (.int .i64 0)/\W.cell? ⟨w.heap.size+1,3,none⟩=some (.int .i64 0)/\W.cell? ⟨w.heap.size+1,4,none⟩=some (.int .i64 0)/\W.cell? ⟨w.heap.size+1,5,none⟩=some (.int .i64 0)/\W.cell? ⟨w.heap.size+1,6,none⟩=some (.int .i64 0)/\W.cell? ⟨w.heap.size+1,7,none⟩=some (.slice none 0 0)/\∀o,W.frozen? ⟨w.heap.size+1,o,none⟩=false:=by
 exact gQ h.res
theorem jv.set (h:jv w a q W) {r:qx} {o:Nat} {u:Value} (hr:q.cs.setIfInBounds o u=r.cs):jv w a r (W.setCell ⟨w.heap.size+1+1,o,none⟩ u):=by
 refine⟨(heap_setCell_other _ ⟨w.heap.size+1+1,_,none⟩ _ _ (by show w.heap.size≠w.heap.size+1+1;omega)).trans h.ac,(heap_setCell_other _ ⟨w.heap.size+1+1,_,none⟩ _ _ (by show w.heap.size+1≠w.heap.size+1+1;omega)).trans h.res,?_⟩
 have:=heap_setCell_same (off:=o) (v:=u) h.XR
 rw [hr]at this;exact this
end
section
variable {V W1:World} {gb:Nat} {D:Nat->Prop} {w:World} {x:St} {N:Nat} {b:Ba} {sa:Option Addr} {sc:Nat} {g0:Option Addr} {l0 p0:Nat} {g1:Option Addr} {l1 p1:Nat} {g2:Option Addr} {l2 p2:Nat} {so:Option Addr} {sn sp:Nat} {kp:Bool} {a:Ac} {q:qx}
theorem Mf:Is ko Mo.zero 0:=⟨(show Fk ko (jJ (([]:List r9).map (mh ko.names))) 0 from Me.st),rfl,rfl⟩
theorem EL {B xb:Nat} {w0:World} (h:Below B w w0) (hx:B<=xb) (v1 v2 v3 v4 v5 v6:Value):Below B w ((((((w0.setCell ⟨xb,1,none⟩ v1).setCell ⟨xb,2,none⟩ v2).setCell ⟨xb,3,none⟩ v3).setCell ⟨xb,4,none⟩ v4).setCell ⟨xb,5,none⟩ v5).setCell ⟨xb,6,none⟩ v6):=
 (((((h.setCell hx _).setCell hx _).setCell hx _).setCell hx _).setCell hx _).setCell hx _
theorem G1 {v:Value} {m:Mo} {t:Int} (hi:Is b m N) (hN:N<=2900) (h:bN w v b) (hsz:bS w) (h0:m.wj t=0) :
  Calls Tryd.prog 85 #[v, .int .i64 t] w (QF w (m.exp t) (N+1)):=
 (J9 hi hN h hsz h0).mono fun _ _ ⟨h1,b',sa,sc,g0,l0,p0,g1,l1,p1,g2,l2,p2,h2,h3,h4⟩=>⟨h1,b',sa,sc,g0,l0,p0,g1,l1,p1,g2,l2,p2,h2,h3,h4.mono af⟩
abbrev UL (V w:World) (q:qx):World:=((((((((V.setCell ⟨w.heap.size+1,0,none⟩ (.int .i64 q.an.code)).setCell ⟨w.heap.size+1,1,none⟩ (.int .i64 q.an.is.c)).setCell ⟨w.heap.size+1,2,none⟩ (.int .i64 q.an.is.s)).setCell ⟨w.heap.size+1,3,none⟩ (.int .i64 q.an.is.mi)).setCell ⟨w.heap.size+1,4,none⟩ (.int .i64 q.an.is.ma)).setCell ⟨w.heap.size+1,5,none⟩ (.int .i64 q.an.is.t)).setCell ⟨w.heap.size+1,6,none⟩ (.int .i64 q.an.is.l)).setCell ⟨w.heap.size+1,7,none⟩ (.slice q.so q.n q.c))
abbrev SA (gb:Nat) (w:World) (b:Ba) (a:Ac) (sa:Option Addr) (sc:Nat) (g0:Option Addr) (l0 p0:Nat) (g1:Option Addr) (l1 p1:Nat) (g2:Option Addr) (l2 p2:Nat) (so:Option Addr) (sn sp:Nat) (kp:Bool) (W:World):Prop:=W.cell? ⟨gb,0,none⟩=some (.slice sa b.names.length sc)/\W.cell? ⟨gb,1,none⟩=some (.slice g0 l0 p0)/\W.cell? ⟨gb,2,none⟩=some (.int .i64 b.t0.root)/\W.cell? ⟨gb,3,none⟩=some (.slice g1 l1 p1)/\W.cell? ⟨gb,4,none⟩=some (.int .i64 b.t1.root)/\W.cell? ⟨gb,5,none⟩=some (.slice g2 l2 p2)/\W.cell? ⟨gb,6,none⟩=some (.int .i64 b.t2.root)/\W.cell? ⟨gb,7,none⟩=some (.int .i64 b.floor)/\W.cell? ⟨gb,8,none⟩=some (.slice so sn sp)/\W.cell? ⟨gb,9,none⟩=some (.bool kp)/\W.cell? ⟨w.heap.size,0,none⟩=some (.int .i64 a.k)/\W.cell? ⟨w.heap.size,1,none⟩=some (.string a.s)/\W.cell? ⟨w.heap.size,2,none⟩=some (.int .i64 a.t)/\W.cell? ⟨w.heap.size,3,none⟩=some (.int .i64 a.z)/\W.cell? ⟨w.heap.size,4,none⟩=some (.int .i64 a.sz)/\W.cell? ⟨w.heap.size,5,none⟩=some (.int .i64 a.v)
theorem po {i:Nat} (h:i≠w.heap.size+1):((((((((V.setCell ⟨w.heap.size+1,0,none⟩ (.int .i64 q.an.code)).setCell ⟨w.heap.size+1,1,none⟩ (.int .i64 q.an.is.c)).setCell ⟨w.heap.size+1,2,none⟩ (.int .i64 q.an.is.s)).setCell ⟨w.heap.size+1,3,none⟩ (.int .i64 q.an.is.mi)).setCell ⟨w.heap.size+1,4,none⟩ (.int .i64 q.an.is.ma)).setCell ⟨w.heap.size+1,5,none⟩ (.int .i64 q.an.is.t)).setCell ⟨w.heap.size+1,6,none⟩ (.int .i64 q.an.is.l)).setCell ⟨w.heap.size+1,7,none⟩ (.slice q.so q.n q.c)).heap[i]?=V.heap[i]?:=fo h
theorem Ex:((((((((V.setCell ⟨w.heap.size+1,0,none⟩ (.int .i64 q.an.code)).setCell ⟨w.heap.size+1,1,none⟩ (.int .i64 q.an.is.c)).setCell ⟨w.heap.size+1,2,none⟩ (.int .i64 q.an.is.s)).setCell ⟨w.heap.size+1,3,none⟩ (.int .i64 q.an.is.mi)).setCell ⟨w.heap.size+1,4,none⟩ (.int .i64 q.an.is.ma)).setCell ⟨w.heap.size+1,5,none⟩ (.int .i64 q.an.is.t)).setCell ⟨w.heap.size+1,6,none⟩ (.int .i64 q.an.is.l)).setCell ⟨w.heap.size+1,7,none⟩ (.slice q.so q.n q.c)).heap.size=V.heap.size:=by simp only [ay]
theorem IW:aw (fun i=>i=w.heap.size+1) V ((((((((V.setCell ⟨w.heap.size+1,0,none⟩ (.int .i64 q.an.code)).setCell ⟨w.heap.size+1,1,none⟩ (.int .i64 q.an.is.c)).setCell ⟨w.heap.size+1,2,none⟩ (.int .i64 q.an.is.s)).setCell ⟨w.heap.size+1,3,none⟩ (.int .i64 q.an.is.mi)).setCell ⟨w.heap.size+1,4,none⟩ (.int .i64 q.an.is.ma)).setCell ⟨w.heap.size+1,5,none⟩ (.int .i64 q.an.is.t)).setCell ⟨w.heap.size+1,6,none⟩ (.int .i64 q.an.is.l)).setCell ⟨w.heap.size+1,7,none⟩ (.slice q.so q.n q.c)):=sP (aw.refl _ _) _ _ _ _ _ _ _ _
theorem rA (h:mq gb D w x N b sa sc g0 l0 p0 g1 l1 p1 g2 l2 p2 so sn sp kp) (_hz:jv w a q V) (hb:ah w V) (_hD:∀i,D i->i<w.heap.size) (hs:fB x a=x) (hr:OwnRows (w.heap.size+3) V q.v q.an.rows) (hq:q.an=iq x a) :
  yr gb D w x a N (.returned (.agg q.cs)) (UL V w q):=by
 have hb2:ah w (UL V w q):=cF hb af _ _ _ _ _ _ _ _
 refine⟨q,rfl,hq,aw.of hb2 aI,?_,(hr.block fun g hg=>po (by have:=(hr.lt g hg).1;omega)).mono af⟩
 rw [hs]
 exact⟨b,sa,sc,g0,l0,p0,g1,l1,p1,g2,l2,p2,so,sn,sp,kp,(h.below hb2 aI).mono af⟩
theorem Ew (h1:ah w W1) (ht:aw (Loc gb w.heap.size (w.heap.size+3)) W1 V):aw (fun i=>i=gb) w (UL V w q):=by
 have hS:=IW (V:=V) (w:=w) (q:=q)
 refine⟨hS.os.trans (ht.os.trans h1.os),hS.tape.trans (ht.tape.trans h1.tape),hS.output.trans (ht.output.trans h1.output),by rw [Ex];exact gT h1.size ht.size,fun i hi hx=>?_⟩
 have:=h1.size
 rw [po af,ht.block i af fun hl=>?_,h1.block i hi]
 rcases hl with hl|hl
 ·exact hx hl
 ·omega
theorem IX (ht:aw (Loc gb w.heap.size (w.heap.size+3)) W1 V):aw (Loc gb w.heap.size (w.heap.size+3)) W1 (UL V w q):=by
 have hS:=IW (V:=V) (w:=w) (q:=q)
 refine⟨hS.os.trans ht.os,hS.tape.trans ht.tape,hS.output.trans ht.output,by rw [Ex];exact ht.size,fun i hi hx=>?_⟩
 rw [po (fun e=>hx (.inr af)),ht.block i hi hx]
theorem vh {y:Mo} {c:Ba} {ya:Option Addr} {yc:Nat} {z0:Option Addr} {m0 q0:Nat} {z1:Option Addr} {m1 q1:Nat} {z2:Option Addr} {m2 q2:Nat} (h:mq gb D w x N b sa sc g0 l0 p0 g1 l1 p1 g2 l2 p2 so sn sp kp) (hD:∀i,D i->i<w.heap.size) (hg:D gb) (h1:ah w W1)
  (hc:∀w'',aP (w.heap.size+3) W1 w''->bN w'' (.agg (aH ya c.names.length yc z0 m0 q0 z1 m1 q1 z2 m2 q2 c)) c) (hi:Is c y (N+1)) (ht:aw (Loc gb w.heap.size (w.heap.size+3)) W1 V)
  (hb:V.heap[gb]?=some (.cells #[.slice ya c.names.length yc, .slice z0 m0 q0, .int .i64 c.t0.root, .slice z1 m1 q1, .int .i64 c.t1.root, .slice z2 m2 q2, .int .i64 c.t2.root, .int .i64 c.floor, .slice so sn sp, .bool kp] 104))
  (hs:fB x a=⟨y,x.s⟩) (hq:q.an=iq x a) (hr:q.an.rows=[]/\q.so=none/\q.n=0/\q.c=0):yr gb D w x a N (.returned (.agg q.cs)) (UL V w q):=by
 have hgl:=hD gb hg
 obtain⟨r1,r2,r3,r4⟩:=hr
 refine⟨q,rfl,hq,Ew h1 ht,?_,?_⟩
 ·rw [hs]
  exact⟨_,_,_,_,_,_,_,_,_,_,_,_,_,_,_,_,h.set hD hg af h1 af hc hi (IX ht) ((po af).trans hb)⟩
 ·show OwnRows _ _ (.slice q.so q.n q.c) _
  rw [r1,r2,r3,r4]
  exact OwnRows.nil _ _
theorem NL {ro:Option Addr} {tn tp:Nat} (h:mq gb D w x N b sa sc g0 l0 p0 g1 l1 p1 g2 l2 p2 so sn sp kp) (hN:N+1<=500) (hD:∀i,D i->i<w.heap.size) (hg:D gb) (h1:ah w W1) (ho:aC (w.heap.size+3) W1 (.slice ro tn tp) x.m.bytes) (hl:x.m.bytes.length<=1000000) (ht:aw (Loc gb w.heap.size (w.heap.size+3)) W1 V)
  (hb:V.heap[gb]?=some (.cells #[.slice sa b.names.length sc, .slice g0 l0 p0, .int .i64 b.t0.root, .slice g1 l1 p1, .int .i64 b.t1.root, .slice g2 l2 p2, .int .i64 b.t2.root, .int .i64 b.floor, .slice ro tn tp, .bool true] 104))
  (hs:fB x a=⟨x.m,x.m⟩) (hq:q.an=iq x a) (hr:q.an.rows=[]/\q.so=none/\q.n=0/\q.c=0):yr gb D w x a N (.returned (.agg q.cs)) (UL V w q):=by
 have hgl:=hD gb hg
 obtain⟨r1,r2,r3,r4⟩:=hr
 refine⟨q,rfl,hq,Ew h1 ht,?_,?_⟩
 ·rw [hs]
  exact⟨_,_,_,_,_,_,_,_,_,_,_,_,_,_,_,_,(h.save af hD hg h1 af ho hl (IX ht) ((po af).trans hb)).mono af⟩
 ·show OwnRows _ _ (.slice q.so q.n q.c) _
  rw [r1,r2,r3,r4]
  exact OwnRows.nil _ _
end
theorem Qo {gb:Nat} {D:Nat->Prop} {x:St} {sa:Option Addr} {sc:Nat} {g0:Option Addr} {l0 p0:Nat} {g1:Option Addr} {l1 p1:Nat} {g2:Option Addr} {l2 p2:Nat} {so:Option Addr} {sn sp:Nat} {kp:Bool} {a:Ac}
  (h:mq gb D w x N b sa sc g0 l0 p0 g1 l1 p1 g2 l2 p2 so sn sp kp) (hD:∀q,D q->q<w.heap.size) (hg:D gb) (hN:N+1<=500) (hs:a.s.size<=140737488351232) (hsz:bS w) :
  Calls Tryd.prog 54 #[.pointer (some ⟨gb,0,none⟩), .agg a.cs] w (yr gb D w x a N):=by
 have hgl:=h.lt
 obtain⟨W0,hW0⟩:=bQ (((w.alloc (.cells a.cs 26)).alloc (.cells #[.int .i64 0, .int .i64 0, .int .i64 0, .int .i64 0, .int .i64 0, .int .i64 0, .int .i64 0, .slice none 0 0] 45)).alloc (.cells #[.int .i64 0, .int .i64 0, .int .i64 0, .int .i64 0, .int .i64 0, .int .i64 0, .int .i64 0, .slice none 0 0] 45))
 have hb0:ah w W0:=by rw [hW0];exact ag
 have hz0:W0.heap.size=w.heap.size+3:=by rw [hW0];simp
 have hZ:jv w a ⟨⟨0,au.zero,[]⟩,none,0,0⟩ W0:=by
  rw [hW0]
  refine⟨?_,?_,aq _ _ bq⟩
  ·rw [lJ _ _ _ (by simp;omega),lJ _ _ _ bq];exact aq _ _ rfl
  ·rw [lJ _ _ _ bq];exact aq _ _ bq
 have HZ:=hdd fun W (hb:ah W0 W)=>hZ.below hb
 have HC:=hdd fun W (hb:ah W0 W)=>h.below (Below.trans' hb0 hb hb0.size) aI
 have HB:=hdd fun W (hb:ah W0 W)=>(Below.trans' hb0 hb hb0.size:ah w W)
 have sy:=hdd fun W (hb:ah W0 W)=>hsz.below (Below.trans' hb0 hb hb0.size)
 have HE:=hdd h
 have HD:=hdd (aM hD hg)
 obtain⟨a0,a1,a2,a3,a4,a5⟩:=hZ.OH
 obtain⟨e0,e1,e2,e3,e4,e5,e6,e7,e8,e9,ef⟩:=(HC.out W0 (aJ _ _)).cells
 have Gw:gb≠w.heap.size+1+1:=af
 have B0:ah W0 W0.drew:=(aJ _ _).drew
 clear h hD hg hsz hZ hb0
 go_enter Tryd.func54,Tryd.ntmps54
 go_upto_region 2 with (fail)
 rw [<-hW0]
 clear hW0
 have HS:=hdd fun W (hb:ah W0 W)=>(by
  obtain⟨e0,e1,e2,e3,e4,e5,e6,e7,e8,e9,-⟩:=(HC.out W hb).cells
  obtain⟨a0,a1,a2,a3,a4,a5⟩:=(HZ.out W hb).OH
  exact⟨e0,e1,e2,e3,e4,e5,e6,e7,e8,e9,a0,a1,a2,a3,a4,a5⟩:SA gb w b a sa sc g0 l0 p0 g1 l1 p1 g2 l2 p2 so sn sp kp W)
 have hk3:W0.drew.heap.size=w.heap.size+3:=hz0
 by_cases hk:a.k=1
 ·skip
  have d1:(a.k == 1)=true:=by simp [hk]
  by_cases ee:x.m.jL a.s a.t a.v=0
  ·have zT:=hdd (show fB x a=⟨x.m.add a.s a.t a.v,x.s⟩ by unfold fB;rw [ar hk,ar ee])
   have rF:=hdd (show (⟨0,au.zero,[]⟩:An)=iq x a by unfold iq;rw [ar hk,ee])
   have wP:=hdd (Kw HE.out.is af ((HC.out _ B0).base _ (Only.refl _ _)) hs (sy.out _ B0) ee)
   clear ee hk
   go_upto_region 5 with (fail)
   refine eI [(0,1),(1,1),(2,1),(3,1),(4,0),(5,1),(6,0),(7,1),(8,0),(9,1),(10,0),(11,1),(12,2),(13,1),(14,1),(15,3),(16,1),(17,3)] 15 (fun W=>SA gb w b a sa sc g0 l0 p0 g1 l1 p1 g2 l2 p2 so sn sp kp W) cy cy (HS.out _ B0) ?_
   (simp only [bF,List.filterMap_cons,List.filterMap_nil,List.getElem?_cons_zero,List.getElem?_cons_succ,Option.map_some])
   (repeat first|refine bg ?_|refine aZ ?_)
   refine aS rfl (fun K hK=>?_)
   go_simp
   (with_reducible refine wP.out.mono ?_)
   rintro e w1 ⟨hb1,c,ya,yc,z0,m0,q0,z1,m1,q1,z2,m2,q2,rfl,OB,hi⟩
   go_simp
   have B1:ah W0 w1:=Below.trans' B0 hb1 aI
   refine hK _ _ (HS.out _ B1) ?_
   clear hK K
   have Fh:=hdd (aM OB hi)
   clear OB hi hb1 e0 e1 e2 e3 e4 e5 e6 e7 e8 e9 ef
   (repeat first|refine bg ?_|refine aZ ?_)
   have QA:=hdd (HC.out _ B1).box
   refine bp rfl (fun K hK=>?_)
   go_simp
   (with_reducible refine(FC QA.out).mono ?_)
   rintro e w2 ⟨rfl,ht2,hb2⟩
   go_simp
   refine hK _ _ ?_
   clear hK K
   have OI:=hdd ((HZ.out _ B1).turn ht2 hgl)
   obtain⟨o0,o1,o2,o3,o4,o5,o6,o7,of⟩:=OI.out.oI
   have rD:=hdd (aM ht2 hb2)
   clear ht2 hb2
   (repeat first|refine bg ?_|refine aZ ?_)
   refine bp rfl (fun K hK=>?_)
   go_simp
   refine hK _ _ ?_
   clear hK K
   refine cv ?_
   obtain⟨V,hV⟩:=bQ (w2.setCell ⟨w.heap.size+1+1,0,none⟩ (.int .i64 0))
   have rY:jv w a ⟨⟨0,au.zero,[]⟩,none,0,0⟩ V:=by rw [hV];exact OI.out.set rfl
   have kN:=hdd (vh (V:=V) (q:=⟨⟨0,au.zero,[]⟩,none,0,0⟩) HE.out HD.out.1 HD.out.2 (HB.out _ B1) (fun w'' hw=>Fh.out.1 w'' (by rw [hk3];exact hw)) Fh.out.2 (by rw [hV];exact aw.setCell (rD.out.1.mono fun i _ hi=> .inl hi) (.inl (.inr ⟨by show w.heap.size<=w.heap.size+1+1;omega,by show w.heap.size+1+1<w.heap.size+3;omega⟩)) _) (by rw [hV];exact(heap_setCell_other _ ⟨w.heap.size+1+1,_,none⟩ _ _ Gw).trans rD.out.2) zT.out rF.out ⟨rfl,rfl,rfl,rfl⟩)
   rw [<-hV]
   clear hV o0 o1 o2 o3 o4 o5 o6 o7 of
   obtain⟨o0,o1,o2,o3,o4,o5,o6,o7,of⟩:=rY.oI
   obtain⟨r0,r1,r2,r3,r4,r5,r6,r7,rf⟩:=rY.Ag
   go_wp2_with fail
   exact bodyPost_ret (v:= .agg #[.int .i64 0, .int .i64 au.zero.c, .int .i64 au.zero.s, .int .i64 au.zero.mi, .int .i64 au.zero.ma, .int .i64 au.zero.t, .int .i64 au.zero.l, .slice none 0 0]) (by simp [results,Tryd.results54,go_sem, *]) rfl kN.out
  ·obtain⟨E,hE⟩:=bw (x.m.jL a.s a.t a.v)
   have zT:=hdd (show fB x a=x by unfold fB;rw [ar hk,ai ee])
   have rF:=hdd (show (⟨E,au.zero,[]⟩:An)=iq x a by unfold iq;rw [ar hk,hE])
   have tC:=Hn HE.out.is ((HC.out _ B0).base _ (Only.refl _ _)) hs (sy.out _ B0) ee
   rw [hE]at tC ee
   have wP:=hdd tC
   have Vu:=hdd ee
   clear ee hk hE tC
   go_upto_region 5 with (fail)
   refine eI [(0,1),(1,1),(2,1),(3,1),(4,0),(5,1),(6,0),(7,1),(8,0),(9,1),(10,0),(11,1),(12,2),(13,1),(14,1),(15,3),(16,1),(17,3)] 15 (fun W=>SA gb w b a sa sc g0 l0 p0 g1 l1 p1 g2 l2 p2 so sn sp kp W) cy cy (HS.out _ B0) ?_
   (simp only [bF,List.filterMap_cons,List.filterMap_nil,List.getElem?_cons_zero,List.getElem?_cons_succ,Option.map_some])
   (repeat first|refine bg ?_|refine aZ ?_)
   refine aS rfl (fun K hK=>?_)
   go_simp
   (with_reducible refine wP.out.mono ?_)
   rintro e w1 ⟨hb1,rfl⟩
   go_simp
   have B1:ah W0 w1:=Below.trans' B0 hb1 aI
   refine hK _ _ (HS.out _ B1) ?_
   clear hK K hb1
   (repeat first|refine bg ?_|refine aZ ?_)
   refine bp rfl (fun K hK=>?_)
   go_simp
   (with_reducible refine(Ik Vu.out).mono ?_)
   rintro e w2 ⟨rfl,hb2⟩
   go_simp
   refine hK _ _ ?_
   clear hK K
   have B2:ah W0 w2:=Below.trans' B1 hb2 B1.size
   obtain⟨o0,o1,o2,o3,o4,o5,o6,o7,of⟩:=(HZ.out _ B2).oI
   (repeat first|refine bg ?_|refine aZ ?_)
   refine bp rfl (fun K hK=>?_)
   go_simp
   refine hK _ _ ?_
   clear hK K
   refine cv ?_
   obtain⟨V,hV⟩:=bQ (w2.setCell ⟨w.heap.size+1+1,0,none⟩ (.int .i64 E))
   have rY:jv w a ⟨⟨E,au.zero,[]⟩,none,0,0⟩ V:=by rw [hV];exact(HZ.out _ B2).set rfl
   have kN:=hdd (rA (V:=V) (q:=⟨⟨E,au.zero,[]⟩,none,0,0⟩) HE.out rY (by rw [hV];exact(HB.out _ B2).setCell (by show w.heap.size<=w.heap.size+1+1;omega) _) HD.out.1 zT.out (OwnRows.nil _ _) rF.out)
   rw [<-hV]
   clear hV B2 o0 o1 o2 o3 o4 o5 o6 o7 of
   obtain⟨o0,o1,o2,o3,o4,o5,o6,o7,of⟩:=rY.oI
   obtain⟨r0,r1,r2,r3,r4,r5,r6,r7,rf⟩:=rY.Ag
   go_wp2_with fail
   exact bodyPost_ret (v:= .agg #[.int .i64 E, .int .i64 au.zero.c, .int .i64 au.zero.s, .int .i64 au.zero.mi, .int .i64 au.zero.ma, .int .i64 au.zero.t, .int .i64 au.zero.l, .slice none 0 0]) (by simp [results,Tryd.results54,go_sem, *]) rfl kN.out
 have Hz:=hdd hk
 clear hk
 by_cases hk:a.k=2
 ·skip
  have d1:(a.k == 1)=false:=by simp;omega
  have d2:(a.k == 2)=true:=by simp [hk]
  have zT:=hdd (show fB x a=x by unfold fB;rw [ai af,ai af,ai af,ai af])
  have rF:=hdd (show (⟨x.m.ey a.s a.sz a.t a.z,au.zero,x.m.rows a.s a.sz a.t a.z⟩:An)=iq x a by unfold iq;rw [ai af,ar hk])
  have tC:=Pg (s:=a.s) (n:=a.sz) (a:=a.t) (z:=a.z) HE.out.is af ((HC.out _ B0).base _ (Only.refl _ _)) (sy.out _ B0)
  obtain⟨E,hE⟩:=bw (x.m.ey a.s a.sz a.t a.z)
  obtain⟨R,hR⟩:=bw (x.m.rows a.s a.sz a.t a.z)
  rw [hE,hR]at tC rF
  have wP:=hdd tC
  clear hk hE hR tC
  go_upto_region 7 with (fail)
  refine eI [(0,1),(1,1),(2,1),(3,0),(4,1),(5,0),(6,1),(7,0),(8,1),(9,0),(10,1),(11,0),(12,3),(13,1),(14,1),(15,1),(16,1),(17,3),(18,1),(19,3)] 12 (fun W=>SA gb w b a sa sc g0 l0 p0 g1 l1 p1 g2 l2 p2 so sn sp kp W) cy cy (HS.out _ B0) ?_
  (simp only [bF,List.filterMap_cons,List.filterMap_nil,List.getElem?_cons_zero,List.getElem?_cons_succ,Option.map_some])
  (repeat first|refine bg ?_|refine aZ ?_)
  refine bp rfl (fun K hK=>?_)
  go_simp
  (with_reducible refine wP.out.mono ?_)
  rintro e w1 ⟨hb1,ro,rc,rfl,hro⟩
  go_simp
  refine hK _ _ ?_
  clear hK K
  have B1:ah W0 w1:=Below.trans' B0 hb1 aI
  obtain⟨o0,o1,o2,o3,o4,o5,o6,o7,of⟩:=(HZ.out _ B1).oI
  clear hb1 e0 e1 e2 e3 e4 e5 e6 e7 e8 e9 ef
  (repeat first|refine bg ?_|refine aZ ?_)
  refine bp rfl (fun K hK=>?_)
  go_simp
  refine hK _ _ ?_
  clear hK K
  obtain⟨V1,hV1⟩:=bQ (w1.setCell ⟨w.heap.size+1+1,7,none⟩ (.slice ro R.length rc))
  have M6:jv w a ⟨⟨0,au.zero,R⟩,ro,R.length,rc⟩ V1:=by rw [hV1];exact(HZ.out _ B1).set rfl
  have CE:=hdd (show ah w V1 by rw [hV1];exact(HB.out _ B1).setCell (by show w.heap.size<=w.heap.size+1+1;omega) _)
  have Zn:=hdd (show OwnRows (w.heap.size+3) V1 (.slice ro R.length rc) R by rw [hV1];rw [hk3]at hro;exact hro.block fun g hg=>heap_setCell_other _ ⟨w.heap.size+1+1,_,none⟩ _ _ (by have h:=(hro.lt g hg).1;show g≠w.heap.size+1+1;omega))
  rw [<-hV1]
  clear hV1 hro o0 o1 o2 o3 o4 o5 o6 o7 of
  have OJ:=hdd M6
  obtain⟨o0,o1,o2,o3,o4,o5,o6,o7,of⟩:=M6.oI
  clear M6
  (repeat first|refine bg ?_|refine aZ ?_)
  refine bp rfl (fun K hK=>?_)
  go_simp
  refine hK _ _ ?_
  clear hK K
  refine cv ?_
  obtain⟨V,hV⟩:=bQ (V1.setCell ⟨w.heap.size+1+1,0,none⟩ (.int .i64 E))
  have rY:jv w a ⟨⟨E,au.zero,R⟩,ro,R.length,rc⟩ V:=by rw [hV];exact OJ.out.set rfl
  have kN:=hdd (rA (V:=V) (q:=⟨⟨E,au.zero,R⟩,ro,R.length,rc⟩) HE.out rY (by rw [hV];exact CE.out.setCell (by show w.heap.size<=w.heap.size+1+1;omega) _) HD.out.1 zT.out (by rw [hV];exact Zn.out.block fun g hg=>heap_setCell_other _ ⟨w.heap.size+1+1,_,none⟩ _ _ (by have h:=(Zn.out.lt g hg).1;show g≠w.heap.size+1+1;omega)) rF.out)
  rw [<-hV]
  clear hV o0 o1 o2 o3 o4 o5 o6 o7 of
  obtain⟨o0,o1,o2,o3,o4,o5,o6,o7,of⟩:=rY.oI
  obtain⟨r0,r1,r2,r3,r4,r5,r6,r7,rf⟩:=rY.Ag
  go_wp2_with fail
  exact bodyPost_ret (v:= .agg #[.int .i64 E, .int .i64 au.zero.c, .int .i64 au.zero.s, .int .i64 au.zero.mi, .int .i64 au.zero.ma, .int .i64 au.zero.t, .int .i64 au.zero.l, .slice ro R.length rc]) (by simp [results,Tryd.results54,go_sem, *]) rfl kN.out
 have Oh:=hdd hk
 clear hk
 have k1:=Hz.out
 have k2:=Oh.out
 by_cases hk:a.k=3
 ·skip
  have d1:(a.k == 1)=false:=by simp;omega
  have d2:(a.k == 2)=false:=by simp;omega
  have d3:(a.k == 3)=true:=by simp [hk]
  have zT:=hdd (show fB x a=x by have k1:=Hz.out;have k2:=Oh.out;unfold fB;rw [ai af,ai af,ai af,ai af])
  have rF:=hdd (show (⟨x.m.pJ a.s a.t a.z,x.m.KP a.s a.t a.z,[]⟩:An)=iq x a by unfold iq;rw [ai af,ai af,ar hk])
  have tC:=RZ (s:=a.s) (a:=a.t) (z:=a.z) HE.out.is af ((HC.out _ B0).base _ (Only.refl _ _)) (sy.out _ B0)
  obtain⟨E,hE⟩:=bw (x.m.pJ a.s a.t a.z)
  obtain⟨R,hR⟩:=bw (x.m.KP a.s a.t a.z)
  rw [hE,hR]at tC rF
  have wP:=hdd tC
  clear hk hE hR tC
  go_upto_region 9 with (fail)
  refine eI [(0,1),(1,1),(2,1),(3,0),(4,1),(5,0),(6,1),(7,0),(8,1),(9,0),(10,3),(11,1),(12,1),(13,1),(14,1),(15,3),(16,1),(17,3)] 10 (fun W=>SA gb w b a sa sc g0 l0 p0 g1 l1 p1 g2 l2 p2 so sn sp kp W) cy cy (HS.out _ B0) ?_
  (simp only [bF,List.filterMap_cons,List.filterMap_nil,List.getElem?_cons_zero,List.getElem?_cons_succ,Option.map_some])
  (repeat first|refine bg ?_|refine aZ ?_)
  refine bp rfl (fun K hK=>?_)
  go_simp
  (with_reducible refine wP.out.mono ?_)
  rintro e w1 ⟨hb1,rfl⟩
  go_simp
  refine hK _ _ ?_
  clear hK K
  have B1:ah W0 w1:=Below.trans' B0 hb1 aI
  obtain⟨o0,o1,o2,o3,o4,o5,o6,o7,of⟩:=(HZ.out _ B1).oI
  clear hb1 e0 e1 e2 e3 e4 e5 e6 e7 e8 e9 ef
  (repeat first|refine bg ?_|refine aZ ?_)
  refine bp rfl (fun K hK=>?_)
  go_simp
  refine hK _ _ ?_
  clear hK K
  obtain⟨V1,hV1⟩:=bQ ((((((w1.setCell ⟨w.heap.size+1+1,1,none⟩ (.int .i64 R.c)).setCell ⟨w.heap.size+1+1,2,none⟩ (.int .i64 R.s)).setCell ⟨w.heap.size+1+1,3,none⟩ (.int .i64 R.mi)).setCell ⟨w.heap.size+1+1,4,none⟩ (.int .i64 R.ma)).setCell ⟨w.heap.size+1+1,5,none⟩ (.int .i64 R.t)).setCell ⟨w.heap.size+1+1,6,none⟩ (.int .i64 R.l))
  have M6:jv w a ⟨⟨0,R,[]⟩,none,0,0⟩ V1:=by rw [hV1];exact(((((((HZ.out _ B1).set (r:=⟨⟨0,⟨R.c,0,0,0,0,0⟩,[]⟩,none,0,0⟩) rfl).set (r:=⟨⟨0,⟨R.c,R.s,0,0,0,0⟩,[]⟩,none,0,0⟩) rfl).set (r:=⟨⟨0,⟨R.c,R.s,R.mi,0,0,0⟩,[]⟩,none,0,0⟩) rfl).set (r:=⟨⟨0,⟨R.c,R.s,R.mi,R.ma,0,0⟩,[]⟩,none,0,0⟩) rfl).set (r:=⟨⟨0,⟨R.c,R.s,R.mi,R.ma,R.t,0⟩,[]⟩,none,0,0⟩) rfl).set (r:=⟨⟨0,R,[]⟩,none,0,0⟩) rfl)
  have CE:=hdd (show ah w V1 by rw [hV1];exact EL (HB.out _ B1) af _ _ _ _ _ _)
  rw [<-hV1]
  clear hV1 o0 o1 o2 o3 o4 o5 o6 o7 of
  have OJ:=hdd M6
  obtain⟨o0,o1,o2,o3,o4,o5,o6,o7,of⟩:=M6.oI
  clear M6
  (repeat first|refine bg ?_|refine aZ ?_)
  refine bp rfl (fun K hK=>?_)
  go_simp
  refine hK _ _ ?_
  clear hK K
  refine cv ?_
  obtain⟨V,hV⟩:=bQ (V1.setCell ⟨w.heap.size+1+1,0,none⟩ (.int .i64 E))
  have rY:jv w a ⟨⟨E,R,[]⟩,none,0,0⟩ V:=by rw [hV];exact OJ.out.set rfl
  have kN:=hdd (rA (V:=V) (q:=⟨⟨E,R,[]⟩,none,0,0⟩) HE.out rY (by rw [hV];exact CE.out.setCell (by show w.heap.size<=w.heap.size+1+1;omega) _) HD.out.1 zT.out (OwnRows.nil _ _) rF.out)
  rw [<-hV]
  clear hV o0 o1 o2 o3 o4 o5 o6 o7 of
  obtain⟨o0,o1,o2,o3,o4,o5,o6,o7,of⟩:=rY.oI
  obtain⟨r0,r1,r2,r3,r4,r5,r6,r7,rf⟩:=rY.Ag
  go_wp2_with fail
  exact bodyPost_ret (v:= .agg #[.int .i64 E, .int .i64 R.c, .int .i64 R.s, .int .i64 R.mi, .int .i64 R.ma, .int .i64 R.t, .int .i64 R.l, .slice none 0 0]) (by simp [results,Tryd.results54,go_sem, *]) rfl kN.out
 have Vq:=hdd hk
 have k3:=hk
 clear hk
 by_cases hk:a.k=4
 ·skip
  have d1:(a.k == 1)=false:=by simp;omega
  have d2:(a.k == 2)=false:=by simp;omega
  have d3:(a.k == 3)=false:=by simp;omega
  have d4:(a.k == 4)=true:=by simp [hk]
  by_cases ee:x.m.wj a.t=0
  ·have zT:=hdd (show fB x a=⟨x.m.exp a.t,x.s⟩ by unfold fB;rw [ai af,ar hk,ar ee])
   have rF:=hdd (show (⟨0,au.zero,[]⟩:An)=iq x a by unfold iq;rw [ai af,ai af,ai af,ar hk,ee])
   have wP:=hdd (G1 HE.out.is af ((HC.out _ B0).base _ (Only.refl _ _)) (sy.out _ B0) ee)
   clear ee hk
   go_upto_region 11 with (fail)
   refine eI [(0,1),(1,1),(2,1),(3,1),(4,0),(5,1),(6,0),(7,2),(8,1),(9,1),(10,3),(11,1),(12,3)] 10 (fun W=>SA gb w b a sa sc g0 l0 p0 g1 l1 p1 g2 l2 p2 so sn sp kp W) cy cy (HS.out _ B0) ?_
   (simp only [bF,List.filterMap_cons,List.filterMap_nil,List.getElem?_cons_zero,List.getElem?_cons_succ,Option.map_some])
   (repeat first|refine bg ?_|refine aZ ?_)
   refine aS rfl (fun K hK=>?_)
   go_simp
   (with_reducible refine wP.out.mono ?_)
   rintro e w1 ⟨hb1,c,ya,yc,z0,m0,q0,z1,m1,q1,z2,m2,q2,rfl,OB,hi⟩
   go_simp
   have B1:ah W0 w1:=Below.trans' B0 hb1 aI
   refine hK _ _ (HS.out _ B1) ?_
   clear hK K
   have Fh:=hdd (aM OB hi)
   clear OB hi hb1 e0 e1 e2 e3 e4 e5 e6 e7 e8 e9 ef
   (repeat first|refine bg ?_|refine aZ ?_)
   have QA:=hdd (HC.out _ B1).box
   refine bp rfl (fun K hK=>?_)
   go_simp
   (with_reducible refine(FC QA.out).mono ?_)
   rintro e w2 ⟨rfl,ht2,hb2⟩
   go_simp
   refine hK _ _ ?_
   clear hK K
   have OI:=hdd ((HZ.out _ B1).turn ht2 hgl)
   obtain⟨o0,o1,o2,o3,o4,o5,o6,o7,of⟩:=OI.out.oI
   have rD:=hdd (aM ht2 hb2)
   clear ht2 hb2
   (repeat first|refine bg ?_|refine aZ ?_)
   refine bp rfl (fun K hK=>?_)
   go_simp
   refine hK _ _ ?_
   clear hK K
   refine cv ?_
   obtain⟨V,hV⟩:=bQ (w2.setCell ⟨w.heap.size+1+1,0,none⟩ (.int .i64 0))
   have rY:jv w a ⟨⟨0,au.zero,[]⟩,none,0,0⟩ V:=by rw [hV];exact OI.out.set rfl
   have kN:=hdd (vh (V:=V) (q:=⟨⟨0,au.zero,[]⟩,none,0,0⟩) HE.out HD.out.1 HD.out.2 (HB.out _ B1) (fun w'' hw=>Fh.out.1 w'' (by rw [hk3];exact hw)) Fh.out.2 (by rw [hV];exact aw.setCell (rD.out.1.mono fun i _ hi=> .inl hi) (.inl (.inr ⟨by show w.heap.size<=w.heap.size+1+1;omega,by show w.heap.size+1+1<w.heap.size+3;omega⟩)) _) (by rw [hV];exact(heap_setCell_other _ ⟨w.heap.size+1+1,_,none⟩ _ _ Gw).trans rD.out.2) zT.out rF.out ⟨rfl,rfl,rfl,rfl⟩)
   rw [<-hV]
   clear hV o0 o1 o2 o3 o4 o5 o6 o7 of
   obtain⟨o0,o1,o2,o3,o4,o5,o6,o7,of⟩:=rY.oI
   obtain⟨r0,r1,r2,r3,r4,r5,r6,r7,rf⟩:=rY.Ag
   go_wp2_with fail
   exact bodyPost_ret (v:= .agg #[.int .i64 0, .int .i64 au.zero.c, .int .i64 au.zero.s, .int .i64 au.zero.mi, .int .i64 au.zero.ma, .int .i64 au.zero.t, .int .i64 au.zero.l, .slice none 0 0]) (by simp [results,Tryd.results54,go_sem, *]) rfl kN.out
  ·obtain⟨E,hE⟩:=bw (x.m.wj a.t)
   have zT:=hdd (show fB x a=x by unfold fB;rw [ai af,ar hk,ai ee])
   have rF:=hdd (show (⟨E,au.zero,[]⟩:An)=iq x a by unfold iq;rw [ai af,ai af,ai af,ar hk,hE])
   have tC:=G3 HE.out.is ((HC.out _ B0).base _ (Only.refl _ _)) (sy.out _ B0) ee
   rw [hE]at tC ee
   have wP:=hdd tC
   have Vu:=hdd ee
   clear ee hk hE tC
   go_upto_region 11 with (fail)
   refine eI [(0,1),(1,1),(2,1),(3,1),(4,0),(5,1),(6,0),(7,2),(8,1),(9,1),(10,3),(11,1),(12,3)] 10 (fun W=>SA gb w b a sa sc g0 l0 p0 g1 l1 p1 g2 l2 p2 so sn sp kp W) cy cy (HS.out _ B0) ?_
   (simp only [bF,List.filterMap_cons,List.filterMap_nil,List.getElem?_cons_zero,List.getElem?_cons_succ,Option.map_some])
   (repeat first|refine bg ?_|refine aZ ?_)
   refine aS rfl (fun K hK=>?_)
   go_simp
   (with_reducible refine wP.out.mono ?_)
   rintro e w1 ⟨hb1,rfl⟩
   go_simp
   have B1:ah W0 w1:=Below.trans' B0 hb1 aI
   refine hK _ _ (HS.out _ B1) ?_
   clear hK K hb1
   (repeat first|refine bg ?_|refine aZ ?_)
   refine bp rfl (fun K hK=>?_)
   go_simp
   (with_reducible refine(Ik Vu.out).mono ?_)
   rintro e w2 ⟨rfl,hb2⟩
   go_simp
   refine hK _ _ ?_
   clear hK K
   have B2:ah W0 w2:=Below.trans' B1 hb2 B1.size
   obtain⟨o0,o1,o2,o3,o4,o5,o6,o7,of⟩:=(HZ.out _ B2).oI
   (repeat first|refine bg ?_|refine aZ ?_)
   refine bp rfl (fun K hK=>?_)
   go_simp
   refine hK _ _ ?_
   clear hK K
   refine cv ?_
   obtain⟨V,hV⟩:=bQ (w2.setCell ⟨w.heap.size+1+1,0,none⟩ (.int .i64 E))
   have rY:jv w a ⟨⟨E,au.zero,[]⟩,none,0,0⟩ V:=by rw [hV];exact(HZ.out _ B2).set rfl
   have kN:=hdd (rA (V:=V) (q:=⟨⟨E,au.zero,[]⟩,none,0,0⟩) HE.out rY (by rw [hV];exact(HB.out _ B2).setCell (by show w.heap.size<=w.heap.size+1+1;omega) _) HD.out.1 zT.out (OwnRows.nil _ _) rF.out)
   rw [<-hV]
   clear hV B2 o0 o1 o2 o3 o4 o5 o6 o7 of
   obtain⟨o0,o1,o2,o3,o4,o5,o6,o7,of⟩:=rY.oI
   obtain⟨r0,r1,r2,r3,r4,r5,r6,r7,rf⟩:=rY.Ag
   go_wp2_with fail
   exact bodyPost_ret (v:= .agg #[.int .i64 E, .int .i64 au.zero.c, .int .i64 au.zero.s, .int .i64 au.zero.mi, .int .i64 au.zero.ma, .int .i64 au.zero.t, .int .i64 au.zero.l, .slice none 0 0]) (by simp [results,Tryd.results54,go_sem, *]) rfl kN.out
 have k4:=hk
 clear hk
 by_cases hk:a.k=5
 ·skip
  have d1:(a.k == 1)=false:=by simp;omega
  have d2:(a.k == 2)=false:=by simp;omega
  have d3:(a.k == 3)=false:=by simp;omega
  have d4:(a.k == 4)=false:=by simp;omega
  have d5:(a.k == 5)=true:=by simp [hk]
  have zT:=hdd (show fB x a=⟨x.m,x.m⟩ by unfold fB;rw [ai af,ai af,ar hk])
  have rF:=hdd (show (⟨0,au.zero,[]⟩:An)=iq x a by unfold iq;rw [ai af,ai af,ai af,ai af,ar (.inl hk)])
  have WH:x.m.bytes.length<=1000000:=by have h1:=HE.out.is.ok af;have h2:=h1.fit.short (by have:=h1.len;omega);show (eN _ _ _++_).length<=_;omega
  have wP:=hdd (TS HE.out.is af ((HC.out W0 (aJ _ _)).base _ (Only.refl _ _)) (sy.out W0 (aJ _ _)))
  have Zw:=hdd WH
  clear hk WH
  go_upto_region 14 with (go_at_call 30;(with_reducible refine wP.out.mono ?_);rintro e w1 ⟨hb1,ro,rc,rfl,hro⟩)
  have B1:ah W0 w1:=hb1
  have K3:=hdd hro
  have CE:=hdd (HC.out _ B1).box
  obtain⟨RN,hRN⟩:=bw (x.m.bytes.length)
  have tV:=hdd hRN
  rw [hRN]
  clear hRN hro
  obtain⟨o0,o1,o2,o3,o4,o5,o6,o7,of⟩:=(HZ.out _ B1).oI
  clear hb1 e0 e1 e2 e3 e4 e5 e6 e7 e8 e9 ef
  go_upto_region 15 with (fail)
  obtain⟨V1,hV1⟩:=bQ (w1.setCell ⟨w.heap.size+1+1,0,none⟩ (.int .i64 0))
  have OJ:=hdd (show jv w a ⟨⟨0,au.zero,[]⟩,none,0,0⟩ V1 by rw [hV1];exact(HZ.out _ B1).set rfl)
  have N1:=hdd (show aw (Loc gb w.heap.size (w.heap.size+3)) w1 V1 by rw [hV1];exact aw.setCell (aw.refl _ _) (.inl (.inr ⟨by show w.heap.size<=w.heap.size+1+1;omega,by show w.heap.size+1+1<w.heap.size+3;omega⟩)) _)
  have hg1:V1.heap[gb]?=w1.heap[gb]?:=by rw [hV1];exact heap_setCell_other _ ⟨w.heap.size+1+1,_,none⟩ _ _ Gw
  have ZA:=hdd (hg1.trans CE.out)
  clear hg1
  rw [<-hV1]
  clear hV1 o0 o1 o2 o3 o4 o5 o6 o7 of
  obtain⟨g8,g9,gf⟩:V1.cell? ⟨gb,8,none⟩=some (.slice so sn sp)/\V1.cell? ⟨gb,9,none⟩=some (.bool kp)/\∀o,V1.frozen? ⟨gb,o,none⟩=false:=by have h1:=ZA.out;simp [World.cell?,World.frozen?,h1]
  go_upto_region 21 with (fail)
  obtain⟨V,hV⟩:=bQ ((V1.setCell ⟨gb,8,none⟩ (.slice ro RN rc)).setCell ⟨gb,9,none⟩ (.bool true))
  have Tu:aw (fun i=>i=gb) V1 V:=by rw [hV];exact aw.setCell (X:=fun i=>i=gb) (p:=⟨gb,9,none⟩) (aw.setCell (X:=fun i=>i=gb) (p:=⟨gb,8,none⟩) (aw.refl _ _) (.inl rfl) _) (.inl rfl) _
  have rY:jv w a ⟨⟨0,au.zero,[]⟩,none,0,0⟩ V:=OJ.out.turn Tu hgl
  have kN:=hdd (NL (V:=V) (q:=⟨⟨0,au.zero,[]⟩,none,0,0⟩) HE.out hN HD.out.1 HD.out.2 (HB.out _ B1) (by have h:=K3.out;rw [hz0]at h;exact h) Zw.out (N1.out.trans (Tu.mono fun i _ hi=> .inl hi)) (by rw [hV,tV.out];have h:=heap_setCell_same (off:=9) (v:= .bool true) (heap_setCell_same (off:=8) (v:= .slice ro RN rc) ZA.out);simpa using h) zT.out rF.out ⟨rfl,rfl,rfl,rfl⟩)
  rw [<-hV]
  clear hV Tu g8 g9 gf
  obtain⟨o0,o1,o2,o3,o4,o5,o6,o7,of⟩:=rY.oI
  obtain⟨r0,r1,r2,r3,r4,r5,r6,r7,rf⟩:=rY.Ag
  go_wp2_with fail
  exact bodyPost_ret (v:= .agg #[.int .i64 0, .int .i64 au.zero.c, .int .i64 au.zero.s, .int .i64 au.zero.mi, .int .i64 au.zero.ma, .int .i64 au.zero.t, .int .i64 au.zero.l, .slice none 0 0]) (by simp [results,Tryd.results54,go_sem, *]) rfl kN.out
 have k5:=hk
 clear hk
 by_cases hk:a.k=6
 ·skip
  have d1:(a.k == 1)=false:=by simp;omega
  have d2:(a.k == 2)=false:=by simp;omega
  have d3:(a.k == 3)=false:=by simp;omega
  have d4:(a.k == 4)=false:=by simp;omega
  have d5:(a.k == 5)=false:=by simp;omega
  have d6:(a.k == 6)=true:=by simp [hk]
  have zT:=hdd (show fB x a=⟨x.s,x.s⟩ by unfold fB;rw [ai af,ai af,ai af,ar hk])
  have rF:=hdd (show (⟨0,au.zero,[]⟩:An)=iq x a by unfold iq;rw [ai af,ai af,ai af,ai af,ar (.inr hk)])
  clear hk
  cases kp with
  |false=>
   have hx0:=HE.out.UO rfl
   have HN:=hdd (uY W0)
   have HX0:=hdd hx0
   clear hx0
   go_upto_region 19 with (fail)
   clear e0 e1 e2 e3 e4 e5 e6 e7 e8 e9 ef
   have rC:=hdd fun w1 (hb1:ah W0 w1)=>(HC.out w1 hb1).cells
   go_upto_region 21 with (go_at_call 53;(with_reducible refine HN.out.mono ?_);rintro e w1 ⟨⟨v1,rfl,vz⟩,hb1⟩;obtain⟨ya,yc,z0,m0,q0,z1,m1,q1,z2,m2,q2,rfl,-⟩:=(vz w1 (aP.refl _ _)).open;obtain⟨e0,e1,e2,e3,e4,e5,e6,e7,e8,e9,ef⟩:=rC.out _ hb1)
   have B1:ah W0 w1:=hb1
   obtain⟨V,hV⟩:=bQ (((((((((w1.setCell ⟨gb,0,none⟩ (.slice ya ko.names.length yc)).setCell ⟨gb,1,none⟩ (.slice z0 m0 q0)).setCell ⟨gb,2,none⟩ (.int .i64 ko.t0.root)).setCell ⟨gb,3,none⟩ (.slice z1 m1 q1)).setCell ⟨gb,4,none⟩ (.int .i64 ko.t1.root)).setCell ⟨gb,5,none⟩ (.slice z2 m2 q2)).setCell ⟨gb,6,none⟩ (.int .i64 ko.t2.root)).setCell ⟨gb,7,none⟩ (.int .i64 ko.floor)))
   have Tu:aw (fun i=>i=gb) w1 V:=by rw [hV];exact sP (aw.refl _ _) _ _ _ _ _ _ _ _
   have rY:jv w a ⟨⟨0,au.zero,[]⟩,none,0,0⟩ V:=(HZ.out _ B1).turn Tu hgl
   have kN:=hdd (vh (V:=V) (q:=⟨⟨0,au.zero,[]⟩,none,0,0⟩) (y:=x.s) HE.out HD.out.1 HD.out.2 (HB.out _ B1) (fun w'' hw=>vz w'' (hw.mono af)) (by rw [HX0.out];exact Mf.mono af) (Tu.mono fun i _ hi=> .inl hi) (by rw [hV];exact zo (HC.out _ B1).box) zT.out rF.out ⟨rfl,rfl,rfl,rfl⟩)
   rw [<-hV]
   clear hV Tu vz hb1 e0 e1 e2 e3 e4 e5 e6 e7 e8 e9 ef
   obtain⟨o0,o1,o2,o3,o4,o5,o6,o7,of⟩:=rY.oI
   obtain⟨r0,r1,r2,r3,r4,r5,r6,r7,rf⟩:=rY.Ag
   go_wp2_with fail
   exact bodyPost_ret (v:= .agg #[.int .i64 0, .int .i64 au.zero.c, .int .i64 au.zero.s, .int .i64 au.zero.mi, .int .i64 au.zero.ma, .int .i64 au.zero.t, .int .i64 au.zero.l, .slice none 0 0]) (by simp [results,Tryd.results54,go_sem, *]) rfl kN.out
  |true=>
   have Vw:=hdd (TV HE.out.ok af ((HC.out W0 (aJ _ _)).saved rfl _ (Only.refl _ _)) (sy.out W0 (aJ _ _)))
   have rC:=hdd fun w1 (hb1:ah W0 w1)=>(HC.out w1 hb1).box
   go_upto_region 20 with (fail)
   go_upto_region 21 with (first|(go_at_call 86;(with_reducible refine Vw.out.mono ?_);rintro e w1 ⟨hb1,c,ya,yc,z0,m0,q0,z1,m1,q1,z2,m2,q2,rfl,OB,hi⟩;have Fh:=hdd (aM OB hi);clear OB hi;have QA:=rC.out _ hb1)|(go_at_call 82;(with_reducible refine(FC QA).mono ?_);rintro e w2 ⟨rfl,ht2,hb2⟩;have OI:=hdd ((HZ.out _ hb1).turn ht2 hgl);obtain⟨o0,o1,o2,o3,o4,o5,o6,o7,of⟩:=OI.out.oI;have rD:=hdd (aM ht2 hb2);clear ht2 hb2))
   have B1:ah W0 w1:=hb1
   obtain⟨V,hV⟩:=bQ (w2.setCell ⟨w.heap.size+1+1,0,none⟩ (.int .i64 0))
   have rY:jv w a ⟨⟨0,au.zero,[]⟩,none,0,0⟩ V:=by rw [hV];exact OI.out.set rfl
   have kN:=hdd (vh (V:=V) (q:=⟨⟨0,au.zero,[]⟩,none,0,0⟩) HE.out HD.out.1 HD.out.2 (HB.out _ B1) (fun w'' hw=>Fh.out.1 w'' (by rw [hz0];exact hw)) (Fh.out.2.mono af) (by rw [hV];exact aw.setCell (rD.out.1.mono fun i _ hi=> .inl hi) (.inl (.inr ⟨by show w.heap.size<=w.heap.size+1+1;omega,by show w.heap.size+1+1<w.heap.size+3;omega⟩)) _) (by rw [hV];exact(heap_setCell_other _ ⟨w.heap.size+1+1,_,none⟩ _ _ Gw).trans rD.out.2) zT.out rF.out ⟨rfl,rfl,rfl,rfl⟩)
   rw [<-hV]
   clear hV QA o0 o1 o2 o3 o4 o5 o6 o7 of
   clear e0 e1 e2 e3 e4 e5 e6 e7 e8 e9 ef
   obtain⟨o0,o1,o2,o3,o4,o5,o6,o7,of⟩:=rY.oI
   obtain⟨r0,r1,r2,r3,r4,r5,r6,r7,rf⟩:=rY.Ag
   go_wp2_with fail
   exact bodyPost_ret (v:= .agg #[.int .i64 0, .int .i64 au.zero.c, .int .i64 au.zero.s, .int .i64 au.zero.mi, .int .i64 au.zero.ma, .int .i64 au.zero.t, .int .i64 au.zero.l, .slice none 0 0]) (by simp [results,Tryd.results54,go_sem, *]) rfl kN.out
 have k6:=hk
 clear hk
 have d1:(a.k == 1)=false:=by simp;omega
 have d2:(a.k == 2)=false:=by simp;omega
 have d3:(a.k == 3)=false:=by simp;omega
 have d4:(a.k == 4)=false:=by simp;omega
 have d5:(a.k == 5)=false:=by simp;omega
 have d6:(a.k == 6)=false:=by simp;omega
 have zT:=hdd (show fB x a=x by unfold fB;rw [ai af,ai af,ai af,ai af])
 have rF:=hdd (show (⟨3,au.zero,[]⟩:An)=iq x a by unfold iq;rw [ai af,ai af,ai af,ai af,ai af])
 clear e0 e1 e2 e3 e4 e5 e6 e7 e8 e9 ef
 obtain⟨o0,o1,o2,o3,o4,o5,o6,o7,of⟩:=(HZ.out W0 (aJ _ _)).oI
 go_upto_region 21 with (fail)
 obtain⟨V,hV⟩:=bQ (W0.setCell ⟨w.heap.size+1+1,0,none⟩ (.int .i64 3))
 have rY:jv w a ⟨⟨3,au.zero,[]⟩,none,0,0⟩ V:=by rw [hV];exact(HZ.out W0 (aJ _ _)).set rfl
 have kN:=hdd (rA (V:=V) (q:=⟨⟨3,au.zero,[]⟩,none,0,0⟩) HE.out rY (by rw [hV];exact(HB.out W0 (aJ _ _)).setCell (by show w.heap.size<=w.heap.size+1+1;omega) _) HD.out.1 zT.out (OwnRows.nil _ _) rF.out)
 rw [<-hV]
 clear hV o0 o1 o2 o3 o4 o5 o6 o7 of
 obtain⟨o0,o1,o2,o3,o4,o5,o6,o7,of⟩:=rY.oI
 obtain⟨r0,r1,r2,r3,r4,r5,r6,r7,rf⟩:=rY.Ag
 go_wp2_with fail
 exact bodyPost_ret (v:= .agg #[.int .i64 3, .int .i64 au.zero.c, .int .i64 au.zero.s, .int .i64 au.zero.mi, .int .i64 au.zero.ma, .int .i64 au.zero.t, .int .i64 au.zero.l, .slice none 0 0]) (by simp [results,Tryd.results54,go_sem, *]) rfl kN.out
end
section
set_option maxRecDepth 100000
set_option maxHeartbeats 4000000
variable {xs:List Ac} {gb N:Nat} {D:Nat->Prop} {x:St} {w:World}
def yq (xs:List Ac) (w:World) (e:Ending) (w':World):Prop:=ah w w' /\
 ∃ao ac,∃qs:List qx,∃b sa sc g0 l0 p0 g1 l1 p1 g2 l2 p2,e = .returned (.tuple #[.slice ao qs.length ac, .agg (aH sa b.names.length sc g0 l0 p0 g1 l1 p1 g2 l2 p2 b), .int .i64 0])/\qs.map qx.an=lZ St.zero xs /\
  dZ w.heap.size w' (.slice ao qs.length ac) qs/\(∀q∈qs,OwnRows w.heap.size w' q.v q.an.rows)/\(∀w'',aP w.heap.size w' w''->bN w'' (.agg (aH sa b.names.length sc g0 l0 p0 g1 l1 p1 g2 l2 p2 b)) b)/\Is b (iC St.zero xs).m xs.length /\
  ∀j,j<=xs.length->(iC St.zero (xs.take j)).m.Ok j
structure NR (w:World) (gb:Nat) (xs:List Ac) (k:Nat) (ov:Value) (qs:List qx) (wr:World):Prop where
 below:ah w wr
 lo:w.heap.size<gb
 lt:gb<wr.heap.size
 res:wr.heap[w.heap.size]?=some (.cells cN 35)
 own:dZ (gb+1) wr ov qs
 an:qs.map qx.an=lZ St.zero (xs.take k)
 eng:rG gb (fun i=>i=gb\/ov.ownBlock=some i) wr (iC St.zero (xs.take k)) k
 rows:∀q∈qs,OwnRows (gb+1) wr q.v q.an.rows/\∀g,q.v.ownBlock=some g->ov.ownBlock≠some g
 ok:∀j,j<=k->(iC St.zero (xs.take j)).m.Ok j
theorem rG.ok (h:rG gb D w x N) (hN:N<=2900):x.m.Ok N:=by
 obtain⟨b,sa,sc,g0,l0,p0,g1,l1,p1,g2,l2,p2,so,sn,sp,kp,h⟩:=h
 exact h.is.ok hN
theorem rG.move {E:Nat->Prop} {w':World} (h:rG gb D w x N) (hO:Only D w w') (hg:w'.heap[gb]?=w.heap[gb]?) (hE:∀q,q<w.heap.size->E q->D q):rG gb E w' x N:=by
 obtain⟨b,sa,sc,g0,l0,p0,g1,l1,p1,g2,l2,p2,so,sn,sp,kp,h⟩:=h
 have key:∀w'',Only E w' w''->Only D w w'':=fun w'' hw=>⟨gT hO.size hw.size,fun q hq hd=>(hw.block q (mE hq hO.size) (fun he=>hd (hE q hq he))).trans (hO.block q hq hd)⟩
 exact⟨b,sa,sc,g0,l0,p0,g1,l1,p1,g2,l2,p2,so,sn,sp,kp,hg.trans h.box,h.is,h.ok,fun w'' hw=>h.base w'' (key w'' hw),fun hk w'' hw=>h.saved hk w'' (key w'' hw),h.UO⟩
theorem Ld {k:Nat} (hk:k<xs.length) (x:St):iC x (xs.take (k+1))=fB (iC x (xs.take k)) xs[k]/\lZ x (xs.take (k+1))=lZ x (xs.take k)++[iq (iC x (xs.take k)) xs[k]]:=by
 rw [mn hk]
 exact⟨vL _ _ _,Jo _ _ _⟩
section
variable {w wr w1 w2 w3 w4:World} {gb:Nat} {xs:List Ac} {k:Nat} {ov v':Value} {qs:List qx} {q:qx} {a:Ac}
theorem NR.step (h:NR w gb xs k ov qs wr) (hk:k<xs.length) (ha:xs[k]=a) (h5:k+1<=500) (h1:ah wr w1) (hq:q.an=iq (iC St.zero (xs.take k)) a) (ht:aw (fun i=>i=gb) w1 w2)
  (he:rG gb (fun i=>i=gb\/ov.ownBlock=some i) w2 (fB (iC St.zero (xs.take k)) a) (k+1)) (hr:OwnRows w1.heap.size w2 q.v q.an.rows)
  (h3:ah w2 w3) (h4:dZ (gb+1) w4 v' (qs++[q])) (hg:w3.grownBy w4 ov.ownBlock) (hv:v'.ownBlock=ov.ownBlock\/v'.ownBlock=some w3.heap.size):NR w gb xs (k+1) v' (qs++[q]) w4:=by
 subst ha
 have hol:=h.own.lt
 have s1:=h1.size
 have s2:=ht.size
 have s3:=h3.size
 have s4:=hg.size
 have hlo:=h.lo
 have hlt:=h.lt
 obtain⟨e1,e2⟩:=Ld hk St.zero
 have t3:aw (fun i=>i=gb\/ov.ownBlock=some i) w2 w4:=aw.grown (aw.of h3 aI) hg fun k hk=> .inl (.inr hk)
 have T:aw (fun i=>i=gb\/ov.ownBlock=some i) wr w4:=((aw.of h1 aI).trans (ht.mono fun i _ hi=> .inl hi)).trans t3
 have di:=h.below.size
 have MB:∀i,i<gb->¬(i=gb\/ov.ownBlock=some i):=fun i hi hx=>by
  rcases hx with hx|hx
  ·omega
  ·have:=(hol i hx).1;omega
 have g34:∀i,i<w3.heap.size->ov.ownBlock≠some i->w4.heap[i]?=w3.heap[i]?:=fun i hi hn=>hg.block i hi fun e=>hn e.symm
 refine⟨T.below h.below di fun i hi=>?_,hlo,by have:=T.size;omega,(T.block _ af (MB _ hlo)).trans h.res,h4,?_,?_,fun p hp=>?_,fun j hj=>?_⟩
 ·rcases hi with hi|hi
  ·omega
  ·have:=(hol i hi).1;omega
 ·rw [tL,h.an,e2,List.map_cons,List.map_nil,hq]
 ·rw [e1]
  refine he.move (Only.turn t3 fun q hq=>hq) ?_ fun q hq hx=>?_
  ·rw [g34 gb af fun e=>by have:=(hol gb e).1;omega]
   exact h3.block gb af
  ·rcases hx with hx|hx
   ·exact .inl hx
   ·rcases hv with hv|hv
    ·exact .inr (hv▸hx)
    ·rw [hv]at hx;injection hx with hx;omega
 ·rcases kI.1 hp with hp|hp
  ·obtain⟨r1,r2⟩:=h.rows p hp
   refine⟨r1.block fun g hgg=>T.block g (r1.lt g hgg).2 fun hx=>?_,fun g hgg hx=>?_⟩
   ·rcases hx with hx|hx
    ·have:=(r1.lt g hgg).1;omega
    ·exact r2 g hgg hx
   ·have:=(r1.lt g hgg).2
    rcases hv with hv|hv
    ·exact r2 g hgg (hv▸hx)
    ·rw [hv]at hx;injection hx with hx;omega
  ·rw [nB.1 hp]
   refine⟨(hr.block fun g hgg=>?_).mono af,fun g hgg hx=>?_⟩
   ·obtain⟨q1,q2⟩:=hr.lt g hgg
    rw [g34 g af fun e=>by have:=(hol g e).2;omega]
    exact h3.block g q2
   ·obtain⟨q1,q2⟩:=hr.lt g hgg
    rcases hv with hv|hv
    ·have:=(hol g (hv▸hx)).2;omega
    ·rw [hv]at hx;injection hx with hx;omega
 ·by_cases hjk:j<=k
  ·exact h.ok j hjk
  ·obtain rfl:j=k+1:=af
   rw [e1]
   exact he.ok af
end
theorem Pf {v:Value} (h:Oq w v xs) (hs:∀a∈xs,a.s.size<=140737488351232) (hl:xs.length<=500) (hsz:bS w) :
  Calls Tryd.prog 28 #[v] w (yq xs w):=by
 obtain⟨ao,cap,rfl,a1,a2,a3,a4,a5⟩:=h
 obtain⟨W0,hW0⟩:=bQ (w.alloc (.cells cN 35))
 have hb0:ah w W0:=by rw [hW0];exact ag
 have hz0:W0.heap.size=w.heap.size+1:=by rw [hW0];simp
 have k0:W0.heap[w.heap.size]?=some (.cells cN 35):=by rw [hW0];exact aq _ _ rfl
 have hd:decide ((500:Int)<(xs.length:Int))=false:=by simp;omega
 have HN:=hdd (uY W0)
 have sy:=hdd hsz
 have HL:=hdd hl
 have HSS:=hdd hs
 clear hsz hl hs
 go_enter Tryd.func28,Tryd.ntmps28
 go_upto_region 1 with (fail)
 rw [<-hW0]
 clear hW0
 go_upto_region 4 with (go_at_call 53;(with_reducible refine HN.out.mono ?_);rintro e w1 ⟨⟨v1,rfl,vz⟩,hb1⟩;obtain⟨sa,sc,g0,l0,p0,g1,l1,p1,g2,l2,p2,rfl,-⟩:=(vz w1 (aP.refl _ _)).open)
 obtain⟨W1,hW1⟩:=bQ (w1.alloc (.cells #[.slice sa ko.names.length sc, .slice g0 l0 p0, .int .i64 ko.t0.root, .slice g1 l1 p1, .int .i64 ko.t1.root, .slice g2 l2 p2, .int .i64 ko.t2.root, .int .i64 ko.floor, .slice none 0 0, .bool false] 104))
 have pj:ah w1 W1:=by rw [hW1];exact ag
 have k1:W1.heap[w1.heap.size]?=some (.cells #[.slice sa ko.names.length sc, .slice g0 l0 p0, .int .i64 ko.t0.root, .slice g1 l1 p1, .int .i64 ko.t1.root, .slice g2 l2 p2, .int .i64 ko.t2.root, .int .i64 ko.floor, .slice none 0 0, .bool false] 104):=by rw [hW1];exact aq _ _ rfl
 have hs1:=hb1.size
 have hz1:W1.heap.size=w1.heap.size+1:=by rw [hW1];simp
 have HI:=hdd (show NR w w1.heap.size xs 0 (.slice none 0 0) [] W1 from
  ⟨Below.trans' (Below.trans' hb0 hb1 hb0.size) pj af,af,af,(pj.block _ af).trans ((hb1.block _ af).trans k0),dZ.nil _ _,rfl,
   ⟨ko,sa,sc,g0,l0,p0,g1,l1,p1,g2,l2,p2,none,0,0,false,k1,Mf,Mo.Iq 0,fun w'' hw=>vz w'' ⟨by have:=hw.size;omega,fun q _ hq=>(hw.block q af (fun hx=>by
    rcases hx with hx|hx
    ·omega
    ·cases hx)).trans (pj.block q hq)⟩,(fun hk=>by cases hk),fun _=>rfl⟩,(fun q hq=>by cases hq),fun j hj=>by
   obtain rfl:j=0:=af
   exact Mo.Iq 0⟩)
 rw [<-hW1]
 obtain⟨gb,hgb⟩:=bw (w1.heap.size)
 rw [hgb]at HI ⊢
 clear hW1 k1 hs1 hz1 k0 hb1 pj hb0 hgb vz HN hd
 go_wp2_with fail
 go_loopg [6,18] xs.length (fun g ov i wr=>∃k:Nat,k<=xs.length/\g=xs.length-k/\i = .int .i64 k/\Hid (∃qs,NR w gb xs k ov qs wr))
 case atStart=>exact⟨0,iN _,rfl,rfl,hdd ⟨_,HI.out⟩⟩
 case round=>
  clear HI
  obtain⟨k,hk,rfl,rfl,HR⟩:=hrel
  obtain⟨qs,hA⟩:=HR.out
  obtain⟨oa,oc,rfl⟩:=hA.own.isSlice
  clear HR
  have PS:qs.length=k:=by
   have h1:=congrArg List.length hA.an
   rw [nA,ng,fw]at h1
   omega
  have HQL:=hdd PS
  clear PS
  by_cases hlt:k<xs.length
  ·have Cf:(k:Int)<(xs.length:Int):=af
   obtain⟨ab,aY,rfl,xD,ac⟩:=a5 af
   obtain⟨a,ha⟩:=bw (xs[k])
   have hcs:∀W,ah w W->_:=fun W (hb:ah w W)=>KO (w:=W) (b:=ab) (off:=aY) (xs:=xs) (fun i x hi j u hu=>(hb.cell (p:=⟨ab,_,none⟩) xD).trans (ac i x hi j u hu)) hlt
   obtain⟨c0,c1,c2,c3,c4,c5⟩:=hcs _ hA.below
   rw [ha]at c0 c1 c2 c3 c4 c5
   have kS:=fun w'=>PF (ab:=ab) (aY:=aY) (n:=xs.length) (cap:=cap) (show (k:Int)=((k:Nat):Int) by rfl) hlt w'
   have HA:=hdd hA
   have Zy:=hdd ha
   have xh:a.s.size<=140737488351232:=by rw [<-ha];exact HSS.out _ (fO hlt)
   have Zj:=hdd xh
   clear hA ha ac a5 hcs xh
   go_upto_region 8 with (fail)
   obtain⟨W1,hW1⟩:=bQ (wr.alloc (.cells a.cs 26))
   have hb1:ah wr W1:=by rw [hW1];exact ag
   have k1:W1.heap[wr.heap.size]?=some (.cells a.cs 26):=by rw [hW1];exact aq _ _ rfl
   have hz1:W1.heap.size=wr.heap.size+1:=by rw [hW1];simp
   obtain⟨x0,x1,x2,x3,x4,x5⟩:W1.cell? ⟨wr.heap.size,0,none⟩=some (.int .i64 a.k)/\W1.cell? ⟨wr.heap.size,1,none⟩=some (.string a.s)/\W1.cell? ⟨wr.heap.size,2,none⟩=some (.int .i64 a.t)/\W1.cell? ⟨wr.heap.size,3,none⟩=some (.int .i64 a.z)/\W1.cell? ⟨wr.heap.size,4,none⟩=some (.int .i64 a.sz)/\W1.cell? ⟨wr.heap.size,5,none⟩=some (.int .i64 a.v):=by simp [World.cell?,k1,Ac.cs]
   have MA:=HA.out.own.lt
   obtain⟨b,sa,sc,g0,l0,p0,g1,l1,p1,g2,l2,p2,so,sn,sp,kp,hE⟩:=HA.out.eng
   have acR:=hdd (Qo (a:=a) (hE.below hb1 aI) (fun q hq=>by
    have h1:=HA.out.lt
    rcases hq with hq|hq
    ·omega
    ·have:=(MA q hq).2;omega) (.inl rfl) (by have:=HL.out;omega) Zj.out (sy.out.below (Below.trans' HA.out.below hb1 HA.out.below.size)))
   have CE:=hdd hb1
   have OJ:=hdd hz1
   have HON:=hdd MA
   rw [<-hW1]
   obtain⟨qb,Oy⟩:=bw (wr.heap.size)
   rw [Oy]at x0 x1 x2 x3 x4 x5 ⊢
   clear hE MA hW1 hb1 k1 hz1 Oy c0 c1 c2 c3 c4 c5 kS
   go_wp2_with (first
    |(go_at_call 54;(with_reducible refine acR.out.mono ?_);rintro e w2 ⟨q,rfl,hq,ht,he,hr⟩;have nJ:=hdd (aM hq (aM ht (aM he hr)));have agj:gb+1<=w2.heap.size:=(by have h1:=ht.size;have h2:=HA.out.lt;have h3:=OJ.out;omega);have Z4:dZ (gb+1) w2 (.slice oa qs.length oc) qs:=(HA.out.own.block fun g hg=>(ht.block g (by have:=(HON.out g hg).2;have:=OJ.out;omega) (by have:=(HON.out g hg).1;omega)).trans (CE.out.block g (HON.out g hg).2));clear hq ht he hr)
    |(at_builtin;refine tZ rfl (.tmp 22) (.tmp 26) rfl (gb+1) _ qs rfl (Z4.alloc _) ⟨_,0,none⟩ q rfl (fun j u h=>QI h) (by have:=HL.out;have:=HQL.out;omega) (by simp;omega) ?_;intro v4 w4 BP hg4 hv4))
   go_roundg (xs.length-(k+1))
   case measure=>omega
   case rel=>exact⟨k+1,af,rfl,by go_num,hdd ⟨_,HA.out.step hlt Zy.out (by have:=HL.out;omega) CE.out nJ.out.1 nJ.out.2.1 nJ.out.2.2.1 nJ.out.2.2.2 (Below.alloc (aJ _ _) aI _) BP hg4 hv4⟩⟩
  ·obtain rfl:k=xs.length:=af
   obtain⟨b,sa,sc,g0,l0,p0,g1,l1,p1,g2,l2,p2,so,sn,sp,kp,hE⟩:=hA.eng
   obtain⟨e0,e1,e2,e3,e4,e5,e6,e7,-⟩:=hE.cells
   have RI:=hdd (oH (hE.base wr (Only.refl _ _)))
   have HA:=hdd hA
   have HI:=hdd hE.is
   clear hE hA
   have k0:=HA.out.res
   have UE:=hdd (fun W (hb:ah wr W)=>(hb.block w.heap.size (by have:=HA.out.lo;have:=HA.out.lt;omega)).trans k0)
   go_upto_region 10 with (fail)
   clear k0
   go_wp2_with (go_at_call 40;(with_reducible refine RI.out.mono ?_);rintro e w5 ⟨cx,ya,yc,z0,m0,q0,z1,m1,q1,z2,m2,q2,rfl,-,-,-,-,-,-,ku⟩;have k5:=UE.out _ cx;obtain⟨r0,r1,r2,r3,r4,r5,r6,r7,rf⟩:=gQ k5;have CO:=hdd (aM cx ku);clear cx ku k5)
   obtain⟨V,hV⟩:=bQ (((((((((w5.setCell ⟨w.heap.size,0,none⟩ (.slice ya b.names.length yc)).setCell ⟨w.heap.size,1,none⟩ (.slice z0 m0 q0)).setCell ⟨w.heap.size,2,none⟩ (.int .i64 b.t0.root)).setCell ⟨w.heap.size,3,none⟩ (.slice z1 m1 q1)).setCell ⟨w.heap.size,4,none⟩ (.int .i64 b.t1.root)).setCell ⟨w.heap.size,5,none⟩ (.slice z2 m2 q2)).setCell ⟨w.heap.size,6,none⟩ (.int .i64 b.t2.root)).setCell ⟨w.heap.size,7,none⟩ (.int .i64 b.floor)))
   have P7:ah w V:=by rw [hV];exact cF (Below.trans' HA.out.below CO.out.1 HA.out.below.size) aI _ _ _ _ _ _ _ _
   have XF:aP (wr.heap.size+2) w5 V:=by rw [hV];exact rT (by have:=HA.out.lo;have:=HA.out.lt;omega) _ _ _ _ _ _ _ _
   have hbk:∀g,gb<g->g<wr.heap.size->V.heap[g]?=wr.heap[g]?:=fun g h1 h2=>by
    rw [hV,fo (by have:=HA.out.lo;omega)]
    exact CO.out.1.block g h2
   have kV:V.heap[w.heap.size]?=some (.cells #[.slice ya b.names.length yc, .slice z0 m0 q0, .int .i64 b.t0.root, .slice z1 m1 q1, .int .i64 b.t1.root, .slice z2 m2 q2, .int .i64 b.t2.root, .int .i64 b.floor] 35):=by rw [hV];exact jd (UE.out _ CO.out.1)
   have kN:=hdd (show yq xs w (.returned (.tuple #[.slice oa qs.length oc, .agg (aH ya b.names.length yc z0 m0 q0 z1 m1 q1 z2 m2 q2 b), .int .i64 0])) V from
    ⟨P7,oa,oc,qs,b,ya,yc,z0,m0,q0,z1,m1,q1,z2,m2,q2,rfl,by rw [HA.out.an,List.take_length],(HA.out.own.block fun g hg=>hbk g (by have:=(HA.out.own.lt g hg).1;omega) (HA.out.own.lt g hg).2).mono (by have:=HA.out.lo;omega),
     fun q hq=>((HA.out.rows q hq).1.block fun g hg=>hbk g (by have:=((HA.out.rows q hq).1.lt g hg).1;omega) ((HA.out.rows q hq).1.lt g hg).2).mono (by have:=HA.out.lo;omega),
     fun w'' hw=>CO.out.2 w'' (XF.trans (hw.mono (by have:=HA.out.lo;have:=HA.out.lt;omega))),by have h:=HI.out;rw [List.take_length]at h;exact h,HA.out.ok⟩)
   obtain⟨r0',Z1,r2',r3',r4',r5',r6',r7',-⟩:=gQ kV
   rw [<-hV]
   clear hV P7 XF hbk kV r0 r1 r2 r3 r4 r5 r6 r7 rf e0 e1 e2 e3 e4 e5 e6 e7
   exact bodyPost_ret (v:= .tuple #[.slice oa qs.length oc, .agg (aH ya b.names.length yc z0 m0 q0 z1 m1 q1 z2 m2 q2 b), .int .i64 0]) (by simp [results,Tryd.results28,aH,go_sem, *]) rfl kN.out
end
end Go.Proofs.YtmljjfhgciaceaaDoor
namespace Go.Proofs.YtmljjfhgciaceaaDoor
section
variable {a:Ac} {s:ByteArray} {m:Mo} {x:St}
def pB (r:Rw):Ac:=
 if picked r.c 16=0 then⟨2,(km r).s,picked r.a 6000,picked r.a 6000+picked r.b 9000,aR (picked r.b 3).toNat,0⟩
 else if picked r.c 16<3 then⟨3,(km r).s,picked r.a 6000,picked r.a 6000+picked r.b 9000,0,0⟩
 else if picked r.c 16=3/\picked r.a 4=0 then⟨4,ByteArray.empty,3600*picked r.b 3,0,0,0⟩
 else if picked r.c 16=4 then⟨5,ByteArray.empty,0,0,0,0⟩
 else if picked r.c 16=5/\picked r.a 3=0 then⟨6,ByteArray.empty,0,0,0,0⟩
 else⟨1,(km r).s,(km r).t,0,0,(km r).v⟩
def tS (a:Ac):Prop:=
 (a.k=1/\a.s∈iH/\0<=a.t/\a.t<12000/\-1000<=a.v/\a.v<1000)\/a.k=2\/a.k=3\/(a.k=4/\(a.t=0\/a.t=3600\/a.t=7200))\/a.k=5\/a.k=6
theorem Bu (r:Rw):tS (pB r):=by
 unfold pB
 split
 ·exact .inr (.inl rfl)
 ·split
  ·exact .inr (.inr (.inl rfl))
  ·split
   ·have h:=cX (n:=r.b) (m:=3) aW
    refine .inr (.inr (.inr (.inl ⟨rfl,?_⟩)))
    show 3600*picked r.b 3=0\/3600*picked r.b 3=3600\/3600*picked r.b 3=7200
    omega
   ·split
    ·exact .inr (.inr (.inr (.inr (.inl rfl))))
    ·split
     ·exact .inr (.inr (.inr (.inr (.inr rfl))))
     ·exact .inl ⟨rfl,AX r⟩
theorem Le (k:Nat):aR k=1\/aR k=60\/aR k=3600:=by
 unfold aR;split
 ·exact .inl rfl
 ·split
  ·exact .inr (.inl rfl)
  ·exact .inr (.inr rfl)
structure lM (m:Mo):Prop where
 nm:∀s∈m.ns,s∈iH
 nd:m.ns.Nodup
 f0:0<=m.fl
 f1:m.fl<=7200
 early:∀e∈m.L,e.key%1048576<14400
theorem lM.zero:lM Mo.zero:=⟨fun _ h=>(by cases h),List.Pairwise.nil,aW,aW,fun _ h=>(by cases h)⟩
theorem lM.few (h:lM m):m.ns.length<=4:=by
 exact iZ (m:=iH) h.nd h.nm
theorem PC {L:List aA} {x e:aA} (h:e∈ins L x):e.key=x.key\/∃y∈L,e.key=y.key:=by
 induction L with
 |nil=>simp [ins]at h;exact .inl (by rw [h])
 |cons y l ih=>
  unfold ins at h
  split at h
  ·rcases fc.1 h with rfl|h
   ·exact .inr ⟨_,bq,rfl⟩
   ·rcases ih h with h|⟨z,hz,h⟩
    ·exact .inl h
    ·exact .inr ⟨z,by simp [hz],h⟩
  ·split at h
   ·rcases fc.1 h with rfl|h
    ·exact .inl rfl
    ·exact .inr ⟨e,by simp [h],rfl⟩
   ·rcases fc.1 h with rfl|h
    ·exact .inl rfl
    ·exact .inr ⟨e,h,rfl⟩
theorem lM.add {t v:Int} (h:lM m) (hs:s∈iH) (h0:0<=t) (h1:t<14400):lM (m.add s t v):=by
 refine⟨fun x hx=>?_,qG h.nd,h.f0,h.f1,fun e he=>?_⟩
 ·rcases fV.1 hx with hx|rfl
  ·exact h.nm x hx
  ·exact hs
 ·rcases PC he with he|⟨y,hy,he⟩
  ·rw [he];simp only;omega
  ·rw [he];exact h.early y hy
theorem lM.exp {t:Int} (h:lM m) (h0:t=0\/t=3600\/t=7200):lM (m.exp t):=
 ⟨h.nm,h.nd,by show 0<=t;omega,by show t<=7200;omega,fun e he=>h.early e (js.1 he).1⟩
theorem lM.act (h:lM x.m/\lM x.s) (ha:tS a):lM (fB x a).m/\lM (fB x a).s:=by
 unfold fB
 split
 ·rename_i hk
  split
  ·rcases ha with ⟨-,h1,h2,h3,-⟩|h1|h1|⟨h1,-⟩|h1|h1
   ·exact⟨h.1.add h1 h2 af,h.2⟩
   all_goals omega
  ·exact h
 ·split
  ·rename_i hk
   split
   ·rcases ha with ⟨h1,-⟩|h1|h1|⟨-,h1⟩|h1|h1
    ·omega
    ·omega
    ·omega
    ·exact⟨h.1.exp h1,h.2⟩
    all_goals omega
   ·exact h
  ·split
   ·exact⟨h.1,h.1⟩
   ·split
    ·exact⟨h.2,h.2⟩
    ·exact h
theorem lM.run {l:List Ac}:∀{x:St},lM x.m/\lM x.s->(∀a∈l,tS a)->lM (iC x l).m/\lM (iC x l).s:=by
 induction l with
 |nil=>intro x h _;exact h
 |cons a l ih=>intro x h ha;exact ih (lM.act h (ha a bq)) fun b hb=>ha b (by simp [hb])
theorem lM.takes {t v:Int} (h:lM m) (hs:s∈iH) (h0:m.fl<=t) (h1:t<=1048575) (h2 : -1000000<=v) (h3:v<=1000000):m.jL s t v=0:=by
 have hf:=h.few
 have h00:=h.f0
 unfold Mo.jL
 have hr:(eJ t v).2=0:=by unfold eJ;rw [ar ⟨af,h1,h2,h3⟩]
 rw [ai (by simp [(A7 s hs).1]),ai (iF hr),ai af,ai af]
theorem NN (h:a.k=2\/a.k=3):fB x a=x:=by
 unfold fB
 rw [ai af,ai af,ai af,ai af]
theorem Qn {t v:Int} (h:m.jL s t v=0):dG s=true/\0<=t/\t<=1048575/\-1000000<=v/\v<=1000000/\m.fl<=t/\(aG m.ns s<0->m.ns.length<16):=by
 unfold Mo.jL at h
 split at h
 ·cases h
 rename_i h1
 split at h
 ·rename_i h2;exact absurd h h2
 rename_i h2
 split at h
 ·cases h
 rename_i h3
 split at h
 ·cases h
 rename_i h4
 have h2:(eJ t v).2=0:=Decidable.not_not.1 h2
 unfold eJ at h2
 split at h2
 ·rename_i hr
  exact⟨by simpa using h1,hr.1,hr.2.1,hr.2.2.1,hr.2.2.2,af,fun hp=>af⟩
 ·cases h2
end
section
variable {a:Ac} {s z s':Int} {P:List r9} {x:St}
theorem LH {lO:List r9} {ns:List ByteArray} {s:ByteArray} {a:Int} (hm:∀p∈lO,p.s∈ns) (hs:s∈ns) (hp:∀p∈lO,NT p) (ha:0<=a) (hz:z<=1048575):eF (jJ (lO.map (mh ns))) (aG ns s) a (z+1)=Ge lO s a z:=by
 have hg:aT (lO.map (mh ns)):=fun e he=>by
  obtain⟨p,Mz,rfl⟩:=lI.1 he
  exact(cj (nS (hp p Mz)) (by show (1:Int)≠0;decide)).1
 have WM:=fun(q:Int->Bool)=>(show aT ((lO.map (mh ns)).filter fun e=>q e.key)from fun e he=>hg e (js.1 he).1)
 unfold eF
 have e1:aU (aG ns s*1048576+a) (aG ns s*1048576+(z+1))=fun e:aA=>(fun k:Int=>decide (aG ns s*1048576+a<=k) && decide (k<aG ns s*1048576+(z+1))) e.key:=rfl
 rw [e1,tJ hg (fun k:Int=>decide (aG ns s*1048576+a<=k) && decide (k<aG ns s*1048576+(z+1))),xg (show aT ((lO.map (mh ns)).filter fun e=>decide (aG ns s*1048576+a<=e.key) && decide (e.key<aG ns s*1048576+(z+1)))from WM fun k=>decide (aG ns s*1048576+a<=k) && decide (k<aG ns s*1048576+(z+1)))]
 have e2:(lO.map (mh ns)).filter (fun e:aA=>(fun k:Int=>decide (aG ns s*1048576+a<=k) && decide (k<aG ns s*1048576+(z+1))) e.key)=(lO.filter (Gl s a z)).map (mh ns):=by
  rw [List.filter_map]
  congr 1
  refine List.filter_congr fun p Mz=>?_
  have hk:=hp p Mz
  have hin:=hm p Mz
  have hpos:=eU.2 hin
  have adk:=eU.2 hs
  obtain⟨k1,k2,-,-⟩:=hk
  simp only [Function.comp,mh,Gl]
  by_cases hps:p.s=s
  ·subst hps
   rw [Bool.eq_iff_iff];simp;omega
  ·have hne:aG ns p.s≠aG ns s:=fun e=>hps (JA hin e)
   rw [Bool.eq_iff_iff]
   simp only [Bool.and_eq_true,sk]
   refine⟨fun⟨h1,h2⟩=>?_,fun h1=>absurd h1.1.1 hps⟩
   have h1:=iX h1
   have h2:=iX h2
   omega
 rw [e2]
 have e3:=vZ (s:=s) (a:=a) (z:=z) (ns:=ns) (ps:=lO) (r:=au.zero) rZ (fun p Mz=> .inr (cj (nS (hp p Mz)) (by show (1:Int)≠0;decide)).1)
 unfold Ge
 rw [e3,eH (cg fun e he=>by
  obtain⟨p,Mz,rfl⟩:=lI.1 he
  exact .inr (cj (nS (hp p (js.1 Mz).1)) (by show (1:Int)≠0;decide)).1)]
noncomputable def Fu:St->List Ac->List r9
 |_,[]=>[]
 |x,a::l=>(if a.k=1/\(iq x a).code=0 then [⟨a.s,a.t,a.v⟩]else [])++Fu (fB x a) l
theorem Nv (h:a.k=1):(iq x a).code=x.m.jL a.s a.t a.v:=by unfold iq;rw [ar h]
structure CL (x:St) (P:List r9):Prop where
 ns:x.m.ns=(P.map r9.s).foldl dB []
 mem:∀p∈P,p.s∈x.m.ns
 ok:∀p∈P,NT p
 L:x.m.L=jJ ((P.filter fun p=>decide (x.m.fl<=p.t)).map (mh x.m.ns))
theorem CL.zero:CL St.zero []:=⟨rfl,fun _ h=>(by cases h),fun _ h=>(by cases h),rfl⟩
theorem Ju {ns:List ByteArray} (h:∀p∈P,NT p):aT (P.map (mh ns)):=fun e he=>by
 obtain⟨p,hp,rfl⟩:=lI.1 he
 exact(cj (nS (h p hp)) (by show (1:Int)≠0;decide)).1
theorem CL.put (h:CL x P) (hk:a.k=1) (h0:x.m.jL a.s a.t a.v=0):CL (fB x a) (P++[⟨a.s,a.t,a.v⟩]):=by
 have e:fB x a=⟨x.m.add a.s a.t a.v,x.s⟩:=by unfold fB;rw [ar hk,ar h0]
 obtain⟨-,p0,p1,p2,p3,p4,-⟩:=Qn h0
 rw [e]
 refine⟨?_,fun p hp=>?_,fun p hp=>?_,?_⟩
 ·show dB x.m.ns a.s=_
  rw [tL,List.foldl_append,<-h.ns];rfl
 ·show p.s∈dB x.m.ns a.s
  rcases kI.1 hp with hp|hp
  ·exact fV.2 (.inl (h.mem p hp))
  ·rw [nB.1 hp];exact fV.2 (.inr rfl)
 ·rcases kI.1 hp with hp|hp
  ·exact h.ok p hp
  ·rw [nB.1 hp];exact⟨p0,p1,p2,p3⟩
 ·show ins x.m.L _=jJ (((P++[(⟨a.s,a.t,a.v⟩:r9)]).filter fun p=>decide (x.m.fl<=p.t)).map (mh (dB x.m.ns a.s)))
  rw [sw,tL]
  have e1:([⟨a.s,a.t,a.v⟩]:List r9).filter (fun p=>decide (x.m.fl<=p.t))=[⟨a.s,a.t,a.v⟩]:=by simp [p4]
  have e2:(P.filter fun p=>decide (x.m.fl<=p.t)).map (mh (dB x.m.ns a.s))=(P.filter fun p=>decide (x.m.fl<=p.t)).map (mh x.m.ns):=
   List.map_congr_left fun p hp=>Bl (h.mem p (js.1 hp).1)
  rw [e1,e2,List.map_cons,List.map_nil,EM,<-h.L]
  rfl
theorem Kb {ns:List ByteArray} {p:r9} (h:NT p):(mh ns p).key%1048576=p.t:=by
 have h1:=h.1
 have h2:=h.2.1
 show (aG ns p.s*1048576+p.t)%1048576=p.t
 omega
theorem CL.exp (h:CL x P) (hk:a.k=4) (h0:x.m.wj a.t=0):CL (fB x a) P:=by
 have e:fB x a=⟨x.m.exp a.t,x.s⟩:=by unfold fB;rw [ai af,ar hk,ar h0]
 have hfl:x.m.fl<=a.t:=by
  unfold Mo.wj at h0
  split at h0
  ·cases h0
  split at h0
  ·cases h0
  split at h0
  ·cases h0
  omega
 rw [e]
 refine⟨h.ns,h.mem,h.ok,?_⟩
 show x.m.L.filter (bM a.t)=jJ ((P.filter fun p=>decide (a.t<=p.t)).map (mh x.m.ns))
 have hg:aT ((P.filter fun p=>decide (x.m.fl<=p.t)).map (mh x.m.ns)):=Ju fun p hp=>h.ok p (js.1 hp).1
 have hy:bM a.t=fun e:aA=>(fun k:Int=>decide (a.t<=k%1048576)) e.key:=rfl
 rw [h.L,hy,tJ hg fun k:Int=>decide (a.t<=k%1048576)]
 congr 1
 rw [List.filter_map,List.filter_filter]
 congr 1
 refine List.filter_congr fun p hp=>?_
 have ht:=Kb (ns:=x.m.ns) (h.ok p hp)
 simp only [Function.comp]
 rw [ht,Bool.eq_iff_iff]
 simp only [Bool.and_eq_true,sk]
 omega
theorem CL.act (h:CL x P) (hk:a.k≠5/\a.k≠6):CL (fB x a) (P++(if a.k=1/\(iq x a).code=0 then [⟨a.s,a.t,a.v⟩]else [])):=by
 by_cases h1:a.k=1
 ·have hc:=Nv (x:=x) h1
  by_cases h0:x.m.jL a.s a.t a.v=0
  ·rw [ar ⟨h1,by rw [hc];exact h0⟩]
   exact h.put h1 h0
  ·rw [ai (fun hn=>h0 (hc▸hn.2)),nM]
   have e:fB x a=x:=by unfold fB;rw [ar h1,ai h0]
   rw [e];exact h
 ·rw [ai (fun hn=>h1 hn.1),nM]
  by_cases h4:a.k=4
  ·by_cases h0:x.m.wj a.t=0
   ·exact h.exp h4 h0
   ·have e:fB x a=x:=by unfold fB;rw [ai h1,ar h4,ai h0]
    rw [e];exact h
  ·have e:fB x a=x:=by unfold fB;rw [ai h1,ai h4,ai hk.1,ai hk.2]
   rw [e];exact h
theorem CL.run {l:List Ac}:∀{x:St} {P:List r9},CL x P->(∀a∈l,a.k≠5/\a.k≠6)->CL (iC x l) (P++Fu x l):=by
 induction l with
 |nil=>intro x P h _;simpa [Fu,iC] using h
 |cons a l ih=>
  intro x P h hk
  have:=ih (h.act (hk a bq)) fun b hb=>hk b (by simp [hb])
  rw [jn]at this
  exact this
theorem Ng {xs:List ByteArray}:∀{ns:List ByteArray} {s:ByteArray},s∈xs.foldl dB ns↔s∈ns\/s∈xs:=by
 induction xs with
 |nil=>intro ns s;simp
 |cons x xs ih=>
  intro ns s
  rw [List.foldl_cons,ih,fV]
  constructor
  ·rintro((h|h)|h)
   ·exact .inl h
   ·exact .inr (by simp [h])
   ·exact .inr (by simp [h])
  ·rintro(h|h)
   ·exact .inl (.inl h)
   ·rcases fc.1 h with h|h
    ·exact .inl (.inr h)
    ·exact .inr h
theorem CL.any (h:CL x P) (s:ByteArray):s∈x.m.ns↔∃p∈P,p.s=s:=by
 rw [h.ns,Ng]
 constructor
 ·rintro(h|h)
  ·cases h
  ·obtain⟨p,h1,h2⟩:=lI.1 h
   exact⟨p,h1,h2⟩
 ·rintro⟨p,h1,h2⟩
  exact .inr (lI.2 ⟨p,h1,h2⟩)
theorem CL.total (h:CL x P) {s:ByteArray} {a:Int} (hr:cO a z) :
  (s∉x.m.ns->x.m.pJ s a z=6)/\(s∈x.m.ns->x.m.pJ s a z=0/\x.m.KP s a z=Ge (P.filter fun p=>decide (x.m.fl<=p.t)) s a z):=by
 refine⟨fun hs=>?_,fun hs=>?_⟩
 ·have hp:aG x.m.ns s<0:=by
   have:¬0<=aG x.m.ns s:=fun h'=>hs (eU.1 h')
   omega
  have e:x.m.uj s=6:=ar hp
  unfold Mo.pJ
  rw [e,ar aW]
 ·have hp:=eU.2 hs
  have e:x.m.uj s=0:=ai af
  have e2:x.m.pJ s a z=0:=by unfold Mo.pJ;rw [e,ai aW,ai (iF hr)]
  refine⟨e2,?_⟩
  unfold Mo.KP
  rw [ar e2,h.L]
  exact LH (fun p hp=>h.mem p (js.1 hp).1) hs (fun p hp=>h.ok p (js.1 hp).1) hr.1 hr.2.2
theorem Cr (h:(s=1/\s'=60)\/(s=60/\s'=3600)) (e:aA):bucket s' (bucket s e)=bucket s' e:=by
 rcases h with ⟨rfl,rfl⟩|⟨rfl,rfl⟩
 ·rw [nz]
 ·unfold bucket
  simp only [aA.mk.injEq,and_true]
  have h1:(e.key-e.key%1048576%60)/1048576=e.key/1048576:=af
  have h2:(e.key-e.key%1048576%60)%1048576=e.key%1048576-e.key%1048576%60:=af
  rw [h2]
  omega
theorem BZ (hs:s=1\/s=60\/s=3600) (p:Int) (e:aA):kr p 0 1048575 (bucket s e)=kr p 0 1048575 e:=by
 unfold kr UR bucket
 rw [Bool.eq_iff_iff]
 simp only [Bool.and_eq_true,sk]
 rcases hs with rfl|rfl|rfl <;> omega
theorem yE {L:List aA} (hg:aT L) (h:(s=1/\s'=60)\/(s=60/\s'=3600)) (p:Int):(qo L s' p 0 1048575).length<=(qo L s p 0 1048575).length:=by
 have hg1:aT (L.map (bucket s)):=fun e he=>by obtain⟨x,hx,rfl⟩:=lI.1 he;exact hg x hx
 have hg2:aT (L.map (bucket s')):=fun e he=>by obtain⟨x,hx,rfl⟩:=lI.1 he;exact hg x hx
 have hb:jJ (L.map (bucket s'))=jJ ((jJ (L.map (bucket s))).map (bucket s')):=by
  have e1:=I2 (f:=bucket s') (wu s') (zK s') (m:=[]) (l:=L.map (bucket s)) (fun _ h=>by cases h) hg1
  rw [nM,List.map_map]at e1
  have e2:(bucket s'∘bucket s)=bucket s':=funext fun e=>Cr h e
  rw [e2]at e1
  exact(Nh e1).symm
 have hg3:aT ((jJ (L.map (bucket s))).map (bucket s')):=fun e he=>by obtain⟨x,hx,rfl⟩:=lI.1 he;exact dh hg1 x hx
 have hi:kr p 0 1048575=fun e:aA=>(fun k:Int=>decide (k/1048576=p) && UR (k%1048576) 0 1048575) e.key:=rfl
 unfold qo
 rw [nA,nA,hb]
 have e3:(jJ ((jJ (L.map (bucket s))).map (bucket s'))).filter (kr p 0 1048575)=jJ (((jJ (L.map (bucket s))).map (bucket s')).filter (kr p 0 1048575)):=by
  rw [hi];exact tJ hg3 fun k:Int=>decide (k/1048576=p) && UR (k%1048576) 0 1048575
 rw [e3,List.filter_map]
 have e4:(kr p 0 1048575∘bucket s')=kr p 0 1048575:=funext fun e=>BZ (by rcases h with ⟨-,h⟩|⟨-,h⟩ <;> omega) p e
 rw [e4]
 have h2:=@uZ (((jJ (L.map (bucket s))).filter (kr p 0 1048575)).map (bucket s')) []
 simp only [List.length_nil,iM,nA]at h2
 exact h2
theorem Lr {ns:List ByteArray} {fl:Int} {L:List aA} (h:Fit ns fl L) (hT:∀e∈L,e.key%1048576<14400) {k:Nat} (hk:k<3) (p:Int):aN (qo L (aR k) p 0 1048575)=eF L p 0 1048576:=by
 have h3:(14400:Int)%aR k=0:=by
  obtain rfl|rfl|rfl:k=0\/k=1\/k=2:=af
  all_goals decide
 rw [<-Jw hT p 0 aW,<-qP h.good (h.rolled k) aW aW bq h3]
 unfold qo
 rw [xe (f:=rowOf) fun _=>rfl]
 congr 1
 refine List.filter_congr fun e he=>?_
 obtain⟨h1,-⟩:=tA (gJ k) hT he
 unfold kr aU UR
 rw [Bool.eq_iff_iff]
 simp only [Bool.and_eq_true,sk]
 omega
end
end Go.Proofs.YtmljjfhgciaceaaDoor
