/- Texts of mine that come as one: MoP EngA EngQ DecI RowsE Clones Act Run TopP TopQ. -/
import Derived.Test.YtmljjfhgciaceaaDoorHd
import Derived.Test.YtmljjfhgciaceaaDoorMD
import Derived.Test.YtmljjfhgciaceaaDoorKC
import Derived.Test.YtmljjfhgciaceaaDoorEX
import Derived.Test.YtmljjfhgciaceaaDoorKE
import Derived.Test.YtmljjfhgciaceaaDoorKD
import Derived.Test.YtmljjfhgciaceaaDoorTG
import Derived.Test.YtmljjfhgciaceaaDoorBG
import Derived.Test.YtmljjfhgciaceaaDoorPS
import Derived.Test.YtmljjfhgciaceaaDoorKG
import Derived.Test.YtmljjfhgciaceaaDoorDK
import Derived.Maps.AppendAt
import Derived.Test.YtmljjfhgciaceaaDoorBK
import Derived.Test.YtmljjfhgciaceaaDoorSO
import Derived.Deep.CutBlock
namespace Go.Proofs.YtmljjfhgciaceaaDoor
section
variable {b:Ba} {N M:Nat}
structure Mo where
 ns:List ByteArray
 fl:Int
 L:List aC
def Mo.zero:Mo:=⟨[],0,[]⟩
structure Ac where
 k:Int
 s:ByteArray
 t:Int
 z:Int
 sz:Int
 v:Int
structure An where
 code:Int
 is:aw
 rows:List aC
noncomputable def Mo.ny (m:Mo) (s:ByteArray) (t v:Int):Int:=
 if dL s=false then 4 else if (fF t v).2≠0 then(fF t v).2 else if t<m.fl then 8 else if aS m.ns s<0/\16<=m.ns.length then 1 else 0
def Mo.add (m:Mo) (s:ByteArray) (t v:Int):Mo:=⟨fU m.ns s,m.fl,ins m.L ⟨aS (fU m.ns s) s*1048576+t,⟨1,v,v,v,t,v⟩⟩⟩
def Mo.yY (m:Mo) (s:ByteArray):Int:=if aS m.ns s<0 then 6 else 0
def Mo.eQ (m:Mo) (s:ByteArray) (n a z:Int):Int:=if m.yY s≠0 then m.yY s else if n≠1/\n≠60/\n≠3600 then 3 else if ¬cT a z then 2 else 0
def Mo.rows (m:Mo) (s:ByteArray) (n a z:Int):List aC:=if m.eQ s n a z=0 then QO m.L n (aS m.ns s) a z else []
def Mo.yR (m:Mo) (s:ByteArray) (a z:Int):Int:=if m.yY s≠0 then m.yY s else if ¬cT a z then 2 else 0
def Mo.QL (m:Mo) (s:ByteArray) (a z:Int):aw:=if m.yR s a z=0 then fL m.L (aS m.ns s) a (z+1)else aw.zero
def Mo.A5 (m:Mo) (t:Int):Int:=if ¬(0<=t/\t<=1048575)then 2 else if t%3600≠0 then 4 else if t<m.fl then 8 else 0
def Mo.exp (m:Mo) (t:Int):Mo:=⟨m.ns,t,m.L.filter (cx t)⟩
def Mo.bytes (m:Mo):List Int:=dz m.ns m.fl m.L++ju (dz m.ns m.fl m.L)
structure Mo.Ok (m:Mo) (N:Nat):Prop where
 fit:Fit m.ns m.fl m.L
 fH:fH m.L<=N
structure Is (b:Ba) (m:Mo) (N:Nat):Prop where
 st:FK b m.L N
 ns:b.names=m.ns
 fl:b.floor=m.fl
theorem Mo.Ok.mono {m:Mo} (h:m.Ok N) (hN:N<=M):m.Ok M:=⟨h.fit,by have:=h.fH;omega⟩
theorem Mo.Ok.len {m:Mo} (h:m.Ok N):m.L.length<=N:=by
 have h1:=DW h.fit.good.1.bQ
 have h2:=h.fH
 omega
theorem Mo.IK (N:Nat):Mo.zero.Ok N:=by
 refine⟨⟨?_,?_,?_,?_,?_,?_,⟨?_,?_,?_⟩,?_,?_,?_⟩,?_⟩ <;> simp [Mo.zero,aT,Checked,Go.Proofs.YtmljjfhgciaceaaDoor.fH]
theorem Is.mono {m:Mo} (h:Is b m N) (hN:N<=M):Is b m M:=
 ⟨⟨h.st.may,h.st.book,fun k hk=>by have:=h.st.wt k hk;omega,by have:=h.st.fH;omega⟩,h.ns,h.fl⟩
theorem Is.kn {m:Mo} (h:Is b m N):Kn b m.L N:=h.st.kn
theorem Is.ok {m:Mo} (h:Is b m N) (hN:N<=2900):m.Ok N:=by
 have hb:=dH h.st.may
 have hg:=h.st.bQ
 have hl:=h.kn.len
 have hbk:=(lC h.st.book).2
 have hc:=h.st.fH
 refine⟨⟨by rw [<-h.ns];exact hb.n16,fun s hs=>?_,?_,by rw [<-h.fl];exact⟨hb.Y9,hb.XC⟩,by rw [<-h.fl];exact hb.fl2,hg.1,hg.2,af,af,fun e he=>?_⟩,hc⟩
 ·rw [<-h.ns]at hs
  obtain⟨i,hi,rfl⟩:=kU hs
  exact(hb.names i hi).1
 ·rw [<-h.ns]
  exact py.2 fun i j hi hj hij=>(hb.names j hj).2 i hij
 ·have:=nK.1 hbk e he
  simp [jn]at this
  rw [h.ns,h.fl]at this
  exact⟨this.1.1,this.1.2,this.2⟩
theorem Is.UN {m:Mo} (h:Is b m N) (s:ByteArray):bV b s=m.yY s:=by
 unfold bV Mo.yY
 rw [ar h.st.may,h.ns]
theorem Is.Pg {m:Mo} (h:Is b m N) (hN:N<=500) (s:ByteArray) (n a z:Int):Go.Proofs.YtmljjfhgciaceaaDoor.eQ b s n a z=m.eQ s n a z/\nR b s n a z=m.rows s n a z:=by
 by_cases h1:m.yY s≠0
 ·have he:=pI (b:=b) (s:=s) (n:=n) (a:=a) (z:=z) (by rw [h.UN];exact h1)
  rw [h.UN]at he
  have e1:m.eQ s n a z=m.yY s:=ar h1
  exact⟨he.1.trans e1.symm,by unfold Mo.rows;rw [e1,ai h1];exact he.2⟩
 ·have h1':m.yY s=0:=Decidable.not_not.1 h1
  have hs:bV b s=0:=(h.UN s).trans h1'
  by_cases h2:n≠1/\n≠60/\n≠3600
  ·have he:=za (a:=a) (z:=z) hs h2
   have e1:m.eQ s n a z=3:=by unfold Mo.eQ;rw [ai h1,ar h2]
   exact⟨he.1.trans e1.symm,by unfold Mo.rows;rw [e1];exact he.2⟩
  ·obtain⟨k,hk,hn⟩:∃k,k<3/\n=aQ k:=by
    rcases xh n with ⟨k,hk,e,-⟩|⟨g1,g2,g3,-⟩
    ·exact⟨k,hk,e⟩
    ·exact absurd ⟨g1,g2,g3⟩ h2
   by_cases h3:cT a z
   ·have hp:0<=aS b.names s:=by
     rcases h.kn.Cq s with ⟨-,g⟩|⟨g,-⟩
     ·omega
     ·exact g
    obtain⟨g1,g2⟩:=h.kn.rows hN hp hk h3
    subst hn
    have e1:m.eQ s (aQ k) a z=0:=by unfold Mo.eQ;rw [ai h1,ai h2,ai (jo h3)]
    exact⟨g1.trans e1.symm,by unfold Mo.rows;rw [ar e1,g2,h.ns];rfl⟩
   ·have he:=xq hs hk hn h3
    have e1:m.eQ s n a z=2:=by unfold Mo.eQ;rw [ai h1,ai h2,ar h3]
    exact⟨he.1.trans e1.symm,by unfold Mo.rows;rw [e1];exact he.2⟩
theorem Is.VD {m:Mo} (h:Is b m N) (hN:N<=1000000) (s:ByteArray) (a z:Int):mh b s a z=m.yR s a z/\mf b s a z=m.QL s a z:=by
 by_cases h1:m.yY s≠0
 ·have he:=pG (b:=b) (s:=s) (a:=a) (z:=z) (by rw [h.UN];exact h1)
  rw [h.UN]at he
  have e1:m.yR s a z=m.yY s:=ar h1
  exact⟨he.1.trans e1.symm,by unfold Mo.QL;rw [e1,ai h1];exact he.2⟩
 ·have hs:bV b s=0:=(h.UN s).trans (Decidable.not_not.1 h1)
  by_cases h3:cT a z
  ·have hp:0<=aS b.names s:=by
    rcases h.kn.Cq s with ⟨-,g⟩|⟨g,-⟩
    ·omega
    ·exact g
   obtain⟨g1,g2⟩:=h.kn.total hN hp h3
   have e1:m.yR s a z=0:=by unfold Mo.yR;rw [ai h1,ai (jo h3)]
   exact⟨g1.trans e1.symm,by unfold Mo.QL;rw [ar e1,g2,h.ns]⟩
  ·have he:=xg hs h3
   have e1:m.yR s a z=2:=by unfold Mo.yR;rw [ai h1,ar h3]
   exact⟨he.1.trans e1.symm,by unfold Mo.QL;rw [e1];exact he.2⟩
theorem Is.Ru {m:Mo} (h:Is b m N) (s:ByteArray) (t v:Int):jw b s t v=m.ny s t v:=by
 unfold jw Mo.ny
 rw [ai (by simp [h.st.may]),h.ns,h.fl]
theorem Is.Rq {m:Mo} (h:Is b m N) (t:Int):nJ b t=m.A5 t/\rz b t=(m.exp t).L:=by
 refine⟨?_,?_⟩
 ·unfold nJ Mo.A5
  rw [ai (by simp [h.st.may]),h.fl]
 ·unfold rz
  rw [h.st.book];rfl
theorem Is.enc {m:Mo} (h:Is b m N) (hN:N<=500):A8 b=0/\A7 b=m.bytes:=by
 have hl:=h.kn.len
 have hg:=h.st.bQ
 have ho:=h.ok af
 have e:jm b m.L=dz m.ns m.fl m.L:=by rw [BS,h.ns,h.fl]
 have hsm:(jm b m.L).length<=30000:=by
  have h1:=uM (last:=0) hg.2 (Int.le_refl 0)
  have h2:=rZ (ns:=b.names) (nV h.st.may)
  have h3:=(dH h.st.may).n16
  have h4:=cg (n:=b.names.length) af
  have h5:=cg (n:=b.floor.toNat) (by have:=(dH h.st.may).XC;omega)
  have h6:=cg (n:=m.L.length) af
  unfold jm
  simp only [dO,gp,List.length_nil]
  omega
 obtain⟨g1,g2⟩:=Ja h.st.may h.st.book af af
 exact⟨g1,by rw [g2,e];rfl⟩
structure St where
 m:Mo
 s:Mo
def St.zero:St:=⟨Mo.zero,Mo.zero⟩
noncomputable def gS (x:St) (a:Ac):St:=
 if a.k=1 then(if x.m.ny a.s a.t a.v=0 then⟨x.m.add a.s a.t a.v,x.s⟩else x)
 else if a.k=4 then(if x.m.A5 a.t=0 then⟨x.m.exp a.t,x.s⟩else x)
 else if a.k=5 then⟨x.m,x.m⟩else if a.k=6 then⟨x.s,x.s⟩else x
noncomputable def kX (x:St) (a:Ac):An:=
 if a.k=1 then⟨x.m.ny a.s a.t a.v,aw.zero,[]⟩
 else if a.k=2 then⟨x.m.eQ a.s a.sz a.t a.z,aw.zero,x.m.rows a.s a.sz a.t a.z⟩
 else if a.k=3 then⟨x.m.yR a.s a.t a.z,x.m.QL a.s a.t a.z,[]⟩
 else if a.k=4 then⟨x.m.A5 a.t,aw.zero,[]⟩
 else if a.k=5\/a.k=6 then⟨0,aw.zero,[]⟩ else⟨3,aw.zero,[]⟩
noncomputable def gK (x:St) (l:List Ac):St:=l.foldl gS x
noncomputable def sy:St->List Ac->List An
 |_,[]=>[]
 |x,a::l=>kX x a::sy (gS x a) l
theorem uj:∀(x:St) (l:List Ac),(sy x l).length=l.length
 |_,[]=>rfl
 |x,a::l=>by rw [sy,gp,gp,uj]
theorem xp:∀(x:St) (l r:List Ac),sy x (l++r)=sy x l++sy (gK x l) r
 |_,[],_=>rfl
 |x,a::l,r=>by rw [List.cons_append,sy,sy,xp];rfl
theorem xn (x:St) (l r:List Ac):gK x (l++r)=gK (gK x l) r:=List.foldl_append
theorem Bu (x:St) (l:List Ac) (a:Ac):sy x (l++[a])=sy x l++[kX (gK x l) a]:=by rw [xp];rfl
theorem rU (x:St) (l:List Ac) (a:Ac):gK x (l++[a])=gS (gK x l) a:=by rw [xn];rfl
end
open Go.RowKit
section
set_option maxRecDepth 100000
variable {B M K yc m0 q0 m1 q1 m2 q2 gb N:Nat} {D E:Nat->Prop} {z0 z1 z2:Option Addr} {x:St} {a0 a1 a2 a3 a4 a5 a6 a7 a8 a9:Value} {w w' W1 W2:World}
abbrev Ac.cs (a:Ac):Array Value:=#[.int .i64 a.k, .string a.s, .int .i64 a.t, .int .i64 a.z, .int .i64 a.sz, .int .i64 a.v]
def pq (a:Ac):List Value:=[.int .i64 a.k, .string a.s, .int .i64 a.t, .int .i64 a.z, .int .i64 a.sz, .int .i64 a.v]
theorem xJ (a:Ac):(pq a).length=6:=rfl
theorem Ab (xs:List Ac):∀u∈xs.flatMap pq,u.oneCell'=true:=by
 intro u hu
 obtain⟨p,_,hp⟩:=List.mem_flatMap.1 hu
 simp only [pq,fk,List.not_mem_nil,or_false]at hp
 rcases hp with rfl|rfl|rfl|rfl|rfl|rfl <;> rfl
abbrev Jk (w:World) (v:Value) (xs:List Ac):Prop:=dK 6 56 pq w v xs
theorem Tryd.PH:(Tryd.prog.info? 26).map (fun i=>(i.zero.map (fun z=>z.cells.size),i.size,i.bytes))=some (some 6,6,56):=bT
structure qG where
 an:An
 so:Option Addr
 n:Nat
 c:Nat
abbrev qG.v (q:qG):Value:= .slice q.so q.n q.c
abbrev qG.cs (q:qG):Array Value:=#[.int .i64 q.an.code, .int .i64 q.an.is.c, .int .i64 q.an.is.s, .int .i64 q.an.is.mi, .int .i64 q.an.is.ma, .int .i64 q.an.is.t, .int .i64 q.an.is.l, .slice q.so q.n q.c]
def uP (q:qG):List Value:=[.int .i64 q.an.code, .int .i64 q.an.is.c, .int .i64 q.an.is.s, .int .i64 q.an.is.mi, .int .i64 q.an.is.ma, .int .i64 q.an.is.t, .int .i64 q.an.is.l, .slice q.so q.n q.c]
theorem EX (q:qG):(uP q).length=8:=rfl
theorem Nu (xs:List qG):∀u∈xs.flatMap uP,u.oneCell'=true:=by
 intro u hu
 obtain⟨p,_,hp⟩:=List.mem_flatMap.1 hu
 simp only [uP,fk,List.not_mem_nil,or_false]at hp
 rcases hp with rfl|rfl|rfl|rfl|rfl|rfl|rfl|rfl <;> rfl
abbrev Yt (w:World) (v:Value) (xs:List qG):Prop:=dK 8 80 uP w v xs
theorem Tryd.PG:(Tryd.prog.info? 45).map (fun i=>(i.zero.map (fun z=>z.cells.size),i.size,i.bytes))=some (some 8,8,80):=bT
structure Only (D:Nat->Prop) (w w':World):Prop where
 size:w.heap.size<=w'.heap.size
 block:∀q,q<w.heap.size->¬D q->w'.heap[q]?=w.heap[q]?
theorem Only.refl (D:Nat->Prop) (w:World):Only D w w:=⟨km _,fun _ _ _=>rfl⟩
theorem Only.trans {a b c:World} (h:Only D a b) (k:Only D b c):Only D a c:=
 ⟨ik h.size k.size,fun i hi hx=>(k.block i (mQ hi h.size) hx).trans (h.block i hi hx)⟩
theorem Only.of (h:Below B w w') (hB:w.heap.size<=B):Only D w w':=⟨h.size,fun q hq _=>h.block q af⟩
theorem Only.turn {X:Nat->Prop} (h:aa0 X w w') (hX:∀q,X q->D q):Only D w w':=⟨h.size,fun q hq hd=>h.block q hq fun hx=>hd (hX q hx)⟩
theorem Only.mono (h:Only D w w') (hX:∀q,q<w.heap.size->D q->E q):Only E w w':=⟨h.size,fun q hq hd=>h.block q hq fun hx=>hd (hX q hq hx)⟩
theorem Only.keep (h:Only D w w') (hD:∀q,D q->q<B):aM B w w':=⟨h.size,fun q hq hs=>h.block q hs fun hd=>by have:=hD q hd;omega⟩
structure l9 (gb:Nat) (D:Nat->Prop) (w:World) (x:St) (N:Nat) (b:Ba) (sa:Option Addr) (sc:Nat) (g0:Option Addr) (l0 p0:Nat) (g1:Option Addr) (l1 p1:Nat) (g2:Option Addr) (l2 p2:Nat) (so:Option Addr) (sn sp:Nat) (kp:Bool):Prop where
 box:w.heap[gb]?=some (.cells #[.slice sa b.names.length sc, .slice g0 l0 p0, .int .i64 b.t0.root, .slice g1 l1 p1, .int .i64 b.t1.root, .slice g2 l2 p2, .int .i64 b.t2.root, .int .i64 b.floor, .slice so sn sp, .bool kp] 104)
 is:Is b x.m N
 ok:x.s.Ok N
 base:∀w'',Only D w w''->bO w'' (.agg (aG sa b.names.length sc g0 l0 p0 g1 l1 p1 g2 l2 p2 b)) b
 saved:kp=true->∀w'',Only D w w''->fw w'' (.slice so sn sp) x.s.bytes
 UR:kp=false->x.s=Mo.zero
section
variable {gb:Nat} {D:Nat->Prop} {w w':World} {x:St} {N:Nat} {b:Ba} {sa:Option Addr} {sc:Nat} {g0:Option Addr} {l0 p0:Nat} {g1:Option Addr} {l1 p1:Nat} {g2:Option Addr} {l2 p2:Nat} {so:Option Addr} {sn sp:Nat} {kp:Bool}
theorem l9.later (h:l9 gb D w x N b sa sc g0 l0 p0 g1 l1 p1 g2 l2 p2 so sn sp kp) (hO:Only D w w') (hg:w'.heap[gb]?=w.heap[gb]?):l9 gb D w' x N b sa sc g0 l0 p0 g1 l1 p1 g2 l2 p2 so sn sp kp:=
 ⟨hg.trans h.box,h.is,h.ok,fun w'' hw=>h.base w'' (hO.trans hw),fun hk w'' hw=>h.saved hk w'' (hO.trans hw),h.UR⟩
theorem l9.lt (h:l9 gb D w x N b sa sc g0 l0 p0 g1 l1 p1 g2 l2 p2 so sn sp kp):gb<w.heap.size:=(eI.1 h.box).1
theorem l9.below (h:l9 gb D w x N b sa sc g0 l0 p0 g1 l1 p1 g2 l2 p2 so sn sp kp) (hb:Below B w w') (hB:w.heap.size<=B):l9 gb D w' x N b sa sc g0 l0 p0 g1 l1 p1 g2 l2 p2 so sn sp kp:=
 h.later (Only.of hb hB) (hb.block _ (by have:=h.lt;omega))
theorem l9.mono (h:l9 gb D w x N b sa sc g0 l0 p0 g1 l1 p1 g2 l2 p2 so sn sp kp) (hN:N<=M):l9 gb D w x M b sa sc g0 l0 p0 g1 l1 p1 g2 l2 p2 so sn sp kp:=
 ⟨h.box,h.is.mono hN,h.ok.mono hN,h.base,h.saved,h.UR⟩
theorem l9.cells (h:l9 gb D w x N b sa sc g0 l0 p0 g1 l1 p1 g2 l2 p2 so sn sp kp) :
  w.cell? ⟨gb,0,none⟩=some (.slice sa b.names.length sc)/\w.cell? ⟨gb,1,none⟩=some (.slice g0 l0 p0)/\w.cell? ⟨gb,2,none⟩=some (.int .i64 b.t0.root)/\w.cell? ⟨gb,3,none⟩=some (.slice g1 l1 p1)/\w.cell? ⟨gb,4,none⟩=some (.int .i64 b.t1.root)/\w.cell? ⟨gb,5,none⟩=some (.slice g2 l2 p2)/\w.cell? ⟨gb,6,none⟩=some (.int .i64 b.t2.root)/\w.cell? ⟨gb,7,none⟩=some (.int .i64 b.floor)/\w.cell? ⟨gb,8,none⟩=some (.slice so sn sp)/\w.cell? ⟨gb,9,none⟩=some (.bool kp)/\∀o,w.frozen? ⟨gb,o,none⟩=false:=by
 have h1:=h.box
 simp [World.cell?,World.frozen?,h1]
theorem l9.names (h:l9 gb D w x N b sa sc g0 l0 p0 g1 l1 p1 g2 l2 p2 so sn sp kp):∀s∈b.names,s.size<=140737488351232:=fun s hs=>by
 have:=nV h.is.st.may s hs
 omega
def Loc (gb B M:Nat):Nat->Prop:=fun q=>q=gb\/(B<=q/\q<M)
theorem l9.set {y:Mo} {c:Ba} {ya:Option Addr}
  (h:l9 gb D w x N b sa sc g0 l0 p0 g1 l1 p1 g2 l2 p2 so sn sp kp) (hD:∀q,D q->q<w.heap.size) (hg:D gb) (hN:N<=M) (h1:ah w W1) (hK:w.heap.size<=K)
  (hc:∀w'',aM K W1 w''->bO w'' (.agg (aG ya c.names.length yc z0 m0 q0 z1 m1 q1 z2 m2 q2 c)) c) (hi:Is c y M) (ht:aa0 (Loc gb w.heap.size K) W1 W2)
  (hb:W2.heap[gb]?=some (.cells #[.slice ya c.names.length yc, .slice z0 m0 q0, .int .i64 c.t0.root, .slice z1 m1 q1, .int .i64 c.t1.root, .slice z2 m2 q2, .int .i64 c.t2.root, .int .i64 c.floor, .slice so sn sp, .bool kp] 104)) :
  l9 gb D W2 ⟨y,x.s⟩ M c ya yc z0 m0 q0 z1 m1 q1 z2 m2 q2 so sn sp kp:=by
 have hgl:=hD gb hg
 have hs1:=h1.size
 have hO2:Only D w W2:=⟨ik h1.size ht.size,fun q hq hd=>(ht.block q af (fun hx=>by
  rcases hx with rfl|hx
  ·exact hd hg
  ·omega)).trans (h1.block q hq)⟩
 refine⟨hb,hi,h.ok.mono hN,fun w'' hw=>hc w'' ⟨ik ht.size hw.size,fun q hq PR=>?_⟩,fun hk w'' hw=>h.saved hk w'' (hO2.trans hw),h.UR⟩
 rw [hw.block q (mQ PR ht.size) fun hd=>by have:=hD q hd;omega]
 exact ht.block q PR fun hx=>by rcases hx with rfl|hx <;> omega
theorem l9.save {ro:Option Addr} {tn tp:Nat} (h:l9 gb D w x N b sa sc g0 l0 p0 g1 l1 p1 g2 l2 p2 so sn sp kp) (hN:N<=500) (hD:∀q,D q->q<w.heap.size) (hg:D gb) (h1:ah w W1) (hK:w.heap.size<=K)
  (ho:az K W1 (.slice ro tn tp) x.m.bytes) (hl:x.m.bytes.length<=1000000) (ht:aa0 (Loc gb w.heap.size K) W1 W2)
  (hb:W2.heap[gb]?=some (.cells #[.slice sa b.names.length sc, .slice g0 l0 p0, .int .i64 b.t0.root, .slice g1 l1 p1, .int .i64 b.t1.root, .slice g2 l2 p2, .int .i64 b.t2.root, .int .i64 b.floor, .slice ro tn tp, .bool true] 104)) :
  l9 gb D W2 ⟨x.m,x.m⟩ N b sa sc g0 l0 p0 g1 l1 p1 g2 l2 p2 ro tn tp true:=by
 have hgl:=hD gb hg
 have hs1:=h1.size
 have hO2:Only D w W2:=⟨ik h1.size ht.size,fun q hq hd=>(ht.block q af (fun hx=>by
  rcases hx with rfl|hx
  ·exact hd hg
  ·omega)).trans (h1.block q hq)⟩
 refine⟨hb,h.is,h.is.ok af,fun w'' hw=>h.base w'' (hO2.trans hw),fun _ w'' hw=>(ho.block fun g hg'=>?_).at hl,fun hk=>by cases hk⟩
 obtain⟨q1,q2⟩:=ho.lt g hg'
 rw [hw.block g (mQ q2 ht.size) fun hd=>by have:=hD g hd;omega]
 exact ht.block g q2 fun hx=>by rcases hx with rfl|hx <;> omega
end
def rO (gb:Nat) (D:Nat->Prop) (w:World) (x:St) (N:Nat):Prop:=
 ∃b sa sc g0 l0 p0 g1 l1 p1 g2 l2 p2 so sn sp kp,l9 gb D w x N b sa sc g0 l0 p0 g1 l1 p1 g2 l2 p2 so sn sp kp
theorem rO.later (h:rO gb D w x N) (hO:Only D w w') (hg:w'.heap[gb]?=w.heap[gb]?):rO gb D w' x N:=by
 obtain⟨b,sa,sc,g0,l0,p0,g1,l1,p1,g2,l2,p2,so,sn,sp,kp,h⟩:=h
 exact⟨b,sa,sc,g0,l0,p0,g1,l1,p1,g2,l2,p2,so,sn,sp,kp,h.later hO hg⟩
theorem rO.mono (h:rO gb D w x N) (hN:N<=M):rO gb D w x M:=by
 obtain⟨b,sa,sc,g0,l0,p0,g1,l1,p1,g2,l2,p2,so,sn,sp,kp,h⟩:=h
 exact⟨b,sa,sc,g0,l0,p0,g1,l1,p1,g2,l2,p2,so,sn,sp,kp,h.mono hN⟩
theorem rO.swap (h:rO gb D w x N) (hD:∀q,q<w.heap.size->E q->D q):rO gb E w x N:=by
 obtain⟨b,sa,sc,g0,l0,p0,g1,l1,p1,g2,l2,p2,so,sn,sp,kp,h⟩:=h
 exact⟨b,sa,sc,g0,l0,p0,g1,l1,p1,g2,l2,p2,so,sn,sp,kp,h.box,h.is,h.ok,fun w'' hw=>h.base w'' (hw.mono hD),fun hk w'' hw=>h.saved hk w'' (hw.mono hD),h.UR⟩
theorem zN {v0 v1 v2 v3 v4 v5 v6 v7:Value} {e:TypeId} {fr:Nat×Nat} (h:w.heap[B]?=some (.cells #[a0,a1,a2,a3,a4,a5,a6,a7,a8,a9] e fr)) :
  ((((((((w.setCell ⟨B,0,none⟩ v0).setCell ⟨B,1,none⟩ v1).setCell ⟨B,2,none⟩ v2).setCell ⟨B,3,none⟩ v3).setCell ⟨B,4,none⟩ v4).setCell ⟨B,5,none⟩ v5).setCell ⟨B,6,none⟩ v6).setCell ⟨B,7,none⟩ v7).heap[B]?=some (.cells #[v0,v1,v2,v3,v4,v5,v6,v7,a8,a9] e fr):=by
 have h:=heap_setCell_same (off:=7) (v:=v7) (heap_setCell_same (off:=6) (v:=v6) (heap_setCell_same (off:=5) (v:=v5) (heap_setCell_same (off:=4) (v:=v4) (heap_setCell_same (off:=3) (v:=v3) (heap_setCell_same (off:=2) (v:=v2) (heap_setCell_same (off:=1) (v:=v1) (heap_setCell_same (off:=0) (v:=v0) h)))))))
 simpa using h
theorem sX {g:Nat} {a:World} (h:aa0 (fun b=>b=g) a w) (v0 v1 v2 v3 v4 v5 v6 v7:Value) :
  aa0 (fun b=>b=g) a ((((((((w.setCell ⟨g,0,none⟩ v0).setCell ⟨g,1,none⟩ v1).setCell ⟨g,2,none⟩ v2).setCell ⟨g,3,none⟩ v3).setCell ⟨g,4,none⟩ v4).setCell ⟨g,5,none⟩ v5).setCell ⟨g,6,none⟩ v6).setCell ⟨g,7,none⟩ v7):=
 aa0.setCell (aa0.setCell (aa0.setCell (aa0.setCell (aa0.setCell (aa0.setCell (aa0.setCell (aa0.setCell h (.inl rfl) _) (.inl rfl) _) (.inl rfl) _) (.inl rfl) _) (.inl rfl) _) (.inl rfl) _) (.inl rfl) _) (.inl rfl) _
theorem ID {E:Int} (hE:E≠0) :
  Calls Tryd.prog 82 #[.pointer (some ⟨gb,0,none⟩),dC, .int .i64 E] w fun e w'=>e = .returned (.int .i64 E)/\ah w w':=by
 have hd:(E == 0)=false:=by simpa using hE
 go_enter Tryd.func82,Tryd.ntmps82
 go_wp2_with fail
 go_ret
 exact⟨rfl,ag⟩
theorem FX {y:Option Addr} {yn:Nat} {r0 r1 r2 fl:Int} {T:TypeId} (hb:w.heap[gb]?=some (.cells #[a0,a1,a2,a3,a4,a5,a6,a7,a8,a9] T)) :
  Calls Tryd.prog 82 #[.pointer (some ⟨gb,0,none⟩), .agg #[.slice y yn yc, .slice z0 m0 q0, .int .i64 r0, .slice z1 m1 q1, .int .i64 r1, .slice z2 m2 q2, .int .i64 r2, .int .i64 fl], .int .i64 0] w fun e w'=>e = .returned (.int .i64 0)/\aa0 (fun b=>b=gb) w w'/\w'.heap[gb]?=some (.cells #[.slice y yn yc, .slice z0 m0 q0, .int .i64 r0, .slice z1 m1 q1, .int .i64 r1, .slice z2 m2 q2, .int .i64 r2, .int .i64 fl,a8,a9] T):=by
 have hlt:gb<w.heap.size:=(eI.1 hb).1
 obtain⟨W0,hW0⟩:=bP (w.alloc (.cells #[.slice y yn yc, .slice z0 m0 q0, .int .i64 r0, .slice z1 m1 q1, .int .i64 r1, .slice z2 m2 q2, .int .i64 r2, .int .i64 fl] 35))
 have hT0:aa0 (fun b=>b=gb) w W0:=by rw [hW0];exact(aa0.refl _ _).alloc _
 have kg:W0.heap[gb]?=some (.cells #[a0,a1,a2,a3,a4,a5,a6,a7,a8,a9] T):=by rw [hW0,kW _ _ _ hlt];exact hb
 have kb:W0.heap[w.heap.size]?=some (.cells #[.slice y yn yc, .slice z0 m0 q0, .int .i64 r0, .slice z1 m1 q1, .int .i64 r1, .slice z2 m2 q2, .int .i64 r2, .int .i64 fl] 35):=by rw [hW0];exact aj _ _ rfl
 obtain⟨x0,x1,x2,x3,x4,x5,x6,x7,-⟩:=fh kb
 obtain⟨c0,c1,c2,c3,c4,c5,c6,c7,cf⟩:W0.cell? ⟨gb,0,none⟩=some a0/\W0.cell? ⟨gb,1,none⟩=some a1/\W0.cell? ⟨gb,2,none⟩=some a2/\W0.cell? ⟨gb,3,none⟩=some a3/\W0.cell? ⟨gb,4,none⟩=some a4/\W0.cell? ⟨gb,5,none⟩=some a5/\W0.cell? ⟨gb,6,none⟩=some a6/\W0.cell? ⟨gb,7,none⟩=some a7/\∀o,W0.frozen? ⟨gb,o,none⟩=false:=by simp [World.cell?,World.frozen?,kg]
 have HT:=hdd (aL (sX hT0 (.slice y yn yc) (.slice z0 m0 q0) (.int .i64 r0) (.slice z1 m1 q1) (.int .i64 r1) (.slice z2 m2 q2) (.int .i64 r2) (.int .i64 fl)) (zN (v0:= .slice y yn yc) (v1:= .slice z0 m0 q0) (v2:= .int .i64 r0) (v3:= .slice z1 m1 q1) (v4:= .int .i64 r1) (v5:= .slice z2 m2 q2) (v6:= .int .i64 r2) (v7:= .int .i64 fl) kg))
 clear hT0 kg kb hb
 go_enter Tryd.func82,Tryd.ntmps82
 go_upto_region 1 with (fail)
 rw [<-hW0]
 clear hW0
 go_wp2_with fail
 go_ret
 exact⟨rfl,HT.out.1,HT.out.2⟩
end
section
variable {s:ByteArray} {t n a z:Int}
section
variable {v:Value} {b:Ba} {m:Mo} {N:Nat} {w:World}
def QG (w:World) (m:Mo) (N:Nat) (x:Ending) (w':World):Prop:=ah w w' /\
 ∃b' sa sc g0 l0 p0 g1 l1 p1 g2 l2 p2,x = .returned (.tuple #[.agg (aG sa b'.names.length sc g0 l0 p0 g1 l1 p1 g2 l2 p2 b'), .int .i64 0])/\(∀w'',aM w.heap.size w' w''->bO w'' (.agg (aG sa b'.names.length sc g0 l0 p0 g1 l1 p1 g2 l2 p2 b')) b')/\Is b' m N
def Rv (w:World) (E:Int) (x:Ending) (w':World):Prop:=ah w w'/\x = .returned (.tuple #[dC, .int .i64 E])
theorem Is.small (h:Is b m N):∀s∈b.names,s.size<=140737488351232:=fun s hs=>by
 have:=nV h.st.may s hs
 omega
theorem KI (hi:Is b m N) (hN:N<=2900) (h:bO w v b) (xB:s.size<=140737488351232) (hsz:bL w) (h0:m.ny s t n=0) :
  Calls Tryd.prog 22 #[v, .agg #[.string s, .int .i64 t, .int .i64 n]] w (QG w (m.add s t n) (N+1)):=by
 obtain⟨-,h1,-,h2,h3,h4,h5,h6,-,-,h7⟩:=mS ((hi.Ru s t n).trans h0)
 refine(H2 h hi.small xB hsz hi.st hN h1 h2 h3 h4 h5 h6 h7).mono ?_
 rintro x w' ⟨hb,b',sa,sc,g0,l0,p0,g1,l1,p1,g2,l2,p2,rfl,hk,e1,e2,hst⟩
 refine⟨hb,b',sa,sc,g0,l0,p0,g1,l1,p1,g2,l2,p2,rfl,hk,?_,?_,?_⟩
 ·have e:(m.add s t n).L=ins m.L (cv b s t ⟨1,n,n,n,t,n⟩):=by
   unfold cv
   rw [Jg,hi.ns];rfl
  rw [e];exact hst
 ·rw [e1,xQ,hi.ns];rfl
 ·rw [e2,hi.fl];rfl
theorem H7 (hi:Is b m N) (h:bO w v b) (xB:s.size<=140737488351232) (hsz:bL w) (h0:m.ny s t n≠0) :
  Calls Tryd.prog 22 #[v, .agg #[.string s, .int .i64 t, .int .i64 n]] w (Rv w (m.ny s t n)):=by
 have e:=hi.Ru s t n
 refine(xL h hi.small xB hsz).mono ?_
 rintro x w' ⟨hb,⟨-,h2⟩|⟨h1,-⟩⟩
 ·rw [e]at h2;exact⟨hb,h2⟩
 ·exact absurd (e.symm.trans h1) h0
theorem Ki (hi:Is b m N) (hN:N<=2900) (h:bO w v b) (hsz:bL w) (h0:m.A5 t=0) :
  Calls Tryd.prog 85 #[v, .int .i64 t] w (QG w (m.exp t) N):=by
 obtain⟨e1,e2⟩:=hi.Rq t
 have hl:(rz b t).length<=N:=by
  rw [e2]
  have h1:=sH (cx t) m.L
  have h2:=hi.kn.len
  show (m.L.filter (cx t)).length<=N
  omega
 refine(rB h hi.small hsz).mono ?_
 rintro x w' ⟨hb,⟨h1,-⟩|⟨-,⟨-,h2⟩|⟨b',sa,sc,g0,l0,p0,g1,l1,p1,g2,l2,p2,rfl,hk,q1,q2,q3,q4,q5⟩⟩⟩
 ·exact absurd (e1.trans h0) h1
 ·omega
 ·refine⟨hb,b',sa,sc,g0,l0,p0,g1,l1,p1,g2,l2,p2,rfl,hk,⟨q3,by rw [q4,e2],fun k hk=>?_,?_⟩,?_,?_⟩
  ·have:=q5 k hk;omega
  ·have h1:=xP hi.st.bQ.2.1.bQ (cx t)
   have h2:=hi.st.fH
   show fH (m.L.filter (cx t))<=_
   omega
  ·rw [q1,hi.ns];rfl
  ·rw [q2];rfl
theorem Hj (hi:Is b m N) (h:bO w v b) (hsz:bL w) (h0:m.A5 t≠0) :
  Calls Tryd.prog 85 #[v, .int .i64 t] w (Rv w (m.A5 t)):=by
 have e:=(hi.Rq t).1
 refine(rB h hi.small hsz).mono ?_
 rintro x w' ⟨hb,⟨-,h2⟩|⟨h1,-⟩⟩
 ·rw [e]at h2;exact⟨hb,h2⟩
 ·exact absurd (e.symm.trans h1) h0
theorem Pf (hi:Is b m N) (hN:N<=500) (h:bO w v b) (hsz:bL w) :
  Calls Tryd.prog 83 #[v, .string s, .int .i64 n, .int .i64 a, .int .i64 z] w fun x w'=>ah w w'/\∃ao c,x = .returned (.tuple #[.slice ao (m.rows s n a z).length c, .int .i64 (m.eQ s n a z)])/\OwnRows w.heap.size w' (.slice ao (m.rows s n a z).length c) (m.rows s n a z):=by
 obtain⟨e1,e2⟩:=hi.Pg hN s n a z
 refine(LF h hi.small hsz).mono ?_
 rintro x w' ⟨hb,v',rfl,ho⟩
 rw [e2]at ho
 obtain⟨ao,c,rfl⟩:=ho.isSlice
 exact⟨hb,ao,c,by rw [e1],ho⟩
theorem R5 (hi:Is b m N) (hN:N<=1000000) (h:bO w v b) (hsz:bL w) :
  Calls Tryd.prog 84 #[v, .string s, .int .i64 a, .int .i64 z] w fun x w'=>ah w w'/\x = .returned (.tuple #[(m.QL s a z).v, .int .i64 (m.yR s a z)]):=by
 obtain⟨e1,e2⟩:=hi.VD hN s a z
 refine(Ju h hi.small hsz).mono ?_
 rintro x w' ⟨hb,rfl⟩
 exact⟨hb,by rw [e1,e2]⟩
theorem CO (hi:Is b m N) (hN:N<=500) (h:bO w v b) (hsz:bL w) :
  Calls Tryd.prog 30 #[v] w fun x w'=>ah w w'/\∃ao c,x = .returned (.tuple #[.slice ao m.bytes.length c, .int .i64 0])/\az w.heap.size w' (.slice ao m.bytes.length c) m.bytes:=by
 obtain⟨e1,e2⟩:=hi.enc hN
 refine(Hn h hi.small hsz).mono ?_
 rintro x w' ⟨hb,v',rfl,ho⟩
 rw [e2]at ho
 obtain⟨ao,c,rfl⟩:=ho.isSlice
 exact⟨hb,ao,c,by rw [e1],ho⟩
end
end
theorem TX {v:Value} {m:Mo} {N:Nat} {w:World} (ho:m.Ok N) (hN:N<=500) (h:fw w v m.bytes) (hsz:bL w):Calls Tryd.prog 86 #[v] w (QG w m N):=by
 obtain⟨d0,d1,d2,d3⟩:=ho.fit.dec (by have:=ho.len;omega) (rfl:m.bytes=_)
 refine(Hq h (EM _ _ _) hsz).mono ?_
 rintro x w' ⟨hb,⟨E,hE,-,h1|⟨-,h1⟩⟩|⟨-,sn,sc,g0,l0,p0,g1,l1,p1,g2,l2,p2,T,hx,hok,hk⟩⟩
 ·exact absurd (h1.symm.trans d0) hE
 ·rw [d1,d2,d3]at h1;exact absurd h1 ho.fit.Ps
 ·rw [d1,d2]at hx hk
  rw [d1,d2,d3]at hok
  exact⟨hb,⟨m.ns,T 0,T 1,T 2,m.fl⟩,sn,sc,g0,l0,p0,g1,l1,p1,g2,l2,p2,hx,hk,ho.fit.bst hok ho.len ho.fH,rfl,rfl⟩
section
variable {a:Act} {ops:Array Oper} {Q:Exit->Act->World->Prop} {i:Int} {es:List Ac} {rest:List Oper} {B C j b off k ab aV n cap:Nat} {o:Oper} {T:TypeId} {u:Value} {w w':World}
structure bN (B:Nat) (w:World) (v:Value) (ps:List Ac):Prop where
 row:w.ownsRow B 26 6 v ps.length (ps.flatMap pq)
theorem bN.nil (B:Nat) (w:World):bN B w (.slice none 0 0) []:=⟨World.ownsRow_nil _ _ _ _⟩
theorem bN.block {v:Value} (h:bN B w v es) (hb:∀g,v.ownBlock=some g->w'.heap[g]?=w.heap[g]?):bN B w' v es:=by
 obtain⟨hl,⟨rfl,h0⟩|⟨g,cap,cur,rfl,hB,hg,h1,h2,h3,h4⟩⟩:=h.row
 ·exact⟨⟨hl, .inl ⟨rfl,h0⟩⟩⟩
 ·exact⟨⟨hl, .inr ⟨g,cap,cur,rfl,hB,(hb g rfl).trans hg,h1,h2,h3,h4⟩⟩⟩
theorem bN.alloc {v:Value} (h:bN B w v es) (o:Obj):bN B (w.alloc o) v es:=⟨World.ownsRow.alloc h.row o⟩
theorem bN.lt {v:Value} (h:bN B w v es):∀g,v.ownBlock=some g->B<=g/\g<w.heap.size:=World.ownsRow.lt h.row
theorem bN.below {v:Value} (h:bN B w v es) (hb:Below C w w') (hC:w.heap.size<=C):bN B w' v es:=h.block fun g hg=>hb.block g (by have:=(h.lt g hg).2;omega)
theorem bN.at {v:Value} (h:bN B w v es) (hs:es.length<=1000000):Jk w v es:=dK.owned xJ h.row rfl af
theorem bN.isSlice {v:Value} (h:bN B w v es):∃ao cap,v = .slice ao es.length cap:=by
 obtain⟨hl,⟨rfl,h0⟩|⟨g,cap,cur,rfl,_⟩⟩:=h.row
 ·exact⟨none,0,by rw [h0]⟩
 ·exact⟨_,_,rfl⟩
theorem bN.mono {v:Value} (h:bN B w v es) (hC:C<=B):bN C w v es:=by
 obtain⟨hl,⟨rfl,h0⟩|⟨g,cap,cur,rfl,hB,hg,h1,h2,h3,h4⟩⟩:=h.row
 ·exact⟨⟨hl, .inl ⟨rfl,h0⟩⟩⟩
 ·exact⟨⟨hl, .inr ⟨g,cap,cur,rfl,af,hg,h1,h2,h3,h4⟩⟩⟩
theorem vz {p:Ac} (h:(pq p)[j]?=some u) :
  (w.alloc (.cells p.cs T)).cell? (Addr.add ⟨w.heap.size,0,none⟩ j)=some u:=by
 have hk:=aj w (.cells p.cs T) rfl
 have ha:Addr.add ⟨w.heap.size,0,none⟩ j=⟨w.heap.size,j,none⟩:=by simp [Addr.add];omega
 rw [ha]
 simp only [World.cell?,hk]
 have hj:j<6:=(gJ.1 h).1
 obtain rfl|rfl|rfl|rfl|rfl|rfl:j=0\/j=1\/j=2\/j=3\/j=4\/j=5:=af
 all_goals simpa [pq,Ac.cs] using h
theorem fT (hgd:o.guard=none) (s x:Operand)
  (ho:o.op = .call { callee:= .builtin .append,args:=#[s,x],argTypes:=#[23,23] }) (B:Nat) (v:Value) (es:List Ac) (hs:a.eval s=v) (hown:bN B w v es)
  (ad:Addr) (e:Ac) (hx:a.eval x = .slice (some ad) 1 1) (hnews:∀j u,(pq e)[j]?=some u->w.cell? (ad.add j)=some u) (hlen:es.length<=1000000) (hbase:B<=w.heap.size)
  (h:∀v' w',bN B w' v' (es++[e])->w.grownBy w' v.ownBlock->(v'.ownBlock=v.ownBlock\/v'.ownBlock=some w.heap.size)->wpList Tryd.prog ops Q rest (a.put o.dst v') w'):wpList Tryd.prog ops Q (o::rest) a w:=by
 obtain⟨i0,z,hi,hz,hz1,hz2,hz3⟩:=cj Tryd.PH
 refine Go.wpList_append_own_at w hgd s x 23 ho B 26 i0 z 6 56 Tryd.underlying23 hi hz hz1 hz2 hz3 aW v es.length _ hs hown.row ad 1 1 (pq e) hx rfl hnews (Ab [e] |> fun h u hu=>h u (by simpa using hu)) (by unfold maxLen;omega) af hbase ?_
 intro v' w' hown' hg _ h4
 refine h v' w' ?_ hg h4
 have:(es++[e]).flatMap pq=es.flatMap pq++pq e:=bj
 refine⟨?_⟩
 rw [this,dO]
 exact hown'
theorem wX {xs:List Ac}
  (h:∀i x,xs[i]?=some x->∀j u,(pq x)[j]?=some u->w.cell? ⟨b,off+i*6+j,none⟩=some u) (hk:k<xs.length) :
  w.cell? ⟨b,off+k*6,none⟩=some (.int .i64 xs[k].k)/\w.cell? ⟨b,off+k*6+1,none⟩=some (.string xs[k].s)/\w.cell? ⟨b,off+k*6+2,none⟩=some (.int .i64 xs[k].t)/\w.cell? ⟨b,off+k*6+3,none⟩=some (.int .i64 xs[k].z)/\w.cell? ⟨b,off+k*6+4,none⟩=some (.int .i64 xs[k].sz)/\w.cell? ⟨b,off+k*6+5,none⟩=some (.int .i64 xs[k].v):=by
 have g:∀j u,(pq xs[k])[j]?=some u->w.cell? ⟨b,off+k*6+j,none⟩=some u:=fun j u hu=>h k xs[k] (by simp [hk]) j u hu
 exact⟨by simpa using g 0 _ rfl,by simpa using g 1 _ rfl,by simpa using g 2 _ rfl,by simpa using g 3 _ rfl,by simpa using g 4 _ rfl,by simpa using g 5 _ rfl⟩
theorem CC (h:i=j) (hj:j<n) (w:World):(Instr.indexAt 23 (.slice (some ⟨ab,aV,none⟩) n cap) (.int .i64 i)).run Tryd.prog w = .ok (.pointer (some ⟨ab,aV+j*6,none⟩)) w:=by
 subst h
 go_simp
structure eA (B:Nat) (w:World) (v:Value) (ps:List qG):Prop where
 row:w.ownsRow B 45 8 v ps.length (ps.flatMap uP)
theorem eA.nil (B:Nat) (w:World):eA B w (.slice none 0 0) []:=⟨World.ownsRow_nil _ _ _ _⟩
theorem eA.block {v:Value} {es:List qG} (h:eA B w v es) (hb:∀g,v.ownBlock=some g->w'.heap[g]?=w.heap[g]?):eA B w' v es:=by
 obtain⟨hl,⟨rfl,h0⟩|⟨g,cap,cur,rfl,hB,hg,h1,h2,h3,h4⟩⟩:=h.row
 ·exact⟨⟨hl, .inl ⟨rfl,h0⟩⟩⟩
 ·exact⟨⟨hl, .inr ⟨g,cap,cur,rfl,hB,(hb g rfl).trans hg,h1,h2,h3,h4⟩⟩⟩
theorem eA.alloc {v:Value} {es:List qG} (h:eA B w v es) (o:Obj):eA B (w.alloc o) v es:=⟨World.ownsRow.alloc h.row o⟩
theorem eA.lt {v:Value} {es:List qG} (h:eA B w v es):∀g,v.ownBlock=some g->B<=g/\g<w.heap.size:=World.ownsRow.lt h.row
theorem eA.below {v:Value} {es:List qG} (h:eA B w v es) (hb:Below C w w') (hC:w.heap.size<=C):eA B w' v es:=h.block fun g hg=>hb.block g (by have:=(h.lt g hg).2;omega)
theorem eA.at {v:Value} {es:List qG} (h:eA B w v es) (hs:es.length<=1000000):Yt w v es:=dK.owned EX h.row rfl af
theorem eA.isSlice {v:Value} {es:List qG} (h:eA B w v es):∃ao cap,v = .slice ao es.length cap:=by
 obtain⟨hl,⟨rfl,h0⟩|⟨g,cap,cur,rfl,_⟩⟩:=h.row
 ·exact⟨none,0,by rw [h0]⟩
 ·exact⟨_,_,rfl⟩
theorem eA.mono {v:Value} {es:List qG} (h:eA B w v es) (hC:C<=B):eA C w v es:=by
 obtain⟨hl,⟨rfl,h0⟩|⟨g,cap,cur,rfl,hB,hg,h1,h2,h3,h4⟩⟩:=h.row
 ·exact⟨⟨hl, .inl ⟨rfl,h0⟩⟩⟩
 ·exact⟨⟨hl, .inr ⟨g,cap,cur,rfl,af,hg,h1,h2,h3,h4⟩⟩⟩
theorem QJ {p:qG} (h:(uP p)[j]?=some u) :
  (w.alloc (.cells p.cs T)).cell? (Addr.add ⟨w.heap.size,0,none⟩ j)=some u:=by
 have hk:=aj w (.cells p.cs T) rfl
 have ha:Addr.add ⟨w.heap.size,0,none⟩ j=⟨w.heap.size,j,none⟩:=by simp [Addr.add];omega
 rw [ha]
 simp only [World.cell?,hk]
 have hj:j<8:=(gJ.1 h).1
 obtain rfl|rfl|rfl|rfl|rfl|rfl|rfl|rfl:j=0\/j=1\/j=2\/j=3\/j=4\/j=5\/j=6\/j=7:=af
 all_goals simpa [uP,qG.cs] using h
theorem ua (hgd:o.guard=none) (s x:Operand)
  (ho:o.op = .call { callee:= .builtin .append,args:=#[s,x],argTypes:=#[28,28] }) (B:Nat) (v:Value) (es:List qG) (hs:a.eval s=v) (hown:eA B w v es)
  (ad:Addr) (e:qG) (hx:a.eval x = .slice (some ad) 1 1) (hnews:∀j u,(uP e)[j]?=some u->w.cell? (ad.add j)=some u) (hlen:es.length<=1000000) (hbase:B<=w.heap.size)
  (h:∀v' w',eA B w' v' (es++[e])->w.grownBy w' v.ownBlock->(v'.ownBlock=v.ownBlock\/v'.ownBlock=some w.heap.size)->wpList Tryd.prog ops Q rest (a.put o.dst v') w'):wpList Tryd.prog ops Q (o::rest) a w:=by
 obtain⟨i0,z,hi,hz,hz1,hz2,hz3⟩:=cj Tryd.PG
 refine Go.wpList_append_own_at w hgd s x 28 ho B 45 i0 z 8 80 Tryd.underlying28 hi hz hz1 hz2 hz3 aW v es.length _ hs hown.row ad 1 1 (uP e) hx rfl hnews (Nu [e] |> fun h u hu=>h u (by simpa using hu)) (by unfold maxLen;omega) af hbase ?_
 intro v' w' hown' hg _ h4
 refine h v' w' ?_ hg h4
 have:(es++[e]).flatMap uP=es.flatMap uP++uP e:=bj
 refine⟨?_⟩
 rw [this,dO]
 exact hown'
theorem K4 {xs:List qG}
  (h:∀i x,xs[i]?=some x->∀j u,(uP x)[j]?=some u->w.cell? ⟨b,off+i*8+j,none⟩=some u) (hk:k<xs.length) :
  w.cell? ⟨b,off+k*8,none⟩=some (.int .i64 xs[k].an.code)/\w.cell? ⟨b,off+k*8+1,none⟩=some (.int .i64 xs[k].an.is.c)/\w.cell? ⟨b,off+k*8+2,none⟩=some (.int .i64 xs[k].an.is.s)/\w.cell? ⟨b,off+k*8+3,none⟩=some (.int .i64 xs[k].an.is.mi)/\w.cell? ⟨b,off+k*8+4,none⟩=some (.int .i64 xs[k].an.is.ma)/\w.cell? ⟨b,off+k*8+5,none⟩=some (.int .i64 xs[k].an.is.t)/\w.cell? ⟨b,off+k*8+6,none⟩=some (.int .i64 xs[k].an.is.l)/\w.cell? ⟨b,off+k*8+7,none⟩=some (.slice xs[k].so xs[k].n xs[k].c):=by
 have g:∀j u,(uP xs[k])[j]?=some u->w.cell? ⟨b,off+k*8+j,none⟩=some u:=fun j u hu=>h k xs[k] (by simp [hk]) j u hu
 exact⟨by simpa using g 0 _ rfl,by simpa using g 1 _ rfl,by simpa using g 2 _ rfl,by simpa using g 3 _ rfl,by simpa using g 4 _ rfl,by simpa using g 5 _ rfl,by simpa using g 6 _ rfl,by simpa using g 7 _ rfl⟩
theorem PE (h:i=j) (hj:j<n) (w:World):(Instr.indexAt 28 (.slice (some ⟨ab,aV,none⟩) n cap) (.int .i64 i)).run Tryd.prog w = .ok (.pointer (some ⟨ab,aV+j*8,none⟩)) w:=by
 subst h
 go_simp
end
section
set_option maxRecDepth 100000
set_option maxHeartbeats 1000000
variable {w:World}
theorem EZ {v:Value} {xs:List Ac} (h:dK 6 56 pq w v xs) :
  Calls Tryd.prog 15 #[v] w fun e w'=>∃v',e = .returned v'/\bN w.heap.size w' v' xs/\ah w w':=by
 obtain⟨ao,cap,rfl,h1,h2,h3,h4,h5⟩:=id h
 have hnil:∀w,(binOp .eql 23 (.slice ao xs.length cap) (.slice none 0 0)).run Tryd.prog w = .ok (.bool ao.isNone) w:=fun w=>Lib.run_eql_slice_nil w _ _ _ _ _ _ _ Tryd.underlying23
 cases ao with
 |none=>
  have h0:xs.length=0:=by have:=h4 rfl;omega
  obtain rfl:=wO h0
  obtain rfl:cap=0:=h4 rfl
  clear h4 h5
  simp only [Option.isNone_none,List.length_nil]at hnil
  go_enter Tryd.func15,Tryd.ntmps15
  go_wp2_with fail
  go_ret
  exact⟨_,rfl,bN.nil _ _,aI _ _⟩
 |some ad=>
  obtain⟨_,g1,g2⟩:=h.news xJ
  obtain⟨i0,z,hi,hz,hz1,hz2,hz3⟩:=cj Tryd.PH
  simp only [Option.isNone_some]at hnil
  have hown0:(w.alloc (.cells #[] 26)).ownsRow w.heap.size 26 6 (.slice (some ⟨w.heap.size,0,none⟩) 0 0) 0 []:=World.ownsRow_made w #[] 0 aH (by simp [maxLen]) bj
  clear h4 h5
  go_enter Tryd.func15,Tryd.ntmps15
  go_wp2_with (at_builtin;refine wpList_append_own _ rfl _ _ 23 rfl w.heap.size 26 i0 z 6 56 Tryd.underlying23 hi hz hz1 hz2 hz3 aW _ _ _ rfl hown0 ad xs.length cap (xs.flatMap pq) rfl g1 (fun j u hj=>nu (g2 j u hj)) (Ab xs) (by unfold maxLen;omega) af bj ?_;intro v' w3 hown' hgrow hv)
  go_ret
  exact⟨v',rfl,⟨by simpa using hown'⟩,Below.grown ((aI _ _).alloc aH _) hgrow bj (fun j hj=>(hown0.lt j hj).1)⟩
theorem az.set {B g cap j:Nat} {X:List Int} {c:Int} (h:az B w (.slice (some ⟨g,0,none⟩) X.length cap) X) (_hj:j<X.length) :
  az B (w.setCell ⟨g,j,none⟩ (.int .u8 c)) (.slice (some ⟨g,0,none⟩) X.length cap) (X.set j c):=by
 obtain⟨hl,⟨h0,_⟩|⟨g',cap',cur,e1,hb,hg,h1,h2,h3,h4⟩⟩:=h.row
 ·cases h0
 ·cases e1
  refine⟨⟨by rw [jB,tQ];omega, .inr ⟨g,cap,_,by rw [tQ],hb,heap_setCell_same hg,by rw [tQ];exact h1,h2,by simp [h3],?_⟩⟩⟩
  rw [tQ,Array.toList_setIfInBounds,List.take_set,h4,uO,uO,List.map_set]
end
section
set_option maxRecDepth 100000
set_option maxHeartbeats 4000000
variable {b:Ba} {N:Nat} {w:World}
def yL (gb:Nat) (D:Nat->Prop) (w:World) (x:St) (a:Ac) (N:Nat) (e:Ending) (w':World):Prop:=
 ∃q:qG,e = .returned (.agg q.cs)/\q.an=kX x a/\aa0 (fun i=>i=gb) w w'/\rO gb D w' (gS x a) (N+1)/\OwnRows w.heap.size w' q.v q.an.rows
structure jy (w:World) (a:Ac) (q:qG) (W:World):Prop where
 ac:W.heap[w.heap.size]?=some (.cells a.cs 26)
 res:W.heap[w.heap.size+1]?=some (.cells #[.int .i64 0, .int .i64 0, .int .i64 0, .int .i64 0, .int .i64 0, .int .i64 0, .int .i64 0, .slice none 0 0] 45)
 XG:W.heap[w.heap.size+1+1]?=some (.cells q.cs 45)
section
variable {gb:Nat} {D:Nat->Prop} {w W W':World} {x:St} {N:Nat} {b:Ba} {sa:Option Addr} {sc:Nat} {g0:Option Addr} {l0 p0:Nat} {g1:Option Addr} {l1 p1:Nat} {g2:Option Addr} {l2 p2:Nat} {so:Option Addr} {sn sp:Nat} {kp:Bool} {a:Ac} {q:qG}
theorem jy.size (h:jy w a q W):w.heap.size+3<=W.heap.size:=(eI.1 h.XG).1
theorem jy.turn (h:jy w a q W) (ht:aa0 (fun i=>i=gb) W W') (hg:gb<w.heap.size):jy w a q W':=by
 have hs:=h.size
 exact⟨(ht.block _ af af).trans h.ac,(ht.block _ af af).trans h.res,(ht.block _ af af).trans h.XG⟩
theorem jy.below (h:jy w a q W) (hb:ah W W'):jy w a q W':=by
 have hs:=h.size
 exact⟨(hb.block _ af).trans h.ac,(hb.block _ af).trans h.res,(hb.block _ af).trans h.XG⟩
theorem jy.OE (h:jy w a q W):W.cell? ⟨w.heap.size,0,none⟩=some (.int .i64 a.k)/\W.cell? ⟨w.heap.size,1,none⟩=some (.string a.s)/\W.cell? ⟨w.heap.size,2,none⟩=some (.int .i64 a.t)/\W.cell? ⟨w.heap.size,3,none⟩=some (.int .i64 a.z)/\W.cell? ⟨w.heap.size,4,none⟩=some (.int .i64 a.sz)/\W.cell? ⟨w.heap.size,5,none⟩=some (.int .i64 a.v):=by
 have h1:=h.ac
 simp [World.cell?,h1,Ac.cs]
theorem jy.oH (h:jy w a q W):W.cell? ⟨w.heap.size+1+1,0,none⟩=some (.int .i64 q.an.code)/\W.cell? ⟨w.heap.size+1+1,1,none⟩=some (.int .i64 q.an.is.c)/\W.cell? ⟨w.heap.size+1+1,2,none⟩=some (.int .i64 q.an.is.s)/\W.cell? ⟨w.heap.size+1+1,3,none⟩=some (.int .i64 q.an.is.mi)/\W.cell? ⟨w.heap.size+1+1,4,none⟩=some (.int .i64 q.an.is.ma)/\W.cell? ⟨w.heap.size+1+1,5,none⟩=some (.int .i64 q.an.is.t)/\W.cell? ⟨w.heap.size+1+1,6,none⟩=some (.int .i64 q.an.is.l)/\W.cell? ⟨w.heap.size+1+1,7,none⟩=some (.slice q.so q.n q.c)/\∀o,W.frozen? ⟨w.heap.size+1+1,o,none⟩=false:=by
 exact fh h.XG
theorem jy.AK (h:jy w a q W):W.cell? ⟨w.heap.size+1,0,none⟩=some (.int .i64 0)/\W.cell? ⟨w.heap.size+1,1,none⟩=some (.int .i64 0)/\W.cell? ⟨w.heap.size+1,2,none⟩=some (.int .i64 0)/\W.cell? ⟨w.heap.size+1,3,none⟩=some (.int .i64 0)/\W.cell? ⟨w.heap.size+1,4,none⟩=some (.int .i64 0)/\W.cell? ⟨w.heap.size+1,5,none⟩=some (.int .i64 0)/\W.cell? ⟨w.heap.size+1,6,none⟩=some (.int .i64 0)/\W.cell? ⟨w.heap.size+1,7,none⟩=some (.slice none 0 0)/\∀o,W.frozen? ⟨w.heap.size+1,o,none⟩=false:=by
 exact fh h.res
theorem jy.set (h:jy w a q W) {r:qG} {o:Nat} {u:Value} (hr:q.cs.setIfInBounds o u=r.cs):jy w a r (W.setCell ⟨w.heap.size+1+1,o,none⟩ u):=by
 refine⟨(heap_setCell_other _ ⟨w.heap.size+1+1,_,none⟩ _ _ (by show w.heap.size≠w.heap.size+1+1;omega)).trans h.ac,(heap_setCell_other _ ⟨w.heap.size+1+1,_,none⟩ _ _ (by show w.heap.size+1≠w.heap.size+1+1;omega)).trans h.res,?_⟩
 have:=heap_setCell_same (off:=o) (v:=u) h.XG
 rw [hr]at this;exact this
end
section
variable {V W1:World} {gb:Nat} {D:Nat->Prop} {w:World} {x:St} {N:Nat} {b:Ba} {sa:Option Addr} {sc:Nat} {g0:Option Addr} {l0 p0:Nat} {g1:Option Addr} {l1 p1:Nat} {g2:Option Addr} {l2 p2:Nat} {so:Option Addr} {sn sp:Nat} {kp:Bool} {a:Ac} {q:qG}
theorem Mn:Is ky Mo.zero 0:=⟨(show FK ky (oG (([]:List C9).map (CN ky.names))) 0 from Mm.st),rfl,rfl⟩
theorem E7 {B xb:Nat} {w0:World} (h:Below B w w0) (hx:B<=xb) (v1 v2 v3 v4 v5 v6:Value):Below B w ((((((w0.setCell ⟨xb,1,none⟩ v1).setCell ⟨xb,2,none⟩ v2).setCell ⟨xb,3,none⟩ v3).setCell ⟨xb,4,none⟩ v4).setCell ⟨xb,5,none⟩ v5).setCell ⟨xb,6,none⟩ v6):=
 (((((h.setCell hx _).setCell hx _).setCell hx _).setCell hx _).setCell hx _).setCell hx _
theorem Hi {v:Value} {m:Mo} {t:Int} (hi:Is b m N) (hN:N<=2900) (h:bO w v b) (hsz:bL w) (h0:m.A5 t=0) :
  Calls Tryd.prog 85 #[v, .int .i64 t] w (QG w (m.exp t) (N+1)):=
 (Ki hi hN h hsz h0).mono fun _ _ ⟨h1,b',sa,sc,g0,l0,p0,g1,l1,p1,g2,l2,p2,h2,h3,h4⟩=>⟨h1,b',sa,sc,g0,l0,p0,g1,l1,p1,g2,l2,p2,h2,h3,h4.mono af⟩
abbrev UO (V w:World) (q:qG):World:=((((((((V.setCell ⟨w.heap.size+1,0,none⟩ (.int .i64 q.an.code)).setCell ⟨w.heap.size+1,1,none⟩ (.int .i64 q.an.is.c)).setCell ⟨w.heap.size+1,2,none⟩ (.int .i64 q.an.is.s)).setCell ⟨w.heap.size+1,3,none⟩ (.int .i64 q.an.is.mi)).setCell ⟨w.heap.size+1,4,none⟩ (.int .i64 q.an.is.ma)).setCell ⟨w.heap.size+1,5,none⟩ (.int .i64 q.an.is.t)).setCell ⟨w.heap.size+1,6,none⟩ (.int .i64 q.an.is.l)).setCell ⟨w.heap.size+1,7,none⟩ (.slice q.so q.n q.c))
abbrev SA (gb:Nat) (w:World) (b:Ba) (a:Ac) (sa:Option Addr) (sc:Nat) (g0:Option Addr) (l0 p0:Nat) (g1:Option Addr) (l1 p1:Nat) (g2:Option Addr) (l2 p2:Nat) (so:Option Addr) (sn sp:Nat) (kp:Bool) (W:World):Prop:=W.cell? ⟨gb,0,none⟩=some (.slice sa b.names.length sc)/\W.cell? ⟨gb,1,none⟩=some (.slice g0 l0 p0)/\W.cell? ⟨gb,2,none⟩=some (.int .i64 b.t0.root)/\W.cell? ⟨gb,3,none⟩=some (.slice g1 l1 p1)/\W.cell? ⟨gb,4,none⟩=some (.int .i64 b.t1.root)/\W.cell? ⟨gb,5,none⟩=some (.slice g2 l2 p2)/\W.cell? ⟨gb,6,none⟩=some (.int .i64 b.t2.root)/\W.cell? ⟨gb,7,none⟩=some (.int .i64 b.floor)/\W.cell? ⟨gb,8,none⟩=some (.slice so sn sp)/\W.cell? ⟨gb,9,none⟩=some (.bool kp)/\W.cell? ⟨w.heap.size,0,none⟩=some (.int .i64 a.k)/\W.cell? ⟨w.heap.size,1,none⟩=some (.string a.s)/\W.cell? ⟨w.heap.size,2,none⟩=some (.int .i64 a.t)/\W.cell? ⟨w.heap.size,3,none⟩=some (.int .i64 a.z)/\W.cell? ⟨w.heap.size,4,none⟩=some (.int .i64 a.sz)/\W.cell? ⟨w.heap.size,5,none⟩=some (.int .i64 a.v)
theorem aav {i:Nat} (h:i≠w.heap.size+1):((((((((V.setCell ⟨w.heap.size+1,0,none⟩ (.int .i64 q.an.code)).setCell ⟨w.heap.size+1,1,none⟩ (.int .i64 q.an.is.c)).setCell ⟨w.heap.size+1,2,none⟩ (.int .i64 q.an.is.s)).setCell ⟨w.heap.size+1,3,none⟩ (.int .i64 q.an.is.mi)).setCell ⟨w.heap.size+1,4,none⟩ (.int .i64 q.an.is.ma)).setCell ⟨w.heap.size+1,5,none⟩ (.int .i64 q.an.is.t)).setCell ⟨w.heap.size+1,6,none⟩ (.int .i64 q.an.is.l)).setCell ⟨w.heap.size+1,7,none⟩ (.slice q.so q.n q.c)).heap[i]?=V.heap[i]?:=aac h
theorem EU:((((((((V.setCell ⟨w.heap.size+1,0,none⟩ (.int .i64 q.an.code)).setCell ⟨w.heap.size+1,1,none⟩ (.int .i64 q.an.is.c)).setCell ⟨w.heap.size+1,2,none⟩ (.int .i64 q.an.is.s)).setCell ⟨w.heap.size+1,3,none⟩ (.int .i64 q.an.is.mi)).setCell ⟨w.heap.size+1,4,none⟩ (.int .i64 q.an.is.ma)).setCell ⟨w.heap.size+1,5,none⟩ (.int .i64 q.an.is.t)).setCell ⟨w.heap.size+1,6,none⟩ (.int .i64 q.an.is.l)).setCell ⟨w.heap.size+1,7,none⟩ (.slice q.so q.n q.c)).heap.size=V.heap.size:=by simp only [aA]
theorem I8:aa0 (fun i=>i=w.heap.size+1) V ((((((((V.setCell ⟨w.heap.size+1,0,none⟩ (.int .i64 q.an.code)).setCell ⟨w.heap.size+1,1,none⟩ (.int .i64 q.an.is.c)).setCell ⟨w.heap.size+1,2,none⟩ (.int .i64 q.an.is.s)).setCell ⟨w.heap.size+1,3,none⟩ (.int .i64 q.an.is.mi)).setCell ⟨w.heap.size+1,4,none⟩ (.int .i64 q.an.is.ma)).setCell ⟨w.heap.size+1,5,none⟩ (.int .i64 q.an.is.t)).setCell ⟨w.heap.size+1,6,none⟩ (.int .i64 q.an.is.l)).setCell ⟨w.heap.size+1,7,none⟩ (.slice q.so q.n q.c)):=sX (aa0.refl _ _) _ _ _ _ _ _ _ _
theorem rH (h:l9 gb D w x N b sa sc g0 l0 p0 g1 l1 p1 g2 l2 p2 so sn sp kp) (_hz:jy w a q V) (hb:ah w V) (_hD:∀i,D i->i<w.heap.size) (hs:gS x a=x) (hr:OwnRows (w.heap.size+3) V q.v q.an.rows) (hq:q.an=kX x a) :
  yL gb D w x a N (.returned (.agg q.cs)) (UO V w q):=by
 have hb2:ah w (UO V w q):=cC hb af _ _ _ _ _ _ _ _
 refine⟨q,rfl,hq,aa0.of hb2 aH,?_,(hr.block fun g hg=>aav (by have:=(hr.lt g hg).1;omega)).mono af⟩
 rw [hs]
 exact⟨b,sa,sc,g0,l0,p0,g1,l1,p1,g2,l2,p2,so,sn,sp,kp,(h.below hb2 aH).mono af⟩
theorem ET (h1:ah w W1) (ht:aa0 (Loc gb w.heap.size (w.heap.size+3)) W1 V):aa0 (fun i=>i=gb) w (UO V w q):=by
 have hS:=I8 (V:=V) (w:=w) (q:=q)
 refine⟨hS.os.trans (ht.os.trans h1.os),hS.tape.trans (ht.tape.trans h1.tape),hS.output.trans (ht.output.trans h1.output),by rw [EU];exact ik h1.size ht.size,fun i hi hx=>?_⟩
 have:=h1.size
 rw [aav af,ht.block i af fun hl=>?_,h1.block i hi]
 rcases hl with hl|hl
 ·exact hx hl
 ·omega
theorem I9 (ht:aa0 (Loc gb w.heap.size (w.heap.size+3)) W1 V):aa0 (Loc gb w.heap.size (w.heap.size+3)) W1 (UO V w q):=by
 have hS:=I8 (V:=V) (w:=w) (q:=q)
 refine⟨hS.os.trans ht.os,hS.tape.trans ht.tape,hS.output.trans ht.output,by rw [EU];exact ht.size,fun i hi hx=>?_⟩
 rw [aav (fun e=>hx (.inr af)),ht.block i hi hx]
theorem vh {y:Mo} {c:Ba} {ya:Option Addr} {yc:Nat} {z0:Option Addr} {m0 q0:Nat} {z1:Option Addr} {m1 q1:Nat} {z2:Option Addr} {m2 q2:Nat} (h:l9 gb D w x N b sa sc g0 l0 p0 g1 l1 p1 g2 l2 p2 so sn sp kp) (hD:∀i,D i->i<w.heap.size) (hg:D gb) (h1:ah w W1)
  (hc:∀w'',aM (w.heap.size+3) W1 w''->bO w'' (.agg (aG ya c.names.length yc z0 m0 q0 z1 m1 q1 z2 m2 q2 c)) c) (hi:Is c y (N+1)) (ht:aa0 (Loc gb w.heap.size (w.heap.size+3)) W1 V)
  (hb:V.heap[gb]?=some (.cells #[.slice ya c.names.length yc, .slice z0 m0 q0, .int .i64 c.t0.root, .slice z1 m1 q1, .int .i64 c.t1.root, .slice z2 m2 q2, .int .i64 c.t2.root, .int .i64 c.floor, .slice so sn sp, .bool kp] 104))
  (hs:gS x a=⟨y,x.s⟩) (hq:q.an=kX x a) (hr:q.an.rows=[]/\q.so=none/\q.n=0/\q.c=0):yL gb D w x a N (.returned (.agg q.cs)) (UO V w q):=by
 have hgl:=hD gb hg
 obtain⟨r1,r2,r3,r4⟩:=hr
 refine⟨q,rfl,hq,ET h1 ht,?_,?_⟩
 ·rw [hs]
  exact⟨_,_,_,_,_,_,_,_,_,_,_,_,_,_,_,_,h.set hD hg af h1 af hc hi (I9 ht) ((aav af).trans hb)⟩
 ·show OwnRows _ _ (.slice q.so q.n q.c) _
  rw [r1,r2,r3,r4]
  exact OwnRows.nil _ _
theorem NL {ro:Option Addr} {tn tp:Nat} (h:l9 gb D w x N b sa sc g0 l0 p0 g1 l1 p1 g2 l2 p2 so sn sp kp) (hN:N+1<=500) (hD:∀i,D i->i<w.heap.size) (hg:D gb) (h1:ah w W1) (ho:az (w.heap.size+3) W1 (.slice ro tn tp) x.m.bytes) (hl:x.m.bytes.length<=1000000) (ht:aa0 (Loc gb w.heap.size (w.heap.size+3)) W1 V)
  (hb:V.heap[gb]?=some (.cells #[.slice sa b.names.length sc, .slice g0 l0 p0, .int .i64 b.t0.root, .slice g1 l1 p1, .int .i64 b.t1.root, .slice g2 l2 p2, .int .i64 b.t2.root, .int .i64 b.floor, .slice ro tn tp, .bool true] 104))
  (hs:gS x a=⟨x.m,x.m⟩) (hq:q.an=kX x a) (hr:q.an.rows=[]/\q.so=none/\q.n=0/\q.c=0):yL gb D w x a N (.returned (.agg q.cs)) (UO V w q):=by
 have hgl:=hD gb hg
 obtain⟨r1,r2,r3,r4⟩:=hr
 refine⟨q,rfl,hq,ET h1 ht,?_,?_⟩
 ·rw [hs]
  exact⟨_,_,_,_,_,_,_,_,_,_,_,_,_,_,_,_,(h.save af hD hg h1 af ho hl (I9 ht) ((aav af).trans hb)).mono af⟩
 ·show OwnRows _ _ (.slice q.so q.n q.c) _
  rw [r1,r2,r3,r4]
  exact OwnRows.nil _ _
end
theorem Qo {gb:Nat} {D:Nat->Prop} {x:St} {sa:Option Addr} {sc:Nat} {g0:Option Addr} {l0 p0:Nat} {g1:Option Addr} {l1 p1:Nat} {g2:Option Addr} {l2 p2:Nat} {so:Option Addr} {sn sp:Nat} {kp:Bool} {a:Ac}
  (h:l9 gb D w x N b sa sc g0 l0 p0 g1 l1 p1 g2 l2 p2 so sn sp kp) (hD:∀q,D q->q<w.heap.size) (hg:D gb) (hN:N+1<=500) (hs:a.s.size<=140737488351232) (hsz:bL w) :
  Calls Tryd.prog 54 #[.pointer (some ⟨gb,0,none⟩), .agg a.cs] w (yL gb D w x a N):=by
 have hgl:=h.lt
 obtain⟨W0,hW0⟩:=bP (((w.alloc (.cells a.cs 26)).alloc (.cells #[.int .i64 0, .int .i64 0, .int .i64 0, .int .i64 0, .int .i64 0, .int .i64 0, .int .i64 0, .slice none 0 0] 45)).alloc (.cells #[.int .i64 0, .int .i64 0, .int .i64 0, .int .i64 0, .int .i64 0, .int .i64 0, .int .i64 0, .slice none 0 0] 45))
 have hb0:ah w W0:=by rw [hW0];exact ag
 have hz0:W0.heap.size=w.heap.size+3:=by rw [hW0];simp
 have hZ:jy w a ⟨⟨0,aw.zero,[]⟩,none,0,0⟩ W0:=by
  rw [hW0]
  refine⟨?_,?_,aj _ _ bj⟩
  ·rw [kW _ _ _ (by simp;omega),kW _ _ _ bj];exact aj _ _ rfl
  ·rw [kW _ _ _ bj];exact aj _ _ bj
 have HZ:=hdd fun W (hb:ah W0 W)=>hZ.below hb
 have HC:=hdd fun W (hb:ah W0 W)=>h.below (Below.trans' hb0 hb hb0.size) aH
 have HB:=hdd fun W (hb:ah W0 W)=>(Below.trans' hb0 hb hb0.size:ah w W)
 have nN:=hdd fun W (hb:ah W0 W)=>hsz.below (Below.trans' hb0 hb hb0.size)
 have HE:=hdd h
 have HD:=hdd (aL hD hg)
 obtain⟨a0,a1,a2,a3,a4,a5⟩:=hZ.OE
 obtain⟨e0,e1,e2,e3,e4,e5,e6,e7,e8,e9,ef⟩:=(HC.out W0 (aI _ _)).cells
 have GQ:gb≠w.heap.size+1+1:=af
 have B0:ah W0 W0.drew:=(aI _ _).drew
 clear h hD hg hsz hZ hb0
 go_enter Tryd.func54,Tryd.ntmps54
 go_upto_region 2 with (fail)
 rw [<-hW0]
 clear hW0
 have HS:=hdd fun W (hb:ah W0 W)=>(by
  obtain⟨e0,e1,e2,e3,e4,e5,e6,e7,e8,e9,-⟩:=(HC.out W hb).cells
  obtain⟨a0,a1,a2,a3,a4,a5⟩:=(HZ.out W hb).OE
  exact⟨e0,e1,e2,e3,e4,e5,e6,e7,e8,e9,a0,a1,a2,a3,a4,a5⟩:SA gb w b a sa sc g0 l0 p0 g1 l1 p1 g2 l2 p2 so sn sp kp W)
 have hk3:W0.drew.heap.size=w.heap.size+3:=hz0
 by_cases hk:a.k=1
 ·skip
  have d1:(a.k == 1)=true:=by simp [hk]
  by_cases ee:x.m.ny a.s a.t a.v=0
  ·have yl:=hdd (show gS x a=⟨x.m.add a.s a.t a.v,x.s⟩ by unfold gS;rw [ar hk,ar ee])
   have rN:=hdd (show (⟨0,aw.zero,[]⟩:An)=kX x a by unfold kX;rw [ar hk,ee])
   have wW:=hdd (KI HE.out.is af ((HC.out _ B0).base _ (Only.refl _ _)) hs (nN.out _ B0) ee)
   clear ee hk
   go_upto_region 5 with (fail)
   refine eF [(0,1),(1,1),(2,1),(3,1),(4,0),(5,1),(6,0),(7,1),(8,0),(9,1),(10,0),(11,1),(12,2),(13,1),(14,1),(15,3),(16,1),(17,3)] 15 (fun W=>SA gb w b a sa sc g0 l0 p0 g1 l1 p1 g2 l2 p2 so sn sp kp W) bT bT (HS.out _ B0) ?_
   (simp only [bG,List.filterMap_cons,List.filterMap_nil,List.getElem?_cons_zero,List.getElem?_cons_succ,Option.map_some])
   (repeat first|refine aY ?_|refine aX ?_)
   refine aP rfl (fun K hK=>?_)
   go_simp
   (with_reducible refine wW.out.mono ?_)
   rintro e w1 ⟨hb1,c,ya,yc,z0,m0,q0,z1,m1,q1,z2,m2,q2,rfl,Oz,hi⟩
   go_simp
   have B1:ah W0 w1:=Below.trans' B0 hb1 aH
   refine hK _ _ (HS.out _ B1) ?_
   clear hK K
   have FI:=hdd (aL Oz hi)
   clear Oz hi hb1 e0 e1 e2 e3 e4 e5 e6 e7 e8 e9 ef
   (repeat first|refine aY ?_|refine aX ?_)
   have K2:=hdd (HC.out _ B1).box
   refine bn rfl (fun K hK=>?_)
   go_simp
   (with_reducible refine(FX K2.out).mono ?_)
   rintro e w2 ⟨rfl,ht2,hb2⟩
   go_simp
   refine hK _ _ ?_
   clear hK K
   have Fk:=hdd ((HZ.out _ B1).turn ht2 hgl)
   obtain⟨o0,o1,o2,o3,o4,o5,o6,o7,of⟩:=Fk.out.oH
   have rK:=hdd (aL ht2 hb2)
   clear ht2 hb2
   (repeat first|refine aY ?_|refine aX ?_)
   refine bn rfl (fun K hK=>?_)
   go_simp
   refine hK _ _ ?_
   clear hK K
   refine cy ?_
   obtain⟨V,hV⟩:=bP (w2.setCell ⟨w.heap.size+1+1,0,none⟩ (.int .i64 0))
   have sk:jy w a ⟨⟨0,aw.zero,[]⟩,none,0,0⟩ V:=by rw [hV];exact Fk.out.set rfl
   have kN:=hdd (vh (V:=V) (q:=⟨⟨0,aw.zero,[]⟩,none,0,0⟩) HE.out HD.out.1 HD.out.2 (HB.out _ B1) (fun w'' hw=>FI.out.1 w'' (by rw [hk3];exact hw)) FI.out.2 (by rw [hV];exact aa0.setCell (rK.out.1.mono fun i _ hi=> .inl hi) (.inl (.inr ⟨by show w.heap.size<=w.heap.size+1+1;omega,by show w.heap.size+1+1<w.heap.size+3;omega⟩)) _) (by rw [hV];exact(heap_setCell_other _ ⟨w.heap.size+1+1,_,none⟩ _ _ GQ).trans rK.out.2) yl.out rN.out ⟨rfl,rfl,rfl,rfl⟩)
   rw [<-hV]
   clear hV o0 o1 o2 o3 o4 o5 o6 o7 of
   obtain⟨o0,o1,o2,o3,o4,o5,o6,o7,of⟩:=sk.oH
   obtain⟨r0,r1,r2,r3,r4,r5,r6,r7,rf⟩:=sk.AK
   go_wp2_with fail
   exact bodyPost_ret (v:= .agg #[.int .i64 0, .int .i64 aw.zero.c, .int .i64 aw.zero.s, .int .i64 aw.zero.mi, .int .i64 aw.zero.ma, .int .i64 aw.zero.t, .int .i64 aw.zero.l, .slice none 0 0]) (by simp [results,Tryd.results54,go_sem, *]) rfl kN.out
  ·obtain⟨E,hE⟩:=bt (x.m.ny a.s a.t a.v)
   have yl:=hdd (show gS x a=x by unfold gS;rw [ar hk,ai ee])
   have rN:=hdd (show (⟨E,aw.zero,[]⟩:An)=kX x a by unfold kX;rw [ar hk,hE])
   have tI:=H7 HE.out.is ((HC.out _ B0).base _ (Only.refl _ _)) hs (nN.out _ B0) ee
   rw [hE]at tI ee
   have wW:=hdd tI
   have Vv:=hdd ee
   clear ee hk hE tI
   go_upto_region 5 with (fail)
   refine eF [(0,1),(1,1),(2,1),(3,1),(4,0),(5,1),(6,0),(7,1),(8,0),(9,1),(10,0),(11,1),(12,2),(13,1),(14,1),(15,3),(16,1),(17,3)] 15 (fun W=>SA gb w b a sa sc g0 l0 p0 g1 l1 p1 g2 l2 p2 so sn sp kp W) bT bT (HS.out _ B0) ?_
   (simp only [bG,List.filterMap_cons,List.filterMap_nil,List.getElem?_cons_zero,List.getElem?_cons_succ,Option.map_some])
   (repeat first|refine aY ?_|refine aX ?_)
   refine aP rfl (fun K hK=>?_)
   go_simp
   (with_reducible refine wW.out.mono ?_)
   rintro e w1 ⟨hb1,rfl⟩
   go_simp
   have B1:ah W0 w1:=Below.trans' B0 hb1 aH
   refine hK _ _ (HS.out _ B1) ?_
   clear hK K hb1
   (repeat first|refine aY ?_|refine aX ?_)
   refine bn rfl (fun K hK=>?_)
   go_simp
   (with_reducible refine(ID Vv.out).mono ?_)
   rintro e w2 ⟨rfl,hb2⟩
   go_simp
   refine hK _ _ ?_
   clear hK K
   have B2:ah W0 w2:=Below.trans' B1 hb2 B1.size
   obtain⟨o0,o1,o2,o3,o4,o5,o6,o7,of⟩:=(HZ.out _ B2).oH
   (repeat first|refine aY ?_|refine aX ?_)
   refine bn rfl (fun K hK=>?_)
   go_simp
   refine hK _ _ ?_
   clear hK K
   refine cy ?_
   obtain⟨V,hV⟩:=bP (w2.setCell ⟨w.heap.size+1+1,0,none⟩ (.int .i64 E))
   have sk:jy w a ⟨⟨E,aw.zero,[]⟩,none,0,0⟩ V:=by rw [hV];exact(HZ.out _ B2).set rfl
   have kN:=hdd (rH (V:=V) (q:=⟨⟨E,aw.zero,[]⟩,none,0,0⟩) HE.out sk (by rw [hV];exact(HB.out _ B2).setCell (by show w.heap.size<=w.heap.size+1+1;omega) _) HD.out.1 yl.out (OwnRows.nil _ _) rN.out)
   rw [<-hV]
   clear hV B2 o0 o1 o2 o3 o4 o5 o6 o7 of
   obtain⟨o0,o1,o2,o3,o4,o5,o6,o7,of⟩:=sk.oH
   obtain⟨r0,r1,r2,r3,r4,r5,r6,r7,rf⟩:=sk.AK
   go_wp2_with fail
   exact bodyPost_ret (v:= .agg #[.int .i64 E, .int .i64 aw.zero.c, .int .i64 aw.zero.s, .int .i64 aw.zero.mi, .int .i64 aw.zero.ma, .int .i64 aw.zero.t, .int .i64 aw.zero.l, .slice none 0 0]) (by simp [results,Tryd.results54,go_sem, *]) rfl kN.out
 have Ij:=hdd hk
 clear hk
 by_cases hk:a.k=2
 ·skip
  have d1:(a.k == 1)=false:=by simp;omega
  have d2:(a.k == 2)=true:=by simp [hk]
  have yl:=hdd (show gS x a=x by unfold gS;rw [ai af,ai af,ai af,ai af])
  have rN:=hdd (show (⟨x.m.eQ a.s a.sz a.t a.z,aw.zero,x.m.rows a.s a.sz a.t a.z⟩:An)=kX x a by unfold kX;rw [ai af,ar hk])
  have tI:=Pf (s:=a.s) (n:=a.sz) (a:=a.t) (z:=a.z) HE.out.is af ((HC.out _ B0).base _ (Only.refl _ _)) (nN.out _ B0)
  obtain⟨E,hE⟩:=bt (x.m.eQ a.s a.sz a.t a.z)
  obtain⟨R,hR⟩:=bt (x.m.rows a.s a.sz a.t a.z)
  rw [hE,hR]at tI rN
  have wW:=hdd tI
  clear hk hE hR tI
  go_upto_region 7 with (fail)
  refine eF [(0,1),(1,1),(2,1),(3,0),(4,1),(5,0),(6,1),(7,0),(8,1),(9,0),(10,1),(11,0),(12,3),(13,1),(14,1),(15,1),(16,1),(17,3),(18,1),(19,3)] 12 (fun W=>SA gb w b a sa sc g0 l0 p0 g1 l1 p1 g2 l2 p2 so sn sp kp W) bT bT (HS.out _ B0) ?_
  (simp only [bG,List.filterMap_cons,List.filterMap_nil,List.getElem?_cons_zero,List.getElem?_cons_succ,Option.map_some])
  (repeat first|refine aY ?_|refine aX ?_)
  refine bn rfl (fun K hK=>?_)
  go_simp
  (with_reducible refine wW.out.mono ?_)
  rintro e w1 ⟨hb1,ro,rc,rfl,hro⟩
  go_simp
  refine hK _ _ ?_
  clear hK K
  have B1:ah W0 w1:=Below.trans' B0 hb1 aH
  obtain⟨o0,o1,o2,o3,o4,o5,o6,o7,of⟩:=(HZ.out _ B1).oH
  clear hb1 e0 e1 e2 e3 e4 e5 e6 e7 e8 e9 ef
  (repeat first|refine aY ?_|refine aX ?_)
  refine bn rfl (fun K hK=>?_)
  go_simp
  refine hK _ _ ?_
  clear hK K
  obtain⟨V1,hV1⟩:=bP (w1.setCell ⟨w.heap.size+1+1,7,none⟩ (.slice ro R.length rc))
  have Nc:jy w a ⟨⟨0,aw.zero,R⟩,ro,R.length,rc⟩ V1:=by rw [hV1];exact(HZ.out _ B1).set rfl
  have tX:=hdd (show ah w V1 by rw [hV1];exact(HB.out _ B1).setCell (by show w.heap.size<=w.heap.size+1+1;omega) _)
  have Uq:=hdd (show OwnRows (w.heap.size+3) V1 (.slice ro R.length rc) R by rw [hV1];rw [hk3]at hro;exact hro.block fun g hg=>heap_setCell_other _ ⟨w.heap.size+1+1,_,none⟩ _ _ (by have h:=(hro.lt g hg).1;show g≠w.heap.size+1+1;omega))
  rw [<-hV1]
  clear hV1 hro o0 o1 o2 o3 o4 o5 o6 o7 of
  have OG:=hdd Nc
  obtain⟨o0,o1,o2,o3,o4,o5,o6,o7,of⟩:=Nc.oH
  clear Nc
  (repeat first|refine aY ?_|refine aX ?_)
  refine bn rfl (fun K hK=>?_)
  go_simp
  refine hK _ _ ?_
  clear hK K
  refine cy ?_
  obtain⟨V,hV⟩:=bP (V1.setCell ⟨w.heap.size+1+1,0,none⟩ (.int .i64 E))
  have sk:jy w a ⟨⟨E,aw.zero,R⟩,ro,R.length,rc⟩ V:=by rw [hV];exact OG.out.set rfl
  have kN:=hdd (rH (V:=V) (q:=⟨⟨E,aw.zero,R⟩,ro,R.length,rc⟩) HE.out sk (by rw [hV];exact tX.out.setCell (by show w.heap.size<=w.heap.size+1+1;omega) _) HD.out.1 yl.out (by rw [hV];exact Uq.out.block fun g hg=>heap_setCell_other _ ⟨w.heap.size+1+1,_,none⟩ _ _ (by have h:=(Uq.out.lt g hg).1;show g≠w.heap.size+1+1;omega)) rN.out)
  rw [<-hV]
  clear hV o0 o1 o2 o3 o4 o5 o6 o7 of
  obtain⟨o0,o1,o2,o3,o4,o5,o6,o7,of⟩:=sk.oH
  obtain⟨r0,r1,r2,r3,r4,r5,r6,r7,rf⟩:=sk.AK
  go_wp2_with fail
  exact bodyPost_ret (v:= .agg #[.int .i64 E, .int .i64 aw.zero.c, .int .i64 aw.zero.s, .int .i64 aw.zero.mi, .int .i64 aw.zero.ma, .int .i64 aw.zero.t, .int .i64 aw.zero.l, .slice ro R.length rc]) (by simp [results,Tryd.results54,go_sem, *]) rfl kN.out
 have Og:=hdd hk
 clear hk
 have k1:=Ij.out
 have k2:=Og.out
 by_cases hk:a.k=3
 ·skip
  have d1:(a.k == 1)=false:=by simp;omega
  have d2:(a.k == 2)=false:=by simp;omega
  have d3:(a.k == 3)=true:=by simp [hk]
  have yl:=hdd (show gS x a=x by have k1:=Ij.out;have k2:=Og.out;unfold gS;rw [ai af,ai af,ai af,ai af])
  have rN:=hdd (show (⟨x.m.yR a.s a.t a.z,x.m.QL a.s a.t a.z,[]⟩:An)=kX x a by unfold kX;rw [ai af,ai af,ar hk])
  have tI:=R5 (s:=a.s) (a:=a.t) (z:=a.z) HE.out.is af ((HC.out _ B0).base _ (Only.refl _ _)) (nN.out _ B0)
  obtain⟨E,hE⟩:=bt (x.m.yR a.s a.t a.z)
  obtain⟨R,hR⟩:=bt (x.m.QL a.s a.t a.z)
  rw [hE,hR]at tI rN
  have wW:=hdd tI
  clear hk hE hR tI
  go_upto_region 9 with (fail)
  refine eF [(0,1),(1,1),(2,1),(3,0),(4,1),(5,0),(6,1),(7,0),(8,1),(9,0),(10,3),(11,1),(12,1),(13,1),(14,1),(15,3),(16,1),(17,3)] 10 (fun W=>SA gb w b a sa sc g0 l0 p0 g1 l1 p1 g2 l2 p2 so sn sp kp W) bT bT (HS.out _ B0) ?_
  (simp only [bG,List.filterMap_cons,List.filterMap_nil,List.getElem?_cons_zero,List.getElem?_cons_succ,Option.map_some])
  (repeat first|refine aY ?_|refine aX ?_)
  refine bn rfl (fun K hK=>?_)
  go_simp
  (with_reducible refine wW.out.mono ?_)
  rintro e w1 ⟨hb1,rfl⟩
  go_simp
  refine hK _ _ ?_
  clear hK K
  have B1:ah W0 w1:=Below.trans' B0 hb1 aH
  obtain⟨o0,o1,o2,o3,o4,o5,o6,o7,of⟩:=(HZ.out _ B1).oH
  clear hb1 e0 e1 e2 e3 e4 e5 e6 e7 e8 e9 ef
  (repeat first|refine aY ?_|refine aX ?_)
  refine bn rfl (fun K hK=>?_)
  go_simp
  refine hK _ _ ?_
  clear hK K
  obtain⟨V1,hV1⟩:=bP ((((((w1.setCell ⟨w.heap.size+1+1,1,none⟩ (.int .i64 R.c)).setCell ⟨w.heap.size+1+1,2,none⟩ (.int .i64 R.s)).setCell ⟨w.heap.size+1+1,3,none⟩ (.int .i64 R.mi)).setCell ⟨w.heap.size+1+1,4,none⟩ (.int .i64 R.ma)).setCell ⟨w.heap.size+1+1,5,none⟩ (.int .i64 R.t)).setCell ⟨w.heap.size+1+1,6,none⟩ (.int .i64 R.l))
  have Nc:jy w a ⟨⟨0,R,[]⟩,none,0,0⟩ V1:=by rw [hV1];exact(((((((HZ.out _ B1).set (r:=⟨⟨0,⟨R.c,0,0,0,0,0⟩,[]⟩,none,0,0⟩) rfl).set (r:=⟨⟨0,⟨R.c,R.s,0,0,0,0⟩,[]⟩,none,0,0⟩) rfl).set (r:=⟨⟨0,⟨R.c,R.s,R.mi,0,0,0⟩,[]⟩,none,0,0⟩) rfl).set (r:=⟨⟨0,⟨R.c,R.s,R.mi,R.ma,0,0⟩,[]⟩,none,0,0⟩) rfl).set (r:=⟨⟨0,⟨R.c,R.s,R.mi,R.ma,R.t,0⟩,[]⟩,none,0,0⟩) rfl).set (r:=⟨⟨0,R,[]⟩,none,0,0⟩) rfl)
  have tX:=hdd (show ah w V1 by rw [hV1];exact E7 (HB.out _ B1) af _ _ _ _ _ _)
  rw [<-hV1]
  clear hV1 o0 o1 o2 o3 o4 o5 o6 o7 of
  have OG:=hdd Nc
  obtain⟨o0,o1,o2,o3,o4,o5,o6,o7,of⟩:=Nc.oH
  clear Nc
  (repeat first|refine aY ?_|refine aX ?_)
  refine bn rfl (fun K hK=>?_)
  go_simp
  refine hK _ _ ?_
  clear hK K
  refine cy ?_
  obtain⟨V,hV⟩:=bP (V1.setCell ⟨w.heap.size+1+1,0,none⟩ (.int .i64 E))
  have sk:jy w a ⟨⟨E,R,[]⟩,none,0,0⟩ V:=by rw [hV];exact OG.out.set rfl
  have kN:=hdd (rH (V:=V) (q:=⟨⟨E,R,[]⟩,none,0,0⟩) HE.out sk (by rw [hV];exact tX.out.setCell (by show w.heap.size<=w.heap.size+1+1;omega) _) HD.out.1 yl.out (OwnRows.nil _ _) rN.out)
  rw [<-hV]
  clear hV o0 o1 o2 o3 o4 o5 o6 o7 of
  obtain⟨o0,o1,o2,o3,o4,o5,o6,o7,of⟩:=sk.oH
  obtain⟨r0,r1,r2,r3,r4,r5,r6,r7,rf⟩:=sk.AK
  go_wp2_with fail
  exact bodyPost_ret (v:= .agg #[.int .i64 E, .int .i64 R.c, .int .i64 R.s, .int .i64 R.mi, .int .i64 R.ma, .int .i64 R.t, .int .i64 R.l, .slice none 0 0]) (by simp [results,Tryd.results54,go_sem, *]) rfl kN.out
 have Vr:=hdd hk
 have k3:=hk
 clear hk
 by_cases hk:a.k=4
 ·skip
  have d1:(a.k == 1)=false:=by simp;omega
  have d2:(a.k == 2)=false:=by simp;omega
  have d3:(a.k == 3)=false:=by simp;omega
  have d4:(a.k == 4)=true:=by simp [hk]
  by_cases ee:x.m.A5 a.t=0
  ·have yl:=hdd (show gS x a=⟨x.m.exp a.t,x.s⟩ by unfold gS;rw [ai af,ar hk,ar ee])
   have rN:=hdd (show (⟨0,aw.zero,[]⟩:An)=kX x a by unfold kX;rw [ai af,ai af,ai af,ar hk,ee])
   have wW:=hdd (Hi HE.out.is af ((HC.out _ B0).base _ (Only.refl _ _)) (nN.out _ B0) ee)
   clear ee hk
   go_upto_region 11 with (fail)
   refine eF [(0,1),(1,1),(2,1),(3,1),(4,0),(5,1),(6,0),(7,2),(8,1),(9,1),(10,3),(11,1),(12,3)] 10 (fun W=>SA gb w b a sa sc g0 l0 p0 g1 l1 p1 g2 l2 p2 so sn sp kp W) bT bT (HS.out _ B0) ?_
   (simp only [bG,List.filterMap_cons,List.filterMap_nil,List.getElem?_cons_zero,List.getElem?_cons_succ,Option.map_some])
   (repeat first|refine aY ?_|refine aX ?_)
   refine aP rfl (fun K hK=>?_)
   go_simp
   (with_reducible refine wW.out.mono ?_)
   rintro e w1 ⟨hb1,c,ya,yc,z0,m0,q0,z1,m1,q1,z2,m2,q2,rfl,Oz,hi⟩
   go_simp
   have B1:ah W0 w1:=Below.trans' B0 hb1 aH
   refine hK _ _ (HS.out _ B1) ?_
   clear hK K
   have FI:=hdd (aL Oz hi)
   clear Oz hi hb1 e0 e1 e2 e3 e4 e5 e6 e7 e8 e9 ef
   (repeat first|refine aY ?_|refine aX ?_)
   have K2:=hdd (HC.out _ B1).box
   refine bn rfl (fun K hK=>?_)
   go_simp
   (with_reducible refine(FX K2.out).mono ?_)
   rintro e w2 ⟨rfl,ht2,hb2⟩
   go_simp
   refine hK _ _ ?_
   clear hK K
   have Fk:=hdd ((HZ.out _ B1).turn ht2 hgl)
   obtain⟨o0,o1,o2,o3,o4,o5,o6,o7,of⟩:=Fk.out.oH
   have rK:=hdd (aL ht2 hb2)
   clear ht2 hb2
   (repeat first|refine aY ?_|refine aX ?_)
   refine bn rfl (fun K hK=>?_)
   go_simp
   refine hK _ _ ?_
   clear hK K
   refine cy ?_
   obtain⟨V,hV⟩:=bP (w2.setCell ⟨w.heap.size+1+1,0,none⟩ (.int .i64 0))
   have sk:jy w a ⟨⟨0,aw.zero,[]⟩,none,0,0⟩ V:=by rw [hV];exact Fk.out.set rfl
   have kN:=hdd (vh (V:=V) (q:=⟨⟨0,aw.zero,[]⟩,none,0,0⟩) HE.out HD.out.1 HD.out.2 (HB.out _ B1) (fun w'' hw=>FI.out.1 w'' (by rw [hk3];exact hw)) FI.out.2 (by rw [hV];exact aa0.setCell (rK.out.1.mono fun i _ hi=> .inl hi) (.inl (.inr ⟨by show w.heap.size<=w.heap.size+1+1;omega,by show w.heap.size+1+1<w.heap.size+3;omega⟩)) _) (by rw [hV];exact(heap_setCell_other _ ⟨w.heap.size+1+1,_,none⟩ _ _ GQ).trans rK.out.2) yl.out rN.out ⟨rfl,rfl,rfl,rfl⟩)
   rw [<-hV]
   clear hV o0 o1 o2 o3 o4 o5 o6 o7 of
   obtain⟨o0,o1,o2,o3,o4,o5,o6,o7,of⟩:=sk.oH
   obtain⟨r0,r1,r2,r3,r4,r5,r6,r7,rf⟩:=sk.AK
   go_wp2_with fail
   exact bodyPost_ret (v:= .agg #[.int .i64 0, .int .i64 aw.zero.c, .int .i64 aw.zero.s, .int .i64 aw.zero.mi, .int .i64 aw.zero.ma, .int .i64 aw.zero.t, .int .i64 aw.zero.l, .slice none 0 0]) (by simp [results,Tryd.results54,go_sem, *]) rfl kN.out
  ·obtain⟨E,hE⟩:=bt (x.m.A5 a.t)
   have yl:=hdd (show gS x a=x by unfold gS;rw [ai af,ar hk,ai ee])
   have rN:=hdd (show (⟨E,aw.zero,[]⟩:An)=kX x a by unfold kX;rw [ai af,ai af,ai af,ar hk,hE])
   have tI:=Hj HE.out.is ((HC.out _ B0).base _ (Only.refl _ _)) (nN.out _ B0) ee
   rw [hE]at tI ee
   have wW:=hdd tI
   have Vv:=hdd ee
   clear ee hk hE tI
   go_upto_region 11 with (fail)
   refine eF [(0,1),(1,1),(2,1),(3,1),(4,0),(5,1),(6,0),(7,2),(8,1),(9,1),(10,3),(11,1),(12,3)] 10 (fun W=>SA gb w b a sa sc g0 l0 p0 g1 l1 p1 g2 l2 p2 so sn sp kp W) bT bT (HS.out _ B0) ?_
   (simp only [bG,List.filterMap_cons,List.filterMap_nil,List.getElem?_cons_zero,List.getElem?_cons_succ,Option.map_some])
   (repeat first|refine aY ?_|refine aX ?_)
   refine aP rfl (fun K hK=>?_)
   go_simp
   (with_reducible refine wW.out.mono ?_)
   rintro e w1 ⟨hb1,rfl⟩
   go_simp
   have B1:ah W0 w1:=Below.trans' B0 hb1 aH
   refine hK _ _ (HS.out _ B1) ?_
   clear hK K hb1
   (repeat first|refine aY ?_|refine aX ?_)
   refine bn rfl (fun K hK=>?_)
   go_simp
   (with_reducible refine(ID Vv.out).mono ?_)
   rintro e w2 ⟨rfl,hb2⟩
   go_simp
   refine hK _ _ ?_
   clear hK K
   have B2:ah W0 w2:=Below.trans' B1 hb2 B1.size
   obtain⟨o0,o1,o2,o3,o4,o5,o6,o7,of⟩:=(HZ.out _ B2).oH
   (repeat first|refine aY ?_|refine aX ?_)
   refine bn rfl (fun K hK=>?_)
   go_simp
   refine hK _ _ ?_
   clear hK K
   refine cy ?_
   obtain⟨V,hV⟩:=bP (w2.setCell ⟨w.heap.size+1+1,0,none⟩ (.int .i64 E))
   have sk:jy w a ⟨⟨E,aw.zero,[]⟩,none,0,0⟩ V:=by rw [hV];exact(HZ.out _ B2).set rfl
   have kN:=hdd (rH (V:=V) (q:=⟨⟨E,aw.zero,[]⟩,none,0,0⟩) HE.out sk (by rw [hV];exact(HB.out _ B2).setCell (by show w.heap.size<=w.heap.size+1+1;omega) _) HD.out.1 yl.out (OwnRows.nil _ _) rN.out)
   rw [<-hV]
   clear hV B2 o0 o1 o2 o3 o4 o5 o6 o7 of
   obtain⟨o0,o1,o2,o3,o4,o5,o6,o7,of⟩:=sk.oH
   obtain⟨r0,r1,r2,r3,r4,r5,r6,r7,rf⟩:=sk.AK
   go_wp2_with fail
   exact bodyPost_ret (v:= .agg #[.int .i64 E, .int .i64 aw.zero.c, .int .i64 aw.zero.s, .int .i64 aw.zero.mi, .int .i64 aw.zero.ma, .int .i64 aw.zero.t, .int .i64 aw.zero.l, .slice none 0 0]) (by simp [results,Tryd.results54,go_sem, *]) rfl kN.out
 have k4:=hk
 clear hk
 by_cases hk:a.k=5
 ·skip
  have d1:(a.k == 1)=false:=by simp;omega
  have d2:(a.k == 2)=false:=by simp;omega
  have d3:(a.k == 3)=false:=by simp;omega
  have d4:(a.k == 4)=false:=by simp;omega
  have d5:(a.k == 5)=true:=by simp [hk]
  have yl:=hdd (show gS x a=⟨x.m,x.m⟩ by unfold gS;rw [ai af,ai af,ar hk])
  have rN:=hdd (show (⟨0,aw.zero,[]⟩:An)=kX x a by unfold kX;rw [ai af,ai af,ai af,ai af,ar (.inl hk)])
  have Wv:x.m.bytes.length<=1000000:=by have h1:=HE.out.is.ok af;have h2:=h1.fit.short (by have:=h1.len;omega);show (dz _ _ _++_).length<=_;omega
  have wW:=hdd (CO HE.out.is af ((HC.out W0 (aI _ _)).base _ (Only.refl _ _)) (nN.out W0 (aI _ _)))
  have Aw:=hdd Wv
  clear hk Wv
  go_upto_region 14 with (go_at_call 30;(with_reducible refine wW.out.mono ?_);rintro e w1 ⟨hb1,ro,rc,rfl,hro⟩)
  have B1:ah W0 w1:=hb1
  have FD:=hdd hro
  have tX:=hdd (HC.out _ B1).box
  obtain⟨RN,hRN⟩:=bt (x.m.bytes.length)
  have vF:=hdd hRN
  rw [hRN]
  clear hRN hro
  obtain⟨o0,o1,o2,o3,o4,o5,o6,o7,of⟩:=(HZ.out _ B1).oH
  clear hb1 e0 e1 e2 e3 e4 e5 e6 e7 e8 e9 ef
  go_upto_region 15 with (fail)
  obtain⟨V1,hV1⟩:=bP (w1.setCell ⟨w.heap.size+1+1,0,none⟩ (.int .i64 0))
  have OG:=hdd (show jy w a ⟨⟨0,aw.zero,[]⟩,none,0,0⟩ V1 by rw [hV1];exact(HZ.out _ B1).set rfl)
  have N1:=hdd (show aa0 (Loc gb w.heap.size (w.heap.size+3)) w1 V1 by rw [hV1];exact aa0.setCell (aa0.refl _ _) (.inl (.inr ⟨by show w.heap.size<=w.heap.size+1+1;omega,by show w.heap.size+1+1<w.heap.size+3;omega⟩)) _)
  have hg1:V1.heap[gb]?=w1.heap[gb]?:=by rw [hV1];exact heap_setCell_other _ ⟨w.heap.size+1+1,_,none⟩ _ _ GQ
  have Zu:=hdd (hg1.trans tX.out)
  clear hg1
  rw [<-hV1]
  clear hV1 o0 o1 o2 o3 o4 o5 o6 o7 of
  obtain⟨g8,g9,gf⟩:V1.cell? ⟨gb,8,none⟩=some (.slice so sn sp)/\V1.cell? ⟨gb,9,none⟩=some (.bool kp)/\∀o,V1.frozen? ⟨gb,o,none⟩=false:=by have h1:=Zu.out;simp [World.cell?,World.frozen?,h1]
  go_upto_region 21 with (fail)
  obtain⟨V,hV⟩:=bP ((V1.setCell ⟨gb,8,none⟩ (.slice ro RN rc)).setCell ⟨gb,9,none⟩ (.bool true))
  have Tw:aa0 (fun i=>i=gb) V1 V:=by rw [hV];exact aa0.setCell (X:=fun i=>i=gb) (p:=⟨gb,9,none⟩) (aa0.setCell (X:=fun i=>i=gb) (p:=⟨gb,8,none⟩) (aa0.refl _ _) (.inl rfl) _) (.inl rfl) _
  have sk:jy w a ⟨⟨0,aw.zero,[]⟩,none,0,0⟩ V:=OG.out.turn Tw hgl
  have kN:=hdd (NL (V:=V) (q:=⟨⟨0,aw.zero,[]⟩,none,0,0⟩) HE.out hN HD.out.1 HD.out.2 (HB.out _ B1) (by have h:=FD.out;rw [hz0]at h;exact h) Aw.out (N1.out.trans (Tw.mono fun i _ hi=> .inl hi)) (by rw [hV,vF.out];have h:=heap_setCell_same (off:=9) (v:= .bool true) (heap_setCell_same (off:=8) (v:= .slice ro RN rc) Zu.out);simpa using h) yl.out rN.out ⟨rfl,rfl,rfl,rfl⟩)
  rw [<-hV]
  clear hV Tw g8 g9 gf
  obtain⟨o0,o1,o2,o3,o4,o5,o6,o7,of⟩:=sk.oH
  obtain⟨r0,r1,r2,r3,r4,r5,r6,r7,rf⟩:=sk.AK
  go_wp2_with fail
  exact bodyPost_ret (v:= .agg #[.int .i64 0, .int .i64 aw.zero.c, .int .i64 aw.zero.s, .int .i64 aw.zero.mi, .int .i64 aw.zero.ma, .int .i64 aw.zero.t, .int .i64 aw.zero.l, .slice none 0 0]) (by simp [results,Tryd.results54,go_sem, *]) rfl kN.out
 have k5:=hk
 clear hk
 by_cases hk:a.k=6
 ·skip
  have d1:(a.k == 1)=false:=by simp;omega
  have d2:(a.k == 2)=false:=by simp;omega
  have d3:(a.k == 3)=false:=by simp;omega
  have d4:(a.k == 4)=false:=by simp;omega
  have d5:(a.k == 5)=false:=by simp;omega
  have d6:(a.k == 6)=true:=by simp [hk]
  have yl:=hdd (show gS x a=⟨x.s,x.s⟩ by unfold gS;rw [ai af,ai af,ai af,ar hk])
  have rN:=hdd (show (⟨0,aw.zero,[]⟩:An)=kX x a by unfold kX;rw [ai af,ai af,ai af,ai af,ar (.inr hk)])
  clear hk
  cases kp with
  |false=>
   have hx0:=HE.out.UR rfl
   have HN:=hdd (uX W0)
   have HX0:=hdd hx0
   clear hx0
   go_upto_region 19 with (fail)
   clear e0 e1 e2 e3 e4 e5 e6 e7 e8 e9 ef
   have rJ:=hdd fun w1 (hb1:ah W0 w1)=>(HC.out w1 hb1).cells
   go_upto_region 21 with (go_at_call 53;(with_reducible refine HN.out.mono ?_);rintro e w1 ⟨⟨v1,rfl,vC⟩,hb1⟩;obtain⟨ya,yc,z0,m0,q0,z1,m1,q1,z2,m2,q2,rfl,-⟩:=(vC w1 (aM.refl _ _)).open;obtain⟨e0,e1,e2,e3,e4,e5,e6,e7,e8,e9,ef⟩:=rJ.out _ hb1)
   have B1:ah W0 w1:=hb1
   obtain⟨V,hV⟩:=bP (((((((((w1.setCell ⟨gb,0,none⟩ (.slice ya ky.names.length yc)).setCell ⟨gb,1,none⟩ (.slice z0 m0 q0)).setCell ⟨gb,2,none⟩ (.int .i64 ky.t0.root)).setCell ⟨gb,3,none⟩ (.slice z1 m1 q1)).setCell ⟨gb,4,none⟩ (.int .i64 ky.t1.root)).setCell ⟨gb,5,none⟩ (.slice z2 m2 q2)).setCell ⟨gb,6,none⟩ (.int .i64 ky.t2.root)).setCell ⟨gb,7,none⟩ (.int .i64 ky.floor)))
   have Tw:aa0 (fun i=>i=gb) w1 V:=by rw [hV];exact sX (aa0.refl _ _) _ _ _ _ _ _ _ _
   have sk:jy w a ⟨⟨0,aw.zero,[]⟩,none,0,0⟩ V:=(HZ.out _ B1).turn Tw hgl
   have kN:=hdd (vh (V:=V) (q:=⟨⟨0,aw.zero,[]⟩,none,0,0⟩) (y:=x.s) HE.out HD.out.1 HD.out.2 (HB.out _ B1) (fun w'' hw=>vC w'' (hw.mono af)) (by rw [HX0.out];exact Mn.mono af) (Tw.mono fun i _ hi=> .inl hi) (by rw [hV];exact zN (HC.out _ B1).box) yl.out rN.out ⟨rfl,rfl,rfl,rfl⟩)
   rw [<-hV]
   clear hV Tw vC hb1 e0 e1 e2 e3 e4 e5 e6 e7 e8 e9 ef
   obtain⟨o0,o1,o2,o3,o4,o5,o6,o7,of⟩:=sk.oH
   obtain⟨r0,r1,r2,r3,r4,r5,r6,r7,rf⟩:=sk.AK
   go_wp2_with fail
   exact bodyPost_ret (v:= .agg #[.int .i64 0, .int .i64 aw.zero.c, .int .i64 aw.zero.s, .int .i64 aw.zero.mi, .int .i64 aw.zero.ma, .int .i64 aw.zero.t, .int .i64 aw.zero.l, .slice none 0 0]) (by simp [results,Tryd.results54,go_sem, *]) rfl kN.out
  |true=>
   have HDC:=hdd (TX HE.out.ok af ((HC.out W0 (aI _ _)).saved rfl _ (Only.refl _ _)) (nN.out W0 (aI _ _)))
   have rJ:=hdd fun w1 (hb1:ah W0 w1)=>(HC.out w1 hb1).box
   go_upto_region 20 with (fail)
   go_upto_region 21 with (first|(go_at_call 86;(with_reducible refine HDC.out.mono ?_);rintro e w1 ⟨hb1,c,ya,yc,z0,m0,q0,z1,m1,q1,z2,m2,q2,rfl,Oz,hi⟩;have FI:=hdd (aL Oz hi);clear Oz hi;have K2:=rJ.out _ hb1)|(go_at_call 82;(with_reducible refine(FX K2).mono ?_);rintro e w2 ⟨rfl,ht2,hb2⟩;have Fk:=hdd ((HZ.out _ hb1).turn ht2 hgl);obtain⟨o0,o1,o2,o3,o4,o5,o6,o7,of⟩:=Fk.out.oH;have rK:=hdd (aL ht2 hb2);clear ht2 hb2))
   have B1:ah W0 w1:=hb1
   obtain⟨V,hV⟩:=bP (w2.setCell ⟨w.heap.size+1+1,0,none⟩ (.int .i64 0))
   have sk:jy w a ⟨⟨0,aw.zero,[]⟩,none,0,0⟩ V:=by rw [hV];exact Fk.out.set rfl
   have kN:=hdd (vh (V:=V) (q:=⟨⟨0,aw.zero,[]⟩,none,0,0⟩) HE.out HD.out.1 HD.out.2 (HB.out _ B1) (fun w'' hw=>FI.out.1 w'' (by rw [hz0];exact hw)) (FI.out.2.mono af) (by rw [hV];exact aa0.setCell (rK.out.1.mono fun i _ hi=> .inl hi) (.inl (.inr ⟨by show w.heap.size<=w.heap.size+1+1;omega,by show w.heap.size+1+1<w.heap.size+3;omega⟩)) _) (by rw [hV];exact(heap_setCell_other _ ⟨w.heap.size+1+1,_,none⟩ _ _ GQ).trans rK.out.2) yl.out rN.out ⟨rfl,rfl,rfl,rfl⟩)
   rw [<-hV]
   clear hV K2 o0 o1 o2 o3 o4 o5 o6 o7 of
   clear e0 e1 e2 e3 e4 e5 e6 e7 e8 e9 ef
   obtain⟨o0,o1,o2,o3,o4,o5,o6,o7,of⟩:=sk.oH
   obtain⟨r0,r1,r2,r3,r4,r5,r6,r7,rf⟩:=sk.AK
   go_wp2_with fail
   exact bodyPost_ret (v:= .agg #[.int .i64 0, .int .i64 aw.zero.c, .int .i64 aw.zero.s, .int .i64 aw.zero.mi, .int .i64 aw.zero.ma, .int .i64 aw.zero.t, .int .i64 aw.zero.l, .slice none 0 0]) (by simp [results,Tryd.results54,go_sem, *]) rfl kN.out
 have k6:=hk
 clear hk
 have d1:(a.k == 1)=false:=by simp;omega
 have d2:(a.k == 2)=false:=by simp;omega
 have d3:(a.k == 3)=false:=by simp;omega
 have d4:(a.k == 4)=false:=by simp;omega
 have d5:(a.k == 5)=false:=by simp;omega
 have d6:(a.k == 6)=false:=by simp;omega
 have yl:=hdd (show gS x a=x by unfold gS;rw [ai af,ai af,ai af,ai af])
 have rN:=hdd (show (⟨3,aw.zero,[]⟩:An)=kX x a by unfold kX;rw [ai af,ai af,ai af,ai af,ai af])
 clear e0 e1 e2 e3 e4 e5 e6 e7 e8 e9 ef
 obtain⟨o0,o1,o2,o3,o4,o5,o6,o7,of⟩:=(HZ.out W0 (aI _ _)).oH
 go_upto_region 21 with (fail)
 obtain⟨V,hV⟩:=bP (W0.setCell ⟨w.heap.size+1+1,0,none⟩ (.int .i64 3))
 have sk:jy w a ⟨⟨3,aw.zero,[]⟩,none,0,0⟩ V:=by rw [hV];exact(HZ.out W0 (aI _ _)).set rfl
 have kN:=hdd (rH (V:=V) (q:=⟨⟨3,aw.zero,[]⟩,none,0,0⟩) HE.out sk (by rw [hV];exact(HB.out W0 (aI _ _)).setCell (by show w.heap.size<=w.heap.size+1+1;omega) _) HD.out.1 yl.out (OwnRows.nil _ _) rN.out)
 rw [<-hV]
 clear hV o0 o1 o2 o3 o4 o5 o6 o7 of
 obtain⟨o0,o1,o2,o3,o4,o5,o6,o7,of⟩:=sk.oH
 obtain⟨r0,r1,r2,r3,r4,r5,r6,r7,rf⟩:=sk.AK
 go_wp2_with fail
 exact bodyPost_ret (v:= .agg #[.int .i64 3, .int .i64 aw.zero.c, .int .i64 aw.zero.s, .int .i64 aw.zero.mi, .int .i64 aw.zero.ma, .int .i64 aw.zero.t, .int .i64 aw.zero.l, .slice none 0 0]) (by simp [results,Tryd.results54,go_sem, *]) rfl kN.out
end
section
set_option maxRecDepth 100000
set_option maxHeartbeats 4000000
variable {xs:List Ac} {gb N:Nat} {D:Nat->Prop} {x:St} {w:World}
def yK (xs:List Ac) (w:World) (e:Ending) (w':World):Prop:=ah w w' /\
 ∃ao ac,∃qs:List qG,∃b sa sc g0 l0 p0 g1 l1 p1 g2 l2 p2,e = .returned (.tuple #[.slice ao qs.length ac, .agg (aG sa b.names.length sc g0 l0 p0 g1 l1 p1 g2 l2 p2 b), .int .i64 0])/\qs.map qG.an=sy St.zero xs /\
  eA w.heap.size w' (.slice ao qs.length ac) qs/\(∀q∈qs,OwnRows w.heap.size w' q.v q.an.rows)/\(∀w'',aM w.heap.size w' w''->bO w'' (.agg (aG sa b.names.length sc g0 l0 p0 g1 l1 p1 g2 l2 p2 b)) b)/\Is b (gK St.zero xs).m xs.length /\
  ∀j,j<=xs.length->(gK St.zero (xs.take j)).m.Ok j
structure NS (w:World) (gb:Nat) (xs:List Ac) (k:Nat) (ov:Value) (qs:List qG) (wr:World):Prop where
 below:ah w wr
 lo:w.heap.size<gb
 lt:gb<wr.heap.size
 res:wr.heap[w.heap.size]?=some (.cells cL 35)
 own:eA (gb+1) wr ov qs
 an:qs.map qG.an=sy St.zero (xs.take k)
 eng:rO gb (fun i=>i=gb\/ov.ownBlock=some i) wr (gK St.zero (xs.take k)) k
 rows:∀q∈qs,OwnRows (gb+1) wr q.v q.an.rows/\∀g,q.v.ownBlock=some g->ov.ownBlock≠some g
 ok:∀j,j<=k->(gK St.zero (xs.take j)).m.Ok j
theorem rO.ok (h:rO gb D w x N) (hN:N<=2900):x.m.Ok N:=by
 obtain⟨b,sa,sc,g0,l0,p0,g1,l1,p1,g2,l2,p2,so,sn,sp,kp,h⟩:=h
 exact h.is.ok hN
theorem rO.move {E:Nat->Prop} {w':World} (h:rO gb D w x N) (hO:Only D w w') (hg:w'.heap[gb]?=w.heap[gb]?) (hE:∀q,q<w.heap.size->E q->D q):rO gb E w' x N:=by
 obtain⟨b,sa,sc,g0,l0,p0,g1,l1,p1,g2,l2,p2,so,sn,sp,kp,h⟩:=h
 have key:∀w'',Only E w' w''->Only D w w'':=fun w'' hw=>⟨ik hO.size hw.size,fun q hq hd=>(hw.block q (mQ hq hO.size) (fun he=>hd (hE q hq he))).trans (hO.block q hq hd)⟩
 exact⟨b,sa,sc,g0,l0,p0,g1,l1,p1,g2,l2,p2,so,sn,sp,kp,hg.trans h.box,h.is,h.ok,fun w'' hw=>h.base w'' (key w'' hw),fun hk w'' hw=>h.saved hk w'' (key w'' hw),h.UR⟩
theorem Lr {k:Nat} (hk:k<xs.length) (x:St):gK x (xs.take (k+1))=gS (gK x (xs.take k)) xs[k]/\sy x (xs.take (k+1))=sy x (xs.take k)++[kX (gK x (xs.take k)) xs[k]]:=by
 rw [kK hk]
 exact⟨rU _ _ _,Bu _ _ _⟩
section
variable {w wr w1 w2 w3 w4:World} {gb:Nat} {xs:List Ac} {k:Nat} {ov v':Value} {qs:List qG} {q:qG} {a:Ac}
theorem NS.step (h:NS w gb xs k ov qs wr) (hk:k<xs.length) (ha:xs[k]=a) (h5:k+1<=500) (h1:ah wr w1) (hq:q.an=kX (gK St.zero (xs.take k)) a) (ht:aa0 (fun i=>i=gb) w1 w2)
  (he:rO gb (fun i=>i=gb\/ov.ownBlock=some i) w2 (gS (gK St.zero (xs.take k)) a) (k+1)) (hr:OwnRows w1.heap.size w2 q.v q.an.rows)
  (h3:ah w2 w3) (h4:eA (gb+1) w4 v' (qs++[q])) (hg:w3.grownBy w4 ov.ownBlock) (hv:v'.ownBlock=ov.ownBlock\/v'.ownBlock=some w3.heap.size):NS w gb xs (k+1) v' (qs++[q]) w4:=by
 subst ha
 have hol:=h.own.lt
 have s1:=h1.size
 have s2:=ht.size
 have s3:=h3.size
 have s4:=hg.size
 have hlo:=h.lo
 have hlt:=h.lt
 obtain⟨e1,e2⟩:=Lr hk St.zero
 have t3:aa0 (fun i=>i=gb\/ov.ownBlock=some i) w2 w4:=aa0.grown (aa0.of h3 aH) hg fun k hk=> .inl (.inr hk)
 have T:aa0 (fun i=>i=gb\/ov.ownBlock=some i) wr w4:=((aa0.of h1 aH).trans (ht.mono fun i _ hi=> .inl hi)).trans t3
 have cZ:=h.below.size
 have MH:∀i,i<gb->¬(i=gb\/ov.ownBlock=some i):=fun i hi hx=>by
  rcases hx with hx|hx
  ·omega
  ·have:=(hol i hx).1;omega
 have g34:∀i,i<w3.heap.size->ov.ownBlock≠some i->w4.heap[i]?=w3.heap[i]?:=fun i hi hn=>hg.block i hi fun e=>hn e.symm
 refine⟨T.below h.below cZ fun i hi=>?_,hlo,by have:=T.size;omega,(T.block _ af (MH _ hlo)).trans h.res,h4,?_,?_,fun p hp=>?_,fun j hj=>?_⟩
 ·rcases hi with hi|hi
  ·omega
  ·have:=(hol i hi).1;omega
 ·rw [Ap,h.an,e2,List.map_cons,List.map_nil,hq]
 ·rw [e1]
  refine he.move (Only.turn t3 fun q hq=>hq) ?_ fun q hq hx=>?_
  ·rw [g34 gb af fun e=>by have:=(hol gb e).1;omega]
   exact h3.block gb af
  ·rcases hx with hx|hx
   ·exact .inl hx
   ·rcases hv with hv|hv
    ·exact .inr (hv▸hx)
    ·rw [hv]at hx;injection hx with hx;omega
 ·rcases kJ.1 hp with hp|hp
  ·obtain⟨r1,r2⟩:=h.rows p hp
   refine⟨r1.block fun g hgg=>T.block g (r1.lt g hgg).2 fun hx=>?_,fun g hgg hx=>?_⟩
   ·rcases hx with hx|hx
    ·have:=(r1.lt g hgg).1;omega
    ·exact r2 g hgg hx
   ·have:=(r1.lt g hgg).2
    rcases hv with hv|hv
    ·exact r2 g hgg (hv▸hx)
    ·rw [hv]at hx;injection hx with hx;omega
  ·rw [mR.1 hp]
   refine⟨(hr.block fun g hgg=>?_).mono af,fun g hgg hx=>?_⟩
   ·obtain⟨q1,q2⟩:=hr.lt g hgg
    rw [g34 g af fun e=>by have:=(hol g e).2;omega]
    exact h3.block g q2
   ·obtain⟨q1,q2⟩:=hr.lt g hgg
    rcases hv with hv|hv
    ·have:=(hol g (hv▸hx)).2;omega
    ·rw [hv]at hx;injection hx with hx;omega
 ·by_cases hjk:j<=k
  ·exact h.ok j hjk
  ·obtain rfl:j=k+1:=af
   rw [e1]
   exact he.ok af
end
theorem Cr {v:Value} (h:Jk w v xs) (hs:∀a∈xs,a.s.size<=140737488351232) (hl:xs.length<=500) (hsz:bL w) :
  Calls Tryd.prog 28 #[v] w (yK xs w):=by
 obtain⟨ao,cap,rfl,a1,a2,a3,a4,a5⟩:=h
 obtain⟨W0,hW0⟩:=bP (w.alloc (.cells cL 35))
 have hb0:ah w W0:=by rw [hW0];exact ag
 have hz0:W0.heap.size=w.heap.size+1:=by rw [hW0];simp
 have k0:W0.heap[w.heap.size]?=some (.cells cL 35):=by rw [hW0];exact aj _ _ rfl
 have hd:decide ((500:Int)<(xs.length:Int))=false:=by simp;omega
 have HN:=hdd (uX W0)
 have nN:=hdd hsz
 have HL:=hdd hl
 have HSS:=hdd hs
 clear hsz hl hs
 go_enter Tryd.func28,Tryd.ntmps28
 go_upto_region 1 with (fail)
 rw [<-hW0]
 clear hW0
 go_upto_region 4 with (go_at_call 53;(with_reducible refine HN.out.mono ?_);rintro e w1 ⟨⟨v1,rfl,vC⟩,hb1⟩;obtain⟨sa,sc,g0,l0,p0,g1,l1,p1,g2,l2,p2,rfl,-⟩:=(vC w1 (aM.refl _ _)).open)
 obtain⟨W1,hW1⟩:=bP (w1.alloc (.cells #[.slice sa ky.names.length sc, .slice g0 l0 p0, .int .i64 ky.t0.root, .slice g1 l1 p1, .int .i64 ky.t1.root, .slice g2 l2 p2, .int .i64 ky.t2.root, .int .i64 ky.floor, .slice none 0 0, .bool false] 104))
 have mL:ah w1 W1:=by rw [hW1];exact ag
 have k1:W1.heap[w1.heap.size]?=some (.cells #[.slice sa ky.names.length sc, .slice g0 l0 p0, .int .i64 ky.t0.root, .slice g1 l1 p1, .int .i64 ky.t1.root, .slice g2 l2 p2, .int .i64 ky.t2.root, .int .i64 ky.floor, .slice none 0 0, .bool false] 104):=by rw [hW1];exact aj _ _ rfl
 have hs1:=hb1.size
 have hz1:W1.heap.size=w1.heap.size+1:=by rw [hW1];simp
 have HI:=hdd (show NS w w1.heap.size xs 0 (.slice none 0 0) [] W1 from
  ⟨Below.trans' (Below.trans' hb0 hb1 hb0.size) mL af,af,af,(mL.block _ af).trans ((hb1.block _ af).trans k0),eA.nil _ _,rfl,
   ⟨ky,sa,sc,g0,l0,p0,g1,l1,p1,g2,l2,p2,none,0,0,false,k1,Mn,Mo.IK 0,fun w'' hw=>vC w'' ⟨by have:=hw.size;omega,fun q _ hq=>(hw.block q af (fun hx=>by
    rcases hx with hx|hx
    ·omega
    ·cases hx)).trans (mL.block q hq)⟩,(fun hk=>by cases hk),fun _=>rfl⟩,(fun q hq=>by cases hq),fun j hj=>by
   obtain rfl:j=0:=af
   exact Mo.IK 0⟩)
 rw [<-hW1]
 obtain⟨gb,hgb⟩:=bt (w1.heap.size)
 rw [hgb]at HI ⊢
 clear hW1 k1 hs1 hz1 k0 hb1 mL hb0 hgb vC HN hd
 go_wp2_with fail
 go_loopg [6,18] xs.length (fun g ov i wr=>∃k:Nat,k<=xs.length/\g=xs.length-k/\i = .int .i64 k/\Hid (∃qs,NS w gb xs k ov qs wr))
 case atStart=>exact⟨0,jd _,rfl,rfl,hdd ⟨_,HI.out⟩⟩
 case round=>
  clear HI
  obtain⟨k,hk,rfl,rfl,HR⟩:=hrel
  obtain⟨qs,hA⟩:=HR.out
  obtain⟨oa,oc,rfl⟩:=hA.own.isSlice
  clear HR
  have PR:qs.length=k:=by
   have h1:=congrArg List.length hA.an
   rw [oJ,uj,eP]at h1
   omega
  have HQL:=hdd PR
  clear PR
  by_cases hlt:k<xs.length
  ·have zJ:(k:Int)<(xs.length:Int):=af
   obtain⟨ab,aV,rfl,sO,ac⟩:=a5 af
   obtain⟨a,ha⟩:=bt (xs[k])
   have hcs:∀W,ah w W->_:=fun W (hb:ah w W)=>wX (w:=W) (b:=ab) (off:=aV) (xs:=xs) (fun i x hi j u hu=>(hb.cell (p:=⟨ab,_,none⟩) sO).trans (ac i x hi j u hu)) hlt
   obtain⟨c0,c1,c2,c3,c4,c5⟩:=hcs _ hA.below
   rw [ha]at c0 c1 c2 c3 c4 c5
   have jS:=fun w'=>CC (ab:=ab) (aV:=aV) (n:=xs.length) (cap:=cap) (show (k:Int)=((k:Nat):Int) by rfl) hlt w'
   have HA:=hdd hA
   have Zt:=hdd ha
   have xB:a.s.size<=140737488351232:=by rw [<-ha];exact HSS.out _ (fP hlt)
   have HSA:=hdd xB
   clear hA ha ac a5 hcs xB
   go_upto_region 8 with (fail)
   obtain⟨W1,hW1⟩:=bP (wr.alloc (.cells a.cs 26))
   have hb1:ah wr W1:=by rw [hW1];exact ag
   have k1:W1.heap[wr.heap.size]?=some (.cells a.cs 26):=by rw [hW1];exact aj _ _ rfl
   have hz1:W1.heap.size=wr.heap.size+1:=by rw [hW1];simp
   obtain⟨x0,x1,x2,x3,x4,x5⟩:W1.cell? ⟨wr.heap.size,0,none⟩=some (.int .i64 a.k)/\W1.cell? ⟨wr.heap.size,1,none⟩=some (.string a.s)/\W1.cell? ⟨wr.heap.size,2,none⟩=some (.int .i64 a.t)/\W1.cell? ⟨wr.heap.size,3,none⟩=some (.int .i64 a.z)/\W1.cell? ⟨wr.heap.size,4,none⟩=some (.int .i64 a.sz)/\W1.cell? ⟨wr.heap.size,5,none⟩=some (.int .i64 a.v):=by simp [World.cell?,k1,Ac.cs]
   have MG:=HA.out.own.lt
   obtain⟨b,sa,sc,g0,l0,p0,g1,l1,p1,g2,l2,p2,so,sn,sp,kp,hE⟩:=HA.out.eng
   have acP:=hdd (Qo (a:=a) (hE.below hb1 aH) (fun q hq=>by
    have h1:=HA.out.lt
    rcases hq with hq|hq
    ·omega
    ·have:=(MG q hq).2;omega) (.inl rfl) (by have:=HL.out;omega) HSA.out (nN.out.below (Below.trans' HA.out.below hb1 HA.out.below.size)))
   have tX:=hdd hb1
   have OG:=hdd hz1
   have HON:=hdd MG
   rw [<-hW1]
   obtain⟨qb,Ov⟩:=bt (wr.heap.size)
   rw [Ov]at x0 x1 x2 x3 x4 x5 ⊢
   clear hE MG hW1 hb1 k1 hz1 Ov c0 c1 c2 c3 c4 c5 jS
   go_wp2_with (first
    |(go_at_call 54;(with_reducible refine acP.out.mono ?_);rintro e w2 ⟨q,rfl,hq,ht,he,hr⟩;have nH:=hdd (aL hq (aL ht (aL he hr)));have agl:gb+1<=w2.heap.size:=(by have h1:=ht.size;have h2:=HA.out.lt;have h3:=OG.out;omega);have ZX:eA (gb+1) w2 (.slice oa qs.length oc) qs:=(HA.out.own.block fun g hg=>(ht.block g (by have:=(HON.out g hg).2;have:=OG.out;omega) (by have:=(HON.out g hg).1;omega)).trans (tX.out.block g (HON.out g hg).2));clear hq ht he hr)
    |(at_builtin;refine ua rfl (.tmp 22) (.tmp 26) rfl (gb+1) _ qs rfl (ZX.alloc _) ⟨_,0,none⟩ q rfl (fun j u h=>QJ h) (by have:=HL.out;have:=HQL.out;omega) (by simp;omega) ?_;intro v4 w4 pN hg4 hv4))
   go_roundg (xs.length-(k+1))
   case measure=>omega
   case rel=>exact⟨k+1,af,rfl,by go_num,hdd ⟨_,HA.out.step hlt Zt.out (by have:=HL.out;omega) tX.out nH.out.1 nH.out.2.1 nH.out.2.2.1 nH.out.2.2.2 (Below.alloc (aI _ _) aH _) pN hg4 hv4⟩⟩
  ·obtain rfl:k=xs.length:=af
   obtain⟨b,sa,sc,g0,l0,p0,g1,l1,p1,g2,l2,p2,so,sn,sp,kp,hE⟩:=hA.eng
   obtain⟨e0,e1,e2,e3,e4,e5,e6,e7,-⟩:=hE.cells
   have RM:=hdd (oF (hE.base wr (Only.refl _ _)))
   have HA:=hdd hA
   have HI:=hdd hE.is
   clear hE hA
   have k0:=HA.out.res
   have UH:=hdd (fun W (hb:ah wr W)=>(hb.block w.heap.size (by have:=HA.out.lo;have:=HA.out.lt;omega)).trans k0)
   go_upto_region 10 with (fail)
   clear k0
   go_wp2_with (go_at_call 40;(with_reducible refine RM.out.mono ?_);rintro e w5 ⟨cu,ya,yc,z0,m0,q0,z1,m1,q1,z2,m2,q2,rfl,-,-,-,-,-,-,je⟩;have k5:=UH.out _ cu;obtain⟨r0,r1,r2,r3,r4,r5,r6,r7,rf⟩:=fh k5;have Cc:=hdd (aL cu je);clear cu je k5)
   obtain⟨V,hV⟩:=bP (((((((((w5.setCell ⟨w.heap.size,0,none⟩ (.slice ya b.names.length yc)).setCell ⟨w.heap.size,1,none⟩ (.slice z0 m0 q0)).setCell ⟨w.heap.size,2,none⟩ (.int .i64 b.t0.root)).setCell ⟨w.heap.size,3,none⟩ (.slice z1 m1 q1)).setCell ⟨w.heap.size,4,none⟩ (.int .i64 b.t1.root)).setCell ⟨w.heap.size,5,none⟩ (.slice z2 m2 q2)).setCell ⟨w.heap.size,6,none⟩ (.int .i64 b.t2.root)).setCell ⟨w.heap.size,7,none⟩ (.int .i64 b.floor)))
   have P8:ah w V:=by rw [hV];exact cC (Below.trans' HA.out.below Cc.out.1 HA.out.below.size) aH _ _ _ _ _ _ _ _
   have Xu:aM (wr.heap.size+2) w5 V:=by rw [hV];exact r9 (by have:=HA.out.lo;have:=HA.out.lt;omega) _ _ _ _ _ _ _ _
   have hbk:∀g,gb<g->g<wr.heap.size->V.heap[g]?=wr.heap[g]?:=fun g h1 h2=>by
    rw [hV,aac (by have:=HA.out.lo;omega)]
    exact Cc.out.1.block g h2
   have kV:V.heap[w.heap.size]?=some (.cells #[.slice ya b.names.length yc, .slice z0 m0 q0, .int .i64 b.t0.root, .slice z1 m1 q1, .int .i64 b.t1.root, .slice z2 m2 q2, .int .i64 b.t2.root, .int .i64 b.floor] 35):=by rw [hV];exact jb (UH.out _ Cc.out.1)
   have kN:=hdd (show yK xs w (.returned (.tuple #[.slice oa qs.length oc, .agg (aG ya b.names.length yc z0 m0 q0 z1 m1 q1 z2 m2 q2 b), .int .i64 0])) V from
    ⟨P8,oa,oc,qs,b,ya,yc,z0,m0,q0,z1,m1,q1,z2,m2,q2,rfl,by rw [HA.out.an,List.take_length],(HA.out.own.block fun g hg=>hbk g (by have:=(HA.out.own.lt g hg).1;omega) (HA.out.own.lt g hg).2).mono (by have:=HA.out.lo;omega),
     fun q hq=>((HA.out.rows q hq).1.block fun g hg=>hbk g (by have:=((HA.out.rows q hq).1.lt g hg).1;omega) ((HA.out.rows q hq).1.lt g hg).2).mono (by have:=HA.out.lo;omega),
     fun w'' hw=>Cc.out.2 w'' (Xu.trans (hw.mono (by have:=HA.out.lo;have:=HA.out.lt;omega))),by have h:=HI.out;rw [List.take_length]at h;exact h,HA.out.ok⟩)
   obtain⟨r0',ZU,r2',r3',r4',r5',r6',r7',-⟩:=fh kV
   rw [<-hV]
   clear hV P8 Xu hbk kV r0 r1 r2 r3 r4 r5 r6 r7 rf e0 e1 e2 e3 e4 e5 e6 e7
   exact bodyPost_ret (v:= .tuple #[.slice oa qs.length oc, .agg (aG ya b.names.length yc z0 m0 q0 z1 m1 q1 z2 m2 q2 b), .int .i64 0]) (by simp [results,Tryd.results28,aG,go_sem, *]) rfl kN.out
theorem ad2 {ao:Option Addr} {n cap:Nat} (hl:500<n) :
  Calls Tryd.prog 28 #[.slice ao n cap] w fun e w'=>ah w w'/\e = .returned (.tuple #[.slice none 0 0,dC, .int .i64 1]):=by
 have hd:decide ((500:Int)<(n:Int))=true:=by simp;omega
 obtain⟨W0,hW0⟩:=bP (w.alloc (.cells cL 35))
 have hb0:ah w W0:=by rw [hW0];exact ag
 have k0:W0.heap[w.heap.size]?=some (.cells cL 35):=by rw [hW0];exact aj _ _ rfl
 obtain⟨r0,r1,r2,r3,r4,r5,r6,r7,rf⟩:=fh k0
 have HE:=hdd (cC hb0 aH (.slice none 0 0) (.slice none 0 0) (.int .i64 0) (.slice none 0 0) (.int .i64 0) (.slice none 0 0) (.int .i64 0) (.int .i64 0))
 go_enter Tryd.func28,Tryd.ntmps28
 go_upto_region 1 with (fail)
 rw [<-hW0]
 clear hW0 k0 hb0
 go_wp2_with fail
 exact bodyPost_ret (v:= .tuple #[.slice none 0 0,dC, .int .i64 1]) (by simp [results,Tryd.results28,go_sem, *]) rfl ⟨HE.out,rfl⟩
end
end Go.Proofs.YtmljjfhgciaceaaDoor
namespace Go.Proofs.YtmljjfhgciaceaaDoor
section
variable {a sv ld:Ac} {s:ByteArray} {l:List Ac} {L:List aC} {m:Mo} {x:St}
def pz (r:Rw):Ac:=
 if picked r.c 16=0 then⟨2,(ku r).s,picked r.a 6000,picked r.a 6000+picked r.b 9000,aQ (picked r.b 3).toNat,0⟩
 else if picked r.c 16<3 then⟨3,(ku r).s,picked r.a 6000,picked r.a 6000+picked r.b 9000,0,0⟩
 else if picked r.c 16=3/\picked r.a 4=0 then⟨4,ByteArray.empty,3600*picked r.b 3,0,0,0⟩
 else if picked r.c 16=4 then⟨5,ByteArray.empty,0,0,0,0⟩
 else if picked r.c 16=5/\picked r.a 3=0 then⟨6,ByteArray.empty,0,0,0,0⟩
 else⟨1,(ku r).s,(ku r).t,0,0,(ku r).v⟩
def AA (a:Ac):Prop:=
 (a.k=1/\a.s∈jP/\0<=a.t/\a.t<12000/\-1000<=a.v/\a.v<1000)\/a.k=2\/a.k=3\/(a.k=4/\(a.t=0\/a.t=3600\/a.t=7200))\/a.k=5\/a.k=6
theorem KN (r:Rw):AA (pz r):=by
 unfold pz
 split
 ·exact .inr (.inl rfl)
 ·split
  ·exact .inr (.inr (.inl rfl))
  ·split
   ·have h:=cU (n:=r.b) (m:=3) aW
    refine .inr (.inr (.inr (.inl ⟨rfl,?_⟩)))
    show 3600*picked r.b 3=0\/3600*picked r.b 3=3600\/3600*picked r.b 3=7200
    omega
   ·split
    ·exact .inr (.inr (.inr (.inr (.inl rfl))))
    ·split
     ·exact .inr (.inr (.inr (.inr (.inr rfl))))
     ·exact .inl ⟨rfl,Bw r⟩
structure oM (m:Mo):Prop where
 nm:∀s∈m.ns,s∈jP
 nd:m.ns.Nodup
 f0:0<=m.fl
 f1:m.fl<=7200
 early:∀e∈m.L,e.key%1048576<14400
theorem oM.zero:oM Mo.zero:=⟨fun _ h=>(by cases h),List.Pairwise.nil,aW,aW,fun _ h=>(by cases h)⟩
theorem oM.few (h:oM m):m.ns.length<=4:=by
 exact iY (m:=jP) h.nd h.nm
theorem PA {x e:aC} (h:e∈ins L x):e.key=x.key\/∃y∈L,e.key=y.key:=by
 induction L with
 |nil=>simp [ins]at h;exact .inl (by rw [h])
 |cons y l ih=>
  unfold ins at h
  split at h
  ·rcases fk.1 h with rfl|h
   ·exact .inr ⟨_,bj,rfl⟩
   ·rcases ih h with h|⟨z,hz,h⟩
    ·exact .inl h
    ·exact .inr ⟨z,by simp [hz],h⟩
  ·split at h
   ·rcases fk.1 h with rfl|h
    ·exact .inl rfl
    ·exact .inr ⟨e,by simp [h],rfl⟩
   ·rcases fk.1 h with rfl|h
    ·exact .inl rfl
    ·exact .inr ⟨e,h,rfl⟩
theorem oM.add {t v:Int} (h:oM m) (hs:s∈jP) (h0:0<=t) (h1:t<14400):oM (m.add s t v):=by
 refine⟨fun x hx=>?_,qJ h.nd,h.f0,h.f1,fun e he=>?_⟩
 ·rcases mB.1 hx with hx|rfl
  ·exact h.nm x hx
  ·exact hs
 ·rcases PA he with he|⟨y,hy,he⟩
  ·rw [he];simp only;omega
  ·rw [he];exact h.early y hy
theorem oM.exp {t:Int} (h:oM m) (h0:t=0\/t=3600\/t=7200):oM (m.exp t):=
 ⟨h.nm,h.nd,by show 0<=t;omega,by show t<=7200;omega,fun e he=>h.early e (mn.1 he).1⟩
theorem oM.act (h:oM x.m/\oM x.s) (ha:AA a):oM (gS x a).m/\oM (gS x a).s:=by
 unfold gS
 split
 ·rename_i hk
  split
  ·rcases ha with ⟨-,h1,h2,h3,-⟩|h1|h1|⟨h1,-⟩|h1|h1
   ·exact⟨h.1.add h1 h2 af,h.2⟩
   all_goals omega
  ·exact h
 ·split
  ·rename_i hk
   split
   ·rcases ha with ⟨h1,-⟩|h1|h1|⟨-,h1⟩|h1|h1
    ·omega
    ·omega
    ·omega
    ·exact⟨h.1.exp h1,h.2⟩
    all_goals omega
   ·exact h
  ·split
   ·exact⟨h.1,h.1⟩
   ·split
    ·exact⟨h.2,h.2⟩
    ·exact h
theorem oM.run:∀{x:St},oM x.m/\oM x.s->(∀a∈l,AA a)->oM (gK x l).m/\oM (gK x l).s:=by
 induction l with
 |nil=>intro x h _;exact h
 |cons a l ih=>intro x h ha;exact ih (oM.act h (ha a bj)) fun b hb=>ha b (by simp [hb])
theorem oM.takes {t v:Int} (h:oM m) (hs:s∈jP) (h0:m.fl<=t) (h1:t<=1048575) (h2 : -1000000<=v) (h3:v<=1000000):m.ny s t v=0:=by
 have hf:=h.few
 have h00:=h.f0
 unfold Mo.ny
 have hr:(fF t v).2=0:=by unfold fF;rw [ar ⟨af,h1,h2,h3⟩]
 rw [ai (by simp [(JO s hs).1]),ai (jo hr),ai af,ai af]
theorem NP (h:a.k=2\/a.k=3):gS x a=x:=by
 unfold gS
 rw [ai af,ai af,ai af,ai af]
theorem Dp (l:List Ac):∀x:St,gK x (l.filter fun a=>decide (a.k≠2/\a.k≠3))=gK x l:=by
 induction l with
 |nil=>intro x;rfl
 |cons a l ih=>
  intro x
  by_cases h:a.k=2\/a.k=3
  ·rw [qB (by simp;omega),ih]
   show _=gK (gS x a) l
   rw [NP h]
  ·rw [rG (by simp;omega)]
   exact ih _
theorem H8 (h:a.k≠5):(gS x a).s=x.s:=by
 unfold gS
 split
 ·split <;> rfl
 ·split
  ·split <;> rfl
  ·split <;> rfl
theorem F5:∀{x:St},(∀a∈l,a.k≠5)->(gK x l).s=x.s:=by
 induction l with
 |nil=>intro x _;rfl
 |cons a l ih=>
  intro x h
  exact(ih fun b hb=>h b (by simp [hb])).trans (H8 (h a bj))
theorem KJ (h:a.k=5):gS x a=⟨x.m,x.m⟩:=by
 unfold gS
 rw [ai af,ai af,ar h]
theorem KL (h:a.k=6):gS x a=⟨x.s,x.s⟩:=by
 unfold gS
 rw [ai af,ai af,ai af,ar h]
theorem NN (h:¬(1<=a.k/\a.k<=6)):gS x a=x/\kX x a=⟨3,aw.zero,[]⟩:=by
 unfold gS kX
 rw [ai af,ai af,ai af,ai af,ai af,ai af,ai af,ai af,ai af]
 exact⟨rfl,rfl⟩
theorem acN (a b:List Ac) (h5:sv.k=5) (h6:ld.k=6) (x:St):(sy x (a++[sv]++b)).drop (a.length+1)=(sy x (a++[sv,ld]++b)).drop (a.length+2):=by
 have e1:gK x (a++[sv])=⟨(gK x a).m,(gK x a).m⟩:=by rw [rU,KJ h5]
 have e2:gK x (a++[sv,ld])=⟨(gK x a).m,(gK x a).m⟩:=by
  rw [show a++[sv,ld]=(a++[sv])++[ld] by simp,rU,e1,KL h6]
 rw [xp x (a++[sv]),xp x (a++[sv,ld]),e1,e2]
 have l1:(sy x (a++[sv])).length=a.length+1:=by rw [uj];simp
 have l2:(sy x (a++[sv,ld])).length=a.length+2:=by rw [uj];simp
 rw [<-l1,List.drop_left,<-l2,List.drop_left]
theorem Lp (a b:List Ac) (h5:sv.k=5) (h6:ld.k=6) (hb:∀c∈b,c.k≠5) (x:St):(gK x (a++[sv]++b++[ld])).m=(gK x (a++[sv])).m:=by
 rw [rU,KL h6,xn,F5 hb,rU,KJ h5]
theorem ada {x y:aC} (hr:aT L) (hg:bh L) (hx:x.is.Good) (hy:y.is.Good):ins (ins L x) y=ins (ins L y) x:=by
 have e:∀a b:aC,ins (ins L a) b=oG (L++[a,b]):=fun a b=>by
  rw [show L++[a,b]=(L++[a])++[b] by simp,NC,NC,Ak hr hg]
 rw [e,e]
 refine ND (List.Perm.append_left L (List.Perm.swap y x [])) fun e he=>?_
 rcases kJ.1 he with he|he
 ·exact hg e he
 ·rcases fk.1 he with rfl|he
  ·exact hx
  ·rw [mR.1 he];exact hy
theorem ab8 {t v:Int} (h0:0<=t) (h1:t<=1048575) (h2 : -1000000<=v) (h3:v<=1000000):(⟨1,v,v,v,t,v⟩:aw).Good:=(dg (nT h0 h1 h2 h3) (by show (1:Int)≠0;decide)).1
def aae (p:C9):Ac:=⟨1,p.s,p.t,0,0,p.v⟩
theorem aal (x:St) (p:C9):gS x (aae p)=if x.m.ny p.s p.t p.v=0 then⟨x.m.add p.s p.t p.v,x.s⟩else x:=by
 unfold gS
 rw [ar (show (aae p).k=1 from rfl)];rfl
theorem aaZ {n:Mo} (h1:m.ns=n.ns) (h2:m.fl=n.fl) (s:ByteArray) (t v:Int):m.ny s t v=n.ny s t v:=by unfold Mo.ny;rw [h1,h2]
theorem abp {t v:Int} (h:m.ny s t v=0):dL s=true/\0<=t/\t<=1048575/\-1000000<=v/\v<=1000000/\m.fl<=t/\(aS m.ns s<0->m.ns.length<16):=by
 unfold Mo.ny at h
 split at h
 ·cases h
 rename_i h1
 split at h
 ·rename_i h2;exact absurd h h2
 rename_i h2
 split at h
 ·cases h
 rename_i h3
 split at h
 ·cases h
 rename_i h4
 have h2:(fF t v).2=0:=Decidable.not_not.1 h2
 unfold fF at h2
 split at h2
 ·rename_i hr
  exact⟨by simpa using h1,hr.1,hr.2.1,hr.2.2.1,hr.2.2.2,af,fun hp=>af⟩
 ·cases h2
theorem acZ {p q:C9} (hr:aT x.m.L) (hg:bh x.m.L) (hp:p.s∈x.m.ns) (hq:q.s∈x.m.ns):gK x [aae p,aae q]=gK x [aae q,aae p]:=by
 have e1:gK x [aae p,aae q]=gS (gS x (aae p)) (aae q):=rfl
 have e2:gK x [aae q,aae p]=gS (gS x (aae q)) (aae p):=rfl
 have n1:fU x.m.ns p.s=x.m.ns:=nP hp
 have n2:fU x.m.ns q.s=x.m.ns:=nP hq
 have a1:x.m.add p.s p.t p.v=⟨x.m.ns,x.m.fl,ins x.m.L ⟨aS x.m.ns p.s*1048576+p.t,⟨1,p.v,p.v,p.v,p.t,p.v⟩⟩⟩:=by unfold Mo.add;rw [n1]
 have a2:x.m.add q.s q.t q.v=⟨x.m.ns,x.m.fl,ins x.m.L ⟨aS x.m.ns q.s*1048576+q.t,⟨1,q.v,q.v,q.v,q.t,q.v⟩⟩⟩:=by unfold Mo.add;rw [n2]
 rw [e1,e2,aal x p,aal x q]
 by_cases hx:x.m.ny p.s p.t p.v=0
 ·by_cases hy:x.m.ny q.s q.t q.v=0
  ·rw [ar hx,ar hy,aal,aal]
   have s1:(⟨x.m.add p.s p.t p.v,x.s⟩:St).m.ny q.s q.t q.v=0:=(aaZ (by rw [a1]) (by rw [a1]) _ _ _).trans hy
   have s2:(⟨x.m.add q.s q.t q.v,x.s⟩:St).m.ny p.s p.t p.v=0:=(aaZ (by rw [a2]) (by rw [a2]) _ _ _).trans hx
   rw [ar s1,ar s2,a1,a2]
   unfold Mo.add
   simp only [n1,n2]
   obtain⟨-,p0,p1,p2,p3,-⟩:=abp hx
   obtain⟨-,q0,q1,q2,q3,-⟩:=abp hy
   rw [ada hr hg (ab8 p0 p1 p2 p3) (ab8 q0 q1 q2 q3)]
  ·rw [ar hx,ai hy,aal,aal]
   have s1:¬(⟨x.m.add p.s p.t p.v,x.s⟩:St).m.ny q.s q.t q.v=0:=fun h=>hy ((aaZ (by rw [a1]) (by rw [a1]) _ _ _).symm.trans h)
   rw [ai s1,ar hx]
 ·by_cases hy:x.m.ny q.s q.t q.v=0
  ·rw [ai hx,ar hy,aal,aal]
   have s2:¬(⟨x.m.add q.s q.t q.v,x.s⟩:St).m.ny p.s p.t p.v=0:=fun h=>hx ((aaZ (by rw [a2]) (by rw [a2]) _ _ _).symm.trans h)
   rw [ai s2,ar hy]
  ·rw [ai hx,ai hy,aal,aal,ai hx,ai hy]
end
section
variable {a:Ac} {s:ByteArray} {z:Int} {P:List C9} {x:St}
theorem ad5 {oO:List C9} {ns:List ByteArray} {a:Int} (hm:∀p∈oO,p.s∈ns) (hs:s∈ns) (hp:∀p∈oO,acy p) (ha:0<=a) (hz:z<=1048575):fL (oG (oO.map (CN ns))) (aS ns s) a (z+1)=aao oO s a z:=by
 have hg:bh (oO.map (CN ns)):=fun e he=>by
  obtain⟨p,hpp,rfl⟩:=wN.1 he
  exact(dg (aam (hp p hpp)) (by show (1:Int)≠0;decide)).1
 have hgf:=fun(q:Int->Bool)=>(show bh ((oO.map (CN ns)).filter fun e=>q e.key)from fun e he=>hg e (mn.1 he).1)
 unfold fL
 have e1:aR (aS ns s*1048576+a) (aS ns s*1048576+(z+1))=fun e:aC=>(fun k:Int=>decide (aS ns s*1048576+a<=k) && decide (k<aS ns s*1048576+(z+1))) e.key:=rfl
 rw [e1,abK hg (fun k:Int=>decide (aS ns s*1048576+a<=k) && decide (k<aS ns s*1048576+(z+1))),D9 (show bh ((oO.map (CN ns)).filter fun e=>decide (aS ns s*1048576+a<=e.key) && decide (e.key<aS ns s*1048576+(z+1)))from hgf fun k=>decide (aS ns s*1048576+a<=k) && decide (k<aS ns s*1048576+(z+1)))]
 have e2:(oO.map (CN ns)).filter (fun e:aC=>(fun k:Int=>decide (aS ns s*1048576+a<=k) && decide (k<aS ns s*1048576+(z+1))) e.key)=(oO.filter (abf s a z)).map (CN ns):=by
  rw [List.filter_map]
  congr 1
  refine List.filter_congr fun p hpp=>?_
  have hk:=hp p hpp
  have hin:=hm p hpp
  have hpos:=mI.2 hin
  have ai2:=mI.2 hs
  obtain⟨k1,k2,-,-⟩:=hk
  simp only [Function.comp,CN,abf]
  by_cases hps:p.s=s
  ·subst hps
   rw [Bool.eq_iff_iff];simp;omega
  ·have hne:aS ns p.s≠aS ns s:=fun e=>hps (acT hin e)
   rw [Bool.eq_iff_iff]
   simp only [Bool.and_eq_true,yi]
   refine⟨fun⟨h1,h2⟩=>?_,fun h1=>absurd h1.1.1 hps⟩
   have h1:=iy h1
   have h2:=iy h2
   omega
 rw [e2]
 have e3:=abu (s:=s) (a:=a) (z:=z) (ns:=ns) (ps:=oO) (r:=aw.zero) wu (fun p hpp=> .inr (dg (aam (hp p hpp)) (by show (1:Int)≠0;decide)).1)
 unfold aao
 rw [e3,eV (cW fun e he=>by
  obtain⟨p,hpp,rfl⟩:=wN.1 he
  exact .inr (dg (aam (hp p (mn.1 hpp).1)) (by show (1:Int)≠0;decide)).1)]
noncomputable def aa8:St->List Ac->List C9
 |_,[]=>[]
 |x,a::l=>(if a.k=1/\(kX x a).code=0 then [⟨a.s,a.t,a.v⟩]else [])++aa8 (gS x a) l
theorem aaX (l:List Ac) (a:Ac):∀x:St,aa8 x (l++[a])=aa8 x l++(if a.k=1/\(kX (gK x l) a).code=0 then [⟨a.s,a.t,a.v⟩]else []):=by
 induction l with
 |nil=>intro x;simp only [aa8,List.nil_append,oL];rfl
 |cons b l ih=>
  intro x
  rw [List.cons_append,aa8,aa8,ih,jv];rfl
theorem acx (h:a.k=1):(kX x a).code=x.m.ny a.s a.t a.v:=by unfold kX;rw [ar h]
theorem adl (h:a.k=4):(kX x a).code=x.m.A5 a.t:=by
 unfold kX
 rw [ai af,ai af,ai af,ar h]
structure Tot (x:St) (P:List C9):Prop where
 ns:x.m.ns=(P.map C9.s).foldl fU []
 mem:∀p∈P,p.s∈x.m.ns
 ok:∀p∈P,acy p
 L:x.m.L=oG ((P.filter fun p=>decide (x.m.fl<=p.t)).map (CN x.m.ns))
theorem Tot.zero:Tot St.zero []:=⟨rfl,fun _ h=>(by cases h),fun _ h=>(by cases h),rfl⟩
theorem acS {ns:List ByteArray} (h:∀p∈P,acy p):bh (P.map (CN ns)):=fun e he=>by
 obtain⟨p,hp,rfl⟩:=wN.1 he
 exact(dg (aam (h p hp)) (by show (1:Int)≠0;decide)).1
theorem Tot.put (h:Tot x P) (hk:a.k=1) (h0:x.m.ny a.s a.t a.v=0):Tot (gS x a) (P++[⟨a.s,a.t,a.v⟩]):=by
 have e:gS x a=⟨x.m.add a.s a.t a.v,x.s⟩:=by unfold gS;rw [ar hk,ar h0]
 obtain⟨-,p0,p1,p2,p3,p4,-⟩:=abp h0
 rw [e]
 refine⟨?_,fun p hp=>?_,fun p hp=>?_,?_⟩
 ·show fU x.m.ns a.s=_
  rw [Ap,List.foldl_append,<-h.ns];rfl
 ·show p.s∈fU x.m.ns a.s
  rcases kJ.1 hp with hp|hp
  ·exact mB.2 (.inl (h.mem p hp))
  ·rw [mR.1 hp];exact mB.2 (.inr rfl)
 ·rcases kJ.1 hp with hp|hp
  ·exact h.ok p hp
  ·rw [mR.1 hp];exact⟨p0,p1,p2,p3⟩
 ·show ins x.m.L _=oG (((P++[(⟨a.s,a.t,a.v⟩:C9)]).filter fun p=>decide (x.m.fl<=p.t)).map (CN (fU x.m.ns a.s)))
  rw [rF,Ap]
  have e1:([⟨a.s,a.t,a.v⟩]:List C9).filter (fun p=>decide (x.m.fl<=p.t))=[⟨a.s,a.t,a.v⟩]:=by simp [p4]
  have e2:(P.filter fun p=>decide (x.m.fl<=p.t)).map (CN (fU x.m.ns a.s))=(P.filter fun p=>decide (x.m.fl<=p.t)).map (CN x.m.ns):=
   List.map_congr_left fun p hp=>Kk (h.mem p (mn.1 hp).1)
  rw [e1,e2,List.map_cons,List.map_nil,NC,<-h.L]
  rfl
theorem acW {ns:List ByteArray} {p:C9} (h:acy p):(CN ns p).key%1048576=p.t:=by
 have h1:=h.1
 have h2:=h.2.1
 show (aS ns p.s*1048576+p.t)%1048576=p.t
 omega
theorem Tot.exp (h:Tot x P) (hk:a.k=4) (h0:x.m.A5 a.t=0):Tot (gS x a) P:=by
 have e:gS x a=⟨x.m.exp a.t,x.s⟩:=by unfold gS;rw [ai af,ar hk,ar h0]
 have hfl:x.m.fl<=a.t:=by
  unfold Mo.A5 at h0
  split at h0
  ·cases h0
  split at h0
  ·cases h0
  split at h0
  ·cases h0
  omega
 rw [e]
 refine⟨h.ns,h.mem,h.ok,?_⟩
 show x.m.L.filter (cx a.t)=oG ((P.filter fun p=>decide (a.t<=p.t)).map (CN x.m.ns))
 have hg:bh ((P.filter fun p=>decide (x.m.fl<=p.t)).map (CN x.m.ns)):=acS fun p hp=>h.ok p (mn.1 hp).1
 have hy:cx a.t=fun e:aC=>(fun k:Int=>decide (a.t<=k%1048576)) e.key:=rfl
 rw [h.L,hy,abK hg fun k:Int=>decide (a.t<=k%1048576)]
 congr 1
 rw [List.filter_map,List.filter_filter]
 congr 1
 refine List.filter_congr fun p hp=>?_
 have ht:=acW (ns:=x.m.ns) (h.ok p hp)
 simp only [Function.comp]
 rw [ht,Bool.eq_iff_iff]
 simp only [Bool.and_eq_true,yi]
 omega
theorem Tot.act (h:Tot x P) (hk:a.k≠5/\a.k≠6):Tot (gS x a) (P++(if a.k=1/\(kX x a).code=0 then [⟨a.s,a.t,a.v⟩]else [])):=by
 by_cases h1:a.k=1
 ·have hc:=acx (x:=x) h1
  by_cases h0:x.m.ny a.s a.t a.v=0
  ·rw [ar ⟨h1,by rw [hc];exact h0⟩]
   exact h.put h1 h0
  ·rw [ai (fun hn=>h0 (hc▸hn.2)),oL]
   have e:gS x a=x:=by unfold gS;rw [ar h1,ai h0]
   rw [e];exact h
 ·rw [ai (fun hn=>h1 hn.1),oL]
  by_cases h4:a.k=4
  ·by_cases h0:x.m.A5 a.t=0
   ·exact h.exp h4 h0
   ·have e:gS x a=x:=by unfold gS;rw [ai h1,ar h4,ai h0]
    rw [e];exact h
  ·have e:gS x a=x:=by unfold gS;rw [ai h1,ai h4,ai hk.1,ai hk.2]
   rw [e];exact h
theorem Tot.run {l:List Ac}:∀{x:St} {P:List C9},Tot x P->(∀a∈l,a.k≠5/\a.k≠6)->Tot (gK x l) (P++aa8 x l):=by
 induction l with
 |nil=>intro x P h _;simpa [aa8,gK] using h
 |cons a l ih=>
  intro x P h hk
  have:=ih (h.act (hk a bj)) fun b hb=>hk b (by simp [hb])
  rw [jv]at this
  exact this
theorem acV (hk:a.k≠5/\a.k≠6):(gS x a).m.fl=if a.k=4/\(kX x a).code=0 then a.t else x.m.fl:=by
 by_cases h4:a.k=4
 ·have hc:=adl (x:=x) h4
  by_cases h0:x.m.A5 a.t=0
  ·rw [ar ⟨h4,hc.trans h0⟩]
   unfold gS
   rw [ai af,ar h4,ar h0];rfl
  ·rw [ai (fun hn=>h0 (hc▸hn.2))]
   unfold gS
   rw [ai af,ar h4,ai h0]
 ·rw [ai (fun hn=>h4 hn.1)]
  unfold gS
  split
  ·split <;> rfl
  ·rw [ai hk.1,ai hk.2]
theorem adf {xs:List ByteArray}:∀{ns:List ByteArray} {s:ByteArray},s∈xs.foldl fU ns↔s∈ns\/s∈xs:=by
 induction xs with
 |nil=>intro ns s;simp
 |cons x xs ih=>
  intro ns s
  rw [List.foldl_cons,ih,mB]
  constructor
  ·rintro((h|h)|h)
   ·exact .inl h
   ·exact .inr (by simp [h])
   ·exact .inr (by simp [h])
  ·rintro(h|h)
   ·exact .inl (.inl h)
   ·rcases fk.1 h with h|h
    ·exact .inl (.inr h)
    ·exact .inr h
theorem Tot.any (h:Tot x P) (s:ByteArray):s∈x.m.ns↔∃p∈P,p.s=s:=by
 rw [h.ns,adf]
 constructor
 ·rintro(h|h)
  ·cases h
  ·obtain⟨p,h1,h2⟩:=wN.1 h
   exact⟨p,h1,h2⟩
 ·rintro⟨p,h1,h2⟩
  exact .inr (wN.2 ⟨p,h1,h2⟩)
theorem Tot.total (h:Tot x P) {a:Int} (hr:cT a z) :
  (s∉x.m.ns->x.m.yR s a z=6)/\(s∈x.m.ns->x.m.yR s a z=0/\x.m.QL s a z=aao (P.filter fun p=>decide (x.m.fl<=p.t)) s a z):=by
 refine⟨fun hs=>?_,fun hs=>?_⟩
 ·have hp:aS x.m.ns s<0:=by
   have:¬0<=aS x.m.ns s:=fun h'=>hs (mI.1 h')
   omega
  have e:x.m.yY s=6:=ar hp
  unfold Mo.yR
  rw [e,ar aW]
 ·have hp:=mI.2 hs
  have e:x.m.yY s=0:=ai af
  have e2:x.m.yR s a z=0:=by unfold Mo.yR;rw [e,ai aW,ai (jo hr)]
  refine⟨e2,?_⟩
  unfold Mo.QL
  rw [ar e2,h.L]
  exact ad5 (fun p hp=>h.mem p (mn.1 hp).1) hs (fun p hp=>h.ok p (mn.1 hp).1) hr.1 hr.2.2
end
end Go.Proofs.YtmljjfhgciaceaaDoor
