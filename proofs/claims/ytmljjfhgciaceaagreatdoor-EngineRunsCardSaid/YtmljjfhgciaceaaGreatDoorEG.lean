/- Lemmas of the proof. -/
import Derived.Test.YtmljjfhgciaceaaGreatDoorHd
import Derived.Test.YtmljjfhgciaceaaGreatDoorCz
import Derived.Test.YtmljjfhgciaceaaGreatDoorMD
import Derived.Test.YtmljjfhgciaceaaGreatDoorKC
import Derived.Test.YtmljjfhgciaceaaGreatDoorEX
import Derived.Test.YtmljjfhgciaceaaGreatDoorKE
import Derived.Test.YtmljjfhgciaceaaGreatDoorKD
import Derived.Test.YtmljjfhgciaceaaGreatDoorTG
import Derived.Test.YtmljjfhgciaceaaGreatDoorBG
import Derived.Test.YtmljjfhgciaceaaGreatDoorPS
import Derived.Test.YtmljjfhgciaceaaGreatDoorKG
import Derived.Test.YtmljjfhgciaceaaGreatDoorDK
import Derived.Maps.AppendAt
import Derived.Test.YtmljjfhgciaceaaGreatDoorSO
import Derived.Deep.CutBlock
set_option maxRecDepth 100000
set_option maxHeartbeats 4000000
namespace Go.Proofs.YtmljjfhgciaceaaGreatDoor
open Go.RowKit
section
variable {b:Ba} {N M:Nat}
structure Mo where
 ns:List ByteArray
 fl:Int
 L:List aH
def Mo.zero:Mo:=⟨[],0,[]⟩
structure Ac where
 k:Int
 s:ByteArray
 t:Int
 z:Int
 sz:Int
 v:Int
structure An where
 code:Int
 is:ax
 rows:List aH
noncomputable def Mo.fU (m:Mo) (s:ByteArray) (t v:Int):Int:=
 if dt s=false then 4 else if (ej t v).2≠0 then(ej t v).2 else if t<m.fl then 8 else if bt m.ns s<0/\16<=m.ns.length then 1 else 0
def Mo.add (m:Mo) (s:ByteArray) (t v:Int):Mo:=⟨iC m.ns s,m.fl,ins m.L ⟨bt (iC m.ns s) s*1048576+t,⟨1,v,v,v,t,v⟩⟩⟩
def Mo.BZ (m:Mo) (s:ByteArray):Int:=if bt m.ns s<0 then 6 else 0
def Mo.eD (m:Mo) (s:ByteArray) (n a z:Int):Int:=if m.BZ s≠0 then m.BZ s else if n≠1/\n≠60/\n≠3600 then 3 else if ¬dA a z then 2 else 0
def Mo.rows (m:Mo) (s:ByteArray) (n a z:Int):List aH:=if m.eD s n a z=0 then Nb m.L n (bt m.ns s) a z else []
def Mo.wT (m:Mo) (s:ByteArray) (a z:Int):Int:=if m.BZ s≠0 then m.BZ s else if ¬dA a z then 2 else 0
def Mo.G7 (m:Mo) (s:ByteArray) (a z:Int):ax:=if m.wT s a z=0 then gS m.L (bt m.ns s) a (z+1)else ax.zero
def Mo.xo (m:Mo) (t:Int):Int:=if ¬(0<=t/\t<=1048575)then 2 else if t%3600≠0 then 4 else if t<m.fl then 8 else 0
def Mo.exp (m:Mo) (t:Int):Mo:=⟨m.ns,t,m.L.filter (bX t)⟩
def Mo.bytes (m:Mo):List Int:=fH m.ns m.fl m.L++mJ (fH m.ns m.fl m.L)
structure Mo.Ok (m:Mo) (N:Nat):Prop where
 fit:Fit m.ns m.fl m.L
 gw:gw m.L<=N
structure Is (b:Ba) (m:Mo) (N:Nat):Prop where
 st:Ky b m.L N
 ns:b.names=m.ns
 fl:b.floor=m.fl
structure Ku (b:Ba) (m:Mo) (N:Nat):Prop where
 kn:Kn b m.L N
 ns:b.names=m.ns
 fl:b.floor=m.fl
theorem Is.k {m:Mo} (h:Is b m N):Ku b m N:=⟨h.st.kn,h.ns,h.fl⟩
theorem Mo.Ok.mono {m:Mo} (h:m.Ok N) (hN:N<=M):m.Ok M:=⟨h.fit,by have:=h.gw;omega⟩
theorem Mo.Ok.len {m:Mo} (h:m.Ok N):m.L<=N:=by
 have h1:=Iu h.fit.good.1.cp;have h2:=h.gw;omega
theorem Mo.Nh (N:Nat):Mo.zero.Ok N:=by
 refine⟨⟨?_,?_,?_,?_,?_,?_,⟨?_,?_,?_⟩,?_,?_,?_⟩,?_⟩ <;> simp [Mo.zero,aY,Checked,Go.Proofs.YtmljjfhgciaceaaGreatDoor.gw]
theorem Is.mono {m:Mo} (h:Is b m N) (hN:N<=M):Is b m M:=
 ⟨⟨h.st.may,h.st.book,fun k hk=>by have:=h.st.wt k hk;omega,by have:=h.st.gw;omega⟩,h.ns,h.fl⟩
theorem Is.kn {m:Mo} (h:Is b m N):Kn b m.L N:=h.st.kn
theorem Is.ok {m:Mo} (h:Is b m N) (hN:N<=2900):m.Ok N:=by
 have hb:=dJ h.st.may;have hg:=h.st.cp;have hl:=h.kn.len;have hbk:=(lM h.st.book).2;have hc:=h.st.gw;refine⟨⟨by rw [<-h.ns];exact hb.n16,fun s hs=>?_,?_,by rw [<-h.fl];exact⟨hb.fl0,hb.TN⟩,by rw [<-h.fl];exact hb.Sp,hg.1,hg.2,ai,ai,fun e he=>?_⟩,hc⟩
 ·rw [<-h.ns]at hs;obtain⟨i,hi,rfl⟩:=nr hs;exact(hb.names i hi).1
 ·rw [<-h.ns];exact sI.2 fun i j hi hj hij=>(hb.names j hj).2 i hij
 ·have:=rH.1 hbk e he;simp [iu]at this;rw [h.ns,h.fl]at this;exact⟨this.1.1,this.1.2,this.2⟩
theorem Ku.Z4 {m:Mo} (h:Ku b m N) (s:ByteArray):cj b s=m.BZ s:=by
 unfold cj Mo.BZ;rw [aw h.kn.may,h.ns]
theorem Ku.Bo {m:Mo} (h:Ku b m N) (hN:N<=500) (s:ByteArray) (n a z:Int):Go.Proofs.YtmljjfhgciaceaaGreatDoor.eD b s n a z=m.eD s n a z/\pn b s n a z=m.rows s n a z:=by
 by_cases h1:m.BZ s≠0
 ·have he:=mL (b:=b) (s:=s) (n:=n) (a:=a) (z:=z) (by rw [h.Z4];exact h1);rw [h.Z4]at he;have e1:m.eD s n a z=m.BZ s:=aw h1;exact⟨he.1.trans e1.symm,by unfold Mo.rows;rw [e1,ar h1];exact he.2⟩
 ·have h1':m.BZ s=0:=Decidable.not_not.1 h1;have hs:cj b s=0:=(h.Z4 s).trans h1';by_cases h2:n≠1/\n≠60/\n≠3600
  ·have he:=wX (a:=a) (z:=z) hs h2;have e1:m.eD s n a z=3:=by unfold Mo.eD;rw [ar h1,aw h2]
   exact⟨he.1.trans e1.symm,by unfold Mo.rows;rw [e1];exact he.2⟩
  ·obtain⟨k,hk,hn⟩:∃k,k<3/\n=bp k:=by
    rcases uq n with ⟨k,hk,e,-⟩|⟨g1,g2,g3,-⟩
    ·exact⟨k,hk,e⟩
    ·exact absurd ⟨g1,g2,g3⟩ h2
   by_cases h3:dA a z
   ·have hp:0<=bt b.names s:=by
     rcases h.kn.FK s with ⟨-,g⟩|⟨g,-⟩
     ·omega
     ·exact g
    obtain⟨g1,g2⟩:=h.kn.rows hN hp hk h3;subst hn;have e1:m.eD s (bp k) a z=0:=(by unfold Mo.eD;rw [ar h1,ar h2,ar (jw h3)]);exact⟨g1.trans e1.symm,by unfold Mo.rows;rw [aw e1,g2,h.ns];rfl⟩
   ·have he:=uu hs hk hn h3;have e1:m.eD s n a z=2:=(by unfold Mo.eD;rw [ar h1,ar h2,aw h3]);exact⟨he.1.trans e1.symm,by unfold Mo.rows;rw [e1];exact he.2⟩
theorem Ku.M4 {m:Mo} (h:Ku b m N) (hN:N<=1000000) (s:ByteArray) (a z:Int):mH b s a z=m.wT s a z/\mG b s a z=m.G7 s a z:=by
 by_cases h1:m.BZ s≠0
 ·have he:=mF (b:=b) (s:=s) (a:=a) (z:=z) (by rw [h.Z4];exact h1);rw [h.Z4]at he;have e1:m.wT s a z=m.BZ s:=aw h1;exact⟨he.1.trans e1.symm,by unfold Mo.G7;rw [e1,ar h1];exact he.2⟩
 ·have hs:cj b s=0:=(h.Z4 s).trans (Decidable.not_not.1 h1);by_cases h3:dA a z
  ·have hp:0<=bt b.names s:=by
    rcases h.kn.FK s with ⟨-,g⟩|⟨g,-⟩
    ·omega
    ·exact g
   obtain⟨g1,g2⟩:=h.kn.total hN hp h3;have e1:m.wT s a z=0:=by unfold Mo.wT;rw [ar h1,ar (jw h3)]
   exact⟨g1.trans e1.symm,by unfold Mo.G7;rw [aw e1,g2,h.ns]⟩
  ·have he:=um hs h3;have e1:m.wT s a z=2:=by unfold Mo.wT;rw [ar h1,aw h3]
   exact⟨he.1.trans e1.symm,by unfold Mo.G7;rw [e1];exact he.2⟩
theorem Ku.J0 {m:Mo} (h:Ku b m N) (s:ByteArray) (t v:Int):gK b s t v=m.fU s t v:=by
 unfold gK Mo.fU;rw [ar (by simp [h.kn.may]),h.ns,h.fl]
theorem Ku.Jt {m:Mo} (h:Ku b m N) (t:Int):kU b t=m.xo t/\sj b t=(m.exp t).L:=by
 refine⟨?_,?_⟩
 ·unfold kU Mo.xo;rw [ar (by simp [h.kn.may]),h.fl]
 ·unfold sj;rw [h.kn.book];rfl
theorem Is.Bo {m:Mo} (h:Is b m N) (hN:N<=500) (s:ByteArray) (n a z:Int):Go.Proofs.YtmljjfhgciaceaaGreatDoor.eD b s n a z=m.eD s n a z/\pn b s n a z=m.rows s n a z:=h.k.Bo hN s n a z
theorem Is.M4 {m:Mo} (h:Is b m N) (hN:N<=1000000) (s:ByteArray) (a z:Int):mH b s a z=m.wT s a z/\mG b s a z=m.G7 s a z:=h.k.M4 hN s a z
theorem Is.J0 {m:Mo} (h:Is b m N) (s:ByteArray) (t v:Int):gK b s t v=m.fU s t v:=h.k.J0 s t v
theorem Is.Jt {m:Mo} (h:Is b m N) (t:Int):kU b t=m.xo t/\sj b t=(m.exp t).L:=h.k.Jt t
theorem Is.enc {m:Mo} (h:Is b m N) (hN:N<=500):En b=0/\Em b=m.bytes:=by
 have hl:=h.kn.len;have hg:=h.st.cp;have ho:=h.ok ai;have e:kM b m.L=fH m.ns m.fl m.L:=by rw [Fa,h.ns,h.fl]
 have hsm:(kM b m.L).length<=30000:=by
  have h1:=yJ (last:=0) hg.2 (Int.le_refl 0);have h2:=vN (ns:=b.names) (lS h.st.may);have h3:=(dJ h.st.may).n16;have h4:=cY (n:=b.names.length) ai;have h5:=cY (n:=b.floor.toNat) (by have:=(dJ h.st.may).TN;omega);have h6:=cY (n:=m.L.length) ai;unfold kM;simp only [dF,gD,List.length_nil];omega
 obtain⟨g1,g2⟩:=NK h.st.may h.st.book ai ai;exact⟨g1,by rw [g2,e];rfl⟩
structure St where
 m:Mo
 s:Mo
def St.zero:St:=⟨Mo.zero,Mo.zero⟩
noncomputable def dP (x:St) (a:Ac):St:=
 if a.k=1 then(if x.m.fU a.s a.t a.v=0 then⟨x.m.add a.s a.t a.v,x.s⟩else x)
 else if a.k=4 then(if x.m.xo a.t=0 then⟨x.m.exp a.t,x.s⟩else x)
 else if a.k=5 then⟨x.m,x.m⟩else if a.k=6 then⟨x.s,x.s⟩else x
noncomputable def gH (x:St) (a:Ac):An:=
 if a.k=1 then⟨x.m.fU a.s a.t a.v,ax.zero,[]⟩
 else if a.k=2 then⟨x.m.eD a.s a.sz a.t a.z,ax.zero,x.m.rows a.s a.sz a.t a.z⟩
 else if a.k=3 then⟨x.m.wT a.s a.t a.z,x.m.G7 a.s a.t a.z,[]⟩
 else if a.k=4 then⟨x.m.xo a.t,ax.zero,[]⟩
 else if a.k=5\/a.k=6 then⟨0,ax.zero,[]⟩ else⟨3,ax.zero,[]⟩
noncomputable def oh (x:St) (l:List Ac):St:=l.foldl dP x
noncomputable def tV:St->List Ac->List An
 |_,[]=>[]
 |x,a::l=>gH x a::tV (dP x a) l
theorem Ca:∀(x:St) (l:List Ac),(tV x l).length=l
 |_,[]=>rfl
 |x,a::l=>by rw [tV,gD,gD,Ca]
theorem Al:∀(x:St) (l r:List Ac),tV x (l++r)=tV x l++tV (oh x l) r
 |_,[],_=>rfl
 |x,a::l,r=>by rw [List.cons_append,tV,tV,Al];rfl
theorem Hi (x:St) (l r:List Ac):oh x (l++r)=oh (oh x l) r:=List.foldl_append
theorem Oq (x:St) (l:List Ac) (a:Ac):tV x (l++[a])=tV x l++[gH (oh x l) a]:=by rw [Al];rfl
theorem EK (x:St) (l:List Ac) (a:Ac):oh x (l++[a])=dP (oh x l) a:=by rw [Hi];rfl
end
section
variable {B M K yc m0 q0 m1 q1 m2 q2 gb N:Nat} {D E:Nat->Prop} {z0 z1 z2:Option Addr} {x:St} {a0 a1 a2 a3 a4 a5 a6 a7 a8 a9:Value} {w w' W1 W2:World}
abbrev Ac.cs (a:Ac):Array Value:=#[af a.k, .string a.s,af a.t,af a.z,af a.sz,af a.v]
def Eo (a:Ac):List Value:=[af a.k, .string a.s,af a.t,af a.z,af a.sz,af a.v]
theorem rh (a:Ac):(Eo a).length=6:=rfl
theorem JD (xs:List Ac):∀u∈xs.flatMap Eo,u.oneCell'=true:=by
 intro u hu;obtain⟨p,_,hp⟩:=List.mem_flatMap.1 hu;simp only [Eo,fy,List.not_mem_nil,or_false]at hp;rcases hp with rfl|rfl|rfl|rfl|rfl|rfl <;> rfl
abbrev Ki (w:World) (v:Value) (xs:List Ac):Prop:=ct 6 56 Eo w v xs
theorem Tryz.afM:(Tryz.prog.info? 46).map (fun i=>(i.zero.map (fun z=>z.cells.size),i.size,i.bytes))=some (some 6,6,56):=cV
structure uf where
 an:An
 so:Option Addr
 n:Nat
 c:Nat
abbrev uf.v (q:uf):Value:=ah q.so q.n q.c
abbrev uf.cs (q:uf):Array Value:=#[af q.an.code,af q.an.is.c,af q.an.is.s,af q.an.is.mi,af q.an.is.ma,af q.an.is.t,af q.an.is.l,ah q.so q.n q.c]
def yM (q:uf):List Value:=[af q.an.code,af q.an.is.c,af q.an.is.s,af q.an.is.mi,af q.an.is.ma,af q.an.is.t,af q.an.is.l,ah q.so q.n q.c]
theorem JC (q:uf):(yM q).length=8:=rfl
theorem Sw (xs:List uf):∀u∈xs.flatMap yM,u.oneCell'=true:=by
 intro u hu;obtain⟨p,_,hp⟩:=List.mem_flatMap.1 hu;simp only [yM,fy,List.not_mem_nil,or_false]at hp;rcases hp with rfl|rfl|rfl|rfl|rfl|rfl|rfl|rfl <;> rfl
abbrev adN (w:World) (v:Value) (xs:List uf):Prop:=ct 8 80 yM w v xs
theorem Tryz.U2:(Tryz.prog.info? 42).map (fun i=>(i.zero.map (fun z=>z.cells.size),i.size,i.bytes))=some (some 8,8,80):=cV
structure Only (D:Nat->Prop) (w w':World):Prop where
 size:w<=w'.heap.size
 block:∀q,q<w.heap.size->¬D q->w'.heap[q]?=w.heap[q]?
theorem Only.refl (D:Nat->Prop) (w:World):Only D w w:=⟨nu _,fun _ _ _=>rfl⟩
theorem Only.trans {a b c:World} (h:Only D a b) (k:Only D b c):Only D a c:=
 ⟨fZ h.size k.size,fun i hi hx=>(k.block i (oI hi h.size) hx).trans (h.block i hi hx)⟩
theorem Only.of (h:Below B w w') (hB:w<=B):Only D w w':=⟨h.size,fun q hq _=>h.block q ai⟩
theorem Only.turn {X:Nat->Prop} (h:aA X w w') (hX:∀q,X q->D q):Only D w w':=⟨h.size,fun q hq hd=>h.block q hq fun hx=>hd (hX q hx)⟩
theorem Only.mono (h:Only D w w') (hX:∀q,q<w.heap.size->D q->E q):Only E w w':=⟨h.size,fun q hq hd=>h.block q hq fun hx=>hd (hX q hq hx)⟩
theorem Only.keep (h:Only D w w') (hD:∀q,D q->q<B):aQ B w w':=⟨h.size,fun q hq hs=>h.block q hs fun hd=>by have:=hD q hd;omega⟩
structure oM (gb:Nat) (D:Nat->Prop) (w:World) (x:St) (N:Nat) (b:Ba) (sa:Option Addr) (sc:Nat) (g0:Option Addr) (l0 p0:Nat) (g1:Option Addr) (l1 p1:Nat) (g2:Option Addr) (l2 p2:Nat) (so:Option Addr) (sn sp:Nat) (kp:Bool):Prop where
 box:w.heap[gb]?=some (.cells #[ah sa b.names sc,ah g0 l0 p0,af b.t0.root,ah g1 l1 p1,af b.t1.root,ah g2 l2 p2,af b.t2.root,af b.floor,ah so sn sp, .bool kp] 63)
 is:Is b x.m N
 ok:x.s.Ok N
 base:∀w'',Only D w w''->bR w'' (.agg (aL sa b.names sc g0 l0 p0 g1 l1 p1 g2 l2 p2 b)) b
 saved:kp=true->∀w'',Only D w w''->ig w'' (ah so sn sp) x.s.bytes
 Z7:kp=false->x.s=Mo.zero
section
variable {gb:Nat} {D:Nat->Prop} {w w':World} {x:St} {N:Nat} {b:Ba} {sa:Option Addr} {sc:Nat} {g0:Option Addr} {l0 p0:Nat} {g1:Option Addr} {l1 p1:Nat} {g2:Option Addr} {l2 p2:Nat} {so:Option Addr} {sn sp:Nat} {kp:Bool}
theorem oM.later (h:oM gb D w x N b sa sc g0 l0 p0 g1 l1 p1 g2 l2 p2 so sn sp kp) (hO:Only D w w') (hg:w'.heap[gb]?=w.heap[gb]?):oM gb D w' x N b sa sc g0 l0 p0 g1 l1 p1 g2 l2 p2 so sn sp kp:=
 ⟨hg.trans h.box,h.is,h.ok,fun w'' hw=>h.base w'' (hO.trans hw),fun hk w'' hw=>h.saved hk w'' (hO.trans hw),h.Z7⟩
theorem oM.lt (h:oM gb D w x N b sa sc g0 l0 p0 g1 l1 p1 g2 l2 p2 so sn sp kp):gb<w:=(eJ.1 h.box).1
theorem oM.below (h:oM gb D w x N b sa sc g0 l0 p0 g1 l1 p1 g2 l2 p2 so sn sp kp) (hb:Below B w w') (hB:w<=B):oM gb D w' x N b sa sc g0 l0 p0 g1 l1 p1 g2 l2 p2 so sn sp kp:=
 h.later (Only.of hb hB) (hb.block _ (by have:=h.lt;omega))
theorem oM.mono (h:oM gb D w x N b sa sc g0 l0 p0 g1 l1 p1 g2 l2 p2 so sn sp kp) (hN:N<=M):oM gb D w x M b sa sc g0 l0 p0 g1 l1 p1 g2 l2 p2 so sn sp kp:=
 ⟨h.box,h.is.mono hN,h.ok.mono hN,h.base,h.saved,h.Z7⟩
theorem oM.cells (h:oM gb D w x N b sa sc g0 l0 p0 g1 l1 p1 g2 l2 p2 so sn sp kp) :
  w.cell? (gb,0)=some (ah sa b.names sc)/\w.cell? (gb,1)=some (ah g0 l0 p0)/\(w,gb,2,b.t0.root)/\w.cell? (gb,3)=some (ah g1 l1 p1)/\(w,gb,4,b.t1.root)/\w.cell? (gb,5)=some (ah g2 l2 p2)/\(w,gb,6,b.t2.root)/\(w,gb,7,b.floor)/\w.cell? (gb,8)=some (ah so sn sp)/\w.cell? (gb,9)=some (.bool kp)/\∀o,w.frozen? ⟨gb,o,none⟩=false:=by
 have h1:=h.box;simp [World.cell?,World.frozen?,h1]
theorem oM.names (h:oM gb D w x N b sa sc g0 l0 p0 g1 l1 p1 g2 l2 p2 so sn sp kp):∀s∈b.names,s.size<=140737488351232:=fun s hs=>by
 have:=lS h.is.st.may s hs;omega
def Loc (gb B M:Nat):Nat->Prop:=fun q=>q=gb\/(B<=q/\q<M)
theorem oM.set {y:Mo} {c:Ba} {ya:Option Addr}
  (h:oM gb D w x N b sa sc g0 l0 p0 g1 l1 p1 g2 l2 p2 so sn sp kp) (hD:∀q,D q->q<w.heap.size) (hg:D gb) (hN:N<=M) (h1:aq w W1) (hK:w<=K)
  (hc:∀w'',aQ K W1 w''->bR w'' (.agg (aL ya c.names yc z0 m0 q0 z1 m1 q1 z2 m2 q2 c)) c) (hi:Is c y M) (ht:aA (Loc gb w K) W1 W2)
  (hb:W2.heap[gb]?=some (.cells #[ah ya c.names yc,ah z0 m0 q0,af c.t0.root,ah z1 m1 q1,af c.t1.root,ah z2 m2 q2,af c.t2.root,af c.floor,ah so sn sp, .bool kp] 63)) :
  oM gb D W2 ⟨y,x.s⟩ M c ya yc z0 m0 q0 z1 m1 q1 z2 m2 q2 so sn sp kp:=by
 have hgl:=hD gb hg;have hs1:=h1.size;have hO2:Only D w W2:=⟨fZ h1.size ht.size,fun q hq hd=>(ht.block q ai (fun hx=>by
  rcases hx with rfl|hx
  ·exact hd hg
  ·omega)).trans (h1.block q hq)⟩
 refine⟨hb,hi,h.ok.mono hN,fun w'' hw=>hc w'' ⟨fZ ht.size hw.size,fun q hq Tz=>?_⟩,fun hk w'' hw=>h.saved hk w'' (hO2.trans hw),h.Z7⟩;rw [hw.block q (oI Tz ht.size) fun hd=>by have:=hD q hd;omega];exact ht.block q Tz fun hx=>by rcases hx with rfl|hx <;> omega
theorem oM.save {ro:Option Addr} {tn tp:Nat} (h:oM gb D w x N b sa sc g0 l0 p0 g1 l1 p1 g2 l2 p2 so sn sp kp) (hN:N<=500) (hD:∀q,D q->q<w.heap.size) (hg:D gb) (h1:aq w W1) (hK:w<=K)
  (ho:aT K W1 (ah ro tn tp) x.m.bytes) (hl:x.m.bytes.length<=1000000) (ht:aA (Loc gb w K) W1 W2)
  (hb:W2.heap[gb]?=some (.cells #[ah sa b.names sc,ah g0 l0 p0,af b.t0.root,ah g1 l1 p1,af b.t1.root,ah g2 l2 p2,af b.t2.root,af b.floor,ah ro tn tp, .bool true] 63)) :
  oM gb D W2 ⟨x.m,x.m⟩ N b sa sc g0 l0 p0 g1 l1 p1 g2 l2 p2 ro tn tp true:=by
 have hgl:=hD gb hg;have hs1:=h1.size;have hO2:Only D w W2:=⟨fZ h1.size ht.size,fun q hq hd=>(ht.block q ai (fun hx=>by
  rcases hx with rfl|hx
  ·exact hd hg
  ·omega)).trans (h1.block q hq)⟩
 refine⟨hb,h.is,h.is.ok ai,fun w'' hw=>h.base w'' (hO2.trans hw),fun _ w'' hw=>(ho.block fun g hg'=>?_).at hl,fun hk=>by cases hk⟩;obtain⟨q1,q2⟩:=ho.lt g hg';rw [hw.block g (oI q2 ht.size) fun hd=>by have:=hD g hd;omega];exact ht.block g q2 fun hx=>by rcases hx with rfl|hx <;> omega
end
def ve (gb:Nat) (D:Nat->Prop) (w:World) (x:St) (N:Nat):Prop:=
 ∃b sa sc g0 l0 p0 g1 l1 p1 g2 l2 p2 so sn sp kp,oM gb D w x N b sa sc g0 l0 p0 g1 l1 p1 g2 l2 p2 so sn sp kp
theorem ve.later (h:ve gb D w x N) (hO:Only D w w') (hg:w'.heap[gb]?=w.heap[gb]?):ve gb D w' x N:=by
 obtain⟨b,sa,sc,g0,l0,p0,g1,l1,p1,g2,l2,p2,so,sn,sp,kp,h⟩:=h;exact⟨b,sa,sc,g0,l0,p0,g1,l1,p1,g2,l2,p2,so,sn,sp,kp,h.later hO hg⟩
theorem ve.mono (h:ve gb D w x N) (hN:N<=M):ve gb D w x M:=by
 obtain⟨b,sa,sc,g0,l0,p0,g1,l1,p1,g2,l2,p2,so,sn,sp,kp,h⟩:=h;exact⟨b,sa,sc,g0,l0,p0,g1,l1,p1,g2,l2,p2,so,sn,sp,kp,h.mono hN⟩
theorem ve.swap (h:ve gb D w x N) (hD:∀q,q<w.heap.size->E q->D q):ve gb E w x N:=by
 obtain⟨b,sa,sc,g0,l0,p0,g1,l1,p1,g2,l2,p2,so,sn,sp,kp,h⟩:=h;exact⟨b,sa,sc,g0,l0,p0,g1,l1,p1,g2,l2,p2,so,sn,sp,kp,h.box,h.is,h.ok,fun w'' hw=>h.base w'' (hw.mono hD),fun hk w'' hw=>h.saved hk w'' (hw.mono hD),h.Z7⟩
theorem CS {v0 v1 v2 v3 v4 v5 v6 v7:Value} {e:TypeId} {fr:Nat×Nat} (h:w.heap[B]?=some (.cells #[a0,a1,a2,a3,a4,a5,a6,a7,a8,a9] e fr)) :
  ((((((((w.setCell (B,0) v0).setCell (B,1) v1).setCell (B,2) v2).setCell (B,3) v3).setCell (B,4) v4).setCell (B,5) v5).setCell (B,6) v6).setCell (B,7) v7).heap[B]?=some (.cells #[v0,v1,v2,v3,v4,v5,v6,v7,a8,a9] e fr):=by
 have h:=aM (off:=7) (v:=v7) (aM (off:=6) (v:=v6) (aM (off:=5) (v:=v5) (aM (off:=4) (v:=v4) (aM (off:=3) (v:=v3) (aM (off:=2) (v:=v2) (aM (off:=1) (v:=v1) (aM (off:=0) (v:=v0) h)))))));simpa using h
theorem wS {g:Nat} {a:World} (h:aA (fun b=>b=g) a w) (v0 v1 v2 v3 v4 v5 v6 v7:Value) :
  aA (fun b=>b=g) a ((((((((w.setCell (g,0) v0).setCell (g,1) v1).setCell (g,2) v2).setCell (g,3) v3).setCell (g,4) v4).setCell (g,5) v5).setCell (g,6) v6).setCell (g,7) v7):=
 aA.setCell (aA.setCell (aA.setCell (aA.setCell (aA.setCell (aA.setCell (aA.setCell (aA.setCell h (.inl rfl) _) (.inl rfl) _) (.inl rfl) _) (.inl rfl) _) (.inl rfl) _) (.inl rfl) _) (.inl rfl) _) (.inl rfl) _
theorem M8 {E:Int} (hE:E≠0) :
  Calls Tryz.prog 34 #[.pointer (some (gb,0)),ey,af E] w fun e w'=>e = .returned (af E)/\aq w w':=by
 have hd:(E == 0)=false:=by simpa using hE
 go_enter Tryz.func34,Tryz.ntmps34;go_wp2_with fail;go_ret;exact⟨rfl,aj⟩
theorem KO {y:Option Addr} {yn:Nat} {r0 r1 r2 fl:Int} {T:TypeId} (hb:w.heap[gb]?=some (.cells #[a0,a1,a2,a3,a4,a5,a6,a7,a8,a9] T)) :
  Calls Tryz.prog 34 #[.pointer (some (gb,0)), .agg #[ah y yn yc,ah z0 m0 q0,af r0,ah z1 m1 q1,af r1,ah z2 m2 q2,af r2,af fl],af 0] w fun e w'=>e = .returned (af 0)/\aA (fun b=>b=gb) w w'/\w'.heap[gb]?=some (.cells #[ah y yn yc,ah z0 m0 q0,af r0,ah z1 m1 q1,af r1,ah z2 m2 q2,af r2,af fl,a8,a9] T):=by
 have hlt:gb<w:=(eJ.1 hb).1;obtain⟨W0,hW0⟩:=cd (w.alloc (.cells #[ah y yn yc,ah z0 m0 q0,af r0,ah z1 m1 q1,af r1,ah z2 m2 q2,af r2,af fl] 30));have hT0:aA (fun b=>b=gb) w W0:=by rw [hW0];exact(aA.refl _ _).alloc _
 have kg:W0.heap[gb]?=some (.cells #[a0,a1,a2,a3,a4,a5,a6,a7,a8,a9] T):=by rw [hW0,gy _ _ _ hlt];exact hb
 have kb:W0.heap[w.heap.size]?=some (.cells #[ah y yn yc,ah z0 m0 q0,af r0,ah z1 m1 q1,af r1,ah z2 m2 q2,af r2,af fl] 30):=by rw [hW0];exact au _ _ rfl
 obtain⟨x0,x1,x2,x3,x4,x5,x6,x7,-⟩:=cU kb;obtain⟨c0,c1,c2,c3,c4,c5,c6,c7,cf⟩:W0.cell? (gb,0)=some a0/\W0.cell? (gb,1)=some a1/\W0.cell? (gb,2)=some a2/\W0.cell? (gb,3)=some a3/\W0.cell? (gb,4)=some a4/\W0.cell? (gb,5)=some a5/\W0.cell? (gb,6)=some a6/\W0.cell? (gb,7)=some a7/\∀o,W0.frozen? ⟨gb,o,none⟩=false:=by simp [World.cell?,World.frozen?,kg]
 have HT:=ag (aJ (wS hT0 (ah y yn yc) (ah z0 m0 q0) (af r0) (ah z1 m1 q1) (af r1) (ah z2 m2 q2) (af r2) (af fl)) (CS (v0:=ah y yn yc) (v1:=ah z0 m0 q0) (v2:=af r0) (v3:=ah z1 m1 q1) (v4:=af r1) (v5:=ah z2 m2 q2) (v6:=af r2) (v7:=af fl) kg));clear hT0 kg kb hb;go_enter Tryz.func34,Tryz.ntmps34;go_upto_region 1 with (fail);rw [<-hW0];clear hW0;go_wp2_with fail;go_ret;exact⟨rfl,HT.1,HT.2⟩
end
section
variable {s:ByteArray} {t n a z:Int}
section
variable {v:Value} {b:Ba} {m:Mo} {N:Nat} {w:World}
def Wb (w:World) (m:Mo) (N:Nat) (x:Ending) (w':World):Prop:=aq w w' /\
 ∃b' sa sc g0 l0 p0 g1 l1 p1 g2 l2 p2,x = .returned (.tuple #[.agg (aL sa b'.names sc g0 l0 p0 g1 l1 p1 g2 l2 p2 b'),af 0])/\(∀w'',aQ w w' w''->bR w'' (.agg (aL sa b'.names sc g0 l0 p0 g1 l1 p1 g2 l2 p2 b')) b')/\Is b' m N
def WY (w:World) (E:Int) (x:Ending) (w':World):Prop:=aq w w'/\x = .returned (.tuple #[ey,af E])
theorem Is.small (h:Is b m N):∀s∈b.names,s.size<=140737488351232:=fun s hs=>by
 have:=lS h.st.may s hs;omega
theorem PT (hi:Is b m N) (hN:N<=2900) (h:bR w v b) (tu:s.size<=140737488351232) (hsz:cI w) (h0:m.fU s t n=0) :
  Calls Tryz.prog 35 #[v, .agg #[.string s,af t,af n]] w (Wb w (m.add s t n) (N+1)):=by
 obtain⟨-,h1,-,h2,h3,h4,h5,h6,-,-,h7⟩:=kE ((hi.J0 s t n).trans h0);refine(MF h hi.small tu hsz hi.st hN h1 h2 h3 h4 h5 h6 h7).mono ?_;rintro x w' ⟨hb,b',sa,sc,g0,l0,p0,g1,l1,p1,g2,l2,p2,rfl,hk,e1,e2,hst⟩;refine⟨hb,b',sa,sc,g0,l0,p0,g1,l1,p1,g2,l2,p2,rfl,hk,?_,?_,?_⟩
 ·have e:(m.add s t n).L=ins m.L (cW b s t ⟨1,n,n,n,t,n⟩):=by
   unfold cW;rw [Gs,hi.ns];rfl
  rw [e];exact hst
 ·rw [e1,uT,hi.ns];rfl
 ·rw [e2,hi.fl];rfl
theorem MH (hi:Is b m N) (h:bR w v b) (tu:s.size<=140737488351232) (hsz:cI w) (h0:m.fU s t n≠0) :
  Calls Tryz.prog 35 #[v, .agg #[.string s,af t,af n]] w (WY w (m.fU s t n)):=by
 have e:=hi.J0 s t n;refine(AJ h hi.small tu hsz).mono ?_;rintro x w' ⟨hb,⟨-,h2⟩|⟨h1,-⟩⟩
 ·rw [e]at h2;exact⟨hb,h2⟩
 ·exact absurd (e.symm.trans h1) h0
theorem PA (hi:Is b m N) (hN:N<=2900) (h:bR w v b) (hsz:cI w) (h0:m.xo t=0) :
  Calls Tryz.prog 38 #[v,af t] w (Wb w (m.exp t) N):=by
 obtain⟨e1,e2⟩:=hi.Jt t;have hl:(sj b t).length<=N:=by
  rw [e2];have h1:=ub (bX t) m.L;have h2:=hi.kn.len;show (m.L.filter (bX t)).length<=N;omega
 refine(uM h hi.small hsz).mono ?_;rintro x w' ⟨hb,⟨h1,-⟩|⟨-,⟨-,h2⟩|⟨b',sa,sc,g0,l0,p0,g1,l1,p1,g2,l2,p2,rfl,hk,q1,q2,q3,q4,q5⟩⟩⟩
 ·exact absurd (e1.trans h0) h1
 ·omega
 ·refine⟨hb,b',sa,sc,g0,l0,p0,g1,l1,p1,g2,l2,p2,rfl,hk,⟨q3,by rw [q4,e2],fun k hk=>?_,?_⟩,?_,?_⟩
  ·have:=q5 k hk;omega
  ·have h1:=AP hi.st.cp.2.1.cp (bX t);have h2:=hi.st.gw;show gw (m.L.filter (bX t))<=_;omega
  ·rw [q1,hi.ns];rfl
  ·rw [q2];rfl
theorem Mg (hi:Is b m N) (h:bR w v b) (hsz:cI w) (h0:m.xo t≠0) :
  Calls Tryz.prog 38 #[v,af t] w (WY w (m.xo t)):=by
 have e:=(hi.Jt t).1;refine(uM h hi.small hsz).mono ?_;rintro x w' ⟨hb,⟨-,h2⟩|⟨h1,-⟩⟩
 ·rw [e]at h2;exact⟨hb,h2⟩
 ·exact absurd (e.symm.trans h1) h0
theorem UB (hi:Is b m N) (hN:N<=500) (h:bR w v b) (hsz:cI w) :
  Calls Tryz.prog 36 #[v, .string s,af n,af a,af z] w fun x w'=>aq w w'/\∃ao c,x = .returned (.tuple #[ah ao (m.rows s n a z).length c,af (m.eD s n a z)])/\OwnRows w w' (ah ao (m.rows s n a z).length c) (m.rows s n a z):=by
 obtain⟨e1,e2⟩:=hi.Bo hN s n a z;refine(QD h hi.small hsz).mono ?_;rintro x w' ⟨hb,v',rfl,ho⟩;rw [e2]at ho;obtain⟨ao,c,rfl⟩:=ho.isSlice;exact⟨hb,ao,c,by rw [e1],ho⟩
theorem Xw (hi:Is b m N) (hN:N<=1000000) (h:bR w v b) (hsz:cI w) :
  Calls Tryz.prog 37 #[v, .string s,af a,af z] w fun x w'=>aq w w'/\x = .returned (.tuple #[(m.G7 s a z).v,af (m.wT s a z)]):=by
 obtain⟨e1,e2⟩:=hi.M4 hN s a z;refine(Og h hi.small hsz).mono ?_;rintro x w' ⟨hb,rfl⟩;exact⟨hb,by rw [e1,e2]⟩
theorem Zb (hi:Is b m N) (hN:N<=500) (h:bR w v b) (hsz:cI w) :
  Calls Tryz.prog 39 #[v] w fun x w'=>aq w w'/\∃ao c,x = .returned (.tuple #[ah ao m.bytes c,af 0])/\aT w w' (ah ao m.bytes c) m.bytes:=by
 obtain⟨e1,e2⟩:=hi.enc hN;refine(Mk h hi.small hsz).mono ?_;rintro x w' ⟨hb,v',rfl,ho⟩;rw [e2]at ho;obtain⟨ao,c,rfl⟩:=ho.isSlice;exact⟨hb,ao,c,by rw [e1],ho⟩
end
end
theorem Ze {v:Value} {m:Mo} {N:Nat} {w:World} (ho:m.Ok N) (hN:N<=500) (h:ig w v m.bytes) (hsz:cI w):Calls Tryz.prog 40 #[v] w (Wb w m N):=by
 obtain⟨d0,d1,d2,d3⟩:=ho.fit.dec (by have:=ho.len;omega) (rfl:m.bytes=_);refine(Mp h (Jr _ _ _) hsz).mono ?_;rintro x w' ⟨hb,⟨E,hE,-,h1|⟨-,h1⟩⟩|⟨-,sn,sc,g0,l0,p0,g1,l1,p1,g2,l2,p2,T,hx,hok,hk⟩⟩
 ·exact absurd (h1.symm.trans d0) hE
 ·rw [d1,d2,d3]at h1;exact absurd h1 ho.fit.UK
 ·rw [d1,d2]at hx hk;rw [d1,d2,d3]at hok;exact⟨hb,⟨m.ns,T 0,T 1,T 2,m.fl⟩,sn,sc,g0,l0,p0,g1,l1,p1,g2,l2,p2,hx,hk,ho.fit.bst hok ho.len ho.gw,rfl,rfl⟩
section
variable {i:Int} {es:List Ac} {B C ab aR n cap j:Nat} {w w':World}
structure jd (B:Nat) (w:World) (v:Value) (ps:List Ac):Prop where
 row:w.ownsRow B 46 6 v ps (ps.flatMap Eo)
theorem jd.nil (B:Nat) (w:World):jd B w (az 0 0) []:=⟨oV _ _ _ _⟩
theorem jd.block {v:Value} (h:jd B w v es) (hb:∀g,v.ownBlock=some g->w'.heap[g]?=w.heap[g]?):jd B w' v es:=by
 obtain⟨hl,⟨rfl,h0⟩|⟨g,cap,cur,rfl,hB,hg,h1,h2,h3,h4⟩⟩:=h.row
 ·exact⟨⟨hl, .inl ⟨rfl,h0⟩⟩⟩
 ·exact⟨⟨hl, .inr ⟨g,cap,cur,rfl,hB,(hb g rfl).trans hg,h1,h2,h3,h4⟩⟩⟩
theorem jd.alloc {v:Value} (h:jd B w v es) (o:Obj):jd B (w.alloc o) v es:=⟨Dn h.row o⟩
theorem jd.lt {v:Value} (h:jd B w v es):∀g,v.ownBlock=some g->B<=g/\g<w.heap.size:=World.ownsRow.lt h.row
theorem jd.below {v:Value} (h:jd B w v es) (hb:Below C w w') (hC:w<=C):jd B w' v es:=h.block fun g hg=>hb.block g (by have:=(h.lt g hg).2;omega)
theorem jd.at {v:Value} (h:jd B w v es) (hs:es.length<=1000000):Ki w v es:=ct.owned rh h.row rfl ai
theorem jd.isSlice {v:Value} (h:jd B w v es):∃ao cap,v=ah ao es cap:=by
 obtain⟨hl,⟨rfl,h0⟩|⟨g,cap,cur,rfl,_⟩⟩:=h.row
 ·exact⟨none,0,by rw [h0]⟩
 ·exact⟨_,_,rfl⟩
theorem jd.mono {v:Value} (h:jd B w v es) (hC:C<=B):jd C w v es:=by
 obtain⟨hl,⟨rfl,h0⟩|⟨g,cap,cur,rfl,hB,hg,h1,h2,h3,h4⟩⟩:=h.row
 ·exact⟨⟨hl, .inl ⟨rfl,h0⟩⟩⟩
 ·exact⟨⟨hl, .inr ⟨g,cap,cur,rfl,ai,hg,h1,h2,h3,h4⟩⟩⟩
theorem Fl {b off k:Nat} {xs:List Ac}
  (h:∀i x,xs[i]?=some x->∀j u,(Eo x)[j]?=some u->w.cell? (b,off+i*6+j)=some u) (hk:k<xs) :
  w.cell? (b,off+k*6)=some (af xs[k].k)/\w.cell? (b,off+k*6+1)=some (.string xs[k].s)/\w.cell? (b,off+k*6+2)=some (af xs[k].t)/\w.cell? (b,off+k*6+3)=some (af xs[k].z)/\w.cell? (b,off+k*6+4)=some (af xs[k].sz)/\w.cell? (b,off+k*6+5)=some (af xs[k].v):=by
 have g:∀j u,(Eo xs[k])[j]?=some u->w.cell? (b,off+k*6+j)=some u:=fun j u hu=>h k xs[k] (by simp [hk]) j u hu;exact⟨by simpa using g 0 _ rfl,by simpa using g 1 _ rfl,by simpa using g 2 _ rfl,by simpa using g 3 _ rfl,by simpa using g 4 _ rfl,by simpa using g 5 _ rfl⟩
theorem Nt (h:i=j) (hj:j<n) (w:World):(Instr.indexAt 22 (ah (some (ab,aR)) n cap) (af i)).run Tryz.prog w = .ok (.pointer (some (ab,aR+j*6))) w:=by
 subst h;go_simp
structure fP (B:Nat) (w:World) (v:Value) (ps:List uf):Prop where
 row:w.ownsRow B 42 8 v ps (ps.flatMap yM)
theorem fP.nil (B:Nat) (w:World):fP B w (az 0 0) []:=⟨oV _ _ _ _⟩
theorem fP.block {v:Value} {es:List uf} (h:fP B w v es) (hb:∀g,v.ownBlock=some g->w'.heap[g]?=w.heap[g]?):fP B w' v es:=by
 obtain⟨hl,⟨rfl,h0⟩|⟨g,cap,cur,rfl,hB,hg,h1,h2,h3,h4⟩⟩:=h.row
 ·exact⟨⟨hl, .inl ⟨rfl,h0⟩⟩⟩
 ·exact⟨⟨hl, .inr ⟨g,cap,cur,rfl,hB,(hb g rfl).trans hg,h1,h2,h3,h4⟩⟩⟩
theorem fP.alloc {v:Value} {es:List uf} (h:fP B w v es) (o:Obj):fP B (w.alloc o) v es:=⟨Dn h.row o⟩
theorem fP.lt {v:Value} {es:List uf} (h:fP B w v es):∀g,v.ownBlock=some g->B<=g/\g<w.heap.size:=World.ownsRow.lt h.row
theorem fP.below {v:Value} {es:List uf} (h:fP B w v es) (hb:Below C w w') (hC:w<=C):fP B w' v es:=h.block fun g hg=>hb.block g (by have:=(h.lt g hg).2;omega)
theorem fP.at {v:Value} {es:List uf} (h:fP B w v es) (hs:es.length<=1000000):adN w v es:=ct.owned JC h.row rfl ai
theorem fP.isSlice {v:Value} {es:List uf} (h:fP B w v es):∃ao cap,v=ah ao es cap:=by
 obtain⟨hl,⟨rfl,h0⟩|⟨g,cap,cur,rfl,_⟩⟩:=h.row
 ·exact⟨none,0,by rw [h0]⟩
 ·exact⟨_,_,rfl⟩
theorem fP.mono {v:Value} {es:List uf} (h:fP B w v es) (hC:C<=B):fP C w v es:=by
 obtain⟨hl,⟨rfl,h0⟩|⟨g,cap,cur,rfl,hB,hg,h1,h2,h3,h4⟩⟩:=h.row
 ·exact⟨⟨hl, .inl ⟨rfl,h0⟩⟩⟩
 ·exact⟨⟨hl, .inr ⟨g,cap,cur,rfl,ai,hg,h1,h2,h3,h4⟩⟩⟩
theorem Wd {p:uf} {T:TypeId} {u:Value} (h:(yM p)[j]?=some u) :
  (w.alloc (.cells p.cs T)).cell? (Addr.add (w,0) j)=some u:=by
 have hk:=au w (.cells p.cs T) rfl;have ha:Addr.add (w,0) j=(w,j):=by simp [Addr.add];omega
 rw [ha];simp only [World.cell?,hk];have hj:j<8:=(dW.1 h).1;obtain rfl|rfl|rfl|rfl|rfl|rfl|rfl|rfl:j=0\/j=1\/j=2\/j=3\/j=4\/j=5\/j=6\/j=7:=ai
 all_goals simpa [yM,uf.cs] using h
theorem xI {ops:Array Oper} {rest:List Oper} {o:Oper} {a:Act} {Q:Exit->Act->World->Prop} (hgd:o.guard=none) (s x:Operand)
  (ho:o.op = .call { callee:= .builtin .append,args:=#[s,x],argTypes:=#[23,23] }) (B:Nat) (v:Value) (es:List uf) (hs:a.eval s=v) (hown:fP B w v es)
  (ad:Addr) (e:uf) (hx:a.eval x=ah (some ad) 1 1) (hnews:∀j u,(yM e)[j]?=some u->w.cell? (ad.add j)=some u) (hlen:es.length<=1000000) (hbase:B<=w)
  (h:∀v' w',fP B w' v' (es++[e])->w.grownBy w' v.ownBlock->(v'.ownBlock=v.ownBlock\/v'.ownBlock=some w.heap.size)->wpList Tryz.prog ops Q rest (a.put o.dst v') w'):wpList Tryz.prog ops Q (o::rest) a w:=by
 obtain⟨i0,z,hi,hz,hz1,hz2,hz3⟩:=cG Tryz.U2;refine Go.wpList_append_own_at w hgd s x 23 ho B 42 i0 z 8 80 Tryz.underlying23 hi hz hz1 hz2 hz3 bY v es _ hs hown.row ad 1 1 (yM e) hx rfl hnews (Sw [e] |> fun h u hu=>h u (by simpa using hu)) iI ai hbase ?_;intro v' w' hown' hg _ h4;refine h v' w' ?_ hg h4;have:(es++[e]).flatMap yM=es.flatMap yM++yM e:=bh;refine⟨?_⟩;rw [this,dF];exact hown'
theorem P8 {b off k:Nat} {xs:List uf}
  (h:∀i x,xs[i]?=some x->∀j u,(yM x)[j]?=some u->w.cell? (b,off+i*8+j)=some u) (hk:k<xs) :
  w.cell? (b,off+k*8)=some (af xs[k].an.code)/\w.cell? (b,off+k*8+1)=some (af xs[k].an.is.c)/\w.cell? (b,off+k*8+2)=some (af xs[k].an.is.s)/\w.cell? (b,off+k*8+3)=some (af xs[k].an.is.mi)/\w.cell? (b,off+k*8+4)=some (af xs[k].an.is.ma)/\w.cell? (b,off+k*8+5)=some (af xs[k].an.is.t)/\w.cell? (b,off+k*8+6)=some (af xs[k].an.is.l)/\w.cell? (b,off+k*8+7)=some (ah xs[k].so xs[k].n xs[k].c):=by
 have g:∀j u,(yM xs[k])[j]?=some u->w.cell? (b,off+k*8+j)=some u:=fun j u hu=>h k xs[k] (by simp [hk]) j u hu;exact⟨by simpa using g 0 _ rfl,by simpa using g 1 _ rfl,by simpa using g 2 _ rfl,by simpa using g 3 _ rfl,by simpa using g 4 _ rfl,by simpa using g 5 _ rfl,by simpa using g 6 _ rfl,by simpa using g 7 _ rfl⟩
theorem U0 (h:i=j) (hj:j<n) (w:World):(Instr.indexAt 23 (ah (some (ab,aR)) n cap) (af i)).run Tryz.prog w = .ok (.pointer (some (ab,aR+j*8))) w:=by
 subst h;go_simp
end
section
variable {b:Ba} {N:Nat} {w:World}
def BI (gb:Nat) (D:Nat->Prop) (w:World) (x:St) (a:Ac) (N:Nat) (e:Ending) (w':World):Prop:=
 ∃q:uf,e = .returned (.agg q.cs)/\q.an=gH x a/\aA (fun i=>i=gb) w w'/\ve gb D w' (dP x a) (N+1)/\OwnRows w w' q.v q.an.rows
structure kY (w:World) (a:Ac) (q:uf) (W:World):Prop where
 ac:W.heap[w.heap.size]?=some (.cells a.cs 46)
 res:W.heap[w.heap.size+1]?=some (.cells #[af 0,af 0,af 0,af 0,af 0,af 0,af 0,az 0 0] 42)
 ans:W.heap[w.heap.size+1+1]?=some (.cells q.cs 42)
section
variable {gb:Nat} {D:Nat->Prop} {w W W':World} {x:St} {N:Nat} {b:Ba} {sa:Option Addr} {sc:Nat} {g0:Option Addr} {l0 p0:Nat} {g1:Option Addr} {l1 p1:Nat} {g2:Option Addr} {l2 p2:Nat} {so:Option Addr} {sn sp:Nat} {kp:Bool} {a:Ac} {q:uf}
theorem kY.size (h:kY w a q W):w+3<=W.heap.size:=(eJ.1 h.ans).1
theorem kY.turn (h:kY w a q W) (ht:aA (fun i=>i=gb) W W') (hg:gb<w):kY w a q W':=by
 have hs:=h.size;exact⟨(ht.block _ ai ai).trans h.ac,(ht.block _ ai ai).trans h.res,(ht.block _ ai ai).trans h.ans⟩
theorem kY.below (h:kY w a q W) (hb:aq W W'):kY w a q W':=by
 have hs:=h.size;exact⟨(hb.block _ ai).trans h.ac,(hb.block _ ai).trans h.res,(hb.block _ ai).trans h.ans⟩
theorem kY.TQ (h:kY w a q W):(W,w.heap.size,0,a.k)/\W.cell? (w,1)=some (.string a.s)/\(W,w.heap.size,2,a.t)/\(W,w.heap.size,3,a.z)/\(W,w.heap.size,4,a.sz)/\(W,w.heap.size,5,a.v):=by
 have h1:=h.ac;simp [World.cell?,h1,Ac.cs]
theorem kY.rD (h:kY w a q W):(W,w.heap.size+1+1,0,q.an.code)/\(W,w.heap.size+1+1,1,q.an.is.c)/\(W,w.heap.size+1+1,2,q.an.is.s)/\(W,w.heap.size+1+1,3,q.an.is.mi)/\(W,w.heap.size+1+1,4,q.an.is.ma)/\(W,w.heap.size+1+1,5,q.an.is.t)/\(W,w.heap.size+1+1,6,q.an.is.l)/\W.cell? (w.heap.size+1+1,7)=some (ah q.so q.n q.c)/\∀o,W.frozen? ⟨w.heap.size+1+1,o,none⟩=false:=by
 exact cU h.ans
theorem kY.D8 (h:kY w a q W):(W,w.heap.size+1,0)/\(W,w.heap.size+1,1)/\(W,w.heap.size+1,2)/\(W,w.heap.size+1,3)/\(W,w.heap.size+1,4)/\(W,w.heap.size+1,5)/\(W,w.heap.size+1,6)/\W.cell? (w,1,7)=some (az 0 0)/\∀o,W.frozen? ⟨w.heap.size+1,o,none⟩=false:=by
 exact cU h.res
theorem kY.set (h:kY w a q W) {r:uf} {o:Nat} {u:Value} (hr:q.cs.setIfInBounds o u=r.cs):kY w a r (W.setCell (w.heap.size+1+1,o) u):=by
 refine⟨(cH _ ⟨w.heap.size+1+1,_,none⟩ _ _ (by show w≠w.heap.size+1+1;omega)).trans h.ac,(cH _ ⟨w.heap.size+1+1,_,none⟩ _ _ (by show w+1≠w.heap.size+1+1;omega)).trans h.res,?_⟩;have:=aM (off:=o) (v:=u) h.ans;rw [hr]at this;exact this
end
section
variable {V W1:World} {gb:Nat} {D:Nat->Prop} {w:World} {x:St} {N:Nat} {b:Ba} {sa:Option Addr} {sc:Nat} {g0:Option Addr} {l0 p0:Nat} {g1:Option Addr} {l1 p1:Nat} {g2:Option Addr} {l2 p2:Nat} {so:Option Addr} {sn sp:Nat} {kp:Bool} {a:Ac} {q:uf}
theorem Re:Is mM Mo.zero 0:=⟨(show Ky mM (pH (([]:List Kt).map (Gg mM.names))) 0 from Rc.st),rfl,rfl⟩
theorem JQ {B xb:Nat} {w0:World} (h:Below B w w0) (hx:B<=xb) (v1 v2 v3 v4 v5 v6:Value):Below B w ((((((w0.setCell (xb,1) v1).setCell (xb,2) v2).setCell (xb,3) v3).setCell (xb,4) v4).setCell (xb,5) v5).setCell (xb,6) v6):=
 (((((h.setCell hx _).setCell hx _).setCell hx _).setCell hx _).setCell hx _).setCell hx _
theorem Mf {v:Value} {m:Mo} {t:Int} (hi:Is b m N) (hN:N<=2900) (h:bR w v b) (hsz:cI w) (h0:m.xo t=0) :
  Calls Tryz.prog 38 #[v,af t] w (Wb w (m.exp t) (N+1)):=
 (PA hi hN h hsz h0).mono fun _ _ ⟨h1,b',sa,sc,g0,l0,p0,g1,l1,p1,g2,l2,p2,h2,h3,h4⟩=>⟨h1,b',sa,sc,g0,l0,p0,g1,l1,p1,g2,l2,p2,h2,h3,h4.mono ai⟩
abbrev Z5 (V w:World) (q:uf):World:=((((((((V.setCell (w,1,0) (af q.an.code)).setCell (w,1,1) (af q.an.is.c)).setCell (w,1,2) (af q.an.is.s)).setCell (w,1,3) (af q.an.is.mi)).setCell (w,1,4) (af q.an.is.ma)).setCell (w,1,5) (af q.an.is.t)).setCell (w,1,6) (af q.an.is.l)).setCell (w,1,7) (ah q.so q.n q.c))
abbrev SA (gb:Nat) (w:World) (b:Ba) (a:Ac) (sa:Option Addr) (sc:Nat) (g0:Option Addr) (l0 p0:Nat) (g1:Option Addr) (l1 p1:Nat) (g2:Option Addr) (l2 p2:Nat) (so:Option Addr) (sn sp:Nat) (kp:Bool) (W:World):Prop:=W.cell? (gb,0)=some (ah sa b.names sc)/\W.cell? (gb,1)=some (ah g0 l0 p0)/\(W,gb,2,b.t0.root)/\W.cell? (gb,3)=some (ah g1 l1 p1)/\(W,gb,4,b.t1.root)/\W.cell? (gb,5)=some (ah g2 l2 p2)/\(W,gb,6,b.t2.root)/\(W,gb,7,b.floor)/\W.cell? (gb,8)=some (ah so sn sp)/\W.cell? (gb,9)=some (.bool kp)/\(W,w.heap.size,0,a.k)/\W.cell? (w,1)=some (.string a.s)/\(W,w.heap.size,2,a.t)/\(W,w.heap.size,3,a.z)/\(W,w.heap.size,4,a.sz)/\(W,w.heap.size,5,a.v)
theorem sk {i:Nat} (h:i≠w+1):((((((((V.setCell (w,1,0) (af q.an.code)).setCell (w,1,1) (af q.an.is.c)).setCell (w,1,2) (af q.an.is.s)).setCell (w,1,3) (af q.an.is.mi)).setCell (w,1,4) (af q.an.is.ma)).setCell (w,1,5) (af q.an.is.t)).setCell (w,1,6) (af q.an.is.l)).setCell (w,1,7) (ah q.so q.n q.c)).heap[i]?=V.heap[i]?:=dZ h
theorem Jy:((((((((V.setCell (w,1,0) (af q.an.code)).setCell (w,1,1) (af q.an.is.c)).setCell (w,1,2) (af q.an.is.s)).setCell (w,1,3) (af q.an.is.mi)).setCell (w,1,4) (af q.an.is.ma)).setCell (w,1,5) (af q.an.is.t)).setCell (w,1,6) (af q.an.is.l)).setCell (w,1,7) (ah q.so q.n q.c)).heap.size=V:=by simp only [aG]
theorem NI:aA (fun i=>i=w.heap.size+1) V ((((((((V.setCell (w,1,0) (af q.an.code)).setCell (w,1,1) (af q.an.is.c)).setCell (w,1,2) (af q.an.is.s)).setCell (w,1,3) (af q.an.is.mi)).setCell (w,1,4) (af q.an.is.ma)).setCell (w,1,5) (af q.an.is.t)).setCell (w,1,6) (af q.an.is.l)).setCell (w,1,7) (ah q.so q.n q.c)):=wS (aA.refl _ _) _ _ _ _ _ _ _ _
theorem uU (h:oM gb D w x N b sa sc g0 l0 p0 g1 l1 p1 g2 l2 p2 so sn sp kp) (_hz:kY w a q V) (hb:aq w V) (_hD:∀i,D i->i<w.heap.size) (hs:dP x a=x) (hr:OwnRows (w+3) V q.v q.an.rows) (hq:q.an=gH x a) :
  BI gb D w x a N (.returned (.agg q.cs)) (Z5 V w q):=by
 have hb2:aq w (Z5 V w q):=dw hb ai _ _ _ _ _ _ _ _;refine⟨q,rfl,hq,aA.of hb2 aO,?_,(hr.block fun g hg=>sk (by have:=(hr.lt g hg).1;omega)).mono ai⟩;rw [hs];exact⟨b,sa,sc,g0,l0,p0,g1,l1,p1,g2,l2,p2,so,sn,sp,kp,(h.below hb2 aO).mono ai⟩
theorem Jx (h1:aq w W1) (ht:aA (Loc gb w (w+3)) W1 V):aA (fun i=>i=gb) w (Z5 V w q):=by
 have hS:=NI (V:=V) (w:=w) (q:=q);refine⟨hS.os.trans (ht.os.trans h1.os),hS.tape.trans (ht.tape.trans h1.tape),hS.output.trans (ht.output.trans h1.output),by rw [Jy];exact fZ h1.size ht.size,fun i hi hx=>?_⟩;have:=h1.size;rw [sk ai,ht.block i ai fun hl=>?_,h1.block i hi];rcases hl with hl|hl
 ·exact hx hl
 ·omega
theorem NJ (ht:aA (Loc gb w (w+3)) W1 V):aA (Loc gb w (w+3)) W1 (Z5 V w q):=by
 have hS:=NI (V:=V) (w:=w) (q:=q);refine⟨hS.os.trans ht.os,hS.tape.trans ht.tape,hS.output.trans ht.output,by rw [Jy];exact ht.size,fun i hi hx=>?_⟩;rw [sk (fun e=>hx (.inr ai)),ht.block i hi hx]
theorem yY {y:Mo} {c:Ba} {ya:Option Addr} {yc:Nat} {z0:Option Addr} {m0 q0:Nat} {z1:Option Addr} {m1 q1:Nat} {z2:Option Addr} {m2 q2:Nat} (h:oM gb D w x N b sa sc g0 l0 p0 g1 l1 p1 g2 l2 p2 so sn sp kp) (hD:∀i,D i->i<w.heap.size) (hg:D gb) (h1:aq w W1)
  (hc:∀w'',aQ (w+3) W1 w''->bR w'' (.agg (aL ya c.names yc z0 m0 q0 z1 m1 q1 z2 m2 q2 c)) c) (hi:Is c y (N+1)) (ht:aA (Loc gb w (w+3)) W1 V)
  (hb:V.heap[gb]?=some (.cells #[ah ya c.names yc,ah z0 m0 q0,af c.t0.root,ah z1 m1 q1,af c.t1.root,ah z2 m2 q2,af c.t2.root,af c.floor,ah so sn sp, .bool kp] 63))
  (hs:dP x a=⟨y,x.s⟩) (hq:q.an=gH x a) (hr:q.an.rows=[]/\q.so=none/\q.n=0/\q.c=0):BI gb D w x a N (.returned (.agg q.cs)) (Z5 V w q):=by
 have hgl:=hD gb hg;obtain⟨r1,r2,r3,r4⟩:=hr;refine⟨q,rfl,hq,Jx h1 ht,?_,?_⟩
 ·rw [hs];exact⟨_,_,_,_,_,_,_,_,_,_,_,_,_,_,_,_,h.set hD hg ai h1 ai hc hi (NJ ht) ((sk ai).trans hb)⟩
 ·show OwnRows _ _ (ah q.so q.n q.c) _;rw [r1,r2,r3,r4];exact OwnRows.nil _ _
theorem SU {ro:Option Addr} {tn tp:Nat} (h:oM gb D w x N b sa sc g0 l0 p0 g1 l1 p1 g2 l2 p2 so sn sp kp) (hN:N+1<=500) (hD:∀i,D i->i<w.heap.size) (hg:D gb) (h1:aq w W1) (ho:aT (w+3) W1 (ah ro tn tp) x.m.bytes) (hl:x.m.bytes.length<=1000000) (ht:aA (Loc gb w (w+3)) W1 V)
  (hb:V.heap[gb]?=some (.cells #[ah sa b.names sc,ah g0 l0 p0,af b.t0.root,ah g1 l1 p1,af b.t1.root,ah g2 l2 p2,af b.t2.root,af b.floor,ah ro tn tp, .bool true] 63))
  (hs:dP x a=⟨x.m,x.m⟩) (hq:q.an=gH x a) (hr:q.an.rows=[]/\q.so=none/\q.n=0/\q.c=0):BI gb D w x a N (.returned (.agg q.cs)) (Z5 V w q):=by
 have hgl:=hD gb hg;obtain⟨r1,r2,r3,r4⟩:=hr;refine⟨q,rfl,hq,Jx h1 ht,?_,?_⟩
 ·rw [hs];exact⟨_,_,_,_,_,_,_,_,_,_,_,_,_,_,_,_,(h.save ai hD hg h1 ai ho hl (NJ ht) ((sk ai).trans hb)).mono ai⟩
 ·show OwnRows _ _ (ah q.so q.n q.c) _;rw [r1,r2,r3,r4];exact OwnRows.nil _ _
end
theorem VG {gb:Nat} {D:Nat->Prop} {x:St} {sa:Option Addr} {sc:Nat} {g0:Option Addr} {l0 p0:Nat} {g1:Option Addr} {l1 p1:Nat} {g2:Option Addr} {l2 p2:Nat} {so:Option Addr} {sn sp:Nat} {kp:Bool} {a:Ac}
  (h:oM gb D w x N b sa sc g0 l0 p0 g1 l1 p1 g2 l2 p2 so sn sp kp) (hD:∀q,D q->q<w.heap.size) (hg:D gb) (hN:N+1<=500) (hs:a.s.size<=140737488351232) (hsz:cI w) :
  Calls Tryz.prog 17 #[.pointer (some (gb,0)), .agg a.cs] w (BI gb D w x a N):=by
 have hgl:=h.lt;obtain⟨W0,hW0⟩:=cd (((w.alloc (.cells a.cs 46)).alloc (.cells #[af 0,af 0,af 0,af 0,af 0,af 0,af 0,az 0 0] 42)).alloc (.cells #[af 0,af 0,af 0,af 0,af 0,af 0,af 0,az 0 0] 42));have hb0:aq w W0:=by rw [hW0];exact aj
 have hz0:W0=w.heap.size+3:=by rw [hW0];simp
 have hZ:kY w a ⟨⟨0,ax.zero,[]⟩,none,0,0⟩ W0:=by
  rw [hW0];refine⟨?_,?_,au _ _ bh⟩
  ·rw [gy _ _ _ fk,gy _ _ _ bh];exact au _ _ rfl
  ·rw [gy _ _ _ bh];exact au _ _ bh
 have HZ:=ag fun W (hb:aq W0 W)=>hZ.below hb;have HC:=ag fun W (hb:aq W0 W)=>h.below (aF hb0 hb hb0.size) aO;have HB:=ag fun W (hb:aq W0 W)=>(aF hb0 hb hb0.size:aq w W);have ry:=ag fun W (hb:aq W0 W)=>hsz.below (aF hb0 hb hb0.size);have HE:=ag h;have HD:=ag (aJ hD hg);obtain⟨a0,a1,a2,a3,a4,a5⟩:=hZ.TQ;obtain⟨e0,e1,e2,e3,e4,e5,e6,e7,e8,e9,ef⟩:=(HC W0 (aW _ _)).cells;have LM:gb≠w+1+1:=ai;have B0:aq W0 W0.drew:=(aW _ _).drew;clear h hD hg hsz hZ hb0;go_enter Tryz.func17,Tryz.ntmps17;go_upto_region 2 with (fail);rw [<-hW0];clear hW0;have HS:=ag fun W (hb:aq W0 W)=>(by
  obtain⟨e0,e1,e2,e3,e4,e5,e6,e7,e8,e9,-⟩:=(HC W hb).cells;obtain⟨a0,a1,a2,a3,a4,a5⟩:=(HZ W hb).TQ;exact⟨e0,e1,e2,e3,e4,e5,e6,e7,e8,e9,a0,a1,a2,a3,a4,a5⟩:SA gb w b a sa sc g0 l0 p0 g1 l1 p1 g2 l2 p2 so sn sp kp W)
 have hk3:W0.drew=w.heap.size+3:=hz0;by_cases hk:a.k=1
 ·skip
  have d1:(a.k == 1)=true:=by simp [hk]
  by_cases ee:x.m.fU a.s a.t a.v=0
  ·have sJ:=ag (show dP x a=⟨x.m.add a.s a.t a.v,x.s⟩ by unfold dP;rw [aw hk,aw ee]);have qD:=ag (show (⟨0,ax.zero,[]⟩:An)=gH x a by unfold gH;rw [aw hk,ee]);have Ad:=ag (PT HE.is ai ((HC _ B0).base _ (Only.refl _ _)) hs (ry _ B0) ee);clear ee hk;go_upto_region 5 with (fail);refine fD [(0,1),(1,1),(2,1),(3,1),(4,0),(5,1),(6,0),(7,1),(8,0),(9,1),(10,0),(11,1),(12,2),(13,1),(14,1),(15,3),(16,1),(17,3)] 15 (fun W=>SA gb w b a sa sc g0 l0 p0 g1 l1 p1 g2 l2 p2 so sn sp kp W) cV cV (HS _ B0) ?_
   (simp only [bV,List.filterMap_cons,List.filterMap_nil,List.getElem?_cons_zero,List.getElem?_cons_succ,Option.map_some])
   (repeat first|refine bg ?_|refine aZ ?_)
   refine aP rfl (fun K hK=>?_);go_simp
   (with_reducible refine Ad.out.mono ?_)
   rintro e w1 ⟨hb1,c,ya,yc,z0,m0,q0,z1,m1,q1,z2,m2,q2,rfl,Pf,hi⟩;go_simp;have B1:aq W0 w1:=aF B0 hb1 aO;refine hK _ _ (HS _ B1) ?_;clear hK K;have GC:=ag (aJ Pf hi);clear Pf hi hb1 e0 e1 e2 e3 e4 e5 e6 e7 e8 e9 ef
   (repeat first|refine bg ?_|refine aZ ?_)
   have VY:=ag (HC _ B1).box;refine bq rfl (fun K hK=>?_);go_simp
   (with_reducible refine(KO VY.out).mono ?_)
   rintro e w2 ⟨rfl,ht2,hb2⟩;go_simp;refine hK _ _ ?_;clear hK K;have Xa:=ag ((HZ _ B1).turn ht2 hgl);obtain⟨o0,o1,o2,o3,o4,o5,o6,o7,of⟩:=Xa.rD;have uW:=ag (aJ ht2 hb2);clear ht2 hb2
   (repeat first|refine bg ?_|refine aZ ?_)
   refine bq rfl (fun K hK=>?_);go_simp;refine hK _ _ ?_;clear hK K;refine cC ?_;obtain⟨V,hV⟩:=cd (w2.setCell (w.heap.size+1+1,0) (af 0));have vS:kY w a ⟨⟨0,ax.zero,[]⟩,none,0,0⟩ V:=by rw [hV];exact Xa.set rfl
   have jQ:=ag (yY (V:=V) (q:=⟨⟨0,ax.zero,[]⟩,none,0,0⟩) HE HD.1 HD.2 (HB _ B1) (fun w'' hw=>GC.1 w'' (by rw [hk3];exact hw)) GC.2 (by rw [hV];exact aA.setCell (uW.1.mono fun i _ hi=> .inl hi) (.inl (.inr ⟨by show w<=w.heap.size+1+1;omega,by show w+1+1<w.heap.size+3;omega⟩)) _) (by rw [hV];exact(cH _ ⟨w.heap.size+1+1,_,none⟩ _ _ LM).trans uW.2) sJ qD ⟨rfl,rfl,rfl,rfl⟩);rw [<-hV];clear hV o0 o1 o2 o3 o4 o5 o6 o7 of;obtain⟨o0,o1,o2,o3,o4,o5,o6,o7,of⟩:=vS.rD;obtain⟨r0,r1,r2,r3,r4,r5,r6,r7,rf⟩:=vS.D8;go_wp2_with fail;exact bW (v:= .agg #[af 0,af ax.zero.c,af ax.zero.s,af ax.zero.mi,af ax.zero.ma,af ax.zero.t,af ax.zero.l,az 0 0]) (by simp [results,Tryz.results17,go_sem, *]) rfl jQ
  ·obtain⟨E,hE⟩:=bG (x.m.fU a.s a.t a.v);have sJ:=ag (show dP x a=x by unfold dP;rw [aw hk,ar ee]);have qD:=ag (show (⟨E,ax.zero,[]⟩:An)=gH x a by unfold gH;rw [aw hk,hE]);have xn:=MH HE.is ((HC _ B0).base _ (Only.refl _ _)) hs (ry _ B0) ee;rw [hE]at xn ee;have Ad:=ag xn;have HEE:=ag ee;clear ee hk hE xn;go_upto_region 5 with (fail);refine fD [(0,1),(1,1),(2,1),(3,1),(4,0),(5,1),(6,0),(7,1),(8,0),(9,1),(10,0),(11,1),(12,2),(13,1),(14,1),(15,3),(16,1),(17,3)] 15 (fun W=>SA gb w b a sa sc g0 l0 p0 g1 l1 p1 g2 l2 p2 so sn sp kp W) cV cV (HS _ B0) ?_
   (simp only [bV,List.filterMap_cons,List.filterMap_nil,List.getElem?_cons_zero,List.getElem?_cons_succ,Option.map_some])
   (repeat first|refine bg ?_|refine aZ ?_)
   refine aP rfl (fun K hK=>?_);go_simp
   (with_reducible refine Ad.out.mono ?_)
   rintro e w1 ⟨hb1,rfl⟩;go_simp;have B1:aq W0 w1:=aF B0 hb1 aO;refine hK _ _ (HS _ B1) ?_;clear hK K hb1
   (repeat first|refine bg ?_|refine aZ ?_)
   refine bq rfl (fun K hK=>?_);go_simp
   (with_reducible refine(M8 HEE.out).mono ?_)
   rintro e w2 ⟨rfl,hb2⟩;go_simp;refine hK _ _ ?_;clear hK K;have B2:aq W0 w2:=aF B1 hb2 B1.size;obtain⟨o0,o1,o2,o3,o4,o5,o6,o7,of⟩:=(HZ _ B2).rD
   (repeat first|refine bg ?_|refine aZ ?_)
   refine bq rfl (fun K hK=>?_);go_simp;refine hK _ _ ?_;clear hK K;refine cC ?_;obtain⟨V,hV⟩:=cd (w2.setCell (w.heap.size+1+1,0) (af E));have vS:kY w a ⟨⟨E,ax.zero,[]⟩,none,0,0⟩ V:=by rw [hV];exact(HZ _ B2).set rfl
   have jQ:=ag (uU (V:=V) (q:=⟨⟨E,ax.zero,[]⟩,none,0,0⟩) HE vS (by rw [hV];exact(HB _ B2).setCell (by show w<=w.heap.size+1+1;omega) _) HD.1 sJ (OwnRows.nil _ _) qD);rw [<-hV];clear hV B2 o0 o1 o2 o3 o4 o5 o6 o7 of;obtain⟨o0,o1,o2,o3,o4,o5,o6,o7,of⟩:=vS.rD;obtain⟨r0,r1,r2,r3,r4,r5,r6,r7,rf⟩:=vS.D8;go_wp2_with fail;exact bW (v:= .agg #[af E,af ax.zero.c,af ax.zero.s,af ax.zero.mi,af ax.zero.ma,af ax.zero.t,af ax.zero.l,az 0 0]) (by simp [results,Tryz.results17,go_sem, *]) rfl jQ
 have MN:=ag hk;clear hk;by_cases hk:a.k=2
 ·skip
  have d1:(a.k == 1)=false:=by simp;omega
  have d2:(a.k == 2)=true:=by simp [hk]
  have sJ:=ag (show dP x a=x by unfold dP;rw [ar ai,ar ai,ar ai,ar ai]);have qD:=ag (show (⟨x.m.eD a.s a.sz a.t a.z,ax.zero,x.m.rows a.s a.sz a.t a.z⟩:An)=gH x a by unfold gH;rw [ar ai,aw hk]);have xn:=UB (s:=a.s) (n:=a.sz) (a:=a.t) (z:=a.z) HE.is ai ((HC _ B0).base _ (Only.refl _ _)) (ry _ B0);obtain⟨E,hE⟩:=bG (x.m.eD a.s a.sz a.t a.z);obtain⟨R,hR⟩:=bG (x.m.rows a.s a.sz a.t a.z);rw [hE,hR]at xn qD;have Ad:=ag xn;clear hk hE hR xn;go_upto_region 7 with (fail);refine fD [(0,1),(1,1),(2,1),(3,0),(4,1),(5,0),(6,1),(7,0),(8,1),(9,0),(10,1),(11,0),(12,3),(13,1),(14,1),(15,1),(16,1),(17,3),(18,1),(19,3)] 12 (fun W=>SA gb w b a sa sc g0 l0 p0 g1 l1 p1 g2 l2 p2 so sn sp kp W) cV cV (HS _ B0) ?_
  (simp only [bV,List.filterMap_cons,List.filterMap_nil,List.getElem?_cons_zero,List.getElem?_cons_succ,Option.map_some])
  (repeat first|refine bg ?_|refine aZ ?_)
  refine bq rfl (fun K hK=>?_);go_simp
  (with_reducible refine Ad.out.mono ?_)
  rintro e w1 ⟨hb1,ro,rc,rfl,hro⟩;go_simp;refine hK _ _ ?_;clear hK K;have B1:aq W0 w1:=aF B0 hb1 aO;obtain⟨o0,o1,o2,o3,o4,o5,o6,o7,of⟩:=(HZ _ B1).rD;clear hb1 e0 e1 e2 e3 e4 e5 e6 e7 e8 e9 ef
  (repeat first|refine bg ?_|refine aZ ?_)
  refine bq rfl (fun K hK=>?_);go_simp;refine hK _ _ ?_;clear hK K;obtain⟨V1,hV1⟩:=cd (w1.setCell (w.heap.size+1+1,7) (ah ro R rc));have Sb:kY w a ⟨⟨0,ax.zero,R⟩,ro,R.length,rc⟩ V1:=by rw [hV1];exact(HZ _ B1).set rfl
  have GG:=ag (show aq w V1 by rw [hV1];exact(HB _ B1).setCell (by show w<=w.heap.size+1+1;omega) _);have HR1:=ag (show OwnRows (w+3) V1 (ah ro R rc) R by rw [hV1];rw [hk3]at hro;exact hro.block fun g hg=>cH _ ⟨w.heap.size+1+1,_,none⟩ _ _ (by have h:=(hro.lt g hg).1;show g≠w.heap.size+1+1;omega));rw [<-hV1];clear hV1 hro o0 o1 o2 o3 o4 o5 o6 o7 of;have Xb:=ag Sb;obtain⟨o0,o1,o2,o3,o4,o5,o6,o7,of⟩:=Sb.rD;clear Sb
  (repeat first|refine bg ?_|refine aZ ?_)
  refine bq rfl (fun K hK=>?_);go_simp;refine hK _ _ ?_;clear hK K;refine cC ?_;obtain⟨V,hV⟩:=cd (V1.setCell (w.heap.size+1+1,0) (af E));have vS:kY w a ⟨⟨E,ax.zero,R⟩,ro,R.length,rc⟩ V:=by rw [hV];exact Xb.set rfl
  have jQ:=ag (uU (V:=V) (q:=⟨⟨E,ax.zero,R⟩,ro,R.length,rc⟩) HE vS (by rw [hV];exact GG.setCell (by show w<=w.heap.size+1+1;omega) _) HD.1 sJ (by rw [hV];exact HR1.block fun g hg=>cH _ ⟨w.heap.size+1+1,_,none⟩ _ _ (by have h:=(HR1.lt g hg).1;show g≠w.heap.size+1+1;omega)) qD);rw [<-hV];clear hV o0 o1 o2 o3 o4 o5 o6 o7 of;obtain⟨o0,o1,o2,o3,o4,o5,o6,o7,of⟩:=vS.rD;obtain⟨r0,r1,r2,r3,r4,r5,r6,r7,rf⟩:=vS.D8;go_wp2_with fail;exact bW (v:= .agg #[af E,af ax.zero.c,af ax.zero.s,af ax.zero.mi,af ax.zero.ma,af ax.zero.t,af ax.zero.l,ah ro R rc]) (by simp [results,Tryz.results17,go_sem, *]) rfl jQ
 have Tj:=ag hk;clear hk;have k1:=MN.out;have k2:=Tj.out;by_cases hk:a.k=3
 ·skip
  have d1:(a.k == 1)=false:=by simp;omega
  have d2:(a.k == 2)=false:=by simp;omega
  have d3:(a.k == 3)=true:=by simp [hk]
  have sJ:=ag (show dP x a=x by have k1:=MN.out;have k2:=Tj.out;unfold dP;rw [ar ai,ar ai,ar ai,ar ai]);have qD:=ag (show (⟨x.m.wT a.s a.t a.z,x.m.G7 a.s a.t a.z,[]⟩:An)=gH x a by unfold gH;rw [ar ai,ar ai,aw hk]);have xn:=Xw (s:=a.s) (a:=a.t) (z:=a.z) HE.is ai ((HC _ B0).base _ (Only.refl _ _)) (ry _ B0);obtain⟨E,hE⟩:=bG (x.m.wT a.s a.t a.z);obtain⟨R,hR⟩:=bG (x.m.G7 a.s a.t a.z);rw [hE,hR]at xn qD;have Ad:=ag xn;clear hk hE hR xn;go_upto_region 9 with (fail);refine fD [(0,1),(1,1),(2,1),(3,0),(4,1),(5,0),(6,1),(7,0),(8,1),(9,0),(10,3),(11,1),(12,1),(13,1),(14,1),(15,3),(16,1),(17,3)] 10 (fun W=>SA gb w b a sa sc g0 l0 p0 g1 l1 p1 g2 l2 p2 so sn sp kp W) cV cV (HS _ B0) ?_
  (simp only [bV,List.filterMap_cons,List.filterMap_nil,List.getElem?_cons_zero,List.getElem?_cons_succ,Option.map_some])
  (repeat first|refine bg ?_|refine aZ ?_)
  refine bq rfl (fun K hK=>?_);go_simp
  (with_reducible refine Ad.out.mono ?_)
  rintro e w1 ⟨hb1,rfl⟩;go_simp;refine hK _ _ ?_;clear hK K;have B1:aq W0 w1:=aF B0 hb1 aO;obtain⟨o0,o1,o2,o3,o4,o5,o6,o7,of⟩:=(HZ _ B1).rD;clear hb1 e0 e1 e2 e3 e4 e5 e6 e7 e8 e9 ef
  (repeat first|refine bg ?_|refine aZ ?_)
  refine bq rfl (fun K hK=>?_);go_simp;refine hK _ _ ?_;clear hK K;obtain⟨V1,hV1⟩:=cd ((((((w1.setCell (w.heap.size+1+1,1) (af R.c)).setCell (w.heap.size+1+1,2) (af R.s)).setCell (w.heap.size+1+1,3) (af R.mi)).setCell (w.heap.size+1+1,4) (af R.ma)).setCell (w.heap.size+1+1,5) (af R.t)).setCell (w.heap.size+1+1,6) (af R.l));have Sb:kY w a ⟨⟨0,R,[]⟩,none,0,0⟩ V1:=by rw [hV1];exact(((((((HZ _ B1).set (r:=⟨⟨0,⟨R.c,0,0,0,0,0⟩,[]⟩,none,0,0⟩) rfl).set (r:=⟨⟨0,⟨R.c,R.s,0,0,0,0⟩,[]⟩,none,0,0⟩) rfl).set (r:=⟨⟨0,⟨R.c,R.s,R.mi,0,0,0⟩,[]⟩,none,0,0⟩) rfl).set (r:=⟨⟨0,⟨R.c,R.s,R.mi,R.ma,0,0⟩,[]⟩,none,0,0⟩) rfl).set (r:=⟨⟨0,⟨R.c,R.s,R.mi,R.ma,R.t,0⟩,[]⟩,none,0,0⟩) rfl).set (r:=⟨⟨0,R,[]⟩,none,0,0⟩) rfl)
  have GG:=ag (show aq w V1 by rw [hV1];exact JQ (HB _ B1) ai _ _ _ _ _ _);rw [<-hV1];clear hV1 o0 o1 o2 o3 o4 o5 o6 o7 of;have Xb:=ag Sb;obtain⟨o0,o1,o2,o3,o4,o5,o6,o7,of⟩:=Sb.rD;clear Sb
  (repeat first|refine bg ?_|refine aZ ?_)
  refine bq rfl (fun K hK=>?_);go_simp;refine hK _ _ ?_;clear hK K;refine cC ?_;obtain⟨V,hV⟩:=cd (V1.setCell (w.heap.size+1+1,0) (af E));have vS:kY w a ⟨⟨E,R,[]⟩,none,0,0⟩ V:=by rw [hV];exact Xb.set rfl
  have jQ:=ag (uU (V:=V) (q:=⟨⟨E,R,[]⟩,none,0,0⟩) HE vS (by rw [hV];exact GG.setCell (by show w<=w.heap.size+1+1;omega) _) HD.1 sJ (OwnRows.nil _ _) qD);rw [<-hV];clear hV o0 o1 o2 o3 o4 o5 o6 o7 of;obtain⟨o0,o1,o2,o3,o4,o5,o6,o7,of⟩:=vS.rD;obtain⟨r0,r1,r2,r3,r4,r5,r6,r7,rf⟩:=vS.D8;go_wp2_with fail;exact bW (v:= .agg #[af E,af R.c,af R.s,af R.mi,af R.ma,af R.t,af R.l,az 0 0]) (by simp [results,Tryz.results17,go_sem, *]) rfl jQ
 have Ug:=ag hk;have k3:=hk;clear hk;by_cases hk:a.k=4
 ·skip
  have d1:(a.k == 1)=false:=by simp;omega
  have d2:(a.k == 2)=false:=by simp;omega
  have d3:(a.k == 3)=false:=by simp;omega
  have d4:(a.k == 4)=true:=by simp [hk]
  by_cases ee:x.m.xo a.t=0
  ·have sJ:=ag (show dP x a=⟨x.m.exp a.t,x.s⟩ by unfold dP;rw [ar ai,aw hk,aw ee]);have qD:=ag (show (⟨0,ax.zero,[]⟩:An)=gH x a by unfold gH;rw [ar ai,ar ai,ar ai,aw hk,ee]);have Ad:=ag (Mf HE.is ai ((HC _ B0).base _ (Only.refl _ _)) (ry _ B0) ee);clear ee hk;go_upto_region 11 with (fail);refine fD [(0,1),(1,1),(2,1),(3,1),(4,0),(5,1),(6,0),(7,2),(8,1),(9,1),(10,3),(11,1),(12,3)] 10 (fun W=>SA gb w b a sa sc g0 l0 p0 g1 l1 p1 g2 l2 p2 so sn sp kp W) cV cV (HS _ B0) ?_
   (simp only [bV,List.filterMap_cons,List.filterMap_nil,List.getElem?_cons_zero,List.getElem?_cons_succ,Option.map_some])
   (repeat first|refine bg ?_|refine aZ ?_)
   refine aP rfl (fun K hK=>?_);go_simp
   (with_reducible refine Ad.out.mono ?_)
   rintro e w1 ⟨hb1,c,ya,yc,z0,m0,q0,z1,m1,q1,z2,m2,q2,rfl,Pf,hi⟩;go_simp;have B1:aq W0 w1:=aF B0 hb1 aO;refine hK _ _ (HS _ B1) ?_;clear hK K;have GC:=ag (aJ Pf hi);clear Pf hi hb1 e0 e1 e2 e3 e4 e5 e6 e7 e8 e9 ef
   (repeat first|refine bg ?_|refine aZ ?_)
   have VY:=ag (HC _ B1).box;refine bq rfl (fun K hK=>?_);go_simp
   (with_reducible refine(KO VY.out).mono ?_)
   rintro e w2 ⟨rfl,ht2,hb2⟩;go_simp;refine hK _ _ ?_;clear hK K;have Xa:=ag ((HZ _ B1).turn ht2 hgl);obtain⟨o0,o1,o2,o3,o4,o5,o6,o7,of⟩:=Xa.rD;have uW:=ag (aJ ht2 hb2);clear ht2 hb2
   (repeat first|refine bg ?_|refine aZ ?_)
   refine bq rfl (fun K hK=>?_);go_simp;refine hK _ _ ?_;clear hK K;refine cC ?_;obtain⟨V,hV⟩:=cd (w2.setCell (w.heap.size+1+1,0) (af 0));have vS:kY w a ⟨⟨0,ax.zero,[]⟩,none,0,0⟩ V:=by rw [hV];exact Xa.set rfl
   have jQ:=ag (yY (V:=V) (q:=⟨⟨0,ax.zero,[]⟩,none,0,0⟩) HE HD.1 HD.2 (HB _ B1) (fun w'' hw=>GC.1 w'' (by rw [hk3];exact hw)) GC.2 (by rw [hV];exact aA.setCell (uW.1.mono fun i _ hi=> .inl hi) (.inl (.inr ⟨by show w<=w.heap.size+1+1;omega,by show w+1+1<w.heap.size+3;omega⟩)) _) (by rw [hV];exact(cH _ ⟨w.heap.size+1+1,_,none⟩ _ _ LM).trans uW.2) sJ qD ⟨rfl,rfl,rfl,rfl⟩);rw [<-hV];clear hV o0 o1 o2 o3 o4 o5 o6 o7 of;obtain⟨o0,o1,o2,o3,o4,o5,o6,o7,of⟩:=vS.rD;obtain⟨r0,r1,r2,r3,r4,r5,r6,r7,rf⟩:=vS.D8;go_wp2_with fail;exact bW (v:= .agg #[af 0,af ax.zero.c,af ax.zero.s,af ax.zero.mi,af ax.zero.ma,af ax.zero.t,af ax.zero.l,az 0 0]) (by simp [results,Tryz.results17,go_sem, *]) rfl jQ
  ·obtain⟨E,hE⟩:=bG (x.m.xo a.t);have sJ:=ag (show dP x a=x by unfold dP;rw [ar ai,aw hk,ar ee]);have qD:=ag (show (⟨E,ax.zero,[]⟩:An)=gH x a by unfold gH;rw [ar ai,ar ai,ar ai,aw hk,hE]);have xn:=Mg HE.is ((HC _ B0).base _ (Only.refl _ _)) (ry _ B0) ee;rw [hE]at xn ee;have Ad:=ag xn;have HEE:=ag ee;clear ee hk hE xn;go_upto_region 11 with (fail);refine fD [(0,1),(1,1),(2,1),(3,1),(4,0),(5,1),(6,0),(7,2),(8,1),(9,1),(10,3),(11,1),(12,3)] 10 (fun W=>SA gb w b a sa sc g0 l0 p0 g1 l1 p1 g2 l2 p2 so sn sp kp W) cV cV (HS _ B0) ?_
   (simp only [bV,List.filterMap_cons,List.filterMap_nil,List.getElem?_cons_zero,List.getElem?_cons_succ,Option.map_some])
   (repeat first|refine bg ?_|refine aZ ?_)
   refine aP rfl (fun K hK=>?_);go_simp
   (with_reducible refine Ad.out.mono ?_)
   rintro e w1 ⟨hb1,rfl⟩;go_simp;have B1:aq W0 w1:=aF B0 hb1 aO;refine hK _ _ (HS _ B1) ?_;clear hK K hb1
   (repeat first|refine bg ?_|refine aZ ?_)
   refine bq rfl (fun K hK=>?_);go_simp
   (with_reducible refine(M8 HEE.out).mono ?_)
   rintro e w2 ⟨rfl,hb2⟩;go_simp;refine hK _ _ ?_;clear hK K;have B2:aq W0 w2:=aF B1 hb2 B1.size;obtain⟨o0,o1,o2,o3,o4,o5,o6,o7,of⟩:=(HZ _ B2).rD
   (repeat first|refine bg ?_|refine aZ ?_)
   refine bq rfl (fun K hK=>?_);go_simp;refine hK _ _ ?_;clear hK K;refine cC ?_;obtain⟨V,hV⟩:=cd (w2.setCell (w.heap.size+1+1,0) (af E));have vS:kY w a ⟨⟨E,ax.zero,[]⟩,none,0,0⟩ V:=by rw [hV];exact(HZ _ B2).set rfl
   have jQ:=ag (uU (V:=V) (q:=⟨⟨E,ax.zero,[]⟩,none,0,0⟩) HE vS (by rw [hV];exact(HB _ B2).setCell (by show w<=w.heap.size+1+1;omega) _) HD.1 sJ (OwnRows.nil _ _) qD);rw [<-hV];clear hV B2 o0 o1 o2 o3 o4 o5 o6 o7 of;obtain⟨o0,o1,o2,o3,o4,o5,o6,o7,of⟩:=vS.rD;obtain⟨r0,r1,r2,r3,r4,r5,r6,r7,rf⟩:=vS.D8;go_wp2_with fail;exact bW (v:= .agg #[af E,af ax.zero.c,af ax.zero.s,af ax.zero.mi,af ax.zero.ma,af ax.zero.t,af ax.zero.l,az 0 0]) (by simp [results,Tryz.results17,go_sem, *]) rfl jQ
 have k4:=hk;clear hk;by_cases hk:a.k=5
 ·skip
  have d1:(a.k == 1)=false:=by simp;omega
  have d2:(a.k == 2)=false:=by simp;omega
  have d3:(a.k == 3)=false:=by simp;omega
  have d4:(a.k == 4)=false:=by simp;omega
  have d5:(a.k == 5)=true:=by simp [hk]
  have sJ:=ag (show dP x a=⟨x.m,x.m⟩ by unfold dP;rw [ar ai,ar ai,aw hk]);have qD:=ag (show (⟨0,ax.zero,[]⟩:An)=gH x a by unfold gH;rw [ar ai,ar ai,ar ai,ar ai,aw (.inl hk)]);have hln:x.m.bytes.length<=1000000:=by have h1:=HE.is.ok ai;have h2:=h1.fit.short (by have:=h1.len;omega);show (fH _ _ _++_).length<=_;omega
  have Ad:=ag (Zb HE.is ai ((HC W0 (aW _ _)).base _ (Only.refl _ _)) (ry W0 (aW _ _)));have Ud:=ag hln;clear hk hln;go_upto_region 14 with (go_at_call 39;(with_reducible refine Ad.out.mono ?_);rintro e w1 ⟨hb1,ro,rc,rfl,hro⟩);have B1:aq W0 w1:=hb1;have Xg:=ag hro;have GG:=ag (HC _ B1).box;obtain⟨RN,hRN⟩:=bG (x.m.bytes.length);have Gy:=ag hRN;rw [hRN];clear hRN hro;obtain⟨o0,o1,o2,o3,o4,o5,o6,o7,of⟩:=(HZ _ B1).rD;clear hb1 e0 e1 e2 e3 e4 e5 e6 e7 e8 e9 ef;go_upto_region 15 with (fail);obtain⟨V1,hV1⟩:=cd (w1.setCell (w.heap.size+1+1,0) (af 0));have Xb:=ag (show kY w a ⟨⟨0,ax.zero,[]⟩,none,0,0⟩ V1 by rw [hV1];exact(HZ _ B1).set rfl);have S9:=ag (show aA (Loc gb w (w+3)) w1 V1 by rw [hV1];exact aA.setCell (aA.refl _ _) (.inl (.inr ⟨by show w<=w.heap.size+1+1;omega,by show w+1+1<w.heap.size+3;omega⟩)) _);have hg1:V1.heap[gb]?=w1.heap[gb]?:=by rw [hV1];exact cH _ ⟨w.heap.size+1+1,_,none⟩ _ _ LM
  have HG1:=ag (hg1.trans GG);clear hg1;rw [<-hV1];clear hV1 o0 o1 o2 o3 o4 o5 o6 o7 of;obtain⟨g8,g9,gf⟩:V1.cell? (gb,8)=some (ah so sn sp)/\V1.cell? (gb,9)=some (.bool kp)/\∀o,V1.frozen? ⟨gb,o,none⟩=false:=by have h1:=HG1.out;simp [World.cell?,World.frozen?,h1]
  go_upto_region 21 with (fail);obtain⟨V,hV⟩:=cd ((V1.setCell (gb,8) (ah ro RN rc)).setCell (gb,9) (.bool true));have YS:aA (fun i=>i=gb) V1 V:=by rw [hV];exact aA.setCell (X:=fun i=>i=gb) (p:=(gb,9)) (aA.setCell (X:=fun i=>i=gb) (p:=(gb,8)) (aA.refl _ _) (.inl rfl) _) (.inl rfl) _
  have vS:kY w a ⟨⟨0,ax.zero,[]⟩,none,0,0⟩ V:=Xb.turn YS hgl;have jQ:=ag (SU (V:=V) (q:=⟨⟨0,ax.zero,[]⟩,none,0,0⟩) HE hN HD.1 HD.2 (HB _ B1) (by have h:=Xg.out;rw [hz0]at h;exact h) Ud (S9.trans (YS.mono fun i _ hi=> .inl hi)) (by rw [hV,Gy];have h:=aM (off:=9) (v:= .bool true) (aM (off:=8) (v:=ah ro RN rc) HG1);simpa using h) sJ qD ⟨rfl,rfl,rfl,rfl⟩);rw [<-hV];clear hV YS g8 g9 gf;obtain⟨o0,o1,o2,o3,o4,o5,o6,o7,of⟩:=vS.rD;obtain⟨r0,r1,r2,r3,r4,r5,r6,r7,rf⟩:=vS.D8;go_wp2_with fail;exact bW (v:= .agg #[af 0,af ax.zero.c,af ax.zero.s,af ax.zero.mi,af ax.zero.ma,af ax.zero.t,af ax.zero.l,az 0 0]) (by simp [results,Tryz.results17,go_sem, *]) rfl jQ
 have k5:=hk;clear hk;by_cases hk:a.k=6
 ·skip
  have d1:(a.k == 1)=false:=by simp;omega
  have d2:(a.k == 2)=false:=by simp;omega
  have d3:(a.k == 3)=false:=by simp;omega
  have d4:(a.k == 4)=false:=by simp;omega
  have d5:(a.k == 5)=false:=by simp;omega
  have d6:(a.k == 6)=true:=by simp [hk]
  have sJ:=ag (show dP x a=⟨x.s,x.s⟩ by unfold dP;rw [ar ai,ar ai,ar ai,aw hk]);have qD:=ag (show (⟨0,ax.zero,[]⟩:An)=gH x a by unfold gH;rw [ar ai,ar ai,ar ai,ar ai,aw (.inr hk)]);clear hk
  cases kp with
  |false=>
   have hx0:=HE.Z7 rfl;have HN:=ag (yT W0);have HX0:=ag hx0;clear hx0;go_upto_region 19 with (fail);clear e0 e1 e2 e3 e4 e5 e6 e7 e8 e9 ef;have MK:=ag fun w1 (hb1:aq W0 w1)=>(HC w1 hb1).cells;go_upto_region 21 with (go_at_call 16;(with_reducible refine HN.out.mono ?_);rintro e w1 ⟨⟨v1,rfl,xj⟩,hb1⟩;obtain⟨ya,yc,z0,m0,q0,z1,m1,q1,z2,m2,q2,rfl,-⟩:=(xj w1 (aQ.refl _ _)).open;obtain⟨e0,e1,e2,e3,e4,e5,e6,e7,e8,e9,ef⟩:=MK _ hb1);have B1:aq W0 w1:=hb1;obtain⟨V,hV⟩:=cd (((((((((w1.setCell (gb,0) (ah ya mM.names yc)).setCell (gb,1) (ah z0 m0 q0)).setCell (gb,2) (af mM.t0.root)).setCell (gb,3) (ah z1 m1 q1)).setCell (gb,4) (af mM.t1.root)).setCell (gb,5) (ah z2 m2 q2)).setCell (gb,6) (af mM.t2.root)).setCell (gb,7) (af mM.floor)));have YS:aA (fun i=>i=gb) w1 V:=by rw [hV];exact wS (aA.refl _ _) _ _ _ _ _ _ _ _
   have vS:kY w a ⟨⟨0,ax.zero,[]⟩,none,0,0⟩ V:=(HZ _ B1).turn YS hgl;have jQ:=ag (yY (V:=V) (q:=⟨⟨0,ax.zero,[]⟩,none,0,0⟩) (y:=x.s) HE HD.1 HD.2 (HB _ B1) (fun w'' hw=>xj w'' (hw.mono ai)) (by rw [HX0];exact Re.mono ai) (YS.mono fun i _ hi=> .inl hi) (by rw [hV];exact CS (HC _ B1).box) sJ qD ⟨rfl,rfl,rfl,rfl⟩);rw [<-hV];clear hV YS xj hb1 e0 e1 e2 e3 e4 e5 e6 e7 e8 e9 ef;obtain⟨o0,o1,o2,o3,o4,o5,o6,o7,of⟩:=vS.rD;obtain⟨r0,r1,r2,r3,r4,r5,r6,r7,rf⟩:=vS.D8;go_wp2_with fail;exact bW (v:= .agg #[af 0,af ax.zero.c,af ax.zero.s,af ax.zero.mi,af ax.zero.ma,af ax.zero.t,af ax.zero.l,az 0 0]) (by simp [results,Tryz.results17,go_sem, *]) rfl jQ
  |true=>
   have HDC:=ag (Ze HE.ok ai ((HC W0 (aW _ _)).saved rfl _ (Only.refl _ _)) (ry W0 (aW _ _)));have MK:=ag fun w1 (hb1:aq W0 w1)=>(HC w1 hb1).box;go_upto_region 20 with (fail);go_upto_region 21 with (first|(go_at_call 40;(with_reducible refine HDC.out.mono ?_);rintro e w1 ⟨hb1,c,ya,yc,z0,m0,q0,z1,m1,q1,z2,m2,q2,rfl,Pf,hi⟩;have GC:=ag (aJ Pf hi);clear Pf hi;have VY:=MK _ hb1)|(go_at_call 34;(with_reducible refine(KO VY).mono ?_);rintro e w2 ⟨rfl,ht2,hb2⟩;have Xa:=ag ((HZ _ hb1).turn ht2 hgl);obtain⟨o0,o1,o2,o3,o4,o5,o6,o7,of⟩:=Xa.rD;have uW:=ag (aJ ht2 hb2);clear ht2 hb2));have B1:aq W0 w1:=hb1;obtain⟨V,hV⟩:=cd (w2.setCell (w.heap.size+1+1,0) (af 0));have vS:kY w a ⟨⟨0,ax.zero,[]⟩,none,0,0⟩ V:=by rw [hV];exact Xa.set rfl
   have jQ:=ag (yY (V:=V) (q:=⟨⟨0,ax.zero,[]⟩,none,0,0⟩) HE HD.1 HD.2 (HB _ B1) (fun w'' hw=>GC.1 w'' (by rw [hz0];exact hw)) (GC.2.mono ai) (by rw [hV];exact aA.setCell (uW.1.mono fun i _ hi=> .inl hi) (.inl (.inr ⟨by show w<=w.heap.size+1+1;omega,by show w+1+1<w.heap.size+3;omega⟩)) _) (by rw [hV];exact(cH _ ⟨w.heap.size+1+1,_,none⟩ _ _ LM).trans uW.2) sJ qD ⟨rfl,rfl,rfl,rfl⟩);rw [<-hV];clear hV VY o0 o1 o2 o3 o4 o5 o6 o7 of;clear e0 e1 e2 e3 e4 e5 e6 e7 e8 e9 ef;obtain⟨o0,o1,o2,o3,o4,o5,o6,o7,of⟩:=vS.rD;obtain⟨r0,r1,r2,r3,r4,r5,r6,r7,rf⟩:=vS.D8;go_wp2_with fail;exact bW (v:= .agg #[af 0,af ax.zero.c,af ax.zero.s,af ax.zero.mi,af ax.zero.ma,af ax.zero.t,af ax.zero.l,az 0 0]) (by simp [results,Tryz.results17,go_sem, *]) rfl jQ
 have k6:=hk;clear hk;have d1:(a.k == 1)=false:=by simp;omega
 have d2:(a.k == 2)=false:=by simp;omega
 have d3:(a.k == 3)=false:=by simp;omega
 have d4:(a.k == 4)=false:=by simp;omega
 have d5:(a.k == 5)=false:=by simp;omega
 have d6:(a.k == 6)=false:=by simp;omega
 have sJ:=ag (show dP x a=x by unfold dP;rw [ar ai,ar ai,ar ai,ar ai]);have qD:=ag (show (⟨3,ax.zero,[]⟩:An)=gH x a by unfold gH;rw [ar ai,ar ai,ar ai,ar ai,ar ai]);clear e0 e1 e2 e3 e4 e5 e6 e7 e8 e9 ef;obtain⟨o0,o1,o2,o3,o4,o5,o6,o7,of⟩:=(HZ W0 (aW _ _)).rD;go_upto_region 21 with (fail);obtain⟨V,hV⟩:=cd (W0.setCell (w.heap.size+1+1,0) (af 3));have vS:kY w a ⟨⟨3,ax.zero,[]⟩,none,0,0⟩ V:=by rw [hV];exact(HZ W0 (aW _ _)).set rfl
 have jQ:=ag (uU (V:=V) (q:=⟨⟨3,ax.zero,[]⟩,none,0,0⟩) HE vS (by rw [hV];exact(HB W0 (aW _ _)).setCell (by show w<=w.heap.size+1+1;omega) _) HD.1 sJ (OwnRows.nil _ _) qD);rw [<-hV];clear hV o0 o1 o2 o3 o4 o5 o6 o7 of;obtain⟨o0,o1,o2,o3,o4,o5,o6,o7,of⟩:=vS.rD;obtain⟨r0,r1,r2,r3,r4,r5,r6,r7,rf⟩:=vS.D8;go_wp2_with fail;exact bW (v:= .agg #[af 3,af ax.zero.c,af ax.zero.s,af ax.zero.mi,af ax.zero.ma,af ax.zero.t,af ax.zero.l,az 0 0]) (by simp [results,Tryz.results17,go_sem, *]) rfl jQ
end
section
variable {xs:List Ac} {gb N:Nat} {D:Nat->Prop} {x:St} {w:World}
def NV (xs:List Ac) (w:World) (e:Ending) (w':World):Prop:=aq w w' /\
 ∃ao ac,∃qs:List uf,∃b sa sc g0 l0 p0 g1 l1 p1 g2 l2 p2,e = .returned (.tuple #[ah ao qs ac, .agg (aL sa b.names sc g0 l0 p0 g1 l1 p1 g2 l2 p2 b),af 0])/\qs.map uf.an=tV St.zero xs /\
  fP w w' (ah ao qs ac) qs/\(∀q∈qs,OwnRows w w' q.v q.an.rows)/\(∀w'',aQ w w' w''->bR w'' (.agg (aL sa b.names sc g0 l0 p0 g1 l1 p1 g2 l2 p2 b)) b)/\Is b (oh St.zero xs).m xs /\
  ∀j,j<=xs.length->(oh St.zero (xs.take j)).m.Ok j
structure SY (w:World) (gb:Nat) (xs:List Ac) (k:Nat) (ov:Value) (qs:List uf) (wr:World):Prop where
 below:aq w wr
 lo:w<gb
 lt:gb<wr
 res:wr.heap[w.heap.size]?=some (.cells cz 30)
 own:fP (gb+1) wr ov qs
 an:qs.map uf.an=tV St.zero (xs.take k)
 eng:ve gb (fun i=>i=gb\/ov.ownBlock=some i) wr (oh St.zero (xs.take k)) k
 rows:∀q∈qs,OwnRows (gb+1) wr q.v q.an.rows/\∀g,q.v.ownBlock=some g->ov.ownBlock≠some g
 ok:∀j,j<=k->(oh St.zero (xs.take j)).m.Ok j
theorem ve.ok (h:ve gb D w x N) (hN:N<=2900):x.m.Ok N:=by
 obtain⟨b,sa,sc,g0,l0,p0,g1,l1,p1,g2,l2,p2,so,sn,sp,kp,h⟩:=h;exact h.is.ok hN
theorem ve.move {E:Nat->Prop} {w':World} (h:ve gb D w x N) (hO:Only D w w') (hg:w'.heap[gb]?=w.heap[gb]?) (hE:∀q,q<w.heap.size->E q->D q):ve gb E w' x N:=by
 obtain⟨b,sa,sc,g0,l0,p0,g1,l1,p1,g2,l2,p2,so,sn,sp,kp,h⟩:=h;have key:∀w'',Only E w' w''->Only D w w'':=fun w'' hw=>⟨fZ hO.size hw.size,fun q hq hd=>(hw.block q (oI hq hO.size) (fun he=>hd (hE q hq he))).trans (hO.block q hq hd)⟩;exact⟨b,sa,sc,g0,l0,p0,g1,l1,p1,g2,l2,p2,so,sn,sp,kp,hg.trans h.box,h.is,h.ok,fun w'' hw=>h.base w'' (key w'' hw),fun hk w'' hw=>h.saved hk w'' (key w'' hw),h.Z7⟩
theorem Qv {k:Nat} (hk:k<xs) (x:St):oh x (xs.take (k+1))=dP (oh x (xs.take k)) xs[k]/\tV x (xs.take (k+1))=tV x (xs.take k)++[gH (oh x (xs.take k)) xs[k]]:=by
 rw [ja hk];exact⟨EK _ _ _,Oq _ _ _⟩
section
variable {w wr w1 w2 w3 w4:World} {gb:Nat} {xs:List Ac} {k:Nat} {ov v':Value} {qs:List uf} {q:uf} {a:Ac}
theorem SY.step (h:SY w gb xs k ov qs wr) (hk:k<xs) (ha:xs[k]=a) (h5:k+1<=500) (h1:aq wr w1) (hq:q.an=gH (oh St.zero (xs.take k)) a) (ht:aA (fun i=>i=gb) w1 w2)
  (he:ve gb (fun i=>i=gb\/ov.ownBlock=some i) w2 (dP (oh St.zero (xs.take k)) a) (k+1)) (hr:OwnRows w1 w2 q.v q.an.rows)
  (h3:aq w2 w3) (h4:fP (gb+1) w4 v' (qs++[q])) (hg:w3.grownBy w4 ov.ownBlock) (hv:v'.ownBlock=ov.ownBlock\/v'.ownBlock=some w3.heap.size):SY w gb xs (k+1) v' (qs++[q]) w4:=by
 subst ha;have hol:=h.own.lt;have s1:=h1.size;have s2:=ht.size;have s3:=h3.size;have s4:=hg.size;have hlo:=h.lo;have hlt:=h.lt;obtain⟨e1,e2⟩:=Qv hk St.zero;have t3:aA (fun i=>i=gb\/ov.ownBlock=some i) w2 w4:=aA.grown (aA.of h3 aO) hg fun k hk=> .inl (.inr hk);have T:aA (fun i=>i=gb\/ov.ownBlock=some i) wr w4:=((aA.of h1 aO).trans (ht.mono fun i _ hi=> .inl hi)).trans t3;have cT:=h.below.size;have RF:∀i,i<gb->¬(i=gb\/ov.ownBlock=some i):=fun i hi hx=>by
  rcases hx with hx|hx
  ·omega
  ·have:=(hol i hx).1;omega
 have g34:∀i,i<w3.heap.size->ov.ownBlock≠some i->w4.heap[i]?=w3.heap[i]?:=fun i hi hn=>hg.block i hi fun e=>hn e.symm;refine⟨T.below h.below cT fun i hi=>?_,hlo,by have:=T.size;omega,(T.block _ ai (RF _ hlo)).trans h.res,h4,?_,?_,fun p hp=>?_,fun j hj=>?_⟩
 ·rcases hi with hi|hi
  ·omega
  ·have:=(hol i hi).1;omega
 ·rw [sH,h.an,e2,List.map_cons,List.map_nil,hq]
 ·rw [e1];refine he.move (Only.turn t3 fun q hq=>hq) ?_ fun q hq hx=>?_
  ·rw [g34 gb ai fun e=>by have:=(hol gb e).1;omega];exact h3.block gb ai
  ·rcases hx with hx|hx
   ·exact .inl hx
   ·rcases hv with hv|hv
    ·exact .inr (hv▸hx)
    ·rw [hv]at hx;injection hx with hx;omega
 ·rcases kW.1 hp with hp|hp
  ·obtain⟨r1,r2⟩:=h.rows p hp;refine⟨r1.block fun g hgg=>T.block g (r1.lt g hgg).2 fun hx=>?_,fun g hgg hx=>?_⟩
   ·rcases hx with hx|hx
    ·have:=(r1.lt g hgg).1;omega
    ·exact r2 g hgg hx
   ·have:=(r1.lt g hgg).2;rcases hv with hv|hv
    ·exact r2 g hgg (hv▸hx)
    ·rw [hv]at hx;injection hx with hx;omega
  ·rw [oY.1 hp];refine⟨(hr.block fun g hgg=>?_).mono ai,fun g hgg hx=>?_⟩
   ·obtain⟨q1,q2⟩:=hr.lt g hgg;rw [g34 g ai fun e=>by have:=(hol g e).2;omega];exact h3.block g q2
   ·obtain⟨q1,q2⟩:=hr.lt g hgg;rcases hv with hv|hv
    ·have:=(hol g (hv▸hx)).2;omega
    ·rw [hv]at hx;injection hx with hx;omega
 ·by_cases hjk:j<=k
  ·exact h.ok j hjk
  ·obtain rfl:j=k+1:=ai;rw [e1];exact he.ok ai
end
theorem Uz {v:Value} (h:Ki w v xs) (hs:∀a∈xs,a.s.size<=140737488351232) (hl:xs.length<=500) (hsz:cI w) :
  Calls Tryz.prog 5 #[v] w (NV xs w):=by
 obtain⟨ao,cap,rfl,a1,a2,a3,a4,a5⟩:=h;obtain⟨W0,hW0⟩:=cd (w.alloc (.cells cz 30));have hb0:aq w W0:=by rw [hW0];exact aj
 have hz0:W0=w.heap.size+1:=by rw [hW0];simp
 have k0:W0.heap[w.heap.size]?=some (.cells cz 30):=by rw [hW0];exact au _ _ rfl
 have hd:decide ((500:Int)<(xs.length:Int))=false:=by simp;omega
 have HN:=ag (yT W0);have ry:=ag hsz;have HL:=ag hl;have HSS:=ag hs;clear hsz hl hs;go_enter Tryz.func5,Tryz.ntmps5;go_upto_region 1 with (fail);rw [<-hW0];clear hW0;go_upto_region 4 with (go_at_call 16;(with_reducible refine HN.out.mono ?_);rintro e w1 ⟨⟨v1,rfl,xj⟩,hb1⟩;obtain⟨sa,sc,g0,l0,p0,g1,l1,p1,g2,l2,p2,rfl,-⟩:=(xj w1 (aQ.refl _ _)).open);obtain⟨W1,hW1⟩:=cd (w1.alloc (.cells #[ah sa mM.names sc,ah g0 l0 p0,af mM.t0.root,ah g1 l1 p1,af mM.t1.root,ah g2 l2 p2,af mM.t2.root,af mM.floor,az 0 0, .bool false] 63));have xm:aq w1 W1:=by rw [hW1];exact aj
 have k1:W1.heap[w1.heap.size]?=some (.cells #[ah sa mM.names sc,ah g0 l0 p0,af mM.t0.root,ah g1 l1 p1,af mM.t1.root,ah g2 l2 p2,af mM.t2.root,af mM.floor,az 0 0, .bool false] 63):=by rw [hW1];exact au _ _ rfl
 have hs1:=hb1.size;have hz1:W1=w1.heap.size+1:=by rw [hW1];simp
 have HI:=ag (show SY w w1 xs 0 (az 0 0) [] W1 from
  ⟨aF (aF hb0 hb1 hb0.size) xm ai,ai,ai,(xm.block _ ai).trans ((hb1.block _ ai).trans k0),fP.nil _ _,rfl,
   ⟨mM,sa,sc,g0,l0,p0,g1,l1,p1,g2,l2,p2,none,0,0,false,k1,Re,Mo.Nh 0,fun w'' hw=>xj w'' ⟨by have:=hw.size;omega,fun q _ hq=>(hw.block q ai (fun hx=>by
    rcases hx with hx|hx
    ·omega
    ·cases hx)).trans (xm.block q hq)⟩,(fun hk=>by cases hk),fun _=>rfl⟩,(fun q hq=>by cases hq),fun j hj=>by
   obtain rfl:j=0:=ai;exact Mo.Nh 0⟩)
 rw [<-hW1];obtain⟨gb,hgb⟩:=bG (w1.heap.size);rw [hgb]at HI ⊢;clear hW1 k1 hs1 hz1 k0 hb1 xm hb0 hgb xj HN hd;go_wp2_with fail
 go_loopg [6,18] xs (fun g ov i wr=>∃k:Nat,k<=xs/\g=xs-k/\i=af k/\Hid (∃qs,SY w gb xs k ov qs wr))
 case atStart=>exact⟨0,eY _,rfl,rfl,ag ⟨_,HI⟩⟩
 case round=>
  clear HI;obtain⟨k,hk,rfl,rfl,HR⟩:=hrel;obtain⟨qs,hA⟩:=HR.out;obtain⟨oa,oc,rfl⟩:=hA.own.isSlice;clear HR;have Tz:qs=k:=by
   have h1:=congrArg List.length hA.an;rw [oX,Ca,gh]at h1;omega
  have HQL:=ag Tz;clear Tz;by_cases hlt:k<xs
  ·have tz:(k:Int)<(xs.length:Int):=ai;obtain⟨ab,aR,rfl,qy,ac⟩:=a5 ai;obtain⟨a,ha⟩:=bG (xs[k]);have hcs:∀W,aq w W->_:=fun W (hb:aq w W)=>Fl (w:=W) (b:=ab) (off:=aR) (xs:=xs) (fun i x hi j u hu=>(hb.cell (p:=⟨ab,_,none⟩) qy).trans (ac i x hi j u hu)) hlt;obtain⟨c0,c1,c2,c3,c4,c5⟩:=hcs _ hA.below;rw [ha]at c0 c1 c2 c3 c4 c5;have jA:=fun w'=>Nt (ab:=ab) (aR:=aR) (n:=xs.length) (cap:=cap) (show (k:Int)=((k:Nat):Int) by rfl) hlt w';have HA:=ag hA;have HHA:=ag ha;have tu:a.s.size<=140737488351232:=by rw [<-ha];exact HSS _ (eZ hlt)
   have HSA:=ag tu;clear hA ha ac a5 hcs tu;go_upto_region 8 with (fail);obtain⟨W1,hW1⟩:=cd (wr.alloc (.cells a.cs 46));have hb1:aq wr W1:=by rw [hW1];exact aj
   have k1:W1.heap[wr.heap.size]?=some (.cells a.cs 46):=by rw [hW1];exact au _ _ rfl
   have hz1:W1=wr.heap.size+1:=by rw [hW1];simp
   obtain⟨x0,x1,x2,x3,x4,x5⟩:(W1,wr.heap.size,0,a.k)/\W1.cell? (wr,1)=some (.string a.s)/\(W1,wr.heap.size,2,a.t)/\(W1,wr.heap.size,3,a.z)/\(W1,wr.heap.size,4,a.sz)/\(W1,wr.heap.size,5,a.v):=by simp [World.cell?,k1,Ac.cs]
   have RA:=HA.own.lt;obtain⟨b,sa,sc,g0,l0,p0,g1,l1,p1,g2,l2,p2,so,sn,sp,kp,hE⟩:=HA.eng;have aiz:=ag (VG (a:=a) (hE.below hb1 aO) (fun q hq=>by
    have h1:=HA.lt;rcases hq with hq|hq
    ·omega
    ·have:=(RA q hq).2;omega) (.inl rfl) (by have:=HL.out;omega) HSA (ry.below (aF HA.below hb1 HA.below.size)))
   have GG:=ag hb1;have Xb:=ag hz1;have HON:=ag RA;rw [<-hW1];obtain⟨qb,hqb⟩:=bG (wr.heap.size);rw [hqb]at x0 x1 x2 x3 x4 x5 ⊢;clear hE RA hW1 hb1 k1 hz1 hqb c0 c1 c2 c3 c4 c5 jA;go_wp2_with (first
    |(go_at_call 17;(with_reducible refine aiz.out.mono ?_);rintro e w2 ⟨q,rfl,hq,ht,he,hr⟩;have qC:=ag (aJ hq (aJ ht (aJ he hr)));have ami:gb+1<=w2:=(by have h1:=ht.size;have h2:=HA.lt;have h3:=Xb.out;omega);have afz:fP (gb+1) w2 (ah oa qs oc) qs:=(HA.own.block fun g hg=>(ht.block g (by have:=(HON g hg).2;have:=Xb.out;omega) (by have:=(HON g hg).1;omega)).trans (GG.block g (HON g hg).2));clear hq ht he hr)
    |(at_builtin;refine xI rfl (.tmp 22) (.tmp 26) rfl (gb+1) _ qs rfl (afz.alloc _) ⟨_,0,none⟩ q rfl (fun j u h=>Wd h) (by have:=HL.out;have:=HQL.out;omega) fk ?_;intro v4 w4 Cl hg4 hv4))
   go_roundg (xs-(k+1))
   case measure=>omega
   case rel=>exact⟨k+1,ai,rfl,by go_num,ag ⟨_,HA.step hlt HHA (by have:=HL.out;omega) GG qC.1 qC.2.1 qC.2.2.1 qC.2.2.2 (Below.alloc (aW _ _) aO _) Cl hg4 hv4⟩⟩
  ·obtain rfl:k=xs:=ai;obtain⟨b,sa,sc,g0,l0,p0,g1,l1,p1,g2,l2,p2,so,sn,sp,kp,hE⟩:=hA.eng;obtain⟨e0,e1,e2,e3,e4,e5,e6,e7,-⟩:=hE.cells;have Uj:=ag (rC (hE.base wr (Only.refl _ _)));have HA:=ag hA;have HI:=ag hE.is;clear hE hA;have k0:=HA.res;have Z0:=ag (fun W (hb:aq wr W)=>(hb.block w (by have:=HA.lo;have:=HA.lt;omega)).trans k0);go_upto_region 10 with (fail);clear k0;go_wp2_with (go_at_call 18;(with_reducible refine Uj.out.mono ?_);rintro e w5 ⟨cy,ya,yc,z0,m0,q0,z1,m1,q1,z2,m2,q2,rfl,-,-,-,-,-,-,wJ⟩;have k5:=Z0 _ cy;obtain⟨r0,r1,r2,r3,r4,r5,r6,r7,rf⟩:=cU k5;have GF:=ag (aJ cy wJ);clear cy wJ k5);obtain⟨V,hV⟩:=cd (((((((((w5.setCell (w,0) (ah ya b.names yc)).setCell (w,1) (ah z0 m0 q0)).setCell (w,2) (af b.t0.root)).setCell (w,3) (ah z1 m1 q1)).setCell (w,4) (af b.t1.root)).setCell (w,5) (ah z2 m2 q2)).setCell (w,6) (af b.t2.root)).setCell (w,7) (af b.floor)));have hbV:aq w V:=by rw [hV];exact dw (aF HA.below GF.1 HA.below.size) aO _ _ _ _ _ _ _ _
   have hKV:aQ (wr+2) w5 V:=by rw [hV];exact zE (by have:=HA.lo;have:=HA.lt;omega) _ _ _ _ _ _ _ _
   have hbk:∀g,gb<g->g<wr.heap.size->V.heap[g]?=wr.heap[g]?:=fun g h1 h2=>by
    rw [hV,dZ (by have:=HA.lo;omega)];exact GF.1.block g h2
   have kV:V.heap[w.heap.size]?=some (.cells #[ah ya b.names yc,ah z0 m0 q0,af b.t0.root,ah z1 m1 q1,af b.t1.root,ah z2 m2 q2,af b.t2.root,af b.floor] 30):=by rw [hV];exact kr (Z0 _ GF.1)
   have jQ:=ag (show NV xs w (.returned (.tuple #[ah oa qs oc, .agg (aL ya b.names yc z0 m0 q0 z1 m1 q1 z2 m2 q2 b),af 0])) V from
    ⟨hbV,oa,oc,qs,b,ya,yc,z0,m0,q0,z1,m1,q1,z2,m2,q2,rfl,by rw [HA.an,List.take_length],(HA.own.block fun g hg=>hbk g (by have:=(HA.own.lt g hg).1;omega) (HA.own.lt g hg).2).mono (by have:=HA.lo;omega),
     fun q hq=>((HA.rows q hq).1.block fun g hg=>hbk g (by have:=((HA.rows q hq).1.lt g hg).1;omega) ((HA.rows q hq).1.lt g hg).2).mono (by have:=HA.lo;omega),
     fun w'' hw=>GF.2 w'' (hKV.trans (hw.mono (by have:=HA.lo;have:=HA.lt;omega))),by have h:=HI.out;rw [List.take_length]at h;exact h,HA.ok⟩)
   obtain⟨r0',r1',r2',r3',r4',r5',r6',r7',-⟩:=cU kV;rw [<-hV];clear hV hbV hKV hbk kV r0 r1 r2 r3 r4 r5 r6 r7 rf e0 e1 e2 e3 e4 e5 e6 e7;exact bW (v:= .tuple #[ah oa qs oc, .agg (aL ya b.names yc z0 m0 q0 z1 m1 q1 z2 m2 q2 b),af 0]) (by simp [results,Tryz.results5,aL,go_sem, *]) rfl jQ
theorem QC {ao:Option Addr} {n cap:Nat} (hl:500<n) :
  Calls Tryz.prog 5 #[ah ao n cap] w fun e w'=>aq w w'/\e = .returned (.tuple #[az 0 0,ey,af 1]):=by
 have hd:decide ((500:Int)<(n:Int))=true:=by simp;omega
 obtain⟨W0,hW0⟩:=cd (w.alloc (.cells cz 30));have hb0:aq w W0:=by rw [hW0];exact aj
 have k0:W0.heap[w.heap.size]?=some (.cells cz 30):=by rw [hW0];exact au _ _ rfl
 obtain⟨r0,r1,r2,r3,r4,r5,r6,r7,rf⟩:=cU k0;have HE:=ag (dw hb0 aO (az 0 0) (az 0 0) (af 0) (az 0 0) (af 0) (az 0 0) (af 0) (af 0));go_enter Tryz.func5,Tryz.ntmps5;go_upto_region 1 with (fail);rw [<-hW0];clear hW0 k0 hb0;go_wp2_with fail;exact bW (v:= .tuple #[az 0 0,ey,af 1]) (by simp [results,Tryz.results5,go_sem, *]) rfl ⟨HE,rfl⟩
end
section
variable {m:Mo}
def Tu (a:Ac):Prop:=
 (a.k=1/\a.s∈uA/\0<=a.t/\a.t<12000/\-1000<=a.v/\a.v<1000)\/a.k=2\/a.k=3\/(a.k=4/\(a.t=0\/a.t=3600\/a.t=7200))\/a.k=5\/a.k=6
structure rI (m:Mo):Prop where
 nm:∀s∈m.ns,s∈uA
 nd:m.ns.Nodup
 f0:0<=m.fl
 f1:m.fl<=7200
 early:∀e∈m.L,e.key%1048576<14400
theorem rI.zero:rI Mo.zero:=⟨fun _ h=>(by cases h),List.Pairwise.nil,bY,bY,fun _ h=>(by cases h)⟩
theorem rI.few (h:rI m):m.ns.length<=4:=by
 exact km (m:=uA) h.nd h.nm
theorem UX {L:List aH} {x e:aH} (h:e∈ins L x):e.key=x.key\/∃y∈L,e.key=y.key:=by
 induction L with
 |nil=>simp [ins]at h;exact .inl (by rw [h])
 |cons y l ih=>
  unfold ins at h
  split at h
  ·rcases fy.1 h with rfl|h
   ·exact .inr ⟨_,bh,rfl⟩
   ·rcases ih h with h|⟨z,hz,h⟩
    ·exact .inl h
    ·exact .inr ⟨z,by simp [hz],h⟩
  ·split at h
   ·rcases fy.1 h with rfl|h
    ·exact .inl rfl
    ·exact .inr ⟨e,by simp [h],rfl⟩
   ·rcases fy.1 h with rfl|h
    ·exact .inl rfl
    ·exact .inr ⟨e,h,rfl⟩
theorem rI.add {s:ByteArray} {t v:Int} (h:rI m) (hs:s∈uA) (h0:0<=t) (h1:t<14400):rI (m.add s t v):=by
 refine⟨fun x hx=>?_,ui h.nd,h.f0,h.f1,fun e he=>?_⟩
 ·rcases pA.1 hx with hx|rfl
  ·exact h.nm x hx
  ·exact hs
 ·rcases UX he with he|⟨y,hy,he⟩
  ·rw [he];simp only;omega
  ·rw [he];exact h.early y hy
theorem rI.exp {t:Int} (h:rI m) (h0:t=0\/t=3600\/t=7200):rI (m.exp t):=
 ⟨h.nm,h.nd,by show 0<=t;omega,by show t<=7200;omega,fun e he=>h.early e (nt.1 he).1⟩
theorem rI.act {x:St} {a:Ac} (h:rI x.m/\rI x.s) (ha:Tu a):rI (dP x a).m/\rI (dP x a).s:=by
 unfold dP
 split
 ·rename_i hk
  split
  ·rcases ha with ⟨-,h1,h2,h3,-⟩|h1|h1|⟨h1,-⟩|h1|h1
   ·exact⟨h.1.add h1 h2 ai,h.2⟩
   all_goals omega
  ·exact h
 ·split
  ·rename_i hk
   split
   ·rcases ha with ⟨h1,-⟩|h1|h1|⟨-,h1⟩|h1|h1
    ·omega
    ·omega
    ·omega
    ·exact⟨h.1.exp h1,h.2⟩
    all_goals omega
   ·exact h
  ·split
   ·exact⟨h.1,h.1⟩
   ·split
    ·exact⟨h.2,h.2⟩
    ·exact h
theorem rI.run {l:List Ac}:∀{x:St},rI x.m/\rI x.s->(∀a∈l,Tu a)->rI (oh x l).m/\rI (oh x l).s:=by
 induction l with
 |nil=>intro x h _;exact h
 |cons a l ih=>intro x h ha;exact ih (rI.act h (ha a bh)) fun b hb=>ha b (by simp [hb])
end
end Go.Proofs.YtmljjfhgciaceaaGreatDoor
