/- Texts of mine that come as one: MoP EngA EngQ DecI RowsE Clones. -/
import Derived.Test.YtnjfkcimboidnaaDoorMD
import Derived.Test.YtnjfkcimboidnaaDoorKC
import Derived.Test.YtnjfkcimboidnaaDoorEX
import Derived.Test.YtnjfkcimboidnaaDoorKE
import Derived.Test.YtnjfkcimboidnaaDoorKD
import Derived.Test.YtnjfkcimboidnaaDoorTG
import Derived.Test.YtnjfkcimboidnaaDoorBG
import Derived.Test.YtnjfkcimboidnaaDoorPS
import Derived.Test.YtnjfkcimboidnaaDoorKG
import Derived.Test.YtnjfkcimboidnaaDoorDK
import Derived.Maps.AppendAt
import Derived.Test.YtnjfkcimboidnaaDoorBK
/- The engine as a plain machine: names, a floor, what is known of points; what is saved; each act's answer. Plain. -/
namespace Go.Proofs.YtnjfkcimboidnaaDoor
structure Mo where
 ns:List ByteArray
 fl:Int
 L:List Ent
def Mo.zero:Mo:=⟨[],0,[]⟩
structure Ac where
 k:Int
 s:ByteArray
 t:Int
 z:Int
 sz:Int
 v:Int
structure An where
 code:Int
 is:Roll
 rows:List Ent
noncomputable def Mo.addE (m:Mo) (s:ByteArray) (t v:Int):Int:=
 if nameMay s=false then 4 else if (rollOf t v).2≠0 then(rollOf t v).2 else if t<m.fl then 8 else if placeI m.ns s<0∧16≤m.ns.length then 1 else 0
def Mo.add (m:Mo) (s:ByteArray) (t v:Int):Mo:=⟨withName m.ns s,m.fl,ins m.L ⟨placeI (withName m.ns s) s*1048576+t,⟨1,v,v,v,t,v⟩⟩⟩
def Mo.serE (m:Mo) (s:ByteArray):Int:=if placeI m.ns s<0 then 6 else 0
def Mo.rowsE (m:Mo) (s:ByteArray) (n a z:Int):Int:=if m.serE s≠0 then m.serE s else if n≠1∧n≠60∧n≠3600 then 3 else if ¬rowsOk a z then 2 else 0
def Mo.rows (m:Mo) (s:ByteArray) (n a z:Int):List Ent:=if m.rowsE s n a z=0 then rowsK m.L n (placeI m.ns s) a z else []
def Mo.totE (m:Mo) (s:ByteArray) (a z:Int):Int:=if m.serE s≠0 then m.serE s else if ¬rowsOk a z then 2 else 0
def Mo.tot (m:Mo) (s:ByteArray) (a z:Int):Roll:=if m.totE s a z=0 then ptsT m.L (placeI m.ns s) a (z+1)else Roll.zero
def Mo.bytes (m:Mo):List Int:=bytesM m.ns m.fl m.L++sealL (bytesM m.ns m.fl m.L)
structure Mo.Ok (m:Mo) (N:Nat):Prop where
 fit:Fit m.ns m.fl m.L
 allC:allC m.L≤N
structure Is (b:Ba) (m:Mo) (N:Nat):Prop where
 st:Bst b m.L N
 ns:b.names=m.ns
 fl:b.floor=m.fl
theorem Mo.Ok.mono {m:Mo} {N M:Nat} (h:m.Ok N) (hN:N≤M):m.Ok M:=⟨h.fit,by have:=h.allC;omega⟩
theorem Mo.Ok.len {m:Mo} {N:Nat} (h:m.Ok N):m.L.length≤N:=by
 have h1:=len_allC h.fit.good.1.goods
 have h2:=h.allC
 omega
theorem Is.mono {b:Ba} {m:Mo} {N M:Nat} (h:Is b m N) (hN:N≤M):Is b m M:=
 ⟨⟨h.st.may,h.st.book,fun k hk=>by have:=h.st.wt k hk;omega,by have:=h.st.allC;omega⟩,h.ns,h.fl⟩
theorem Is.kn {b:Ba} {m:Mo} {N:Nat} (h:Is b m N):Kn b m.L N:=h.st.kn
theorem Is.ok {b:Ba} {m:Mo} {N:Nat} (h:Is b m N) (hN:N≤2900):m.Ok N:=by
 have hb:=baseMay_ok h.st.may
 have hg:=h.st.goods
 have hl:=h.kn.len
 have hbk:=(bookR_some h.st.book).2
 have hc:=h.st.allC
 refine⟨⟨by rw [←h.ns];exact hb.n16,fun s hs=>?_,?_,by rw [←h.fl];exact⟨hb.fl0,hb.fl1⟩,by rw [←h.fl];exact hb.fl2,hg.1,hg.2,by omega,by omega,fun e he=>?_⟩,hc⟩
 ·rw [←h.ns]at hs
  obtain⟨i,hi,rfl⟩:=List.getElem_of_mem hs
  exact(hb.names i hi).1
 ·rw [←h.ns]
  exact List.pairwise_iff_getElem.2 fun i j hi hj hij=>(hb.names j hj).2 i hij
 ·have:=List.all_eq_true.1 hbk e he
  simp [bookOk]at this
  rw [h.ns,h.fl]at this
  exact⟨this.1.1,this.1.2,this.2⟩
theorem Is.ser {b:Ba} {m:Mo} {N:Nat} (h:Is b m N) (s:ByteArray):seriesE b s=m.serE s:=by
 unfold seriesE Mo.serE
 rw [if_pos h.st.may,h.ns]
theorem Is.totIs {b:Ba} {m:Mo} {N:Nat} (h:Is b m N) (hN:N≤1000000) (s:ByteArray) (a z:Int):totalE b s a z=m.totE s a z∧totalR b s a z=m.tot s a z:=by
 by_cases h1:m.serE s≠0
 ·have he:=total_series (b:=b) (s:=s) (a:=a) (z:=z) (by rw [h.ser];exact h1)
  rw [h.ser]at he
  have e1:m.totE s a z=m.serE s:=if_pos h1
  exact⟨he.1.trans e1.symm,by unfold Mo.tot;rw [e1,if_neg h1];exact he.2⟩
 ·have hs:seriesE b s=0:=(h.ser s).trans (Decidable.not_not.1 h1)
  by_cases h3:rowsOk a z
  ·have hp:0≤placeI b.names s:=by
    rcases h.kn.series s with ⟨-,g⟩|⟨g,-⟩
    ·omega
    ·exact g
   obtain⟨g1,g2⟩:=h.kn.total hN hp h3
   have e1:m.totE s a z=0:=by unfold Mo.totE;rw [if_neg h1,if_neg (not_not_intro h3)]
   exact⟨g1.trans e1.symm,by unfold Mo.tot;rw [if_pos e1,g2,h.ns]⟩
  ·have he:=total_range hs h3
   have e1:m.totE s a z=2:=by unfold Mo.totE;rw [if_neg h1,if_pos h3]
   exact⟨he.1.trans e1.symm,by unfold Mo.tot;rw [e1];exact he.2⟩
theorem Is.enc {b:Ba} {m:Mo} {N:Nat} (h:Is b m N) (hN:N≤500):encE b=0∧encL b=m.bytes:=by
 have hl:=h.kn.len
 have hg:=h.st.goods
 have ho:=h.ok (by omega)
 have e:bytesL b m.L=bytesM m.ns m.fl m.L:=by rw [bytesL_eq,h.ns,h.fl]
 have hsm:(bytesL b m.L).length≤30000:=by
  have h1:=ents_len (last:=0) hg.2 (Int.le_refl 0)
  have h2:=names_len (ns:=b.names) (names_small h.st.may)
  have h3:=(baseMay_ok h.st.may).n16
  have h4:=sevens_nine (n:=b.names.length) (by omega)
  have h5:=sevens_nine (n:=b.floor.toNat) (by have:=(baseMay_ok h.st.may).fl1;omega)
  have h6:=sevens_nine (n:=m.L.length) (by omega)
  unfold bytesL
  simp only [List.length_append,List.length_cons,List.length_nil]
  omega
 obtain⟨g1,g2⟩:=encE_ok h.st.may h.st.book (by omega) (by omega)
 exact⟨g1,by rw [g2,e];rfl⟩
structure St where
 m:Mo
 s:Mo
def St.zero:St:=⟨Mo.zero,Mo.zero⟩
end Go.Proofs.YtnjfkcimboidnaaDoor

/- The engine in memory: acts, answers, the engine's block. -/
namespace Go.Proofs.YtnjfkcimboidnaaDoor
open Go.RowKit
abbrev Ac.cs (a:Ac):Array Value:=#[.int .i64 a.k, .string a.s, .int .i64 a.t, .int .i64 a.z, .int .i64 a.sz, .int .i64 a.v]
def enAc (a:Ac):List Value:=[.int .i64 a.k, .string a.s, .int .i64 a.t, .int .i64 a.z, .int .i64 a.sz, .int .i64 a.v]
theorem enAc_length (a:Ac):(enAc a).length=6:=rfl
abbrev AcsAt (w:World) (v:Value) (xs:List Ac):Prop:=SlAt 6 56 enAc w v xs
structure AnV where
 an:An
 so:Option Addr
 n:Nat
 c:Nat
abbrev AnV.v (q:AnV):Value:= .slice q.so q.n q.c
abbrev AnV.cs (q:AnV):Array Value:=#[.int .i64 q.an.code, .int .i64 q.an.is.c, .int .i64 q.an.is.s, .int .i64 q.an.is.mi, .int .i64 q.an.is.ma, .int .i64 q.an.is.t, .int .i64 q.an.is.l, .slice q.so q.n q.c]
def enAn (q:AnV):List Value:=[.int .i64 q.an.code, .int .i64 q.an.is.c, .int .i64 q.an.is.s, .int .i64 q.an.is.mi, .int .i64 q.an.is.ma, .int .i64 q.an.is.t, .int .i64 q.an.is.l, .slice q.so q.n q.c]
theorem enAn_length (q:AnV):(enAn q).length=8:=rfl
abbrev AnsAt (w:World) (v:Value) (xs:List AnV):Prop:=SlAt 8 80 enAn w v xs
structure Only (D:Nat→Prop) (w w':World):Prop where
 size:w.heap.size≤w'.heap.size
 block:∀q,q<w.heap.size→¬D q→w'.heap[q]?=w.heap[q]?
theorem Only.refl (D:Nat→Prop) (w:World):Only D w w:=⟨Nat.le_refl _,fun _ _ _=>rfl⟩
theorem Only.trans {D:Nat→Prop} {a b c:World} (h:Only D a b) (k:Only D b c):Only D a c:=
 ⟨Nat.le_trans h.size k.size,fun i hi hx=>(k.block i (Nat.lt_of_lt_of_le hi h.size) hx).trans (h.block i hi hx)⟩
theorem Only.of {D:Nat→Prop} {B:Nat} {w w':World} (h:Below B w w') (hB:w.heap.size≤B):Only D w w':=⟨h.size,fun q hq _=>h.block q (by omega)⟩
theorem Only.turn {D X:Nat→Prop} {w w':World} (h:Turn X w w') (hX:∀q,X q→D q):Only D w w':=⟨h.size,fun q hq hd=>h.block q hq fun hx=>hd (hX q hx)⟩
theorem Only.mono {D E:Nat→Prop} {w w':World} (h:Only D w w') (hX:∀q,q<w.heap.size→D q→E q):Only E w w':=⟨h.size,fun q hq hd=>h.block q hq fun hx=>hd (hX q hq hx)⟩
theorem Only.keep {D:Nat→Prop} {B:Nat} {w w':World} (h:Only D w w') (hD:∀q,D q→q<B):Keep B w w':=⟨h.size,fun q hq hs=>h.block q hs fun hd=>by have:=hD q hd;omega⟩
structure EngC (gb:Nat) (D:Nat→Prop) (w:World) (x:St) (N:Nat) (b:Ba) (sa:Option Addr) (sc:Nat) (g0:Option Addr) (l0 p0:Nat) (g1:Option Addr) (l1 p1:Nat) (g2:Option Addr) (l2 p2:Nat) (so:Option Addr) (sn sp:Nat) (kp:Bool):Prop where
 box:w.heap[gb]?=some (.cells #[.slice sa b.names.length sc, .slice g0 l0 p0, .int .i64 b.t0.root, .slice g1 l1 p1, .int .i64 b.t1.root, .slice g2 l2 p2, .int .i64 b.t2.root, .int .i64 b.floor, .slice so sn sp, .bool kp] 120)
 is:Is b x.m N
 ok:x.s.Ok N
 base:∀w'',Only D w w''→BaseAt w'' (.agg (baCells sa b.names.length sc g0 l0 p0 g1 l1 p1 g2 l2 p2 b)) b
 saved:kp=true→∀w'',Only D w w''→ByteSl w'' (.slice so sn sp) x.s.bytes
 noS:kp=false→x.s=Mo.zero
section
variable {gb:Nat} {D:Nat→Prop} {w w':World} {x:St} {N:Nat} {b:Ba} {sa:Option Addr} {sc:Nat} {g0:Option Addr} {l0 p0:Nat} {g1:Option Addr} {l1 p1:Nat} {g2:Option Addr} {l2 p2:Nat} {so:Option Addr} {sn sp:Nat} {kp:Bool}
theorem EngC.later (h:EngC gb D w x N b sa sc g0 l0 p0 g1 l1 p1 g2 l2 p2 so sn sp kp) (hO:Only D w w') (hg:w'.heap[gb]?=w.heap[gb]?):EngC gb D w' x N b sa sc g0 l0 p0 g1 l1 p1 g2 l2 p2 so sn sp kp:=
 ⟨hg.trans h.box,h.is,h.ok,fun w'' hw=>h.base w'' (hO.trans hw),fun hk w'' hw=>h.saved hk w'' (hO.trans hw),h.noS⟩
theorem EngC.lt (h:EngC gb D w x N b sa sc g0 l0 p0 g1 l1 p1 g2 l2 p2 so sn sp kp):gb<w.heap.size:=(Array.getElem?_eq_some_iff.1 h.box).1
theorem EngC.below (h:EngC gb D w x N b sa sc g0 l0 p0 g1 l1 p1 g2 l2 p2 so sn sp kp) {B:Nat} (hb:Below B w w') (hB:w.heap.size≤B):EngC gb D w' x N b sa sc g0 l0 p0 g1 l1 p1 g2 l2 p2 so sn sp kp:=
 h.later (Only.of hb hB) (hb.block _ (by have:=h.lt;omega))
theorem EngC.mono (h:EngC gb D w x N b sa sc g0 l0 p0 g1 l1 p1 g2 l2 p2 so sn sp kp) {M:Nat} (hN:N≤M):EngC gb D w x M b sa sc g0 l0 p0 g1 l1 p1 g2 l2 p2 so sn sp kp:=
 ⟨h.box,h.is.mono hN,h.ok.mono hN,h.base,h.saved,h.noS⟩
theorem EngC.cells (h:EngC gb D w x N b sa sc g0 l0 p0 g1 l1 p1 g2 l2 p2 so sn sp kp) :
  w.cell? ⟨gb,0,none⟩=some (.slice sa b.names.length sc)∧w.cell? ⟨gb,1,none⟩=some (.slice g0 l0 p0)∧w.cell? ⟨gb,2,none⟩=some (.int .i64 b.t0.root)∧w.cell? ⟨gb,3,none⟩=some (.slice g1 l1 p1)∧w.cell? ⟨gb,4,none⟩=some (.int .i64 b.t1.root)∧w.cell? ⟨gb,5,none⟩=some (.slice g2 l2 p2)∧w.cell? ⟨gb,6,none⟩=some (.int .i64 b.t2.root)∧w.cell? ⟨gb,7,none⟩=some (.int .i64 b.floor)∧w.cell? ⟨gb,8,none⟩=some (.slice so sn sp)∧w.cell? ⟨gb,9,none⟩=some (.bool kp)∧∀o,w.frozen? ⟨gb,o,none⟩=false:=by
 have h1:=h.box
 simp [World.cell?,World.frozen?,h1]
theorem EngC.names (h:EngC gb D w x N b sa sc g0 l0 p0 g1 l1 p1 g2 l2 p2 so sn sp kp):∀s∈b.names,s.size≤140737488351232:=fun s hs=>by
 have:=names_small h.is.st.may s hs
 omega
def Loc (gb B M:Nat):Nat→Prop:=fun q=>q=gb∨(B≤q∧q<M)
theorem EngC.set {W1 W2:World} {y:Mo} {M K:Nat} {c:Ba} {ya:Option Addr} {yc:Nat} {z0:Option Addr} {m0 q0:Nat} {z1:Option Addr} {m1 q1:Nat} {z2:Option Addr} {m2 q2:Nat}
  (h:EngC gb D w x N b sa sc g0 l0 p0 g1 l1 p1 g2 l2 p2 so sn sp kp) (hD:∀q,D q→q<w.heap.size) (hg:D gb) (hN:N≤M) (h1:Below w.heap.size w W1) (hK:w.heap.size≤K)
  (hc:∀w'',Keep K W1 w''→BaseAt w'' (.agg (baCells ya c.names.length yc z0 m0 q0 z1 m1 q1 z2 m2 q2 c)) c) (hi:Is c y M) (ht:Turn (Loc gb w.heap.size K) W1 W2)
  (hb:W2.heap[gb]?=some (.cells #[.slice ya c.names.length yc, .slice z0 m0 q0, .int .i64 c.t0.root, .slice z1 m1 q1, .int .i64 c.t1.root, .slice z2 m2 q2, .int .i64 c.t2.root, .int .i64 c.floor, .slice so sn sp, .bool kp] 120)) :
  EngC gb D W2 ⟨y,x.s⟩ M c ya yc z0 m0 q0 z1 m1 q1 z2 m2 q2 so sn sp kp:=by
 have hgl:=hD gb hg
 have hs1:=h1.size
 have hO2:Only D w W2:=⟨Nat.le_trans h1.size ht.size,fun q hq hd=>(ht.block q (by omega) (fun hx=>by
  rcases hx with rfl|hx
  ·exact hd hg
  ·omega)).trans (h1.block q hq)⟩
 refine⟨hb,hi,h.ok.mono hN,fun w'' hw=>hc w'' ⟨Nat.le_trans ht.size hw.size,fun q hq hql=>?_⟩,fun hk w'' hw=>h.saved hk w'' (hO2.trans hw),h.noS⟩
 rw [hw.block q (Nat.lt_of_lt_of_le hql ht.size) fun hd=>by have:=hD q hd;omega]
 exact ht.block q hql fun hx=>by rcases hx with rfl|hx <;> omega
end
def EngK (gb:Nat) (D:Nat→Prop) (w:World) (x:St) (N:Nat):Prop:=
 ∃b sa sc g0 l0 p0 g1 l1 p1 g2 l2 p2 so sn sp kp,EngC gb D w x N b sa sc g0 l0 p0 g1 l1 p1 g2 l2 p2 so sn sp kp
theorem EngK.later {gb:Nat} {D:Nat→Prop} {w w':World} {x:St} {N:Nat} (h:EngK gb D w x N) (hO:Only D w w') (hg:w'.heap[gb]?=w.heap[gb]?):EngK gb D w' x N:=by
 obtain⟨b,sa,sc,g0,l0,p0,g1,l1,p1,g2,l2,p2,so,sn,sp,kp,h⟩:=h
 exact⟨b,sa,sc,g0,l0,p0,g1,l1,p1,g2,l2,p2,so,sn,sp,kp,h.later hO hg⟩
theorem EngK.mono {gb:Nat} {D:Nat→Prop} {w:World} {x:St} {N M:Nat} (h:EngK gb D w x N) (hN:N≤M):EngK gb D w x M:=by
 obtain⟨b,sa,sc,g0,l0,p0,g1,l1,p1,g2,l2,p2,so,sn,sp,kp,h⟩:=h
 exact⟨b,sa,sc,g0,l0,p0,g1,l1,p1,g2,l2,p2,so,sn,sp,kp,h.mono hN⟩
theorem EngK.swap {gb:Nat} {D E:Nat→Prop} {w:World} {x:St} {N:Nat} (h:EngK gb D w x N) (hD:∀q,q<w.heap.size→E q→D q):EngK gb E w x N:=by
 obtain⟨b,sa,sc,g0,l0,p0,g1,l1,p1,g2,l2,p2,so,sn,sp,kp,h⟩:=h
 exact⟨b,sa,sc,g0,l0,p0,g1,l1,p1,g2,l2,p2,so,sn,sp,kp,h.box,h.is,h.ok,fun w'' hw=>h.base w'' (hw.mono hD),fun hk w'' hw=>h.saved hk w'' (hw.mono hD),h.noS⟩
end Go.Proofs.YtnjfkcimboidnaaDoor

/- What the engine calls, of a base of which is known what it tells. -/
namespace Go.Proofs.YtnjfkcimboidnaaDoor
open Go.RowKit
section
variable {v:Value} {b:Ba} {m:Mo} {N:Nat} {w:World}
def CamE (w:World) (m:Mo) (N:Nat) (x:Ending) (w':World):Prop:=Below w.heap.size w w' ∧
 ∃b' sa sc g0 l0 p0 g1 l1 p1 g2 l2 p2,x = .returned (.tuple #[.agg (baCells sa b'.names.length sc g0 l0 p0 g1 l1 p1 g2 l2 p2 b'), .int .i64 0])∧(∀w'',Keep w.heap.size w' w''→BaseAt w'' (.agg (baCells sa b'.names.length sc g0 l0 p0 g1 l1 p1 g2 l2 p2 b')) b')∧Is b' m N
theorem Is.small (h:Is b m N):∀s∈b.names,s.size≤140737488351232:=fun s hs=>by
 have:=names_small h.st.may s hs
 omega
theorem tot_is {s:ByteArray} {a z:Int} (hi:Is b m N) (hN:N≤1000000) (h:BaseAt w v b) (hsz:SizesAt w) :
  Calls Tryd.prog 28 #[v, .string s, .int .i64 a, .int .i64 z] w fun x w'=>Below w.heap.size w w'∧x = .returned (.tuple #[(m.tot s a z).v, .int .i64 (m.totE s a z)]):=by
 obtain⟨e1,e2⟩:=hi.totIs hN s a z
 refine(total_any h hi.small hsz).mono ?_
 rintro x w' ⟨hb,rfl⟩
 exact⟨hb,by rw [e1,e2]⟩
theorem enc_is (hi:Is b m N) (hN:N≤500) (h:BaseAt w v b) (hsz:SizesAt w) :
  Calls Tryd.prog 23 #[v] w fun x w'=>Below w.heap.size w w'∧∃ao c,x = .returned (.tuple #[.slice ao m.bytes.length c, .int .i64 0])∧OwnBytes w.heap.size w' (.slice ao m.bytes.length c) m.bytes:=by
 obtain⟨e1,e2⟩:=hi.enc hN
 refine(encode_any h hi.small hsz).mono ?_
 rintro x w' ⟨hb,v',rfl,ho⟩
 rw [e2]at ho
 obtain⟨ao,c,rfl⟩:=ho.isSlice
 exact⟨hb,ao,c,by rw [e1],ho⟩
end
end Go.Proofs.YtnjfkcimboidnaaDoor

/- file.Decode of bytes that a model's base was saved as. -/
namespace Go.Proofs.YtnjfkcimboidnaaDoor
open Go.RowKit
theorem dec_is {v:Value} {m:Mo} {N:Nat} {w:World} (ho:m.Ok N) (hN:N≤500) (h:ByteSl w v m.bytes) (hsz:SizesAt w):Calls Tryd.prog 22 #[v] w (CamE w m N):=by
 obtain⟨d0,d1,d2,d3⟩:=ho.fit.dec (by have:=ho.len;omega) (rfl:m.bytes=_)
 refine(decode_any h (fileL_bytes _ _ _) hsz).mono ?_
 rintro x w' ⟨hb,⟨E,hE,-,h1|⟨-,h1⟩⟩|⟨-,sn,sc,g0,l0,p0,g1,l1,p1,g2,l2,p2,T,hx,hok,hk⟩⟩
 ·exact absurd (h1.symm.trans d0) hE
 ·rw [d1,d2,d3]at h1;exact absurd h1 ho.fit.not_bad
 ·rw [d1,d2]at hx hk
  rw [d1,d2,d3]at hok
  exact⟨hb,⟨m.ns,T 0,T 1,T 2,m.fl⟩,sn,sc,g0,l0,p0,g1,l1,p1,g2,l2,p2,hx,hk,ho.fit.bst hok ho.len ho.allC,rfl,rfl⟩
end Go.Proofs.YtnjfkcimboidnaaDoor

/- Rows of acts, and of answers, of the call's own. -/
namespace Go.Proofs.YtnjfkcimboidnaaDoor
open Go.RowKit
structure OwnAcs (B:Nat) (w:World) (v:Value) (ps:List Ac):Prop where
 row:w.ownsRow B 26 6 v ps.length (ps.flatMap enAc)
theorem OwnAcs.nil (B:Nat) (w:World):OwnAcs B w (.slice none 0 0) []:=⟨World.ownsRow_nil _ _ _ _⟩
theorem OwnAcs.block {B:Nat} {w w':World} {v:Value} {es:List Ac} (h:OwnAcs B w v es) (hb:∀g,v.ownBlock=some g→w'.heap[g]?=w.heap[g]?):OwnAcs B w' v es:=by
 obtain⟨hl,⟨rfl,h0⟩|⟨g,cap,cur,rfl,hB,hg,h1,h2,h3,h4⟩⟩:=h.row
 ·exact⟨⟨hl, .inl ⟨rfl,h0⟩⟩⟩
 ·exact⟨⟨hl, .inr ⟨g,cap,cur,rfl,hB,(hb g rfl).trans hg,h1,h2,h3,h4⟩⟩⟩
theorem OwnAcs.alloc {B:Nat} {w:World} {v:Value} {es:List Ac} (h:OwnAcs B w v es) (o:Obj):OwnAcs B (w.alloc o) v es:=⟨World.ownsRow.alloc h.row o⟩
theorem OwnAcs.lt {B:Nat} {w:World} {v:Value} {es:List Ac} (h:OwnAcs B w v es):∀g,v.ownBlock=some g→B≤g∧g<w.heap.size:=World.ownsRow.lt h.row
theorem OwnAcs.below {B C:Nat} {w w':World} {v:Value} {es:List Ac} (h:OwnAcs B w v es) (hb:Below C w w') (hC:w.heap.size≤C):OwnAcs B w' v es:=h.block fun g hg=>hb.block g (by have:=(h.lt g hg).2;omega)
theorem OwnAcs.at {B:Nat} {w:World} {v:Value} {es:List Ac} (h:OwnAcs B w v es) (hs:es.length≤1000000):AcsAt w v es:=SlAt.owned enAc_length h.row rfl (by omega)
theorem OwnAcs.isSlice {B:Nat} {w:World} {v:Value} {es:List Ac} (h:OwnAcs B w v es):∃ao cap,v = .slice ao es.length cap:=by
 obtain⟨hl,⟨rfl,h0⟩|⟨g,cap,cur,rfl,_⟩⟩:=h.row
 ·exact⟨none,0,by rw [h0]⟩
 ·exact⟨_,_,rfl⟩
theorem OwnAcs.mono {B C:Nat} {w:World} {v:Value} {es:List Ac} (h:OwnAcs B w v es) (hC:C≤B):OwnAcs C w v es:=by
 obtain⟨hl,⟨rfl,h0⟩|⟨g,cap,cur,rfl,hB,hg,h1,h2,h3,h4⟩⟩:=h.row
 ·exact⟨⟨hl, .inl ⟨rfl,h0⟩⟩⟩
 ·exact⟨⟨hl, .inr ⟨g,cap,cur,rfl,by omega,hg,h1,h2,h3,h4⟩⟩⟩
structure OwnAns (B:Nat) (w:World) (v:Value) (ps:List AnV):Prop where
 row:w.ownsRow B 45 8 v ps.length (ps.flatMap enAn)
theorem OwnAns.nil (B:Nat) (w:World):OwnAns B w (.slice none 0 0) []:=⟨World.ownsRow_nil _ _ _ _⟩
theorem OwnAns.block {B:Nat} {w w':World} {v:Value} {es:List AnV} (h:OwnAns B w v es) (hb:∀g,v.ownBlock=some g→w'.heap[g]?=w.heap[g]?):OwnAns B w' v es:=by
 obtain⟨hl,⟨rfl,h0⟩|⟨g,cap,cur,rfl,hB,hg,h1,h2,h3,h4⟩⟩:=h.row
 ·exact⟨⟨hl, .inl ⟨rfl,h0⟩⟩⟩
 ·exact⟨⟨hl, .inr ⟨g,cap,cur,rfl,hB,(hb g rfl).trans hg,h1,h2,h3,h4⟩⟩⟩
theorem OwnAns.alloc {B:Nat} {w:World} {v:Value} {es:List AnV} (h:OwnAns B w v es) (o:Obj):OwnAns B (w.alloc o) v es:=⟨World.ownsRow.alloc h.row o⟩
theorem OwnAns.lt {B:Nat} {w:World} {v:Value} {es:List AnV} (h:OwnAns B w v es):∀g,v.ownBlock=some g→B≤g∧g<w.heap.size:=World.ownsRow.lt h.row
theorem OwnAns.below {B C:Nat} {w w':World} {v:Value} {es:List AnV} (h:OwnAns B w v es) (hb:Below C w w') (hC:w.heap.size≤C):OwnAns B w' v es:=h.block fun g hg=>hb.block g (by have:=(h.lt g hg).2;omega)
theorem OwnAns.at {B:Nat} {w:World} {v:Value} {es:List AnV} (h:OwnAns B w v es) (hs:es.length≤1000000):AnsAt w v es:=SlAt.owned enAn_length h.row rfl (by omega)
theorem OwnAns.isSlice {B:Nat} {w:World} {v:Value} {es:List AnV} (h:OwnAns B w v es):∃ao cap,v = .slice ao es.length cap:=by
 obtain⟨hl,⟨rfl,h0⟩|⟨g,cap,cur,rfl,_⟩⟩:=h.row
 ·exact⟨none,0,by rw [h0]⟩
 ·exact⟨_,_,rfl⟩
theorem OwnAns.mono {B C:Nat} {w:World} {v:Value} {es:List AnV} (h:OwnAns B w v es) (hC:C≤B):OwnAns C w v es:=by
 obtain⟨hl,⟨rfl,h0⟩|⟨g,cap,cur,rfl,hB,hg,h1,h2,h3,h4⟩⟩:=h.row
 ·exact⟨⟨hl, .inl ⟨rfl,h0⟩⟩⟩
 ·exact⟨⟨hl, .inr ⟨g,cap,cur,rfl,by omega,hg,h1,h2,h3,h4⟩⟩⟩
end Go.Proofs.YtnjfkcimboidnaaDoor

/- slices.Clone of bytes and acts, slices.Equal of strings. -/
namespace Go.Proofs.YtnjfkcimboidnaaDoor
open Go.RowKit
set_option maxRecDepth 100000 in
set_option maxHeartbeats 1000000 in
theorem cloneBy_any {v:Value} {xs:List Int} {w:World} (h:SlAt 1 1 enB w v xs) :
  Calls Tryd.prog 30 #[v] w fun e w'=>∃v',e = .returned v'∧OwnBytes w.heap.size w' v' xs∧Below w.heap.size w w':=by
 obtain⟨ao,cap,rfl,h1,h2,h3,h4,h5⟩:=id h
 have hnil:∀w,(binOp .eql 54 (.slice ao xs.length cap) (.slice none 0 0)).run Tryd.prog w = .ok (.bool ao.isNone) w:=fun w=>Lib.run_eql_slice_nil w _ _ _ _ _ _ _ Tryd.underlying54
 cases ao with
 |none=>
  have h0:xs.length=0:=by have:=h4 rfl;omega
  obtain rfl:=List.eq_nil_of_length_eq_zero h0
  obtain rfl:cap=0:=h4 rfl
  clear h4 h5
  simp only [Option.isNone_none,List.length_nil]at hnil
  go_enter Tryd.func30,Tryd.ntmps30
  go_wp2_with fail
  go_ret
  exact⟨_,rfl,OwnBytes.nil _ _,Below.refl _ _⟩
 |some ad=>
  obtain⟨_,g1,g2⟩:=h.news enB_length
  obtain⟨i0,z,hi,hz,hz1,hz2,hz3⟩:=info_some Tryd.iByte
  simp only [Option.isNone_some]at hnil
  have hown0:(w.alloc (.cells #[] 5)).ownsRow w.heap.size 5 1 (.slice (some ⟨w.heap.size,0,none⟩) 0 0) 0 []:=World.ownsRow_made w #[] 0 (Nat.le_refl _) (by simp [maxLen]) (by simp)
  clear h4 h5
  go_enter Tryd.func30,Tryd.ntmps30
  go_wp2_with (at_builtin;refine wpList_append_own _ rfl _ _ 54 rfl w.heap.size 5 i0 z 1 1 Tryd.underlying54 hi hz hz1 hz2 hz3 (by decide) _ _ _ rfl hown0 ad xs.length cap (xs.flatMap enB) rfl g1 (fun j u hj=>cell_alloc (g2 j u hj)) (enB_one xs) (by unfold maxLen;omega) (by omega) (by simp) ?_;intro v' w3 hown' hgrow hv)
  go_ret
  exact⟨v',rfl,⟨by simpa using hown'⟩,Below.grown ((Below.refl _ _).alloc (Nat.le_refl _) _) hgrow (by simp) (fun j hj=>(hown0.lt j hj).1)⟩
set_option maxRecDepth 100000 in
set_option maxHeartbeats 1000000 in
theorem equalStr_same {va vb:Value} {xs:List ByteArray} {w:World} (ha:StrsAt w va xs) (hb:StrsAt w vb xs) :
  Calls Tryd.prog 27 #[va,vb] w fun e w'=>e = .returned (.bool true)∧Below w.heap.size w w':=by
 obtain⟨ao,ca,rfl,a1,a2,a3,a4,a5⟩:=ha
 obtain⟨bo,cb,rfl,b1,b2,b3,b4,b5⟩:=hb
 go_enter Tryd.func27,Tryd.ntmps27
 go_wp2_with fail
 go_loopg [13] xs.length (fun g i wr=>∃k:Nat,k≤xs.length∧g=xs.length-k∧i = .int .i64 k∧Below w.heap.size w wr)
 case atStart=>exact⟨0,Nat.zero_le _,rfl,rfl,Below.refl _ _⟩
 case round=>
  obtain⟨k,hk,rfl,rfl,hbw⟩:=hrel
  by_cases hlt:k<xs.length
  ·obtain⟨ab,aoff,rfl,abb,ac⟩:=a5 (by omega)
   obtain⟨bb,boff,rfl,bbb,bc⟩:=b5 (by omega)
   have e0:=strs_cell hbw abb ac hlt
   have e1:=strs_cell hbw bbb bc hlt
   obtain⟨s,hs⟩:∃s,xs[k]=s:=⟨_,rfl⟩
   rw [hs]at e0 e1
   have hix:=fun w'=>idx_str (ab:=ab) (aoff:=aoff) (n:=xs.length) (cap:=ca) (show (k:Int)=((k:Nat):Int) by rfl) hlt w'
   have hiy:=fun w'=>idx_str (ab:=bb) (aoff:=boff) (n:=xs.length) (cap:=cb) (show (k:Int)=((k:Nat):Int) by rfl) hlt w'
   clear hs ac bc a5 b5
   go_wp2
   go_quiet (fail)
   go_wp2
   go_roundg (xs.length-(k+1))
   case measure=>omega
   case rel=>exact⟨k+1,by omega,rfl,by go_num,(by repeat (first|exact Below.refl _ _|assumption|refine below_dn ?_ _|refine Below.drew ?_|refine Below.alloc ?_ (by simp <;> omega) _|refine Below.setCell ?_ (by simp <;> omega) _))⟩
  ·clear a5 b5
   go_wp2
   go_ret
   exact⟨rfl,belowAuto⟩
theorem equalStr_eq {va vb:Value} {xs ys:List ByteArray} {w:World} (ha:StrsAt w va xs) (hb:StrsAt w vb ys) (e:xs=ys) :
  Calls Tryd.prog 27 #[va,vb] w fun e w'=>e = .returned (.bool true)∧Below w.heap.size w w':=by
 subst e
 exact equalStr_same ha hb
theorem OwnBytes.set {B g cap j:Nat} {w:World} {X:List Int} {c:Int} (h:OwnBytes B w (.slice (some ⟨g,0,none⟩) X.length cap) X) (_hj:j<X.length) :
  OwnBytes B (w.setCell ⟨g,j,none⟩ (.int .u8 c)) (.slice (some ⟨g,0,none⟩) X.length cap) (X.set j c):=by
 obtain⟨hl,⟨h0,_⟩|⟨g',cap',cur,e1,hb,hg,h1,h2,h3,h4⟩⟩:=h.row
 ·cases h0
 ·cases e1
  refine⟨⟨by rw [enB_flat_length,List.length_set];omega, .inr ⟨g,cap,_,by rw [List.length_set],hb,heap_setCell_same hg,by rw [List.length_set];exact h1,h2,by simp [h3],?_⟩⟩⟩
  rw [List.length_set,Array.toList_setIfInBounds,List.take_set,h4,enB_flat,enB_flat,List.map_set]
end Go.Proofs.YtnjfkcimboidnaaDoor
