/- Lemmas of the proof. -/
import Derived.Test.YtmljjfhgciaceaaGreatDoorKG
import Derived.Test.YtmljjfhgciaceaaGreatDoorHd
import Derived.Test.YtmljjfhgciaceaaGreatDoorCz
import Derived.Test.YtmljjfhgciaceaaGreatDoorPU
import Derived.Test.YtmljjfhgciaceaaGreatDoorSR
import Derived.Test.YtmljjfhgciaceaaGreatDoorKB
import Derived.Test.YtmljjfhgciaceaaGreatDoorOG
namespace Go.Proofs.YtmljjfhgciaceaaGreatDoor
open Go.ChangeShapes Go.WideShapes Go.ChangeAt Go.RowKit Go.Deep Go.Maps
structure Rw where
 k:Int
 a:Int
 b:Int
 c:Int
def Rw.ok (r:Rw):Prop:=i64 r.k/\i64 r.a/\i64 r.b/\i64 r.c
section
variable {H:Type} {enc:TypeId×Value->H} {w:World} {base:Nat} {sp:Nat->Bool} {held:Bool}
end
section
variable {e:aH} {E:List aH} {t:Tr}
theorem Ir {m:Nat} {k:Int}:∀{E:List aH},(∀e∈E,e.is.c<=m)->(look E k).c<=(m:Int)*(E.length:Int)
 |[],_=>by simp [look,ax.zero]
 |e::E,h=>by
  have ih:=Ir (k:=k) (E:=E) fun x hx=>h x (by simp [hx]);have h1:=h e bh;have e1:(m:Int)*(((e::E).length:Nat):Int)=(m:Int)*(E.length:Int)+m:=by rw [gD];push_cast;rw [Int.mul_add,Int.mul_one]
  rw [e1];unfold look
  split
  ·rw [dO];omega
  ·omega
structure Grown (E:List aH) (t:Tr):Prop where
 fault:aC t=0
 ev:jv t.all E
 ok:∀e∈E,mf e
 wt:qE t<=3+E
theorem Grown.cp (h:Grown E t):bQ E:=h.ev.2.1
theorem Grown.look (h:Grown E t) (k:Int):look t.all k=Go.Proofs.YtmljjfhgciaceaaGreatDoor.look E k:=h.ev.2.2 k
theorem Grown.start:Grown [] FD:=by
 obtain⟨h1,h2,-,-,-,h6⟩:=Io;exact⟨h1,h2,(fun e h=>by cases h),h6⟩
theorem Grown.NM (h:Grown E t) (he:mf e):jv (e::t.all) (e::E):=
 jv.append (a:=[e]) (b:=[e]) (jv.refl fun x hx=>by rw [oY]at hx;subst hx;exact he.good) h.ev
theorem Grown.small (h:Grown E t) (he:mf e) (hs:Small (e::E)):Small (e::t.all):=(h.NM he).small.2 hs
theorem Oi {m:Nat} (h:∀e∈E,e.is.c<=m) (hl:m*E<=1073741824):Small E:=fun k=>by
 have:=Ir (k:=k) h;have h2:((m*E.length:Nat):Int)=(m:Int)*(E.length:Int):=by push_cast;rfl
 omega
theorem Grown.kL (h:Grown E t) (he:mf e) (hs:Small (e::E)):kL t e.key e.is=0:=by
 unfold Go.Proofs.YtmljjfhgciaceaaGreatDoor.kL;obtain⟨h1,h2,h3,h4⟩:=he;have h5:(Go.Proofs.YtmljjfhgciaceaaGreatDoor.look t.all e.key).c+e.is.c<=1073741824:=by
  have:=hs e.key;unfold Go.Proofs.YtmljjfhgciaceaaGreatDoor.look at this;rw [aw rfl,dO]at this;rw [h.look];omega
 rw [ar (by simp [h.fault]),ar ai,ar (by simp [h2]),aw h5]
theorem Grown.put {t2:Tr} {h2:Nat} {l2:List Int} (h:Grown E t) (he:mf e) (hn:E.length<=2900) (hf:Full t2 h2 l2) (h3:jv t2.all (e::t.all)) (h4:qE t2<=qE t+1):aC t2=0/\Grown (e::E) t2:=by
 have hw:=h.wt;have hft:=hf.fault ai;exact⟨hft,hft,h3.trans (h.NM he),fun x hx=>by
  rcases fy.1 hx with rfl|hx
  ·exact he
  ·exact h.ok x hx,by rw [gD];omega⟩
theorem Grown.knows (h:Grown E t) (hs:Small E):allT t=some (pH E):=by
 have hg:=h.cp;refine BA h.fault (h.ev.trans ⟨hg,gU hg,fun k=>(iG hg k).symm⟩) (eW hg) fun e he=>?_;have hlk:Go.Proofs.YtmljjfhgciaceaaGreatDoor.look E e.key=e.is:=by rw [<-iG hg,iF (eW hg) he]
 have hgd:=gU hg e he;have hle:=hs e.key;rw [hlk]at hle;exact⟨by have:=hgd.1;omega,tF hgd hle⟩
theorem Grown.nodes (h:Grown E t):t.nodes+1<=2*((3+E.length)/3):=by
 obtain⟨l,hh,-,hf⟩:=BM (cZ h.fault).2;obtain⟨k,a1,a2,-⟩:=hf.bound;have:=h.wt;omega
theorem Grown.get (h:Grown E t) (hs:Small E) {k:Int}:(Go.Proofs.YtmljjfhgciaceaaGreatDoor.look t.all k).c<=1073741824:=by rw [h.look];exact hs k
end
section
variable {E:List aH} {mb:Nat} {w:World}
def QG (r:ax):DataW Unit:= .agg [.lit (.int .i64 r.c), .lit (.int .i64 r.s), .lit (.int .i64 r.mi), .lit (.int .i64 r.ma), .lit (.int .i64 r.t), .lit (.int .i64 r.l)]
def Cf:Value->Option (DataW Unit×List MemPlace)
 |.agg cs=>match cs.toList with
  |[.int .i64 a, .int .i64 b, .int .i64 c, .int .i64 d, .int .i64 e, .int .i64 f]=>some (QG ⟨a,b,c,d,e,f⟩,[])
  |_=>none
 |_=>none
def XI:List aH->DataW Unit
 |[]=> .map []
 |e::E=>(XI E).put (.int .i64 e.key) (QG (look (e::E) e.key))
def wP (w:World) (mb:Nat) (E:List aH):Prop:=w.ownsMap (H:=Unit) Tryz.prog 3 Cf mb E (XI E)
theorem wP.lt (h:wP w mb E):mb<w:=World.ownsMap.lt h
theorem wP.block {w':World} (h:wP w mb E) (hb:w'.heap[mb]?=w.heap[mb]?):wP w' mb E:=by
 obtain⟨es,clock,h1,F,hs,hD⟩:=h;exact⟨es,clock,hb.trans h1,F,hs,hD⟩
theorem wP.made (w:World):wP (w.alloc (.map #[] 0)) w []:=World.ownsMap_made (H:=Unit) w Tryz.prog 3 Cf
end
section
variable {many:Int} {E:List aH} {n c:Nat} {s:Option Addr} {t:Tr} {w wr:World}
def KE (many:Int) (E:List aH):Prop:=∀e∈E,1<=e.is.c/\e.is.c<=(4:Nat)/\0<=e.key/\e.key<many
theorem KE.small (h:KE many E) (hl:E.length<=1000):Small E:=Oi (fun e he=>(h e he).2.1) ai
structure S5 (w:World) (tb mb:Nat) (many:Int) (k:Nat) (s:Option Addr) (n c:Nat) (t:Tr) (E:List aH) (wr:World):Prop where
 below:aq w wr
 size:w<tb
 lt:tb<mb
 t0:wr.cell? (tb,0)=some (ah s n c)
 t1:wr.cell? (tb,1)=some (af t.root)
 tf:∀o,wr.frozen? ⟨tb,o,none⟩=false
 z0:wr.cell? (w,0)=some (az 0 0)
 z1:wr.cell? (w,1)=some (af 0)
 zf:∀o,wr.frozen? ⟨w.heap.size,o,none⟩=false
 tree:∀w'',wr.heap.size<=w''.heap.size->(∀b,w.heap.size<b->b≠tb->b≠mb->b<wr.heap.size->w''.heap[b]?=wr.heap[b]?)->di w'' (.agg #[.slice s n c, .int .i64 t.root]) t
 grown:Grown E t
 ke:KE many E
 len:E=k
 map:wP wr mb E
theorem S5.later {tb mb k:Nat} {w':World} (h:S5 w tb mb many k s n c t E wr) (hb:aq wr w'):S5 w tb mb many k s n c t E w':=by
 have h1:=h.size;have h2:=h.lt;have h3:=h.map.lt;have k0:=rY hb (B:=w.heap.size) ai;have k1:=rY hb (B:=tb) ai;exact⟨aF h.below hb h.below.size,h1,h2,(k1.2.1 _).trans h.t0,(k1.2.1 _).trans h.t1,fun o=>(k1.2.2 o).trans (h.tf o),(k0.2.1 _).trans h.z0,(k0.2.1 _).trans h.z1,fun o=>(k0.2.2 o).trans (h.zf o),fun w'' hs hk=>h.tree w'' (fZ hb.size hs) fun b b1 b2 b3 b4=>(hk b b1 b2 b3 (oI b4 hb.size)).trans (hb.block b b4),h.grown,h.ke,h.len,h.map.block (hb.block _ h3)⟩
theorem S5.at {tb mb k:Nat} (h:S5 w tb mb many k s n c t E wr):di wr (.agg #[ah s n c,af t.root]) t:=h.tree _ aO fun _ _ _ _ _=>rfl
theorem wP.put {w1:World} {mb:Nat} {e:aH} (h:w1.ownsMap (H:=Unit) Tryz.prog 3 Cf mb (E.length+1) ((XI E).put (.int .i64 e.key) (QG (Go.Proofs.YtmljjfhgciaceaaGreatDoor.look (e::E) e.key)))):wP w1 mb (e::E):=h
end
end Go.Proofs.YtmljjfhgciaceaaGreatDoor
