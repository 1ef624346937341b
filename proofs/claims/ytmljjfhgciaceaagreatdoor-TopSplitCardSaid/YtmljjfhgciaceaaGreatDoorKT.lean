/- Texts of mine that come as one: OpenRaw Grown Kmap KTree KUse. -/
import Derived.Test.YtmljjfhgciaceaaGreatDoorHd
import Derived.Test.YtmljjfhgciaceaaGreatDoorKG
import Derived.Test.YtmljjfhgciaceaaGreatDoorPU
import Derived.Test.YtmljjfhgciaceaaGreatDoorSR
import Derived.Test.YtmljjfhgciaceaaGreatDoorKB
import Derived.Test.YtmljjfhgciaceaaGreatDoorOG
import Derived.Test.YtmljjfhgciaceaaGreatDoorAW
import Derived.Test.YtmljjfhgciaceaaGreatDoorNC
namespace Go.Proofs.YtmljjfhgciaceaaGreatDoor
open Go.ChangeShapes Go.WideShapes Go.ChangeAt Go.RowKit Go.Deep
section
set_option maxRecDepth 100000
variable {fuel:Nat}
structure Rw where
 k:Int
 a:Int
 b:Int
 c:Int
def Rw.ok (r:Rw):Prop:=i64 r.k/\i64 r.a/\i64 r.b/\i64 r.c
def Nr (r:Rw):List Value:=[.int .i64 r.k, .int .i64 r.a, .int .i64 r.b, .int .i64 r.c]
abbrev I7 (w:World) (v:Value) (xs:List Rw):Prop:=dN 4 32 Nr w v xs
theorem Tryz.EJ:Tryz.prog.cellsOf 85=4:=cv
theorem Tryz.NA:Tryz.prog.bytesOf 85=32:=cv
section
variable {H:Type} {enc:TypeId×Value->H} {w:World} {base:Nat} {sp:Nat->Bool} {held:Bool}
theorem VX {α:Type} {cs:List α} {a b c d:α} (hl:cs.length=4) (h0:cs[0]?=some a) (h1:cs[1]?=some b) (h2:cs[2]?=some c) (h3:cs[3]?=some d):cs=[a,b,c,d]:=by
 match cs,hl with
 |[x0,x1,x2,x3],_=>simp at h0 h1 h2 h3;simp [h0,h1,h2,h3]
theorem Po {cs:List Value} {x:DataW H×List MemPlace} (h:DataW.trod enc Tryz.prog w base sp held fuel 85 cs=some x):∃r:Rw,cs=Nr r/\r.ok:=by
 obtain⟨xs,n,_,_,hl,hn,hf⟩:=DataW.trod_struct Tryz.underlying85 h
 rw [Tryz.EJ]at hl
 match xs,hn with
 |[x0,x1,x2,x3],_=>
  obtain⟨a,ha,ha'⟩:=nO (hf 0 _ rfl)
  obtain⟨b,hb,hb'⟩:=nO (hf 1 _ rfl)
  obtain⟨c,hc,hc'⟩:=nO (hf 2 _ rfl)
  obtain⟨d,hd,hd'⟩:=nO (hf 3 _ rfl)
  exact⟨⟨a,b,c,d⟩,VX hl ha hb hc hd,ha',hb',hc',hd'⟩
theorem LA {cs:List Value} {x:DataW H×List MemPlace} (h:DataW.trod enc Tryz.prog w base sp held fuel 50 cs=some x) (hw:∀m∈x.1.weights Tryz.prog 50,m<=reachBytes) :
  ∃(v:Value) (xs:List Rw),cs=[v]/\I7 w v xs/\∀a∈xs,a.ok:=
 FR Nr Rw.ok Tryz.underlying50 Tryz.EJ aY Tryz.NA h hw fun _ _ _ h1 _=>Po h1
theorem FW {r:Reach} {b0:Nat} {v:Value} {d:DataW H} {p:List MemPlace} (hv:Value.okWide Tryz.prog w r b0 50 v) (h:DataW.Trod enc Tryz.prog w base sp held 50 v d p) (hw:∀m∈d.weights Tryz.prog 50,m<=reachBytes) :
  ∃xs:List Rw,I7 w v xs/\∀a∈xs,a.ok:=by
 obtain⟨fuel,hf⟩:=h
 obtain⟨v',xs,e,h1,h2⟩:=LA hf hw
 rw [FB Tryz.underlying50 hv e]
 exact⟨xs,h1,h2⟩
end
end
end Go.Proofs.YtmljjfhgciaceaaGreatDoor
namespace Go.Proofs.YtmljjfhgciaceaaGreatDoor
section
variable {e:aA} {E:List aA} {t:Tr}
theorem Dz {m:Nat} {k:Int}:∀{E:List aA},(∀e∈E,e.is.c<=m)->(look E k).c<=(m:Int)*(E.length:Int)
 |[],_=>by simp [look,av.zero]
 |e::E,h=>by
  have ih:=Dz (k:=k) (E:=E) fun x hx=>h x (by simp [hx])
  have h1:=h e bt
  have e1:(m:Int)*(((e::E).length:Nat):Int)=(m:Int)*(E.length:Int)+m:=by rw [fR];push_cast;rw [Int.mul_add,Int.mul_one]
  rw [e1]
  unfold look
  split
  ·rw [dJ];omega
  ·omega
structure Grown (E:List aA) (t:Tr):Prop where
 fault:ax t=0
 ev:ir t.all E
 ok:∀e∈E,jX e
 wt:nB t<=3+E.length
theorem Grown.bP (h:Grown E t):aW E:=h.ev.2.1
theorem Grown.look (h:Grown E t) (k:Int):look t.all k=Go.Proofs.YtmljjfhgciaceaaGreatDoor.look E k:=h.ev.2.2 k
theorem Grown.start:Grown [] BR:=by
 obtain⟨h1,h2,-,-,-,h6⟩:=Dw
 exact⟨h1,h2,(fun e h=>by cases h),h6⟩
theorem Grown.I3 (h:Grown E t) (he:jX e):ir (e::t.all) (e::E):=
 ir.append (a:=[e]) (b:=[e]) (ir.refl fun x hx=>by rw [ny]at hx;subst hx;exact he.good) h.ev
theorem Grown.small (h:Grown E t) (he:jX e) (hs:Small (e::E)):Small (e::t.all):=(h.I3 he).small.2 hs
theorem Jn {m:Nat} (h:∀e∈E,e.is.c<=m) (hl:m*E.length<=1073741824):Small E:=fun k=>by
 have:=Dz (k:=k) h
 have h2:((m*E.length:Nat):Int)=(m:Int)*(E.length:Int):=by push_cast;rfl
 omega
theorem Grown.ji (h:Grown E t) (he:jX e) (hs:Small (e::E)):ji t e.key e.is=0:=by
 unfold Go.Proofs.YtmljjfhgciaceaaGreatDoor.ji
 obtain⟨h1,h2,h3,h4⟩:=he
 have h5:(Go.Proofs.YtmljjfhgciaceaaGreatDoor.look t.all e.key).c+e.is.c<=1073741824:=by
  have:=hs e.key
  unfold Go.Proofs.YtmljjfhgciaceaaGreatDoor.look at this
  rw [ar rfl,dJ]at this
  rw [h.look];omega
 rw [ai (by simp [h.fault]),ai af,ai (by simp [h2]),ar h5]
theorem Grown.put {t2:Tr} {h2:Nat} {l2:List Int} (h:Grown E t) (he:jX e) (hn:E.length<=2900) (hf:Full t2 h2 l2) (h3:ir t2.all (e::t.all)) (h4:nB t2<=nB t+1):ax t2=0/\Grown (e::E) t2:=by
 have hw:=h.wt
 have hft:=hf.fault af
 exact⟨hft,hft,h3.trans (h.I3 he),fun x hx=>by
  rcases eZ.1 hx with rfl|hx
  ·exact he
  ·exact h.ok x hx,by rw [fR];omega⟩
theorem Grown.knows (h:Grown E t) (hs:Small E):allT t=some (mo E):=by
 have hg:=h.bP
 refine yt h.fault (h.ev.trans ⟨hg,eK hg,fun k=>(fu hg k).symm⟩) (di hg) fun e he=>?_
 have hlk:Go.Proofs.YtmljjfhgciaceaaGreatDoor.look E e.key=e.is:=by rw [<-fu hg,fY (di hg) he]
 have hgd:=eK hg e he
 have hle:=hs e.key
 rw [hlk]at hle
 exact⟨by have:=hgd.1;omega,nu hgd hle⟩
theorem Grown.nodes (h:Grown E t):t.nodes.length+1<=2*((3+E.length)/3):=by
 obtain⟨l,hh,-,hf⟩:=yB (cW h.fault).2
 obtain⟨k,a1,a2,-⟩:=hf.bound
 have:=h.wt
 omega
theorem Grown.get (h:Grown E t) (hs:Small E) {k:Int}:(Go.Proofs.YtmljjfhgciaceaaGreatDoor.look t.all k).c<=1073741824:=by rw [h.look];exact hs k
end
open Go.RowKit Go.Maps
section
variable {E:List aA} {mb:Nat} {w:World}
def Lu (r:av):DataW Unit:= .agg [.lit (.int .i64 r.c), .lit (.int .i64 r.s), .lit (.int .i64 r.mi), .lit (.int .i64 r.ma), .lit (.int .i64 r.t), .lit (.int .i64 r.l)]
def yN:Value->Option (DataW Unit×List MemPlace)
 |.agg cs=>match cs.toList with
  |[.int .i64 a, .int .i64 b, .int .i64 c, .int .i64 d, .int .i64 e, .int .i64 f]=>some (Lu ⟨a,b,c,d,e,f⟩,[])
  |_=>none
 |_=>none
def Sp:List aA->DataW Unit
 |[]=> .map []
 |e::E=>(Sp E).put (.int .i64 e.key) (Lu (look (e::E) e.key))
def sS (w:World) (mb:Nat) (E:List aA):Prop:=w.ownsMap (H:=Unit) Tryz.prog 3 yN mb E.length (Sp E)
theorem sS.lt (h:sS w mb E):mb<w.heap.size:=World.ownsMap.lt h
theorem sS.block {w':World} (h:sS w mb E) (hb:w'.heap[mb]?=w.heap[mb]?):sS w' mb E:=by
 obtain⟨es,clock,h1,F,hs,hD⟩:=h
 exact⟨es,clock,hb.trans h1,F,hs,hD⟩
theorem sS.made (w:World):sS (w.alloc (.map #[] 0)) w.heap.size []:=World.ownsMap_made (H:=Unit) w Tryz.prog 3 yN
end
section
variable {many:Int} {E:List aA} {k n tb mb c:Nat} {s:Option Addr} {t:Tr} {w wr:World}
theorem Lp {b off:Nat} {xs:List Rw} (hb:ah w wr) (hbb:b<w.heap.size)
  (h:∀i x,xs[i]?=some x->∀j u,(Nr x)[j]?=some u->w.cell? ⟨b,off+i*4+j,none⟩=some u) (hk:k<xs.length) :
  wr.cell? ⟨b,off+k*4,none⟩=some (.int .i64 xs[k].k)/\wr.cell? ⟨b,off+k*4+1,none⟩=some (.int .i64 xs[k].a)/\wr.cell? ⟨b,off+k*4+2,none⟩=some (.int .i64 xs[k].b)/\wr.cell? ⟨b,off+k*4+3,none⟩=some (.int .i64 xs[k].c):=by
 have g:∀j u,(Nr xs[k])[j]?=some u->wr.cell? ⟨b,off+k*4+j,none⟩=some u:=fun j u hu=>
  (hb.cell (p:=⟨b,_,none⟩) hbb).trans (h k xs[k] (by simp [hk]) j u hu)
 exact⟨by simpa using g 0 _ rfl,g 1 _ rfl,g 2 _ rfl,g 3 _ rfl⟩
theorem PI {ab bp cap j:Nat} {i:Int} (h:i=j) (hj:j<n) (w:World):(Instr.indexAt 50 (.slice (some ⟨ab,bp,none⟩) n cap) (.int .i64 i)).run Tryz.prog w = .ok (.pointer (some ⟨ab,bp+j*4,none⟩)) w:=by
 subst h
 go_simp
def KE (many:Int) (E:List aA):Prop:=∀e∈E,1<=e.is.c/\e.is.c<=(4:Nat)/\0<=e.key/\e.key<many
theorem KE.small (h:KE many E) (hl:E.length<=1000):Small E:=Jn (fun e he=>(h e he).2.1) af
structure NZ (w:World) (tb mb:Nat) (many:Int) (k:Nat) (s:Option Addr) (n c:Nat) (t:Tr) (E:List aA) (wr:World):Prop where
 below:ah w wr
 size:w.heap.size<tb
 lt:tb<mb
 t0:wr.cell? ⟨tb,0,none⟩=some (.slice s n c)
 t1:wr.cell? ⟨tb,1,none⟩=some (.int .i64 t.root)
 tf:∀o,wr.frozen? ⟨tb,o,none⟩=false
 z0:wr.cell? ⟨w.heap.size,0,none⟩=some (.slice none 0 0)
 z1:wr.cell? ⟨w.heap.size,1,none⟩=some (.int .i64 0)
 zf:∀o,wr.frozen? ⟨w.heap.size,o,none⟩=false
 tree:∀w'',wr.heap.size<=w''.heap.size->(∀b,w.heap.size<b->b≠tb->b≠mb->b<wr.heap.size->w''.heap[b]?=wr.heap[b]?)->bN w'' (.agg #[.slice s n c, .int .i64 t.root]) t
 grown:Grown E t
 ke:KE many E
 len:E.length=k
 map:sS wr mb E
theorem NZ.later {w':World} (h:NZ w tb mb many k s n c t E wr) (hb:ah wr w'):NZ w tb mb many k s n c t E w':=by
 have h1:=h.size
 have h2:=h.lt
 have h3:=h.map.lt
 have k0:=nj hb (B:=w.heap.size) af
 have k1:=nj hb (B:=tb) af
 exact⟨Below.trans' h.below hb h.below.size,h1,h2,(k1.2.1 _).trans h.t0,(k1.2.1 _).trans h.t1,fun o=>(k1.2.2 o).trans (h.tf o),(k0.2.1 _).trans h.z0,(k0.2.1 _).trans h.z1,fun o=>(k0.2.2 o).trans (h.zf o),fun w'' hs hk=>h.tree w'' (im hb.size hs) fun b b1 b2 b3 b4=>(hk b b1 b2 b3 (mR b4 hb.size)).trans (hb.block b b4),h.grown,h.ke,h.len,h.map.block (hb.block _ h3)⟩
theorem NZ.at (h:NZ w tb mb many k s n c t E wr):bN wr (.agg #[.slice s n c, .int .i64 t.root]) t:=h.tree _ aI fun _ _ _ _ _=>rfl
theorem sS.put {w1:World} {e:aA} (h:w1.ownsMap (H:=Unit) Tryz.prog 3 yN mb (E.length+1) ((Sp E).put (.int .i64 e.key) (Lu (Go.Proofs.YtmljjfhgciaceaaGreatDoor.look (e::E) e.key)))):sS w1 mb (e::E):=h
end
end Go.Proofs.YtmljjfhgciaceaaGreatDoor
namespace Go.Proofs.YtmljjfhgciaceaaGreatDoor
open Go.RowKit
theorem Grown.kG {E:List aA} {t:Tr} (h:Grown E t) (hs:Small E):kG t 0 1099511627776=some (mo E):=by
 have:=h.knows hs
 unfold allT at this
 rwa [ar h.fault]at this
end Go.Proofs.YtmljjfhgciaceaaGreatDoor
