/- Texts of mine that come as one: OpenRaw Grown Kmap KTree KUse. -/
import Derived.Test.YtmljjfhgciaceaaDoorHd
import Derived.Test.YtmljjfhgciaceaaDoorKG
import Derived.Test.YtmljjfhgciaceaaDoorPU
import Derived.Test.YtmljjfhgciaceaaDoorSR
import Derived.Test.YtmljjfhgciaceaaDoorKB
import Derived.Test.YtmljjfhgciaceaaDoorOG
import Derived.Test.YtmljjfhgciaceaaDoorAW
import Derived.Test.YtmljjfhgciaceaaDoorNC
namespace Go.Proofs.YtmljjfhgciaceaaDoor
open Go.ChangeShapes Go.WideShapes Go.ChangeAt Go.RowKit Go.Deep
section
set_option maxRecDepth 100000
variable {fuel:Nat}
structure Rw where
 k:Int
 a:Int
 b:Int
 c:Int
def Rw.ok (r:Rw):Prop:=i64 r.k/\i64 r.a/\i64 r.b/\i64 r.c
def Np (r:Rw):List Value:=[.int .i64 r.k, .int .i64 r.a, .int .i64 r.b, .int .i64 r.c]
abbrev I5 (w:World) (v:Value) (xs:List Rw):Prop:=dN 4 32 Np w v xs
theorem Tryd.EF:Tryd.prog.cellsOf 75=4:=cy
theorem Tryd.Ny:Tryd.prog.bytesOf 75=32:=cy
section
variable {H:Type} {enc:TypeId×Value->H} {w:World} {base:Nat} {sp:Nat->Bool} {held:Bool}
theorem VO {α:Type} {cs:List α} {a b c d:α} (hl:cs.length=4) (h0:cs[0]?=some a) (h1:cs[1]?=some b) (h2:cs[2]?=some c) (h3:cs[3]?=some d):cs=[a,b,c,d]:=by
 match cs,hl with
 |[x0,x1,x2,x3],_=>simp at h0 h1 h2 h3;simp [h0,h1,h2,h3]
theorem Pj {cs:List Value} {x:DataW H×List MemPlace} (h:DataW.trod enc Tryd.prog w base sp held fuel 75 cs=some x):∃r:Rw,cs=Np r/\r.ok:=by
 obtain⟨xs,n,_,_,hl,hn,hf⟩:=DataW.trod_struct Tryd.underlying75 h
 rw [Tryd.EF]at hl
 match xs,hn with
 |[x0,x1,x2,x3],_=>
  obtain⟨a,ha,ha'⟩:=nT (hf 0 _ rfl)
  obtain⟨b,hb,hb'⟩:=nT (hf 1 _ rfl)
  obtain⟨c,hc,hc'⟩:=nT (hf 2 _ rfl)
  obtain⟨d,hd,hd'⟩:=nT (hf 3 _ rfl)
  exact⟨⟨a,b,c,d⟩,VO hl ha hb hc hd,ha',hb',hc',hd'⟩
theorem LA {cs:List Value} {x:DataW H×List MemPlace} (h:DataW.trod enc Tryd.prog w base sp held fuel 22 cs=some x) (hw:∀m∈x.1.weights Tryd.prog 22,m<=reachBytes) :
  ∃(v:Value) (xs:List Rw),cs=[v]/\I5 w v xs/\∀a∈xs,a.ok:=
 FO Np Rw.ok Tryd.underlying22 Tryd.EF aW Tryd.Ny h hw fun _ _ _ h1 _=>Pj h1
theorem FT {r:Reach} {b0:Nat} {v:Value} {d:DataW H} {p:List MemPlace} (hv:Value.okWide Tryd.prog w r b0 22 v) (h:DataW.Trod enc Tryd.prog w base sp held 22 v d p) (hw:∀m∈d.weights Tryd.prog 22,m<=reachBytes) :
  ∃xs:List Rw,I5 w v xs/\∀a∈xs,a.ok:=by
 obtain⟨fuel,hf⟩:=h
 obtain⟨v',xs,e,h1,h2⟩:=LA hf hw
 rw [Fy Tryd.underlying22 hv e]
 exact⟨xs,h1,h2⟩
end
end
end Go.Proofs.YtmljjfhgciaceaaDoor
namespace Go.Proofs.YtmljjfhgciaceaaDoor
section
variable {e:aA} {E:List aA} {t:Tr}
theorem Dw {m:Nat} {k:Int}:∀{E:List aA},(∀e∈E,e.is.c<=m)->(look E k).c<=(m:Int)*(E.length:Int)
 |[],_=>by simp [look,au.zero]
 |e::E,h=>by
  have ih:=Dw (k:=k) (E:=E) fun x hx=>h x (by simp [hx])
  have h1:=h e bq
  have e1:(m:Int)*(((e::E).length:Nat):Int)=(m:Int)*(E.length:Int)+m:=by rw [fR];push_cast;rw [Int.mul_add,Int.mul_one]
  rw [e1]
  unfold look
  split
  ·rw [dC];omega
  ·omega
structure Grown (E:List aA) (t:Tr):Prop where
 fault:ax t=0
 ev:gI t.all E
 ok:∀e∈E,jV e
 wt:nE t<=3+E.length
theorem Grown.bJ (h:Grown E t):aT E:=h.ev.2.1
theorem Grown.look (h:Grown E t) (k:Int):look t.all k=Go.Proofs.YtmljjfhgciaceaaDoor.look E k:=h.ev.2.2 k
theorem Grown.start:Grown [] BI:=by
 obtain⟨h1,h2,-,-,-,h6⟩:=Dt
 exact⟨h1,h2,(fun e h=>by cases h),h6⟩
theorem Grown.I0 (h:Grown E t) (he:jV e):gI (e::t.all) (e::E):=
 gI.append (a:=[e]) (b:=[e]) (gI.refl fun x hx=>by rw [nB]at hx;subst hx;exact he.good) h.ev
theorem Grown.small (h:Grown E t) (he:jV e) (hs:Small (e::E)):Small (e::t.all):=(h.I0 he).small.2 hs
theorem Jj {m:Nat} (h:∀e∈E,e.is.c<=m) (hl:m*E.length<=1073741824):Small E:=fun k=>by
 have:=Dw (k:=k) h
 have h2:((m*E.length:Nat):Int)=(m:Int)*(E.length:Int):=by push_cast;rfl
 omega
theorem Grown.ji (h:Grown E t) (he:jV e) (hs:Small (e::E)):ji t e.key e.is=0:=by
 unfold Go.Proofs.YtmljjfhgciaceaaDoor.ji
 obtain⟨h1,h2,h3,h4⟩:=he
 have h5:(Go.Proofs.YtmljjfhgciaceaaDoor.look t.all e.key).c+e.is.c<=1073741824:=by
  have:=hs e.key
  unfold Go.Proofs.YtmljjfhgciaceaaDoor.look at this
  rw [ar rfl,dC]at this
  rw [h.look];omega
 rw [ai (by simp [h.fault]),ai af,ai (by simp [h2]),ar h5]
theorem Grown.put {t2:Tr} {h2:Nat} {l2:List Int} (h:Grown E t) (he:jV e) (hn:E.length<=2900) (hf:Full t2 h2 l2) (h3:gI t2.all (e::t.all)) (h4:nE t2<=nE t+1):ax t2=0/\Grown (e::E) t2:=by
 have hw:=h.wt
 have hft:=hf.fault af
 exact⟨hft,hft,h3.trans (h.I0 he),fun x hx=>by
  rcases fc.1 hx with rfl|hx
  ·exact he
  ·exact h.ok x hx,by rw [fR];omega⟩
theorem Grown.knows (h:Grown E t) (hs:Small E):allT t=some (jJ E):=by
 have hg:=h.bJ
 refine yl h.fault (h.ev.trans ⟨hg,dh hg,fun k=>(eG hg k).symm⟩) (cJ hg) fun e he=>?_
 have hlk:Go.Proofs.YtmljjfhgciaceaaDoor.look E e.key=e.is:=by rw [<-eG hg,fY (cJ hg) he]
 have hgd:=dh hg e he
 have hle:=hs e.key
 rw [hlk]at hle
 exact⟨by have:=hgd.1;omega,lA hgd hle⟩
theorem Grown.nodes (h:Grown E t):t.nodes.length+1<=2*((3+E.length)/3):=by
 obtain⟨l,hh,-,hf⟩:=yu (cW h.fault).2
 obtain⟨k,a1,a2,-⟩:=hf.bound
 have:=h.wt
 omega
theorem Grown.get (h:Grown E t) (hs:Small E) {k:Int}:(Go.Proofs.YtmljjfhgciaceaaDoor.look t.all k).c<=1073741824:=by rw [h.look];exact hs k
end
open Go.RowKit Go.Maps
section
variable {E:List aA} {mb:Nat} {w:World}
def Lu (r:au):DataW Unit:= .agg [.lit (.int .i64 r.c), .lit (.int .i64 r.s), .lit (.int .i64 r.mi), .lit (.int .i64 r.ma), .lit (.int .i64 r.t), .lit (.int .i64 r.l)]
def yH:Value->Option (DataW Unit×List MemPlace)
 |.agg cs=>match cs.toList with
  |[.int .i64 a, .int .i64 b, .int .i64 c, .int .i64 d, .int .i64 e, .int .i64 f]=>some (Lu ⟨a,b,c,d,e,f⟩,[])
  |_=>none
 |_=>none
def Sc:List aA->DataW Unit
 |[]=> .map []
 |e::E=>(Sc E).put (.int .i64 e.key) (Lu (look (e::E) e.key))
def sM (w:World) (mb:Nat) (E:List aA):Prop:=w.ownsMap (H:=Unit) Tryd.prog 3 yH mb E.length (Sc E)
theorem sM.lt (h:sM w mb E):mb<w.heap.size:=World.ownsMap.lt h
theorem sM.block {w':World} (h:sM w mb E) (hb:w'.heap[mb]?=w.heap[mb]?):sM w' mb E:=by
 obtain⟨es,clock,h1,F,hs,hD⟩:=h
 exact⟨es,clock,hb.trans h1,F,hs,hD⟩
theorem sM.made (w:World):sM (w.alloc (.map #[] 0)) w.heap.size []:=World.ownsMap_made (H:=Unit) w Tryd.prog 3 yH
end
section
variable {many:Int} {E:List aA} {k n tb mb c:Nat} {s:Option Addr} {t:Tr} {w wr:World}
theorem Lm {b off:Nat} {xs:List Rw} (hb:ah w wr) (hbb:b<w.heap.size)
  (h:∀i x,xs[i]?=some x->∀j u,(Np x)[j]?=some u->w.cell? ⟨b,off+i*4+j,none⟩=some u) (hk:k<xs.length) :
  wr.cell? ⟨b,off+k*4,none⟩=some (.int .i64 xs[k].k)/\wr.cell? ⟨b,off+k*4+1,none⟩=some (.int .i64 xs[k].a)/\wr.cell? ⟨b,off+k*4+2,none⟩=some (.int .i64 xs[k].b)/\wr.cell? ⟨b,off+k*4+3,none⟩=some (.int .i64 xs[k].c):=by
 have g:∀j u,(Np xs[k])[j]?=some u->wr.cell? ⟨b,off+k*4+j,none⟩=some u:=fun j u hu=>
  (hb.cell (p:=⟨b,_,none⟩) hbb).trans (h k xs[k] (by simp [hk]) j u hu)
 exact⟨by simpa using g 0 _ rfl,g 1 _ rfl,g 2 _ rfl,g 3 _ rfl⟩
theorem PE {ab aY cap j:Nat} {i:Int} (h:i=j) (hj:j<n) (w:World):(Instr.indexAt 22 (.slice (some ⟨ab,aY,none⟩) n cap) (.int .i64 i)).run Tryd.prog w = .ok (.pointer (some ⟨ab,aY+j*4,none⟩)) w:=by
 subst h
 go_simp
def KE (many:Int) (E:List aA):Prop:=∀e∈E,1<=e.is.c/\e.is.c<=(4:Nat)/\0<=e.key/\e.key<many
theorem KE.small (h:KE many E) (hl:E.length<=1000):Small E:=Jj (fun e he=>(h e he).2.1) af
structure NW (w:World) (tb mb:Nat) (many:Int) (k:Nat) (s:Option Addr) (n c:Nat) (t:Tr) (E:List aA) (wr:World):Prop where
 below:ah w wr
 size:w.heap.size<tb
 lt:tb<mb
 t0:wr.cell? ⟨tb,0,none⟩=some (.slice s n c)
 t1:wr.cell? ⟨tb,1,none⟩=some (.int .i64 t.root)
 tf:∀o,wr.frozen? ⟨tb,o,none⟩=false
 z0:wr.cell? ⟨w.heap.size,0,none⟩=some (.slice none 0 0)
 z1:wr.cell? ⟨w.heap.size,1,none⟩=some (.int .i64 0)
 zf:∀o,wr.frozen? ⟨w.heap.size,o,none⟩=false
 tree:∀w'',wr.heap.size<=w''.heap.size->(∀b,w.heap.size<b->b≠tb->b≠mb->b<wr.heap.size->w''.heap[b]?=wr.heap[b]?)->bL w'' (.agg #[.slice s n c, .int .i64 t.root]) t
 grown:Grown E t
 ke:KE many E
 len:E.length=k
 map:sM wr mb E
theorem NW.later {w':World} (h:NW w tb mb many k s n c t E wr) (hb:ah wr w'):NW w tb mb many k s n c t E w':=by
 have h1:=h.size
 have h2:=h.lt
 have h3:=h.map.lt
 have k0:=nr hb (B:=w.heap.size) af
 have k1:=nr hb (B:=tb) af
 exact⟨Below.trans' h.below hb h.below.size,h1,h2,(k1.2.1 _).trans h.t0,(k1.2.1 _).trans h.t1,fun o=>(k1.2.2 o).trans (h.tf o),(k0.2.1 _).trans h.z0,(k0.2.1 _).trans h.z1,fun o=>(k0.2.2 o).trans (h.zf o),fun w'' hs hk=>h.tree w'' (gT hb.size hs) fun b b1 b2 b3 b4=>(hk b b1 b2 b3 (mE b4 hb.size)).trans (hb.block b b4),h.grown,h.ke,h.len,h.map.block (hb.block _ h3)⟩
theorem NW.at (h:NW w tb mb many k s n c t E wr):bL wr (.agg #[.slice s n c, .int .i64 t.root]) t:=h.tree _ aI fun _ _ _ _ _=>rfl
theorem sM.put {w1:World} {e:aA} (h:w1.ownsMap (H:=Unit) Tryd.prog 3 yH mb (E.length+1) ((Sc E).put (.int .i64 e.key) (Lu (Go.Proofs.YtmljjfhgciaceaaDoor.look (e::E) e.key)))):sM w1 mb (e::E):=h
end
end Go.Proofs.YtmljjfhgciaceaaDoor
namespace Go.Proofs.YtmljjfhgciaceaaDoor
open Go.RowKit
theorem Grown.kH {E:List aA} {t:Tr} (h:Grown E t) (hs:Small E):kH t 0 1099511627776=some (jJ E):=by
 have:=h.knows hs
 unfold allT at this
 rwa [ar h.fault]at this
end Go.Proofs.YtmljjfhgciaceaaDoor
