/- Texts of mine that come as one: OpenTree OpenTreeB OpenBase. -/
import Derived.Test.YtmljjfhgciaceaaDoorHd
import Derived.Test.YtmljjfhgciaceaaDoorKG
import Derived.Test.YtmljjfhgciaceaaDoorBK
import Derived.OpenShut
namespace Go.Proofs.YtmljjfhgciaceaaDoor
open Go.ChangeShapes Go.WideShapes Go.ChangeAt Go.RowKit Go.Deep
section
set_option maxRecDepth 100000
variable {cs:List Value} {fuel:Nat}
theorem Tryd.ahz:Tryd.prog.cellsOf 96=7:=bT
theorem Tryd.ah3:Tryd.prog.cellsOf 119=5:=bT
theorem Tryd.agN:Tryd.prog.cellsOf 32=2:=bT
theorem Tryd.aiy:Tryd.prog.cellsOf 4=1:=bT
theorem Tryd.aix:Tryd.prog.cellsOf 63=1:=bT
theorem Tryd.aiu:Tryd.prog.cellsOf 82=1:=bT
theorem Tryd.ahU:Tryd.prog.cellsOf 30=1:=bT
theorem Tryd.aiV:Tryd.prog.bytesOf 96=56:=bT
theorem Tryd.aiC:Tryd.prog.bytesOf 119=104:=bT
section
variable {H:Type} {enc:TypeId×Value->H} {w:World} {base:Nat} {sp:Nat->Bool} {held:Bool}
theorem aiO {x:DataW H×List MemPlace} (h:DataW.trod enc Tryd.prog w base sp held fuel 96 cs=some x):∃e:aC,cs=aZ e/\i64 e.key:=by
 obtain⟨xs,n,_,_,hl,hn,hf⟩:=DataW.trod_struct Tryd.underlying96 h
 rw [Tryd.ahz]at hl
 match xs,hn with
 |[x0,x1],_=>
  obtain⟨a,ha,hb⟩:=nS (hf 0 _ rfl)
  obtain⟨r,hr⟩:=aih (hf 1 _ rfl)
  refine⟨⟨a,r⟩,?_,hb⟩
  change (cs.drop 1).take (Tryd.prog.cellsOf 42)=_ at hr
  change cs[0]?=_ at ha
  rw [Tryd.ah2]at hr
  match cs,hl with
  |[c0,c1,c2,c3,c4,c5,c6],_=>
   simp [aw.cells]at ha hr
   simp [aZ,ha,hr]
theorem agb {x:DataW H×List MemPlace} (h:DataW.trod enc Tryd.prog w base sp held fuel 63 cs=some x) (hw:∀m∈x.1.weights Tryd.prog 63,m<=reachBytes) :
  ∃(v:Value) (xs:List aC),cs=[v]/\fu w v xs/\∀a∈xs,i64 a.key:=
 Gb aZ (fun e=>i64 e.key) Tryd.underlying63 Tryd.ahz aW Tryd.aiV h hw fun _ _ _ h1 _=>aiO h1
theorem ai5 {w:World}:∀rs:List Raw,(∀r∈rs,∃x,lL w r x)->∃xs,wR w rs xs
 |[],_=>⟨[],rfl,bj⟩
 |r::rs,h=>by
  obtain⟨x,hx⟩:=h r bj
  obtain⟨xs,hl,hxs⟩:=ai5 rs (fun r' hr'=>h r' (by simp [hr']))
  refine⟨x::xs,by simp [hl],fun i r' x' hr' hx'=>?_⟩
  cases i with
  |zero=>simp at hr' hx';rw [<-hr',<-hx'];exact hx
  |succ i=>simp at hr' hx';exact hxs i r' x' hr' hx'
theorem aiL {x:DataW H×List MemPlace} (h:DataW.trod enc Tryd.prog w base sp held fuel 119 cs=some x) (hw:∀m∈x.1.weights Tryd.prog 119,m<=reachBytes) :
  ∃r:Raw,cs=cI r/\∃nd,lL w r nd:=by
 obtain⟨xs,n,_,hx,hl,hn,hf⟩:=DataW.trod_struct Tryd.underlying119 h
 rw [Tryd.ah3]at hl
 match xs,hn with
 |[x0,x1,x2,x3,x4],_=>
  rw [hx]at hw
  have pn:∀(j:Nat) (t:TypeId) (d:DataW H),((Tryd.prog.fieldsOf 119).toList.map (·.type))[j]?=some t->[x0.1,x1.1,x2.1,x3.1,x4.1][j]?=some d->∀m∈d.weights Tryd.prog t,m<=reachBytes:=by
   intro j t d ht hd m hm
   refine hw m ?_
   simp only [DataW.weights,Tryd.underlying119]
   simp only [Program.fieldsOf,Tryd.underlying119]at ht
   exact DataW.weights_mem_each ht hd m hm
  obtain⟨lf,e0,_⟩:=DataW.trod_bool Tryd.underlying4 (hf 0 _ rfl)
  obtain⟨v1,y1,e1,s1,_⟩:=agb (hf 1 _ rfl) (pn 1 _ _ bT rfl)
  obtain⟨v2,y2,e2,s2,_⟩:=afS (hf 2 _ rfl) (pn 2 _ _ bT rfl)
  obtain⟨v3,y3,e3,s3,_⟩:=afS (hf 3 _ rfl) (pn 3 _ _ bT rfl)
  obtain⟨v4,y4,e4,s4,_⟩:=agb (hf 4 _ rfl) (pn 4 _ _ bT rfl)
  change (cs.drop 0).take (Tryd.prog.cellsOf 4)=_ at e0
  change (cs.drop 1).take (Tryd.prog.cellsOf 63)=_ at e1
  change (cs.drop 2).take (Tryd.prog.cellsOf 82)=_ at e2
  change (cs.drop 3).take (Tryd.prog.cellsOf 82)=_ at e3
  change (cs.drop 4).take (Tryd.prog.cellsOf 63)=_ at e4
  rw [Tryd.aiy]at e0
  rw [Tryd.aix]at e1 e4
  rw [Tryd.aiu]at e2 e3
  refine⟨⟨lf,v1,v2,v3,v4⟩,?_,⟨lf,y1,y2,y3,y4⟩,rfl,s1,s2,s3,s4⟩
  match cs,hl with
  |[c0,c1,c2,c3,c4],_=>
   simp at e0 e1 e2 e3 e4
   simp [cI,e0,e1,e2,e3,e4]
theorem ahQ {x:DataW H×List MemPlace} (h:DataW.trod enc Tryd.prog w base sp held fuel 30 cs=some x) (hw:∀m∈x.1.weights Tryd.prog 30,m<=reachBytes) :
  ∃(v:Value) (xs:List Nd),cs=[v]/\bz w v xs:=by
 obtain⟨v,rs,e,hs,hq⟩:=Gb cI (fun r=>∃nd,lL w r nd) Tryd.underlying30 Tryd.ah3 aW Tryd.aiC h hw fun _ _ _ h1 h2=>aiL h1 h2
 obtain⟨xs,hx⟩:=ai5 rs hq
 exact⟨v,xs,e,rs,hs,hx⟩
end
end
section
set_option maxRecDepth 100000
section
variable {H:Type} {enc:TypeId×Value->H} {w:World} {base:Nat} {sp:Nat->Bool} {held:Bool}
theorem aeU {fuel:Nat} {cs:List Value} {x:DataW H×List MemPlace} (h:DataW.trod enc Tryd.prog w base sp held fuel 32 cs=some x) (hw:∀m∈x.1.weights Tryd.prog 32,m<=reachBytes) :
  ∃(t:Tr) (nv:Value),cs=[nv, .int .i64 t.root]/\bz w nv t.nodes/\i64 t.root:=by
 obtain⟨xs,n,_,hx,hl,hn,hf⟩:=DataW.trod_struct Tryd.underlying32 h
 rw [Tryd.agN]at hl
 match xs,hn with
 |[x0,x1],_=>
  rw [hx]at hw
  have pn:∀(j:Nat) (t:TypeId) (d:DataW H),((Tryd.prog.fieldsOf 32).toList.map (·.type))[j]?=some t->[x0.1,x1.1][j]?=some d->∀m∈d.weights Tryd.prog t,m<=reachBytes:=by
   intro j t d ht hd m hm
   refine hw m ?_
   simp only [DataW.weights,Tryd.underlying32]
   simp only [Program.fieldsOf,Tryd.underlying32]at ht
   exact DataW.weights_mem_each ht hd m hm
  obtain⟨nv,ns,e0,s0⟩:=ahQ (hf 0 _ rfl) (pn 0 _ _ bT rfl)
  obtain⟨a,ha,hb⟩:=nS (hf 1 _ rfl)
  change (cs.drop 0).take (Tryd.prog.cellsOf 30)=_ at e0
  change cs[1]?=_ at ha
  rw [Tryd.ahU]at e0
  refine⟨⟨ns,a⟩,nv,?_,s0,hb⟩
  match cs,hl with
  |[c0,c1],_=>
   simp at e0 ha
   simp [e0,ha]
end
end
section
set_option maxRecDepth 100000
variable {cs:List Value} {fuel:Nat}
theorem Tryd.ahy:Tryd.prog.cellsOf 9=1:=bT
theorem Tryd.ait:Tryd.prog.cellsOf 29=1:=bT
theorem Tryd.afC:Tryd.prog.cellsOf 33=6:=bT
theorem Tryd.aiB:Tryd.prog.cellsOf 35=8:=bT
theorem Tryd.aiT:Tryd.prog.bytesOf 9=16:=bT
section
variable {H:Type} {enc:TypeId×Value->H} {w:World} {base:Nat} {sp:Nat->Bool} {held:Bool}
theorem aif {x:DataW H×List MemPlace} (h:DataW.trod enc Tryd.prog w base sp held fuel 29 cs=some x) (hw:∀m∈x.1.weights Tryd.prog 29,m<=reachBytes) :
  ∃(v:Value) (xs:List ByteArray),cs=[v]/\jN w v xs/\∀s∈xs,s.size<=140737488351232:=by
 obtain⟨v,xs,h1,h2,h3⟩:=Gb jg (fun s=>s.size<=140737488351232) Tryd.underlying29 Tryd.ahy aW Tryd.aiT h hw (fun n cs' y hy hwy=>by
  obtain⟨s,e,hx,_⟩:=DataW.trod_string Tryd.underlying9 hy
  refine⟨s,e,?_⟩
  have:=hwy s.data.toList.length (by rw [hx];simp [DataW.weights])
  have e2:s.data.toList.length=s.size:=bj
  unfold reachBytes at this
  omega)
 exact⟨v,xs,h1,h2,h3⟩
theorem ahP {x:DataW H×List MemPlace} (h:DataW.trod enc Tryd.prog w base sp held fuel 33 cs=some x) (hw:∀m∈x.1.weights Tryd.prog 33,m<=reachBytes) :
  ∃(t0 t1 t2:Tr) (a0 a1 a2:Value),cs=[a0, .int .i64 t0.root,a1, .int .i64 t1.root,a2, .int .i64 t2.root]/\bz w a0 t0.nodes/\bz w a1 t1.nodes/\bz w a2 t2.nodes:=by
 obtain⟨xs,m,_,hx,hl,hn,hf⟩:=DataW.trod_array Tryd.underlying33 h
 rw [Tryd.afC]at hl
 match xs,hn with
 |[x0,x1,x2],_=>
  rw [hx]at hw
  have pn:∀d∈[x0.1,x1.1,x2.1],∀m∈d.weights Tryd.prog 32,m<=reachBytes:=fun d hd m hm=>by
   refine hw m ?_
   simp only [DataW.weights,Tryd.underlying33]
   exact wZ (by simpa using hd) m hm
  have f0:=hf 0 aW
  have f1:=hf 1 aW
  have f2:=hf 2 aW
  rw [Tryd.agN]at f0 f1 f2
  obtain⟨t0,a0,e0,s0,_⟩:=aeU f0 (pn _ bj)
  obtain⟨t1,a1,e1,s1,_⟩:=aeU f1 (pn _ bj)
  obtain⟨t2,a2,e2,s2,_⟩:=aeU f2 (pn _ bj)
  refine⟨t0,t1,t2,a0,a1,a2,?_,s0,s1,s2⟩
  match cs,hl with
  |[c0,c1,c2,c3,c4,c5],_=>
   simp at e0 e1 e2
   simp [e0,e1,e2]
theorem aij {x:DataW H×List MemPlace} (h:DataW.trod enc Tryd.prog w base sp held fuel 35 cs=some x) (hw:∀m∈x.1.weights Tryd.prog 35,m<=reachBytes) :
  ∃(b:Ba) (nv a0 a1 a2:Value),cs=[nv,a0, .int .i64 b.t0.root,a1, .int .i64 b.t1.root,a2, .int .i64 b.t2.root, .int .i64 b.floor]/\jN w nv b.names/\bz w a0 b.t0.nodes/\bz w a1 b.t1.nodes/\bz w a2 b.t2.nodes/\i64 b.floor/\∀s∈b.names,s.size<=140737488351232:=by
 obtain⟨xs,n,_,hx,hl,hn,hf⟩:=DataW.trod_struct Tryd.underlying35 h
 rw [Tryd.aiB]at hl
 match xs,hn with
 |[x0,x1,x2],_=>
  rw [hx]at hw
  have pn:∀(j:Nat) (t:TypeId) (d:DataW H),((Tryd.prog.fieldsOf 35).toList.map (·.type))[j]?=some t->[x0.1,x1.1,x2.1][j]?=some d->∀m∈d.weights Tryd.prog t,m<=reachBytes:=by
   intro j t d ht hd m hm
   refine hw m ?_
   simp only [DataW.weights,Tryd.underlying35]
   simp only [Program.fieldsOf,Tryd.underlying35]at ht
   exact DataW.weights_mem_each ht hd m hm
  obtain⟨nv,ns,e0,s0,s9⟩:=aif (hf 0 _ rfl) (pn 0 _ _ bT rfl)
  obtain⟨t0,t1,t2,a0,a1,a2,e1,g0,g1,g2⟩:=ahP (hf 1 _ rfl) (pn 1 _ _ bT rfl)
  obtain⟨fl,e2,hfl⟩:=nS (hf 2 _ rfl)
  change (cs.drop 0).take (Tryd.prog.cellsOf 29)=_ at e0
  change (cs.drop 1).take (Tryd.prog.cellsOf 33)=_ at e1
  change cs[7]?=_ at e2
  rw [Tryd.ait]at e0
  rw [Tryd.afC]at e1
  refine⟨⟨ns,t0,t1,t2,fl⟩,nv,a0,a1,a2,?_,s0,g0,g1,g2,hfl,s9⟩
  match cs,hl with
  |[c0,c1,c2,c3,c4,c5,c6,c7],_=>
   simp at e0 e1 e2
   simp [e0,e1,e2]
theorem ahR {r:Reach} {b0:Nat} {v:Value} {d:DataW H} {p:List MemPlace} (hv:Value.okWide Tryd.prog w r b0 35 v) (h:DataW.Trod enc Tryd.prog w base sp held 35 v d p) (hw:∀m∈d.weights Tryd.prog 35,m<=reachBytes) :
  ∃b:Ba,bO w v b/\i64 b.floor/\∀s∈b.names,s.size<=140737488351232:=by
 obtain⟨cs,rfl,hsz⟩:=okWide_struct Tryd.underlying35 hv
 obtain⟨fuel,hf⟩:=h
 obtain⟨b,nv,a0,a1,a2,hr,h1,h2,h3,h4,h5⟩:=aij hf hw
 refine⟨b,⟨nv,a0,a1,a2,?_,h1,h2,h3,h4⟩,h5⟩
 cases cs
 simp only [Value.cells]at hr
 rw [hr]
end
end
end Go.Proofs.YtmljjfhgciaceaaDoor
