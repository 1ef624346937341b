/- Texts of mine that come as one: BstP KPoint KBaseP Pts. -/
import Derived.Test.YtmljjfhgciaceaaGreatDoorHd
import Derived.Test.YtmljjfhgciaceaaGreatDoorAK
import Derived.Test.YtmljjfhgciaceaaGreatDoorKT
import Derived.Test.YtmljjfhgciaceaaGreatDoorKB
import Derived.Test.YtmljjfhgciaceaaGreatDoorBK
import Derived.Test.YtmljjfhgciaceaaGreatDoorSO
import Derived.Test.YtmljjfhgciaceaaGreatDoorKG
import Derived.Maps.AppendAt
namespace Go.Proofs.YtmljjfhgciaceaaGreatDoor
section
variable {b:Ba} {L:List aA} {N:Nat}
def fB (L:List aA):Int:=(L.map fun e=>e.is.c).sum
theorem eN (e:aA) (L:List aA):fB (e::L)=e.is.c+fB L:=by simp [fB]
theorem EU (a b:List aA):fB (a++b)=fB a+fB b:=by
 induction a with
 |nil=>simp [fB]
 |cons e l ih=>rw [List.cons_append,eN,eN,ih];omega
theorem Dy (h:aW L) (k:Int):(look L k).c<=fB L:=by
 induction L with
 |nil=>simp [look,av.zero,fB]
 |cons e l ih=>
  have h1:=ih h.cons.2
  have h2:=h.cons.1.1
  rw [eN]
  unfold look
  split
  ·rw [dJ];omega
  ·omega
theorem rD (s:Int) (L:List aA):fB (L.map (bucket s))=fB L:=by
 induction L with
 |nil=>rfl
 |cons e l ih=>rw [List.map_cons,eN,eN,ih];rfl
theorem NG (x:aA) (L:List aA):fB (ins L x)=fB L+x.is.c:=by
 induction L with
 |nil=>simp [ins,fB]
 |cons e l ih=>
  show fB (if e.key<x.key then e::ins l x else if e.key=x.key then(⟨x.key,e.is.join x.is⟩:aA)::l else x::e::l)=_
  split
  ·rw [eN,eN,ih];omega
  ·split
   ·rw [eN,eN];show (e.is.join x.is).c+_=_;rw [dJ];omega
   ·rw [eN,eN];omega
theorem n9 (h:aW L) (hc:fB L<=1073741824):Small L:=fun k=>Int.le_trans (Dy h k) hc
structure Fp (b:Ba) (L:List aA) (N:Nat):Prop where
 may:aR b=true
 book:bX b=some L
 wt:∀k,k<3->nB (b.tree k)<=3+N
 fB:fB L<=N
theorem Fp.bP (h:Fp b L N):aX L/\dY L:=gw h.book
theorem Fp.trees (h:Fp b L N) {k:Nat} (hk:k<3):ax (b.tree k)=0/\ir (b.tree k).all (L.map (bucket (aS k)))/\Small (b.tree k).all:=by
 obtain⟨l,hl,-,-,ht⟩:=qc h.may
 obtain rfl:l=L:=dt (hl.symm.trans h.book)
 exact ht k hk
theorem Fp.add {s:ByteArray} {time value:Int} (h:Fp b L N) (hN:N<=2900) (hn:dG s=true) (h0:0<=time) (h1:time<=1048575) (h2 : -1000000<=value) (h3:value<=1000000) (hf:b.floor<=time) (hp:aG b.names s<0->b.names.length<16) :
  jv b s time value=0/\jN b s time value=0/\EW b s time value=ins L (cu b s time ⟨1,value,value,value,time,value⟩)/\∀b',aR b'=true->bX b'=some (EW b s time value)->(∀k,k<3->nB (b'.tree k)<=nB (b.tree k)+1)->Fp b' (ins L (cu b s time ⟨1,value,value,value,time,value⟩)) (N+1):=by
 have hr:eH time value=(⟨1,value,value,value,time,value⟩,0):=ar ⟨h0,h1,h2,h3⟩
 have hF:jv b s time value=0:=by
  unfold jv
  rw [ai (by simp [h.may]),ai (by simp [hn]),ai (by simp [hr]),ai af,ai (fun⟨a,c⟩=>by have:=hp a;omega)]
 have hS:∀k,k<3->Small (dX b s time value k::(b.tree k).all):=fun k hk=>by
  obtain⟨t1,t2,t3⟩:=h.trees hk
  have hg:(dX b s time value k).is.Good:=(cp (nP h0 h1 h2 h3) (by show (1:Int)≠0;decide)).1
  have e1:ir ([dX b s time value k]++(b.tree k).all) ([dX b s time value k]++L.map (bucket (aS k))):=(ir.refl (fun e he=>by rw [ny]at he;subst he;exact hg)).append t2
  refine e1.small.2 (n9 e1.2.1 ?_)
  rw [EU,rD]
  have hc:=h.fB
  have:Go.Proofs.YtmljjfhgciaceaaGreatDoor.fB [dX b s time value k]=1:=by simp [Go.Proofs.YtmljjfhgciaceaaGreatDoor.fB,dX]
  omega
 obtain⟨g1,g2,-⟩:=wM hF h.book hS
 refine⟨hF,g1,g2,fun b' hm hb hw=>⟨hm,by rw [<-g2];exact hb,fun k hk=>by have:=hw k hk;have:=h.wt k hk;omega,?_⟩⟩
 rw [NG]
 have hc:=h.fB
 show Go.Proofs.YtmljjfhgciaceaaGreatDoor.fB L+1<=((N+1:Nat):Int)
 push_cast;omega
end
open Go.RowKit
section
set_option maxRecDepth 100000
set_option maxHeartbeats 4000000
variable {w:World}
def iG:List ByteArray:=[⟨#[99,112,117]⟩,⟨#[109,101,109]⟩,⟨#[110,101,116,46,105,110]⟩,⟨#[57]⟩]
def Bh (n:Int):ByteArray:=iG.getD (picked n 4).toNat ByteArray.empty
theorem Du (n:Int):Bh n∈iG:=by
 have h:=cx (n:=n) (m:=4) aY
 unfold Bh
 obtain hq|hq|hq|hq:picked n 4=0\/picked n 4=1\/picked n 4=2\/picked n 4=3:=af
 all_goals rw [hq];simp [iG]
theorem Bg:∀s∈iG,dG s=true/\s.size<=10:=by
 intro s hs
 simp only [iG,eZ,List.not_mem_nil,or_false]at hs
 rcases hs with rfl|rfl|rfl|rfl <;> exact⟨aY,aY⟩
theorem JL {n:Int} (h:i64 n):Calls Tryz.prog 65 #[.int .i64 n] w fun e w'=>e = .returned (.string (Bh n))/\ah w w':=by
 have HP:=hdd fun W=>nQ n 4 W h.1 h.2 aY aY
 have hr:=cx (n:=n) (m:=4) aY
 have HNF:=hdd (show Bh n=iG.getD (picked n 4).toNat ByteArray.empty from rfl)
 obtain hq|hq|hq|hq:picked n 4=0\/picked n 4=1\/picked n 4=2\/picked n 4=3:=af
 all_goals
  rw [hq]at HP HNF
  clear hq hr
  go_enter Tryz.func65,Tryz.ntmps65
  go_wp2_with (go_at_call 27;(with_reducible refine(HP.out _).mono ?_);rintro e w1 ⟨rfl,hb1⟩;have k1:w1.heap[w.heap.size]?=some (.cells #[.string ⟨#[99,112,117]⟩, .string ⟨#[109,101,109]⟩, .string ⟨#[110,101,116,46,105,110]⟩, .string ⟨#[57]⟩] 9):=(hb1.block _ bt).trans (aq _ _ rfl);obtain⟨c0,c1,c2,c3⟩:w1.cell? ⟨w.heap.size,0,none⟩=some (.string ⟨#[99,112,117]⟩)/\w1.cell? ⟨w.heap.size,1,none⟩=some (.string ⟨#[109,101,109]⟩)/\w1.cell? ⟨w.heap.size,2,none⟩=some (.string ⟨#[110,101,116,46,105,110]⟩)/\w1.cell? ⟨w.heap.size,3,none⟩=some (.string ⟨#[57]⟩):=by simp [World.cell?,k1])
  go_ret
  exact⟨by rw [HNF.out];rfl,Below.trans' (by exact ag:ah w _) hb1 bt⟩
structure sk where
 s:ByteArray
 t:Int
 v:Int
def ko (r:Rw):sk:=⟨Bh r.k,picked r.a 12000,picked r.b 2000-1000⟩
theorem A9 (r:Rw):(ko r).s∈iG/\0<=(ko r).t/\(ko r).t<12000/\-1000<=(ko r).v/\(ko r).v<1000:=by
 have h1:=cx (n:=r.a) (m:=12000) aY
 have h2:=cx (n:=r.b) (m:=2000) aY
 refine⟨Du _,h1.1,h1.2,?_,?_⟩ <;> simp only [ko] <;> omega
theorem Jz {r:Rw} (hr:r.ok) {p:sk} (hp:ko r=p):Calls Tryz.prog 30 #[.agg #[.int .i64 r.k, .int .i64 r.a, .int .i64 r.b, .int .i64 r.c]] w fun e w'=>e = .returned (.agg #[.string p.s, .int .i64 p.t, .int .i64 p.v])/\ah w w':=by
 obtain⟨W0,hW0⟩:=bR ((w.alloc (.cells #[.int .i64 r.k, .int .i64 r.a, .int .i64 r.b, .int .i64 r.c] 85)).alloc (.cells #[.string ⟨#[]⟩, .int .i64 0, .int .i64 0] 70))
 have hb0:ah w W0:=by rw [hW0];exact ag
 have hz0:W0.heap.size=w.heap.size+2:=by rw [hW0];simp
 have k0:W0.heap[w.heap.size]?=some (.cells #[.int .i64 r.k, .int .i64 r.a, .int .i64 r.b, .int .i64 r.c] 85):=by rw [hW0,lI _ _ _ bt];exact aq _ _ rfl
 have k1:W0.heap[w.heap.size+1]?=some (.cells #[.string ⟨#[]⟩, .int .i64 0, .int .i64 0] 70):=by rw [hW0];exact aq _ _ bt
 have hG:∀W,ah W0 W->W.cell? ⟨w.heap.size,0,none⟩=some (.int .i64 r.k)/\W.cell? ⟨w.heap.size,1,none⟩=some (.int .i64 r.a)/\W.cell? ⟨w.heap.size,2,none⟩=some (.int .i64 r.b)/\W.cell? ⟨w.heap.size+1,0,none⟩=some (.string ⟨#[]⟩)/\W.cell? ⟨w.heap.size+1,1,none⟩=some (.int .i64 0)/\W.cell? ⟨w.heap.size+1,2,none⟩=some (.int .i64 0)/\∀o,W.frozen? ⟨w.heap.size+1,o,none⟩=false:=fun W hb=>by
  have b0:=(hb.block w.heap.size af).trans k0
  have b1:=(hb.block (w.heap.size+1) af).trans k1
  simp [World.cell?,World.frozen?,b0,b1]
 obtain⟨T,hT⟩:=bC (picked r.a 12000)
 obtain⟨V,hV⟩:=bC (picked r.b 2000)
 have hVr:=cx (n:=r.b) (m:=2000) aY
 rw [hV]at hVr
 have hwv:IntKind.i64.wrap (V-1000)=V-1000:=IntWalk.i64_in _ af
 obtain⟨NM,hNM⟩:=bC (Bh r.k)
 have Yc:=hdd (show (.agg #[.string NM, .int .i64 T, .int .i64 (V-1000)]:Value) = .agg #[.string p.s, .int .i64 p.t, .int .i64 p.v] by rw [<-hp,<-hT,<-hV,<-hNM];rfl)
 have hn:∀W,ah W0 W->Calls Tryz.prog 65 #[.int .i64 r.k] W fun e w'=>e = .returned (.string NM)/\ah W0 w':=fun W hb=>by
  have:=JL (w:=W) hr.1
  rw [hNM]at this
  exact this.mono fun _ _ h=>⟨h.1,Below.trans' hb h.2 hb.size⟩
 have ha:∀W,ah W0 W->Calls Tryz.prog 27 #[.int .i64 r.a, .int .i64 12000] W fun e w'=>e = .returned (.int .i64 T)/\ah W0 w':=fun W hb=>by
  have:=nQ r.a 12000 W hr.2.1.1 hr.2.1.2 aY aY
  rw [hT]at this
  exact this.mono fun _ _ h=>⟨h.1,Below.trans' hb h.2 hb.size⟩
 have hv:∀W,ah W0 W->Calls Tryz.prog 27 #[.int .i64 r.b, .int .i64 2000] W fun e w'=>e = .returned (.int .i64 V)/\ah W0 w':=fun W hb=>by
  have:=nQ r.b 2000 W hr.2.2.1.1 hr.2.2.1.2 aY aY
  rw [hV]at this
  exact this.mono fun _ _ h=>⟨h.1,Below.trans' hb h.2 hb.size⟩
 have UL:=hdd (fun W (hb:ah W0 W)=>(Below.trans' hb0 hb hb0.size:ah w W))
 have B0:ah W0 W0.drew:=(aL _ _).drew
 obtain⟨c0,c1,c2,c3,c4,c5,cf⟩:=hG _ (aL _ _)
 clear k0 k1 hb0 hr hT hV hNM hp
 go_enter Tryz.func30,Tryz.ntmps30
 go_upto_region 1 with (fail)
 rw [<-hW0]
 clear hW0
 refine bH [(0,1),(1,0),(3,1),(4,0),(6,1),(7,0),(2,2),(5,2),(8,2),(9,1),(10,1),(11,3)] 11
  (fun w'=>w'.cell? ⟨w.heap.size,0,none⟩=some (.int .i64 r.k)/\w'.cell? ⟨w.heap.size,1,none⟩=some (.int .i64 r.a)/\w'.cell? ⟨w.heap.size,2,none⟩=some (.int .i64 r.b)) cv cv ⟨c0,c1,c2⟩ ?_
 (simp only [bF,List.filterMap_cons,List.filterMap_nil,List.getElem?_cons_zero,List.getElem?_cons_succ,Option.map_some])
 (repeat first|refine aV ?_|refine aU ?_)
 refine aM rfl (fun K hK=>?_)
 go_simp
 (with_reducible refine(hn _ B0).mono ?_);rintro e w1 ⟨rfl,B1⟩
 go_simp
 refine hK _ _ (by have h:=hG _ B1;exact⟨h.1,h.2.1,h.2.2.1⟩) ?_
 clear hK K
 (repeat first|refine aV ?_|refine aU ?_)
 refine aM rfl (fun K hK=>?_)
 go_simp
 (with_reducible refine(ha _ B1).mono ?_);rintro e w2 ⟨rfl,B2⟩
 go_simp
 refine hK _ _ (by have h:=hG _ B2;exact⟨h.1,h.2.1,h.2.2.1⟩) ?_
 clear hK K
 (repeat first|refine aV ?_|refine aU ?_)
 refine aM rfl (fun K hK=>?_)
 go_simp
 (with_reducible refine(hv _ B2).mono ?_);rintro e w3 ⟨rfl,B3⟩
 go_simp
 refine hK _ _ (by have h:=hG _ B3;exact⟨h.1,h.2.1,h.2.2.1⟩) ?_
 clear hK K
 (repeat first|refine aV ?_|refine aU ?_)
 obtain⟨-,-,-,y3,y4,y5,yf⟩:=hG _ B3
 clear c0 c1 c2 c3 c4 c5 cf
 refine bn rfl (fun K hK=>?_)
 go_simp
 refine hK _ _ ?_
 clear hK K
 refine cj ?_
 have hfin:=UL.out _ B3
 go_wp2_with fail
 exact bodyPost_ret (v:= .agg #[.string NM, .int .i64 T, .int .i64 (V-1000)]) (by simp [results,Tryz.results30,go_sem, *]) rfl ⟨congrArg Ending.returned Yc.out,ag⟩
end
end Go.Proofs.YtmljjfhgciaceaaGreatDoor
namespace Go.Proofs.YtmljjfhgciaceaaGreatDoor
section
variable {b:Ba} {s x:ByteArray} {xs ns:List ByteArray} {p:sk}
theorem eU:0<=aG xs s↔s∈xs:=by
 rcases eY xs s with ⟨k,hk,e,h1,-⟩|⟨e,h1⟩
 ·rw [e];exact⟨fun _=>h1▸gj hk,fun _=>af⟩
 ·rw [e]
  refine⟨fun h=>af,fun h=>?_⟩
  obtain⟨j,hj,e2⟩:=kS h
  exact absurd e2 (h1 j hj)
theorem FV (h:s∈xs):aG (xs++[x]) s=aG xs s:=by
 rcases eY xs s with ⟨k,hk,e,h1,h2⟩|⟨e,h1⟩
 ·rw [e]
  refine ur (by rw [eO];omega) (by rw [List.getElem_append_left hk];exact h1) fun j hj hjn=>?_
  rw [List.getElem_append_left af];exact h2 j hj af
 ·obtain⟨j,hj,e2⟩:=kS h
  exact absurd e2 (h1 j hj)
theorem JB (h:s∉xs):aG (xs++[s]) s=xs.length:=by
 refine ur bt bt fun j hj hjn=>?_
 rw [List.getElem_append_left hj]
 exact fun e=>h (e▸gj hj)
def dA (ns:List ByteArray) (s:ByteArray):List ByteArray:=if aG ns s<0 then ns++[s]else ns
theorem nL (h:s∈ns):dA ns s=ns:=by
 unfold dA;rw [ai (by have:=eU.2 h;omega)]
theorem mF (h:s∉ns):dA ns s=ns++[s]:=by
 unfold dA;rw [ar (by have:¬0<=aG ns s:=fun h'=>h (eU.1 h');omega)]
theorem xC (b:Ba) (s:ByteArray):bA b s=dA b.names s:=rfl
theorem I6 (b:Ba) (s:ByteArray):j6 b s=aG (dA b.names s) s:=by
 unfold j6
 by_cases h:s∈b.names
 ·rw [ai (by have:=eU.2 h;omega),nL h]
 ·rw [ar (by have:¬0<=aG b.names s:=fun h'=>h (eU.1 h');omega),mF h,JB h]
def l8 (ns:List ByteArray) (p:sk):aA:=⟨aG ns p.s*1048576+p.t,⟨1,p.v,p.v,p.v,p.t,p.v⟩⟩
theorem Bt (h:p.s∈ns):l8 (dA ns x) p=l8 ns p:=by
 unfold l8
 by_cases hx:x∈ns
 ·rw [nL hx]
 ·rw [mF hx,FV h]
theorem fV:x∈dA ns s↔x∈ns\/x=s:=by
 by_cases h:s∈ns
 ·rw [nL h]
  exact⟨.inl,fun h'=>h'.elim id (fun e=>e▸h)⟩
 ·rw [mF h];simp
theorem qK (h:ns.Nodup):(dA ns s).Nodup:=by
 by_cases hs:s∈ns
 ·rw [nL hs];exact h
 ·rw [mF hs]
  exact List.nodup_append.2 ⟨h,bt,fun a ha b hb=>by simp at hb;subst hb;exact fun e=>hs (e▸ha)⟩
structure KB (lN:List sk) (b:Ba):Prop where
 floor:b.floor=0
 names:b.names=(lN.map sk.s).foldl dA []
 st:Fp b (mo (lN.map (l8 b.names))) lN.length
 ok:∀p∈lN,p.s∈b.names
theorem G0:∀{ns:List ByteArray},(∀x∈ns,x∈iG)->ns.Nodup->(∀x∈xs,x∈iG)->(∀x∈xs.foldl dA ns,x∈iG)/\(xs.foldl dA ns).Nodup:=by
 induction xs with
 |nil=>intro ns h1 h2 _;exact⟨h1,h2⟩
 |cons y xs ih=>
  intro ns h1 h2 h3
  refine ih (fun x hx=>?_) (qK h2) fun x hx=>h3 x (by simp [hx])
  rcases fV.1 hx with hx|rfl
  ·exact h1 x hx
  ·exact h3 _ bt
theorem KB.few {lN:List sk} (h:KB lN b) (hp:∀p∈lN,p.s∈iG):b.names.length<=4/\∀s∈b.names,s∈iG:=by
 obtain⟨h1,h2⟩:=G0 (xs:=lN.map sk.s) (ns:=[]) bt bt fun x hx=>by
  obtain⟨p,hp',rfl⟩:=pn.1 hx
  exact hp p hp'
 rw [<-h.names]at h1 h2
 exact⟨ja (m:=iG) h2 h1,h1⟩
theorem EP {E:List aA} {e:aA}:mo (E++[e])=ins (mo E) e:=by unfold mo;rw [List.foldl_append];rfl
theorem KB.add {lN:List sk} {b':Ba} (h:KB lN b) (hn:b'.names=bA b p.s) (hf:b'.floor=b.floor) (hs:Fp b' (ins (mo (lN.map (l8 b.names))) (cu b p.s p.t ⟨1,p.v,p.v,p.v,p.t,p.v⟩)) (lN.length+1)):KB (lN++[p]) b':=by
 rw [xC]at hn
 have hm:(lN++[p]).map (l8 b'.names)=lN.map (l8 b.names)++[cu b p.s p.t ⟨1,p.v,p.v,p.v,p.t,p.v⟩]:=by
  rw [wJ,hn]
  congr 1
  ·exact List.map_congr_left fun q hq=>Bt (h.ok q hq)
  ·simp only [List.map_cons,List.map_nil]
   unfold l8 cu
   rw [I6]
 refine⟨hf.trans h.floor,?_,?_,fun q hq=>?_⟩
 ·rw [hn,wJ,List.foldl_append,<-h.names];rfl
 ·rw [hm,EP,eO];exact hs
 ·rw [hn]
  rcases kH.1 hq with hq|hq
  ·exact fV.2 (.inl (h.ok q hq))
  ·simp at hq;subst hq;exact fV.2 (.inr rfl)
end
open Go.RowKit
section
variable {es:List sk} {B C:Nat} {w w':World}
def Ue (p:sk):List Value:=[.string p.s, .int .i64 p.t, .int .i64 p.v]
theorem EB (p:sk):(Ue p).length=3:=rfl
abbrev XX (w:World) (v:Value) (xs:List sk):Prop:=dN 3 32 Ue w v xs
structure iF (B:Nat) (w:World) (v:Value) (ps:List sk):Prop where
 row:w.ownsRow B 70 3 v ps.length (ps.flatMap Ue)
theorem iF.nil (B:Nat) (w:World):iF B w (.slice none 0 0) []:=⟨World.ownsRow_nil _ _ _ _⟩
theorem iF.block {v:Value} (h:iF B w v es) (hb:∀g,v.ownBlock=some g->w'.heap[g]?=w.heap[g]?):iF B w' v es:=by
 obtain⟨hl,⟨rfl,h0⟩|⟨g,cap,cur,rfl,hB,hg,h1,h2,h3,h4⟩⟩:=h.row
 ·exact⟨⟨hl, .inl ⟨rfl,h0⟩⟩⟩
 ·exact⟨⟨hl, .inr ⟨g,cap,cur,rfl,hB,(hb g rfl).trans hg,h1,h2,h3,h4⟩⟩⟩
theorem iF.lt {v:Value} (h:iF B w v es):∀g,v.ownBlock=some g->B<=g/\g<w.heap.size:=World.ownsRow.lt h.row
theorem iF.below {v:Value} (h:iF B w v es) (hb:Below C w w') (hC:w.heap.size<=C):iF B w' v es:=h.block fun g hg=>hb.block g (by have:=(h.lt g hg).2;omega)
theorem iF.at {v:Value} (h:iF B w v es) (hs:es.length<=1000000):XX w v es:=dN.owned EB h.row rfl af
theorem iF.isSlice {v:Value} (h:iF B w v es):∃ao cap,v = .slice ao es.length cap:=by
 obtain⟨hl,⟨rfl,h0⟩|⟨g,cap,cur,rfl,_⟩⟩:=h.row
 ·exact⟨none,0,by rw [h0]⟩
 ·exact⟨_,_,rfl⟩
theorem iF.mono {v:Value} (h:iF B w v es) (hC:C<=B):iF C w v es:=by
 obtain⟨hl,⟨rfl,h0⟩|⟨g,cap,cur,rfl,hB,hg,h1,h2,h3,h4⟩⟩:=h.row
 ·exact⟨⟨hl, .inl ⟨rfl,h0⟩⟩⟩
 ·exact⟨⟨hl, .inr ⟨g,cap,cur,rfl,af,hg,h1,h2,h3,h4⟩⟩⟩
end
end Go.Proofs.YtmljjfhgciaceaaGreatDoor
