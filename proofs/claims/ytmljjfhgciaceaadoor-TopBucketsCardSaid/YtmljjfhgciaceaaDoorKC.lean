/- Texts of mine that come as one: BstP KPoint KBaseP Pts. -/
import Derived.Test.YtmljjfhgciaceaaDoorHd
import Derived.Test.YtmljjfhgciaceaaDoorAK
import Derived.Test.YtmljjfhgciaceaaDoorKT
import Derived.Test.YtmljjfhgciaceaaDoorKB
import Derived.Test.YtmljjfhgciaceaaDoorBK
import Derived.Test.YtmljjfhgciaceaaDoorSO
import Derived.Test.YtmljjfhgciaceaaDoorKG
import Derived.Maps.AppendAt
namespace Go.Proofs.YtmljjfhgciaceaaDoor
section
variable {b:Ba} {L:List aA} {N:Nat}
def fA (L:List aA):Int:=(L.map fun e=>e.is.c).sum
theorem eO (e:aA) (L:List aA):fA (e::L)=e.is.c+fA L:=by simp [fA]
theorem ES (a b:List aA):fA (a++b)=fA a+fA b:=by
 induction a with
 |nil=>simp [fA]
 |cons e l ih=>rw [List.cons_append,eO,eO,ih];omega
theorem Dv (h:aT L) (k:Int):(look L k).c<=fA L:=by
 induction L with
 |nil=>simp [look,au.zero,fA]
 |cons e l ih=>
  have h1:=ih h.cons.2
  have h2:=h.cons.1.1
  rw [eO]
  unfold look
  split
  ·rw [dC];omega
  ·omega
theorem ry (s:Int) (L:List aA):fA (L.map (bucket s))=fA L:=by
 induction L with
 |nil=>rfl
 |cons e l ih=>rw [List.map_cons,eO,eO,ih];rfl
theorem ND (x:aA) (L:List aA):fA (ins L x)=fA L+x.is.c:=by
 induction L with
 |nil=>simp [ins,fA]
 |cons e l ih=>
  show fA (if e.key<x.key then e::ins l x else if e.key=x.key then(⟨x.key,e.is.join x.is⟩:aA)::l else x::e::l)=_
  split
  ·rw [eO,eO,ih];omega
  ·split
   ·rw [eO,eO];show (e.is.join x.is).c+_=_;rw [dC];omega
   ·rw [eO,eO];omega
theorem oq (h:aT L) (hc:fA L<=1073741824):Small L:=fun k=>Int.le_trans (Dv h k) hc
structure Fk (b:Ba) (L:List aA) (N:Nat):Prop where
 may:aQ b=true
 book:bW b=some L
 wt:∀k,k<3->nE (b.tree k)<=3+N
 fA:fA L<=N
theorem Fk.bJ (h:Fk b L N):aV L/\dY L:=gq h.book
theorem Fk.trees (h:Fk b L N) {k:Nat} (hk:k<3):ax (b.tree k)=0/\gI (b.tree k).all (L.map (bucket (aR k)))/\Small (b.tree k).all:=by
 obtain⟨l,hl,-,-,ht⟩:=qa h.may
 obtain rfl:l=L:=dw (hl.symm.trans h.book)
 exact ht k hk
theorem Fk.add {s:ByteArray} {time value:Int} (h:Fk b L N) (hN:N<=2900) (hn:dG s=true) (h0:0<=time) (h1:time<=1048575) (h2 : -1000000<=value) (h3:value<=1000000) (hf:b.floor<=time) (hp:aG b.names s<0->b.names.length<16) :
  jt b s time value=0/\jL b s time value=0/\ET b s time value=ins L (cu b s time ⟨1,value,value,value,time,value⟩)/\∀b',aQ b'=true->bW b'=some (ET b s time value)->(∀k,k<3->nE (b'.tree k)<=nE (b.tree k)+1)->Fk b' (ins L (cu b s time ⟨1,value,value,value,time,value⟩)) (N+1):=by
 have hr:eJ time value=(⟨1,value,value,value,time,value⟩,0):=ar ⟨h0,h1,h2,h3⟩
 have hF:jt b s time value=0:=by
  unfold jt
  rw [ai (by simp [h.may]),ai (by simp [hn]),ai (by simp [hr]),ai af,ai (fun⟨a,c⟩=>by have:=hp a;omega)]
 have hS:∀k,k<3->Small (dX b s time value k::(b.tree k).all):=fun k hk=>by
  obtain⟨t1,t2,t3⟩:=h.trees hk
  have hg:(dX b s time value k).is.Good:=(cj (nU h0 h1 h2 h3) (by show (1:Int)≠0;decide)).1
  have e1:gI ([dX b s time value k]++(b.tree k).all) ([dX b s time value k]++L.map (bucket (aR k))):=(gI.refl (fun e he=>by rw [nB]at he;subst he;exact hg)).append t2
  refine e1.small.2 (oq e1.2.1 ?_)
  rw [ES,ry]
  have hc:=h.fA
  have:Go.Proofs.YtmljjfhgciaceaaDoor.fA [dX b s time value k]=1:=by simp [Go.Proofs.YtmljjfhgciaceaaDoor.fA,dX]
  omega
 obtain⟨g1,g2,-⟩:=wI hF h.book hS
 refine⟨hF,g1,g2,fun b' hm hb hw=>⟨hm,by rw [<-g2];exact hb,fun k hk=>by have:=hw k hk;have:=h.wt k hk;omega,?_⟩⟩
 rw [ND]
 have hc:=h.fA
 show Go.Proofs.YtmljjfhgciaceaaDoor.fA L+1<=((N+1:Nat):Int)
 push_cast;omega
end
open Go.RowKit
section
set_option maxRecDepth 100000
set_option maxHeartbeats 4000000
variable {w:World}
def iH:List ByteArray:=[⟨#[99,112,117]⟩,⟨#[109,101,109]⟩,⟨#[110,101,116,46,105,110]⟩,⟨#[57]⟩]
def A8 (n:Int):ByteArray:=iH.getD (picked n 4).toNat ByteArray.empty
theorem Dr (n:Int):A8 n∈iH:=by
 have h:=cX (n:=n) (m:=4) aW
 unfold A8
 obtain hq|hq|hq|hq:picked n 4=0\/picked n 4=1\/picked n 4=2\/picked n 4=3:=af
 all_goals rw [hq];simp [iH]
theorem A7:∀s∈iH,dG s=true/\s.size<=10:=by
 intro s hs
 simp only [iH,fc,List.not_mem_nil,or_false]at hs
 rcases hs with rfl|rfl|rfl|rfl <;> exact⟨aW,aW⟩
theorem JJ {n:Int} (h:i64 n):Calls Tryd.prog 63 #[.int .i64 n] w fun e w'=>e = .returned (.string (A8 n))/\ah w w':=by
 have HP:=hdd fun W=>nV n 4 W h.1 h.2 aW aW
 have hr:=cX (n:=n) (m:=4) aW
 have HNF:=hdd (show A8 n=iH.getD (picked n 4).toNat ByteArray.empty from rfl)
 obtain hq|hq|hq|hq:picked n 4=0\/picked n 4=1\/picked n 4=2\/picked n 4=3:=af
 all_goals
  rw [hq]at HP HNF
  clear hq hr
  go_enter Tryd.func63,Tryd.ntmps63
  go_wp2_with (go_at_call 29;(with_reducible refine(HP.out _).mono ?_);rintro e w1 ⟨rfl,hb1⟩;have k1:w1.heap[w.heap.size]?=some (.cells #[.string ⟨#[99,112,117]⟩, .string ⟨#[109,101,109]⟩, .string ⟨#[110,101,116,46,105,110]⟩, .string ⟨#[57]⟩] 9):=(hb1.block _ bq).trans (aq _ _ rfl);obtain⟨c0,c1,c2,c3⟩:w1.cell? ⟨w.heap.size,0,none⟩=some (.string ⟨#[99,112,117]⟩)/\w1.cell? ⟨w.heap.size,1,none⟩=some (.string ⟨#[109,101,109]⟩)/\w1.cell? ⟨w.heap.size,2,none⟩=some (.string ⟨#[110,101,116,46,105,110]⟩)/\w1.cell? ⟨w.heap.size,3,none⟩=some (.string ⟨#[57]⟩):=by simp [World.cell?,k1])
  go_ret
  exact⟨by rw [HNF.out];rfl,Below.trans' (by exact ag:ah w _) hb1 bq⟩
structure r9 where
 s:ByteArray
 t:Int
 v:Int
def km (r:Rw):r9:=⟨A8 r.k,picked r.a 12000,picked r.b 2000-1000⟩
theorem AX (r:Rw):(km r).s∈iH/\0<=(km r).t/\(km r).t<12000/\-1000<=(km r).v/\(km r).v<1000:=by
 have h1:=cX (n:=r.a) (m:=12000) aW
 have h2:=cX (n:=r.b) (m:=2000) aW
 refine⟨Dr _,h1.1,h1.2,?_,?_⟩ <;> simp only [km] <;> omega
theorem Jx {r:Rw} (hr:r.ok) {p:r9} (hp:km r=p):Calls Tryd.prog 33 #[.agg #[.int .i64 r.k, .int .i64 r.a, .int .i64 r.b, .int .i64 r.c]] w fun e w'=>e = .returned (.agg #[.string p.s, .int .i64 p.t, .int .i64 p.v])/\ah w w':=by
 obtain⟨W0,hW0⟩:=bQ ((w.alloc (.cells #[.int .i64 r.k, .int .i64 r.a, .int .i64 r.b, .int .i64 r.c] 75)).alloc (.cells #[.string ⟨#[]⟩, .int .i64 0, .int .i64 0] 59))
 have hb0:ah w W0:=by rw [hW0];exact ag
 have hz0:W0.heap.size=w.heap.size+2:=by rw [hW0];simp
 have k0:W0.heap[w.heap.size]?=some (.cells #[.int .i64 r.k, .int .i64 r.a, .int .i64 r.b, .int .i64 r.c] 75):=by rw [hW0,lJ _ _ _ bq];exact aq _ _ rfl
 have k1:W0.heap[w.heap.size+1]?=some (.cells #[.string ⟨#[]⟩, .int .i64 0, .int .i64 0] 59):=by rw [hW0];exact aq _ _ bq
 have hG:∀W,ah W0 W->W.cell? ⟨w.heap.size,0,none⟩=some (.int .i64 r.k)/\W.cell? ⟨w.heap.size,1,none⟩=some (.int .i64 r.a)/\W.cell? ⟨w.heap.size,2,none⟩=some (.int .i64 r.b)/\W.cell? ⟨w.heap.size+1,0,none⟩=some (.string ⟨#[]⟩)/\W.cell? ⟨w.heap.size+1,1,none⟩=some (.int .i64 0)/\W.cell? ⟨w.heap.size+1,2,none⟩=some (.int .i64 0)/\∀o,W.frozen? ⟨w.heap.size+1,o,none⟩=false:=fun W hb=>by
  have b0:=(hb.block w.heap.size af).trans k0
  have b1:=(hb.block (w.heap.size+1) af).trans k1
  simp [World.cell?,World.frozen?,b0,b1]
 obtain⟨T,hT⟩:=bw (picked r.a 12000)
 obtain⟨V,hV⟩:=bw (picked r.b 2000)
 have hVr:=cX (n:=r.b) (m:=2000) aW
 rw [hV]at hVr
 have hwv:IntKind.i64.wrap (V-1000)=V-1000:=IntWalk.i64_in _ af
 obtain⟨NM,hNM⟩:=bw (A8 r.k)
 have X8:=hdd (show (.agg #[.string NM, .int .i64 T, .int .i64 (V-1000)]:Value) = .agg #[.string p.s, .int .i64 p.t, .int .i64 p.v] by rw [<-hp,<-hT,<-hV,<-hNM];rfl)
 have hn:∀W,ah W0 W->Calls Tryd.prog 63 #[.int .i64 r.k] W fun e w'=>e = .returned (.string NM)/\ah W0 w':=fun W hb=>by
  have:=JJ (w:=W) hr.1
  rw [hNM]at this
  exact this.mono fun _ _ h=>⟨h.1,Below.trans' hb h.2 hb.size⟩
 have ha:∀W,ah W0 W->Calls Tryd.prog 29 #[.int .i64 r.a, .int .i64 12000] W fun e w'=>e = .returned (.int .i64 T)/\ah W0 w':=fun W hb=>by
  have:=nV r.a 12000 W hr.2.1.1 hr.2.1.2 aW aW
  rw [hT]at this
  exact this.mono fun _ _ h=>⟨h.1,Below.trans' hb h.2 hb.size⟩
 have hv:∀W,ah W0 W->Calls Tryd.prog 29 #[.int .i64 r.b, .int .i64 2000] W fun e w'=>e = .returned (.int .i64 V)/\ah W0 w':=fun W hb=>by
  have:=nV r.b 2000 W hr.2.2.1.1 hr.2.2.1.2 aW aW
  rw [hV]at this
  exact this.mono fun _ _ h=>⟨h.1,Below.trans' hb h.2 hb.size⟩
 have UA:=hdd (fun W (hb:ah W0 W)=>(Below.trans' hb0 hb hb0.size:ah w W))
 have B0:ah W0 W0.drew:=(aJ _ _).drew
 obtain⟨c0,c1,c2,c3,c4,c5,cf⟩:=hG _ (aJ _ _)
 clear k0 k1 hb0 hr hT hV hNM hp
 go_enter Tryd.func33,Tryd.ntmps33
 go_upto_region 1 with (fail)
 rw [<-hW0]
 clear hW0
 refine bI [(0,1),(1,0),(3,1),(4,0),(6,1),(7,0),(2,2),(5,2),(8,2),(9,1),(10,1),(11,3)] 11
  (fun w'=>w'.cell? ⟨w.heap.size,0,none⟩=some (.int .i64 r.k)/\w'.cell? ⟨w.heap.size,1,none⟩=some (.int .i64 r.a)/\w'.cell? ⟨w.heap.size,2,none⟩=some (.int .i64 r.b)) cy cy ⟨c0,c1,c2⟩ ?_
 (simp only [bF,List.filterMap_cons,List.filterMap_nil,List.getElem?_cons_zero,List.getElem?_cons_succ,Option.map_some])
 (repeat first|refine bg ?_|refine aZ ?_)
 refine aS rfl (fun K hK=>?_)
 go_simp
 (with_reducible refine(hn _ B0).mono ?_);rintro e w1 ⟨rfl,B1⟩
 go_simp
 refine hK _ _ (by have h:=hG _ B1;exact⟨h.1,h.2.1,h.2.2.1⟩) ?_
 clear hK K
 (repeat first|refine bg ?_|refine aZ ?_)
 refine aS rfl (fun K hK=>?_)
 go_simp
 (with_reducible refine(ha _ B1).mono ?_);rintro e w2 ⟨rfl,B2⟩
 go_simp
 refine hK _ _ (by have h:=hG _ B2;exact⟨h.1,h.2.1,h.2.2.1⟩) ?_
 clear hK K
 (repeat first|refine bg ?_|refine aZ ?_)
 refine aS rfl (fun K hK=>?_)
 go_simp
 (with_reducible refine(hv _ B2).mono ?_);rintro e w3 ⟨rfl,B3⟩
 go_simp
 refine hK _ _ (by have h:=hG _ B3;exact⟨h.1,h.2.1,h.2.2.1⟩) ?_
 clear hK K
 (repeat first|refine bg ?_|refine aZ ?_)
 obtain⟨-,-,-,y3,y4,y5,yf⟩:=hG _ B3
 clear c0 c1 c2 c3 c4 c5 cf
 refine bp rfl (fun K hK=>?_)
 go_simp
 refine hK _ _ ?_
 clear hK K
 refine cv ?_
 have hfin:=UA.out _ B3
 go_wp2_with fail
 exact bodyPost_ret (v:= .agg #[.string NM, .int .i64 T, .int .i64 (V-1000)]) (by simp [results,Tryd.results33,go_sem, *]) rfl ⟨congrArg Ending.returned X8.out,ag⟩
end
end Go.Proofs.YtmljjfhgciaceaaDoor
namespace Go.Proofs.YtmljjfhgciaceaaDoor
section
variable {b:Ba} {s x:ByteArray} {xs ns:List ByteArray} {p:r9}
theorem eU:0<=aG xs s↔s∈xs:=by
 rcases eX xs s with ⟨k,hk,e,h1,-⟩|⟨e,h1⟩
 ·rw [e];exact⟨fun _=>h1▸fO hk,fun _=>af⟩
 ·rw [e]
  refine⟨fun h=>af,fun h=>?_⟩
  obtain⟨j,hj,e2⟩:=kW h
  exact absurd e2 (h1 j hj)
theorem FR (h:s∈xs):aG (xs++[x]) s=aG xs s:=by
 rcases eX xs s with ⟨k,hk,e,h1,h2⟩|⟨e,h1⟩
 ·rw [e]
  refine uo (by rw [eP];omega) (by rw [List.getElem_append_left hk];exact h1) fun j hj hjn=>?_
  rw [List.getElem_append_left af];exact h2 j hj af
 ·obtain⟨j,hj,e2⟩:=kW h
  exact absurd e2 (h1 j hj)
theorem Jz (h:s∉xs):aG (xs++[s]) s=xs.length:=by
 refine uo bq bq fun j hj hjn=>?_
 rw [List.getElem_append_left hj]
 exact fun e=>h (e▸fO hj)
def dB (ns:List ByteArray) (s:ByteArray):List ByteArray:=if aG ns s<0 then ns++[s]else ns
theorem nP (h:s∈ns):dB ns s=ns:=by
 unfold dB;rw [ai (by have:=eU.2 h;omega)]
theorem mJ (h:s∉ns):dB ns s=ns++[s]:=by
 unfold dB;rw [ar (by have:¬0<=aG ns s:=fun h'=>h (eU.1 h');omega)]
theorem xC (b:Ba) (s:ByteArray):bA b s=dB b.names s:=rfl
theorem I4 (b:Ba) (s:ByteArray):jZ b s=aG (dB b.names s) s:=by
 unfold jZ
 by_cases h:s∈b.names
 ·rw [ai (by have:=eU.2 h;omega),nP h]
 ·rw [ar (by have:¬0<=aG b.names s:=fun h'=>h (eU.1 h');omega),mJ h,Jz h]
def mh (ns:List ByteArray) (p:r9):aA:=⟨aG ns p.s*1048576+p.t,⟨1,p.v,p.v,p.v,p.t,p.v⟩⟩
theorem Bl (h:p.s∈ns):mh (dB ns x) p=mh ns p:=by
 unfold mh
 by_cases hx:x∈ns
 ·rw [nP hx]
 ·rw [mJ hx,FR h]
theorem fV:x∈dB ns s↔x∈ns\/x=s:=by
 by_cases h:s∈ns
 ·rw [nP h]
  exact⟨.inl,fun h'=>h'.elim id (fun e=>e▸h)⟩
 ·rw [mJ h];simp
theorem qG (h:ns.Nodup):(dB ns s).Nodup:=by
 by_cases hs:s∈ns
 ·rw [nP hs];exact h
 ·rw [mJ hs]
  exact List.nodup_append.2 ⟨h,bq,fun a ha b hb=>by simp at hb;subst hb;exact fun e=>hs (e▸ha)⟩
structure KB (lO:List r9) (b:Ba):Prop where
 floor:b.floor=0
 names:b.names=(lO.map r9.s).foldl dB []
 st:Fk b (jJ (lO.map (mh b.names))) lO.length
 ok:∀p∈lO,p.s∈b.names
theorem GX:∀{ns:List ByteArray},(∀x∈ns,x∈iH)->ns.Nodup->(∀x∈xs,x∈iH)->(∀x∈xs.foldl dB ns,x∈iH)/\(xs.foldl dB ns).Nodup:=by
 induction xs with
 |nil=>intro ns h1 h2 _;exact⟨h1,h2⟩
 |cons y xs ih=>
  intro ns h1 h2 h3
  refine ih (fun x hx=>?_) (qG h2) fun x hx=>h3 x (by simp [hx])
  rcases fV.1 hx with hx|rfl
  ·exact h1 x hx
  ·exact h3 _ bq
theorem KB.few {lO:List r9} (h:KB lO b) (hp:∀p∈lO,p.s∈iH):b.names.length<=4/\∀s∈b.names,s∈iH:=by
 obtain⟨h1,h2⟩:=GX (xs:=lO.map r9.s) (ns:=[]) bq bq fun x hx=>by
  obtain⟨p,hp',rfl⟩:=lI.1 hx
  exact hp p hp'
 rw [<-h.names]at h1 h2
 exact⟨iZ (m:=iH) h2 h1,h1⟩
theorem EM {E:List aA} {e:aA}:jJ (E++[e])=ins (jJ E) e:=by unfold jJ;rw [List.foldl_append];rfl
theorem KB.add {lO:List r9} {b':Ba} (h:KB lO b) (hn:b'.names=bA b p.s) (hf:b'.floor=b.floor) (hs:Fk b' (ins (jJ (lO.map (mh b.names))) (cu b p.s p.t ⟨1,p.v,p.v,p.v,p.t,p.v⟩)) (lO.length+1)):KB (lO++[p]) b':=by
 rw [xC]at hn
 have hm:(lO++[p]).map (mh b'.names)=lO.map (mh b.names)++[cu b p.s p.t ⟨1,p.v,p.v,p.v,p.t,p.v⟩]:=by
  rw [tL,hn]
  congr 1
  ·exact List.map_congr_left fun q hq=>Bl (h.ok q hq)
  ·simp only [List.map_cons,List.map_nil]
   unfold mh cu
   rw [I4]
 refine⟨hf.trans h.floor,?_,?_,fun q hq=>?_⟩
 ·rw [hn,tL,List.foldl_append,<-h.names];rfl
 ·rw [hm,EM,eP];exact hs
 ·rw [hn]
  rcases kI.1 hq with hq|hq
  ·exact fV.2 (.inl (h.ok q hq))
  ·simp at hq;subst hq;exact fV.2 (.inr rfl)
end
open Go.RowKit
section
variable {es:List r9} {B C:Nat} {w w':World}
def TT (p:r9):List Value:=[.string p.s, .int .i64 p.t, .int .i64 p.v]
theorem Ey (p:r9):(TT p).length=3:=rfl
abbrev XT (w:World) (v:Value) (xs:List r9):Prop:=dN 3 32 TT w v xs
structure iG (B:Nat) (w:World) (v:Value) (ps:List r9):Prop where
 row:w.ownsRow B 59 3 v ps.length (ps.flatMap TT)
theorem iG.nil (B:Nat) (w:World):iG B w (.slice none 0 0) []:=⟨World.ownsRow_nil _ _ _ _⟩
theorem iG.block {v:Value} (h:iG B w v es) (hb:∀g,v.ownBlock=some g->w'.heap[g]?=w.heap[g]?):iG B w' v es:=by
 obtain⟨hl,⟨rfl,h0⟩|⟨g,cap,cur,rfl,hB,hg,h1,h2,h3,h4⟩⟩:=h.row
 ·exact⟨⟨hl, .inl ⟨rfl,h0⟩⟩⟩
 ·exact⟨⟨hl, .inr ⟨g,cap,cur,rfl,hB,(hb g rfl).trans hg,h1,h2,h3,h4⟩⟩⟩
theorem iG.lt {v:Value} (h:iG B w v es):∀g,v.ownBlock=some g->B<=g/\g<w.heap.size:=World.ownsRow.lt h.row
theorem iG.below {v:Value} (h:iG B w v es) (hb:Below C w w') (hC:w.heap.size<=C):iG B w' v es:=h.block fun g hg=>hb.block g (by have:=(h.lt g hg).2;omega)
theorem iG.at {v:Value} (h:iG B w v es) (hs:es.length<=1000000):XT w v es:=dN.owned Ey h.row rfl af
theorem iG.isSlice {v:Value} (h:iG B w v es):∃ao cap,v = .slice ao es.length cap:=by
 obtain⟨hl,⟨rfl,h0⟩|⟨g,cap,cur,rfl,_⟩⟩:=h.row
 ·exact⟨none,0,by rw [h0]⟩
 ·exact⟨_,_,rfl⟩
theorem iG.mono {v:Value} (h:iG B w v es) (hC:C<=B):iG C w v es:=by
 obtain⟨hl,⟨rfl,h0⟩|⟨g,cap,cur,rfl,hB,hg,h1,h2,h3,h4⟩⟩:=h.row
 ·exact⟨⟨hl, .inl ⟨rfl,h0⟩⟩⟩
 ·exact⟨⟨hl, .inr ⟨g,cap,cur,rfl,af,hg,h1,h2,h3,h4⟩⟩⟩
end
end Go.Proofs.YtmljjfhgciaceaaDoor
