/- Texts of mine that come as one: BstP KPoint KBaseP Pts. -/
import Derived.Test.YtmljjfhgciaceaaDoorHd
import Derived.Test.YtmljjfhgciaceaaDoorAK
import Derived.Test.YtmljjfhgciaceaaDoorKT
import Derived.Test.YtmljjfhgciaceaaDoorKB
import Derived.Test.YtmljjfhgciaceaaDoorBK
import Derived.Test.YtmljjfhgciaceaaDoorSO
import Derived.Test.YtmljjfhgciaceaaDoorKG
import Derived.Maps.AppendAt
namespace Go.Proofs.YtmljjfhgciaceaaDoor
section
variable {b:Ba} {L:List aC} {N:Nat}
def fH (L:List aC):Int:=(L.map fun e=>e.is.c).sum
theorem eH (e:aC) (L:List aC):fH (e::L)=e.is.c+fH L:=by simp [fH]
theorem Fe (a b:List aC):fH (a++b)=fH a+fH b:=by
 induction a with
 |nil=>simp [fH]
 |cons e l ih=>rw [List.cons_append,eH,eH,ih];omega
theorem DU (h:bh L) (k:Int):(look L k).c<=fH L:=by
 induction L with
 |nil=>simp [look,aw.zero,fH]
 |cons e l ih=>
  have h1:=ih h.cons.2
  have h2:=h.cons.1.1
  rw [eH]
  unfold look
  split
  ·rw [dF];omega
  ·omega
theorem rD (s:Int) (L:List aC):fH (L.map (bucket s))=fH L:=by
 induction L with
 |nil=>rfl
 |cons e l ih=>rw [List.map_cons,eH,eH,ih];rfl
theorem NG (x:aC) (L:List aC):fH (ins L x)=fH L+x.is.c:=by
 induction L with
 |nil=>simp [ins,fH]
 |cons e l ih=>
  show fH (if e.key<x.key then e::ins l x else if e.key=x.key then(⟨x.key,e.is.join x.is⟩:aC)::l else x::e::l)=_
  split
  ·rw [eH,eH,ih];omega
  ·split
   ·rw [eH,eH];show (e.is.join x.is).c+_=_;rw [dF];omega
   ·rw [eH,eH];omega
theorem oh (h:bh L) (hc:fH L<=1073741824):Small L:=fun k=>Int.le_trans (DU h k) hc
structure FK (b:Ba) (L:List aC) (N:Nat):Prop where
 may:aO b=true
 book:bY b=some L
 wt:∀k,k<3->nC (b.tree k)<=3+N
 fH:fH L<=N
theorem FK.bQ (h:FK b L N):aT L/\dX L:=gw h.book
theorem FK.trees (h:FK b L N) {k:Nat} (hk:k<3):ax (b.tree k)=0/\il (b.tree k).all (L.map (bucket (aQ k)))/\Small (b.tree k).all:=by
 obtain⟨l,hl,-,-,ht⟩:=aaK h.may
 obtain rfl:l=L:=cY (hl.symm.trans h.book)
 exact ht k hk
theorem FK.add {s:ByteArray} {time value:Int} (h:FK b L N) (hN:N<=2900) (hn:dL s=true) (h0:0<=time) (h1:time<=1048575) (h2 : -1000000<=value) (h3:value<=1000000) (hf:b.floor<=time) (hp:aS b.names s<0->b.names.length<16) :
  jw b s time value=0/\ny b s time value=0/\Ff b s time value=ins L (cv b s time ⟨1,value,value,value,time,value⟩)/\∀b',aO b'=true->bY b'=some (Ff b s time value)->(∀k,k<3->nC (b'.tree k)<=nC (b.tree k)+1)->FK b' (ins L (cv b s time ⟨1,value,value,value,time,value⟩)) (N+1):=by
 have hr:fF time value=(⟨1,value,value,value,time,value⟩,0):=ar ⟨h0,h1,h2,h3⟩
 have hF:jw b s time value=0:=by
  unfold jw
  rw [ai (by simp [h.may]),ai (by simp [hn]),ai (by simp [hr]),ai af,ai (fun⟨a,c⟩=>by have:=hp a;omega)]
 have hS:∀k,k<3->Small (dW b s time value k::(b.tree k).all):=fun k hk=>by
  obtain⟨t1,t2,t3⟩:=h.trees hk
  have hg:(dW b s time value k).is.Good:=(dg (nT h0 h1 h2 h3) (by show (1:Int)≠0;decide)).1
  have e1:il ([dW b s time value k]++(b.tree k).all) ([dW b s time value k]++L.map (bucket (aQ k))):=(il.refl (fun e he=>by rw [mR]at he;subst he;exact hg)).append t2
  refine e1.small.2 (oh e1.2.1 ?_)
  rw [Fe,rD]
  have hc:=h.fH
  have:Go.Proofs.YtmljjfhgciaceaaDoor.fH [dW b s time value k]=1:=by simp [Go.Proofs.YtmljjfhgciaceaaDoor.fH,dW]
  omega
 obtain⟨g1,g2,-⟩:=wP hF h.book hS
 refine⟨hF,g1,g2,fun b' hm hb hw=>⟨hm,by rw [<-g2];exact hb,fun k hk=>by have:=hw k hk;have:=h.wt k hk;omega,?_⟩⟩
 rw [NG]
 have hc:=h.fH
 show Go.Proofs.YtmljjfhgciaceaaDoor.fH L+1<=((N+1:Nat):Int)
 push_cast;omega
end
open Go.RowKit
section
set_option maxRecDepth 100000
set_option maxHeartbeats 4000000
variable {w:World}
def jP:List ByteArray:=[⟨#[99,112,117]⟩,⟨#[109,101,109]⟩,⟨#[110,101,116,46,105,110]⟩,⟨#[57]⟩]
def BF (n:Int):ByteArray:=jP.getD (picked n 4).toNat ByteArray.empty
theorem DL (n:Int):BF n∈jP:=by
 have h:=cU (n:=n) (m:=4) aW
 unfold BF
 obtain hq|hq|hq|hq:picked n 4=0\/picked n 4=1\/picked n 4=2\/picked n 4=3:=af
 all_goals rw [hq];simp [jP]
theorem JO:∀s∈jP,dL s=true/\s.size<=10:=by
 intro s hs
 simp only [jP,fk,List.not_mem_nil,or_false]at hs
 rcases hs with rfl|rfl|rfl|rfl <;> exact⟨aW,aW⟩
theorem JR {n:Int} (h:i64 n):Calls Tryd.prog 63 #[.int .i64 n] w fun e w'=>e = .returned (.string (BF n))/\ah w w':=by
 have HP:=hdd fun W=>qR n 4 W h.1 h.2 aW aW
 have hr:=cU (n:=n) (m:=4) aW
 have HNF:=hdd (show BF n=jP.getD (picked n 4).toNat ByteArray.empty from rfl)
 obtain hq|hq|hq|hq:picked n 4=0\/picked n 4=1\/picked n 4=2\/picked n 4=3:=af
 all_goals
  rw [hq]at HP HNF
  clear hq hr
  go_enter Tryd.func63,Tryd.ntmps63
  go_wp2_with (go_at_call 29;(with_reducible refine(HP.out _).mono ?_);rintro e w1 ⟨rfl,hb1⟩;have k1:w1.heap[w.heap.size]?=some (.cells #[.string ⟨#[99,112,117]⟩, .string ⟨#[109,101,109]⟩, .string ⟨#[110,101,116,46,105,110]⟩, .string ⟨#[57]⟩] 9):=(hb1.block _ bj).trans (aj _ _ rfl);obtain⟨c0,c1,c2,c3⟩:w1.cell? ⟨w.heap.size,0,none⟩=some (.string ⟨#[99,112,117]⟩)/\w1.cell? ⟨w.heap.size,1,none⟩=some (.string ⟨#[109,101,109]⟩)/\w1.cell? ⟨w.heap.size,2,none⟩=some (.string ⟨#[110,101,116,46,105,110]⟩)/\w1.cell? ⟨w.heap.size,3,none⟩=some (.string ⟨#[57]⟩):=by simp [World.cell?,k1])
  go_ret
  exact⟨by rw [HNF.out];rfl,Below.trans' (by exact ag:ah w _) hb1 bj⟩
structure C9 where
 s:ByteArray
 t:Int
 v:Int
def ku (r:Rw):C9:=⟨BF r.k,picked r.a 12000,picked r.b 2000-1000⟩
theorem Bw (r:Rw):(ku r).s∈jP/\0<=(ku r).t/\(ku r).t<12000/\-1000<=(ku r).v/\(ku r).v<1000:=by
 have h1:=cU (n:=r.a) (m:=12000) aW
 have h2:=cU (n:=r.b) (m:=2000) aW
 refine⟨DL _,h1.1,h1.2,?_,?_⟩ <;> simp only [ku] <;> omega
theorem JE {r:Rw} (hr:r.ok) {p:C9} (hp:ku r=p):Calls Tryd.prog 33 #[.agg #[.int .i64 r.k, .int .i64 r.a, .int .i64 r.b, .int .i64 r.c]] w fun e w'=>e = .returned (.agg #[.string p.s, .int .i64 p.t, .int .i64 p.v])/\ah w w':=by
 obtain⟨W0,hW0⟩:=bP ((w.alloc (.cells #[.int .i64 r.k, .int .i64 r.a, .int .i64 r.b, .int .i64 r.c] 75)).alloc (.cells #[.string ⟨#[]⟩, .int .i64 0, .int .i64 0] 59))
 have hb0:ah w W0:=by rw [hW0];exact ag
 have hz0:W0.heap.size=w.heap.size+2:=by rw [hW0];simp
 have k0:W0.heap[w.heap.size]?=some (.cells #[.int .i64 r.k, .int .i64 r.a, .int .i64 r.b, .int .i64 r.c] 75):=by rw [hW0,kW _ _ _ bj];exact aj _ _ rfl
 have k1:W0.heap[w.heap.size+1]?=some (.cells #[.string ⟨#[]⟩, .int .i64 0, .int .i64 0] 59):=by rw [hW0];exact aj _ _ bj
 have hG:∀W,ah W0 W->W.cell? ⟨w.heap.size,0,none⟩=some (.int .i64 r.k)/\W.cell? ⟨w.heap.size,1,none⟩=some (.int .i64 r.a)/\W.cell? ⟨w.heap.size,2,none⟩=some (.int .i64 r.b)/\W.cell? ⟨w.heap.size+1,0,none⟩=some (.string ⟨#[]⟩)/\W.cell? ⟨w.heap.size+1,1,none⟩=some (.int .i64 0)/\W.cell? ⟨w.heap.size+1,2,none⟩=some (.int .i64 0)/\∀o,W.frozen? ⟨w.heap.size+1,o,none⟩=false:=fun W hb=>by
  have b0:=(hb.block w.heap.size af).trans k0
  have b1:=(hb.block (w.heap.size+1) af).trans k1
  simp [World.cell?,World.frozen?,b0,b1]
 obtain⟨T,hT⟩:=bt (picked r.a 12000)
 obtain⟨V,hV⟩:=bt (picked r.b 2000)
 have hVr:=cU (n:=r.b) (m:=2000) aW
 rw [hV]at hVr
 have hwv:IntKind.i64.wrap (V-1000)=V-1000:=IntWalk.i64_in _ af
 obtain⟨NM,hNM⟩:=bt (BF r.k)
 have XT:=hdd (show (.agg #[.string NM, .int .i64 T, .int .i64 (V-1000)]:Value) = .agg #[.string p.s, .int .i64 p.t, .int .i64 p.v] by rw [<-hp,<-hT,<-hV,<-hNM];rfl)
 have hn:∀W,ah W0 W->Calls Tryd.prog 63 #[.int .i64 r.k] W fun e w'=>e = .returned (.string NM)/\ah W0 w':=fun W hb=>by
  have:=JR (w:=W) hr.1
  rw [hNM]at this
  exact this.mono fun _ _ h=>⟨h.1,Below.trans' hb h.2 hb.size⟩
 have ha:∀W,ah W0 W->Calls Tryd.prog 29 #[.int .i64 r.a, .int .i64 12000] W fun e w'=>e = .returned (.int .i64 T)/\ah W0 w':=fun W hb=>by
  have:=qR r.a 12000 W hr.2.1.1 hr.2.1.2 aW aW
  rw [hT]at this
  exact this.mono fun _ _ h=>⟨h.1,Below.trans' hb h.2 hb.size⟩
 have hv:∀W,ah W0 W->Calls Tryd.prog 29 #[.int .i64 r.b, .int .i64 2000] W fun e w'=>e = .returned (.int .i64 V)/\ah W0 w':=fun W hb=>by
  have:=qR r.b 2000 W hr.2.2.1.1 hr.2.2.1.2 aW aW
  rw [hV]at this
  exact this.mono fun _ _ h=>⟨h.1,Below.trans' hb h.2 hb.size⟩
 have UE:=hdd (fun W (hb:ah W0 W)=>(Below.trans' hb0 hb hb0.size:ah w W))
 have B0:ah W0 W0.drew:=(aI _ _).drew
 obtain⟨c0,c1,c2,c3,c4,c5,cf⟩:=hG _ (aI _ _)
 clear k0 k1 hb0 hr hT hV hNM hp
 go_enter Tryd.func33,Tryd.ntmps33
 go_upto_region 1 with (fail)
 rw [<-hW0]
 clear hW0
 refine bJ [(0,1),(1,0),(3,1),(4,0),(6,1),(7,0),(2,2),(5,2),(8,2),(9,1),(10,1),(11,3)] 11
  (fun w'=>w'.cell? ⟨w.heap.size,0,none⟩=some (.int .i64 r.k)/\w'.cell? ⟨w.heap.size,1,none⟩=some (.int .i64 r.a)/\w'.cell? ⟨w.heap.size,2,none⟩=some (.int .i64 r.b)) bT bT ⟨c0,c1,c2⟩ ?_
 (simp only [bG,List.filterMap_cons,List.filterMap_nil,List.getElem?_cons_zero,List.getElem?_cons_succ,Option.map_some])
 (repeat first|refine aY ?_|refine aX ?_)
 refine aP rfl (fun K hK=>?_)
 go_simp
 (with_reducible refine(hn _ B0).mono ?_);rintro e w1 ⟨rfl,B1⟩
 go_simp
 refine hK _ _ (by have h:=hG _ B1;exact⟨h.1,h.2.1,h.2.2.1⟩) ?_
 clear hK K
 (repeat first|refine aY ?_|refine aX ?_)
 refine aP rfl (fun K hK=>?_)
 go_simp
 (with_reducible refine(ha _ B1).mono ?_);rintro e w2 ⟨rfl,B2⟩
 go_simp
 refine hK _ _ (by have h:=hG _ B2;exact⟨h.1,h.2.1,h.2.2.1⟩) ?_
 clear hK K
 (repeat first|refine aY ?_|refine aX ?_)
 refine aP rfl (fun K hK=>?_)
 go_simp
 (with_reducible refine(hv _ B2).mono ?_);rintro e w3 ⟨rfl,B3⟩
 go_simp
 refine hK _ _ (by have h:=hG _ B3;exact⟨h.1,h.2.1,h.2.2.1⟩) ?_
 clear hK K
 (repeat first|refine aY ?_|refine aX ?_)
 obtain⟨-,-,-,y3,y4,y5,yf⟩:=hG _ B3
 clear c0 c1 c2 c3 c4 c5 cf
 refine bn rfl (fun K hK=>?_)
 go_simp
 refine hK _ _ ?_
 clear hK K
 refine cy ?_
 have hfin:=UE.out _ B3
 go_wp2_with fail
 exact bodyPost_ret (v:= .agg #[.string NM, .int .i64 T, .int .i64 (V-1000)]) (by simp [results,Tryd.results33,go_sem, *]) rfl ⟨congrArg Ending.returned XT.out,ag⟩
end
end Go.Proofs.YtmljjfhgciaceaaDoor
namespace Go.Proofs.YtmljjfhgciaceaaDoor
section
variable {b:Ba} {s x:ByteArray} {xs ns:List ByteArray} {p:C9}
theorem mI:0<=aS xs s↔s∈xs:=by
 rcases fW xs s with ⟨k,hk,e,h1,-⟩|⟨e,h1⟩
 ·rw [e];exact⟨fun _=>h1▸fP hk,fun _=>af⟩
 ·rw [e]
  refine⟨fun h=>af,fun h=>?_⟩
  obtain⟨j,hj,e2⟩:=kU h
  exact absurd e2 (h1 j hj)
theorem Ge (h:s∈xs):aS (xs++[x]) s=aS xs s:=by
 rcases fW xs s with ⟨k,hk,e,h1,h2⟩|⟨e,h1⟩
 ·rw [e]
  refine uo (by rw [dO];omega) (by rw [List.getElem_append_left hk];exact h1) fun j hj hjn=>?_
  rw [List.getElem_append_left af];exact h2 j hj af
 ·obtain⟨j,hj,e2⟩:=kU h
  exact absurd e2 (h1 j hj)
theorem JG (h:s∉xs):aS (xs++[s]) s=xs.length:=by
 refine uo bj bj fun j hj hjn=>?_
 rw [List.getElem_append_left hj]
 exact fun e=>h (e▸fP hj)
def fU (ns:List ByteArray) (s:ByteArray):List ByteArray:=if aS ns s<0 then ns++[s]else ns
theorem nP (h:s∈ns):fU ns s=ns:=by
 unfold fU;rw [ai (by have:=mI.2 h;omega)]
theorem mA (h:s∉ns):fU ns s=ns++[s]:=by
 unfold fU;rw [ar (by have:¬0<=aS ns s:=fun h'=>h (mI.1 h');omega)]
theorem xQ (b:Ba) (s:ByteArray):bC b s=fU b.names s:=rfl
theorem Jg (b:Ba) (s:ByteArray):aaj b s=aS (fU b.names s) s:=by
 unfold aaj
 by_cases h:s∈b.names
 ·rw [ai (by have:=mI.2 h;omega),nP h]
 ·rw [ar (by have:¬0<=aS b.names s:=fun h'=>h (mI.1 h');omega),mA h,JG h]
def CN (ns:List ByteArray) (p:C9):aC:=⟨aS ns p.s*1048576+p.t,⟨1,p.v,p.v,p.v,p.t,p.v⟩⟩
theorem Kk (h:p.s∈ns):CN (fU ns x) p=CN ns p:=by
 unfold CN
 by_cases hx:x∈ns
 ·rw [nP hx]
 ·rw [mA hx,Ge h]
theorem mB:x∈fU ns s↔x∈ns\/x=s:=by
 by_cases h:s∈ns
 ·rw [nP h]
  exact⟨.inl,fun h'=>h'.elim id (fun e=>e▸h)⟩
 ·rw [mA h];simp
theorem qJ (h:ns.Nodup):(fU ns s).Nodup:=by
 by_cases hs:s∈ns
 ·rw [nP hs];exact h
 ·rw [mA hs]
  exact List.nodup_append.2 ⟨h,bj,fun a ha b hb=>by simp at hb;subst hb;exact fun e=>hs (e▸ha)⟩
structure KB (oO:List C9) (b:Ba):Prop where
 floor:b.floor=0
 names:b.names=(oO.map C9.s).foldl fU []
 st:FK b (oG (oO.map (CN b.names))) oO.length
 ok:∀p∈oO,p.s∈b.names
theorem He:∀{ns:List ByteArray},(∀x∈ns,x∈jP)->ns.Nodup->(∀x∈xs,x∈jP)->(∀x∈xs.foldl fU ns,x∈jP)/\(xs.foldl fU ns).Nodup:=by
 induction xs with
 |nil=>intro ns h1 h2 _;exact⟨h1,h2⟩
 |cons y xs ih=>
  intro ns h1 h2 h3
  refine ih (fun x hx=>?_) (qJ h2) fun x hx=>h3 x (by simp [hx])
  rcases mB.1 hx with hx|rfl
  ·exact h1 x hx
  ·exact h3 _ bj
theorem KB.few {oO:List C9} (h:KB oO b) (hp:∀p∈oO,p.s∈jP):b.names.length<=4/\∀s∈b.names,s∈jP:=by
 obtain⟨h1,h2⟩:=He (xs:=oO.map C9.s) (ns:=[]) bj bj fun x hx=>by
  obtain⟨p,hp',rfl⟩:=wN.1 hx
  exact hp p hp'
 rw [<-h.names]at h1 h2
 exact⟨iY (m:=jP) h2 h1,h1⟩
theorem NC {E:List aC} {e:aC}:oG (E++[e])=ins (oG E) e:=by unfold oG;rw [List.foldl_append];rfl
theorem KB.add {oO:List C9} {b':Ba} (h:KB oO b) (hn:b'.names=bC b p.s) (hf:b'.floor=b.floor) (hs:FK b' (ins (oG (oO.map (CN b.names))) (cv b p.s p.t ⟨1,p.v,p.v,p.v,p.t,p.v⟩)) (oO.length+1)):KB (oO++[p]) b':=by
 rw [xQ]at hn
 have hm:(oO++[p]).map (CN b'.names)=oO.map (CN b.names)++[cv b p.s p.t ⟨1,p.v,p.v,p.v,p.t,p.v⟩]:=by
  rw [Ap,hn]
  congr 1
  ·exact List.map_congr_left fun q hq=>Kk (h.ok q hq)
  ·simp only [List.map_cons,List.map_nil]
   unfold CN cv
   rw [Jg]
 refine⟨hf.trans h.floor,?_,?_,fun q hq=>?_⟩
 ·rw [hn,Ap,List.foldl_append,<-h.names];rfl
 ·rw [hm,NC,dO];exact hs
 ·rw [hn]
  rcases kJ.1 hq with hq|hq
  ·exact mB.2 (.inl (h.ok q hq))
  ·simp at hq;subst hq;exact mB.2 (.inr rfl)
end
open Go.RowKit
section
variable {es:List C9} {B C:Nat} {w w':World}
def TV (p:C9):List Value:=[.string p.s, .int .i64 p.t, .int .i64 p.v]
theorem EW (p:C9):(TV p).length=3:=rfl
abbrev XH (w:World) (v:Value) (xs:List C9):Prop:=dK 3 32 TV w v xs
structure iE (B:Nat) (w:World) (v:Value) (ps:List C9):Prop where
 row:w.ownsRow B 59 3 v ps.length (ps.flatMap TV)
theorem iE.nil (B:Nat) (w:World):iE B w (.slice none 0 0) []:=⟨World.ownsRow_nil _ _ _ _⟩
theorem iE.block {v:Value} (h:iE B w v es) (hb:∀g,v.ownBlock=some g->w'.heap[g]?=w.heap[g]?):iE B w' v es:=by
 obtain⟨hl,⟨rfl,h0⟩|⟨g,cap,cur,rfl,hB,hg,h1,h2,h3,h4⟩⟩:=h.row
 ·exact⟨⟨hl, .inl ⟨rfl,h0⟩⟩⟩
 ·exact⟨⟨hl, .inr ⟨g,cap,cur,rfl,hB,(hb g rfl).trans hg,h1,h2,h3,h4⟩⟩⟩
theorem iE.lt {v:Value} (h:iE B w v es):∀g,v.ownBlock=some g->B<=g/\g<w.heap.size:=World.ownsRow.lt h.row
theorem iE.below {v:Value} (h:iE B w v es) (hb:Below C w w') (hC:w.heap.size<=C):iE B w' v es:=h.block fun g hg=>hb.block g (by have:=(h.lt g hg).2;omega)
theorem iE.at {v:Value} (h:iE B w v es) (hs:es.length<=1000000):XH w v es:=dK.owned EW h.row rfl af
theorem iE.isSlice {v:Value} (h:iE B w v es):∃ao cap,v = .slice ao es.length cap:=by
 obtain⟨hl,⟨rfl,h0⟩|⟨g,cap,cur,rfl,_⟩⟩:=h.row
 ·exact⟨none,0,by rw [h0]⟩
 ·exact⟨_,_,rfl⟩
theorem iE.mono {v:Value} (h:iE B w v es) (hC:C<=B):iE C w v es:=by
 obtain⟨hl,⟨rfl,h0⟩|⟨g,cap,cur,rfl,hB,hg,h1,h2,h3,h4⟩⟩:=h.row
 ·exact⟨⟨hl, .inl ⟨rfl,h0⟩⟩⟩
 ·exact⟨⟨hl, .inr ⟨g,cap,cur,rfl,af,hg,h1,h2,h3,h4⟩⟩⟩
end
end Go.Proofs.YtmljjfhgciaceaaDoor
