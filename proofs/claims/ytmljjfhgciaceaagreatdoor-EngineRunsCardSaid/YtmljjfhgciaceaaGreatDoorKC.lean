/- Lemmas of the proof. -/
import Derived.Test.YtmljjfhgciaceaaGreatDoorHd
import Derived.Test.YtmljjfhgciaceaaGreatDoorAK
import Derived.Test.YtmljjfhgciaceaaGreatDoorKT
import Derived.Test.YtmljjfhgciaceaaGreatDoorKB
import Derived.Test.YtmljjfhgciaceaaGreatDoorBK
import Derived.Test.YtmljjfhgciaceaaGreatDoorSO
import Derived.Test.YtmljjfhgciaceaaGreatDoorCz
import Derived.Test.YtmljjfhgciaceaaGreatDoorKG
import Derived.Maps.AppendAt
namespace Go.Proofs.YtmljjfhgciaceaaGreatDoor
open Go.RowKit
section
variable {b:Ba} {L:List aH} {N:Nat}
def gw (L:List aH):Int:=(L.map fun e=>e.is.c).sum
theorem fM (e:aH) (L:List aH):gw (e::L)=e.is.c+gw L:=by simp [gw]
theorem AQ (a b:List aH):gw (a++b)=gw a+gw b:=by
 induction a with
 |nil=>simp [gw]
 |cons e l ih=>rw [List.cons_append,fM,fM,ih];omega
theorem Iq (h:bQ L) (k:Int):(look L k).c<=gw L:=by
 induction L with
 |nil=>simp [look,ax.zero,gw]
 |cons e l ih=>
  have h1:=ih h.cons.2;have h2:=h.cons.1.1;rw [fM];unfold look
  split
  ·rw [dO];omega
  ·omega
theorem rq (s:Int) (L:List aH):gw (L.map (bucket s))=gw L:=by
 induction L with
 |nil=>rfl
 |cons e l ih=>rw [List.map_cons,fM,fM,ih];rfl
theorem SM (x:aH) (L:List aH):gw (ins L x)=gw L+x.is.c:=by
 induction L with
 |nil=>simp [ins,gw]
 |cons e l ih=>
  show gw (if e.key<x.key then e::ins l x else if e.key=x.key then(⟨x.key,e.is.join x.is⟩:aH)::l else x::e::l)=_
  split
  ·rw [fM,fM,ih];omega
  ·split
   ·rw [fM,fM];show (e.is.join x.is).c+_=_;rw [dO];omega
   ·rw [fM,fM];omega
theorem nV (h:bQ L) (hc:gw L<=1073741824):Small L:=fun k=>Int.le_trans (Iq h k) hc
structure Ky (b:Ba) (L:List aH) (N:Nat):Prop where
 may:aS b=true
 book:cx b=some L
 wt:∀k,k<3->qE (b.tree k)<=3+N
 gw:gw L<=N
theorem Ky.cp (h:Ky b L N):aY L/\dX L:=fI h.book
theorem Ky.trees (h:Ky b L N) {k:Nat} (hk:k<3):aC (b.tree k)=0/\jv (b.tree k).all (L.map (bucket (bp k)))/\Small (b.tree k).all:=by
 obtain⟨l,hl,-,-,ht⟩:=qq h.may;obtain rfl:l=L:=dh (hl.symm.trans h.book);exact ht k hk
theorem Ky.add {s:ByteArray} {time value:Int} (h:Ky b L N) (hN:N<=2900) (hn:dt s=true) (h0:0<=time) (h1:time<=1048575) (h2 : -1000000<=value) (h3:value<=1000000) (hf:b.floor<=time) (hp:bt b.names s<0->b.names.length<16) :
  gK b s time value=0/\fU b s time value=0/\xB b s time value=ins L (cW b s time ⟨1,value,value,value,time,value⟩)/\∀b',aS b'=true->cx b'=some (xB b s time value)->(∀k,k<3->qE (b'.tree k)<=qE (b.tree k)+1)->Ky b' (ins L (cW b s time ⟨1,value,value,value,time,value⟩)) (N+1):=by
 have hr:ej time value=(⟨1,value,value,value,time,value⟩,0):=aw ⟨h0,h1,h2,h3⟩;have hF:gK b s time value=0:=by
  unfold gK;rw [ar (by simp [h.may]),ar (by simp [hn]),ar (by simp [hr]),ar ai,ar (fun⟨a,c⟩=>by have:=hp a;omega)]
 have hS:∀k,k<3->Small (j6 b s time value k::(b.tree k).all):=fun k hk=>by
  obtain⟨t1,t2,t3⟩:=h.trees hk;have hg:(j6 b s time value k).is.Good:=(dC (lQ h0 h1 h2 h3) (by show (1:Int)≠0;decide)).1;have e1:jv ([j6 b s time value k]++(b.tree k).all) ([j6 b s time value k]++L.map (bucket (bp k))):=(jv.refl (fun e he=>by rw [oY]at he;subst he;exact hg)).append t2;refine e1.small.2 (nV e1.2.1 ?_);rw [AQ,rq];have hc:=h.gw;have:Go.Proofs.YtmljjfhgciaceaaGreatDoor.gw [j6 b s time value k]=1:=by simp [Go.Proofs.YtmljjfhgciaceaaGreatDoor.gw,j6]
  omega
 obtain⟨g1,g2,-⟩:=vY hF h.book hS;refine⟨hF,g1,g2,fun b' hm hb hw=>⟨hm,by rw [<-g2];exact hb,fun k hk=>by have:=hw k hk;have:=h.wt k hk;omega,?_⟩⟩;rw [SM];have hc:=h.gw;show Go.Proofs.YtmljjfhgciaceaaGreatDoor.gw L+1<=((N+1:Nat):Int);push_cast;omega
end
def uA:List ByteArray:=[⟨#[99,112,117]⟩,⟨#[109,101,109]⟩,⟨#[110,101,116,46,105,110]⟩,⟨#[57]⟩]
def ab8 (n:Int):ByteArray:=uA.getD (picked n 4).toNat ByteArray.empty
structure Kt where
 s:ByteArray
 t:Int
 v:Int
def XE (r:Rw):Kt:=⟨ab8 r.k,picked r.a 12000,picked r.b 2000-1000⟩
section
variable {b:Ba} {s x:ByteArray} {xs ns:List ByteArray} {p:Kt}
theorem pD:0<=bt xs s↔s∈xs:=by
 rcases iE xs s with ⟨k,hk,e,h1,-⟩|⟨e,h1⟩
 ·rw [e];exact⟨fun _=>h1▸eZ hk,fun _=>ai⟩
 ·rw [e];refine⟨fun h=>ai,fun h=>?_⟩;obtain⟨j,hj,e2⟩:=nr h;exact absurd e2 (h1 j hj)
theorem K7 (h:s∈xs):bt (xs++[x]) s=bt xs s:=by
 rcases iE xs s with ⟨k,hk,e,h1,h2⟩|⟨e,h1⟩
 ·rw [e];refine ux (by rw [dF];omega) (by rw [List.getElem_append_left hk];exact h1) fun j hj hjn=>?_;rw [List.getElem_append_left ai];exact h2 j hj ai
 ·obtain⟨j,hj,e2⟩:=nr h;exact absurd e2 (h1 j hj)
theorem OA (h:s∉xs):bt (xs++[s]) s=xs:=by
 refine ux bh bh fun j hj hjn=>?_;rw [List.getElem_append_left hj];exact fun e=>h (e▸eZ hj)
def iC (ns:List ByteArray) (s:ByteArray):List ByteArray:=if bt ns s<0 then ns++[s]else ns
theorem qN (h:s∈ns):iC ns s=ns:=by
 unfold iC;rw [ar (by have:=pD.2 h;omega)]
theorem pz (h:s∉ns):iC ns s=ns++[s]:=by
 unfold iC;rw [aw (by have:¬0<=bt ns s:=fun h'=>h (pD.1 h');omega)]
theorem uT (b:Ba) (s:ByteArray):bH b s=iC b.names s:=rfl
theorem Gs (b:Ba) (s:ByteArray):jG b s=bt (iC b.names s) s:=by
 unfold jG;by_cases h:s∈b.names
 ·rw [ar (by have:=pD.2 h;omega),qN h]
 ·rw [aw (by have:¬0<=bt b.names s:=fun h'=>h (pD.1 h');omega),pz h,OA h]
def Gg (ns:List ByteArray) (p:Kt):aH:=⟨bt ns p.s*1048576+p.t,⟨1,p.v,p.v,p.v,p.t,p.v⟩⟩
theorem PC (h:p.s∈ns):Gg (iC ns x) p=Gg ns p:=by
 unfold Gg;by_cases hx:x∈ns
 ·rw [qN hx]
 ·rw [pz hx,K7 h]
theorem pA:x∈iC ns s↔x∈ns\/x=s:=by
 by_cases h:s∈ns
 ·rw [qN h];exact⟨.inl,fun h'=>h'.elim id (fun e=>e▸h)⟩
 ·rw [pz h];simp
theorem ui (h:ns.Nodup):(iC ns s).Nodup:=by
 by_cases hs:s∈ns
 ·rw [qN hs];exact h
 ·rw [pz hs];exact List.nodup_append.2 ⟨h,bh,fun a ha b hb=>by simp at hb;subst hb;exact fun e=>hs (e▸ha)⟩
structure KB (rR:List Kt) (b:Ba):Prop where
 floor:b.floor=0
 names:b.names=(rR.map Kt.s).foldl iC []
 st:Ky b (pH (rR.map (Gg b.names))) rR
 ok:∀p∈rR,p.s∈b.names
theorem Ma:∀{ns:List ByteArray},(∀x∈ns,x∈uA)->ns.Nodup->(∀x∈xs,x∈uA)->(∀x∈xs.foldl iC ns,x∈uA)/\(xs.foldl iC ns).Nodup:=by
 induction xs with
 |nil=>intro ns h1 h2 _;exact⟨h1,h2⟩
 |cons y xs ih=>
  intro ns h1 h2 h3;refine ih (fun x hx=>?_) (ui h2) fun x hx=>h3 x (by simp [hx]);rcases pA.1 hx with hx|rfl
  ·exact h1 x hx
  ·exact h3 _ bh
theorem KB.few {rR:List Kt} (h:KB rR b) (hp:∀p∈rR,p.s∈uA):b.names.length<=4/\∀s∈b.names,s∈uA:=by
 obtain⟨h1,h2⟩:=Ma (xs:=rR.map Kt.s) (ns:=[]) bh bh fun x hx=>by
  obtain⟨p,hp',rfl⟩:=ua.1 hx;exact hp p hp'
 rw [<-h.names]at h1 h2;exact⟨km (m:=uA) h2 h1,h1⟩
theorem SK {E:List aH} {e:aH}:pH (E++[e])=ins (pH E) e:=by unfold pH;rw [List.foldl_append];rfl
theorem KB.add {rR:List Kt} {b':Ba} (h:KB rR b) (hn:b'.names=bH b p.s) (hf:b'.floor=b.floor) (hs:Ky b' (ins (pH (rR.map (Gg b.names))) (cW b p.s p.t ⟨1,p.v,p.v,p.v,p.t,p.v⟩)) (rR+1)):KB (rR++[p]) b':=by
 rw [uT]at hn;have hm:(rR++[p]).map (Gg b'.names)=rR.map (Gg b.names)++[cW b p.s p.t ⟨1,p.v,p.v,p.v,p.t,p.v⟩]:=by
  rw [sH,hn]
  congr 1
  ·exact List.map_congr_left fun q hq=>PC (h.ok q hq)
  ·simp only [List.map_cons,List.map_nil];unfold Gg cW;rw [Gs]
 refine⟨hf.trans h.floor,?_,?_,fun q hq=>?_⟩
 ·rw [hn,sH,List.foldl_append,<-h.names];rfl
 ·rw [hm,SK,dF];exact hs
 ·rw [hn];rcases kW.1 hq with hq|hq
  ·exact pA.2 (.inl (h.ok q hq))
  ·simp at hq;subst hq;exact pA.2 (.inr rfl)
end
section
variable {es:List Kt} {B C:Nat} {w w':World}
def Zc (p:Kt):List Value:=[.string p.s,af p.t,af p.v]
theorem JA (p:Kt):(Zc p).length=3:=rfl
abbrev ad9 (w:World) (v:Value) (xs:List Kt):Prop:=ct 3 32 Zc w v xs
structure jH (B:Nat) (w:World) (v:Value) (ps:List Kt):Prop where
 row:w.ownsRow B 70 3 v ps (ps.flatMap Zc)
theorem jH.nil (B:Nat) (w:World):jH B w (az 0 0) []:=⟨oV _ _ _ _⟩
theorem jH.block {v:Value} (h:jH B w v es) (hb:∀g,v.ownBlock=some g->w'.heap[g]?=w.heap[g]?):jH B w' v es:=by
 obtain⟨hl,⟨rfl,h0⟩|⟨g,cap,cur,rfl,hB,hg,h1,h2,h3,h4⟩⟩:=h.row
 ·exact⟨⟨hl, .inl ⟨rfl,h0⟩⟩⟩
 ·exact⟨⟨hl, .inr ⟨g,cap,cur,rfl,hB,(hb g rfl).trans hg,h1,h2,h3,h4⟩⟩⟩
theorem jH.lt {v:Value} (h:jH B w v es):∀g,v.ownBlock=some g->B<=g/\g<w.heap.size:=World.ownsRow.lt h.row
theorem jH.below {v:Value} (h:jH B w v es) (hb:Below C w w') (hC:w<=C):jH B w' v es:=h.block fun g hg=>hb.block g (by have:=(h.lt g hg).2;omega)
theorem jH.at {v:Value} (h:jH B w v es) (hs:es.length<=1000000):ad9 w v es:=ct.owned JA h.row rfl ai
theorem jH.isSlice {v:Value} (h:jH B w v es):∃ao cap,v=ah ao es cap:=by
 obtain⟨hl,⟨rfl,h0⟩|⟨g,cap,cur,rfl,_⟩⟩:=h.row
 ·exact⟨none,0,by rw [h0]⟩
 ·exact⟨_,_,rfl⟩
theorem jH.mono {v:Value} (h:jH B w v es) (hC:C<=B):jH C w v es:=by
 obtain⟨hl,⟨rfl,h0⟩|⟨g,cap,cur,rfl,hB,hg,h1,h2,h3,h4⟩⟩:=h.row
 ·exact⟨⟨hl, .inl ⟨rfl,h0⟩⟩⟩
 ·exact⟨⟨hl, .inr ⟨g,cap,cur,rfl,ai,hg,h1,h2,h3,h4⟩⟩⟩
end
end Go.Proofs.YtmljjfhgciaceaaGreatDoor
