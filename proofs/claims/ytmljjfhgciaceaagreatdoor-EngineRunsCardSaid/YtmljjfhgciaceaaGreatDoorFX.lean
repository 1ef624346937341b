/- Lemmas of the proof. -/
import Derived.Test.YtmljjfhgciaceaaGreatDoorHd
import Derived.Test.YtmljjfhgciaceaaGreatDoorCz
import Derived.Test.YtmljjfhgciaceaaGreatDoorPU
import Derived.Test.YtmljjfhgciaceaaGreatDoorDG
import Derived.Test.YtmljjfhgciaceaaGreatDoorRefCopy
import Derived.Test.YtmljjfhgciaceaaGreatDoorMD
set_option maxRecDepth 100000
set_option maxHeartbeats 4000000
namespace Go.Proofs.YtmljjfhgciaceaaGreatDoor
open Go.RowKit
def Nd.shift (s:Nat) (x:Nd):Nd:={ x with kids:=x.kids.map (·+(s:Int)) }
def lU (es:List aH):Tr:=⟨[⟨true,es,[],[],[]⟩],0⟩
def ku:Nat->List Tr->List Nd
 |_,[]=>[]
 |s,t::ts=>t.nodes.map (Nd.shift s)++ku (s+t.nodes) ts
def jE:Nat->List Tr->List Int
 |_,[]=>[]
 |s,t::ts=>(t.root+(s:Int))::jE (s+t.nodes) ts
def sW (ts:List Tr) (OM:List Int):Nd:=⟨false,[],OM.drop 1,jE 0 ts,[]⟩
def po (ts:List Tr) (OM:List Int):Tr:=⟨ku 0 ts++[sW ts OM],((ku 0 ts).length:Int)⟩
def A0 (ts:List Tr) (j:Nat):Nat:=((ts.take j).map (·.nodes.length)).sum
theorem zt (ts:List Tr):A0 ts 0=0:=rfl
theorem zu (t:Tr) (ts:List Tr) (j:Nat):A0 (t::ts) (j+1)=t.nodes.length+A0 ts j:=by simp [A0]
theorem SH:∀{ts:List Tr} {s j:Nat} {t:Tr} {n:Nat} {x:Nd},ts[j]?=some t->t.nodes[n]?=some x->(ku s ts)[A0 ts j+n]?=some (x.shift (s+A0 ts j))
 |[],s,j,t,n,x,h,_=>by simp at h
 |u::ts,s,0,t,n,x,h,hx=>by
  obtain rfl:u=t:=by simpa using h
  have hn:=(dW.1 hx).1;simp only [ku,zt,iR,Nat.add_zero];rw [rE (by simpa using hn),List.getElem?_map,hx];rfl
 |u::ts,s,j+1,t,n,x,h,hx=>by
  have:=SH (ts:=ts) (s:=s+u.nodes.length) (j:=j) (by simpa using h) hx;rw [zu];simp only [ku];rw [xw fk,oX,show u.nodes+A0 ts j+n-u.nodes=A0 ts j+n by omega,this,Nat.add_assoc]
theorem Hn:∀{ts:List Tr} {s j:Nat} {k:Int},(jE s ts)[j]?=some k->∃t,ts[j]?=some t/\k=t.root+((s+A0 ts j:Nat):Int)
 |[],s,j,k,h=>by simp [jE]at h
 |u::ts,s,0,k,h=>by
  simp only [jE,List.getElem?_cons_zero,iJ]at h;exact⟨u,rfl,by rw [zt,Nat.add_zero];exact h.symm⟩
 |u::ts,s,j+1,k,h=>by
  simp only [jE,List.getElem?_cons_succ]at h;obtain⟨t,h1,h2⟩:=Hn h;exact⟨t,by simpa using h1,by rw [h2,zu,Nat.add_assoc]⟩
theorem nI:∀(s:Nat) (ts:List Tr),(jE s ts).length=ts
 |_,[]=>rfl
 |s,t::ts=>by simp [jE,nI]
theorem Bx:∀(s:Nat) (ts:List Tr),(ku s ts).length=(ts.map (·.nodes.length)).sum
 |_,[]=>rfl
 |s,t::ts=>by simp [ku,Bx]
theorem NP:∀(s:Nat) (ts:List Tr),((ku s ts).flatMap fun x=>x.aI++x.buf)=ts.flatMap Tr.all
 |_,[]=>rfl
 |s,t::ts=>by
  simp only [ku,pK,fO,NP]
  congr 1
  rw [List.flatMap_map];rfl
theorem SG:∀(s:Nat) (ts:List Tr),((ku s ts).map Bj).sum=(ts.map fun t=>(t.nodes.map Bj).sum).sum
 |_,[]=>rfl
 |s,t::ts=>by
  simp only [ku,sH,List.sum_append,List.map_cons,List.sum_cons,SG]
  congr 1
  rw [List.map_map];rfl
theorem vh (t:Tr):qE t=(t.nodes.map Bj).sum:=by
 unfold qE wt KC;rw [List.map_map]
 congr 1
 refine List.ext_getElem bh fun i h1 h2=>?_;have hi:i<t.nodes:=by simpa using h2
 have:t.nodes[i]?=some t.nodes[i]:=by simp [hi]
 simp [Xr,Tr.dm,this]
theorem Sub.move {t T:Tr} {s:Nat} (hm:∀n x,t.dm n=some x->T.dm (n+(s:Int))=some (x.shift s)) (hr:t.root = -1):∀{h:Nat} {n lo hi:Int} {l:List Int},Sub t h n lo hi l->Sub T h (n+(s:Int)) lo hi (l.map (·+(s:Int)))
 |0,_,_,_,_,hs=>hs.elim
 |h+1,n,lo,hi,l,⟨x,hx,hlt,hs⟩=>by
  refine⟨x.shift s,hm _ _ hx,hlt,?_⟩;rcases hs with ⟨h0,h1,⟨a1,a2,a3,a4,a5,a6⟩,rfl⟩|⟨hp,h1,⟨a1,a2,a3,a4,a5,a6⟩,ls,h3,rfl,h4⟩
  ·refine .inl ⟨h0,h1,⟨a1,by simp [Nd.shift,a2],a3,a4, .inl ?_,a6⟩,rfl⟩;rcases a5 with a5|a5
   ·exact a5
   ·have:=wN hx;omega
  ·refine .inr ⟨hp,h1,⟨a1,by simpa [Nd.shift] using a2,by simpa [Nd.shift] using a3,by simpa [Nd.shift] using a4,a5,a6⟩,ls.map (·.map (·+(s:Int))),by simp [Nd.shift,h3],by simp [List.map_flatten],fun j k lj hj nW=>?_⟩;simp only [Nd.shift,List.getElem?_map,Option.map_eq_some_iff]at hj nW;obtain⟨k0,iy,rfl⟩:=hj;obtain⟨l0,hl0,rfl⟩:=nW;obtain⟨g1,g2,g3⟩:=h4 j k0 l0 iy hl0;exact⟨g1,g2,g3.move hm hr⟩
structure Pl where
 t:Tr
 es:List aH
 l:List Int
def Pl.low (p:Pl):Int:=match p.es with|[]=>0|e::_=>e.key
structure Pc (h:Nat) (p:Pl):Prop where
 sub:∀lo hi,lo<hi->(∀e∈p.es,lo<=e.key/\e.key<hi)->Sub ⟨p.t.nodes,-1⟩ h p.t.root lo hi p.l
 nd:p.l.Nodup
 len:p.l=p.t.nodes.length
 ne:p.es≠[]
 all:p.t.all=p.es
 wt:qE p.t<=3*p.es
theorem Pc.leaf {es:List aH} (h0:es≠[]) (h6:es.length<=6) (hc:Checked es) (hr:aY es):Pc 1 ⟨lU es,es,[0]⟩ where
 sub lo hi hlt he:=⟨⟨true,es,[],[],[]⟩,rfl,hlt, .inl ⟨rfl,rfl,⟨rfl,rfl,rfl,h6, .inl h0,hc,he,hr⟩,rfl⟩⟩
 nd:=bh
 len:=rfl
 ne:=h0
 all:=by simp [lU,Tr.all]
 wt:=by
  have:0<es.length:=List.length_pos_iff.2 h0;rw [vh];simp [lU,Bj];omega
def uK:Nat->List Pl->List (List Int)
 |_,[]=>[]
 |s,p::ps=>p.l.map (·+(s:Int))::uK (s+p.t.nodes) ps
theorem NQ:∀{ps:List Pl} {s j:Nat} {lj:List Int},(uK s ps)[j]?=some lj->∃p,ps[j]?=some p/\lj=p.l.map (·+((s+A0 (ps.map (·.t)) j:Nat):Int))
 |[],s,j,k,h=>by simp [uK]at h
 |u::ts,s,0,k,h=>by
  simp only [uK,List.getElem?_cons_zero,iJ]at h;exact⟨u,rfl,by rw [zt,Nat.add_zero];exact h.symm⟩
 |u::ts,s,j+1,k,h=>by
  simp only [uK,List.getElem?_cons_succ]at h;obtain⟨t,h1,h2⟩:=NQ h;exact⟨t,by simpa using h1,by rw [h2,List.map_cons,zu,Nat.add_assoc]⟩
theorem JJ:∀(s:Nat) (ps:List Pl),(uK s ps).length=ps
 |_,[]=>rfl
 |s,t::ts=>by simp [uK,JJ]
theorem De:∀{ps:List Pl} (s:Nat),(∀p∈ps,p.l.Nodup/\p.l=p.t.nodes.length/\∀m∈p.l,0<=m/\m<(p.t.nodes.length:Int)) ->
  (uK s ps).flatten.Nodup/\(uK s ps).flatten.length=(ps.map (·.t.nodes.length)).sum/\∀m∈(uK s ps).flatten,(s:Int)<=m/\m<((s+(ps.map (·.t.nodes.length)).sum:Nat):Int)
 |[],s,_=>by simp [uK]
 |p::ps,s,h=>by
  obtain⟨h1,h2,h3⟩:=De (ps:=ps) (s+p.t.nodes) fun q hq=>h q (by simp [hq]);obtain⟨g1,g2,g3⟩:=h p bh;have hm:∀m∈p.l.map (·+(s:Int)),(s:Int)<=m/\m<((s+p.t.nodes.length:Nat):Int):=fun m hm=>by
   obtain⟨k,hk,rfl⟩:=ua.1 hm;have:=g3 k hk;omega
  simp only [uK,List.flatten_cons,List.map_cons,List.sum_cons];refine⟨List.nodup_append.2 ⟨?_,h1,fun a ha b hb e=>?_⟩,by rw [dF,oX,g2,h2],fun m hm'=>?_⟩
  ·exact List.Pairwise.map _ (fun a b hab=>ai) g1
  ·have:=hm a ha;have:=h3 b hb;omega
  ·rcases kW.1 hm' with hm'|hm'
   ·have:=hm m hm';omega
   ·have:=h3 m hm';omega
theorem Nc:∀{ps:List Pl},aY (ps.flatMap (·.es))->(∀(j:Nat) p,ps[j]?=some p->aY p.es)/\∀(i j:Nat) p q,i<j->ps[i]?=some p->ps[j]?=some q->∀a∈p.es,∀b∈q.es,a.key<b.key
 |[],_=>⟨fun j p h=>by simp at h,fun i j p q _ h=>by simp at h⟩
 |u::ps,h=>by
  obtain⟨h1,h2,h3⟩:=List.pairwise_append.1 (show aY (u.es++ps.flatMap (·.es))from h);obtain⟨g1,g2⟩:=Nc (ps:=ps) h2;refine⟨fun j p hj=>?_,fun i j p q hij hi hj=>?_⟩
  ·cases j with
   |zero=>obtain rfl:u=p:=(by simpa using hj);exact h1
   |succ j=>exact g1 j p (by simpa using hj)
  ·obtain⟨j,rfl⟩:∃j',j=j'+1:=⟨j-1,ai⟩;have hj:ps[j]?=some q:=by simpa using hj
   cases i with
   |zero=>
    obtain rfl:u=p:=(by simpa using hi);exact fun a ha b hb=>h3 a ha b (List.mem_flatMap.2 ⟨q,uO hj,hb⟩)
   |succ i=>exact g2 i j p q ai (by simpa using hi) hj
theorem Pl.XK {p:Pl} (h:aY p.es):∀e∈p.es,p.low<=e.key:=by
 intro e he;unfold Pl.low
 cases hp:p.es with
 |nil=>rw [hp]at he;cases he
 |cons x l=>
  rw [hp]at he h;rcases fy.1 he with rfl|he
  ·exact Int.le_refl _
  ·exact Int.le_of_lt ((tZ.1 h).1 e he)
theorem Pl.Nq {p:Pl} (h:p.es≠[]):∃e∈p.es,e.key=p.low:=by
 unfold Pl.low
 cases hp:p.es with
 |nil=>exact absurd hp h
 |cons x l=>exact⟨x,bh,rfl⟩
theorem aa1 (lo hi:Int):dK [] lo hi:=⟨fun _ h=>by simp at h,fun _ h=>by simp at h,List.Pairwise.nil⟩
theorem Pc.join {h:Nat} {ps:List Pl} (hp:∀p∈ps,Pc h p) (h2:2<=ps.length) (h4:ps.length<=4) (hr:aY (ps.flatMap (·.es))) :
  Pc (h+1) ⟨po (ps.map (·.t)) (ps.map Pl.low),ps.flatMap (·.es),((ku 0 (ps.map (·.t))).length:Int)::(uK 0 ps).flatten⟩:=by
 have hnl:∀p∈ps,∀m∈p.l,0<=m/\m<(p.t.nodes.length:Int):=fun p hp' m hm=>by
  obtain⟨e,he⟩:=List.exists_mem_of_ne_nil _ (hp p hp').ne;have hE:∃lo hi:Int,lo<hi/\∀e∈p.es,lo<=e.key/\e.key<hi:=by
   have:∀l:List aH,∃lo hi:Int,lo<hi/\∀e∈l,lo<=e.key/\e.key<hi:=by
    intro l
    induction l with
    |nil=>exact⟨0,1,ai,fun e h=>by cases h⟩
    |cons x l ih=>
     obtain⟨lo,hi,h1,h2⟩:=ih;refine⟨min lo x.key,max hi (x.key+1),ai,fun e he=>?_⟩;rcases fy.1 he with rfl|he
     ·omega
     ·have:=h2 e he;omega
   exact this _
  obtain⟨lo,hi,h1,h2⟩:=hE;exact((hp p hp').sub lo hi h1 h2).lt' m hm
 obtain⟨n1,n2,n3⟩:=De (ps:=ps) 0 fun p hp'=>⟨(hp p hp').nd,(hp p hp').len,hnl p hp'⟩;have hcl:(ku 0 (ps.map (·.t))).length=(ps.map (·.t.nodes.length)).sum:=by rw [Bx,List.map_map];rfl
 obtain⟨r1,r2⟩:=Nc hr;refine⟨fun lo hi hlt he=>?_,?_,?_,?_,?_,?_⟩
 ·have hpos:0<h:=by
   have hp0:ps[0]?=some ps[0]:=bh;have hm:ps[0]∈ps:=uO hp0;exact((hp _ hm).sub lo hi hlt fun e h'=>he e (List.mem_flatMap.2 ⟨_,hm,h'⟩)).pos
  refine⟨sW (ps.map (·.t)) (ps.map Pl.low),?_,hlt, .inr ⟨hpos,rfl,⟨rfl,by simpa [sW,nI] using h2,by simpa [sW,nI] using h4,by simp [sW,nI];omega,by simp [sW],aa1 lo hi⟩,uK 0 ps,by simp [sW,nI,JJ],rfl,fun j k lj hj nW=>?_⟩⟩
  ·simp [Tr.dm,po]
  ·obtain⟨t,ht,rfl⟩:=Hn hj;obtain⟨p,hpj,rfl⟩:=NQ nW;obtain rfl:p.t=t:=by rw [List.getElem?_map,hpj]at ht;simpa using ht
   have hm:=uO hpj;have hjl:=(dW.1 hpj).1;have hin:∀e∈p.es,lo<=e.key/\e.key<hi:=fun e h'=>he e (List.mem_flatMap.2 ⟨_,hm,h'⟩);obtain⟨e0,he0,hl0⟩:=Pl.Nq (hp p hm).ne;have zl:lo<=fr (sW (ps.map (·.t)) (ps.map Pl.low)).keys lo j/\∀e∈p.es,fr (sW (ps.map (·.t)) (ps.map Pl.low)).keys lo j<=e.key:=by
    unfold fr
    split
    ·exact⟨Int.le_refl _,fun e h=>(hin e h).1⟩
    ·have:((sW (ps.map (·.t)) (ps.map Pl.low)).keys).getD (j-1) 0=p.low:=by
      simp only [sW,List.getD_eq_getElem?_getD,List.getElem?_drop,List.getElem?_map];rw [show 1+(j-1)=j by omega,hpj];rfl
     rw [this];exact⟨by have:=(hin e0 he0).1;omega,Pl.XK (r1 j p hpj)⟩
   have hup:up (sW (ps.map (·.t)) (ps.map Pl.low)).keys hi j<=hi/\∀e∈p.es,e.key<up (sW (ps.map (·.t)) (ps.map Pl.low)).keys hi j:=by
    unfold up
    split
    ·rename_i hk
     have hk:j+1<ps:=(by simp [sW]at hk;omega);have hq:ps[j+1]?=some ps[j+1]:=(by simp [hk]);have hmq:=uO hq;obtain⟨e1,WK,RJ⟩:=Pl.Nq (hp _ hmq).ne;have:((sW (ps.map (·.t)) (ps.map Pl.low)).keys).getD j 0=ps[j+1].low:=by
      simp only [sW,List.getD_eq_getElem?_getD,List.getElem?_drop,List.getElem?_map];rw [show 1+j=j+1 by omega,hq];rfl
     rw [this];refine⟨?_,fun e h=>?_⟩
     ·have:=(he e1 (List.mem_flatMap.2 ⟨_,hmq,WK⟩)).2;omega
     ·have:=r2 j (j+1) p _ ai hpj hq e h e1 WK;omega
    ·exact⟨Int.le_refl _,fun e h=>(hin e h).2⟩
   refine⟨zl.1,hup.1,?_⟩;rw [iR];refine Sub.move (t:=⟨p.t.nodes,-1⟩) (fun n x hx=>?_) rfl ((hp p hm).sub _ _ ?_ fun e h=>⟨zl.2 e h,hup.2 e h⟩)
   ·have h0:=wN hx;have hx':p.t.nodes[n.toNat]?=some x:=(by unfold Tr.dm at hx;rw [aw h0.1]at hx;exact hx);have hc:=SH (s:=0) ht hx';have hlt:=(dW.1 hc).1;unfold Tr.dm;rw [aw ai];simp only [po];rw [show (n+(A0 (ps.map (·.t)) j:Int)).toNat=A0 (ps.map (·.t)) j+n.toNat by omega,rE hlt,hc,iR]
   ·have:=zl.2 e0 he0;have:=hup.2 e0 he0;omega
 ·refine List.nodup_cons.2 ⟨fun hm=>?_,n1⟩;have:=n3 _ hm;rw [hcl]at this;omega
 ·simp only [gD,po,dF,n2,hcl];rfl
 ·intro h0;have hm:ps[0]∈ps:=eZ _;exact(hp _ hm).ne (List.flatMap_eq_nil_iff.1 h0 _ hm)
 ·simp only [Tr.all,po,pK,NP];simp only [sW,fO,List.flatMap_nil,nQ];rw [List.flatMap_map];have:∀qs:List Pl,(∀p∈qs,Pc h p)->(qs.flatMap fun a=>a.t.all)=qs.flatMap (·.es):=by
   intro qs hq
   induction qs with
   |nil=>rfl
   |cons q qs ih=>rw [fO,fO,(hq q bh).all,ih fun p hp=>hq p (by simp [hp])]
  exact this ps hp
 ·rw [vh];simp only [po,sH,List.sum_append,SG];have:∀qs:List Pl,(∀p∈qs,Pc h p)->((qs.map (·.t)).map fun t=>(t.nodes.map Bj).sum).sum<=3*(qs.flatMap (·.es)).length:=by
   intro qs hq
   induction qs with
   |nil=>simp
   |cons q qs ih=>
    have h1:=ih fun p hp=>hq p (by simp [hp]);have h2:=(hq q bh).wt;rw [vh]at h2;simp only [List.map_cons,List.sum_cons,fO,dF];omega
  have:=this ps hp;simp [sW,Bj];simpa using this
theorem Pc.fault {h:Nat} {p:Pl} (hp:Pc h p) (hk:∀e∈p.es,0<=e.key/\e.key<1099511627776) (hn:p.es.length<=1000):aC p.t=0:=by
 have hs:=hp.sub 0 1099511627776 ai hk;have hf:Full p.t h p.l:=⟨hs.Gb (t':=p.t) (fun m _=>rfl) fun m hm h0=>by
  have:=hs.lt' m hm;have h0:m = -1:=h0;omega,hp.nd,hp.len⟩
 exact hf.fault (by have:=hp.wt;omega)
theorem Iw {es:List aH} (h6:es.length<=6) (hc:Checked es) (hr:aY es) (hk:∀e∈es,0<=e.key/\e.key<1099511627776):aC (lU es)=0/\(lU es).all=es:=by
 refine⟨?_,by simp [lU,Tr.all]⟩;have hf:Full (lU es) 1 [0]:=⟨⟨⟨true,es,[],[],[]⟩,rfl,ai, .inl ⟨rfl,rfl,⟨rfl,rfl,rfl,h6, .inr rfl,hc,hk,hr⟩,rfl⟩⟩,bh,rfl⟩;refine hf.fault ?_;rw [vh];simp [lU,Bj];omega
section
variable {es:List aH} {ps:List Pl} {M B:Nat} {lv lo:Value} {w:World}
structure Rt where
 ao:Option Addr
 n:Nat
 cap:Nat
 r:Int
def Gh (q:Rt):List Value:=[ah q.ao q.n q.cap,af q.r]
theorem Jz (q:Rt):(Gh q).length=2:=rfl
structure pj (M:Nat) (w:World) (lv lo:Value) (ps:List Pl) (pX:List Rt):Prop where
 row:w.ownsRow M 27 2 lv ps (pX.flatMap Gh)
 len:pX=ps.length
 trees:∀(i:Nat) q p,pX[i]?=some q->ps[i]?=some p->q.n=p.t.nodes.length/\q.r=p.t.root/\∀w',w.heap.size<=w'.heap.size->(∀b,M<=b->b<w.heap.size->lv.ownBlock≠some b->lo.ownBlock≠some b->w'.heap[b]?=w.heap[b]?)->bn w' (.slice q.ao q.n q.cap) p.t.nodes
 low:w.ownsRow M 3 1 lo ps ((ps.map Pl.low).flatMap bP)
 off:∀b,lv.ownBlock=some b->lo.ownBlock≠some b
theorem pj.nil (M:Nat) (w:World):pj M w (az 0 0) (az 0 0) [] []:=
 ⟨oV _ _ _ _,rfl,fun i q p h=>by simp at h,oV _ _ _ _,fun b h=>by cases h⟩
theorem pj.step {w5 w7:World} {lv' lo':Value} {pX:List Rt} {p:Pl} {ao:Option Addr} {cap:Nat} (h:pj M w lv lo ps pX) (h5:aq w w5) (hM:M<=w)
  (hN:∀w'',aQ w w5 w''->bn w'' (ah ao p.t.nodes cap) p.t.nodes)
  (hE:∀b,b<w5.heap.size->lv.ownBlock≠some b->lo.ownBlock≠some b->w7.heap[b]?=w5.heap[b]?) (hz:w5<=w7.heap.size)
  (hrow:w7.ownsRow M 27 2 lv' (ps.length+1) (pX.flatMap Gh++Gh ⟨ao,p.t.nodes.length,cap,p.t.root⟩)) (yw:w7.ownsRow M 3 1 lo' (ps.length+1) ((ps.map Pl.low).flatMap bP++bP p.low))
  (hv:∀b,lv'.ownBlock=some b->lv.ownBlock=some b\/w5.heap.size<=b) (hl:∀b,lo'.ownBlock=some b->lo.ownBlock=some b\/w5.heap.size<=b) (hoff:∀b,lv'.ownBlock=some b->lo'.ownBlock≠some b) :
  pj M w7 lv' lo' (ps++[p]) (pX++[⟨ao,p.t.nodes.length,cap,p.t.root⟩]):=by
 have s5:=h5.size;have hvl:=h.row.lt;have hll:=h.low.lt;refine⟨by simpa using hrow,by simp [h.len],fun i q p' hq hp'=>?_,by simpa using yw,hoff⟩;by_cases hi:i<ps
 ·rw [rE (by rw [h.len];exact hi)]at hq;rw [rE hi]at hp';obtain⟨e1,e2,e3⟩:=h.trees i q p' hq hp';refine⟨e1,e2,fun w' hw hb=>e3 w' ai fun b b1 b2 b3 b4=>?_⟩;rw [hb b b1 ai (fun e=>by rcases hv b e with e|e;exact b3 e;omega) (fun e=>by rcases hl b e with e|e;exact b4 e;omega)];exact(hE b ai b3 b4).trans (h5.block b b2)
 ·have hi2:=(dW.1 hp').1;rw [dF,List.length_singleton]at hi2;obtain rfl:i=ps:=ai;rw [xw (by rw [h.len];exact nu _),h.len,Nat.sub_self]at hq;rw [xw aO,Nat.sub_self]at hp';simp only [List.getElem?_cons_zero,iJ]at hq hp';subst hq hp';refine⟨rfl,rfl,fun w' hw hb=>hN w' ⟨ai,fun b b1 b2=>?_⟩⟩;have n1:lv.ownBlock≠some b:=fun e=>by have:=(hvl b e).2;omega
  have n2:lo.ownBlock≠some b:=fun e=>by have:=(hll b e).2;omega
  rw [hb b ai ai (fun e=>by rcases hv b e with e|e;exact n1 e;have:=e;omega) (fun e=>by rcases hl b e with e|e;exact n2 e;omega)];exact hE b b2 n1 n2
structure Gv (B:Nat) (w:World) (lv lo:Value) (ps:List Pl) (pX:List Rt):Prop where
 row:ct 2 32 Gh w lv pX
 len:pX=ps.length
 trees:∀(i:Nat) q p,pX[i]?=some q->ps[i]?=some p->q.n=p.t.nodes/\q.r=p.t.root/\∀w',aQ B w w'->bn w' (ah q.ao q.n q.cap) p.t.nodes
 low:gM w lo (ps.map Pl.low)
theorem pj.st {pX:List Rt} (h:pj M w lv lo ps pX) (hs:ps.length<=1000000) (hB:B<=M):Gv B w lv lo ps pX:=
 ⟨ct.owned Jz h.row h.len.symm (by rw [h.len];omega),h.len,fun i q p hq hp=>by
  obtain⟨e1,e2,e3⟩:=h.trees i q p hq hp;exact⟨e1,e2,fun w' hk=>e3 w' hk.size fun b b1 b2 _ _=>hk.block b ai b2⟩,ct.owned fS h.low bh (by simp;omega)⟩
theorem Gv.below {w':World} {C:Nat} {pX:List Rt} (h:Gv C w lv lo ps pX) (hb:Below B w w') (hB:w<=B):Gv C w' lv lo ps pX:=
 ⟨h.row.below hb hB,h.len,fun i q p hq hp=>by
  obtain⟨e1,e2,e3⟩:=h.trees i q p hq hp;exact⟨e1,e2,fun w'' hk=>e3 w'' ((aQ.of hb hB).trans hk)⟩,h.low.below hb hB⟩
structure jb (w3:World) (B:Nat) (rT:Raw) (xT:Nd) (rs:List Raw) (xs:List Nd) (fw:List Raw) (sv:Value) (r0:Int) (zs:List Nd) (j:Nat) (ov:Value) (wr:World):Prop where
 below:aq w3 wr
 Cv:w3+2<=B
 size:B<wr
 out:wr.heap[w3.heap.size]?=some (.cells #[ov,af 0] 27)
 top:wr.heap[w3.heap.size+1]?=some (.cells #[.bool rT.leaf,rT.ev,rT.kv,rT.dv,rT.bv] 125)
 sub:wr.heap[B]?=some (.cells #[sv,af r0] 27)
 FE:wr.ownsRow (w3+2) 125 5 sv zs (fw.flatMap bS)
 row:wr.ownsRow (w3+2) 125 5 ov (xs+j) ((rs++fw.take j).flatMap bS)
 fs:Fs (w3+2) wr (rT::(rs++fw)) (xT::(xs++zs))
 lens:rs=xs.length
 off:∀b,Fb (rT::(rs++fw)) b->b≠B/\ov.ownBlock≠some b/\sv.ownBlock≠some b
 H5:ov.ownBlock≠some B/\sv.ownBlock≠some B
 OD:∀b,ov.ownBlock=some b->sv.ownBlock≠some b
section
variable {w3 wr w7:World} {B:Nat} {rT:Raw} {xT:Nd} {rs:List Raw} {xs:List Nd} {fw:List Raw} {sv:Value} {r0:Int} {zs:List Nd} {j:Nat} {ov:Value}
theorem jb.Uv (h:jb w3 B rT xT rs xs fw sv r0 zs j ov wr):fw=zs.length:=by
 have h1:=h.fs.len;have h2:=h.lens;simp only [gD,dF]at h1;omega
theorem jb.at (h:jb w3 B rT xT rs xs fw sv r0 zs j ov wr) (i:Nat):(rT::(rs++fw))[rs.length+i+1]?=fw[i]?/\(xT::(xs++zs))[rs.length+i+1]?=zs[i]?:=by
 rw [List.getElem?_cons_succ,List.getElem?_cons_succ,xw ai,xw (by rw [h.lens];omega),h.lens];exact⟨by congr 1;omega,by congr 1;omega⟩
theorem jb.kid {i m:Nat} {r:Raw} {z:Nd} (h:jb w3 B rT xT rs xs fw sv r0 zs j ov wr) (hr:fw[i]?=some r) (hz:zs[i]?=some z) (hm:m<z.kids) :
  ∃kb cap,r.dv = .slice (some ⟨kb,0,none⟩) z.kids.length cap/\wr.cell? ⟨kb,m,none⟩=some (.int .i64 z.kids[m])/\(∀o,wr.frozen? ⟨kb,o,none⟩=false) /\
   ∀c,jb w3 B rT xT rs xs fw sv r0 (zs.set i { z with kids:=z.kids.set m c }) j ov (wr.setCell ⟨kb,m,none⟩ (.int .i64 c)):=by
 obtain⟨kb,cap,e1,e2,e3,e4,e5,e6,e7⟩:=h.fs.kid ((h.at i).1.trans hr) ((h.at i).2.trans hz) hm;refine⟨kb,cap,e1,e5,e6,fun c=>?_⟩;obtain⟨o1,o2,o3⟩:=h.off kb e4;have st:∀b,b≠kb->(wr.setCell (kb,m) (af c)).heap[b]?=wr.heap[b]?:=fun b hb=>cH wr ⟨kb,_,none⟩ b _ hb;have fE:(xT::(xs++zs)).set (rs+i+1) { z with kids:=z.kids.set m c }=xT::(xs++zs.set i { z with kids:=z.kids.set m c }):=by
  rw [List.set_cons_succ,List.set_append_right _ _ (by rw [h.lens];omega)]
  congr 3
  rw [h.lens];omega
 refine⟨h.below.setCell (by show w3<=kb;omega) _,h.Cv,by simpa using h.size,(st _ ai).trans h.out,(st _ ai).trans h.top,(st _ (Ne.symm o1)).trans h.sub,?_,?_,fE▸e7 c,h.lens,h.off,h.H5,h.OD⟩
 ·rw [xx];exact bJ h.FE fun g hg=>st g fun e=>o3 (e▸hg)
 ·exact bJ h.row fun g hg=>st g fun e=>o2 (e▸hg)
theorem jb.app {UF:Value} {r:Raw} (h:jb w3 B rT xT rs xs fw sv r0 zs j ov wr) (hr:fw[j]?=some r)
  (hE:∀b,b<wr.heap.size->b≠w3.heap.size->ov.ownBlock≠some b->w7.heap[b]?=wr.heap[b]?) (hz:wr<=w7.heap.size) (hb:aq w3 w7)
  (hout:w7.heap[w3.heap.size]?=some (.cells #[UF,af 0] 27)) (hrow:w7.ownsRow (w3+2) 125 5 UF (xs+j+1) ((rs++fw.take j).flatMap bS++bS r))
  (hv:∀b,UF.ownBlock=some b->ov.ownBlock=some b\/wr.heap.size<=b):jb w3 B rT xT rs xs fw sv r0 zs (j+1) UF w7:=by
 have hB:=h.Cv;have hs:=h.size;have hol:=h.row.lt;have hsl:=h.FE.lt;have hfl:=h.fs.lt;have hj:=(dW.1 hr).1;have no:∀b,b<w3.heap.size+2->ov.ownBlock≠some b:=fun b h1 h2=>by have:=(hol b h2).1;omega
 have e:fw.take (j+1)=fw.take j++[r]:=by rw [ja hj,(dW.1 hr).2]
 refine⟨hb,hB,ai,hout,(hE _ ai ai (no _ ai)).trans h.top,(hE _ hs ai h.H5.1).trans h.sub,bJ h.FE fun g hg=>hE g (hsl g hg).2 (by have:=(hsl g hg).1;omega) fun e=>h.OD g e hg,?_,h.fs.world fun b hf=>hE b (hfl b hf).2 (by have:=(hfl b hf).1;omega) (h.off b hf).2.1,h.lens,fun b hf=>?_,⟨fun e=>?_,h.H5.2⟩,fun b hb' hs'=>?_⟩
 ·rw [e];simpa [Nat.add_assoc] using hrow
 ·obtain⟨o1,o2,o3⟩:=h.off b hf;exact⟨o1,fun e=>by rcases hv b e with e|e;exact o2 e;have:=(hfl b hf).2;omega,o3⟩
 ·rcases hv B e with e|e
  ·exact h.H5.1 e
  ·omega
 ·rcases hv b hb' with e|e
  ·exact h.OD b e hs'
  ·have:=(hsl b hs').2;omega
theorem jb.afk {f:Nat} {v':Value} {Kj:Nd} (h:jb w3 B rT xT rs xs fw sv r0 zs j ov wr) (hf:f<4)
  (hE:∀b,b<wr.heap.size->b≠w3.heap.size+1->(rT.iQ f).ownBlock≠some b->w7.heap[b]?=wr.heap[b]?) (hz:wr<=w7.heap.size) (hb:aq w3 w7)
  (htop:w7.heap[w3.heap.size+1]?=some (.cells #[.bool (rT.kR f v').leaf,(rT.kR f v').ev,(rT.kR f v').kv,(rT.kR f v').dv,(rT.kR f v').bv] 125))
  (hown:w7.ownsRow (w3+2) (fTy f) (fK f) v' (Kj.fN f) (Kj.fC f)) (hv:∀b,v'.ownBlock=some b->(rT.iQ f).ownBlock=some b\/wr.heap.size<=b) (hl:Kj.leaf=xT.leaf) (ho:∀g,g≠f->Kj.fN g=xT.fN g/\Kj.fC g=xT.fC g) :
  jb w3 B (rT.kR f v') Kj rs xs fw sv r0 zs j ov w7:=by
 have hB:=h.Cv;have hs:=h.size;have hol:=h.row.lt;have hsl:=h.FE.lt;have hfl:=h.fs.lt;have hfT:∀b,(rT.iQ f).ownBlock=some b->Fb (rT::(rs++fw)) b:=fun b hb=>⟨0,rT,f,rfl,hb⟩;have nf:∀b,b<w3.heap.size+2->(rT.iQ f).ownBlock≠some b:=fun b h1 h2=>by have:=(hfl b (hfT b h2)).1;omega
 have Vh:=h.fs.field (w':=w7) (n:=0) (r:=rT) (x:=xT) (x':=Kj) rfl rfl hf (fun b hb hne=>hE b (hfl b hb).2 (by have:=(hfl b hb).1;omega) hne) hown hv hl ho;refine⟨hb,hB,ai,(hE _ ai ai (nf _ ai)).trans h.out,htop,(hE _ hs ai fun e=>(h.off B (hfT B e)).1 rfl).trans h.sub,bJ h.FE fun g hg=>hE g (hsl g hg).2 (by have:=(hsl g hg).1;omega) fun e=>(h.off g (hfT g e)).2.2 hg,bJ h.row fun g hg=>hE g (hol g hg).2 (by have:=(hol g hg).1;omega) fun e=>(h.off g (hfT g e)).2.1 hg,by simpa using Vh,h.lens,fun b hf'=>?_,h.H5,h.OD⟩;have src:Fb (rT::(rs++fw)) b\/v'.ownBlock=some b:=by
  obtain⟨i,r,g,hr,hb'⟩:=hf'
  cases i with
  |zero=>
   obtain rfl:rT.kR f v'=r:=by simpa using hr
   by_cases hg:g=f
   ·subst hg;rw [Raw.pO _ hf]at hb';exact .inr hb'
   ·rw [Raw.vw _ hf _ hg]at hb';exact .inl ⟨0,rT,g,rfl,hb'⟩
  |succ i=>exact .inl ⟨i+1,r,g,hr,hb'⟩
 rcases src with hs'|hs'
 ·exact h.off b hs'
 ·rcases hv b hs' with e|e
  ·exact h.off b (hfT b e)
  ·exact⟨ai,fun e'=>by have:=(hol b e').2;omega,fun e'=>by have:=(hsl b e').2;omega⟩
end
structure zg (w3:World) (rT:Raw) (xT:Nd) (rs:List Raw) (xs:List Nd) (ov:Value) (wr:World):Prop where
 below:aq w3 wr
 size:w3+2<=wr.heap.size
 out:wr.heap[w3.heap.size]?=some (.cells #[ov,af 0] 27)
 top:wr.heap[w3.heap.size+1]?=some (.cells #[.bool rT.leaf,rT.ev,rT.kv,rT.dv,rT.bv] 125)
 row:wr.ownsRow (w3+2) 125 5 ov xs (rs.flatMap bS)
 fs:Fs (w3+2) wr (rT::rs) (xT::xs)
 off:∀b,Fb (rT::rs) b->ov.ownBlock≠some b
section
variable {w3 wr w5:World} {B:Nat} {rT:Raw} {xT:Nd} {rs:List Raw} {xs:List Nd} {fw:List Raw} {sv:Value} {r0:Int} {zs:List Nd} {j:Nat} {ov:Value}
theorem zg.lens (h:zg w3 rT xT rs xs ov wr):rs=xs.length:=by have:=h.fs.len;simpa using this
theorem zg.start (w3:World):zg w3 ⟨false,az 0 0,az 0 0,az 0 0,az 0 0⟩ ⟨false,[],[],[],[]⟩ [] [] (az 0 0) ((w3.alloc (.cells #[az 0 0,af 0] 27)).alloc (.cells #[.bool false,az 0 0,az 0 0,az 0 0,az 0 0] 125)):=by
 have hno:∀f b,((⟨false,az 0 0,az 0 0,az 0 0,az 0 0⟩:Raw).iQ f).ownBlock≠some b:=fun f b h=>by
  rcases mA f 4 with h4|h4
  ·rcases xg h4 with rfl|rfl|rfl|rfl <;> cases h
  ·rw [Raw.iH _ h4]at h;cases h
 refine⟨aj,bh,?_,au _ _ bh,oV _ _ _ _,Fs.one (gQ.of rfl (oV _ _ _ _) (oV _ _ _ _) (oV _ _ _ _) (oV _ _ _ _)) fun f g b h=>absurd h (hno f b),fun b _ e=>by cases e⟩;rw [gy _ _ _ bh];exact au _ _ rfl
theorem zg.copy (h:zg w3 rT xT rs xs ov wr) (h5:aq wr w5) (hrow:w5.ownsRow wr 125 5 sv zs (fw.flatMap bS)) (Vh:Fs wr w5 fw zs) (hoff:∀b,Fb fw b->sv.ownBlock≠some b) :
  jb w3 w5 rT xT rs xs fw sv r0 zs 0 ov (w5.alloc (.cells #[sv,af r0] 27)):=by
 have s5:=h5.size;have sz:=h.size;have hol:=h.row.lt;have hsl:=hrow.lt;have hfl:=h.fs.lt;have YA:=Vh.lt;have hb:aq wr (w5.alloc (.cells #[sv,af r0] 27)):=h5.alloc s5 _;have cy:aq w5 (w5.alloc (.cells #[sv,af r0] 27)):=(aW _ _).alloc aO _;have src:∀b,Fb (rT::(rs++fw)) b->Fb (rT::rs) b\/Fb fw b:=by
  rintro b ⟨i,r,f,hr,hb'⟩;rw [<-List.cons_append]at hr;by_cases hi:i<(rT::rs).length
  ·rw [rE hi]at hr;exact .inl ⟨i,r,f,hr,hb'⟩
  ·rw [xw ai]at hr;exact .inr ⟨_,r,f,hr,hb'⟩
 refine⟨aF h.below hb h.below.size,ai,bh,(hb.block _ ai).trans h.out,(hb.block _ ai).trans h.top,au _ _ rfl,cF (cL hrow cy) sz,by simpa using cL h.row hb,?_,h.lens,fun b hf=>?_,⟨fun e=>?_,fun e=>?_⟩,fun b e1 e2=>?_⟩
 ·rw [<-List.cons_append,<-List.cons_append];refine(h.fs.below hb aO).app ((Vh.below cy aO).mono sz) fun b h1 h2=>?_;have:=(hfl b h1).2;have:=(YA b h2).1;omega
 ·rcases src b hf with hf|hf
  ·have:=(hfl b hf).2;exact⟨ai,h.off b hf,fun e=>by have:=(hsl b e).1;omega⟩
  ·have:=(YA b hf).1;have:=(YA b hf).2;exact⟨ai,fun e=>by have:=(hol b e).2;omega,hoff b hf⟩
 ·have:=(hol _ e).2;omega
 ·have:=(hsl _ e).2;omega
 ·have:=(hol b e1).2;have:=(hsl b e2).1;omega
theorem jb.done (h:jb w3 B rT xT rs xs fw sv r0 zs zs ov wr):zg w3 rT xT (rs++fw) (xs++zs) ov wr:=by
 have hs:=h.size;have hB:=h.Cv;refine⟨h.below,ai,h.out,h.top,?_,h.fs,fun b hf=>(h.off b hf).2.1⟩;have:=h.row;rw [<-h.Uv,List.take_length,h.Uv]at this;rw [dF];exact this
end
theorem ES {w1 w'':World} {v:Value} (h:ay B w1 v es) (hB:B<=w1) (hs:es.length<=1000000) (hk:aQ B (w1.alloc (.cells #[.bool true,v,az 0 0,az 0 0,az 0 0] 125)) w'') :
  bn w'' (ah w1 1 1) (lU es).nodes:=by
 have hn:(w1.alloc (.cells #[.bool true,v,az 0 0,az 0 0,az 0 0] 125)).ownsRow B 125 5 (ah w1 1 1) 1 ([(⟨true,v,az 0 0,az 0 0,az 0 0⟩:Raw)].flatMap bS):=
  ⟨rfl, .inr ⟨w1.heap.size,1,_,rfl,hB,au _ _ rfl,nu _,by unfold maxLen;omega,rfl,rfl⟩⟩
 refine⟨[⟨true,v,az 0 0,az 0 0,az 0 0⟩],ct.owned fR (iU hn hk aO) rfl bh,rfl,fun i r x hr hx=>?_⟩
 cases i with
 |zero=>
  simp only [lU,List.getElem?_cons_zero,iJ]at hr hx;subst hr hx;exact⟨rfl,ay.Gp (h.alloc _) aO (show es.length*56<=140737488351232 by omega) hk,ct.nil _ _ _ _,ct.nil _ _ _ _,ct.nil _ _ _ _⟩
 |succ i=>simp at hr
theorem Mb {t:Tr} (hf:aC t=0) (ha:t.all=es) (hr:aY es) (hg:dX es):allT t=some es:=by
 unfold allT;rw [aw hf,mz,ha,List.filter_eq_self.2 fun e he=>by have:=hg.2.1 e he;simp [aV];omega];have:=yU hr hg.1.cp;rw [ky hg.1,aw (mI hr hg.1),this]
end
section
variable {l:List Int}
theorem JH:∀(s:Nat) (ts:List Tr) (t:Tr),ku s (ts++[t])=ku s ts++t.nodes.map (Nd.shift (s+(ku s ts).length))
 |s,[],t=>by simp [ku]
 |s,u::ts,t=>by simp only [List.cons_append,ku,JH (s+u.nodes) ts t,iT,dF,oX,Nat.add_assoc]
theorem Cc:∀(s:Nat) (ts:List Tr) (t:Tr),jE s (ts++[t])=jE s ts++[t.root+((s+(ku s ts).length:Nat):Int)]
 |s,[],t=>by simp [jE,ku]
 |s,u::ts,t=>by simp only [List.cons_append,jE,ku,Cc (s+u.nodes) ts t,dF,oX,Nat.add_assoc]
def Ha (s m:Nat) (x:Nd):Nd:={ x with kids:=(x.kids.take m).map (·+(s:Int))++x.kids.drop m }
def N6 (s j m:Nat) (xs:List Nd):List Nd:=xs.mapIdx fun i x=>if i<j then x.shift s else if i=j then Ha s m x else x
section
variable {s j m:Nat} {x:Nd} {xs:List Nd}
theorem G9 (s:Nat) (x:Nd):Ha s 0 x=x:=by simp [Ha]
theorem Uy (s:Nat) (x:Nd):Ha s x.kids x=x.shift s:=by simp [Ha,Nd.shift]
theorem Bn (hm:m<=x.kids):(Ha s m x).kids.length=x.kids:=by simp [Ha];omega
theorem Ux (hm:m<x.kids):(Ha s m x).kids[m]?=some x.kids[m]:=by
 simp only [Ha];rw [xw fk];simp [hm,Nat.min_eq_left (Nat.le_of_lt hm)]
theorem Uw (hm:m<x.kids):{ Ha s m x with kids:=(Ha s m x).kids.set m (x.kids[m]+(s:Int)) }=Ha s (m+1) x:=by
 have h1:((x.kids.take m).map (·+(s:Int))).length=m:=by simp;omega
 simp only [Ha,Nd.mk.injEq,true_and,and_true];rw [List.set_append_right _ _ ai,h1,Nat.sub_self,ja hm,sH,iT,qI hm];rfl
theorem Fm:(N6 s j m xs).length=xs:=by simp [N6]
theorem qL (i:Nat):(N6 s j m xs)[i]?=xs[i]?.map fun x=>if i<j then x.shift s else if i=j then Ha s m x else x:=by simp [N6,List.getElem?_mapIdx]
theorem Qp (hx:xs[j]?=some x):(N6 s j m xs)[j]?=some (Ha s m x):=by rw [qL,hx];simp
theorem Ul (hx:xs[j]?=some x) (hm:m<x.kids):(N6 s j m xs).set j { Ha s m x with kids:=(Ha s m x).kids.set m (x.kids[m]+(s:Int)) }=N6 s j (m+1) xs:=by
 have hj:=(dW.1 hx).1;rw [Uw hm];refine List.ext_getElem? fun i=>?_;by_cases hi:j=i
 ·subst hi;rw [List.getElem?_set_self (by rw [Fm];exact hj),qL,hx];simp
 ·rw [zV hi,qL,qL];have:¬i=j:=fun e=>hi e.symm;simp only [ar this]
theorem Qn (hx:xs[j]?=some x):N6 s j x.kids xs=N6 s (j+1) 0 xs:=by
 refine List.ext_getElem? fun i=>?_;rw [qL,qL];by_cases hi:i=j
 ·subst hi;rw [hx];simp [Uy]
 ·cases hxi:xs[i]? with
  |none=>rfl
  |some y=>
   simp only [Option.map_some,ar hi];by_cases h1:i<j
   ·rw [aw h1,aw ai]
   ·rw [ar h1,ar ai,G9];simp
theorem N5 (s:Nat) (xs:List Nd):N6 s 0 0 xs=xs:=by
 refine List.ext_getElem? fun i=>?_;rw [qL]
 cases xs[i]? with
 |none=>rfl
 |some y=>simp [G9]
theorem Qo (s:Nat) (xs:List Nd):N6 s xs 0 xs=xs.map (Nd.shift s):=by
 refine List.ext_getElem? fun i=>?_;rw [qL,List.getElem?_map]
 cases hx:xs[i]? with
 |none=>rfl
 |some y=>rw [Option.map_some,Option.map_some,aw (dW.1 hx).1]
end
structure Kb (p:Pl):Prop where
 cnt:p.t.nodes+1<=2*p.es.length
 kids:∀x∈p.t.nodes,∀k∈x.kids,0<=k/\k<(p.t.nodes.length:Int)
 root:0<=p.t.root/\p.t.root<(p.t.nodes.length:Int)
theorem Kb.leaf {es:List aH} (h0:es≠[]):Kb ⟨lU es,es,l⟩:=by
 have:=List.length_pos_iff.2 h0;exact⟨by simp [lU];omega,fun x hx k hk=>(by simp [lU]at hx;subst hx;cases hk),by simp [lU]⟩
theorem JI:∀(ts:List Tr) (s:Nat),(∀t∈ts,(∀x∈t.nodes,∀k∈x.kids,0<=k/\k<(t.nodes.length:Int))/\0<=t.root/\t.root<(t.nodes.length:Int)) ->
  (∀x∈ku s ts,∀k∈x.kids,0<=k/\k<((s+(ku s ts).length:Nat):Int))/\∀k∈jE s ts,0<=k/\k<((s+(ku s ts).length:Nat):Int)
 |[],s,_=>⟨fun x hx=>(by cases hx),fun k hk=>(by cases hk)⟩
 |t::ts,s,h=>by
  obtain⟨h1,h2⟩:=JI ts (s+t.nodes) fun u hu=>h u (by simp [hu]);obtain⟨g1,g2⟩:=h t bh;simp only [ku,jE,dF,oX];refine⟨fun x hx k hk=>?_,fun k hk=>?_⟩
  ·rcases kW.1 hx with hx|hx
   ·obtain⟨y,hy,rfl⟩:=ua.1 hx;obtain⟨q,hq,rfl⟩:=ua.1 hk;have:=g1 y hy q hq;omega
   ·have:=h1 x hx k hk;omega
  ·rcases fy.1 hk with rfl|hk
   ·omega
   ·have:=h2 k hk;omega
theorem Kb.join {ps:List Pl} (hp:∀p∈ps,Kb p) (h2:2<=ps.length):Kb ⟨po (ps.map (·.t)) (ps.map Pl.low),ps.flatMap (·.es),l⟩:=by
 obtain⟨k1,k2⟩:=JI (ps.map (·.t)) 0 fun t ht=>by
  obtain⟨p,hp',rfl⟩:=ua.1 ht;exact⟨(hp p hp').kids,(hp p hp').root⟩
 have hc:(ku 0 (ps.map (·.t))).length+ps<=2*(ps.flatMap (·.es)).length:=by
  rw [Bx];clear k1 k2 h2
  induction ps with
  |nil=>simp
  |cons p ps ih=>
   have h1:=ih fun q hq=>hp q (by simp [hq]);have h2:=(hp p bh).cnt;simp only [List.map_cons,List.sum_cons,gD,fO,dF];omega
 refine⟨by simp only [po,dF,List.length_singleton];omega,fun x hx k hk=>?_,by simp only [po,dF,List.length_singleton];omega⟩;simp only [po,dF,List.length_singleton]at hx ⊢;rcases kW.1 hx with hx|hx
 ·have:=k1 x hx k hk;omega
 ·obtain rfl:=oY.1 hx;have:=k2 k hk;omega
end
section
variable {a:Act} {Q:Exit->Act->World->Prop} {i:Int} {ps:List Pl} {pX:List Rt} {g n cap z B M c:Nat} {o:Oper} {p:Pl} {t e:TypeId} {lv lo:Value} {w w5 w6:World}
theorem Tryz.Wm:(Tryz.prog.info? 27).map (fun i=>(i.zero.map (fun z=>z.cells.size),i.size,i.bytes))=some (some 2,2,32):=cV
theorem Fq {k sz:Nat} {K:Act->World->Prop} (s x:Operand)
  (ho:o.op = .call { callee:= .builtin .append,args:=#[s,x],argTypes:=#[t,t] }) (ht:Tryz.prog.underlying t=some (.slice e)) (hi:(Tryz.prog.info? e).map (fun i=>(i.zero.map (fun z=>z.cells.size),i.size,i.bytes))=some (some k,k,sz)) (hk:0<k) (hsz:sz<=200)
  (B:Nat) (v:Value) (n:Nat) (us:List Value) (hs:a.eval s=v) (hown:w.ownsRow B e k v n us) (b c:Nat) (cs:List Value) {fr:Nat×Nat} (hx:a.eval x=ah b 1 c) (hb:w.heap[b]?=some (.cells cs.toArray e fr)) (hl:cs=k) (h1:∀u∈cs,u.oneCell'=true)
  (hn:n<=1000000) (hbase:B<=w)
  (h:∀g cap w',w'.ownsRow B e k (ah g (n+1) cap) (n+1) (us++cs)->w.grownBy w' v.ownBlock->(v.ownBlock=some g\/g=w.heap.size)->g<w'.heap.size->K (a.put o.dst (ah g (n+1) cap)) w'):o.wp Tryz.prog a w K Q:=by
 obtain⟨i0,z,hi,hz,hz1,hz2,hz3⟩:=cG hi;refine Go.wp_append_lies w s x t ho B e i0 z k sz ht hi hz hz1 hz2 hz3 hk v n us hs hown (b,0) 1 c cs hx ai (fun j u hu=>World.news_of_block hb j u (by simpa using hu)) h1 bY iI ?_ hbase w rfl h;exact fZ (Nat.mul_le_mul (show n+1<=1000001 by omega) hsz) bY
theorem lO {k sz:Nat} {ops:Array Oper} {rest:List Oper} (hgd:o.guard=none) (s x:Operand)
  (ho:o.op = .call { callee:= .builtin .append,args:=#[s,x],argTypes:=#[t,t] }) (ht:Tryz.prog.underlying t=some (.slice e)) (hi:(Tryz.prog.info? e).map (fun i=>(i.zero.map (fun z=>z.cells.size),i.size,i.bytes))=some (some k,k,sz)) (hk:0<k) (hsz:sz<=200)
  (B:Nat) (v:Value) (n:Nat) (us:List Value) (hs:a.eval s=v) (hown:w.ownsRow B e k v n us) (b c:Nat) (cs:List Value) {fr:Nat×Nat} (hx:a.eval x=ah b 1 c) (hb:w.heap[b]?=some (.cells cs.toArray e fr)) (hl:cs=k) (h1:∀u∈cs,u.oneCell'=true)
  (hn:n<=1000000) (hbase:B<=w)
  (h:∀g cap w',w'.ownsRow B e k (ah g (n+1) cap) (n+1) (us++cs)->w.grownBy w' v.ownBlock->(v.ownBlock=some g\/g=w.heap.size)->g<w'.heap.size->wpList Tryz.prog ops Q rest (a.put o.dst (ah g (n+1) cap)) w'):wpList Tryz.prog ops Q (o::rest) a w:=
 wpList_plain hgd fun _ hK=>Fq s x ho ht hi hk hsz B v n us hs hown b c cs hx hb hl h1 hn hbase fun g cap w' h2 h3 h4 h5=>hK _ _ (h g cap w' h2 h3 h4 h5)
theorem Qx {o a:Nat} {j:Int} (hi:i=(a:Int)) (hj:j=(z:Int)) (ha:a<z) (hz:z<=n) (hc:n<=cap) (W:World):(Instr.sliceAt 35 (ah (some (g,o)) n cap) (some (af i)) (some (af j)) none).run Tryz.prog W = .ok (ah (some (g,o+a*7)) (z-a) (cap-a)) W:=by
 have h0:0<=i:=ai;have h1:i<=j:=ai;have h2:i.toNat=a:=ai;have h3:j.toNat=z:=ai;have h5:j<=cap:=ai;have h7:cap≠a:=ai;simp [go_sem,h0,h1,h2,h3,h5,h7,sliced]
theorem JP {C:Nat} {w1 w2:World} (h:Below B w w1) (h':Below C w1 w2) (hB:B<=C):Below B w w2:=
 ⟨h'.os.trans h.os,h'.tape.trans h.tape,h'.output.trans h.output,fZ h.size h'.size,fun k hk=>(h'.block k ai).trans (h.block k hk)⟩
theorem ct.sub {α:Type} {k sz:Nat} {en:α->List Value} {xs:List α} {b off a:Nat} (h:ct k sz en w (ah (some (b,off)) xs cap) xs) (ha:a<z) (hz:z<=xs) :
  ct k sz en w (ah (some (b,off+a*k)) (z-a) (cap-a)) ((xs.take z).drop a):=by
 obtain⟨ao,c,e,h1,h2,h3,h4,h5⟩:=h;injection e with e1 _ e3;subst e3;have hl:((xs.take z).drop a).length=z-a:=by simp;omega
 refine⟨some (b,off+a*k),cap-a,by rw [hl],ai,ai,?_,nofun,fun h=>?_⟩
 ·exact fZ (Nat.mul_le_mul_right _ ai) h3
 ·obtain⟨b2,o2,e2,hlt,hc⟩:=h5 ai;rw [<-e1]at e2;injection e2 with e2;injection e2 with eb eo _;subst eb eo;refine⟨b,off+a*k,rfl,hlt,fun i x hx j u hu=>?_⟩;rw [List.getElem?_drop,rF]at hx
  split at hx
  ·have:=hc (a+i) x hx j u hu;rw [Nat.add_mul]at this;rw [show off+a*k+i*k+j=off+(a*k+i*k)+j by omega];exact this
  ·cases hx
theorem pj.nil' (h:w.heap[B]?=some (.cells #[] 27)) (hM:M<=B):pj M w (ah B 0 0) (az 0 0) [] []:=
 ⟨⟨rfl, .inr ⟨B,0,_,rfl,hM,h,nu _,bY,rfl,rfl⟩⟩,rfl,fun i q p h=>by simp at h,oV _ _ _ _,fun b _ h=>by cases h⟩
theorem pj.grow {w7:World} {ao:Option Addr} {g2 c2:Nat} {o:Obj} (h:pj M w lv lo ps pX) (h5:aq w w5) (hM:M<=w)
  (hN:∀w'',aQ w w5 w''->bn w'' (ah ao p.t.nodes cap) p.t.nodes)
  (r6:w6.ownsRow M 27 2 (ah g (ps+1) c) (ps+1) (pX.flatMap Gh++Gh ⟨ao,p.t.nodes.length,cap,p.t.root⟩)) (h6:w5.grownBy w6 lv.ownBlock) (e6:lv.ownBlock=some g\/g=w5)
  (r7:w7.ownsRow M 3 1 (ah g2 (ps+1) c2) (ps+1) ((ps.map Pl.low).flatMap bP++bP p.low)) (h7:(w6.alloc o).grownBy w7 lo.ownBlock) (e7:lo.ownBlock=some g2\/g2=(w6.alloc o).heap.size) :
  pj M w7 (ah g (ps+1) c) (ah g2 (ps+1) c2) (ps++[p]) (pX++[⟨ao,p.t.nodes.length,cap,p.t.root⟩])/\Below M w5 w7:=by
 have s5:=h5.size;have s6:=h6.size;have s7:=h7.size;have sa:(w6.alloc o).heap.size=w6+1:=bh;have hvl:=h.row.lt;have hll:=h.low.lt;have hg6:=(r6.lt g rfl).2;have ha:∀b,b<w6.heap.size->(w6.alloc o).heap[b]?=w6.heap[b]?:=fun b hb=>gy _ _ _ hb;have hgl:lo.ownBlock≠some g:=fun e=>by
  rcases e6 with e6|e6
  ·exact h.off g e6 e
  ·have:=(hll g e).2;omega
 have hgg:g≠g2:=fun e=>by
  rcases e7 with e7|e7
  ·exact hgl (e▸e7)
  ·omega
 refine⟨h.step h5 hM hN (fun b b1 b2 b3=>?_) ai (bJ r6 fun b hb=>?_) r7 (fun b hb=>?_) (fun b hb=>?_) fun b hb hb'=>?_,?_⟩
 ·rw [h7.block b ai (fun e=>b3 e.symm),ha b ai];exact h6.block b b1 fun e=>b2 e.symm
 ·obtain rfl:g=b:=dh hb;rw [h7.block g ai (fun e=>hgl e.symm),ha g ai]
 ·obtain rfl:g=b:=dh hb;rcases e6 with e6|e6
  ·exact .inl e6
  ·right;omega
 ·obtain rfl:g2=b:=dh hb;rcases e7 with e7|e7
  ·exact .inl e7
  ·right;omega
 ·obtain rfl:g=b:=dh hb;exact hgg (dh hb').symm
 ·refine nP ?_ h7 ai fun b hb=>(hll b hb).1;exact(nP (aW _ _) h6 ai fun b hb=>(hvl b hb).1).alloc ai _
theorem pj.ab9 (h:pj M w lv lo ps pX) (h5:aq w w5) (h6:w5.grownBy w6 lv.ownBlock) (o:Obj):(w6.alloc o).ownsRow M 3 1 lo ps ((ps.map Pl.low).flatMap bP):=
 bJ h.low fun b hb=>by
  have h1:=(h.low.lt b hb).2;have h2:=h5.size;have h3:=h6.size;exact(gy _ _ _ ai).trans ((h6.block b ai fun e=>h.off b e.symm hb).trans (h5.block b h1))
theorem UW {l:List aH} {q T:Nat} (hq:q<l) (h1:q<T) (h2:T<=l) (h3:T<=q+6) (h4:T=l\/T=q+6) (hc:Checked l) (hr:aY l) :
  l.take q++(l.take T).drop q=l.take (q+6)/\Pl.low ⟨lU ((l.take T).drop q),(l.take T).drop q,[0]⟩=l[q].key/\Pc 1 ⟨lU ((l.take T).drop q),(l.take T).drop q,[0]⟩/\Kb ⟨lU ((l.take T).drop q),(l.take T).drop q,[0]⟩:=by
 have hs:((l.take T).drop q).Sublist l:=(List.drop_sublist _ _).trans (List.take_sublist _ _);have hl:((l.take T).drop q).length=T-q:=by simp;omega
 have hne:(l.take T).drop q≠[]:=fun e=>by rw [e]at hl;simp at hl;omega
 have hqt:q<(l.take T).length:=by simp;omega
 refine⟨?_,?_,Pc.leaf hne ai (fun e he=>hc e (hs.subset he)) (hr.sublist hs),Kb.leaf hne⟩
 ·have e1:l.take T=l.take (q+6):=by
   rcases h4 with rfl|rfl
   ·rw [List.take_length,iM ai]
   ·rfl
  have e2:l.take q=(l.take T).take q:=by rw [List.take_take,Nat.min_eq_left ai]
  rw [e2,rG,e1]
 ·rw [qI hqt];simp [Pl.low]
def L3 (r:Nat):Nat:=if r=5 then 3 else if r<4 then r else 4
theorem Vu {r:Nat} (h:r≠1) (h0:0<r):2<=L3 r/\L3 r<=4/\L3 r<=r/\r-L3 r≠1:=by
 unfold L3
 split
 ·omega
 ·split <;> omega
def gW (ps:List Pl) (k:Nat):Nd:=⟨false,[],((ps.take k).map Pl.low).drop 1,jE 0 ((ps.take k).map (·.t)),[]⟩
def ic (ps:List Pl) (k:Nat):List Nd:=ku 0 ((ps.take k).map (·.t))
theorem E9 {k:Nat} (h:ps[k]?=some p):ic ps (k+1)=ic ps k++p.t.nodes.map (Nd.shift (ic ps k).length):=by
 obtain⟨hk,e⟩:=dW.1 h;unfold ic;rw [ja hk,e,sH,List.map_singleton,JH,iR]
theorem EA {k:Nat} (h:ps[k]?=some p):gW ps (k+1)=⟨false,[],if k=0 then(gW ps k).keys else(gW ps k).keys++[p.low],(gW ps k).kids++[p.t.root+((ic ps k).length:Int)],[]⟩:=by
 obtain⟨hk,e⟩:=dW.1 h;have e1:((ps.take (k+1)).map Pl.low).drop 1=if k=0 then((ps.take k).map Pl.low).drop 1 else((ps.take k).map Pl.low).drop 1++[p.low]:=by
  rw [ja hk,e,sH,List.map_singleton];by_cases h0:k=0
  ·subst h0;simp
  ·rw [ar h0,List.drop_append_of_le_length fk]
 have e2:jE 0 ((ps.take (k+1)).map (·.t))=jE 0 ((ps.take k).map (·.t))++[p.t.root+((ic ps k).length:Int)]:=by
  unfold ic;rw [ja hk,e,sH,List.map_singleton,Cc,iR]
 unfold gW;rw [e1,e2]
theorem Oh (ps:List Pl):gW ps 0=⟨false,[],[],[],[]⟩:=by simp [gW,jE]
theorem PL (ps:List Pl):ic ps 0=[]:=by simp [ic,ku]
theorem LB (ps:List Pl):(po (ps.map (·.t)) (ps.map Pl.low)).nodes=ic ps ps++[gW ps ps]/\(po (ps.map (·.t)) (ps.map Pl.low)).root=((ic ps ps).length:Int):=by
 simp [po,ic,gW,sW]
theorem Rn {ab aR j:Nat} (h:i=j) (hj:j<n) (w:World):(Instr.indexAt 149 (ah (some (ab,aR)) n cap) (af i)).run Tryz.prog w = .ok (.pointer (some (ab,aR+j*2))) w:=by
 subst h;go_simp
theorem Gv.cells {va:Option Addr} (h:Gv B w (ah va n c) lo ps pX) {i:Nat} (hp:ps[i]?=some p) :
  ∃b off q,va=some ⟨b,off,none⟩/\b<w.heap.size/\pX[i]?=some q/\q.n=p.t.nodes/\q.r=p.t.root/\(∀w',aQ B w w'->bn w' (ah q.ao q.n q.cap) p.t.nodes)/\∀w',aq w w'->w'.cell? (b,off+i*2)=some (ah q.ao q.n q.cap)/\(w',b,off+i*2+1,q.r):=by
 have hi:=(dW.1 hp).1;obtain⟨q,hq⟩:∃q,pX[i]?=some q:=⟨pX[i]'(by rw [h.len];exact hi),bh⟩;obtain⟨e1,e2,e3⟩:=h.trees i q p hq hp;obtain⟨ao,cap,e,-,-,-,-,h5⟩:=h.row;injection e with ea _ _;subst ea;obtain⟨b,off,rfl,hb,hc⟩:=h5 (by rw [h.len];omega);refine⟨b,off,q,rfl,hb,hq,e1,e2,e3,fun w' hw=>⟨(hw.cell (p:=⟨b,_,none⟩) hb).trans (hc i q hq 0 _ rfl),(hw.cell (p:=⟨b,_,none⟩) hb).trans (hc i q hq 1 _ rfl)⟩⟩
theorem Gv.OM {oa:Option Addr} (h:Gv B w lv (ah oa n c) ps pX) {i:Nat} (hp:ps[i]?=some p) :
  ∃b off,oa=some ⟨b,off,none⟩/\b<w.heap.size/\∀w',aq w w'->w'.cell? (b,off+i)=some (af p.low):=by
 have hi:=(dW.1 hp).1;obtain⟨ao,cap,e,-,-,-,-,h5⟩:=h.low;injection e with ea _ _;subst ea;obtain⟨b,off,rfl,hb,hc⟩:=h5 fk;refine⟨b,off,rfl,hb,fun w' hw=>?_⟩;have hg:(ps.map Pl.low)[i]?=some p.low:=by rw [List.getElem?_map,hp];rfl
 have:=hc i _ hg 0 _ rfl;rw [Nat.mul_one,Nat.add_zero]at this;exact(hw.cell (p:=⟨b,_,none⟩) hb).trans this
end
section
variable {qs ts:List Pl} {pX:List Rt} {n i f g cap:Nat} {z:Nd} {o:Obj} {p:Pl} {r:Raw} {lv lo:Value}
theorem Y5 {j:Nat} {l:List aH} (h:j+n<=qs) (he:qs.flatMap Pl.es=l) (hr:aY l) :
  ((qs.drop j).take n).length=n/\(∀(k:Nat) p,((qs.drop j).take n)[k]?=some p->qs[j+k]?=some p)/\(∀p∈(qs.drop j).take n,p∈qs)/\(qs.take j).flatMap Pl.es++((qs.drop j).take n).flatMap Pl.es=(qs.take (j+n)).flatMap Pl.es/\aY (((qs.drop j).take n).flatMap Pl.es)/\(((qs.drop j).take n).flatMap Pl.es).length<=l:=by
 refine⟨by simp;omega,fun k p hp=>?_,fun p hp=>uP (uQ hp),?_,?_⟩
 ·rw [rF]at hp
  split at hp
  ·rwa [List.getElem?_drop]at hp
  ·cases hp
 ·rw [List.take_add,pK]
 ·have e:l=(qs.take j).flatMap Pl.es++(((qs.drop j).take n).flatMap Pl.es++((qs.drop j).drop n).flatMap Pl.es):=by
   rw [<-pK,<-pK,rG,rG,he]
  rw [e]at hr ⊢;exact⟨(List.pairwise_append.1 (List.pairwise_append.1 hr).2.1).1,by simp only [dF];omega⟩
theorem ad2 (h:p∈ts):p.es<=(ts.flatMap Pl.es).length:=by
 induction ts with
 |nil=>cases h
 |cons q ts ih=>
  rw [fO,dF];rcases fy.1 h with rfl|h
  ·omega
  ·have:=ih h;omega
theorem UQ (T:Nd) (c:List Int) (g:Nat) (hg:g≠2):({ T with kids:=c }:Nd).fN g=T.fN g/\({ T with kids:=c }:Nd).fC g=T.fC g:=
 match g,hg with|0,_=>⟨rfl,rfl⟩|1,_=>⟨rfl,rfl⟩|2,h=>absurd rfl h|3,_=>⟨rfl,rfl⟩|_+4,_=>⟨rfl,rfl⟩
theorem UR (T:Nd) (c:List Int) (g:Nat) (hg:g≠1):({ T with keys:=c }:Nd).fN g=T.fN g/\({ T with keys:=c }:Nd).fC g=T.fC g:=
 match g,hg with|0,_=>⟨rfl,rfl⟩|1,h=>absurd rfl h|2,_=>⟨rfl,rfl⟩|3,_=>⟨rfl,rfl⟩|_+4,_=>⟨rfl,rfl⟩
section
variable {w3 wr w6:World} {B:Nat} {rT:Raw} {xT:Nd} {rs:List Raw} {xs:List Nd} {fw:List Raw} {sv:Value} {r0:Int} {zs:List Nd} {j:Nat} {ov:Value}
theorem jb.drew (h:jb w3 B rT xT rs xs fw sv r0 zs j ov wr):jb w3 B rT xT rs xs fw sv r0 zs j ov wr.drew:=
 ⟨h.below.drew,h.Cv,h.size,h.out,h.top,h.sub,h.FE,h.row,h.fs.world fun _ _=>rfl,h.lens,h.off,h.H5,h.OD⟩
theorem jb.dv (h:jb w3 B rT xT rs xs fw sv r0 zs j ov wr) (hr:fw[i]?=some r) (hz:zs[i]?=some z):∃ao cap,r.dv=ah ao z.kids cap:=
 aU ((h.fs.uz _ r z ((h.at i).1.trans hr) ((h.at i).2.trans hz)).row 2)
theorem jb.raw (h:jb w3 B rT xT rs xs fw sv r0 zs j ov wr) (hr:fw[i]?=some r) :
  ∃sb sc,sv = .slice (some ⟨sb,0,none⟩) zs.length sc/\w3.heap.size+2<=sb/\sb<wr.heap.size/\sb≠B/\ov.ownBlock≠some sb/\∀w':World,w'.heap[sb]?=wr.heap[sb]?->w'.cell? ⟨sb,i*5,none⟩=some (.bool r.leaf)/\w'.cell? ⟨sb,i*5+1,none⟩=some r.ev/\w'.cell? ⟨sb,i*5+2,none⟩=some r.kv/\w'.cell? ⟨sb,i*5+3,none⟩=some r.dv/\w'.cell? ⟨sb,i*5+4,none⟩=some r.bv:=by
 obtain⟨hi,e⟩:=dW.1 hr;have hl:=h.Uv;obtain⟨_,⟨-,h0⟩|⟨g,cap,cur,hv,-,-,-,-,-,-⟩⟩:=id h.FE
 ·omega
 ·have ni:sv.ownBlock=some g:=by rw [hv];rfl
  have hlt:=h.FE.lt g ni;refine⟨g,cap,hv,hlt.1,hlt.2,fun e=>h.H5.2 (e▸ni),fun e=>h.OD g e ni,fun w' hw=>?_⟩;have h1:=bJ (w':=w') h.FE fun b hb=>by obtain rfl:g=b:=dh (ni.symm.trans hb);exact hw
  rw [hv]at h1;obtain⟨c0,c1,c2,c3,c4,-⟩:=vF h1 hl hi;rw [e]at c0 c1 c2 c3 c4;exact⟨c0,c1,c2,c3,c4⟩
abbrev SuR (b0 B sb o:Nat) (r:Raw) (ov sv:Value) (W:World):Prop:=
 W.cell? (b0,0)=some ov/\W.cell? (B,0)=some sv/\W.cell? (sb,o)=some (.bool r.leaf)/\W.cell? (sb,o+1)=some r.ev/\W.cell? (sb,o+2)=some r.kv/\W.cell? (sb,o+3)=some r.dv/\W.cell? (sb,o+4)=some r.bv
theorem jb.reads {sb sc:Nat} (h:jb w3 B rT xT rs xs fw (ah sb n sc) r0 zs j ov wr) (hr:fw[i]?=some r) {W:World} (hw:∀b,b<wr.heap.size->ov.ownBlock≠some b->W.heap[b]?=wr.heap[b]?) :
  SuR w3.heap.size B sb (i*5) r ov (.slice (some ⟨sb,0,none⟩) n sc) W:=by
 have hB:=h.size;have hlB:=h.Cv;have hol:=h.row.lt;obtain⟨sb',wF,Rv,g1,g2,g3,g4,ahG⟩:=h.raw hr;injection Rv with Rv _ _;injection Rv with Rv;injection Rv with Rv _ _;subst Rv;have w1:=(hw w3 ai fun e=>by have:=(hol _ e).1;omega).trans h.out;have w2:=(hw B hB h.H5.1).trans h.sub;exact⟨by simp [World.cell?,w1],by simp [World.cell?,w2],ahG W (hw _ g2 g4)⟩
theorem jb.tv (h:jb w3 B rT xT rs xs fw sv r0 zs j ov wr) (hf:f=1\/f=2):∃ao cap,rT.iQ f=ah ao (xT.fN f) cap/\∀o,(wr.alloc o).ownsRow (w3+2) 3 1 (rT.iQ f) (xT.fN f) (xT.fC f):=by
 have h1:=(h.fs.uz 0 rT xT rfl rfl).row f;have h2:wr.ownsRow (w3+2) 3 1 (rT.iQ f) (xT.fN f) (xT.fC f):=by rcases hf with rfl|rfl <;> exact h1
 obtain⟨ao,cap,e⟩:=aU h2;exact⟨ao,cap,e,fun o=>cL h2 ((aW _ _).alloc aO o)⟩
theorem jb.one (h:jb w3 B rT xT rs xs fw sv r0 zs j ov wr) (hr:fw[i]?=some r) (hz:zs[i]?=some z):∀u∈bS r,u.oneCell'=true:=by
 have hn:=h.fs.uz _ r z ((h.at i).1.trans hr) ((h.at i).2.trans hz);obtain⟨a0,c0,e0⟩:=aU (hn.row 0);obtain⟨a1,c1,e1⟩:=aU (hn.row 1);obtain⟨a2,c2,e2⟩:=aU (hn.row 2);obtain⟨a3,c3,e3⟩:=aU (hn.row 3);intro u hu;simp only [bS,fy,List.not_mem_nil,or_false]at hu;rcases hu with rfl|rfl|rfl|rfl|rfl
 ·rfl
 ·exact(congrArg Value.oneCell' (show r.ev=_ from e0)).trans rfl
 ·exact(congrArg Value.oneCell' (show r.kv=_ from e1)).trans rfl
 ·exact(congrArg Value.oneCell' (show r.dv=_ from e2)).trans rfl
 ·exact(congrArg Value.oneCell' (show r.bv=_ from e3)).trans rfl
theorem jb.done' (h:jb w3 B rT xT rs xs fw sv r0 zs j ov wr) (hj:j=zs):zg w3 rT xT (rs++fw) (xs++zs) ov wr:=by
 subst hj;exact h.done
theorem jb.push (h:jb w3 B rT xT rs xs fw sv r0 zs j ov wr) (hr:fw[j]?=some r)
  (r6:w6.ownsRow (w3+2) 125 5 (ah g (xs+j+1) cap) (xs+j+1) ((rs++fw.take j).flatMap bS++bS r)) (h6:(wr.alloc o).grownBy w6 ov.ownBlock) (e6:ov.ownBlock=some g\/g=(wr.alloc o).heap.size) :
  jb w3 B rT xT rs xs fw sv r0 zs (j+1) (ah g (xs+j+1) cap) (w6.setCell (w3,0) (ah g (xs+j+1) cap)):=by
 have hs:=h.size;have hB:=h.Cv;have hol:=h.row.lt;have sa:(wr.alloc o).heap.size=wr+1:=bh;have s6:=h6.size;have ha:∀b,b<wr.heap.size->ov.ownBlock≠some b->w6.heap[b]?=wr.heap[b]?:=fun b hb hn=>(h6.block b ai fun e=>hn e.symm).trans (gy _ _ _ hb);have no:ov.ownBlock≠some w3.heap.size:=fun e=>by have:=(hol _ e).1;omega
 have hg:=(r6.lt g rfl).1;refine h.app hr (fun b hb hne hn=>(cH _ ⟨w3.heap.size,_,none⟩ b _ hne).trans (ha b hb hn)) (by simp only [aG];omega) ((nP (h.below.alloc h.below.size o) h6 (by have:=h.below.size;omega) fun b hb=>by have:=(hol b hb).1;omega).setCell aO _) ?_ (jy r6 ai _) fun b hb=>?_
 ·have:=aM (off:=0) (v:=ah g (xs+j+1) cap) ((ha _ ai no).trans h.out);simpa using this
 ·obtain rfl:g=b:=dh hb;rcases e6 with e|e
  ·exact .inl e
  ·right;omega
theorem jb.num {c:Int} {Kj:Nd} {us:List Int} (h:jb w3 B rT xT rs xs fw sv r0 zs j ov wr) (hf:f=1\/f=2) (hn:Kj.fN f=us+1) (hc:Kj.fC f=us.flatMap bP++bP c)
  (r6:w6.ownsRow (w3+2) 3 1 (ah g (us+1) cap) (us+1) (us.flatMap bP++bP c)) (h6:(wr.alloc o).grownBy w6 (rT.iQ f).ownBlock) (e6:(rT.iQ f).ownBlock=some g\/g=(wr.alloc o).heap.size)
  (hl:Kj.leaf=xT.leaf) (ho:∀g,g≠f->Kj.fN g=xT.fN g/\Kj.fC g=xT.fC g) :
  jb w3 B (rT.kR f (ah g (us+1) cap)) Kj rs xs fw sv r0 zs j ov (w6.setCell (w3,1,f+1) (ah g (us+1) cap)):=by
 have hs:=h.size;have hB:=h.Cv;have hfl:=h.fs.lt;have TG:∀b,(rT.iQ f).ownBlock=some b->w3.heap.size+2<=b/\b<wr.heap.size:=fun b hb=>hfl b ⟨0,rT,f,rfl,hb⟩;have sa:(wr.alloc o).heap.size=wr+1:=bh;have s6:=h6.size;have ha:∀b,b<wr.heap.size->(rT.iQ f).ownBlock≠some b->w6.heap[b]?=wr.heap[b]?:=fun b hb hn=>(h6.block b ai fun e=>hn e.symm).trans (gy _ _ _ hb);have no:(rT.iQ f).ownBlock≠some (w3.heap.size+1):=fun e=>by have:=(TG _ e).1;omega
 have hg:=(r6.lt g rfl).1;have r7:=jy r6 (show w3+1<w3.heap.size+2 by omega) (o:=f+1) (ah g (us+1) cap);refine h.afk ai (fun b hb hne hn=>(cH _ ⟨w3.heap.size+1,_,none⟩ b _ hne).trans (ha b hb hn)) (by simp only [aG];omega) ((nP (h.below.alloc h.below.size o) h6 (by have:=h.below.size;omega) fun b hb=>by have:=(TG b hb).1;omega).setCell (by show w3<=w3.heap.size+1;omega) _) ?_ ?_ (fun b hb=>?_) hl ho
 ·have:=aM (off:=f+1) (v:=ah g (us+1) cap) ((ha _ ai no).trans h.top);rw [this];rcases hf with rfl|rfl <;> simp [Raw.kR]
 ·rw [hn,hc];rcases hf with rfl|rfl <;> exact r7
 ·obtain rfl:g=b:=dh hb;rcases e6 with e|e
  ·exact .inl e
  ·right;omega
theorem zg.one (h:zg w3 rT xT rs xs ov wr):∀u∈bS rT,u.oneCell'=true:=by
 have hn:=h.fs.uz 0 rT xT rfl rfl;obtain⟨a0,c0,e0⟩:=aU (hn.row 0);obtain⟨a1,c1,e1⟩:=aU (hn.row 1);obtain⟨a2,c2,e2⟩:=aU (hn.row 2);obtain⟨a3,c3,e3⟩:=aU (hn.row 3);intro u hu;simp only [bS,fy,List.not_mem_nil,or_false]at hu;rcases hu with rfl|rfl|rfl|rfl|rfl
 ·rfl
 ·exact(congrArg Value.oneCell' (show rT.ev=_ from e0)).trans rfl
 ·exact(congrArg Value.oneCell' (show rT.kv=_ from e1)).trans rfl
 ·exact(congrArg Value.oneCell' (show rT.dv=_ from e2)).trans rfl
 ·exact(congrArg Value.oneCell' (show rT.bv=_ from e3)).trans rfl
theorem zg.afl (h:zg w3 rT xT rs xs ov wr)
  (r6:w6.ownsRow (w3+2) 125 5 (ah g (xs+1) cap) (xs+1) (rs.flatMap bS++bS rT)) (h6:(wr.alloc o).grownBy w6 ov.ownBlock)
  (hs:∀x∈xT::xs,x.aI.length*56<=140737488351232/\x.keys.length*8<=140737488351232/\x.kids.length*8<=140737488351232/\x.buf.length*56<=140737488351232) (hn:xs.length<=1000000) :
  aq w3 w6/\w6.heap[w3.heap.size]?=some (.cells #[ov,af 0] 27)/\∀w'',aQ (w3+1) w6 w''->bn w'' (ah g (xs+1) cap) (xs++[xT]):=by
 have hsz:=h.size;have hol:=h.row.lt;have hfl:=h.fs.lt;have sa:(wr.alloc o).heap.size=wr+1:=bh;have s6:=h6.size;have ha:∀b,b<wr.heap.size->ov.ownBlock≠some b->w6.heap[b]?=wr.heap[b]?:=fun b hb hn=>(h6.block b ai fun e=>hn e.symm).trans (gy _ _ _ hb);have hlen:=h.lens;refine⟨nP (h.below.alloc h.below.size o) h6 (by have:=h.below.size;omega) fun b hb=>by have:=(hol b hb).1;omega,(ha _ ai fun e=>by have:=(hol _ e).1;omega).trans h.out,fun w'' hk=>?_⟩;have hf:Fs (w3+2) w'' (rT::rs) (xT::xs):=h.fs.world fun b hb=>(hk.block b (by have:=(hfl b hb).1;omega) (by have:=(hfl b hb).2;omega)).trans (ha b (hfl b hb).2 (h.off b hb));have hra:=hf.XD hs;have r7:w''.ownsRow (w3+2) 125 5 (ah g (xs+1) cap) (xs+1) ((rs++[rT]).flatMap bS):=by
  have:=iU r6 hk ai;simpa using this
 refine⟨rs++[rT],?_,by simp [hlen],fun i r x hr hx=>?_⟩
 ·have:=ct.owned (sz:=104) fR r7 (by simp [hlen]) (by simp [hlen];omega);simpa [hlen] using this
 ·by_cases hi:i<rs
  ·rw [rE hi]at hr;rw [rE ai]at hx;exact hra.2 (i+1) r x (by simpa using hr) (by simpa using hx)
  ·have hi2:=(dW.1 hr).1;simp at hi2;obtain rfl:i=rs:=ai;rw [xw aO]at hr;rw [xw ai]at hx;simp [hlen]at hr hx;exact hra.2 0 r x (by simp [hr]) (by simp [hx])
end
theorem NN:∀{ts:List Tr} {s:Nat} {x:Nd},x∈ku s ts->∃t∈ts,∃y∈t.nodes,∃s',x=Nd.shift s' y
 |[],s,x,h=>by cases h
 |t::ts,s,x,h=>by
  simp only [ku]at h;rcases kW.1 h with h|h
  ·obtain⟨y,hy,rfl⟩:=ua.1 h;exact⟨t,bh,y,hy,s,rfl⟩
  ·obtain⟨u,hu,y,hy,s',e⟩:=NN h;exact⟨u,by simp [hu],y,hy,s',e⟩
theorem Pq (hn:ts.length<=4) (h:∀p∈ts,∀x∈p.t.nodes,x.aI.length*56<=140737488351232/\x.keys.length*8<=140737488351232/\x.kids.length*8<=140737488351232/\x.buf.length*56<=140737488351232) (k:Nat) :
  ∀x∈gW ts k::ic ts k,x.aI.length*56<=140737488351232/\x.keys.length*8<=140737488351232/\x.kids.length*8<=140737488351232/\x.buf.length*56<=140737488351232:=by
 intro x hx;rcases fy.1 hx with rfl|hx
 ·simp only [gW,List.length_nil,qG,oX,nI,gh];omega
 ·obtain⟨t,ht,y,hy,s',rfl⟩:=NN hx;obtain⟨p,hp,rfl⟩:=ua.1 ht;have:=h p (uQ hp) y hy;simpa [Nd.shift] using this
theorem Q8 {t:Tr} {l:List Int} (h0:ts[0]?=some p) (hp:p.es≠[]):Pl.low ⟨t,ts.flatMap Pl.es,l⟩=p.low:=by
 cases ts with
 |nil=>cases h0
 |cons q ts=>
  obtain rfl:q=p:=by simpa using h0
  cases he:q.es with
  |nil=>exact absurd he hp
  |cons e es=>simp [Pl.low,he]
theorem pj.grow' {M r':Nat} {w w5 w6 w7:World} {ps:List Pl} {ao:Option Addr} {c g2 c2:Nat} {lw:Int} (h:pj M w lv lo ps pX) (hn:n=p.t.nodes) (hr:(r':Int)=p.t.root) (Yi:lw=p.low) (h5:aq w w5) (hM:M<=w)
  (hN:∀w'',aQ w w5 w''->bn w'' (ah ao n cap) p.t.nodes)
  (r6:w6.ownsRow M 27 2 (ah g (ps+1) c) (ps+1) (pX.flatMap Gh++[ah ao n cap,af r'])) (h6:w5.grownBy w6 lv.ownBlock) (e6:lv.ownBlock=some g\/g=w5)
  (r7:w7.ownsRow M 3 1 (ah g2 (ps+1) c2) (ps+1) ((ps.map Pl.low).flatMap bP++[af lw])) (h7:(w6.alloc o).grownBy w7 lo.ownBlock) (e7:lo.ownBlock=some g2\/g2=(w6.alloc o).heap.size) :
  pj M w7 (ah g (ps+1) c) (ah g2 (ps+1) c2) (ps++[p]) (pX++[⟨ao,p.t.nodes.length,cap,p.t.root⟩])/\Below M w5 w7:=by
 subst hn Yi;rw [hr]at r6;exact h.grow h5 hM hN r6 h6 e6 r7 h7 e7
theorem pj.group {M k g6 c6 g9 c9 g10 c10:Nat} {w3 w8 w9 mE:World} {p0:Pl} {o1 o2:Obj} (h:pj M w3 lv lo qs pX) (hk:ts=k) (hp0:ts[0]?=some p0) (hne:p0.es≠[]) (h8:aq w3 w8) (hM:M<=w3)
  (hN:∀w'',aQ (w3+1) w8 w''->bn w'' (ah g6 ((ic ts k).length+1) c6) (ic ts k++[gW ts k]))
  (r9:w9.ownsRow M 27 2 (ah g9 (qs+1) c9) (qs+1) (pX.flatMap Gh++[ah g6 ((ic ts k).length+1) c6,af ((ic ts k).length:Nat)])) (h9:(w8.alloc o1).grownBy w9 lv.ownBlock) (e9:lv.ownBlock=some g9\/g9=(w8.alloc o1).heap.size)
  (r10:mE.ownsRow M 3 1 (ah g10 (qs+1) c10) (qs+1) ((qs.map Pl.low).flatMap bP++[af p0.low])) (h10:(w9.alloc o2).grownBy mE lo.ownBlock) (e10:lo.ownBlock=some g10\/g10=(w9.alloc o2).heap.size) :
  ∃aaY,pj M mE (ah g9 (qs+1) c9) (ah g10 (qs+1) c10) (qs++[⟨po (ts.map (·.t)) (ts.map Pl.low),ts.flatMap Pl.es,((ku 0 (ts.map (·.t))).length:Int)::(uK 0 ts).flatten⟩]) aaY/\Below M (w8.alloc o1) mE:=by
 obtain⟨j1,j2⟩:=LB ts;rw [hk]at j1 j2;have yw:=Q8 (t:=po (ts.map (·.t)) (ts.map Pl.low)) (l:=((ku 0 (ts.map (·.t))).length:Int)::(uK 0 ts).flatten) hp0 hne;generalize po (ts.map (·.t)) (ts.map Pl.low)=T at *;generalize ((ku 0 (ts.map (·.t))).length:Int)::(uK 0 ts).flatten=L at *;have e1:(ic ts k).length+1=T.nodes:=by rw [j1];simp
 obtain⟨m1,m2⟩:=h.grow' (p:=⟨T,ts.flatMap Pl.es,L⟩) e1 j2.symm yw.symm (h8.alloc h8.size o1) hM (fun w'' hw=>by
  have:=hN w'' ((aQ.of ((aW w8 w8).alloc aO o1) aO).trans (hw.mono ai));rw [<-j1]at this;exact this) r9 h9 e9 r10 h10 e10
 exact⟨_,m1,m2⟩
theorem JK (h:∀p∈ts,Kb p) (k:Nat):(ic ts k).length<=2*(ts.flatMap Pl.es).length:=by
 unfold ic;rw [Bx]
 induction ts generalizing k with
 |nil=>simp
 |cons p ts ih=>
  cases k with
  |zero=>simp
  |succ k=>
   have h1:=ih (fun q hq=>h q (by simp [hq])) k;have h2:=(h p bh).cnt;simp only [List.take_succ_cons,List.map_cons,List.sum_cons,fO,dF]at h1 ⊢;omega
end
structure Lp1 (w:World) (l:List aH) (M k:Nat) (lv lo:Value) (ps:List Pl) (pX:List Rt) (wr:World):Prop where
 below:aq w wr
 res:wr.heap[w.heap.size]?=some (.cells #[az 0 0,af 0] 27)
 low:w<M
 high:M<=wr
 at':pj M wr lv lo ps pX
 len:ps=k
 es:ps.flatMap Pl.es=l.take (6*k)
 pc:∀p∈ps,Pc 1 p/\Kb p
structure Lp2 (w:World) (l:List aH) (h:Nat) (lv lo:Value) (ps:List Pl) (pX:List Rt) (wr:World):Prop where
 below:aq w wr
 res:wr.heap[w.heap.size]?=some (.cells #[az 0 0,af 0] 27)
 st:Gv (w+1) wr lv lo ps pX
 es:ps.flatMap Pl.es=l
 pc:∀p∈ps,Pc h p/\Kb p
 few:ps.length<=1000
 ne:0<ps.length
structure Lp3 (wo:World) (ps:List Pl) (h j:Nat) (lv lo:Value) (qs:List Pl) (pX:List Rt) (wr:World):Prop where
 below:aq wo wr
 at':pj wo wr lv lo qs pX
 es:qs.flatMap Pl.es=(ps.take j).flatMap Pl.es
 pc:∀p∈qs,Pc (h+1) p/\Kb p
 few:2*qs<=j
 rem:ps-j≠1
 le:j<=ps
theorem Sn {lv:Value} {l:List aH} {w:World} (h:cX w lv l) (hc:Checked l) (hr:aY l) (hk:∀e∈l,0<=e.key/\e.key<1099511627776) (hn:l.length<=1000) :
  Calls Tryz.prog 45 #[lv] w fun e w'=>aq w w'/\∃ao cap t,e = .returned (.agg #[ah ao t.nodes cap,af t.root])/\(∀w'',aQ w w' w''->bn w'' (ah ao t.nodes cap) t.nodes)/\aC t=0/\t.all=l:=by
 obtain⟨ao,cap,rfl⟩:=h.isSlice;have HL:=ag fun w' (hb:aq w w')=>h.below hb aO;have HC:=ag (aJ hc (aJ hr hk));obtain⟨W0,hW0⟩:=cd (w.alloc (.cells #[az 0 0,af 0] 27));have hb0:aq w W0:=by rw [hW0];exact aj
 have k0:W0.heap[w.heap.size]?=some (.cells #[az 0 0,af 0] 27):=by rw [hW0];exact au _ _ rfl
 have hz0:W0=w.heap.size+1:=by rw [hW0];simp
 have DG:=ag (qZ (HL W0 hb0));clear h hc hr hk;go_enter Tryz.func45,Tryz.ntmps45;go_upto_region 1 with (fail);rw [<-hW0];clear hW0;go_upto_region 2 with (go_at_call 91;(with_reducible refine DG.out.mono ?_);rintro e w1 ⟨v1,rfl,tW,hb1⟩;obtain⟨a1,c1,rfl⟩:=tW.isSlice);obtain⟨W2,hW2⟩:=cd (w1.alloc (.cells #[.bool true,ah a1 l c1,az 0 0,az 0 0,az 0 0] 125));obtain⟨W3,hW3⟩:=cd (W2.alloc (.cells #[ah w1 1 1,af 0] 27));have hz1:=hb1.size;have hz2:W2=w1.heap.size+1:=by rw [hW2];simp
 have hz3:W3=W2.heap.size+1:=by rw [hW3];simp
 have hb2:aq w1 W2:=by rw [hW2];exact aj
 have hb3:aq W2 W3:=by rw [hW3];exact aj
 have k3:W3.heap[W2.heap.size]?=some (.cells #[ah w1 1 1,af 0] 27):=by rw [hW3];exact au _ _ rfl
 have r3:W3.heap[w.heap.size]?=some (.cells #[az 0 0,af 0] 27):=(hb3.block _ ai).trans ((hb2.block _ ai).trans ((hb1.block _ ai).trans k0));have sL:=ag (aF (aF hb0 (aF hb1 hb2 hb1.size) hb0.size) hb3 ai);have pL:=ag r3;have HLF:=ag fun w'' (hk:aQ W0 W3 w'')=>ES tW hz1 ai (hW2▸(aQ.of hb3 ai).trans hk);rw [<-hW2,<-hW3];rw [show w1+1=W2.heap.size from hz2.symm];have HZ:=ag (aJ hz0 (aJ hz1 (aJ hz2 hz3)));clear hW2 hW3 tW DG k0 hb0 hb1 hb2 hb3 hz0 hz1 hz2 hz3;by_cases h6:l.length<=6
 ·
  --<
  have e6:decide ((l.length:Int)<=6)=true:=by simp;omega
  have HT:=ag (Iw h6 HC.1 HC.2.1 HC.2.2);obtain⟨c0,c1'⟩:W3.cell? (W2,0)=some (ah w1 1 1)/\(W3,W2.heap.size,1):=by simp [World.cell?,k3]
  obtain⟨q0,q1,qf⟩:W3.cell? (w,0)=some (az 0 0)/\(W3,w.heap.size,1)/\∀o,W3.frozen? ⟨w.heap.size,o,none⟩=false:=by simp [World.cell?,World.frozen?,r3]
  clear h6 k3 r3;go_wp2_with fail;have cT:=sL.out;refine bW (v:= .agg #[ah w1 1 1,af 0]) (by simp [results,Tryz.results45,go_sem, *]) rfl ⟨aj,some (w1,0),1,lU l,rfl,fun w'' hk=>HLF _ (aQ.trans ?_ (hk.mono (by have:=HZ.out;omega))),HT.1,HT.2⟩;exact((aQ.refl _ _).set (by show w<W0.heap.size;have:=HZ.out;omega) _).set (by show w<W0.heap.size;have:=HZ.out;omega) _
  -->
 ·have e6:decide ((l.length:Int)<=6)=false:=by simp;omega
  clear HLF k3 r3;go_upto_region 7 with (fail);obtain⟨W4,yH⟩:=cd (W3.alloc (.cells #[] 27));have hb4:aq W3 W4:=by rw [yH];exact aj
  have k4:W4.heap[W3.heap.size]?=some (.cells #[] 27):=by rw [yH];exact au _ _ rfl
  have VQ:=ag (pj.nil' k4 aO);have Qb:w<W3.heap.size:=by have:=HZ.out;omega
  have HLP:=ag (show Lp1 w l W3 0 (ah W3 0 0) (az 0 0) [] [] W4 from ⟨aF sL hb4 sL.size,(hb4.block _ Qb).trans pL,Qb,hb4.size,VQ,rfl,rfl,fun p hp=>by cases hp⟩);rw [<-yH];clear yH hb4 k4
  go_loopg [4,5,6] ((l.length+5)/6) (fun g lv lo i wr=>∃k ps pX,k<=(l.length+5)/6/\g=(l.length+5)/6-k/\i=af ((6*k:Nat):Int)/\Hid (Lp1 w l W3 k lv lo ps pX wr))
  case atStart=>exact⟨0,_,_,eY _,rfl,rfl,HLP⟩
  case round=>
   obtain⟨k,ps,pX,hk,rfl,rfl,HR⟩:=hrel;clear HLP;obtain⟨q,hq⟩:=bG (6*k);rw [hq];have hA:=HR.out.at';obtain⟨va,vc,rfl⟩:=aU hA.row;obtain⟨oa,oc,rfl⟩:=aU hA.low;have HQ:=ag hq;clear hA;by_cases hlt:q<l
   ·
    --<
    have tz:(q:Int)<(l.length:Int):=ai;obtain⟨T,hT,WT⟩:∃T,(l<q+6->T=l.length)/\(¬l<q+6->T=q+6):=by
     by_cases h:l<q+6
     ·exact⟨l.length,fun _=>rfl,fun h'=>absurd h h'⟩
     ·exact⟨q+6,fun h'=>absurd h' h,fun _=>rfl⟩
    have WS:q<T/\T<=l/\T<=q+6:=by
     by_cases h:l<q+6
     ·have:=hT h;omega
     ·have:=WT h;omega
    obtain⟨_,_,hv,hcap,-,-,-,a5⟩:=HL w (aW _ _);injection hv with hv1 hv2 hv3;subst hv1 hv3;clear hv2;obtain⟨eb,cM,rfl,pq,jF⟩:=a5 ai;have HSB:=ag fun W (hb:aq w W)=>ct.sub (HL W hb) WS.1 WS.2.1;have Xl:=ag fun W (hb:aq w W)=>(br hb pq jF hlt).1;obtain⟨x,hx⟩:=bG (l[q]);rw [hx]at Xl;have HX:=ag hx;have jA:=fun w'=>cN (ab:=eb) (aR:=cM) (n:=l.length) (cap:=cap) (show (q:Int)=((q:Nat):Int) by rfl) hlt w';have hsl:=fun w'=>Qx (g:=eb) (o:=cM) (n:=l.length) (cap:=cap) (show (q:Int)=((q:Nat):Int) by rfl) (show (T:Int)=((T:Nat):Int) by rfl) WS.1 WS.2.1 hcap w';have U5:IntKind.i64.wrap ((q:Int)+6)=(q:Int)+6:=bI _ ai;clear hx a5 jF hq;go_upto_if 40 with (fail);go_cut [7] (fun c wx=>c=af (T:Int)/\wx=wr)
    case first=>
     by_cases h7:l<q+6
     ·have e7:decide ((l.length:Int)<(q:Int)+6)=true:=(by simp;omega);go_wp2_with fail;go_meet;exact⟨by rw [hT h7],rfl⟩
     ·have e7:decide ((l.length:Int)<(q:Int)+6)=false:=(by simp;omega);go_wp2_with fail;go_meet;exact⟨by rw [WT h7];rfl,rfl⟩
    case rest=>
     obtain⟨rfl,rfl⟩:=hcut;have HES:=ag (UW hlt WS.1 WS.2.1 WS.2.2 (by by_cases h:l<q+6;exact .inl (hT h);exact .inr (WT h)) HC.1 HC.2.1);have htl:((l.take T).drop q).length<=6:=(by simp;omega);obtain⟨es,hes⟩:=bG ((l.take T).drop q);rw [hes]at HSB HES htl;have DG:=ag (qZ (HSB _ HR.out.below));clear hT WT WS U5 hes;have HRW:=ag fun W (hb:aq wc W)=>cL HR.out.at'.row hb;have HHI:=ag HR.out.high;have hps:ps.length<=1000000:=(by have:=HR.out.len;omega);go_upto_region 13 with (first|(go_at_call 91;(with_reducible refine DG.out.mono ?_);rintro e w4 ⟨v4,rfl,zk,hb4⟩;obtain⟨a4,c4,rfl⟩:=zk.isSlice;have ZK:=ag zk;have BH:=ag hb4;clear zk hb4)|(at_builtin;refine lO rfl (.tmp 43) (.tmp 52) rfl Tryz.underlying149 Tryz.Wm bY bY W3 (ah va ps vc) ps _ rfl (HRW _ ((BH.alloc BH.size _).alloc (by have:=BH.size;simp;omega) _)) (w4+1) 1 [ah w4 1 1,af 0] rfl (au _ _ bh) rfl (by intro u hu;simp at hu;rcases hu with rfl|rfl <;> rfl) hps (by have:=BH.size;have:=HHI.out;simp;omega) ?_;intro g6 c6 w6 r6 h6' Sz l6))
     obtain⟨W5,mD⟩:=cd ((w4.alloc (.cells #[.bool true,ah a4 es c4,az 0 0,az 0 0,az 0 0] 125)).alloc (.cells #[ah w4 1 1,af 0] 27));have cy:aq wc W5:=(by rw [mD];exact(BH.alloc BH.size _).alloc (by have:=BH.size;simp;omega) _);have hk5:aQ wc (w4.alloc (.cells #[.bool true,ah a4 es c4,az 0 0,az 0 0,az 0 0] 125)) W5:=(by rw [mD];exact aQ.of ((aW _ _).alloc aO _) aO);have HLF:=ag fun w'' (hk:aQ wc W5 w'')=>ES ZK BH.size ai (hk5.trans hk);rw [<-mD]at h6' Sz;have HA:=ag HR.out.at';have hrl:=HA.row.lt;have ji:aq w w6:=nP (aF HR.out.below cy HR.out.below.size) h6' (by have:=HR.out.below.size;have:=cy.size;omega) fun j hj=>(by have:=(hrl j hj).1;have:=HR.out.low;omega);have amD:W3<=w6.heap.size:=(by have:=cy.size;have:=h6'.size;have:=HHI.out;omega);have hkey:=Xl w6 ji;have Tg:=ag fun o=>HA.ab9 cy h6' o;have HG:=ag (aJ cy (aJ r6 (aJ h6' Sz)));clear hrl cy hk5 mD r6 h6' Sz l6 ZK BH hsl ji;go_wp2_with (at_builtin;refine lO rfl (.tmp 54) (.tmp 60) rfl Tryz.underlying52 Tryz.FU bY bY W3 (ah oa ps oc) ps _ rfl (Tg _) w6 1 [af x.key] rfl (au _ _ rfl) rfl (by intro u hu;simp at hu;subst hu;rfl) hps fk ?_;intro g7 c7 w7 r7 h7 e7 l7);go_roundg ((l.length+5)/6-(k+1))
     case measure=>have:=HQ.out;omega
     case rel=>
      obtain⟨m1,m2,m3,m4⟩:=HES.out;obtain⟨cy,r6,h6',Sz⟩:=HG.out;rw [HX]at m2;obtain⟨n1,n2⟩:=pj.grow (p:=⟨lU es,es,[0]⟩) HA cy HHI HLF r6 h6' Sz (by rw [m2];exact r7) h7 e7;have hq:=HQ.out;have yw:=HR.out.low;refine⟨k+1,_,_,ai,rfl,by rw [<-hq];simp;omega,ag ⟨JP (aF HR.out.below cy HR.out.below.size) n2 ai,(n2.block _ yw).trans ((cy.block _ (by have:=HHI.out;omega)).trans HR.out.res),yw,by have:=n2.size;have:=cy.size;have:=HHI.out;omega,n1,by simp [HR.out.len],?_,?_⟩⟩
      ·rw [pK,HR.out.es,hq,show 6*(k+1)=q+6 by omega,<-m1];simp
      ·intro p hp;rcases kW.1 hp with hp|hp
       ·exact HR.out.pc p hp
       ·obtain rfl:=oY.1 hp;exact⟨m3,m4⟩
    -->
   ·have tz:¬(q:Int)<(l.length:Int):=ai;have hk':=HR.out.len;have HL2:=ag (show Lp2 w l 1 (ah va ps vc) (ah oa ps oc) ps pX wr from ⟨HR.out.below,HR.out.res,HR.out.at'.st ai ai,by rw [HR.out.es,hq,iM ai],HR.out.pc,ai,ai⟩);clear hq hk' HR HQ hk VQ;go_upto_region 14 with (fail)
    go_loopg [4,5] ps (fun g lv lo wr=>∃h ps pX,g=ps.length/\Hid (Lp2 w l h lv lo ps pX wr))
    case atStart=>exact⟨1,ps,pX,rfl,HL2⟩
    case round=>
     clear HL2;obtain⟨h,qs,pX,rfl,HR⟩:=hrel;obtain⟨va,vc,rfl⟩:∃a c,u4=ah a qs c:=by
      obtain⟨a,c,e⟩:=HR.out.st.row.isSlice;exact⟨a,c,by rw [e,HR.out.st.len]⟩
     by_cases h1:1<qs.length
     ·have h1':(1:Int)<(qs.length:Int):=ai;obtain⟨wo,rfl⟩:=cd (wr);obtain⟨oa,oc,rfl⟩:∃a c,u5=ah a qs c:=by
       obtain⟨a,c,e⟩:=HR.out.st.low.isSlice;exact⟨a,c,by rw [e,oX]⟩
      go_upto_region 18 with (fail)
      go_loopg [8,9,10] qs (fun g nv lo i w3=>∃j ns UA,g=qs.length-j/\i=af (j:Nat)/\Hid (Lp3 wo qs h j nv lo ns UA w3))
      case atStart=>exact⟨0,[],[],rfl,rfl,ag ⟨aW _ _,pj.nil _ _,rfl,fun p hp=>(by cases hp),bh,ai,eY _⟩⟩
      case round=>
       obtain⟨j,ns,UA,rfl,rfl,pL⟩:=hrel;obtain⟨na,nc,rfl⟩:=aU pL.at'.row;obtain⟨ma,mc,rfl⟩:=aU pL.at'.low;by_cases nW:j<qs
       ·have agv:(j:Int)<(qs.length:Int):=ai;obtain⟨r,hr⟩:=bG (qs-j);have abH:=pL.rem;rw [hr]at abH;have hg:=Vu abH ai;obtain⟨n,hn'⟩:=bG (L3 r);rw [hn']at hg;have agR:=HR.out.few;have hw1:IntKind.i64.wrap ((qs.length:Int)-(j:Int))=(r:Int):=(by rw [show (qs.length:Int)-(j:Int)=(r:Int) by omega];exact bI _ ai);have HN:=ag (aJ hr hn');unfold L3 at hn';clear hr;go_upto_if 73 with (fail);go_cut [11] (fun c wx=>c=af (if r=5 then 3 else 4)/\wx=wr)
        case first=>
         --<
         by_cases h5:r=5
         ·have e5:((r:Int) == 5)=true:=(by simp;omega);go_wp2_with fail;go_meet;exact⟨by rw [aw h5],rfl⟩
         ·have e5:((r:Int) == 5)=false:=(by simp;omega);go_wp2_with fail;go_meet;exact⟨by rw [ar h5],rfl⟩
         -->
        case rest=>
         obtain⟨rfl,rfl⟩:=hcut;go_upto_if 79 with (fail);go_cut [11] (fun c wx=>c=af (n:Int)/\wx=wc)
         case first=>
          --<
          by_cases h5:r=5
          ·rw [aw h5]at hn' ⊢;have e5:decide ((r:Int)<3)=false:=(by simp;omega);go_wp2_with fail;go_meet;exact⟨by rw [<-hn'];rfl,rfl⟩
          ·rw [ar h5]at hn' ⊢;by_cases h4:r<4
           ·have e5:decide ((r:Int)<4)=true:=(by simp;omega);rw [aw h4]at hn';go_wp2_with fail;go_meet;exact⟨by rw [<-hn'],rfl⟩
           ·have e5:decide ((r:Int)<4)=false:=(by simp;omega);rw [ar h4]at hn';go_wp2_with fail;go_meet;exact⟨by rw [<-hn'];rfl,rfl⟩
          -->
         case rest=>
          obtain⟨rfl,rfl⟩:=hcut;obtain⟨w3,rfl⟩:=cd (wc);have hle:=pL.le;obtain⟨t1,t2,t3,t4,t5,t6⟩:=Y5 (j:=j) (n:=n) (by have:=HN.1;omega) HR.out.es HC.2.1;obtain⟨ts,hts⟩:=bG ((qs.drop j).take n);rw [hts]at t1 t2 t3 t4 t5 t6;have HT:=ag (aJ t2 (aJ (fun p hp=>HR.out.pc p (t3 p hp):∀p∈ts,Pc h p/\Kb p) (aJ t4 t5)));clear t2 t3 t4 t5 hts hn' hw1;have Xn:=zg.start w3;go_upto_region 27 with (fail);obtain⟨W5,mD⟩:=cd ((w3.alloc (.cells #[az 0 0,af 0] 27)).alloc (.cells #[.bool false,az 0 0,az 0 0,az 0 0,az 0 0] 125));rw [<-mD]at Xn ⊢;have Xn:=ag Xn;clear mD
          go_loopg [14] n (fun g i wk=>∃k rT rs ov,k<=n/\g=n-k/\i=af (k:Nat)/\Hid (zg w3 rT (gW ts k) rs (ic ts k) ov wk))
          case atStart=>exact⟨0,_,_,_,eY _,rfl,rfl,ag (by rw [Oh,PL];exact Xn)⟩
          case round=>
           obtain⟨k,rT,rs,ov,hk,rfl,rfl,HG⟩:=hrel;clear Xn;obtain⟨oo,oc',rfl⟩:=aU HG.row;have hout:=HG.out.out;obtain⟨o0,of⟩:wr.cell? ⟨w3.heap.size,0,none⟩=some (.slice oo (ic ts k).length oc')/\∀o,wr.frozen? ⟨w3.heap.size,o,none⟩=false:=(by simp [World.cell?,World.frozen?,hout]);by_cases hkn:k<n
           ·have agy:(k:Int)<(n:Int):=ai;obtain⟨p,hp⟩:∃p,ts[k]?=some p:=⟨ts[k]'(by omega),bh⟩;have hjk:j+k<qs:=(by have:=HN.1;omega);have hpq:=HT.1 k p hp;have hPK:=HT.2.1 p (uO hp);have Vk:aq wo wr:=aF pL.below HG.below pL.below.size;obtain⟨lb,wh,q2,rfl,-,-,e1,e2,hNq,hcs⟩:=HR.out.st.cells hpq;obtain⟨l0,l1⟩:=hcs wr Vk;have hw2:IntKind.i64.wrap ((j:Int)+(k:Int))=((j+k:Nat):Int):=(by rw [show (j:Int)+(k:Int)=((j+k:Nat):Int) by omega];exact bI _ ai);have jA:=fun w'=>Rn (ab:=lb) (aR:=wh) (n:=qs.length) (cap:=vc) (show ((j+k:Nat):Int)=((j+k:Nat):Int) by rfl) hjk w';obtain⟨S,hS⟩:=bG ((ic ts k).length);have hsz:=JK (fun p hp=>(HT.2.1 p hp).2) k;have hez:=ad2 (uO hp);have hcz:=hPK.2.cnt;have VN:=ag (hNq wr (aQ.of Vk aO)).sizes.2;have ry:=ag (show S<=2000/\p.t.nodes.length<=2000 by omega);have hHC:=Ht (r0:=q2.r) (hNq wr (aQ.of Vk aO));rw [e1,e2]at hHC;rw [e1]at l0;rw [e2]at l1;have Uj:=ag hHC;have HP:=ag (aJ hp (aJ hPK hS));clear hout hp hpq hPK Vk e1 e2 hNq hcs hHC hsz hez hcz;rw [hS]at o0;clear hS;have HGW:=ag HG.out.below.size;go_upto_region 32 with (go_at_call 92;(with_reducible refine Uj.out.mono ?_);rintro e w5 ⟨ao5,Gj,rfl,wH,cy⟩;have Td:=ag wH;have GF:=ag cy;clear wH cy);obtain⟨fw,y1,y2,y3⟩:=Td.out;obtain⟨zs,hzs⟩:=bG (p.t.nodes);rw [hzs]at y1 y2 y3 ⊢;obtain⟨B,hB⟩:=bG (w5.heap.size);have za:=ag (HG.copy (r0:=p.t.root) GF y1 y2 y3);rw [hB]at za ⊢;generalize w5.alloc (.cells #[ah ao5 zs Gj,af p.t.root] 27)=W6 at za ⊢;have HZS:=ag hzs;have HZL:=ag (show S<=2000/\zs.length<=2000 by have:=ry.out;rw [hzs]at this;exact this);have alm:=HZL.2;clear y1 y2 y3 hB hzs l0 l1 jA hw2 o0 of
            go_loopg [17] zs (fun g i w7=>∃jj ov,jj<=zs.length/\g=zs.length-jj/\i=af (jj:Nat)/\Hid (jb w3 B rT (gW ts k) rs (ic ts k) fw (ah ao5 zs Gj) p.t.root (N6 S jj 0 zs) jj ov w7))
            case atStart=>exact⟨0,_,eY _,rfl,rfl,ag (by rw [N5];exact za)⟩
            case round=>
             clear za;obtain⟨jj,ov,hjl,rfl,rfl,za⟩:=hrel;obtain⟨b0,b1⟩:wr.cell? (B,0)=some (ah ao5 zs Gj)/\(wr,B,1,p.t.root):=by
              have:=za.sub;simp [World.cell?,this]
             by_cases RM:jj<zs
             ·have agC:(jj:Int)<(zs.length:Int):=ai;obtain⟨x,hx⟩:∃x,zs[jj]?=some x:=⟨zs[jj],by simp [RM]⟩;have hsl:=za.Uv;rw [Fm]at hsl;obtain⟨rj,mo⟩:∃rj,fw[jj]?=some rj:=⟨fw[jj]'(by omega),by simp [hsl,RM]⟩;have HX:=ag (aJ hx mo);have Qc:=(VN x (by rw [HZS];exact uO hx)).2.2.1;clear hsl b1 hx mo;go_upto_region 35 with (fail);clear b0
              go_loopg [18] x.kids (fun g i w7=>∃m,m<=x.kids.length/\g=x.kids.length-m/\i=af (m:Nat)/\Hid (jb w3 B rT (gW ts k) rs (ic ts k) fw (ah ao5 zs Gj) p.t.root (N6 S jj m zs) jj ov w7))
              case atStart=>exact⟨0,eY _,rfl,rfl,za⟩
              case round=>
               clear za;obtain⟨m,hm,rfl,rfl,za⟩:=hrel;obtain⟨b0,b1⟩:wr.cell? (B,0)=some (ah ao5 zs Gj)/\(wr,B,1,p.t.root):=by
                have:=za.sub;simp [World.cell?,this]
               obtain⟨sb,sc,Rv,-,-,-,-,X6⟩:=za.raw HX.2;injection Rv with Rv hsn hsc;subst Rv hsc;clear hsn;obtain⟨da,dc,Bb⟩:=za.dv HX.2 (Qp HX.out.1);rw [Bn hm]at Bb;obtain⟨-,-,-,c3,-⟩:=X6 wr rfl;have jh:∀w',(Instr.indexAt 25 (ah sb zs Gj) (af (jj:Int))).run Tryz.prog w' = .ok (.pointer (some (sb,jj*5))) w':=fun w'=>by
                have:=dU (ab:=sb) (aR:=0) (n:=zs.length) (cap:=Gj) (show (jj:Int)=((jj:Nat):Int) by rfl) RM w';simpa using this
               by_cases zH:m<x.kids
               ·
                --< A
                have agt:(m:Int)<(x.kids.length:Int):=ai;obtain⟨kb,kc,hk1,hk2,hk3,hk4⟩:=za.drew.kid HX.2 (Qp HX.out.1) (by rw [Bn hm];exact zH);have e3:=dh ((oZ (by rw [Bn hm];exact zH)).symm.trans (Ux (s:=S) zH));rw [e3]at hk2;have Xm:=ag (Ul (s:=S) HX.1 zH▸hk4 (x.kids[m]+(S:Int)));obtain⟨y,hy⟩:=bG (x.kids[m]);have hyb:0<=y/\y<2000:=by
                 have h1:=HP.2.1.2.kids x (by rw [HZS];exact uO HX.1) y (by rw [<-hy];exact eZ zH);have h2:=ry.2;omega
                rw [hy]at hk2 Xm;rw [Bn hm]at hk1;rw [hk1]at c3;have hwy:IntKind.i64.wrap (y+(S:Int))=y+(S:Int):=bI _ (by have:=ry.1;omega);have agJ:∀w',(Instr.indexAt 52 (ah kb x.kids kc) (af (m:Int))).run Tryz.prog w' = .ok (.pointer (some (kb,m))) w':=fun w'=>by
                 have:=jL (ab:=kb) (aR:=0) (n:=x.kids.length) (cap:=kc) (show (m:Int)=((m:Nat):Int) by rfl) zH w';simpa using this
                clear e3 hk4 hy hyb Bb X6 b1;go_upto_region 37 with (fail);refine bN [(0,1),(1,0),(2,1),(3,1),(4,1),(5,0),(6,1),(7,1),(8,0),(9,1),(10,1),(11,1),(12,0),(13,1),(14,1),(15,0),(16,1),(17,1),(18,1),(19,3)] 19 (fun W=>W.cell? ⟨B,0,none⟩=some (.slice (some ⟨sb,0,none⟩) zs.length Gj)/\W.cell? ⟨sb,jj*5+3,none⟩=some (.slice (some ⟨kb,0,none⟩) x.kids.length kc)/\W.cell? ⟨kb,m,none⟩=some (.int .i64 y)) cV cV ⟨b0,c3,hk2⟩ ?_
                (simp only [bV,List.filterMap_cons,List.filterMap_nil,List.getElem?_cons_zero,List.getElem?_cons_succ,Option.map_some])
                (repeat first|refine bg ?_|refine aZ ?_)
                refine bq rfl (fun K hK=>?_);go_simp;refine hK _ _ ?_;clear hK K;refine cC ?_;go_wp2_with fail;go_roundg (x.kids-(m+1))
                case measure=>omega
                case rel=>exact⟨m+1,ai,rfl,by go_num,Xm⟩
                -->
               ·
                --< B
                have agt:¬(m:Int)<(x.kids.length:Int):=ai;obtain rfl:m=x.kids:=ai;have hsu:=za.out;rw [Qn HX.1]at hsu;obtain⟨o2,oc2,rfl⟩:=aU hsu.row;have za:=ag hsu;have Zu:=ag fun(W:World) (hw:∀b,b<wr.heap.size->(ah o2 ((ic ts k).length+jj) oc2).ownBlock≠some b->W.heap[b]?=wr.heap[b]?)=>hsu.reads HX.2 hw;rw [Bb]at c3;clear hsu X6 b1;go_upto_region 38 with (fail);clear b0 c3 Bb;refine bN [(0,1),(1,0),(2,1),(3,0),(4,1),(5,1),(6,0),(7,2),(8,2),(9,1),(10,3)] 10 (fun W=>W.cell? ⟨w3.heap.size,0,none⟩=some (.slice o2 ((ic ts k).length+jj) oc2)/\W.cell? ⟨B,0,none⟩=some (.slice (some ⟨sb,0,none⟩) zs.length Gj)/\W.cell? ⟨sb,jj*5,none⟩=some (.bool rj.leaf)/\W.cell? ⟨sb,jj*5+1,none⟩=some rj.ev/\W.cell? ⟨sb,jj*5+2,none⟩=some rj.kv/\W.cell? ⟨sb,jj*5+3,none⟩=some rj.dv/\W.cell? ⟨sb,jj*5+4,none⟩=some rj.bv) cV cV (Zu.out _ fun _ _ _=>rfl) ?_
                (simp only [bV,List.filterMap_cons,List.filterMap_nil,List.getElem?_cons_zero,List.getElem?_cons_succ,Option.map_some])
                (repeat first|refine bg ?_|refine aZ ?_)
                refine aP rfl (fun K hK=>?_);go_simp;obtain⟨W7,pF⟩:=cd ((wr.alloc (.cells #[.bool rj.leaf,rj.ev,rj.kv,rj.dv,rj.bv] 125)).drew);have k7:W7.heap[wr.heap.size]?=some (.cells #[.bool rj.leaf,rj.ev,rj.kv,rj.dv,rj.bv] 125):=(by rw [pF];exact au _ _ rfl);have s7:∀b,b<wr.heap.size->W7.heap[b]?=wr.heap[b]?:=fun b hb=>(by rw [pF];exact gy _ _ _ hb);have z7:W7=wr.heap.size+1:=(by rw [pF];simp);have r7:=bJ (w':=W7) za.row fun b hb=>s7 b (za.row.lt b hb).2;have hlo:=za.Cv;have hhi:=za.size;have HS7:=ag s7;rw [<-pF];refine hK _ _ (Zu _ fun b hb _=>s7 b hb) ?_;clear hK K s7
                (repeat first|refine bg ?_|refine aZ ?_)
                refine aP rfl (fun K hK=>?_);refine Fq (.tmp 139) (.tmp 145) rfl Tryz.underlying25 Tryz.Nu bY bY (w3+2) (ah o2 ((ic ts k).length+jj) oc2) ((ic ts k).length+jj) _ rfl r7 wr 1 (bS rj) rfl k7 rfl (za.one HX.2 (oZ (by rw [Fm];exact RM))) (by have:=HZL.out;have:=HP.2.2;omega) ai ?_;intro g anh w8 r8 h8 e8 l8;refine hK _ _ (Zu _ fun b hb hn=>(h8.block b ai fun e=>hn e.symm).trans (HS7 b hb)) ?_;clear hK K;have yr:=(h8.block w3.heap.size ai fun e=>by have:=(za.out.row.lt _ e.symm).1;omega).trans ((HS7.out _ ai).trans za.out.out);obtain⟨t0,tf⟩:w8.cell? (w3,0)=some (ah o2 ((ic ts k).length+jj) oc2)/\∀o,w8.frozen? ⟨w3.heap.size,o,none⟩=false:=(by simp [World.cell?,World.frozen?,yr]);rw [pF]at h8 e8;have HPU:=ag (jb.push (wr:=wr.drew) za.drew HX.2 r8 h8 e8);clear r7 r8 h8 e8 l8 yr k7 pF z7 hlo hhi
                (repeat first|refine bg ?_|refine aZ ?_)
                refine bq rfl (fun K hK=>?_);go_simp;refine hK _ _ ?_;clear hK K;refine cC ?_;go_wp2_with fail;go_roundg (zs-(jj+1))
                case measure=>omega
                case rel=>exact⟨jj+1,_,ai,rfl,by go_num,HPU⟩
                -->
             ·
              --< C
              have agC:¬(jj:Int)<(zs.length:Int):=ai;obtain rfl:jj=zs:=ai;have hsu:=za.out;rw [Qo]at hsu;obtain⟨ta,tc,htv,hto⟩:=hsu.tv (f:=2) (.inr rfl);have XY:rT.dv=ah ta (gW ts k).kids.length tc:=htv;have hrt:=HP.2.1.2.root;rw [HZS]at hrt;have hzl:=ry.out;rw [HZS]at hzl;have hwr:IntKind.i64.wrap (p.t.root+(S:Int))=p.t.root+(S:Int):=bI _ ai;have htop:=hsu.top;obtain⟨c3,cf⟩:wr.cell? (w3,1,3)=some (ah ta (gW ts k).kids.length tc)/\∀o,wr.frozen? ⟨w3.heap.size+1,o,none⟩=false:=(by simp [World.cell?,World.frozen?,htop,XY]);have HTO:=ag (show ∀o,(wr.alloc o).ownsRow (w3+2) 3 1 (ah ta (gW ts k).kids.length tc) (gW ts k).kids.length ((gW ts k).kids.flatMap bP)from fun o=>by rw [<-XY];exact hto o);have hkl:(gW ts k).kids.length<=1000000:=(by simp [gW,nI];omega);have E0:w3+2<=wr.heap.size:=(by have:=hsu.size;have:=hsu.Cv;omega);have za:=ag hsu;have HTV:=ag (show rT.iQ 2=ah ta (gW ts k).kids.length tc from htv);have hfl:=hsu.fs.lt;have HTN:=ag (show (rT.iQ 2).ownBlock≠some (w3.heap.size+1)from fun e=>by have:=(hfl _ ⟨0,rT,2,rfl,e⟩).1;omega);clear hsu htv XY hto htop hrt hzl hfl;go_upto_region 40 with (at_builtin;refine lO rfl (.tmp 149) (.tmp 154) rfl Tryz.underlying52 Tryz.FU bY bY (w3+2) (ah ta (gW ts k).kids.length tc) (gW ts k).kids.length _ rfl (HTO _) wr 1 [af (p.t.root+(S:Int))] rfl (au _ _ rfl) rfl (by intro u hu;simp at hu;subst hu;rfl) hkl fk ?_;intro g6 c6 w6 r6 h6' Sz l6;rw [<-HTV]at h6' Sz;have t6:=(h6'.block (w3+1) fk fun e=>HTN e.symm).trans ((gy _ _ _ ai).trans za.top);obtain⟨t0,tf⟩:w6.cell? (w3,1,3)=some rT.dv/\∀o,w6.frozen? ⟨w3.heap.size+1,o,none⟩=false:=by simp [World.cell?,World.frozen?,t6]);have hs2:=za.num (f:=2) (us:=(gW ts k).kids) (c:=p.t.root+(S:Int)) (Kj:={ gW ts k with kids:=(gW ts k).kids++[p.t.root+(S:Int)] }) (.inr rfl) (by simp [Nd.fN]) (by simp [Nd.fC]) r6 h6' Sz rfl (UQ _ _);simp only [Nat.reduceAdd]at hs2;generalize w6.setCell (w3,1,3) (ah g6 ((gW ts k).kids.length+1) c6)=w7 at hs2 ⊢;have Ka:=ag hs2;clear hs2 r6 h6' Sz l6 t6 t0 tf c3 cf HTO HTV HTN za hwr b1 E0;by_cases iy:k=0
              ·have e0:¬(0:Int)<(k:Int):=ai;have e0':¬0<k:=ai;go_wp2_with fail;go_roundg (n-(k+1))
               case measure=>omega
               case rel=>exact⟨k+1,_,_,_,ai,rfl,by go_num,ag (by rw [EA HP.1,E9 HP.1,aw iy,HP.2.2,HZS];exact Ka.done' bh)⟩
              ·have e0:(0:Int)<(k:Int):=ai;have e0':0<k:=ai;have agG:(j+k:Nat)<qs.length:=hjk;obtain⟨ob,oP,rfl,agm,Yi⟩:=HR.out.st.OM (HT.1 k p HP.1);have ow:aq wo w7:=aF pL.below Ka.below pL.below.size;have cl:=Yi w7 ow;have I7:=fun w'=>jL (ab:=ob) (aR:=oP) (n:=qs.length) (cap:=oc) (show (j:Int)+(k:Int)=((j+k:Nat):Int) by omega) agG w';have hw2:IntKind.i64.wrap ((j:Int)+(k:Int))=(j:Int)+(k:Int):=bI _ ai;obtain⟨ka,kc,yx,hko⟩:=Ka.tv (f:=1) (.inl rfl);have Pb:rT.kv=ah ka (gW ts k).keys.length kc:=yx;have htop:=Ka.top;have hfl:=Ka.fs.lt;have abY:∀b,b<w3.heap.size+2->(ah ka (gW ts k).keys.length kc).ownBlock≠some b:=fun b hb e=>(by have:=(hfl b ⟨0,_,1,rfl,yx▸e⟩).1;omega);have E0:w3+2<=w7.heap.size:=(by have:=Ka.size;have:=Ka.Cv;omega);have mC:=pL.below.size;have HSk:=ag fun(W:World) (hw:∀b,b<w3.heap.size+2->W.heap[b]?=w7.heap[b]?)=>(by
                have w1:=(hw (w3+1) ai).trans htop;have w2:W.cell? (ob,oP+(j+k))=_:=(oH (hw ob ai)).trans cl;exact⟨by simp [World.cell?,w1,Raw.kR,Pb],w2⟩ :
                W.cell? (w3,1,2)=some (ah ka (gW ts k).keys.length kc)/\(W,ob,oP+(j+k),p.low))
               have agz:(gW ts k).keys.length<=1000000:=(by simp [gW];omega);have VS:=ag (aJ (show _=ah ka (gW ts k).keys.length kc from yx) (aJ hko (aJ htop abY)));have HZ7:=ag E0;clear yx Pb hko htop abY hfl cl Yi ow;go_upto_region 41 with (fail);refine bN [(0,1),(1,0),(2,1),(3,1),(4,1),(5,1),(6,1),(7,0),(8,2),(9,2),(10,1),(11,3)] 11 (fun W=>W.cell? ⟨w3.heap.size+1,2,none⟩=some (.slice ka (gW ts k).keys.length kc)/\W.cell? ⟨ob,oP+(j+k),none⟩=some (.int .i64 p.low)) cV cV (HSk.out _ fun _ _=>rfl) ?_
               (simp only [bV,List.filterMap_cons,List.filterMap_nil,List.getElem?_cons_zero,List.getElem?_cons_succ,Option.map_some])
               (repeat first|refine bg ?_|refine aZ ?_)
               refine aP rfl (fun K hK=>?_);go_simp;obtain⟨W8,mq⟩:=cd ((w7.alloc (.cells #[af p.low] 3)).drew);have k8:W8.heap[w7.heap.size]?=some (.cells #[af p.low] 3):=(by rw [mq];exact au _ _ rfl);have s8:∀b,b<w7.heap.size->W8.heap[b]?=w7.heap[b]?:=fun b hb=>(by rw [mq];exact gy _ _ _ hb);have z8:W8=w7.heap.size+1:=(by rw [mq];simp);have HS8:=ag s8;rw [<-mq];refine hK _ _ (HSk _ fun b hb=>s8 b ai) ?_;clear hK K s8
               (repeat first|refine bg ?_|refine aZ ?_)
               refine aP rfl (fun K hK=>?_);have r8:W8.ownsRow (w3+2) 3 1 (ah ka (gW ts k).keys.length kc) (gW ts k).keys.length ((gW ts k).keys.flatMap bP):=(by rw [mq];have:=VS.2.1 (.cells #[af p.low] 3);rw [VS.1]at this;exact this);refine Fq (.tmp 160) (.tmp 167) rfl Tryz.underlying52 Tryz.FU bY bY (w3+2) (ah ka (gW ts k).keys.length kc) (gW ts k).keys.length _ rfl r8 w7 1 [af p.low] rfl k8 rfl (by intro u hu;simp at hu;subst hu;rfl) agz ai ?_;intro g9 c9 w9 r9 h9 e9 l9;have h9b:∀b,b<w3.heap.size+2->w9.heap[b]?=w7.heap[b]?:=fun b hb=>(h9.block b ai fun e=>VS.2.2.2 b hb e.symm).trans (HS8 b ai);refine hK _ _ (HSk _ h9b) ?_;clear hK K;have U7:=(h9b (w3+1) ai).trans VS.2.2.1;obtain⟨t0,tf⟩:(∃u,w9.cell? (w3,1,2)=some u)/\∀o,w9.frozen? ⟨w3.heap.size+1,o,none⟩=false:=(by simp [World.cell?,World.frozen?,U7]);obtain⟨u0,t0⟩:=t0;rw [mq,<-VS.1]at h9 e9;have hs3:=jb.num (wr:=w7.drew) (f:=1) (us:=(gW ts k).keys) (c:=p.low) (Kj:={ gW ts k with keys:=(gW ts k).keys++[p.low],kids:=(gW ts k).kids++[p.t.root+(S:Int)] }) Ka.drew (.inl rfl) (by simp [Nd.fN]) (by simp [Nd.fC]) r9 h9 e9 rfl (UR { gW ts k with kids:=(gW ts k).kids++[p.t.root+(S:Int)] } _);have Xd:=ag hs3;clear hs3 r8 r9 h9 e9 l9 h9b U7 k8 mq z8
               (repeat first|refine bg ?_|refine aZ ?_)
               refine bq rfl (fun K hK=>?_);go_simp;refine hK _ _ ?_;clear hK K;refine cC ?_;go_wp2_with fail;go_roundg (n-(k+1))
               case measure=>omega
               case rel=>exact⟨k+1,_,_,_,ai,rfl,by go_num,ag (by rw [EA HP.1,E9 HP.1,ar iy,HP.2.2,HZS];exact Xd.done' bh)⟩
              -->
           ·
            --< D
            have agy:¬(k:Int)<(n:Int):=ai;obtain rfl:k=n:=ai;have hjn:j+k<=qs:=(by have:=HN.1;omega);have hsz:=JK (fun p hp=>(HT.2.1 p hp).2) k;have hlen:(ic ts k).length<=2000:=ai;have hsm:=Pq (ts:=ts) ai (fun p hp=>by
             obtain⟨i,hi⟩:=List.getElem?_of_mem hp;obtain⟨_,_,q2,-,-,-,-,-,hNq,-⟩:=HR.out.st.cells (HT.1 i p hi);exact(hNq wo (aQ.refl _ _)).sizes.2) k
            obtain⟨p0,hp0⟩:∃p,ts[0]?=some p:=⟨ts[0]'(by omega),bh⟩;have hq0:=HT.1 0 p0 hp0;rw [Nat.add_zero]at hq0;obtain⟨ob,oP,rfl,agm,Yi⟩:=HR.out.st.OM hq0;have htop:=HG.top;obtain⟨d0,d1,d2,d3,d4⟩:wr.cell? (w3,1,0)=some (.bool rT.leaf)/\wr.cell? (w3,1,1)=some rT.ev/\wr.cell? (w3,1,2)=some rT.kv/\wr.cell? (w3,1,3)=some rT.dv/\wr.cell? (w3,1,4)=some rT.bv:=(by simp [World.cell?,htop]);have Wo:=HG.size;have HON:=ag HG.out.one;have HRW:=ag fun o=>cL HG.row ((aW wr wr).alloc aO o);have hol:=HG.row.lt;have GY:=ag (show ∀b,b<w3.heap.size+2->(ah oo (ic ts k).length oc').ownBlock≠some b from fun b hb e=>by have:=(hol b e).1;omega);have hw4:IntKind.i64.wrap (((ic ts k).length:Int)+1-1)=((ic ts k).length:Int):=(by rw [Int.add_sub_cancel];exact bI _ ai);have tS:IntKind.i64.wrap ((j:Int)+(k:Int))=(j:Int)+(k:Int):=bI _ ai;have jA:=fun w'=>jL (ab:=ob) (aR:=oP) (n:=qs.length) (cap:=oc) (show (j:Int)=((j:Nat):Int) by rfl) nW w';have uX:=ag (aJ hp0 (aJ hsm Yi));clear hp0 hsm Yi hq0 htop hol hsz hout;have HHW:=ag Wo;go_upto_region 43 with (at_builtin;refine lO rfl (.tmp 171) (.tmp 173) rfl Tryz.underlying25 Tryz.Nu bY bY (w3.heap.size+2) (.slice oo (ic ts k).length oc') (ic ts k).length _ rfl (HRW.out _) wr.heap.size 1 (bS rT) rfl (au _ _ rfl) rfl HON.out ai (by simp;omega) ?_;intro g6 c6 w6 r6 h6' Sz l6;have t6:=(h6'.block w3.heap.size (by simp;omega) fun e=>GY.out _ ai e.symm).trans ((gy _ _ _ ai).trans HG.out.out);obtain⟨t0,t1',tf⟩:w6.cell? ⟨w3.heap.size,0,none⟩=some (.slice oo (ic ts k).length oc')/\w6.cell? ⟨w3.heap.size,1,none⟩=some (.int .i64 0)/\∀o,w6.frozen? ⟨w3.heap.size,o,none⟩=false:=by simp [World.cell?,World.frozen?,t6]);obtain⟨n1,n2,n3⟩:=HG.out.afl r6 h6' uX.out.2.1 (fZ hlen bY);clear d0 d1 d2 d3 d4 o0 of t6;go_upto_region 44 with (fail);obtain⟨w8,hw8⟩:=cd ((w6.setCell (w3,0) (ah g6 ((ic ts k).length+1) c6)).setCell (w3,1) (af ((ic ts k).length:Nat)));have k8:w8.heap[w3.heap.size]?=some (.cells #[ah g6 ((ic ts k).length+1) c6,af ((ic ts k).length:Nat)] 27):=by
             have:=aM (off:=1) (v:=af ((ic ts k).length:Nat)) (aM (off:=0) (v:=ah g6 ((ic ts k).length+1) c6) n2);rw [hw8];simpa using this
            have jf:aq w3 w8:=(by rw [hw8];exact(n1.setCell aO _).setCell aO _);have hk8:aQ (w3+1) w6 w8:=(by rw [hw8];exact((aQ.refl _ _).set (show w3<w3.heap.size+1 from Nat.lt_succ_self _) _).set (show w3<w3.heap.size+1 from Nat.lt_succ_self _) _);have VP:=ag fun w'' hk=>n3 w'' (hk8.trans hk);rw [<-hw8];obtain⟨x0,x1⟩:w8.cell? (w3,0)=some (ah g6 ((ic ts k).length+1) c6)/\(w8,w3.heap.size,1,((ic ts k).length:Nat)):=(by simp [World.cell?,k8]);have HA:=ag pL.out.at';have acn:=jf.size;have hof:=pL.below.size;have hnl:ns.length<=1000000:=fZ (fZ (Nat.le_mul_of_pos_left _ bY) pL.few) (fZ hle (fZ agR bY));have HR8:=ag fun o=>cL HA.row (jf.alloc jf.size o);have BG:=ag jf;clear hw8 hk8 n1 n2 n3 k8 r6 h6' Sz l6 t0 t1' tf jf;go_upto_region 45 with (at_builtin;refine lO rfl (.tmp 181) (.tmp 183) rfl Tryz.underlying149 Tryz.Wm bY bY wo (ah na ns nc) ns _ rfl (HR8 _) w8 1 [ah g6 ((ic ts k).length+1) c6,af ((ic ts k).length:Nat)] rfl (au _ _ rfl) rfl (by intro u hu;simp at hu;rcases hu with rfl|rfl <;> rfl) hnl (fZ (fZ hof acn) ((aW _ w8).alloc aO _).size) ?_;intro g9 c9 w9 r9 h9 e9 l9)
            have hrl:=HA.row.lt;have kS:aq wo w9:=nP ((aF pL.below BG hof).alloc (aF pL.below BG hof).size _) h9 (fZ (fZ hof acn) ((aW _ w8).alloc aO _).size) fun b hb=>(hrl b hb).1;have cl:=uX.2.2 w9 kS;have Tg:=ag fun o=>HA.ab9 (BG.alloc BG.size _) h9 o;have h9s:=kS.size;have H9:=ag (aJ r9 (aJ h9 e9));clear r9 h9 e9 l9 hrl kS x0 x1;go_upto_region 46 with (at_builtin;refine lO rfl (.tmp 185) (.tmp 190) rfl Tryz.underlying52 Tryz.FU bY bY wo (ah ma ns mc) ns _ rfl (Tg _) w9 1 [af p0.low] rfl (au _ _ rfl) rfl (by intro u hu;simp at hu;subst hu;rfl) hnl (fZ h9s ((aW _ w9).alloc aO _).size) ?_;intro g10 c10 mE r10 h10 e10 l10);clear cl;go_wp2_with fail;go_roundg (qs-(j+k))
            case measure=>exact Nat.sub_lt_sub_left nW (Nat.lt_add_of_pos_right (oI bY hg.1))
            case rel=>
             obtain⟨r9,h9,e9⟩:=H9.out;have hpc:=HT.2.1;obtain⟨aaY,m1,m2⟩:=HA.group t1 uX.1 (hpc p0 (uO uX.1)).1.ne BG hof VP r9 h9 e9 r10 h10 e10;refine⟨j+k,_,_,rfl,congrArg _ (Int.natCast_add j k).symm,ag ⟨JP (aF pL.below (BG.alloc BG.size _) hof) m2 aO,m1,?_,fun p hp=>?_,?_,?_,hjn⟩⟩
             ·rw [pK,pL.es,<-HT.2.2.1,fO,List.flatMap_nil,nQ]
             ·rcases kW.1 hp with hp|hp
              ·exact pL.pc p hp
              ·obtain rfl:=oY.1 hp;exact⟨Pc.join (fun p hp=>(hpc p hp).1) (t1.symm▸hg.1) (t1.symm▸hg.2.1) HT.2.2.2,Kb.join (fun p hp=>(hpc p hp).2) (t1.symm▸hg.1)⟩
             ·rw [dF,List.length_singleton,Nat.mul_add];exact Nat.add_le_add pL.few hg.1
             ·rw [Nat.sub_add_eq,HN.1];exact hg.2.2.2
            -->
       ·
        --< E
        have agv:¬(j:Int)<(qs.length:Int):=ai;obtain rfl:j=qs:=(by have:=pL.le;omega);have Ph:ns.flatMap Pl.es=l:=(by rw [pL.es,List.take_length,HR.out.es]);have hne:0<ns.length:=List.length_pos_iff.2 fun e=>(by rw [e]at Ph;subst Ph;exact h6 bh);have hfw:=pL.few;have hq:=HR.out.few;have HE:=ag (show Lp2 w l (h+1) (ah na ns nc) (ah ma ns mc) ns UA wr from ⟨aF HR.out.below pL.below HR.out.below.size,(pL.below.block _ (eJ.1 HR.out.res).1).trans HR.out.res,pL.at'.st ai (eJ.1 HR.out.res).1,Ph,pL.pc,ai,hne⟩);clear Ph;go_wp2_with fail;go_roundg ns
        case measure=>omega
        case rel=>exact⟨h+1,ns,UA,rfl,HE⟩
        -->
     ·
      --<
      have h1':¬(1:Int)<(qs.length:Int):=ai;obtain⟨p,hq⟩:∃p,qs=[p]:=List.length_eq_one_iff.1 (by have:=HR.out.ne;omega);subst hq;have HPC:=ag (HR.out.pc p bh).1;have hes:p.es=l:=(by have:=HR.out.es;simpa using this);obtain⟨b,off,q,rfl,hb,-,e1,e2,hN,hcs⟩:=HR.out.st.cells (i:=0) (p:=p) rfl;obtain⟨c0,c1'⟩:=hcs _ (aW _ _);rw [e1,Nat.zero_mul,Nat.add_zero]at c0;rw [e1]at hN;rw [e2,Nat.zero_mul,Nat.add_zero]at c1';have HN:=ag hN;have HES:=ag hes;obtain⟨q0,q1,qf⟩:wr.cell? (w,0)=some (az 0 0)/\(wr,w.heap.size,1)/\∀o,wr.frozen? ⟨w.heap.size,o,none⟩=false:=by
       have:=HR.out.res;simp [World.cell?,World.frozen?,this]
      have HB:=ag HR.out.below;have hn':=HC.2.2;clear hes hN hcs e1 e2 HR;go_wp2_with fail;have cT:=HB.out;refine bW (v:= .agg #[ah q.ao p.t.nodes q.cap,af p.t.root]) (by simp [results,Tryz.results45,go_sem, *]) rfl ⟨aj,q.ao,q.cap,p.t,rfl,fun w'' hk=>HN _ (aQ.trans ?_ (hk.mono ai)),HPC.fault (by rw [HES];exact hn') (by rw [HES];exact hn),HPC.all.trans HES⟩;exact((aQ.refl _ _).set (by show w<w.heap.size+1;omega) _).set (by show w<w.heap.size+1;omega) _
      -->
end Go.Proofs.YtmljjfhgciaceaaGreatDoor
