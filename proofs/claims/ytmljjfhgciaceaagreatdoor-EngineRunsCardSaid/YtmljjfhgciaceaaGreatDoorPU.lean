/- Lemmas of the proof. -/
import Derived.Test.YtmljjfhgciaceaaGreatDoorHd
import Derived.Test.YtmljjfhgciaceaaGreatDoorCz
import Derived.Test.YtmljjfhgciaceaaGreatDoorPA
namespace Go.Proofs.YtmljjfhgciaceaaGreatDoor
section
variable {t:Tr}
def fr (ks:List Int) (lo:Int) (j:Nat):Int:=if j=0 then lo else ks.getD (j-1) 0
def up (ks:List Int) (hi:Int) (j:Nat):Int:=if j<ks then ks.getD j 0 else hi
def Sub (t:Tr):Nat->Int->Int->Int->List Int->Prop
 |0,_,_,_,_=>False
 |h+1,n,lo,hi,l=>∃x,t.dm n=some x/\lo<hi /\
   ((h=0/\x.leaf=true/\jI t n x lo hi/\l=[n]) \/
   (0<h/\x.leaf=false/\mW x lo hi/\∃ls:List (List Int),ls=x.kids.length/\l=n::ls.flatten /\
     ∀(j:Nat) (k:Int) (lj:List Int),x.kids[j]?=some k->ls[j]?=some lj->lo<=fr x.keys lo j/\up x.keys hi j<=hi/\Sub t h k (fr x.keys lo j) (up x.keys hi j) lj))
theorem Sub.lt:∀{h:Nat} {n lo hi:Int} {l:List Int},Sub t h n lo hi l->lo<hi
 |0,_,_,_,_,hs=>hs.elim
 |_h+1,_,_,_,_,⟨_,_,h1,_⟩=>h1
theorem Sub.pos {h:Nat} {n lo hi:Int} {l:List Int} (hs:Sub t h n lo hi l):0<h:=by
 cases h with
 |zero=>exact hs.elim
 |succ h=>omega
theorem IB {t:Tr} {f:Nat} {x:Nd} {lo hi:Int} (ih:∀{k a b:Int} {l:List Int} {h:Nat},nU t f k a b=some (l,h)->h<=f/\Sub t h k a b l) :
  ∀{ks:List Int} {i:Nat} {l:List Int} {h:Nat},cu (fun k a b=>nU t f k a b) x lo hi ks i=some (l,h)->(ks≠[]->h<=f)/\∃ls:List (List Int),ls=ks.length/\l=ls.flatten /\
   ∀(j:Nat) (k:Int) (lj:List Int),ks[j]?=some k->ls[j]?=some lj->lo<=x.from lo (i+j)/\x.upto hi (i+j)<=hi/\Sub t h k (x.from lo (i+j)) (x.upto hi (i+j)) lj
 |[],i,l,h,hv=>by
  simp only [cu,iJ,kC]at hv;exact⟨fun h=>absurd rfl h,[],rfl,by rw [<-hv.1];rfl,fun j k lj hj=>by simp at hj⟩
 |k::ks,i,l,h,hv=>by
  unfold cu at hv
  split at hv
  ·rename_i hc
   split at hv
   ·rename_i l1 h1 l2 h2 e1 e2
    split at hv
    ·rename_i hh
     simp only [iJ,kC]at hv;obtain⟨rfl,rfl⟩:=hv;obtain⟨g1,g2⟩:=ih e1;obtain⟨_,ls,k1,k2,k3⟩:=IB ih e2;refine⟨fun _=>g1,l1::ls,by simp [k1],by rw [k2];rfl,fun j k' lj hj nW=>?_⟩
     cases j with
     |zero=>
      simp only [List.getElem?_cons_zero,iJ]at hj nW;subst hj nW;exact⟨hc.2.1,hc.2.2,g2⟩
     |succ j=>
      simp only [List.getElem?_cons_succ]at hj nW;have:=k3 j k' lj hj nW;rw [show i+1+j=i+(j+1)from by omega]at this;have hne:ks≠[]:=fun h=>(by subst h;simp at hj);rcases qO (fun k a b l h hv=>sU hv) e2 with h0|h0
      ·exact absurd h0 hne
      ·rcases hh with hh|hh
       ·omega
       ·rw [hh]at this;exact this
    ·cases hv
   ·cases hv
  ·cases hv
theorem MX {t:Tr}:∀{f:Nat} {n lo hi:Int} {l:List Int} {h:Nat},nU t f n lo hi=some (l,h)->h<=f/\Sub t h n lo hi l
 |0,_,_,_,_,_,hv=>by cases hv
 |f+1,n,lo,hi,l,h,hv=>by
  have hlt:=Fz hv;unfold nU at hv
  split at hv
  ·cases hv
  ·rename_i x hx
   split at hv
   ·cases hv
   ·split at hv
    ·rename_i hl
     split at hv
     ·rename_i hok
      simp only [iJ,kC]at hv;obtain⟨rfl,rfl⟩:=hv;exact⟨ai,x,hx,hlt, .inl ⟨rfl,hl,hok,rfl⟩⟩
     ·cases hv
    ·rename_i hl
     split at hv
     ·rename_i hok
      obtain⟨⟨l',h'⟩,hk,hp⟩:=Option.map_eq_some_iff.1 hv;simp only [kC]at hp;obtain⟨rfl,rfl⟩:=hp;obtain⟨g1,ls,g2,g3,g4⟩:=IB (fun hv=>MX hv) hk;have hne:x.kids≠[]:=fun h=>(by have:=hok.2.1;rw [h]at this;simp at this);have hp:1<=h':=by
       rcases qO (fun k a b l h hv=>sU hv) hk with h0|h0
       ·exact absurd h0 hne
       ·exact h0
      refine⟨by have:=g1 hne;omega,x,hx,hlt, .inr ⟨ai,by simpa using hl,hok,ls,g2,by rw [g3],fun j k lj hj nW=>?_⟩⟩;have:=g4 j k lj hj nW;rw [iR]at this;exact this
     ·cases hv
theorem G8 {t:Tr} {f h:Nat} (hp:0<h) {x:Nd} {lo hi:Int} (ih:∀{k a b:Int} {l:List Int},Sub t h k a b l->nU t f k a b=some (l,h)) :
  ∀{ks:List Int} {i:Nat} {ls:List (List Int)},ls=ks.length->(∀(j:Nat) (k:Int) (lj:List Int),ks[j]?=some k->ls[j]?=some lj->lo<=x.from lo (i+j)/\x.upto hi (i+j)<=hi/\Sub t h k (x.from lo (i+j)) (x.upto hi (i+j)) lj) ->
   cu (fun k a b=>nU t f k a b) x lo hi ks i=some (ls.flatten,if ks=[]then 0 else h)
 |[],i,[],_,_=>rfl
 |k::ks,i,l1::ls,hl,hk=>by
  have h0:=hk 0 k l1 rfl rfl;rw [Nat.add_zero]at h0;have hr:=G8 hp ih (ks:=ks) (i:=i+1) (ls:=ls) (by simpa using hl) fun j k' lj hj nW=>by
   have:=hk (j+1) k' lj (by simpa using hj) (by simpa using nW)
   rwa [show i+(j+1)=i+1+j from by omega]at this
  unfold cu;rw [aw ⟨h0.2.2.lt,h0.1,h0.2.1⟩,ih h0.2.2,hr]
  try simp only
  have hc:(if ks=[]then 0 else h)=0\/(if ks=[]then 0 else h)=h:=by
   by_cases he:ks=[]
   ·left;rw [aw he]
   ·right;rw [ar he]
  rw [aw hc,ar bh];rfl
theorem M6 {t:Tr}:∀{h f:Nat} {n lo hi:Int} {l:List Int},Sub t h n lo hi l->h<=f->nU t f n lo hi=some (l,h)
 |0,_,_,_,_,_,hs,_=>hs.elim
 |h+1,0,_,_,_,_,_,hf=>ai
 |h+1,f+1,n,lo,hi,l,⟨x,hx,hlt,hs⟩,hf=>by
  unfold nU;rw [hx]
  try simp only
  rw [ar (jw hlt)];rcases hs with ⟨rfl,h1,h2,rfl⟩|⟨hp,h1,h2,ls,h3,rfl,h4⟩
  ·rw [aw h1,aw h2]
  ·rw [ar (by simp [h1]),aw h2,G8 (h:=h) (f:=f) hp (fun hs=>M6 hs ai) h3 (fun j k lj hj nW=>by rw [iR];exact h4 j k lj hj nW)];have hne:x.kids≠[]:=fun h=>by have:=h2.2.1;rw [h]at this;simp at this
   rw [ar hne];rfl
theorem Sub.frame {t':Tr} (hr:t'.root=t.root):∀{h:Nat} {n lo hi:Int} {l:List Int},Sub t h n lo hi l->(∀m∈l,t'.dm m=t.dm m)->Sub t' h n lo hi l
 |0,_,_,_,_,hs,_=>hs
 |h+1,n,lo,hi,l,⟨x,hx,hlt,hs⟩,hk=>by
  rcases hs with ⟨h0,h1,h2,rfl⟩|⟨hp,h1,h2,ls,h3,rfl,h4⟩
  ·exact⟨x,(hk n bh).trans hx,hlt, .inl ⟨h0,h1,by unfold jI at *;rw [hr];exact h2,rfl⟩⟩
  ·refine⟨x,(hk n bh).trans hx,hlt, .inr ⟨hp,h1,h2,ls,h3,rfl,fun j k lj hj nW=>?_⟩⟩;obtain⟨g1,g2,g3⟩:=h4 j k lj hj nW;exact⟨g1,g2,g3.frame hr fun m hm=>hk m (List.mem_cons_of_mem _ (List.mem_flatten.2 ⟨lj,uO nW,hm⟩))⟩
theorem Sub.mem:∀{h:Nat} {n lo hi:Int} {l:List Int},Sub t h n lo hi l->n∈l/\∀m∈l,∃x,t.dm m=some x
 |0,_,_,_,_,hs=>hs.elim
 |h+1,n,lo,hi,l,⟨x,hx,hlt,hs⟩=>by
  rcases hs with ⟨h0,h1,h2,rfl⟩|⟨hp,h1,h2,ls,h3,rfl,h4⟩
  ·exact⟨bh,fun m hm=>by simp at hm;subst hm;exact⟨x,hx⟩⟩
  ·refine⟨bh,fun m hm=>?_⟩;rcases fy.1 hm with rfl|hm
   ·exact⟨x,hx⟩
   ·obtain⟨lj,nW,zH⟩:=List.mem_flatten.1 hm;obtain⟨j,hj,rfl⟩:=nr nW;have hjk:j<x.kids:=ai;exact((h4 j _ _ (oZ hjk) (oZ hj)).2.2.mem).2 m zH
theorem wN {m:Int} {x:Nd} (h:t.dm m=some x):0<=m/\m<t.nodes:=by
 unfold Tr.dm at h
 split at h
 ·have:=(dW.1 h).1;omega
 ·cases h
end
section
variable {n:Int} {x y:Nd} {t:Tr}
def dz (t:Tr) (n:Int) (x:Nd):Tr:={ t with nodes:=t.nodes.set n.toNat x }
def kN (t:Tr) (x:Nd):Tr:={ t with nodes:=t.nodes++[x] }
def Zq (l:List aH):Prop:=∀e∈l,0<=e.key/\e.key<1099511627776
def mf (e:aH):Prop:=e.is.c≠0/\av e.is=0/\0<=e.key/\e.key<1099511627776
def yZ (l:List aH):Prop:=aY l/\Checked l/\Zq l/\l.length<=20
open Classical in
noncomputable def A8 (l:List aH) (e:aH):Option (List aH):=if yZ l/\mf e then gJ l e else none
open Classical in
noncomputable def jn (t:Tr) (n:Int):Option (Tr×Int×Int):=
 match t.dm n with
 |none=>none
 |some x=>
  if x.leaf=true then
   if x.aI.length<=6 then some (t,-1,0)
   else if x.aI.length=7/\t.nodes.length<=1000000000000 then some (dz (kN t ⟨true,x.aI.drop 3,[],[],[]⟩) n { x with aI:=x.aI.take 3 },t.nodes.length,(x.aI.getD 3 default).key)
   else none
  else if x.kids.length<=4 then some (t,-1,0)
  else if x.kids.length=5/\x.keys.length=4/\yZ x.buf/\(0<=x.keys.getD 1 0/\x.keys.getD 1 0<=1099511627776)/\t.nodes.length<=1000000000000 then
   some (dz (kN t ⟨false,[],x.keys.drop 2,x.kids.drop 2,x.buf.drop (jr x.buf (x.keys.getD 1 0))⟩) n ⟨false,[],x.keys.take 1,x.kids.take 2,x.buf.take (jr x.buf (x.keys.getD 1 0))⟩,t.nodes.length,x.keys.getD 1 0)
  else none
noncomputable def rQ (n:Int) (t:Tr) (e:aH):Option Tr:=
 match t.dm n with
 |none=>none
 |some x=>(A8 x.buf e).map fun b=>dz t n { x with buf:=b }
def jV (x:Nd) (j:Nat):Nat:=(x.buf.filter fun e=>decide (bL x.keys e.key=j)).length
def jZ (m:Nat->Nat):Nat->Nat
 |0=>0
 |k+1=>if m (jZ m k)<m k then k else jZ m k
noncomputable def LA (t1:Tr) (n:Int) (i:Nat) (more key:Int):Option Tr:=
 if more<0 then some t1 else match t1.dm n with
  |none=>none
  |some y=>if i<=y.keys/\i+1<=y.kids/\y.kids.length<=20/\y.keys.length<=20 then
    some (dz t1 n { y with keys:=y.keys.take i++key::y.keys.drop i,kids:=y.kids.take (i+1)++more::y.kids.drop (i+1) })
   else none
open Classical in
noncomputable def wM (put:Tr->Int->aH->Option (Tr×Int×Int)) (n:Int) (all:List aH):List aH->Tr->Option Tr
 |[],t=>some t
 |e::ds,t=>
  match t.dm n with
  |none=>none
  |some x=>
   if x.keys.Pairwise (·<·)/\x.keys.length<=20/\x.kids.length<=20 then
    match x.kids[bL x.keys e.key]? with
    |none=>none
    |some k=>
     match put t k e with
     |none=>none
     |some (t1,more,key)=>
      match LA t1 n (bL x.keys e.key) more key with
      |none=>none
      |some t2=>
       match t2.dm n with
       |none=>none
       |some z=>if z.kids.length<=4 then wM put n all ds t2 else(all.filter fun d=>decide (e.key<d.key)).foldlM (rQ n) t2
   else none
open Classical in
noncomputable def rB (put:Tr->Int->aH->Option (Tr×Int×Int)) (t:Tr) (n:Int):Option Tr:=
 match t.dm n with
 |none=>none
 |some x=>
  if x.keys.Pairwise (·<·)/\x.keys.length<=3/\x.buf.length<=20/\Checked x.buf then
   wM put n (x.buf.filter fun e=>decide (bL x.keys e.key=jZ (jV x) 4)) (x.buf.filter fun e=>decide (bL x.keys e.key=jZ (jV x) 4))
    (dz t n { x with buf:=x.buf.filter fun e=>!decide (bL x.keys e.key=jZ (jV x) 4) })
  else none
noncomputable def uw:Nat->Tr->Int->aH->Option (Tr×Int×Int)
 |0,_,_,_=>none
 |f+1,t,n,e=>
  match t.dm n with
  |none=>none
  |some x=>
   if x.leaf=true then
    match A8 x.aI e with
    |none=>none
    |some l=>jn (dz t n { x with aI:=l }) n
   else
    match A8 x.buf e with
    |none=>none
    |some l=>
     if l.length<=8 then jn (dz t n { x with buf:=l }) n
     else match rB (uw f) (dz t n { x with buf:=l }) n with
      |none=>none
      |some t2=>jn t2 n
theorem xu (h:t.dm n=some x):(dz t n y).dm n=some y:=by
 unfold Tr.dm at *
 split at h
 ·rename_i h0
  rw [aw h0];have:=(dW.1 h).1;simp [dz,this]
 ·cases h
theorem nO {m:Int} (h0:0<=n) (h:m≠n):(dz t n y).dm m=t.dm m:=by
 unfold Tr.dm dz
 split
 ·simp only;rw [zV ai]
 ·rfl
theorem Zi (h:t.dm n=some x):(kN t y).dm n=some x:=by
 unfold Tr.dm kN at *
 split at h
 ·rename_i h0
  rw [aw h0];simp only;rw [rE (dW.1 h).1];exact h
 ·cases h
theorem Zh:(kN t y).dm (t.nodes.length:Int)=some y:=by
 unfold Tr.dm kN;simp
theorem jK (t:Tr) (n:Int) (x:Nd):(dz t n x).nodes.length=t.nodes:=by simp [dz]
theorem Ns (t:Tr) (x:Nd):(kN t x).nodes.length=t.nodes+1:=by simp [kN]
theorem Ce (t:Tr) (n:Int) (x:Nd):(dz t n x).root=t.root:=rfl
theorem QF (t:Tr) (x:Nd):(kN t x).root=t.root:=rfl
end
section
variable {P:Int->Int->Int->List Int->Prop}
def Seg (P:Int->Int->Int->List Int->Prop):Int->Int->List Int->List Int->List (List Int)->Prop
 |lo,hi,[],[k],[l]=>P k lo hi l
 |lo,hi,key::keys,k::kids,l::ls=>P k lo key l/\Seg P key hi keys kids ls
 |_,_,_,_,_=>False
theorem Seg.len:∀{keys kids:List Int} {ls:List (List Int)} {lo hi:Int},Seg P lo hi keys kids ls->kids=keys.length+1/\ls=keys.length+1
 |[],[k],[l],_,_,_=>⟨rfl,rfl⟩
 |key::keys,k::kids,l::ls,_,_,h=>by have:=h.2.len;simp [this.1,this.2]
 |[],[],_,_,_,h=>h.elim
 |[],_::_::_,_,_,_,h=>by simp [Seg]at h
 |[],[_],[],_,_,h=>h.elim
 |[],[_],_::_::_,_,_,h=>by simp [Seg]at h
 |_::_,[],_,_,_,h=>by simp [Seg]at h
 |_::_,_::_,[],_,_,h=>by simp [Seg]at h
theorem NF (key:Int) (keys:List Int) (lo:Int) (j:Nat):fr (key::keys) lo (j+1)=fr keys key j:=by
 unfold fr
 cases j with
 |zero=>simp
 |succ j=>simp
theorem M3 (key:Int) (keys:List Int) (hi:Int) (j:Nat):up (key::keys) hi (j+1)=up keys hi j:=by
 unfold up;simp
theorem QB {P:Int->Int->Int->List Int->Prop}:∀{keys kids:List Int} {ls:List (List Int)} {lo hi:Int},kids=keys.length+1->ls=kids.length ->
  (∀(j:Nat) (k:Int) (lj:List Int),kids[j]?=some k->ls[j]?=some lj->P k (fr keys lo j) (up keys hi j) lj)->Seg P lo hi keys kids ls
 |[],[k],[l],lo,hi,_,_,h=>h 0 k l rfl rfl
 |key::keys,k::kids,l::ls,lo,hi,h1,h2,h=>by
  refine⟨?_,QB (by simpa using h1) (by simpa using h2) fun j k' lj hj nW=>?_⟩
  ·have:=h 0 k l rfl rfl;simpa [fr,up] using this
  ·have:=h (j+1) k' lj (by simpa using hj) (by simpa using nW)
   rwa [NF,M3]at this
 |[],[],_,_,_,h1,_,_=>by simp at h1
 |[],_::_::_,_,_,_,h1,_,_=>by simp at h1
 |[],[_],[],_,_,_,h2,_=>by simp at h2
 |[],[_],_::_::_,_,_,_,h2,_=>by simp at h2
 |_::_,[],_,_,_,h1,_,_=>by simp at h1
 |_::_,_::_,[],_,_,_,h2,_=>by simp at h2
theorem Seg.bounds (hlt:∀k a b l,P k a b l->a<b):∀{keys kids:List Int} {ls:List (List Int)} {lo hi:Int},Seg P lo hi keys kids ls->lo<hi/\keys.Pairwise (·<·)/\(∀k∈keys,lo<k/\k<hi)
 |[],[k],[l],_,_,h=>⟨hlt _ _ _ _ h,List.Pairwise.nil,fun _ h=>by cases h⟩
 |key::keys,k::kids,l::ls,lo,hi,h=>by
  have h1:=hlt _ _ _ _ h.1;obtain⟨h2,h3,h4⟩:=h.2.bounds hlt;refine⟨ai,tZ.2 ⟨fun y hy=>(h4 y hy).1,h3⟩,fun y hy=>?_⟩;rcases fy.1 hy with rfl|hy
  ·omega
  ·have:=h4 y hy;omega
 |[],[],_,_,_,h=>h.elim
 |[],_::_::_,_,_,_,h=>by simp [Seg]at h
 |[],[_],[],_,_,h=>h.elim
 |[],[_],_::_::_,_,_,h=>by simp [Seg]at h
 |_::_,[],_,_,_,h=>by simp [Seg]at h
 |_::_,_::_,[],_,_,h=>by simp [Seg]at h
theorem Seg.at {P:Int->Int->Int->List Int->Prop} (hlt:∀k a b l,P k a b l->a<b):∀{keys kids:List Int} {ls:List (List Int)} {lo hi:Int},Seg P lo hi keys kids ls ->
  ∀(j:Nat) (k:Int) (lj:List Int),kids[j]?=some k->ls[j]?=some lj->lo<=fr keys lo j/\up keys hi j<=hi/\P k (fr keys lo j) (up keys hi j) lj
 |[],[k],[l],lo,hi,h,j,k',lj,hj,nW=>by
  cases j with
  |zero=>
   simp only [List.getElem?_cons_zero,iJ]at hj nW;subst hj nW;exact⟨by simp [fr],by simp [up],by simpa [fr,up,Seg] using h⟩
  |succ j=>simp at hj
 |key::keys,k::kids,l::ls,lo,hi,h,j,k',lj,hj,nW=>by
  have h1:=hlt _ _ _ _ h.1;have h2:=h.2.bounds hlt
  cases j with
  |zero=>
   simp only [List.getElem?_cons_zero,iJ]at hj nW;subst hj nW;exact⟨by simp [fr],by simp [up];omega,by simpa [fr,up] using h.1⟩
  |succ j=>
   obtain⟨g1,g2,g3⟩:=h.2.at hlt j k' lj (by simpa using hj) (by simpa using nW);rw [NF,M3];exact⟨ai,g2,g3⟩
 |[],[],_,_,_,h,_,_,_,_,_=>h.elim
 |[],_::_::_,_,_,_,h,_,_,_,_,_=>by simp [Seg]at h
 |[],[_],[],_,_,h,_,_,_,_,_=>h.elim
 |[],[_],_::_::_,_,_,h,_,_,_,_,_=>by simp [Seg]at h
 |_::_,[],_,_,_,h,_,_,_,_,_=>by simp [Seg]at h
 |_::_,_::_,[],_,_,h,_,_,_,_,_=>by simp [Seg]at h
theorem Seg.mono {P':Int->Int->Int->List Int->Prop}:∀{keys kids:List Int} {ls:List (List Int)} {lo hi:Int},Seg P lo hi keys kids ls->(∀k a b l,l∈ls->P k a b l->P' k a b l)->Seg P' lo hi keys kids ls
 |[],[k],[l],_,_,h,hp=>hp _ _ _ _ bh h
 |key::keys,k::kids,l::ls,_,_,h,hp=>⟨hp _ _ _ _ bh h.1,h.2.mono fun k a b l' hl=>hp k a b l' (by simp [hl])⟩
 |[],[],_,_,_,h,_=>h.elim
 |[],_::_::_,_,_,_,h,_=>by simp [Seg]at h
 |[],[_],[],_,_,h,_=>h.elim
 |[],[_],_::_::_,_,_,h,_=>by simp [Seg]at h
 |_::_,[],_,_,_,h,_=>by simp [Seg]at h
 |_::_,_::_,[],_,_,h,_=>by simp [Seg]at h
theorem Lx (key:Int) (keys:List Int) (x:Int):bL (key::keys) x=if key<=x then bL keys x+1 else 0:=by
 unfold bL;by_cases h:key<=x
 ·rw [aw h,List.takeWhile_cons_of_pos (by simpa using h),gD]
 ·rw [ar h,List.takeWhile_cons_of_neg (by simpa using h)];rfl
theorem Seg.zip (hlt:∀k a b l,P k a b l->a<b) {x:Int}:∀{keys kids:List Int} {ls:List (List Int)} {lo hi:Int},Seg P lo hi keys kids ls->lo<=x->x<hi ->
  ∃(k a b:Int) (l:List Int) (L1 L2:List (List Int)),kids[bL keys x]?=some k/\P k a b l/\a<=x/\x<b/\lo<=a/\b<=hi/\ls=L1++l::L2/\bL keys x<=keys /\
   (∀(P':Int->Int->Int->List Int->Prop) (l':List Int),(∀k a b l,l∈L1++L2->P k a b l->P' k a b l)->P' k a b l'->Seg P' lo hi keys kids (L1++l'::L2)) /\
   (∀(P':Int->Int->Int->List Int->Prop) (l1 l2:List Int) (more key:Int),(∀k a b l,l∈L1++L2->P k a b l->P' k a b l)->P' k a key l1->P' more key b l2 ->
    Seg P' lo hi (keys.take (bL keys x)++key::keys.drop (bL keys x)) (kids.take (bL keys x+1)++more::kids.drop (bL keys x+1)) (L1++l1::l2::L2))
 |[],[k],[l],lo,hi,h,h1,h2=>⟨k,lo,hi,l,[],[],rfl,h,h1,h2,Int.le_refl _,Int.le_refl _,rfl,nu _,fun P' l' _ h=>h,fun P' l1 l2 more key _ g1 g2=>⟨g1,g2⟩⟩
 |key::keys,k::kids,l::ls,lo,hi,h,h1,h2=>by
  rw [Lx];by_cases hk:key<=x
  ·rw [aw hk];have:=hlt _ _ _ _ h.1;obtain⟨k',a,b,l',L1,L2,e1,e2,e3,e4,e5,e6,rfl,e8,e9,e10⟩:=h.2.zip hlt hk h2;refine⟨k',a,b,l',l::L1,L2,by simpa using e1,e2,e3,e4,ai,e6,rfl,by simp;omega,fun P' l'' g1 g2=>?_,fun P' l1 l2 more key' g1 g2 g3=>?_⟩
   ·exact⟨g1 _ _ _ _ bh h.1,e9 P' l'' (fun k a b l hl=>g1 k a b l (by simp at hl ⊢;exact .inr hl)) g2⟩
   ·have:=e10 P' l1 l2 more key' (fun k a b l hl=>g1 k a b l (by simp at hl ⊢;exact .inr hl)) g2 g3;rw [List.take_succ_cons,List.take_succ_cons,List.drop_succ_cons,List.drop_succ_cons];exact⟨g1 _ _ _ _ bh h.1,this⟩
  ·rw [ar hk];have hb:=h.2.bounds hlt;refine⟨k,lo,key,l,[],ls,rfl,h.1,h1,ai,Int.le_refl _,ai,rfl,bh,fun P' l' g1 g2=>?_,fun P' l1 l2 more key' g1 g2 g3=>?_⟩
   ·exact⟨g2,h.2.mono fun k a b l hl=>g1 k a b l (by simpa using hl)⟩
   ·exact⟨g2,g3,h.2.mono fun k a b l hl=>g1 k a b l (by simpa using hl)⟩
 |[],[],_,_,_,h,_,_=>h.elim
 |[],_::_::_,_,_,_,h,_,_=>by simp [Seg]at h
 |[],[_],[],_,_,h,_,_=>h.elim
 |[],[_],_::_::_,_,_,h,_,_=>by simp [Seg]at h
 |_::_,[],_,_,_,h,_,_=>by simp [Seg]at h
 |_::_,_::_,[],_,_,h,_,_=>by simp [Seg]at h
theorem Seg.part {keys kids:List Int} {ls:List (List Int)} {lo hi:Int} (h:Seg P lo hi keys kids ls) (h4:keys.length=4) :
  Seg P lo (keys.getD 1 0) (keys.take 1) (kids.take 2) (ls.take 2)/\Seg P (keys.getD 1 0) hi (keys.drop 2) (kids.drop 2) (ls.drop 2):=by
 have hl:=h.len
 match keys,kids,ls,h4,hl,h with
 |[a,b,c,d],[k1,k2,k3,k4,k5],[l1,l2,l3,l4,l5],_,_,h=>
  obtain⟨g1,g2,g3,g4,g5⟩:=h;exact⟨⟨g1,g2⟩,g3,g4,g5⟩
end
section
variable {x e:aH} {lo hi n:Int} {a b c l E:List aH} {L L':List Int} {d:Nat} {t t':Tr}
def jv (a b:List aH):Prop:=bQ a/\bQ b/\∀k,look a k=look b k
theorem jv.refl (h:bQ a):jv a a:=⟨h,h,fun _=>rfl⟩
theorem jv.trans (h:jv a b) (h':jv b c):jv a c:=⟨h.1,h'.2.1,fun k=>(h.2.2 k).trans (h'.2.2 k)⟩
theorem jv.symm (h:jv a b):jv b a:=⟨h.2.1,h.1,fun k=>(h.2.2 k).symm⟩
theorem jv.perm (h:a.Perm b) (ha:bQ a):jv a b:=⟨ha,fun e he=>ha e (h.mem_iff.2 he),fun k=>rW h ha.dV k⟩
theorem jv.append {d:List aH} (h:jv a b) (h':jv c d):jv (a++c) (b++d):=
 ⟨bO.2 ⟨h.1,h'.1⟩,bO.2 ⟨h.2.1,h'.2.1⟩,fun k=>by rw [oq h.1.dV h'.1.dV,oq h.2.1.dV h'.2.1.dV,h.2.2,h'.2.2]⟩
theorem Gf (h:bQ l) (hx:x.is.Good):jv (ins l x) (x::l):=by
 refine⟨lV h hx,fun e he=>by rcases fy.1 he with rfl|he;exact hx;exact h e he,fun k=>?_⟩;rw [rX h.dV (.inr hx)];simp only [look];rw [join_comm (dM h.dV k) (.inr hx)]
theorem jv.small (h:jv a b):Small a↔Small b:=by
 unfold Small;constructor <;> intro hs k
 ·rw [<-h.2.2];exact hs k
 ·rw [h.2.2];exact hs k
theorem KI (h:Small (a++b)) (g:bQ (a++b)):Small a:=fun k=>Int.le_trans (Nr (bO.1 g).1.dV (bO.1 g).2.dV k) (h k)
theorem vr (h:Small c) (g:bQ c) (hp:(a++b).Perm c):Small a:=
 KI ((pW hp (fun e he=> .inr (g e (hp.mem_iff.1 he)))).2 h) fun e he=>g e (hp.mem_iff.1 he)
theorem mf.good (h:mf e):e.is.Good:=(dC h.2.1 h.1).1
theorem mf.le (h:mf e):e.is.c<=1073741824:=(dC h.2.1 h.1).2
theorem FQ (hr:yZ l) (he:mf e) (hs:Small (e::l)):A8 l e=some (ins l e)/\Checked (ins l e)/\(ins l e).length<=l+1:=by
 have h1:(look l e.key).c+e.is.c<=1073741824:=by
  have:=hs e.key;simp only [look,aw trivial,dO]at this;omega
 have h2:=yj hr.1 he.le;rw [aw h1]at h2;refine⟨?_,qU hr.1 hr.2.1 he.good h1,IP h2⟩;unfold A8;rw [aw ⟨hr,he⟩,h2]
theorem EU (hl:∀e∈l,lo<=e.key/\e.key<hi) (hx:lo<=x.key/\x.key<hi):∀e∈ins l x,lo<=e.key/\e.key<hi:=fun e he=>by
 rcases uE he with h|⟨z,hz,hk⟩
 ·rw [h];exact hx
 ·rw [<-hk];exact hl z hz
theorem LC (hl:dK l lo hi) (hx:lo<=x.key/\x.key<hi) (hc:Checked (ins l x)):dK (ins l x) lo hi:=⟨hc,EU hl.2.1 hx,lH hl.2.2⟩
theorem dK.row (h:dK l lo hi) (h0:0<=lo) (h1:hi<=1099511627776) (hl:l.length<=20):yZ l:=⟨h.2.2,h.1,fun e he=>by have:=h.2.1 e he;omega,hl⟩
theorem Rg:ins l x≠[]:=by
 cases l with
 |nil=>simp [ins]
 |cons e l=>unfold ins;split <;> (try split) <;> simp
def Bj (x:Nd):Nat:=if x.leaf=true then max 3 x.aI else x.buf.length
def Xr (t:Tr) (m:Int):Nat:=match t.dm m with|none=>0|some x=>Bj x
def wt (t:Tr) (l:List Int):Nat:=(l.map (Xr t)).sum
theorem nB (t:Tr) (a b:List Int):wt t (a++b)=wt t a+wt t b:=by simp [wt]
theorem py (t:Tr) (n:Int) (b:List Int):wt t (n::b)=Xr t n+wt t b:=by simp [wt]
theorem sP {l:List Int} (h:∀m∈l,t'.dm m=t.dm m):wt t' l=wt t l:=by
 unfold wt
 congr 1
 exact List.map_congr_left fun m hm=>by unfold Xr;rw [h m hm]
theorem C0 {f g:Int->List aH}:∀{l:List Int},(∀m∈l,f m=g m)->l.flatMap f=l.flatMap g
 |[],_=>rfl
 |a::l,h=>by rw [fO,fO,h a bh,C0 fun m hm=>h m (by simp [hm])]
theorem of_same {l:List Int} (h:∀m∈l,t'.dm m=t.dm m):l.flatMap t'.of=l.flatMap t.of:=
 C0 fun m hm=>by unfold Tr.of;rw [h m hm]
theorem qg {x:Nd} (h:t.dm n=some x):t.of n=x.aI++x.buf:=by unfold Tr.of;rw [h]
theorem rz {x:Nd} (h:t.dm n=some x):Xr t n=Bj x:=by unfold Xr;rw [h]
structure Prog (t t':Tr) (L L':List Int) (E:List aH) (d:Nat):Prop where
 root:t'.root=t.root
 Q9:t.nodes<=t'.nodes.length
 Lm:t'.nodes<=t.nodes+d
 old:∀m:Int,m∉L->m<t.nodes->t'.dm m=t.dm m
 mem:∀m:Int,m∈L'↔m∈L\/((t.nodes.length:Int)<=m/\m<t'.nodes)
 nd:L'.Nodup
 ev:jv (L'.flatMap t'.of) (E++L.flatMap t.of)
 wt:wt t' L'<=wt t L+E
theorem Prog.refl (hn:L.Nodup) (hg:bQ (L.flatMap t.of)):Prog t t L L [] 0:=
 ⟨rfl,nu _,nu _,fun _ _ _=>rfl,fun m=>⟨.inl,fun h=>h.elim id fun h=>ai⟩,hn,jv.refl hg,nu _⟩
theorem Prog.trans {t1 t2:Tr} {L1 L2:List Int} {E1 E2:List aH} {d1 d2:Nat} (h1:Prog t t1 L L1 E1 d1) (h2:Prog t1 t2 L1 L2 E2 d2):Prog t t2 L L2 (E1++E2) (d1+d2):=by
 have a0:=h1.Q9;have a1:=h1.Lm;have b0:=h2.Q9;have b1:=h2.Lm;refine⟨h2.root.trans h1.root,ai,ai,fun m hm hl=>?_,fun m=>?_,h2.nd,?_,?_⟩
 ·rw [h2.old m (fun h=>by rcases (h1.mem m).1 h with h|h;exact hm h;omega) ai,h1.old m hm hl]
 ·rw [h2.mem,h1.mem]
  constructor
  ·rintro((h|h)|h)
   ·exact .inl h
   ·exact .inr ⟨h.1,ai⟩
   ·exact .inr ⟨ai,h.2⟩
  ·rintro(h|h)
   ·exact .inl (.inl h)
   ·by_cases hm:m<t1.nodes
    ·exact .inl (.inr ⟨h.1,hm⟩)
    ·exact .inr ⟨ai,h.2⟩
 ·refine(h2.ev.trans ((jv.refl (bO.1 h2.ev.2.1).1).append h1.ev)).trans (jv.perm ?_ ?_)
  ·rw [<-iT];exact List.Perm.append_right _ (List.perm_append_comm)
  ·exact bO.2 ⟨(bO.1 h2.ev.2.1).1,h1.ev.2.1⟩
 ·have:=h1.wt;have:=h2.wt;rw [dF];omega
def afA (a b:aH):Nat:=List.count a [b]
theorem sx (a b:aH) (l:List aH):List.count a (b::l)=afA a b+List.count a l:=List.count_append (l₁:=[b]) (l₂:=l)
theorem Prog.small {F:List aH} (h:Prog t t' L L' E d) (gF:bQ F) (hs:Small (E++F++L.flatMap t.of)):Small (F++L'.flatMap t'.of):=by
 have e1:=(jv.refl gF).append h.ev;refine(e1.trans (jv.perm (b:=E++F++L.flatMap t.of) ?_ e1.2.1)).small.2 hs;refine Dt.2 fun a=>?_;simp only [List.count_append];omega
theorem Prog.cp (h:Prog t t' L L' E d):bQ (L'.flatMap t'.of):=h.ev.1
theorem Prog.more {d':Nat} (h:Prog t t' L L' E d) (hd:d<=d'):Prog t t' L L' E d':=⟨h.root,h.Q9,by have:=h.Lm;omega,h.old,h.mem,h.nd,h.ev,h.wt⟩
theorem Prog.part {l l' A B:List Int} (h:Prog t t' l l' E d) (hn:(A++(l++B)).Nodup) (hlt:∀m∈A++B,m<(t.nodes.length:Int)) (hg:bQ ((A++B).flatMap t.of)):Prog t t' (A++(l++B)) (A++(l'++B)) E d/\(∀m∈A++B,t'.dm m=t.dm m):=by
 have yu:=hn;rw [List.nodup_append,List.nodup_append]at yu;obtain⟨n1,⟨n2,n3,n4⟩,n5⟩:=yu;have hoff:∀m∈A++B,m∉l:=fun m hm hl=>by
  rcases kW.1 hm with hm|hm
  ·exact n5 m hm m (by simp [hl]) rfl
  ·exact n4 m hl m hm rfl
 have hsame:∀m∈A++B,t'.dm m=t.dm m:=fun m hm=>h.old m (hoff m hm) (hlt m hm);have hA:∀m∈A,t'.dm m=t.dm m:=fun m hm=>hsame m (by simp [hm]);have hB:∀m∈B,t'.dm m=t.dm m:=fun m hm=>hsame m (by simp [hm]);have hl':∀m∈A++B,m∉l':=fun m hm hl=>by
  rcases (h.mem m).1 hl with h'|h'
  ·exact hoff m hm h'
  ·have:=hlt m hm;omega
 refine⟨⟨h.root,h.Q9,h.Lm,fun m hm hl=>h.old m (fun hm'=>hm (by simp [hm'])) hl,fun m=>?_,?_,?_,?_⟩,hsame⟩
 ·simp only [kW];rw [h.mem]
  constructor
  ·rintro(h|(h|h)|h)
   ·exact .inl (.inl h)
   ·exact .inl (.inr (.inl h))
   ·exact .inr h
   ·exact .inl (.inr (.inr h))
  ·rintro((h|h|h)|h)
   ·exact .inl h
   ·exact .inr (.inl (.inl h))
   ·exact .inr (.inr h)
   ·exact .inr (.inl (.inr h))
 ·rw [List.nodup_append,List.nodup_append];refine⟨n1,⟨h.nd,n3,fun a ha b hb hab=>?_⟩,fun a ha b hb hab=>?_⟩
  ·subst hab;exact hl' a (by simp [hb]) ha
  ·subst hab;rcases kW.1 hb with hb|hb
   ·exact hl' a (by simp [ha]) hb
   ·exact n5 a ha a (by simp [hb]) rfl
 ·simp only [pK]at hg ⊢;rw [of_same hA,of_same hB];have gA:=(bO.1 hg).1;have gB:=(bO.1 hg).2;have e1:=(jv.refl gA).append (h.ev.append (jv.refl gB));refine e1.trans (jv.perm ?_ e1.2.1);refine Dt.2 fun a=>?_;simp only [List.count_append];omega
 ·have:=h.wt;rw [nB,nB,nB,nB,sP hA,sP hB];omega
theorem Prog.one {x y:Nd} (hx:t.dm n=some x) (hn:(n::L).Nodup) (hg:bQ (L.flatMap t.of)) (he:jv (y.aI++y.buf) (E++(x.aI++x.buf))) (hw:Bj y<=Bj x+E) :
  Prog t (dz t n y) (n::L) (n::L) E 0/\∀m,m≠n->(dz t n y).dm m=t.dm m:=by
 have h0:=(wN hx).1;have hne:∀m,m≠n->(dz t n y).dm m=t.dm m:=fun m hm=>nO h0 hm;have hL:∀m∈L,(dz t n y).dm m=t.dm m:=fun m hm=>hne m fun e=>by subst e;exact(List.nodup_cons.1 hn).1 hm
 refine⟨⟨rfl,by rw [jK];omega,by rw [jK];omega,fun m hm _=>hne m fun e=>hm (by simp [e]),fun m=>?_,hn,?_,?_⟩,hne⟩
 ·rw [jK];exact⟨.inl,fun h=>h.elim id fun h=>ai⟩
 ·rw [fO,fO,qg (xu hx),qg hx,of_same hL,<-iT];exact he.append (jv.refl hg)
 ·rw [py,py,rz (xu hx),rz hx,sP hL];omega
end
section
variable {e:aH} {n lo hi:Int} {ls:List (List Int)} {l:List Int} {h:Nat} {x:Nd} {t:Tr}
structure Eu (t:Tr) (h:Nat) (n:Int) (x:Nd) (lo hi:Int) (ls:List (List Int)):Prop where
 pos:0<h
 at':t.dm n=some x
 leaf:x.leaf=false
 aI:x.aI=[]
 two:2<=x.kids.length
 buf:dK x.buf lo hi
 Na:Seg (Sub t h) lo hi x.keys x.kids ls
 nd:(n::ls.flatten).Nodup
theorem sub_lt:∀k a b l,Sub t h k a b l->a<b:=fun _ _ _ _ h=>h.lt
theorem Sub.inn (hs:Sub t (h+1) n lo hi l) (hp:0<h) (hn:l.Nodup):∃x ls,Eu t h n x lo hi ls/\l=n::ls.flatten/\x.kids.length<=4/\x.buf.length<=8:=by
 obtain⟨x,hx,hlt,⟨h0,_⟩|⟨_,h1,h2,ls,h3,rfl,h4⟩⟩:=hs
 ·omega
 ·exact⟨x,ls,⟨hp,hx,h1,h2.1,h2.2.1,h2.2.2.2.2.2,QB (by have:=h2.2.2.2.1;omega) h3 fun j k lj hj nW=>(h4 j k lj hj nW).2.2,hn⟩,rfl,h2.2.2.1,h2.2.2.2.2.1⟩
theorem Eu.sub (hi':Eu t h n x lo hi ls) (h4:x.kids.length<=4) (h8:x.buf.length<=8):Sub t (h+1) n lo hi (n::ls.flatten):=by
 have hl:=hi'.Na.len;exact⟨x,hi'.at',(hi'.Na.bounds sub_lt).1, .inr ⟨hi'.pos,hi'.leaf,⟨hi'.aI,hi'.two,h4,ai,h8,hi'.buf⟩,ls,ai,rfl,hi'.Na.at sub_lt⟩⟩
theorem Eu.mem (hi':Eu t h n x lo hi ls):∀m∈n::ls.flatten,0<=m/\m<(t.nodes.length:Int):=fun m hm=>by
 rcases fy.1 hm with rfl|hm
 ·exact wN hi'.at'
 ·obtain⟨lj,nW,zH⟩:=List.mem_flatten.1 hm;obtain⟨j,hj,rfl⟩:=nr nW;have hl:=hi'.Na.len;have hjk:j<x.kids:=ai;obtain⟨y,hy⟩:=(hi'.Na.at sub_lt j _ _ (oZ hjk) (oZ hj)).2.2.mem.2 m zH;exact wN hy
theorem Eu.keys (hi':Eu t h n x lo hi ls):x.keys.Pairwise (·<·):=(hi'.Na.bounds sub_lt).2.1
theorem Eu.KN (hi':Eu t h n x lo hi ls) {B:List aH} (hB:dK B lo hi):Eu (dz t n { x with buf:=B }) h n { x with buf:=B } lo hi ls:=by
 have h0:=(wN hi'.at').1;refine⟨hi'.pos,xu hi'.at',hi'.leaf,hi'.aI,hi'.two,hB,hi'.Na.mono fun k a b l hl hs=>hs.frame (Ce _ _ _) fun m hm=>nO h0 fun e=>?_,hi'.nd⟩;subst e;exact(List.nodup_cons.1 hi'.nd).1 (List.mem_flatten.2 ⟨l,hl,hm⟩)
def NW (put:Tr->Int->aH->Option (Tr×Int×Int)) (h d:Nat):Prop:=∀(t:Tr) (n lo hi:Int) (l:List Int) (e:aH),Sub t h n lo hi l->l.Nodup->mf e->lo<=e.key->e.key<hi->0<=lo->hi<=1099511627776 ->
 bQ (l.flatMap t.of)->Small (e::l.flatMap t.of)->t.nodes+d<=1000000000000->∃t' more key l',put t n e=some (t',more,key)/\Prog t t' l l' [e] d /\
  ((more = -1/\Sub t' h n lo hi l')\/(0<=more/\∃l1 l2,l'=l1++l2/\Sub t' h n lo key l1/\Sub t' h more key hi l2/\∀x,t'.dm n=some x->x.leaf=true->x.aI≠[]))
theorem uI {L1 L2:List (List Int)}:n::(L1++l::L2).flatten=(n::L1.flatten)++(l++L2.flatten):=bh
theorem UZ {put:Tr->Int->aH->Option (Tr×Int×Int)} {d:Nat} (hp:NW put h d) (hi':Eu t h n x lo hi ls) (he:mf e) (h1:lo<=e.key) (h2:e.key<hi) (h0:0<=lo) (hh:hi<=1099511627776)
  (hg:bQ ((n::ls.flatten).flatMap t.of)) (hs:Small (e::(n::ls.flatten).flatMap t.of)) (hn:t.nodes+d<=1000000000000) (h4:x.kids.length<=4) :
  ∃k t1 more key t2 y Np,x.kids[bL x.keys e.key]?=some k/\put t k e=some (t1,more,key) /\
   LA t1 n (bL x.keys e.key) more key=some t2/\Eu t2 h n y lo hi Np/\y.kids<=x.kids.length+1/\y.buf=x.buf/\Prog t t2 (n::ls.flatten) (n::Np.flatten) [e] d:=by
 have hlen:=hi'.Na.len;obtain⟨k,a,b,l,L1,L2,e1,e2,e3,e4,e5,e6,rfl,e8,e9,e10⟩:=hi'.Na.zip sub_lt h1 h2;have hnd:=hi'.nd;have hmem:=hi'.mem;rw [uI]at hnd hg hs hmem;have hnl:l.Nodup:=(List.nodup_append.1 (List.nodup_append.1 hnd).2.1).1;have hgl:bQ (l.flatMap t.of):=by
  simp only [pK]at hg;exact(bO.1 (bO.1 hg).2).1
 have hgA:bQ (((n::L1.flatten)++L2.flatten).flatMap t.of):=by
  simp only [pK]at hg ⊢;exact bO.2 ⟨(bO.1 hg).1,(bO.1 (bO.1 hg).2).2⟩
 have hsl:Small (e::l.flatMap t.of):=by
  refine vr (b:=((n::L1.flatten)++L2.flatten).flatMap t.of) hs (fun y hy=>by rcases fy.1 hy with rfl|hy;exact he.good;exact hg y hy) ?_;rw [List.cons_append];refine List.Perm.cons _ ?_;simp only [pK];rw [<-iT,<-iT];exact List.Perm.append_right _ List.perm_append_comm
 obtain⟨t1,more,key,l',p1,p2,p3⟩:=hp t k a b l e e2 hnl he e3 e4 ai ai hgl hsl hn;obtain⟨q1,q2⟩:=p2.part hnd (fun m hm=>(hmem m (by rcases kW.1 hm with hm|hm;exact List.mem_append_left _ hm;exact List.mem_append_right _ (List.mem_append_right _ hm))).2) hgA;have hx1:t1.dm n=some x:=(q2 n bh).trans hi'.at';have zl:∀k a b l,l∈L1++L2->Sub t h k a b l->Sub t1 h k a b l:=fun k a b l hl hs=>hs.frame p2.root fun m hm=>q2 m (by
  rcases kW.1 hl with hl|hl
  ·exact List.mem_append_left _ (List.mem_cons_of_mem _ (List.mem_flatten.2 ⟨l,hl,hm⟩))
  ·exact List.mem_append_right _ (List.mem_flatten.2 ⟨l,hl,hm⟩))
 rcases p3 with ⟨rfl,g1⟩|⟨g0,l1,l2,rfl,g1,g2,-⟩
 ·refine⟨k,t1,-1,key,t1,x,L1++l'::L2,e1,p1,by unfold LA;rw [aw ai],?_,ai,rfl,?_⟩
  ·exact⟨hi'.pos,hx1,hi'.leaf,hi'.aI,hi'.two,hi'.buf,e9 (Sub t1 h) l' zl g1,by rw [uI];exact q1.nd⟩
  ·rw [uI,uI];exact q1
 ·have hfl:n::(L1++l1::l2::L2).flatten=(n::L1.flatten)++((l1++l2)++L2.flatten):=bh;have LO:=q1.nd;rw [<-hfl]at LO;have hn0:=(wN hx1).1;have hseg:=e10 (Sub t1 h) l1 l2 more key zl g1 g2;refine⟨k,t1,more,key,dz t1 n { x with keys:=x.keys.take (bL x.keys e.key)++key::x.keys.drop (bL x.keys e.key),kids:=x.kids.take (bL x.keys e.key+1)++more::x.kids.drop (bL x.keys e.key+1) },
   {x with keys:=x.keys.take (bL x.keys e.key)++key::x.keys.drop (bL x.keys e.key),kids:=x.kids.take (bL x.keys e.key+1)++more::x.kids.drop (bL x.keys e.key+1) },L1++l1::l2::L2,e1,p1,?_,?_,?_,rfl,?_⟩
  ·unfold LA;rw [ar ai,hx1];simp only;rw [aw ⟨e8,ai,ai,ai⟩]
  ·refine⟨hi'.pos,xu hx1,hi'.leaf,hi'.aI,?_,hi'.buf,hseg.mono fun k a b l hl hs=>hs.frame (Ce _ _ _) fun m hm=>nO hn0 fun e=>?_,LO⟩
   ·have:=hi'.two;simp;omega
   ·subst e;exact(List.nodup_cons.1 LO).1 (List.mem_flatten.2 ⟨l,hl,hm⟩)
  ·simp;omega
  ·rw [hfl,uI];have hgq:bQ ((L1++l1::l2::L2).flatten.flatMap t1.of):=by
    have:=q1.ev.1;rw [<-hfl,fO]at this;exact(bO.1 this).2
   have hgx:bQ (x.aI++x.buf):=by
    have:=q1.ev.1;rw [<-hfl,fO,qg hx1]at this;exact(bO.1 this).1
   have:=(Prog.one (y:={ x with keys:=x.keys.take (bL x.keys e.key)++key::x.keys.drop (bL x.keys e.key),kids:=x.kids.take (bL x.keys e.key+1)++more::x.kids.drop (bL x.keys e.key+1) }) (E:=[]) hx1 LO hgq (jv.refl hgx) (by unfold Bj;simp)).1;rw [hfl]at this;have:=q1.trans this;simpa using this
theorem Hs {h:Nat} {n:Int} {lo hi:Int} {ls:List (List Int)} (h0:0<=lo) (hh:hi<=1099511627776):∀(rs:List aH) (t:Tr) (x:Nd),Eu t h n x lo hi ls->(∀e∈rs,mf e/\lo<=e.key/\e.key<hi)->x.buf+rs.length<=20 ->
  bQ ((n::ls.flatten).flatMap t.of)->Small (rs++(n::ls.flatten).flatMap t.of)->∃t' y,rs.foldlM (rQ n) t=some t'/\Eu t' h n y lo hi ls/\y.kids=x.kids/\y.buf<=x.buf+rs.length/\Prog t t' (n::ls.flatten) (n::ls.flatten) rs 0
 |[],t,x,hi',_,_,hg,_=>⟨t,x,rfl,hi',rfl,bh,Prog.refl hi'.nd hg⟩
 |e::rs,t,x,hi',he,hl,hg,hs=>by
  obtain⟨h1,h2,h3⟩:=he e bh;have hgn:bQ (x.aI++x.buf)/\bQ (ls.flatten.flatMap t.of):=by
   rw [fO,qg hi'.at']at hg;exact bO.1 hg
  have hgr:bQ (e::rs):=fun y hy=>(he y hy).1.good;have GN:Small (e::x.buf):=by
   refine vr (b:=rs++(x.aI++ls.flatten.flatMap t.of)) hs (bO.2 ⟨hgr,hg⟩) ?_;rw [fO,qg hi'.at'];refine Dt.2 fun a=>?_;simp only [List.count_append,sx];omega
  obtain⟨g1,g2,g3⟩:=FQ (hi'.buf.row h0 hh (by simp at hl;omega)) h1 GN;have hi2:=hi'.KN (LC hi'.buf ⟨h2,h3⟩ g2);have gb:bQ x.buf:=hi'.buf.1.cp;have ev:jv (x.aI++ins x.buf e) ([e]++(x.aI++x.buf)):=by
   have e1:=(jv.refl (bO.1 hgn.1).1).append (Gf gb h1.good);refine e1.trans (jv.perm ?_ e1.2.1);refine Dt.2 fun a=>?_;simp only [List.count_append,sx,List.count_nil];omega
  have pr:=(Prog.one (y:={ x with buf:=ins x.buf e }) (E:=[e]) hi'.at' hi'.nd hgn.2 ev (by unfold Bj;simp only [hi'.leaf];simpa using g3)).1;obtain⟨t',y,k1,k2,k3,k4,k5⟩:=Hs h0 hh rs _ _ hi2 (fun y hy=>he y (by simp [hy])) (by show (ins x.buf e).length+rs<=20;simp at hl;omega) pr.cp (pr.small (F:=rs) (fun y hy=>hgr y (by simp [hy])) (by simpa using hs));refine⟨t',y,?_,k2,k3,by simp at k4 ⊢;omega,by simpa using pr.trans k5⟩;rw [List.foldlM_cons];have:rQ n t e=some (dz t n { x with buf:=ins x.buf e }):=by unfold rQ;rw [hi'.at'];simp only;rw [g1];rfl
  rw [this];exact k1
theorem Jq {pre:List aH} {ds:List aH} (h:aY (pre++e::ds)):(pre++e::ds).filter (fun d=>decide (e.key<d.key))=ds:=by
 have h1:=List.pairwise_append.1 h;have h2:=tZ.1 h1.2.1;rw [qH,uR bh,List.filter_eq_nil_iff.2 fun y hy=>?_,List.nil_append,List.filter_eq_self.2 fun y hy=>?_]
 ·simpa using h2.1 y hy
 ·have:=h1.2.2 y hy e bh;simp;omega
theorem JE {put:Tr->Int->aH->Option (Tr×Int×Int)} {h d:Nat} {n:Int} {lo hi:Int} (hp:NW put h d) (h0:0<=lo) (hh:hi<=1099511627776) {all:List aH} (hr:aY all) :
  ∀(ds pre:List aH) (t:Tr) (x:Nd) (ls:List (List Int)),all=pre++ds->Eu t h n x lo hi ls->(∀e∈ds,mf e/\lo<=e.key/\e.key<hi)->x.kids.length<=4->x.buf+ds.length<=20 ->
  bQ ((n::ls.flatten).flatMap t.of)->Small (ds++(n::ls.flatten).flatMap t.of)->t.nodes.length+ds.length*d<=1000000000000 ->
  ∃t' y Np,wM put n all ds t=some t'/\Eu t' h n y lo hi Np/\y.kids.length<=5/\y.buf<=x.buf+(ds.length-1)/\Prog t t' (n::ls.flatten) (n::Np.flatten) ds (ds*d)
 |[],pre,t,x,ls,_,hi',_,h4,_,hg,_,_=>⟨t,x,ls,rfl,hi',ai,bh,by simpa using Prog.refl hi'.nd hg⟩
 |e::ds,pre,t,x,ls,ha,hi',he,h4,hl,hg,hs,hn=>by
  obtain⟨h1,h2,h3⟩:=he e bh;have hgr:bQ (e::ds):=fun y hy=>(he y hy).1.good;rw [gD,Nat.add_mul,Nat.one_mul]at hn;have CL:Small (e::(n::ls.flatten).flatMap t.of):=by
   refine vr (b:=ds) hs (bO.2 ⟨hgr,hg⟩) ?_;refine Dt.2 fun a=>?_;simp only [List.count_append,sx];omega
  obtain⟨k,t1,more,key,t2,y,Np,p1,p2,p3,p4,p5,p6,p7⟩:=UZ hp hi' h1 h2 h3 h0 hh hg CL ai h4;have hs2:Small (ds++(n::Np.flatten).flatMap t2.of):=p7.small (F:=ds) (fun y hy=>hgr y (by simp [hy])) (by simpa using hs);have hlen:=p7.Lm;unfold wM;rw [hi'.at'];simp only;rw [aw ⟨hi'.keys,by have:=hi'.Na.len;omega,ai⟩,p1];simp only;rw [p2];simp only;rw [p3];simp only;rw [p4.at'];simp only;by_cases h5:y.kids.length<=4
  ·rw [aw h5];obtain⟨t',z,ls2,q1,q2,q3,q4,q5⟩:=JE hp h0 hh hr ds (pre++[e]) t2 y Np (by simp [ha]) p4 (fun y hy=>he y (by simp [hy])) h5 (by rw [p6];simp at hl;omega) p7.cp hs2 ai;refine⟨t',z,ls2,q1,q2,q3,by rw [p6]at q4;simp;omega,?_⟩;have:=p7.trans q5;rw [gD,Nat.add_mul,Nat.one_mul,Nat.add_comm];simpa using this
  ·rw [ar h5,ha,Jq (ha▸hr)];obtain⟨t',z,q1,q2,q3,q4,q5⟩:=Hs h0 hh ds t2 y p4 (fun y hy=>he y (by simp [hy])) (by rw [p6];simp at hl;omega) p7.cp hs2;refine⟨t',z,Np,q1,q2,by rw [q3];omega,by rw [p6]at q4;simp;omega,?_⟩;have:=(p7.trans q5).more (d':=(e::ds).length*d) (by rw [gD,Nat.add_mul,Nat.one_mul];omega);simpa using this
end
section
variable {lo hi n key:Int} {ls:List (List Int)} {l:List aH} {h:Nat} {x:Nd} {t:Tr}
theorem Fg (m:Nat->Nat):∀(k j:Nat),j<k->m j<=m (jZ m k)
 |0,_,h=>ai
 |k+1,j,h=>by
  unfold jZ;by_cases hj:j=k
  ·subst hj;split <;> omega
  ·have:=Fg m k j ai
   split <;> omega
theorem PH (hk:x.keys.length<=3) (hb:x.buf≠[]):(x.buf.filter fun e=>decide (bL x.keys e.key=jZ (jV x) 4))≠[]:=fun h=>by
 obtain⟨e,he⟩:=List.exists_mem_of_ne_nil _ hb;have h1:=Fg (jV x) 4 (bL x.keys e.key) (by have:=uD x.keys e.key;omega);have h2:jV x (jZ (jV x) 4)=0:=by unfold jV at h ⊢;rw [h];rfl
 have h3:0<jV x (bL x.keys e.key):=by
  unfold jV;exact List.length_pos_of_mem (nt.2 ⟨he,bh⟩)
 omega
theorem QQ (l:List aH) (p:aH->Bool):(l.filter fun e=>!p e).length+(l.filter p).length=l:=by
 induction l with
 |nil=>rfl
 |cons a l ih=>by_cases h:p a=true <;> simp [h] <;> omega
theorem OB (l:List aH) (p:aH->Bool):(l.filter p++l.filter fun e=>!p e).Perm l:=List.filter_append_perm p l
theorem dK.filter (h:dK l lo hi) (p:aH->Bool):dK (l.filter p) lo hi:=⟨fun e he=>h.1 e (nt.1 he).1,fun e he=>h.2.1 e (nt.1 he).1,h.2.2.filter _⟩
theorem dK.ent (h:dK l lo hi) (h0:0<=lo) (hh:hi<=1099511627776):∀e∈l,mf e/\lo<=e.key/\e.key<hi:=fun e he=>by
 have h1:=h.1 e he;have h2:=h.2.1 e he;exact⟨⟨h1.1,h1.2,ai,ai⟩,h2.1,h2.2⟩
theorem Pt {put:Tr->Int->aH->Option (Tr×Int×Int)} {d:Nat} (hp:NW put h d) (h0:0<=lo) (hh:hi<=1099511627776) (hi':Eu t h n x lo hi ls)
  (h4:x.kids.length<=4) (hb:x.buf≠[]) (h9:x.buf.length<=9) (hg:bQ ((n::ls.flatten).flatMap t.of)) (hs:Small ((n::ls.flatten).flatMap t.of)) (hn:t.nodes+9*d<=1000000000000) :
  ∃t' y Np,rB put t n=some t'/\Eu t' h n y lo hi Np/\y.kids.length<=5/\y.buf.length<=8/\Prog t t' (n::ls.flatten) (n::Np.flatten) [] (9*d):=by
 have hlen:=hi'.Na.len;obtain⟨p,Wx⟩:∃p:aH->Bool,p=fun e=>decide (bL x.keys e.key=jZ (jV x) 4):=⟨_,rfl⟩;have hne:x.buf.filter p≠[]:=by rw [Wx];exact PH ai hb
 have hpl:=QQ x.buf p;have hlp:0<(x.buf.filter p).length:=List.length_pos_iff.2 hne;have hi1:=hi'.KN (hi'.buf.filter fun e=>!p e);have h0n:=(wN hi'.at').1;have hsame:∀m∈ls.flatten,(dz t n { x with buf:=x.buf.filter fun e=>!p e }).dm m=t.dm m:=fun m hm=>nO h0n fun e=>by subst e;exact(List.nodup_cons.1 hi'.nd).1 hm
 have ef:(n::ls.flatten).flatMap t.of=(x.aI++x.buf)++ls.flatten.flatMap t.of:=by rw [fO,qg hi'.at']
 have ef1:(n::ls.flatten).flatMap (dz t n { x with buf:=x.buf.filter fun e=>!p e }).of=(x.aI++x.buf.filter fun e=>!p e)++ls.flatten.flatMap t.of:=by rw [fO,qg hi1.at',of_same hsame]
 have hperm:(x.buf.filter p++(n::ls.flatten).flatMap (dz t n { x with buf:=x.buf.filter fun e=>!p e }).of).Perm ((n::ls.flatten).flatMap t.of):=by
  rw [ef,ef1];have hq:=OB x.buf p;refine Dt.2 fun a=>?_;have:=Dt.1 hq a;simp only [List.count_append]at this ⊢;omega
 have hg1:bQ (x.buf.filter p++(n::ls.flatten).flatMap (dz t n { x with buf:=x.buf.filter fun e=>!p e }).of):=fun e he=>hg e (hperm.mem_iff.1 he);have hs1:=(pW hperm hg1.dV).2 hs;have CT:(x.buf.filter p).length*d<=9*d:=Nat.mul_le_mul_right _ ai;obtain⟨t',y,Np,q1,q2,q3,q4,q5⟩:=JE hp h0 hh (all:=x.buf.filter p) (hi'.buf.2.2.filter _) (x.buf.filter p) [] _ _ ls rfl hi1 (fun e he=>hi'.buf.ent h0 hh e (nt.1 he).1) h4 (by simp only;omega) (bO.1 hg1).2 hs1 (by rw [jK];omega);refine⟨t',y,Np,?_,q2,q3,by simp only at q4;omega,?_⟩
 ·unfold rB;rw [hi'.at'];simp only;rw [aw ⟨hi'.keys,ai,ai,hi'.buf.1⟩];rw [Wx]at q1;exact q1
 ·have l0:=q5.Q9;have l1:=q5.Lm;rw [jK]at l0 l1;refine⟨q5.root,l0,ai,fun m hm hl=>?_,fun m=>?_,q5.nd,?_,?_⟩
  ·rw [q5.old m hm (by rw [jK];exact hl)];exact nO h0n fun e=>hm (by simp [e])
  ·have:=q5.mem m;rw [jK]at this;exact this
  ·exact q5.ev.trans (jv.perm (by simpa using hperm) hg1)
  ·have hw:=q5.wt;rw [py _ n ls.flatten,rz hi1.at',sP hsame]at hw;rw [py t,rz hi'.at'];unfold Bj at hw ⊢;simp only [hi'.leaf]at hw ⊢;simp at hw ⊢;omega
theorem UD {es:List aH} (hs:aY es) (t:Nat) (ht:t<es) (h:jr es key<=t):key<=es[t].key:=by
 have h1:=(nJ (key:=key) hs).2.2 ai;by_cases he:jr es key=t
 ·subst he;exact h1
 ·have:=sI.1 hs (jr es key) t ai ht ai;omega
theorem dK.take (h:dK l lo hi):dK (l.take (jr l key)) lo key:=
 ⟨fun e he=>h.1 e (uQ he),fun e he=>by
  obtain⟨i,hi,rfl⟩:=nr he;rw [gh]at hi;have:=h.2.1 _ (uQ he);rw [zW]at this ⊢;exact⟨this.1,(nJ h.2.2).2.1 i ai ai⟩,h.2.2.sublist (List.take_sublist _ _)⟩
theorem dK.drop (h:dK l lo hi):dK (l.drop (jr l key)) key hi:=
 ⟨fun e he=>h.1 e (uP he),fun e he=>by
  have:=h.2.1 _ (uP he);obtain⟨i,hi,rfl⟩:=nr he;rw [qG]at hi;rw [List.getElem_drop]at this ⊢;exact⟨UD h.2.2 _ ai ai,this.2⟩,h.2.2.sublist (List.drop_sublist _ _)⟩
theorem EP {X Y:Nd} {A B:List Int} (hx:t.dm n=some x) (hn:(n::(A++B)).Nodup) (hlt:∀m∈A++B,m<(t.nodes.length:Int)) (hg:bQ ((n::(A++B)).flatMap t.of))
  (hp:(X.aI++X.buf++(Y.aI++Y.buf)).Perm (x.aI++x.buf)) (hw:Bj X+Bj Y<=Bj x) :
  Prog t (dz (kN t Y) n X) (n::(A++B)) ((n::A)++(t.nodes.length:Int)::B) [] 1/\(dz (kN t Y) n X).dm n=some X/\(dz (kN t Y) n X).dm (t.nodes.length:Int)=some Y/\∀m∈A++B,(dz (kN t Y) n X).dm m=t.dm m:=by
 have hr:=wN hx;have k1:(dz (kN t Y) n X).dm n=some X:=xu (Zi hx);have k2:(dz (kN t Y) n X).dm (t.nodes.length:Int)=some Y:=(nO hr.1 ai).trans Zh;have hl:(dz (kN t Y) n X).nodes.length=t.nodes+1:=by rw [jK,Ns]
 have hold:∀m:Int,m≠n->m<t.nodes.length->(dz (kN t Y) n X).dm m=t.dm m:=fun m hm hlm=>by
  rw [nO hr.1 hm];unfold Tr.dm kN;by_cases h0:0<=m
  ·rw [aw h0,aw h0];simp only;rw [rE ai]
  ·rw [ar h0,ar h0]
 have tT:=List.nodup_cons.1 hn;have k3:∀m∈A++B,(dz (kN t Y) n X).dm m=t.dm m:=fun m hm=>hold m (fun e=>tT.1 (e▸hm)) (hlt m hm);have kA:∀m∈A,(dz (kN t Y) n X).dm m=t.dm m:=fun m hm=>k3 m (by simp [hm]);have kB:∀m∈B,(dz (kN t Y) n X).dm m=t.dm m:=fun m hm=>k3 m (by simp [hm]);refine⟨⟨rfl,ai,ai,fun m hm hlm=>hold m (fun e=>hm (by simp [e])) hlm,fun m=>?_,?_,?_,?_⟩,k1,k2,k3⟩
 ·rw [hl];simp only [List.cons_append,fy,kW]
  constructor
  ·rintro(h|h|h|h)
   ·exact .inl (.inl h)
   ·exact .inl (.inr (.inl h))
   ·exact .inr ai
   ·exact .inl (.inr (.inr h))
  ·rintro((h|h|h)|h)
   ·exact .inl h
   ·exact .inr (.inl h)
   ·exact .inr (.inr (.inr h))
   ·exact .inr (.inr (.inl ai))
 ·have hab:=List.nodup_append.1 tT.2;rw [List.nodup_append];refine⟨List.nodup_cons.2 ⟨fun h=>tT.1 (by simp [h]),hab.1⟩,List.nodup_cons.2 ⟨fun h=>by have:=hlt _ (List.mem_append_right A h);omega,hab.2.1⟩,fun a ha b hb e=>?_⟩;subst e;rcases fy.1 ha with rfl|ha <;> rcases fy.1 hb with rfl|hb
  ·omega
  ·exact tT.1 (by simp [hb])
  ·have:=hlt _ (List.mem_append_left B ha);omega
  ·exact hab.2.2 a ha a hb rfl
 ·have hpp:(((n::A)++(t.nodes.length:Int)::B).flatMap (dz (kN t Y) n X).of).Perm ((n::(A++B)).flatMap t.of):=by
   simp only [pK,fO];rw [of_same kA,of_same kB,qg k1,qg k2,qg hx];refine Dt.2 fun a=>?_;have:=Dt.1 hp a;simp only [List.count_append]at this ⊢;omega
  have hg2:bQ (((n::A)++(t.nodes.length:Int)::B).flatMap (dz (kN t Y) n X).of):=fun e he=>hg e (hpp.mem_iff.1 he);exact jv.perm hpp hg2
 ·rw [nB,py,py,py,nB,sP kA,sP kB,rz k1,rz k2,rz hx];simp;omega
def Left (t':Tr) (h:Nat) (n lo hi more key:Int) (l':List Int):Prop:=(more = -1/\Sub t' h n lo hi l')\/(0<=more/\∃l1 l2,l'=l1++l2/\Sub t' h n lo key l1/\Sub t' h more key hi l2/\∀x,t'.dm n=some x->x.leaf=true->x.aI≠[])
theorem EF (h0:0<=lo) (hh:hi<=1099511627776) (hi':Eu t h n x lo hi ls) (h5:x.kids.length<=5) (h8:x.buf.length<=8)
  (hg:bQ ((n::ls.flatten).flatMap t.of)) (hn:t.nodes.length<=1000000000000):∃t' more key l',jn t n=some (t',more,key)/\Prog t t' (n::ls.flatten) l' [] 1/\Left t' (h+1) n lo hi more key l':=by
 have hlen:=hi'.Na.len;by_cases h4:x.kids.length<=4
 ·refine⟨t,-1,0,n::ls.flatten,?_,(Prog.refl hi'.nd hg).more ai, .inl ⟨rfl,hi'.sub h4 h8⟩⟩;unfold jn;rw [hi'.at']
  dsimp only
  rw [ar (by rw [hi'.leaf];simp),aw h4]
 ·have hk4:x.keys.length=4:=ai;obtain⟨s1,s2⟩:=hi'.Na.part hk4;obtain⟨key,hkey⟩:=bG (x.keys.getD 1 0);have hb:=(hi'.Na.bounds sub_lt).2.2 key (by rw [<-hkey,List.getD_eq_getElem?_getD,oZ ai];simp);have hfl:ls.flatten=(ls.take 2).flatten++(ls.drop 2).flatten:=by rw [<-List.flatten_append,rG]
  have hnd:=hi'.nd;have hmem:=hi'.mem;rw [hkey]at s1 s2;rw [hfl]at hnd hg hmem;obtain⟨P,k1,k2,k3⟩:=EP (X:=⟨false,[],x.keys.take 1,x.kids.take 2,x.buf.take (jr x.buf key)⟩) (Y:=⟨false,[],x.keys.drop 2,x.kids.drop 2,x.buf.drop (jr x.buf key)⟩) hi'.at' hnd (fun m hm=>(hmem m (by simp at hm ⊢;exact .inr hm)).2) hg
   (by rw [hi'.aI];simp) (by unfold Bj;simp [hi'.leaf];omega)
  have zl:∀k a b l,l∈ls->Sub t h k a b l->Sub (dz (kN t ⟨false,[],x.keys.drop 2,x.kids.drop 2,x.buf.drop (jr x.buf key)⟩) n ⟨false,[],x.keys.take 1,x.kids.take 2,x.buf.take (jr x.buf key)⟩) h k a b l:=
   fun k a b l hl hs=>hs.frame ((Ce _ _ _).trans (QF _ _)) (fun m hm=>k3 m (by rw [<-hfl];exact List.mem_flatten.2 ⟨l,hl,hm⟩))
  have LO:=List.nodup_append.1 P.nd;refine⟨_,t.nodes.length,key,_,?_,by rw [hfl];exact P, .inr ⟨ai,_,_,rfl,?_,?_,fun y hy hl=>?_⟩⟩
  ·unfold jn;rw [hi'.at']
   dsimp only
   rw [ar (by rw [hi'.leaf];simp),ar h4,hkey,aw ⟨ai,hk4,hi'.buf.row h0 hh ai,⟨ai,ai⟩,hn⟩]
  ·exact Eu.sub ⟨hi'.pos,k1,rfl,rfl,by simp;omega,hi'.buf.take,s1.mono fun k a b l hl=>zl k a b l (uQ hl),LO.1⟩ fk fk
  ·exact Eu.sub ⟨hi'.pos,k2,rfl,rfl,by simp;omega,hi'.buf.drop,s2.mono fun k a b l hl=>zl k a b l (uP hl),LO.2.1⟩ fk fk
  ·rw [k1]at hy;injection hy with hy;subst hy;cases hl
def grow:Nat->Nat
 |0=>1
 |h+1=>9*grow h+1
theorem Nf:∀(h f:Nat),h<=f->NW (uw f) h (grow h)
 |0,f,_=>fun t n lo hi l e hs=>hs.elim
 |h+1,0,hf=>ai
 |h+1,f+1,hf=>fun t n lo hi l e hs hnd he h1 h2 h0 hh hg hsm hn=>by
  by_cases hp:0<h
  ·obtain⟨x,ls,hi',rfl,h4,h8⟩:=hs.inn hp hnd;have hgn:bQ (x.aI++x.buf)/\bQ (ls.flatten.flatMap t.of):=by
    rw [fO,qg hi'.at']at hg;exact bO.1 hg
   have gce:bQ (e::(n::ls.flatten).flatMap t.of):=fun y hy=>by rcases fy.1 hy with rfl|hy;exact he.good;exact hg y hy
   have GN:Small (e::x.buf):=by
    refine vr (b:=x.aI++ls.flatten.flatMap t.of) hsm gce ?_;rw [fO,qg hi'.at'];refine Dt.2 fun a=>?_;simp only [List.count_append,sx];omega
   obtain⟨g1,g2,g3⟩:=FQ (hi'.buf.row h0 hh ai) he GN;have hi2:=hi'.KN (LC hi'.buf ⟨h1,h2⟩ g2);have gb:bQ x.buf:=hi'.buf.1.cp;have ev:jv (x.aI++ins x.buf e) ([e]++(x.aI++x.buf)):=by
    have e1:=(jv.refl (bO.1 hgn.1).1).append (Gf gb he.good);refine e1.trans (jv.perm ?_ e1.2.1);refine Dt.2 fun a=>?_;simp only [List.count_append,sx,List.count_nil];omega
   have pr:=(Prog.one (y:={ x with buf:=ins x.buf e }) (E:=[e]) hi'.at' hi'.nd hgn.2 ev (by unfold Bj;simp only [hi'.leaf];simpa using g3)).1;have hs2:Small ((n::ls.flatten).flatMap (dz t n { x with buf:=ins x.buf e }).of):=by
    have:=pr.small (F:=[]) (fun _ h=>by cases h) (by simpa using hsm);simpa using this
   have hgr:grow (h+1)=9*grow h+1:=rfl;rw [hgr]at hn ⊢;have hput:∀r,(if (ins x.buf e).length<=8 then jn (dz t n { x with buf:=ins x.buf e }) n else match rB (uw f) (dz t n { x with buf:=ins x.buf e }) n with|none=>none|some t2=>jn t2 n)=r->uw (f+1) t n e=r:=fun r hr=>by
    unfold uw;rw [hi'.at']
    dsimp only
    rw [ar (by rw [hi'.leaf];simp),g1];exact hr
   by_cases h8':(ins x.buf e).length<=8
   ·obtain⟨t',more,key,l',q1,q2,q3⟩:=EF h0 hh hi2 (by simp only;omega) h8' pr.cp (by rw [jK];omega);refine⟨t',more,key,l',hput _ (by rw [aw h8'];exact q1),?_,q3⟩;have:=(pr.trans q2).more (d':=9*grow h+1) ai;simpa using this
   ·obtain⟨t2,y,ls2,q1,q2,q3,q4,q5⟩:=Pt (Nf h f ai) h0 hh hi2 h4 Rg (by simp only;omega) pr.cp hs2 (by rw [jK];omega);have l2:=q5.Lm;rw [jK]at l2;obtain⟨t',more,key,l',r1,r2,r3⟩:=EF h0 hh q2 q3 q4 q5.cp ai;refine⟨t',more,key,l',hput _ (by rw [ar h8',q1];exact r1),?_,r3⟩;have:=((pr.trans q5).trans r2).more (d':=9*grow h+1) ai;simpa using this
  ·obtain⟨x,hx,hlt,⟨rfl,hl,hok,rfl⟩|⟨hp',_⟩⟩:=hs
   ·obtain⟨k1,k2,k3,k4,k5,k6⟩:=hok;have hxo:t.of n=x.aI:=(by rw [qg hx,k3,nQ]);have hgx:bQ x.aI:=(by simpa [hxo] using hg);have GN:Small (e::x.aI):=(by simpa [hxo] using hsm);obtain⟨g1,g2,g3⟩:=FQ (k6.row h0 hh ai) he GN;have FV:=LC k6 ⟨h1,h2⟩ g2;have hput:∀r,jn (dz t n { x with aI:=ins x.aI e }) n=r->uw (f+1) t n e=r:=fun r hr=>by
     unfold uw;rw [hx]
     dsimp only
     rw [aw hl,g1];exact hr
    have ev:jv (ins x.aI e++x.buf) ([e]++(x.aI++x.buf)):=by
     rw [k3,nQ,nQ];exact Gf hgx he.good
    have pr:=(Prog.one (y:={ x with aI:=ins x.aI e }) (L:=[]) (E:=[e]) hx hnd (by simp [bQ]) ev (by unfold Bj;simp only [hl];simp;omega)).1;have hat:=xu (y:={ x with aI:=ins x.aI e }) hx;have hgr:1<=grow (0+1):=(by show 1<=9*grow 0+1;omega);by_cases h6:(ins x.aI e).length<=6
    ·refine⟨_,-1,0,[n],hput _ (by unfold jn;rw [hat];dsimp only;rw [aw hl,aw h6]),pr.more ai, .inl ⟨rfl,_,hat,hlt, .inl ⟨rfl,hl,⟨k1,k2,k3,h6, .inl Rg,FV⟩,rfl⟩⟩⟩
    ·have h7:(ins x.aI e).length=7:=ai;obtain⟨y,hy⟩:∃y,(ins x.aI e)[3]?=some y:=⟨(ins x.aI e)[3],by simp [h7]⟩;have Nv:(ins x.aI e).getD 3 default=y:=(by rw [List.getD_eq_getElem?_getD,hy];rfl);have hyk:jr (ins x.aI e) y.key=3:=by
      obtain⟨h3,Wp⟩:=dW.1 hy;have hp2:=sI.1 FV.2.2;refine Bp ai (fun i hi hi3=>by rw [<-Wp];exact hp2 i 3 hi h3 hi3) fun i hi hi3=>?_;by_cases hi4:i=3
      ·subst hi4;rw [Wp];omega
      ·have:=hp2 3 i h3 hi ai;rw [Wp]at this;omega
     have yin:=FV.2.1 y (uO hy);have htk:=FV.take (key:=y.key);have hdr:=FV.drop (key:=y.key);rw [hyk]at htk hdr;have y0:=htk.2.1 _ (eZ (n:=0) fk);obtain⟨P,m1,m2,-⟩:=EP (A:=[]) (B:=[]) (X:={ x with aI:=(ins x.aI e).take 3 }) (Y:=⟨true,(ins x.aI e).drop 3,[],[],[]⟩) hat hnd bh (by simpa using pr.cp)
      (by simp [k3]) (by unfold Bj;simp [hl];omega)
     refine⟨_,(dz t n { x with aI:=ins x.aI e }).nodes.length,y.key,_,hput _ (by unfold jn;rw [hat];dsimp only;rw [aw hl,ar h6,aw ⟨h7,by rw [jK];omega⟩,Nv]),((pr.trans P).more ai), .inr ⟨ai,_,_,rfl,?_,?_,fun z hz _=>?_⟩⟩
     ·exact⟨_,m1,ai, .inl ⟨rfl,hl,⟨k1,k2,k3,by simp;omega, .inl (by intro h;have:=congrArg List.length h;simp [h7]at this),htk⟩,rfl⟩⟩
     ·exact⟨_,m2,yin.2, .inl ⟨rfl,rfl,⟨rfl,rfl,rfl,by simp;omega, .inl (by intro h;have:=congrArg List.length h;simp [h7]at this),hdr⟩,rfl⟩⟩
     ·rw [m1]at hz;injection hz with hz;subst hz;intro h;have:=congrArg List.length h;simp [h7]at this
   ·omega
end
section
variable {l:List Int} {h:Nat} {t t':Tr}
structure Full (t:Tr) (h:Nat) (l:List Int):Prop where
 sub:Sub t h t.root 0 1099511627776 l
 nd:l.Nodup
 len:l=t.nodes.length
theorem BM (hv:nR t):∃l h,h<=12/\Full t h l:=by
 obtain⟨l,h,h1,h2,h3⟩:=hv;obtain⟨g1,g2⟩:=MX h1;exact⟨l,h,g1,g2,h2,h3⟩
theorem Full.valid (hf:Full t h l) (hh:h<=12):nR t:=⟨l,h,M6 hf.sub hh,hf.nd,hf.len⟩
theorem Sub.lt' {n lo hi:Int} (hs:Sub t h n lo hi l):∀m∈l,0<=m/\m<(t.nodes.length:Int):=fun m hm=>by
 obtain⟨x,hx⟩:=hs.mem.2 m hm;exact wN hx
theorem Full.perm (hf:Full t h l):(l.flatMap t.of).Perm t.all:=by
 rw [<-Jj];exact List.Perm.flatMap_right _ (Ck hf.nd hf.sub.lt' hf.len)
def qE (t:Tr):Nat:=wt t (KC t.nodes)
theorem Un {a b:List Int} (h:a.Perm b):wt t a=wt t b:=by
 unfold wt;exact(h.map _).sum_nat
theorem Full.wt (hf:Full t h l):wt t l=qE t:=Un (Ck hf.nd hf.sub.lt' hf.len)
theorem Sub.Gb:∀{h:Nat} {n lo hi:Int} {l:List Int},Sub t h n lo hi l->(∀m∈l,t'.dm m=t.dm m)->(∀m∈l,m=t.root->∀x,t.dm m=some x->x.leaf=true->x.aI≠[])->Sub t' h n lo hi l
 |0,_,_,_,_,hs,_,_=>hs
 |h+1,n,lo,hi,l,⟨x,hx,hlt,hs⟩,hk,hr=>by
  rcases hs with ⟨h0,h1,h2,rfl⟩|⟨hp,h1,h2,ls,h3,rfl,h4⟩
  ·refine⟨x,(hk n bh).trans hx,hlt, .inl ⟨h0,h1,?_,rfl⟩⟩;obtain⟨a1,a2,a3,a4,a5,a6⟩:=h2;refine⟨a1,a2,a3,a4, .inl ?_,a6⟩;rcases a5 with a5|a5
   ·exact a5
   ·exact hr n bh a5 x hx h1
  ·refine⟨x,(hk n bh).trans hx,hlt, .inr ⟨hp,h1,h2,ls,h3,rfl,fun j k lj hj nW=>?_⟩⟩;obtain⟨g1,g2,g3⟩:=h4 j k lj hj nW;exact⟨g1,g2,g3.Gb (fun m hm=>hk m (List.mem_cons_of_mem _ (List.mem_flatten.2 ⟨lj,uO nW,hm⟩))) fun m hm=>hr m (List.mem_cons_of_mem _ (List.mem_flatten.2 ⟨lj,uO nW,hm⟩))⟩
theorem C2 {t:Tr} {h:Nat}:∀(ls:List (List Int)),(∀l∈ls,∃k,l.length+1<=2*k/\3*k<=wt t l/\2 ^ h<=k)->∃k,ls.flatten+ls.length<=2*k/\3*k<=wt t ls.flatten/\ls*2 ^ h<=k
 |[],_=>⟨0,bh,bh,bh⟩
 |l::ls,hl=>by
  obtain⟨k1,a1,a2,a3⟩:=hl l bh;obtain⟨k2,b1,b2,b3⟩:=C2 ls fun l hl'=>hl l (by simp [hl']);refine⟨k1+k2,?_,?_,?_⟩
  ·rw [List.flatten_cons,dF,gD];omega
  ·rw [List.flatten_cons,nB];omega
  ·rw [gD,Nat.add_mul,Nat.one_mul];omega
theorem Sub.bound:∀{h:Nat} {n lo hi:Int} {l:List Int},Sub t (h+1) n lo hi l->∃k,l.length+1<=2*k/\3*k<=wt t l/\2 ^ h<=k
 |h,n,lo,hi,l,⟨x,hx,hlt,hs⟩=>by
  rcases hs with ⟨rfl,h1,h2,rfl⟩|⟨hp,h1,h2,ls,h3,rfl,h4⟩
  ·refine⟨1,bh,?_,bh⟩;have:wt t [n]=Xr t n:=by simp [wt]
   rw [this,rz hx];unfold Bj;rw [aw h1];omega
  ·obtain⟨h',rfl⟩:∃h',h=h'+1:=⟨h-1,ai⟩;obtain⟨k,a1,a2,a3⟩:=C2 (t:=t) (h:=h') ls fun l hl=>by
    obtain⟨j,hj,rfl⟩:=nr hl;have hjk:j<x.kids:=ai;exact(h4 j _ _ (oZ hjk) (oZ hj)).2.2.bound
   have h22:=h2.2.1;refine⟨k,by rw [gD];omega,by rw [py];omega,?_⟩;have:2*2 ^ h'<=ls.length*2 ^ h':=Nat.mul_le_mul_right _ ai;rw [Nat.pow_succ];omega
theorem Full.bound (hf:Full t h l):∃k,t.nodes.length+1<=2*k/\3*k<=qE t/\2 ^ (h-1)<=k:=by
 obtain⟨h',rfl⟩:∃h',h=h'+1:=⟨h-1,by have:=hf.sub.pos;omega⟩;obtain⟨k,a1,a2,a3⟩:=hf.sub.bound;rw [hf.len]at a1;rw [hf.wt]at a2;exact⟨k,a1,a2,a3⟩
theorem Full.fault (hf:Full t h l) (hw:qE t<=3002):aC t=0:=by
 obtain⟨k,a1,a2,a3⟩:=hf.bound;refine xN ai (hf.valid ?_);refine Nat.le_of_not_lt fun hh=>?_;have:2 ^ 12<=2 ^ (h-1):=Nat.pow_le_pow_right bY ai;have:(2:Nat) ^ 12=4096:=bY;omega
theorem Sub.node:∀{h:Nat} {n lo hi:Int} {l:List Int},Sub t h n lo hi l->∀m∈l,∀x,t.dm m=some x->x.aI.length<=6/\x.keys.length<=3/\x.kids.length<=4/\x.buf.length<=8
 |0,_,_,_,_,hs,_,_,_,_=>hs.elim
 |h+1,n,lo,hi,l,⟨x,hx,hlt,hs⟩,m,hm,y,hy=>by
  rcases hs with ⟨rfl,h1,h2,rfl⟩|⟨hp,h1,h2,ls,h3,rfl,h4⟩
  ·simp only [oY]at hm;subst hm;obtain rfl:=dh (hx.symm.trans hy);obtain⟨a1,a2,a3,a4,-,-⟩:=h2;simp [a1,a2,a3,a4]
  ·rcases fy.1 hm with rfl|hm
   ·obtain rfl:=dh (hx.symm.trans hy);obtain⟨a1,a2,a3,a4,a5,-⟩:=h2;exact⟨by simp [a1],ai,a3,a5⟩
   ·obtain⟨lj,nW,zH⟩:=List.mem_flatten.1 hm;obtain⟨j,hj,rfl⟩:=nr nW;have hjk:j<x.kids:=ai;exact(h4 j _ _ (oZ hjk) (oZ hj)).2.2.node m zH y hy
theorem Full.node (hf:Full t h l):∀x∈t.nodes,x.aI.length<=6/\x.keys.length<=3/\x.kids.length<=4/\x.buf.length<=8:=fun x hx=>by
 obtain⟨i,hi,rfl⟩:=nr hx;have hm:=(vM hf.nd hf.sub.lt').1 hf.len i hi;exact hf.sub.node i hm _ (by unfold Tr.dm;simp [hi])
theorem Qw {f:Int->Nat} {m:Nat}:∀{l:List Int},(∀y∈l,f y<=m)->(l.map f).sum<=m*l
 |[],_=>bh
 |a::l,h=>by
  have:=Qw (l:=l) fun y hy=>h y (by simp [hy]);have:=h a bh;rw [List.map_cons,List.sum_cons,gD,Nat.mul_succ];omega
theorem Full.aaS (hf:Full t h l):qE t<=8*t.nodes:=by
 rw [<-hf.wt,<-hf.len];refine Qw fun y hy=>?_;obtain⟨x,hx⟩:=hf.sub.mem.2 y hy;have:=hf.sub.node y hy x hx;rw [rz hx];unfold Bj
 split <;> omega
def lW (t:Tr) (more key:Int):Tr:={ nodes:=t.nodes++[⟨false,[],[key],[t.root,more],[]⟩],root:=t.nodes.length }
theorem Vv (hh:h<=12):grow h<=500000000000:=by
 have:h=0\/h=1\/h=2\/h=3\/h=4\/h=5\/h=6\/h=7\/h=8\/h=9\/h=10\/h=11\/h=12:=ai;rcases this with rfl|rfl|rfl|rfl|rfl|rfl|rfl|rfl|rfl|rfl|rfl|rfl|rfl <;> decide
theorem Hv {l':List Int} {E:List aH} {d:Nat} (P:Prog t t' l l' E d) (hn:l.Nodup) (hr:∀m∈l,0<=m/\m<(t.nodes.length:Int)) (hl:l=t.nodes.length) (hr':∀m∈l',0<=m/\m<(t'.nodes.length:Int)):l'=t'.nodes.length:=by
 refine(vM P.nd hr').2 fun i hi=>?_;rw [P.mem];by_cases h:i<t.nodes
 ·exact .inl ((vM hn hr).1 hl i h)
 ·exact .inr ai
theorem QM {e:aH} (hf:Full t h l) (hh:h<=12) (hn:t.nodes.length<=2000) (he:mf e) (hg:bQ t.all) (hs:Small (e::t.all)) :
  ∃t1 more key t2 h2 l2,uw 13 t t.root e=some (t1,more,key)/\t1.root=t.root/\t2=(if 0<=more then lW t1 more key else t1)/\Full t2 h2 l2/\jv t2.all (e::t.all)/\qE t2<=qE t+1:=by
 have hp:=hf.perm;have hgl:bQ (l.flatMap t.of):=fun y hy=>hg y (hp.mem_iff.1 hy);have hsl:Small (e::l.flatMap t.of):=(pW (hp.cons e) (fun y hy=>by
  rcases fy.1 hy with rfl|hy
  ·exact .inr he.good
  ·exact .inr (hgl y hy))).2 hs
 have gle:=Vv hh;obtain⟨t1,more,key,l',p1,p2,p3⟩:=Nf h 13 ai t t.root 0 1099511627776 l e hf.sub hf.nd he he.2.2.1 he.2.2.2 (Int.le_refl _) (Int.le_refl _) hgl hsl ai;have hev:jv (l'.flatMap t1.of) (e::t.all):=p2.ev.trans (jv.perm (hp.cons e) p2.ev.2.1);have hwt:wt t1 l'<=qE t+1:=by have:=p2.wt;rw [hf.wt]at this;simpa using this
 rcases p3 with ⟨rfl,g1⟩|⟨g0,l1,l2,rfl,g1,g2,g3⟩
 ·have hfull:Full t1 h l':=⟨by rw [p2.root];exact g1,p2.nd,Hv p2 hf.nd hf.sub.lt' hf.len g1.lt'⟩;refine⟨t1,-1,key,t1,h,l',p1,p2.root,by rw [ar ai],hfull,?_,by rw [<-hfull.wt];exact hwt⟩;exact(jv.perm hfull.perm.symm (fun y hy=>hev.1 y (hfull.perm.mem_iff.2 hy))).trans hev
 ·have hr1:=g1.lt';have hr2:=g2.lt';have hr:∀m∈l1++l2,0<=m/\m<(t1.nodes.length:Int):=fun m hm=>(kW.1 hm).elim (hr1 m) (hr2 m);have hlen:=Hv p2 hf.nd hf.sub.lt' hf.len hr;have hat:∀m:Int,m<(t1.nodes.length:Int)->(lW t1 more key).dm m=t1.dm m:=fun m hm=>by
   unfold Tr.dm lW;by_cases h0:0<=m
   ·rw [aw h0,aw h0];simp only;rw [rE ai]
   ·rw [ar h0,ar h0]
  have hnew:(lW t1 more key).dm (t1.nodes.length:Int)=some ⟨false,[],[key],[t1.root,more],[]⟩:=by
   unfold Tr.dm lW;simp
  have n1:∀m∈l1,(lW t1 more key).dm m=t1.dm m:=fun m hm=>hat m (hr1 m hm).2;have n2:∀m∈l2,(lW t1 more key).dm m=t1.dm m:=fun m hm=>hat m (hr2 m hm).2;have hroot:t1.root=t.root:=p2.root;have s1:Sub (lW t1 more key) h t.root 0 key l1:=g1.Gb n1 fun m hm hmr x hx hl=>by
   rw [hmr,hroot]at hx;exact g3 x hx hl
  have Yd:∀m∈l2,m≠t.root:=fun m hm e=>by
   have h1:=g1.mem.1;rw [e]at hm;exact(List.nodup_append.1 p2.nd).2.2 _ h1 _ hm rfl
  have s2:Sub (lW t1 more key) h more key 1099511627776 l2:=g2.Gb n2 fun m hm hmr=>absurd (hmr.trans hroot) (Yd m hm);have hfull:Full (lW t1 more key) (h+1) ((t1.nodes.length:Int)::(l1++l2)):=by
   refine⟨⟨_,hnew,bY, .inr ⟨g1.pos,rfl,⟨rfl,bh,bh,bh,bh,⟨(fun _ h=>by cases h),(fun _ h=>by cases h),List.Pairwise.nil⟩⟩,[l1,l2],rfl,by simp [lW],fun j k lj hj nW=>?_⟩⟩,?_,?_⟩
   ·rcases j with _|_|j
    ·simp only [List.getElem?_cons_zero,iJ]at hj nW;subst hj nW;refine⟨Int.le_refl _,?_,?_⟩
     ·simp [up];have:=s2.lt;omega
     ·rw [hroot];simpa [fr,up] using s1
    ·simp only [List.getElem?_cons_succ,List.getElem?_cons_zero,iJ]at hj nW;subst hj nW;refine⟨?_,?_,?_⟩
     ·simp [fr];have:=s1.lt;omega
     ·simp [up]
     ·simpa [fr,up] using s2
    ·simp at hj
   ·refine List.nodup_cons.2 ⟨fun hm=>?_,p2.nd⟩;have:=(hr _ hm).2;omega
   ·rw [gD,hlen];simp [lW]
  refine⟨t1,more,key,_,h+1,_,p1,p2.root,by rw [aw g0],hfull,?_,?_⟩
  ·refine(jv.perm hfull.perm.symm ?_).trans ?_
   ·intro y hy;have:=hfull.perm.mem_iff.2 hy;rw [fO,qg hnew,of_same (t':=lW t1 more key) (t:=t1) (fun m hm=>hat m (hr m hm).2)]at this;exact hev.1 y (by simpa using this)
   ·rw [fO,qg hnew,of_same (t':=lW t1 more key) (t:=t1) (fun m hm=>hat m (hr m hm).2)];simpa using hev
  ·rw [<-hfull.wt,py,rz hnew,sP (t':=lW t1 more key) (t:=t1) (fun m hm=>hat m (hr m hm).2)];unfold Bj;simp;exact hwt
noncomputable def kL (t:Tr) (key:Int) (r:ax):Int:=
 if aC t≠0 then aC t else if key<0\/1099511627776<=key\/r.c=0 then 2 else if av r≠0 then av r else if (look t.all key).c+r.c<=1073741824 then 0 else 1
theorem FM {key:Int} {r:ax} (h:kL t key r=0):aC t=0/\0<=key/\key<1099511627776/\r.c≠0/\av r=0/\(look t.all key).c+r.c<=1073741824:=by
 unfold kL at h
 split at h
 ·contradiction
 ·rename_i h1
  split at h
  ·omega
  ·rename_i h2
   split at h
   ·contradiction
   ·rename_i h3
    split at h
    ·rename_i h4
     exact⟨by simpa using h1,ai,ai,ai,by simpa using h3,h4⟩
    ·omega
end
section
variable {e:aH} {l:List aH} {t:Tr}
theorem mI (hr:aY l) (hc:Checked l):Small l:=fun k=>by
 by_cases h:∃e∈l,e.key=k
 ·obtain⟨e,he,rfl⟩:=h;rw [iF hr he];exact hc.le e he
 ·rw [jz fun e he hk=>h ⟨e,he,hk⟩];decide
theorem filter_all (hv:nR t):t.all.filter (aV 0 1099511627776)=t.all:=List.filter_eq_self.2 fun e he=>by
 have:=nZ hv e he;simp [aV,this.1,this.2]
theorem BA (hf:aC t=0) (he:jv t.all l) (hr:aY l) (hc:Checked l):allT t=some l:=by
 unfold allT mz;have hv:=(cZ hf).2;rw [aw hf,filter_all hv,ky (cP hv),aw (he.small.2 (mI hr hc))]
 congr 1
 exact uC (eW he.1) hr (gU he.1) he.2.1 fun k=>by rw [iG he.1,he.2.2]
theorem UG (h:allT t=some l):aC t=0/\jv t.all l/\aY l/\Checked l/\Small t.all:=by
 have hg:=fg h;unfold allT at h
 split at h
 ·rename_i hf
  have hv:=(cZ hf).2;unfold mz at h;rw [filter_all hv]at h;obtain⟨rfl,hs,hc,-,hr⟩:=fL (cP hv) h;exact⟨hf,⟨(cP hv).cp,gU (cP hv).cp,fun k=>(iG (cP hv).cp k).symm⟩,hr,hc,hs⟩
 ·cases h
theorem Hr (hl:aY l) (h:∀y∈l,y.key<e.key):aY (l++[e]):=List.pairwise_append.2 ⟨hl,List.pairwise_singleton _ _,fun a ha b hb=>by simp at hb;subst hb;exact h a ha⟩
noncomputable def jM:Option Int->List aH->Int
 |_,[]=>0
 |p,e::l=>if ∃k,p=some k/\e.key<=k then 8 else if e.key<0\/1099511627776<=e.key\/e.is.c=0 then 2 else if av e.is≠0 then av e.is else jM (some e.key) l
def mN (l:List aH) (k:Nat):Option Int:=if k=0 then none else(l[k-1]?).map aH.key
theorem Sr {k:Nat} (hk:k<l):jM (mN l k) (l.drop k)=if ∃p,mN l k=some p/\l[k].key<=p then 8 else if l[k].key<0\/1099511627776<=l[k].key\/l[k].is.c=0 then 2 else if av l[k].is≠0 then av l[k].is else jM (mN l (k+1)) (l.drop (k+1)):=by
 rw [qI hk];have:mN l (k+1)=some l[k].key:=by unfold mN;simp [hk]
 rw [this];rfl
def Made (l:List aH) (t:Tr):Prop:=aC t=0/\jv t.all l/\aY l/\Checked l/\(∀e∈l,0<=e.key/\e.key<1099511627776)/\qE t<=3+l
theorem Made.small (h:Made l t):Small t.all:=h.2.1.small.2 (mI h.2.2.1 h.2.2.2.1)
theorem Made.knows (h:Made l t):allT t=some l:=BA h.1 h.2.1 h.2.2.1 h.2.2.2.1
theorem Ra {k:Nat} (hkl:k<=l) (hr:aY (l.take k)) (h:¬∃p,mN l k=some p/\e.key<=p):∀y∈l.take k,y.key<e.key:=fun y hy=>by
 obtain⟨i,hi,rfl⟩:=nr hy;rw [gh]at hi;rw [zW];have hlt:k-1<l:=ai;have h1:l[k-1].key<e.key:=by
  refine Int.not_le.1 fun hle=>h ⟨l[k-1].key,?_,hle⟩;unfold mN;rw [ar ai,oZ hlt];rfl
 by_cases hik:i=k-1
 ·subst hik;exact h1
 ·have:=sI.1 hr i (k-1) (by rw [gh];omega) (by rw [gh];omega) ai;rw [zW,zW]at this;omega
theorem Made.put {k:Nat} (h:Made (l.take k) t) (hk:k<l) (ho:¬∃p,mN l k=some p/\l[k].key<=p) (h2:¬(l[k].key<0\/1099511627776<=l[k].key\/l[k].is.c=0)) (h3:av l[k].is=0) :
  look t.all l[k].key=ax.zero/\Small (l[k]::t.all)/\aY (l.take (k+1))/\Checked (l.take (k+1))/\∀t2,jv t2.all (l[k]::t.all)->qE t2<=qE t+1->jv t2.all (l.take (k+1))/\qE t2<=3+(l.take (k+1)).length/\∀e∈l.take (k+1),0<=e.key/\e.key<1099511627776:=by
 obtain⟨m1,m2,m3,m4,m5,m6⟩:=h;have Nz:l[k].is.Good:=(dC h3 ai).1;have hle:l[k].is.c<=1073741824:=(dC h3 ai).2;have hlt:=Ra ai m3 ho;have hz:look t.all l[k].key=ax.zero:=by
  rw [m2.2.2,jz fun y hy e=>by have:=hlt y hy;omega]
 have hsn:l.take (k+1)=l.take k++[l[k]]:=ja hk;have hr:aY (l.take (k+1)):=by rw [hsn];exact Hr m3 hlt
 have hc:Checked (l.take (k+1)):=fun e he=>by
  rw [hsn]at he;rcases kW.1 he with he|he
  ·exact m4 e he
  ·simp at he;subst he;exact⟨ai,h3⟩
 have hev:jv (l[k]::t.all) (l.take (k+1)):=by
  have e1:jv ([l[k]]++t.all) ([l[k]]++l.take k):=(jv.refl (fun e he=>by simp at he;subst he;exact Nz)).append m2;refine e1.trans (jv.perm ?_ e1.2.1);rw [hsn];exact List.perm_append_comm
 refine⟨hz,hev.small.2 (mI hr hc),hr,hc,fun t2 h1 h2=>⟨h1.trans hev,?_,fun e he=>?_⟩⟩
 ·rw [gh]at m6 ⊢;omega
 ·rw [hsn]at he;rcases kW.1 he with he|he
  ·exact m5 e he
  ·simp at he;subst he;omega
def FD:Tr:=⟨[⟨true,[],[],[],[]⟩],0⟩
theorem Io:Made [] FD:=by
 have hfull:Full FD 1 [0]:=⟨⟨⟨true,[],[],[],[]⟩,rfl,bY, .inl ⟨rfl,rfl,⟨rfl,rfl,rfl,bY, .inr rfl,⟨(fun _ h=>by cases h),(fun _ h=>by cases h),List.Pairwise.nil⟩⟩,rfl⟩⟩,bh,rfl⟩;have hw:qE FD=3:=rfl;refine⟨hfull.fault ai,?_,List.Pairwise.nil,(fun _ h=>by cases h),(fun _ h=>by cases h),by rw [hw];exact nu _⟩;exact jv.refl (a:=[]) (fun e h=>absurd h bh)
end
end Go.Proofs.YtmljjfhgciaceaaGreatDoor
