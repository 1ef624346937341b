/- Texts of mine that come as one: SubP PutF PutA PutB PutC PutD PutT OfP. -/
import Derived.Test.YtmljjfhgciaceaaGreatDoorHd
import Derived.Test.YtmljjfhgciaceaaGreatDoorPA
namespace Go.Proofs.YtmljjfhgciaceaaGreatDoor
section
variable {t:Tr}
def fr (ks:List Int) (lo:Int) (j:Nat):Int:=if j=0 then lo else ks.getD (j-1) 0
def up (ks:List Int) (hi:Int) (j:Nat):Int:=if j<ks.length then ks.getD j 0 else hi
def Sub (t:Tr):Nat->Int->Int->Int->List Int->Prop
 |0,_,_,_,_=>False
 |h+1,n,lo,hi,l=>∃x,t.dm n=some x/\lo<hi /\
   ((h=0/\x.leaf=true/\mC t n x lo hi/\l=[n]) \/
   (0<h/\x.leaf=false/\qq x lo hi/\∃ls:List (List Int),ls.length=x.kids.length/\l=n::ls.flatten /\
     ∀(j:Nat) (k:Int) (lj:List Int),x.kids[j]?=some k->ls[j]?=some lj->lo<=fr x.keys lo j/\up x.keys hi j<=hi/\Sub t h k (fr x.keys lo j) (up x.keys hi j) lj))
theorem Sub.lt:∀{h:Nat} {n lo hi:Int} {l:List Int},Sub t h n lo hi l->lo<hi
 |0,_,_,_,_,hs=>hs.elim
 |_h+1,_,_,_,_,⟨_,_,h1,_⟩=>h1
theorem Sub.pos {h:Nat} {n lo hi:Int} {l:List Int} (hs:Sub t h n lo hi l):0<h:=by
 cases h with
 |zero=>exact hs.elim
 |succ h=>omega
theorem DF {t:Tr} {f:Nat} {x:Nd} {lo hi:Int} (ih:∀{k a b:Int} {l:List Int} {h:Nat},mH t f k a b=some (l,h)->h<=f/\Sub t h k a b l) :
  ∀{ks:List Int} {i:Nat} {l:List Int} {h:Nat},ct (fun k a b=>mH t f k a b) x lo hi ks i=some (l,h)->(ks≠[]->h<=f)/\∃ls:List (List Int),ls.length=ks.length/\l=ls.flatten /\
   ∀(j:Nat) (k:Int) (lj:List Int),ks[j]?=some k->ls[j]?=some lj->lo<=x.from lo (i+j)/\x.upto hi (i+j)<=hi/\Sub t h k (x.from lo (i+j)) (x.upto hi (i+j)) lj
 |[],i,l,h,hv=>by
  simp only [ct,iE,jM]at hv
  exact⟨fun h=>absurd rfl h,[],rfl,by rw [<-hv.1];rfl,fun j k lj hj=>by simp at hj⟩
 |k::ks,i,l,h,hv=>by
  unfold ct at hv
  split at hv
  ·rename_i hc
   split at hv
   ·rename_i l1 h1 l2 h2 e1 e2
    split at hv
    ·rename_i hh
     simp only [iE,jM]at hv
     obtain⟨rfl,rfl⟩:=hv
     obtain⟨g1,g2⟩:=ih e1
     obtain⟨_,ls,k1,k2,k3⟩:=DF ih e2
     refine⟨fun _=>g1,l1::ls,by simp [k1],by rw [k2];rfl,fun j k' lj hj nC=>?_⟩
     cases j with
     |zero=>
      simp only [List.getElem?_cons_zero,iE]at hj nC
      subst hj nC
      exact⟨hc.2.1,hc.2.2,g2⟩
     |succ j=>
      simp only [List.getElem?_cons_succ]at hj nC
      have:=k3 j k' lj hj nC
      rw [show i+1+j=i+(j+1)from by omega]at this
      have hne:ks≠[]:=fun h=>by subst h;simp at hj
      rcases qL (fun k a b l h hv=>xV hv) e2 with h0|h0
      ·exact absurd h0 hne
      ·rcases hh with hh|hh
       ·omega
       ·rw [hh]at this;exact this
    ·cases hv
   ·cases hv
  ·cases hv
theorem Ij {t:Tr}:∀{f:Nat} {n lo hi:Int} {l:List Int} {h:Nat},mH t f n lo hi=some (l,h)->h<=f/\Sub t h n lo hi l
 |0,_,_,_,_,_,hv=>by cases hv
 |f+1,n,lo,hi,l,h,hv=>by
  have hlt:=La hv
  unfold mH at hv
  split at hv
  ·cases hv
  ·rename_i x hx
   split at hv
   ·cases hv
   ·split at hv
    ·rename_i hl
     split at hv
     ·rename_i hok
      simp only [iE,jM]at hv
      obtain⟨rfl,rfl⟩:=hv
      exact⟨af,x,hx,hlt, .inl ⟨rfl,hl,hok,rfl⟩⟩
     ·cases hv
    ·rename_i hl
     split at hv
     ·rename_i hok
      obtain⟨⟨l',h'⟩,hk,hp⟩:=Option.map_eq_some_iff.1 hv
      simp only [jM]at hp
      obtain⟨rfl,rfl⟩:=hp
      obtain⟨g1,ls,g2,g3,g4⟩:=DF (fun hv=>Ij hv) hk
      have hne:x.kids≠[]:=fun h=>by have:=hok.2.1;rw [h]at this;simp at this
      have hp:1<=h':=by
       rcases qL (fun k a b l h hv=>xV hv) hk with h0|h0
       ·exact absurd h0 hne
       ·exact h0
      refine⟨by have:=g1 hne;omega,x,hx,hlt, .inr ⟨af,by simpa using hl,hok,ls,g2,by rw [g3],fun j k lj hj nC=>?_⟩⟩
      have:=g4 j k lj hj nC
      rw [iX]at this
      exact this
     ·cases hv
theorem CX {t:Tr} {f h:Nat} (hp:0<h) {x:Nd} {lo hi:Int} (ih:∀{k a b:Int} {l:List Int},Sub t h k a b l->mH t f k a b=some (l,h)) :
  ∀{ks:List Int} {i:Nat} {ls:List (List Int)},ls.length=ks.length->(∀(j:Nat) (k:Int) (lj:List Int),ks[j]?=some k->ls[j]?=some lj->lo<=x.from lo (i+j)/\x.upto hi (i+j)<=hi/\Sub t h k (x.from lo (i+j)) (x.upto hi (i+j)) lj) ->
   ct (fun k a b=>mH t f k a b) x lo hi ks i=some (ls.flatten,if ks=[]then 0 else h)
 |[],i,[],_,_=>rfl
 |k::ks,i,l1::ls,hl,hk=>by
  have h0:=hk 0 k l1 rfl rfl
  rw [Nat.add_zero]at h0
  have hr:=CX hp ih (ks:=ks) (i:=i+1) (ls:=ls) (by simpa using hl) fun j k' lj hj nC=>by
   have:=hk (j+1) k' lj (by simpa using hj) (by simpa using nC)
   rwa [show i+(j+1)=i+1+j from by omega]at this
  unfold ct
  rw [ar ⟨h0.2.2.lt,h0.1,h0.2.1⟩,ih h0.2.2,hr]
  try simp only
  have hc:(if ks=[]then 0 else h)=0\/(if ks=[]then 0 else h)=h:=by
   by_cases he:ks=[]
   ·left;rw [ar he]
   ·right;rw [ai he]
  rw [ar hc,ai bt]
  rfl
theorem Ip {t:Tr}:∀{h f:Nat} {n lo hi:Int} {l:List Int},Sub t h n lo hi l->h<=f->mH t f n lo hi=some (l,h)
 |0,_,_,_,_,_,hs,_=>hs.elim
 |h+1,0,_,_,_,_,_,hf=>af
 |h+1,f+1,n,lo,hi,l,⟨x,hx,hlt,hs⟩,hf=>by
  unfold mH
  rw [hx]
  try simp only
  rw [ai (iM hlt)]
  rcases hs with ⟨rfl,h1,h2,rfl⟩|⟨hp,h1,h2,ls,h3,rfl,h4⟩
  ·rw [ar h1,ar h2]
  ·rw [ai (by simp [h1]),ar h2,CX (h:=h) (f:=f) hp (fun hs=>Ip hs af) h3 (fun j k lj hj nC=>by rw [iX];exact h4 j k lj hj nC)]
   have hne:x.kids≠[]:=fun h=>by have:=h2.2.1;rw [h]at this;simp at this
   rw [ai hne];rfl
theorem Sub.frame {t':Tr} (hr:t'.root=t.root):∀{h:Nat} {n lo hi:Int} {l:List Int},Sub t h n lo hi l->(∀m∈l,t'.dm m=t.dm m)->Sub t' h n lo hi l
 |0,_,_,_,_,hs,_=>hs
 |h+1,n,lo,hi,l,⟨x,hx,hlt,hs⟩,hk=>by
  rcases hs with ⟨h0,h1,h2,rfl⟩|⟨hp,h1,h2,ls,h3,rfl,h4⟩
  ·exact⟨x,(hk n bt).trans hx,hlt, .inl ⟨h0,h1,by unfold mC at *;rw [hr];exact h2,rfl⟩⟩
  ·refine⟨x,(hk n bt).trans hx,hlt, .inr ⟨hp,h1,h2,ls,h3,rfl,fun j k lj hj nC=>?_⟩⟩
   obtain⟨g1,g2,g3⟩:=h4 j k lj hj nC
   exact⟨g1,g2,g3.frame hr fun m hm=>hk m (List.mem_cons_of_mem _ (List.mem_flatten.2 ⟨lj,List.mem_of_getElem? nC,hm⟩))⟩
theorem Sub.mem:∀{h:Nat} {n lo hi:Int} {l:List Int},Sub t h n lo hi l->n∈l/\∀m∈l,∃x,t.dm m=some x
 |0,_,_,_,_,hs=>hs.elim
 |h+1,n,lo,hi,l,⟨x,hx,hlt,hs⟩=>by
  rcases hs with ⟨h0,h1,h2,rfl⟩|⟨hp,h1,h2,ls,h3,rfl,h4⟩
  ·exact⟨bt,fun m hm=>by simp at hm;subst hm;exact⟨x,hx⟩⟩
  ·refine⟨bt,fun m hm=>?_⟩
   rcases eZ.1 hm with rfl|hm
   ·exact⟨x,hx⟩
   ·obtain⟨lj,nC,CP⟩:=List.mem_flatten.1 hm
    obtain⟨j,hj,rfl⟩:=kS nC
    have hjk:j<x.kids.length:=af
    exact((h4 j _ _ (oG hjk) (oG hj)).2.2.mem).2 m CP
theorem xA {m:Int} {x:Nd} (h:t.dm m=some x):0<=m/\m<t.nodes.length:=by
 unfold Tr.dm at h
 split at h
 ·have:=(gJ.1 h).1;omega
 ·cases h
end
section
variable {n:Int} {x y:Nd} {t:Tr}
def cJ (t:Tr) (n:Int) (x:Nd):Tr:={ t with nodes:=t.nodes.set n.toNat x }
def jo (t:Tr) (x:Nd):Tr:={ t with nodes:=t.nodes++[x] }
def Uo (l:List aA):Prop:=∀e∈l,0<=e.key/\e.key<1099511627776
def jX (e:aA):Prop:=e.is.c≠0/\aj e.is=0/\0<=e.key/\e.key<1099511627776
def vp (l:List aA):Prop:=aX l/\Checked l/\Uo l/\l.length<=20
open Classical in
noncomputable def xM (l:List aA) (e:aA):Option (List aA):=if vp l/\jX e then jJ l e else none
open Classical in
noncomputable def gW (t:Tr) (n:Int):Option (Tr×Int×Int):=
 match t.dm n with
 |none=>none
 |some x=>
  if x.leaf=true then
   if x.aF.length<=6 then some (t,-1,0)
   else if x.aF.length=7/\t.nodes.length<=1000000000000 then some (cJ (jo t ⟨true,x.aF.drop 3,[],[],[]⟩) n { x with aF:=x.aF.take 3 },t.nodes.length,(x.aF.getD 3 default).key)
   else none
  else if x.kids.length<=4 then some (t,-1,0)
  else if x.kids.length=5/\x.keys.length=4/\vp x.buf/\(0<=x.keys.getD 1 0/\x.keys.getD 1 0<=1099511627776)/\t.nodes.length<=1000000000000 then
   some (cJ (jo t ⟨false,[],x.keys.drop 2,x.kids.drop 2,x.buf.drop (ic x.buf (x.keys.getD 1 0))⟩) n ⟨false,[],x.keys.take 1,x.kids.take 2,x.buf.take (ic x.buf (x.keys.getD 1 0))⟩,t.nodes.length,x.keys.getD 1 0)
  else none
noncomputable def oL (n:Int) (t:Tr) (e:aA):Option Tr:=
 match t.dm n with
 |none=>none
 |some x=>(xM x.buf e).map fun b=>cJ t n { x with buf:=b }
def iQ (x:Nd) (j:Nat):Nat:=(x.buf.filter fun e=>decide (aZ x.keys e.key=j)).length
def iV (m:Nat->Nat):Nat->Nat
 |0=>0
 |k+1=>if m (iV m k)<m k then k else iV m k
noncomputable def Gn (t1:Tr) (n:Int) (i:Nat) (more key:Int):Option Tr:=
 if more<0 then some t1 else match t1.dm n with
  |none=>none
  |some y=>if i<=y.keys.length/\i+1<=y.kids.length/\y.kids.length<=20/\y.keys.length<=20 then
    some (cJ t1 n { y with keys:=y.keys.take i++key::y.keys.drop i,kids:=y.kids.take (i+1)++more::y.kids.drop (i+1) })
   else none
open Classical in
noncomputable def sP (put:Tr->Int->aA->Option (Tr×Int×Int)) (n:Int) (all:List aA):List aA->Tr->Option Tr
 |[],t=>some t
 |e::ds,t=>
  match t.dm n with
  |none=>none
  |some x=>
   if x.keys.Pairwise (·<·)/\x.keys.length<=20/\x.kids.length<=20 then
    match x.kids[aZ x.keys e.key]? with
    |none=>none
    |some k=>
     match put t k e with
     |none=>none
     |some (t1,more,key)=>
      match Gn t1 n (aZ x.keys e.key) more key with
      |none=>none
      |some t2=>
       match t2.dm n with
       |none=>none
       |some z=>if z.kids.length<=4 then sP put n all ds t2 else(all.filter fun d=>decide (e.key<d.key)).foldlM (oL n) t2
   else none
open Classical in
noncomputable def ou (put:Tr->Int->aA->Option (Tr×Int×Int)) (t:Tr) (n:Int):Option Tr:=
 match t.dm n with
 |none=>none
 |some x=>
  if x.keys.Pairwise (·<·)/\x.keys.length<=3/\x.buf.length<=20/\Checked x.buf then
   sP put n (x.buf.filter fun e=>decide (aZ x.keys e.key=iV (iQ x) 4)) (x.buf.filter fun e=>decide (aZ x.keys e.key=iV (iQ x) 4))
    (cJ t n { x with buf:=x.buf.filter fun e=>!decide (aZ x.keys e.key=iV (iQ x) 4) })
  else none
noncomputable def qU:Nat->Tr->Int->aA->Option (Tr×Int×Int)
 |0,_,_,_=>none
 |f+1,t,n,e=>
  match t.dm n with
  |none=>none
  |some x=>
   if x.leaf=true then
    match xM x.aF e with
    |none=>none
    |some l=>gW (cJ t n { x with aF:=l }) n
   else
    match xM x.buf e with
    |none=>none
    |some l=>
     if l.length<=8 then gW (cJ t n { x with buf:=l }) n
     else match ou (qU f) (cJ t n { x with buf:=l }) n with
      |none=>none
      |some t2=>gW t2 n
theorem tN (h:t.dm n=some x):(cJ t n y).dm n=some y:=by
 unfold Tr.dm at *
 split at h
 ·rename_i h0
  rw [ar h0]
  have:=(gJ.1 h).1
  simp [cJ,this]
 ·cases h
theorem lG {m:Int} (h0:0<=n) (h:m≠n):(cJ t n y).dm m=t.dm m:=by
 unfold Tr.dm cJ
 split
 ·simp only;rw [AK af]
 ·rfl
theorem Uj (h:t.dm n=some x):(jo t y).dm n=some x:=by
 unfold Tr.dm jo at *
 split at h
 ·rename_i h0
  rw [ar h0]
  simp only
  rw [zW (gJ.1 h).1];exact h
 ·cases h
theorem Ui:(jo t y).dm (t.nodes.length:Int)=some y:=by
 unfold Tr.dm jo;simp
theorem iH (t:Tr) (n:Int) (x:Nd):(cJ t n x).nodes.length=t.nodes.length:=by simp [cJ]
theorem II (t:Tr) (x:Nd):(jo t x).nodes.length=t.nodes.length+1:=by simp [jo]
theorem yL (t:Tr) (n:Int) (x:Nd):(cJ t n x).root=t.root:=rfl
theorem Lt (t:Tr) (x:Nd):(jo t x).root=t.root:=rfl
end
section
variable {P:Int->Int->Int->List Int->Prop}
def Seg (P:Int->Int->Int->List Int->Prop):Int->Int->List Int->List Int->List (List Int)->Prop
 |lo,hi,[],[k],[l]=>P k lo hi l
 |lo,hi,key::keys,k::kids,l::ls=>P k lo key l/\Seg P key hi keys kids ls
 |_,_,_,_,_=>False
theorem Seg.len:∀{keys kids:List Int} {ls:List (List Int)} {lo hi:Int},Seg P lo hi keys kids ls->kids.length=keys.length+1/\ls.length=keys.length+1
 |[],[k],[l],_,_,_=>⟨rfl,rfl⟩
 |key::keys,k::kids,l::ls,_,_,h=>by have:=h.2.len;simp [this.1,this.2]
 |[],[],_,_,_,h=>h.elim
 |[],_::_::_,_,_,_,h=>by simp [Seg]at h
 |[],[_],[],_,_,h=>h.elim
 |[],[_],_::_::_,_,_,h=>by simp [Seg]at h
 |_::_,[],_,_,_,h=>by simp [Seg]at h
 |_::_,_::_,[],_,_,h=>by simp [Seg]at h
theorem IW (key:Int) (keys:List Int) (lo:Int) (j:Nat):fr (key::keys) lo (j+1)=fr keys key j:=by
 unfold fr
 cases j with
 |zero=>simp
 |succ j=>simp
theorem Im (key:Int) (keys:List Int) (hi:Int) (j:Nat):up (key::keys) hi (j+1)=up keys hi j:=by
 unfold up;simp
theorem Lm {P:Int->Int->Int->List Int->Prop}:∀{keys kids:List Int} {ls:List (List Int)} {lo hi:Int},kids.length=keys.length+1->ls.length=kids.length ->
  (∀(j:Nat) (k:Int) (lj:List Int),kids[j]?=some k->ls[j]?=some lj->P k (fr keys lo j) (up keys hi j) lj)->Seg P lo hi keys kids ls
 |[],[k],[l],lo,hi,_,_,h=>h 0 k l rfl rfl
 |key::keys,k::kids,l::ls,lo,hi,h1,h2,h=>by
  refine⟨?_,Lm (by simpa using h1) (by simpa using h2) fun j k' lj hj nC=>?_⟩
  ·have:=h 0 k l rfl rfl
   simpa [fr,up] using this
  ·have:=h (j+1) k' lj (by simpa using hj) (by simpa using nC)
   rwa [IW,Im]at this
 |[],[],_,_,_,h1,_,_=>by simp at h1
 |[],_::_::_,_,_,_,h1,_,_=>by simp at h1
 |[],[_],[],_,_,_,h2,_=>by simp at h2
 |[],[_],_::_::_,_,_,_,h2,_=>by simp at h2
 |_::_,[],_,_,_,h1,_,_=>by simp at h1
 |_::_,_::_,[],_,_,_,h2,_=>by simp at h2
theorem Seg.bounds (hlt:∀k a b l,P k a b l->a<b):∀{keys kids:List Int} {ls:List (List Int)} {lo hi:Int},Seg P lo hi keys kids ls->lo<hi/\keys.Pairwise (·<·)/\(∀k∈keys,lo<k/\k<hi)
 |[],[k],[l],_,_,h=>⟨hlt _ _ _ _ h,List.Pairwise.nil,fun _ h=>by cases h⟩
 |key::keys,k::kids,l::ls,lo,hi,h=>by
  have h1:=hlt _ _ _ _ h.1
  obtain⟨h2,h3,h4⟩:=h.2.bounds hlt
  refine⟨af,rE.2 ⟨fun y hy=>(h4 y hy).1,h3⟩,fun y hy=>?_⟩
  rcases eZ.1 hy with rfl|hy
  ·omega
  ·have:=h4 y hy;omega
 |[],[],_,_,_,h=>h.elim
 |[],_::_::_,_,_,_,h=>by simp [Seg]at h
 |[],[_],[],_,_,h=>h.elim
 |[],[_],_::_::_,_,_,h=>by simp [Seg]at h
 |_::_,[],_,_,_,h=>by simp [Seg]at h
 |_::_,_::_,[],_,_,h=>by simp [Seg]at h
theorem Seg.at {P:Int->Int->Int->List Int->Prop} (hlt:∀k a b l,P k a b l->a<b):∀{keys kids:List Int} {ls:List (List Int)} {lo hi:Int},Seg P lo hi keys kids ls ->
  ∀(j:Nat) (k:Int) (lj:List Int),kids[j]?=some k->ls[j]?=some lj->lo<=fr keys lo j/\up keys hi j<=hi/\P k (fr keys lo j) (up keys hi j) lj
 |[],[k],[l],lo,hi,h,j,k',lj,hj,nC=>by
  cases j with
  |zero=>
   simp only [List.getElem?_cons_zero,iE]at hj nC
   subst hj nC
   exact⟨by simp [fr],by simp [up],by simpa [fr,up,Seg] using h⟩
  |succ j=>simp at hj
 |key::keys,k::kids,l::ls,lo,hi,h,j,k',lj,hj,nC=>by
  have h1:=hlt _ _ _ _ h.1
  have h2:=h.2.bounds hlt
  cases j with
  |zero=>
   simp only [List.getElem?_cons_zero,iE]at hj nC
   subst hj nC
   exact⟨by simp [fr],by simp [up];omega,by simpa [fr,up] using h.1⟩
  |succ j=>
   obtain⟨g1,g2,g3⟩:=h.2.at hlt j k' lj (by simpa using hj) (by simpa using nC)
   rw [IW,Im]
   exact⟨af,g2,g3⟩
 |[],[],_,_,_,h,_,_,_,_,_=>h.elim
 |[],_::_::_,_,_,_,h,_,_,_,_,_=>by simp [Seg]at h
 |[],[_],[],_,_,h,_,_,_,_,_=>h.elim
 |[],[_],_::_::_,_,_,h,_,_,_,_,_=>by simp [Seg]at h
 |_::_,[],_,_,_,h,_,_,_,_,_=>by simp [Seg]at h
 |_::_,_::_,[],_,_,h,_,_,_,_,_=>by simp [Seg]at h
theorem Seg.mono {P':Int->Int->Int->List Int->Prop}:∀{keys kids:List Int} {ls:List (List Int)} {lo hi:Int},Seg P lo hi keys kids ls->(∀k a b l,l∈ls->P k a b l->P' k a b l)->Seg P' lo hi keys kids ls
 |[],[k],[l],_,_,h,hp=>hp _ _ _ _ bt h
 |key::keys,k::kids,l::ls,_,_,h,hp=>⟨hp _ _ _ _ bt h.1,h.2.mono fun k a b l' hl=>hp k a b l' (by simp [hl])⟩
 |[],[],_,_,_,h,_=>h.elim
 |[],_::_::_,_,_,_,h,_=>by simp [Seg]at h
 |[],[_],[],_,_,h,_=>h.elim
 |[],[_],_::_::_,_,_,h,_=>by simp [Seg]at h
 |_::_,[],_,_,_,h,_=>by simp [Seg]at h
 |_::_,_::_,[],_,_,h,_=>by simp [Seg]at h
theorem Gm (key:Int) (keys:List Int) (x:Int):aZ (key::keys) x=if key<=x then aZ keys x+1 else 0:=by
 unfold aZ
 by_cases h:key<=x
 ·rw [ar h,List.takeWhile_cons_of_pos (by simpa using h),fR]
 ·rw [ai h,List.takeWhile_cons_of_neg (by simpa using h)];rfl
theorem Seg.zip (hlt:∀k a b l,P k a b l->a<b) {x:Int}:∀{keys kids:List Int} {ls:List (List Int)} {lo hi:Int},Seg P lo hi keys kids ls->lo<=x->x<hi ->
  ∃(k a b:Int) (l:List Int) (L1 L2:List (List Int)),kids[aZ keys x]?=some k/\P k a b l/\a<=x/\x<b/\lo<=a/\b<=hi/\ls=L1++l::L2/\aZ keys x<=keys.length /\
   (∀(P':Int->Int->Int->List Int->Prop) (l':List Int),(∀k a b l,l∈L1++L2->P k a b l->P' k a b l)->P' k a b l'->Seg P' lo hi keys kids (L1++l'::L2)) /\
   (∀(P':Int->Int->Int->List Int->Prop) (l1 l2:List Int) (more key:Int),(∀k a b l,l∈L1++L2->P k a b l->P' k a b l)->P' k a key l1->P' more key b l2 ->
    Seg P' lo hi (keys.take (aZ keys x)++key::keys.drop (aZ keys x)) (kids.take (aZ keys x+1)++more::kids.drop (aZ keys x+1)) (L1++l1::l2::L2))
 |[],[k],[l],lo,hi,h,h1,h2=>⟨k,lo,hi,l,[],[],rfl,h,h1,h2,Int.le_refl _,Int.le_refl _,rfl,kT _,fun P' l' _ h=>h,fun P' l1 l2 more key _ g1 g2=>⟨g1,g2⟩⟩
 |key::keys,k::kids,l::ls,lo,hi,h,h1,h2=>by
  rw [Gm]
  by_cases hk:key<=x
  ·rw [ar hk]
   have:=hlt _ _ _ _ h.1
   obtain⟨k',a,b,l',L1,L2,e1,e2,e3,e4,e5,e6,rfl,e8,e9,e10⟩:=h.2.zip hlt hk h2
   refine⟨k',a,b,l',l::L1,L2,by simpa using e1,e2,e3,e4,af,e6,rfl,by simp;omega,fun P' l'' g1 g2=>?_,fun P' l1 l2 more tE g1 g2 g3=>?_⟩
   ·exact⟨g1 _ _ _ _ bt h.1,e9 P' l'' (fun k a b l hl=>g1 k a b l (by simp at hl ⊢;exact .inr hl)) g2⟩
   ·have:=e10 P' l1 l2 more tE (fun k a b l hl=>g1 k a b l (by simp at hl ⊢;exact .inr hl)) g2 g3
    rw [List.take_succ_cons,List.take_succ_cons,List.drop_succ_cons,List.drop_succ_cons]
    exact⟨g1 _ _ _ _ bt h.1,this⟩
  ·rw [ai hk]
   have hb:=h.2.bounds hlt
   refine⟨k,lo,key,l,[],ls,rfl,h.1,h1,af,Int.le_refl _,af,rfl,bt,fun P' l' g1 g2=>?_,fun P' l1 l2 more tE g1 g2 g3=>?_⟩
   ·exact⟨g2,h.2.mono fun k a b l hl=>g1 k a b l (by simpa using hl)⟩
   ·exact⟨g2,g3,h.2.mono fun k a b l hl=>g1 k a b l (by simpa using hl)⟩
 |[],[],_,_,_,h,_,_=>h.elim
 |[],_::_::_,_,_,_,h,_,_=>by simp [Seg]at h
 |[],[_],[],_,_,h,_,_=>h.elim
 |[],[_],_::_::_,_,_,h,_,_=>by simp [Seg]at h
 |_::_,[],_,_,_,h,_,_=>by simp [Seg]at h
 |_::_,_::_,[],_,_,h,_,_=>by simp [Seg]at h
theorem Seg.part {keys kids:List Int} {ls:List (List Int)} {lo hi:Int} (h:Seg P lo hi keys kids ls) (h4:keys.length=4) :
  Seg P lo (keys.getD 1 0) (keys.take 1) (kids.take 2) (ls.take 2)/\Seg P (keys.getD 1 0) hi (keys.drop 2) (kids.drop 2) (ls.drop 2):=by
 have hl:=h.len
 match keys,kids,ls,h4,hl,h with
 |[a,b,c,d],[k1,k2,k3,k4,k5],[l1,l2,l3,l4,l5],_,_,h=>
  obtain⟨g1,g2,g3,g4,g5⟩:=h
  exact⟨⟨g1,g2⟩,g3,g4,g5⟩
end
section
variable {x e:aA} {lo hi n:Int} {a b c l E:List aA} {L L':List Int} {d:Nat} {t t':Tr}
def ir (a b:List aA):Prop:=aW a/\aW b/\∀k,look a k=look b k
theorem ir.refl (h:aW a):ir a a:=⟨h,h,fun _=>rfl⟩
theorem ir.trans (h:ir a b) (h':ir b c):ir a c:=⟨h.1,h'.2.1,fun k=>(h.2.2 k).trans (h'.2.2 k)⟩
theorem ir.symm (h:ir a b):ir b a:=⟨h.2.1,h.1,fun k=>(h.2.2 k).symm⟩
theorem ir.perm (h:a.Perm b) (ha:aW a):ir a b:=⟨ha,fun e he=>ha e (h.mem_iff.2 he),fun k=>oV h ha.dD k⟩
theorem ir.append {d:List aA} (h:ir a b) (h':ir c d):ir (a++c) (b++d):=
 ⟨bq.2 ⟨h.1,h'.1⟩,bq.2 ⟨h.2.1,h'.2.1⟩,fun k=>by rw [lZ h.1.dD h'.1.dD,lZ h.2.1.dD h'.2.1.dD,h.2.2,h'.2.2]⟩
theorem Cv (h:aW l) (hx:x.is.Good):ir (ins l x) (x::l):=by
 refine⟨jQ h hx,fun e he=>by rcases eZ.1 he with rfl|he;exact hx;exact h e he,fun k=>?_⟩
 rw [oX h.dD (.inr hx)]
 simp only [look]
 rw [join_comm (cX h.dD k) (.inr hx)]
theorem ir.small (h:ir a b):Small a↔Small b:=by
 unfold Small;constructor <;> intro hs k
 ·rw [<-h.2.2];exact hs k
 ·rw [h.2.2];exact hs k
theorem FA (h:Small (a++b)) (g:aW (a++b)):Small a:=fun k=>Int.le_trans (IG (bq.1 g).1.dD (bq.1 g).2.dD k) (h k)
theorem rO (h:Small c) (g:aW c) (hp:(a++b).Perm c):Small a:=
 FA ((mZ hp (fun e he=> .inr (g e (hp.mem_iff.1 he)))).2 h) fun e he=>g e (hp.mem_iff.1 he)
theorem jX.good (h:jX e):e.is.Good:=(cp h.2.1 h.1).1
theorem jX.le (h:jX e):e.is.c<=1073741824:=(cp h.2.1 h.1).2
theorem Ce (hr:vp l) (he:jX e) (hs:Small (e::l)):xM l e=some (ins l e)/\Checked (ins l e)/\(ins l e).length<=l.length+1:=by
 have h1:(look l e.key).c+e.is.c<=1073741824:=by
  have:=hs e.key
  simp only [look,ar trivial,dJ]at this
  omega
 have h2:=xZ hr.1 he.le
 rw [ar h1]at h2
 refine⟨?_,rh hr.1 hr.2.1 he.good h1,DU h2⟩
 unfold xM
 rw [ar ⟨hr,he⟩,h2]
theorem JQ (hl:∀e∈l,lo<=e.key/\e.key<hi) (hx:lo<=x.key/\x.key<hi):∀e∈ins l x,lo<=e.key/\e.key<hi:=fun e he=>by
 rcases qZ he with h|⟨z,hz,hk⟩
 ·rw [h];exact hx
 ·rw [<-hk];exact hl z hz
theorem Gq (hl:dF l lo hi) (hx:lo<=x.key/\x.key<hi) (hc:Checked (ins l x)):dF (ins l x) lo hi:=⟨hc,JQ hl.2.1 hx,jI hl.2.2⟩
theorem dF.row (h:dF l lo hi) (h0:0<=lo) (h1:hi<=1099511627776) (hl:l.length<=20):vp l:=⟨h.2.2,h.1,fun e he=>by have:=h.2.1 e he;omega,hl⟩
theorem Mj:ins l x≠[]:=by
 cases l with
 |nil=>simp [ins]
 |cons e l=>unfold ins;split <;> (try split) <;> simp
def CU (x:Nd):Nat:=if x.leaf=true then max 3 x.aF.length else x.buf.length
def UX (t:Tr) (m:Int):Nat:=match t.dm m with|none=>0|some x=>CU x
def wt (t:Tr) (l:List Int):Nat:=(l.map (UX t)).sum
theorem lg (t:Tr) (a b:List Int):wt t (a++b)=wt t a+wt t b:=by simp [wt]
theorem mE (t:Tr) (n:Int) (b:List Int):wt t (n::b)=UX t n+wt t b:=by simp [wt]
theorem pD {l:List Int} (h:∀m∈l,t'.dm m=t.dm m):wt t' l=wt t l:=by
 unfold wt
 congr 1
 exact List.map_congr_left fun m hm=>by unfold UX;rw [h m hm]
theorem zE {f g:Int->List aA}:∀{l:List Int},(∀m∈l,f m=g m)->l.flatMap f=l.flatMap g
 |[],_=>rfl
 |a::l,h=>by rw [gI,gI,h a bt,zE fun m hm=>h m (by simp [hm])]
theorem of_same {l:List Int} (h:∀m∈l,t'.dm m=t.dm m):l.flatMap t'.of=l.flatMap t.of:=
 zE fun m hm=>by unfold Tr.of;rw [h m hm]
theorem ng {x:Nd} (h:t.dm n=some x):t.of n=x.aF++x.buf:=by unfold Tr.of;rw [h]
theorem nY {x:Nd} (h:t.dm n=some x):UX t n=CU x:=by unfold UX;rw [h]
structure Prog (t t':Tr) (L L':List Int) (E:List aA) (d:Nat):Prop where
 root:t'.root=t.root
 Md:t.nodes.length<=t'.nodes.length
 Ge:t'.nodes.length<=t.nodes.length+d
 old:∀m:Int,m∉L->m<t.nodes.length->t'.dm m=t.dm m
 mem:∀m:Int,m∈L'↔m∈L\/((t.nodes.length:Int)<=m/\m<t'.nodes.length)
 nd:L'.Nodup
 ev:ir (L'.flatMap t'.of) (E++L.flatMap t.of)
 wt:wt t' L'<=wt t L+E.length
theorem Prog.refl (hn:L.Nodup) (hg:aW (L.flatMap t.of)):Prog t t L L [] 0:=
 ⟨rfl,kT _,kT _,fun _ _ _=>rfl,fun m=>⟨.inl,fun h=>h.elim id fun h=>af⟩,hn,ir.refl hg,kT _⟩
theorem Prog.trans {t1 t2:Tr} {L1 L2:List Int} {E1 E2:List aA} {d1 d2:Nat} (h1:Prog t t1 L L1 E1 d1) (h2:Prog t1 t2 L1 L2 E2 d2):Prog t t2 L L2 (E1++E2) (d1+d2):=by
 have a0:=h1.Md
 have a1:=h1.Ge
 have b0:=h2.Md
 have b1:=h2.Ge
 refine⟨h2.root.trans h1.root,af,af,fun m hm hl=>?_,fun m=>?_,h2.nd,?_,?_⟩
 ·rw [h2.old m (fun h=>by rcases (h1.mem m).1 h with h|h;exact hm h;omega) af,h1.old m hm hl]
 ·rw [h2.mem,h1.mem]
  constructor
  ·rintro((h|h)|h)
   ·exact .inl h
   ·exact .inr ⟨h.1,af⟩
   ·exact .inr ⟨af,h.2⟩
  ·rintro(h|h)
   ·exact .inl (.inl h)
   ·by_cases hm:m<t1.nodes.length
    ·exact .inl (.inr ⟨h.1,hm⟩)
    ·exact .inr ⟨af,h.2⟩
 ·refine(h2.ev.trans ((ir.refl (bq.1 h2.ev.2.1).1).append h1.ev)).trans (ir.perm ?_ ?_)
  ·rw [<-jn]
   exact List.Perm.append_right _ (List.perm_append_comm)
  ·exact bq.2 ⟨(bq.1 h2.ev.2.1).1,h1.ev.2.1⟩
 ·have:=h1.wt
  have:=h2.wt
  rw [eO];omega
def Z8 (a b:aA):Nat:=List.count a [b]
theorem pj (a b:aA) (l:List aA):List.count a (b::l)=Z8 a b+List.count a l:=List.count_append (l₁:=[b]) (l₂:=l)
theorem Prog.small {F:List aA} (h:Prog t t' L L' E d) (gF:aW F) (hs:Small (E++F++L.flatMap t.of)):Small (F++L'.flatMap t'.of):=by
 have e1:=(ir.refl gF).append h.ev
 refine(e1.trans (ir.perm (b:=E++F++L.flatMap t.of) ?_ e1.2.1)).small.2 hs
 refine zV.2 fun a=>?_
 simp only [List.count_append];omega
theorem Prog.bP (h:Prog t t' L L' E d):aW (L'.flatMap t'.of):=h.ev.1
theorem Prog.more {d':Nat} (h:Prog t t' L L' E d) (hd:d<=d'):Prog t t' L L' E d':=⟨h.root,h.Md,by have:=h.Ge;omega,h.old,h.mem,h.nd,h.ev,h.wt⟩
theorem Prog.part {l l' A B:List Int} (h:Prog t t' l l' E d) (hn:(A++(l++B)).Nodup) (hlt:∀m∈A++B,m<(t.nodes.length:Int)) (hg:aW ((A++B).flatMap t.of)):Prog t t' (A++(l++B)) (A++(l'++B)) E d/\(∀m∈A++B,t'.dm m=t.dm m):=by
 have Cm:=hn
 rw [List.nodup_append,List.nodup_append]at Cm
 obtain⟨n1,⟨n2,n3,n4⟩,n5⟩:=Cm
 have hoff:∀m∈A++B,m∉l:=fun m hm hl=>by
  rcases kH.1 hm with hm|hm
  ·exact n5 m hm m (by simp [hl]) rfl
  ·exact n4 m hl m hm rfl
 have hsame:∀m∈A++B,t'.dm m=t.dm m:=fun m hm=>h.old m (hoff m hm) (hlt m hm)
 have hA:∀m∈A,t'.dm m=t.dm m:=fun m hm=>hsame m (by simp [hm])
 have hB:∀m∈B,t'.dm m=t.dm m:=fun m hm=>hsame m (by simp [hm])
 have hl':∀m∈A++B,m∉l':=fun m hm hl=>by
  rcases (h.mem m).1 hl with h'|h'
  ·exact hoff m hm h'
  ·have:=hlt m hm;omega
 refine⟨⟨h.root,h.Md,h.Ge,fun m hm hl=>h.old m (fun hm'=>hm (by simp [hm'])) hl,fun m=>?_,?_,?_,?_⟩,hsame⟩
 ·simp only [kH]
  rw [h.mem]
  constructor
  ·rintro(h|(h|h)|h)
   ·exact .inl (.inl h)
   ·exact .inl (.inr (.inl h))
   ·exact .inr h
   ·exact .inl (.inr (.inr h))
  ·rintro((h|h|h)|h)
   ·exact .inl h
   ·exact .inr (.inl (.inl h))
   ·exact .inr (.inr h)
   ·exact .inr (.inl (.inr h))
 ·rw [List.nodup_append,List.nodup_append]
  refine⟨n1,⟨h.nd,n3,fun a ha b hb hab=>?_⟩,fun a ha b hb hab=>?_⟩
  ·subst hab;exact hl' a (by simp [hb]) ha
  ·subst hab
   rcases kH.1 hb with hb|hb
   ·exact hl' a (by simp [ha]) hb
   ·exact n5 a ha a (by simp [hb]) rfl
 ·simp only [sF]at hg ⊢
  rw [of_same hA,of_same hB]
  have gA:=(bq.1 hg).1
  have gB:=(bq.1 hg).2
  have e1:=(ir.refl gA).append (h.ev.append (ir.refl gB))
  refine e1.trans (ir.perm ?_ e1.2.1)
  refine zV.2 fun a=>?_
  simp only [List.count_append];omega
 ·have:=h.wt
  rw [lg,lg,lg,lg,pD hA,pD hB];omega
theorem Prog.one {x y:Nd} (hx:t.dm n=some x) (hn:(n::L).Nodup) (hg:aW (L.flatMap t.of)) (he:ir (y.aF++y.buf) (E++(x.aF++x.buf))) (hw:CU y<=CU x+E.length) :
  Prog t (cJ t n y) (n::L) (n::L) E 0/\∀m,m≠n->(cJ t n y).dm m=t.dm m:=by
 have h0:=(xA hx).1
 have hne:∀m,m≠n->(cJ t n y).dm m=t.dm m:=fun m hm=>lG h0 hm
 have hL:∀m∈L,(cJ t n y).dm m=t.dm m:=fun m hm=>hne m fun e=>by subst e;exact(List.nodup_cons.1 hn).1 hm
 refine⟨⟨rfl,by rw [iH];omega,by rw [iH];omega,fun m hm _=>hne m fun e=>hm (by simp [e]),fun m=>?_,hn,?_,?_⟩,hne⟩
 ·rw [iH];exact⟨.inl,fun h=>h.elim id fun h=>af⟩
 ·rw [gI,gI,ng (tN hx),ng hx,of_same hL,<-jn]
  exact he.append (ir.refl hg)
 ·rw [mE,mE,nY (tN hx),nY hx,pD hL];omega
end
section
variable {e:aA} {n lo hi:Int} {ls:List (List Int)} {l:List Int} {h:Nat} {x:Nd} {t:Tr}
structure AP (t:Tr) (h:Nat) (n:Int) (x:Nd) (lo hi:Int) (ls:List (List Int)):Prop where
 pos:0<h
 at':t.dm n=some x
 leaf:x.leaf=false
 aF:x.aF=[]
 two:2<=x.kids.length
 buf:dF x.buf lo hi
 Iw:Seg (Sub t h) lo hi x.keys x.kids ls
 nd:(n::ls.flatten).Nodup
theorem sub_lt:∀k a b l,Sub t h k a b l->a<b:=fun _ _ _ _ h=>h.lt
theorem Sub.inn (hs:Sub t (h+1) n lo hi l) (hp:0<h) (hn:l.Nodup):∃x ls,AP t h n x lo hi ls/\l=n::ls.flatten/\x.kids.length<=4/\x.buf.length<=8:=by
 obtain⟨x,hx,hlt,⟨h0,_⟩|⟨_,h1,h2,ls,h3,rfl,h4⟩⟩:=hs
 ·omega
 ·exact⟨x,ls,⟨hp,hx,h1,h2.1,h2.2.1,h2.2.2.2.2.2,Lm (by have:=h2.2.2.2.1;omega) h3 fun j k lj hj nC=>(h4 j k lj hj nC).2.2,hn⟩,rfl,h2.2.2.1,h2.2.2.2.2.1⟩
theorem AP.sub (hi':AP t h n x lo hi ls) (h4:x.kids.length<=4) (h8:x.buf.length<=8):Sub t (h+1) n lo hi (n::ls.flatten):=by
 have hl:=hi'.Iw.len
 exact⟨x,hi'.at',(hi'.Iw.bounds sub_lt).1, .inr ⟨hi'.pos,hi'.leaf,⟨hi'.aF,hi'.two,h4,af,h8,hi'.buf⟩,ls,af,rfl,hi'.Iw.at sub_lt⟩⟩
theorem AP.mem (hi':AP t h n x lo hi ls):∀m∈n::ls.flatten,0<=m/\m<(t.nodes.length:Int):=fun m hm=>by
 rcases eZ.1 hm with rfl|hm
 ·exact xA hi'.at'
 ·obtain⟨lj,nC,CP⟩:=List.mem_flatten.1 hm
  obtain⟨j,hj,rfl⟩:=kS nC
  have hl:=hi'.Iw.len
  have hjk:j<x.kids.length:=af
  obtain⟨y,hy⟩:=(hi'.Iw.at sub_lt j _ _ (oG hjk) (oG hj)).2.2.mem.2 m CP
  exact xA hy
theorem AP.keys (hi':AP t h n x lo hi ls):x.keys.Pairwise (·<·):=(hi'.Iw.bounds sub_lt).2.1
theorem AP.FE (hi':AP t h n x lo hi ls) {B:List aA} (hB:dF B lo hi):AP (cJ t n { x with buf:=B }) h n { x with buf:=B } lo hi ls:=by
 have h0:=(xA hi'.at').1
 refine⟨hi'.pos,tN hi'.at',hi'.leaf,hi'.aF,hi'.two,hB,hi'.Iw.mono fun k a b l hl hs=>hs.frame (yL _ _ _) fun m hm=>lG h0 fun e=>?_,hi'.nd⟩
 subst e
 exact(List.nodup_cons.1 hi'.nd).1 (List.mem_flatten.2 ⟨l,hl,hm⟩)
def I8 (put:Tr->Int->aA->Option (Tr×Int×Int)) (h d:Nat):Prop:=∀(t:Tr) (n lo hi:Int) (l:List Int) (e:aA),Sub t h n lo hi l->l.Nodup->jX e->lo<=e.key->e.key<hi->0<=lo->hi<=1099511627776 ->
 aW (l.flatMap t.of)->Small (e::l.flatMap t.of)->t.nodes.length+d<=1000000000000->∃t' more key l',put t n e=some (t',more,key)/\Prog t t' l l' [e] d /\
  ((more = -1/\Sub t' h n lo hi l')\/(0<=more/\∃l1 l2,l'=l1++l2/\Sub t' h n lo key l1/\Sub t' h more key hi l2/\∀x,t'.dm n=some x->x.leaf=true->x.aF≠[]))
theorem ru {L1 L2:List (List Int)}:n::(L1++l::L2).flatten=(n::L1.flatten)++(l++L2.flatten):=bt
theorem PH {put:Tr->Int->aA->Option (Tr×Int×Int)} {d:Nat} (hp:I8 put h d) (hi':AP t h n x lo hi ls) (he:jX e) (h1:lo<=e.key) (h2:e.key<hi) (h0:0<=lo) (hh:hi<=1099511627776)
  (hg:aW ((n::ls.flatten).flatMap t.of)) (hs:Small (e::(n::ls.flatten).flatMap t.of)) (hn:t.nodes.length+d<=1000000000000) (h4:x.kids.length<=4) :
  ∃k t1 more key t2 y IE,x.kids[aZ x.keys e.key]?=some k/\put t k e=some (t1,more,key) /\
   Gn t1 n (aZ x.keys e.key) more key=some t2/\AP t2 h n y lo hi IE/\y.kids.length<=x.kids.length+1/\y.buf=x.buf/\Prog t t2 (n::ls.flatten) (n::IE.flatten) [e] d:=by
 have hlen:=hi'.Iw.len
 obtain⟨k,a,b,l,L1,L2,e1,e2,e3,e4,e5,e6,rfl,e8,e9,e10⟩:=hi'.Iw.zip sub_lt h1 h2
 have hnd:=hi'.nd
 have hmem:=hi'.mem
 rw [ru]at hnd hg hs hmem
 have hnl:l.Nodup:=(List.nodup_append.1 (List.nodup_append.1 hnd).2.1).1
 have hgl:aW (l.flatMap t.of):=by
  simp only [sF]at hg
  exact(bq.1 (bq.1 hg).2).1
 have hgA:aW (((n::L1.flatten)++L2.flatten).flatMap t.of):=by
  simp only [sF]at hg ⊢
  exact bq.2 ⟨(bq.1 hg).1,(bq.1 (bq.1 hg).2).2⟩
 have hsl:Small (e::l.flatMap t.of):=by
  refine rO (b:=((n::L1.flatten)++L2.flatten).flatMap t.of) hs (fun y hy=>by rcases eZ.1 hy with rfl|hy;exact he.good;exact hg y hy) ?_
  rw [List.cons_append]
  refine List.Perm.cons _ ?_
  simp only [sF]
  rw [<-jn,<-jn]
  exact List.Perm.append_right _ List.perm_append_comm
 obtain⟨t1,more,key,l',p1,p2,p3⟩:=hp t k a b l e e2 hnl he e3 e4 af af hgl hsl hn
 obtain⟨q1,q2⟩:=p2.part hnd (fun m hm=>(hmem m (by rcases kH.1 hm with hm|hm;exact List.mem_append_left _ hm;exact List.mem_append_right _ (List.mem_append_right _ hm))).2) hgA
 have hx1:t1.dm n=some x:=(q2 n bt).trans hi'.at'
 have yi:∀k a b l,l∈L1++L2->Sub t h k a b l->Sub t1 h k a b l:=fun k a b l hl hs=>hs.frame p2.root fun m hm=>q2 m (by
  rcases kH.1 hl with hl|hl
  ·exact List.mem_append_left _ (List.mem_cons_of_mem _ (List.mem_flatten.2 ⟨l,hl,hm⟩))
  ·exact List.mem_append_right _ (List.mem_flatten.2 ⟨l,hl,hm⟩))
 rcases p3 with ⟨rfl,g1⟩|⟨g0,l1,l2,rfl,g1,g2,-⟩
 ·refine⟨k,t1,-1,key,t1,x,L1++l'::L2,e1,p1,by unfold Gn;rw [ar af],?_,af,rfl,?_⟩
  ·exact⟨hi'.pos,hx1,hi'.leaf,hi'.aF,hi'.two,hi'.buf,e9 (Sub t1 h) l' yi g1,by rw [ru];exact q1.nd⟩
  ·rw [ru,ru];exact q1
 ·have hfl:n::(L1++l1::l2::L2).flatten=(n::L1.flatten)++((l1++l2)++L2.flatten):=bt
  have GA:=q1.nd
  rw [<-hfl]at GA
  have hn0:=(xA hx1).1
  have hseg:=e10 (Sub t1 h) l1 l2 more key yi g1 g2
  refine⟨k,t1,more,key,cJ t1 n { x with keys:=x.keys.take (aZ x.keys e.key)++key::x.keys.drop (aZ x.keys e.key),kids:=x.kids.take (aZ x.keys e.key+1)++more::x.kids.drop (aZ x.keys e.key+1) },
   {x with keys:=x.keys.take (aZ x.keys e.key)++key::x.keys.drop (aZ x.keys e.key),kids:=x.kids.take (aZ x.keys e.key+1)++more::x.kids.drop (aZ x.keys e.key+1) },L1++l1::l2::L2,e1,p1,?_,?_,?_,rfl,?_⟩
  ·unfold Gn
   rw [ai af,hx1]
   simp only
   rw [ar ⟨e8,af,af,af⟩]
  ·refine⟨hi'.pos,tN hx1,hi'.leaf,hi'.aF,?_,hi'.buf,hseg.mono fun k a b l hl hs=>hs.frame (yL _ _ _) fun m hm=>lG hn0 fun e=>?_,GA⟩
   ·have:=hi'.two;simp;omega
   ·subst e
    exact(List.nodup_cons.1 GA).1 (List.mem_flatten.2 ⟨l,hl,hm⟩)
  ·simp;omega
  ·rw [hfl,ru]
   have hgq:aW ((L1++l1::l2::L2).flatten.flatMap t1.of):=by
    have:=q1.ev.1
    rw [<-hfl,gI]at this
    exact(bq.1 this).2
   have hgx:aW (x.aF++x.buf):=by
    have:=q1.ev.1
    rw [<-hfl,gI,ng hx1]at this
    exact(bq.1 this).1
   have:=(Prog.one (y:={ x with keys:=x.keys.take (aZ x.keys e.key)++key::x.keys.drop (aZ x.keys e.key),kids:=x.kids.take (aZ x.keys e.key+1)++more::x.kids.drop (aZ x.keys e.key+1) }) (E:=[]) hx1 GA hgq (ir.refl hgx) (by unfold CU;simp)).1
   rw [hfl]at this
   have:=q1.trans this
   simpa using this
theorem Dd {h:Nat} {n:Int} {lo hi:Int} {ls:List (List Int)} (h0:0<=lo) (hh:hi<=1099511627776):∀(rs:List aA) (t:Tr) (x:Nd),AP t h n x lo hi ls->(∀e∈rs,jX e/\lo<=e.key/\e.key<hi)->x.buf.length+rs.length<=20 ->
  aW ((n::ls.flatten).flatMap t.of)->Small (rs++(n::ls.flatten).flatMap t.of)->∃t' y,rs.foldlM (oL n) t=some t'/\AP t' h n y lo hi ls/\y.kids=x.kids/\y.buf.length<=x.buf.length+rs.length/\Prog t t' (n::ls.flatten) (n::ls.flatten) rs 0
 |[],t,x,hi',_,_,hg,_=>⟨t,x,rfl,hi',rfl,bt,Prog.refl hi'.nd hg⟩
 |e::rs,t,x,hi',he,hl,hg,hs=>by
  obtain⟨h1,h2,h3⟩:=he e bt
  have WQ:aW (x.aF++x.buf)/\aW (ls.flatten.flatMap t.of):=by
   rw [gI,ng hi'.at']at hg
   exact bq.1 hg
  have hgr:aW (e::rs):=fun y hy=>(he y hy).1.good
  have Mz:Small (e::x.buf):=by
   refine rO (b:=rs++(x.aF++ls.flatten.flatMap t.of)) hs (bq.2 ⟨hgr,hg⟩) ?_
   rw [gI,ng hi'.at']
   refine zV.2 fun a=>?_
   simp only [List.count_append,pj];omega
  obtain⟨g1,g2,g3⟩:=Ce (hi'.buf.row h0 hh (by simp at hl;omega)) h1 Mz
  have hi2:=hi'.FE (Gq hi'.buf ⟨h2,h3⟩ g2)
  have gb:aW x.buf:=hi'.buf.1.bP
  have ev:ir (x.aF++ins x.buf e) ([e]++(x.aF++x.buf)):=by
   have e1:=(ir.refl (bq.1 WQ.1).1).append (Cv gb h1.good)
   refine e1.trans (ir.perm ?_ e1.2.1)
   refine zV.2 fun a=>?_
   simp only [List.count_append,pj,List.count_nil];omega
  have pr:=(Prog.one (y:={ x with buf:=ins x.buf e }) (E:=[e]) hi'.at' hi'.nd WQ.2 ev (by unfold CU;simp only [hi'.leaf];simpa using g3)).1
  obtain⟨t',y,k1,k2,k3,k4,k5⟩:=Dd h0 hh rs _ _ hi2 (fun y hy=>he y (by simp [hy])) (by show (ins x.buf e).length+rs.length<=20;simp at hl;omega) pr.bP (pr.small (F:=rs) (fun y hy=>hgr y (by simp [hy])) (by simpa using hs))
  refine⟨t',y,?_,k2,k3,by simp at k4 ⊢;omega,by simpa using pr.trans k5⟩
  rw [List.foldlM_cons]
  have:oL n t e=some (cJ t n { x with buf:=ins x.buf e }):=by unfold oL;rw [hi'.at'];simp only;rw [g1];rfl
  rw [this];exact k1
theorem Es {pre:List aA} {ds:List aA} (h:aX (pre++e::ds)):(pre++e::ds).filter (fun d=>decide (e.key<d.key))=ds:=by
 have h1:=List.pairwise_append.1 h
 have h2:=rE.1 h1.2.1
 rw [sG,sH bt,List.filter_eq_nil_iff.2 fun y hy=>?_,List.nil_append,List.filter_eq_self.2 fun y hy=>?_]
 ·simpa using h2.1 y hy
 ·have:=h1.2.2 y hy e bt;simp;omega
theorem EH {put:Tr->Int->aA->Option (Tr×Int×Int)} {h d:Nat} {n:Int} {lo hi:Int} (hp:I8 put h d) (h0:0<=lo) (hh:hi<=1099511627776) {all:List aA} (hr:aX all) :
  ∀(ds pre:List aA) (t:Tr) (x:Nd) (ls:List (List Int)),all=pre++ds->AP t h n x lo hi ls->(∀e∈ds,jX e/\lo<=e.key/\e.key<hi)->x.kids.length<=4->x.buf.length+ds.length<=20 ->
  aW ((n::ls.flatten).flatMap t.of)->Small (ds++(n::ls.flatten).flatMap t.of)->t.nodes.length+ds.length*d<=1000000000000 ->
  ∃t' y IE,sP put n all ds t=some t'/\AP t' h n y lo hi IE/\y.kids.length<=5/\y.buf.length<=x.buf.length+(ds.length-1)/\Prog t t' (n::ls.flatten) (n::IE.flatten) ds (ds.length*d)
 |[],pre,t,x,ls,_,hi',_,h4,_,hg,_,_=>⟨t,x,ls,rfl,hi',af,bt,by simpa using Prog.refl hi'.nd hg⟩
 |e::ds,pre,t,x,ls,ha,hi',he,h4,hl,hg,hs,hn=>by
  obtain⟨h1,h2,h3⟩:=he e bt
  have hgr:aW (e::ds):=fun y hy=>(he y hy).1.good
  rw [fR,Nat.add_mul,Nat.one_mul]at hn
  have KV:Small (e::(n::ls.flatten).flatMap t.of):=by
   refine rO (b:=ds) hs (bq.2 ⟨hgr,hg⟩) ?_
   refine zV.2 fun a=>?_
   simp only [List.count_append,pj];omega
  obtain⟨k,t1,more,key,t2,y,IE,p1,p2,p3,p4,p5,p6,p7⟩:=PH hp hi' h1 h2 h3 h0 hh hg KV af h4
  have hs2:Small (ds++(n::IE.flatten).flatMap t2.of):=p7.small (F:=ds) (fun y hy=>hgr y (by simp [hy])) (by simpa using hs)
  have hlen:=p7.Ge
  unfold sP
  rw [hi'.at']
  simp only
  rw [ar ⟨hi'.keys,by have:=hi'.Iw.len;omega,af⟩,p1]
  simp only
  rw [p2]
  simp only
  rw [p3]
  simp only
  rw [p4.at']
  simp only
  by_cases h5:y.kids.length<=4
  ·rw [ar h5]
   obtain⟨t',z,ls2,q1,q2,q3,q4,q5⟩:=EH hp h0 hh hr ds (pre++[e]) t2 y IE (by simp [ha]) p4 (fun y hy=>he y (by simp [hy])) h5 (by rw [p6];simp at hl;omega) p7.bP hs2 af
   refine⟨t',z,ls2,q1,q2,q3,by rw [p6]at q4;simp;omega,?_⟩
   have:=p7.trans q5
   rw [fR,Nat.add_mul,Nat.one_mul,Nat.add_comm]
   simpa using this
  ·rw [ai h5,ha,Es (ha▸hr)]
   obtain⟨t',z,q1,q2,q3,q4,q5⟩:=Dd h0 hh ds t2 y p4 (fun y hy=>he y (by simp [hy])) (by rw [p6];simp at hl;omega) p7.bP hs2
   refine⟨t',z,IE,q1,q2,by rw [q3];omega,by rw [p6]at q4;simp;omega,?_⟩
   have:=(p7.trans q5).more (d':=(e::ds).length*d) (by rw [fR,Nat.add_mul,Nat.one_mul];omega)
   simpa using this
end
section
variable {lo hi n key:Int} {ls:List (List Int)} {l:List aA} {h:Nat} {x:Nd} {t:Tr}
theorem Bx (m:Nat->Nat):∀(k j:Nat),j<k->m j<=m (iV m k)
 |0,_,h=>af
 |k+1,j,h=>by
  unfold iV
  by_cases hj:j=k
  ·subst hj;split <;> omega
  ·have:=Bx m k j af
   split <;> omega
theorem Kj (hk:x.keys.length<=3) (hb:x.buf≠[]):(x.buf.filter fun e=>decide (aZ x.keys e.key=iV (iQ x) 4))≠[]:=fun h=>by
 obtain⟨e,he⟩:=List.exists_mem_of_ne_nil _ hb
 have h1:=Bx (iQ x) 4 (aZ x.keys e.key) (by have:=qX x.keys e.key;omega)
 have h2:iQ x (iV (iQ x) 4)=0:=by unfold iQ at h ⊢;rw [h];rfl
 have h3:0<iQ x (aZ x.keys e.key):=by
  unfold iQ
  exact List.length_pos_of_mem (ju.2 ⟨he,bt⟩)
 omega
theorem LO (l:List aA) (p:aA->Bool):(l.filter fun e=>!p e).length+(l.filter p).length=l.length:=by
 induction l with
 |nil=>rfl
 |cons a l ih=>by_cases h:p a=true <;> simp [h] <;> omega
theorem JD (l:List aA) (p:aA->Bool):(l.filter p++l.filter fun e=>!p e).Perm l:=List.filter_append_perm p l
theorem dF.filter (h:dF l lo hi) (p:aA->Bool):dF (l.filter p) lo hi:=⟨fun e he=>h.1 e (ju.1 he).1,fun e he=>h.2.1 e (ju.1 he).1,h.2.2.filter _⟩
theorem dF.Vt (h:dF l lo hi) (h0:0<=lo) (hh:hi<=1099511627776):∀e∈l,jX e/\lo<=e.key/\e.key<hi:=fun e he=>by
 have h1:=h.1 e he
 have h2:=h.2.1 e he
 exact⟨⟨h1.1,h1.2,af,af⟩,h2.1,h2.2⟩
theorem J7 {put:Tr->Int->aA->Option (Tr×Int×Int)} {d:Nat} (hp:I8 put h d) (h0:0<=lo) (hh:hi<=1099511627776) (hi':AP t h n x lo hi ls)
  (h4:x.kids.length<=4) (hb:x.buf≠[]) (h9:x.buf.length<=9) (hg:aW ((n::ls.flatten).flatMap t.of)) (hs:Small ((n::ls.flatten).flatMap t.of)) (hn:t.nodes.length+9*d<=1000000000000) :
  ∃t' y IE,ou put t n=some t'/\AP t' h n y lo hi IE/\y.kids.length<=5/\y.buf.length<=8/\Prog t t' (n::ls.flatten) (n::IE.flatten) [] (9*d):=by
 have hlen:=hi'.Iw.len
 obtain⟨p,Q0⟩:∃p:aA->Bool,p=fun e=>decide (aZ x.keys e.key=iV (iQ x) 4):=⟨_,rfl⟩
 have hne:x.buf.filter p≠[]:=by rw [Q0];exact Kj af hb
 have hpl:=LO x.buf p
 have hlp:0<(x.buf.filter p).length:=List.length_pos_iff.2 hne
 have hi1:=hi'.FE (hi'.buf.filter fun e=>!p e)
 have h0n:=(xA hi'.at').1
 have hsame:∀m∈ls.flatten,(cJ t n { x with buf:=x.buf.filter fun e=>!p e }).dm m=t.dm m:=fun m hm=>lG h0n fun e=>by subst e;exact(List.nodup_cons.1 hi'.nd).1 hm
 have ef:(n::ls.flatten).flatMap t.of=(x.aF++x.buf)++ls.flatten.flatMap t.of:=by rw [gI,ng hi'.at']
 have ef1:(n::ls.flatten).flatMap (cJ t n { x with buf:=x.buf.filter fun e=>!p e }).of=(x.aF++x.buf.filter fun e=>!p e)++ls.flatten.flatMap t.of:=by rw [gI,ng hi1.at',of_same hsame]
 have hperm:(x.buf.filter p++(n::ls.flatten).flatMap (cJ t n { x with buf:=x.buf.filter fun e=>!p e }).of).Perm ((n::ls.flatten).flatMap t.of):=by
  rw [ef,ef1]
  have hq:=JD x.buf p
  refine zV.2 fun a=>?_
  have:=zV.1 hq a
  simp only [List.count_append]at this ⊢;omega
 have hg1:aW (x.buf.filter p++(n::ls.flatten).flatMap (cJ t n { x with buf:=x.buf.filter fun e=>!p e }).of):=fun e he=>hg e (hperm.mem_iff.1 he)
 have hs1:=(mZ hperm hg1.dD).2 hs
 have zy:(x.buf.filter p).length*d<=9*d:=Nat.mul_le_mul_right _ af
 obtain⟨t',y,IE,q1,q2,q3,q4,q5⟩:=EH hp h0 hh (all:=x.buf.filter p) (hi'.buf.2.2.filter _) (x.buf.filter p) [] _ _ ls rfl hi1 (fun e he=>hi'.buf.Vt h0 hh e (ju.1 he).1) h4 (by simp only;omega) (bq.1 hg1).2 hs1 (by rw [iH];omega)
 refine⟨t',y,IE,?_,q2,q3,by simp only at q4;omega,?_⟩
 ·unfold ou
  rw [hi'.at']
  simp only
  rw [ar ⟨hi'.keys,af,af,hi'.buf.1⟩]
  rw [Q0]at q1
  exact q1
 ·have l0:=q5.Md
  have l1:=q5.Ge
  rw [iH]at l0 l1
  refine⟨q5.root,l0,af,fun m hm hl=>?_,fun m=>?_,q5.nd,?_,?_⟩
  ·rw [q5.old m hm (by rw [iH];exact hl)]
   exact lG h0n fun e=>hm (by simp [e])
  ·have:=q5.mem m
   rw [iH]at this;exact this
  ·exact q5.ev.trans (ir.perm (by simpa using hperm) hg1)
  ·have hw:=q5.wt
   rw [mE _ n ls.flatten,nY hi1.at',pD hsame]at hw
   rw [mE t,nY hi'.at']
   unfold CU at hw ⊢
   simp only [hi'.leaf]at hw ⊢
   simp at hw ⊢;omega
theorem Pq {es:List aA} (hs:aX es) (t:Nat) (ht:t<es.length) (h:ic es key<=t):key<=es[t].key:=by
 have h1:=(ly (key:=key) hs).2.2 af
 by_cases he:ic es key=t
 ·subst he;exact h1
 ·have:=px.1 hs (ic es key) t af ht af;omega
theorem dF.take (h:dF l lo hi):dF (l.take (ic l key)) lo key:=
 ⟨fun e he=>h.1 e (xP he),fun e he=>by
  obtain⟨i,hi,rfl⟩:=kS he
  rw [fx]at hi
  have:=h.2.1 _ (xP he)
  rw [wH]at this ⊢
  exact⟨this.1,(ly h.2.2).2.1 i af af⟩,h.2.2.sublist (List.take_sublist _ _)⟩
theorem dF.drop (h:dF l lo hi):dF (l.drop (ic l key)) key hi:=
 ⟨fun e he=>h.1 e (vg he),fun e he=>by
  have:=h.2.1 _ (vg he)
  obtain⟨i,hi,rfl⟩:=kS he
  rw [oF]at hi
  rw [List.getElem_drop]at this ⊢
  exact⟨Pq h.2.2 _ af af,this.2⟩,h.2.2.sublist (List.drop_sublist _ _)⟩
theorem Be {X Y:Nd} {A B:List Int} (hx:t.dm n=some x) (hn:(n::(A++B)).Nodup) (hlt:∀m∈A++B,m<(t.nodes.length:Int)) (hg:aW ((n::(A++B)).flatMap t.of))
  (hp:(X.aF++X.buf++(Y.aF++Y.buf)).Perm (x.aF++x.buf)) (hw:CU X+CU Y<=CU x) :
  Prog t (cJ (jo t Y) n X) (n::(A++B)) ((n::A)++(t.nodes.length:Int)::B) [] 1/\(cJ (jo t Y) n X).dm n=some X/\(cJ (jo t Y) n X).dm (t.nodes.length:Int)=some Y/\∀m∈A++B,(cJ (jo t Y) n X).dm m=t.dm m:=by
 have hr:=xA hx
 have k1:(cJ (jo t Y) n X).dm n=some X:=tN (Uj hx)
 have k2:(cJ (jo t Y) n X).dm (t.nodes.length:Int)=some Y:=(lG hr.1 af).trans Ui
 have hl:(cJ (jo t Y) n X).nodes.length=t.nodes.length+1:=by rw [iH,II]
 have hold:∀m:Int,m≠n->m<t.nodes.length->(cJ (jo t Y) n X).dm m=t.dm m:=fun m hm hlm=>by
  rw [lG hr.1 hm]
  unfold Tr.dm jo
  by_cases h0:0<=m
  ·rw [ar h0,ar h0]
   simp only
   rw [zW af]
  ·rw [ai h0,ai h0]
 have tW:=List.nodup_cons.1 hn
 have k3:∀m∈A++B,(cJ (jo t Y) n X).dm m=t.dm m:=fun m hm=>hold m (fun e=>tW.1 (e▸hm)) (hlt m hm)
 have kA:∀m∈A,(cJ (jo t Y) n X).dm m=t.dm m:=fun m hm=>k3 m (by simp [hm])
 have kB:∀m∈B,(cJ (jo t Y) n X).dm m=t.dm m:=fun m hm=>k3 m (by simp [hm])
 refine⟨⟨rfl,af,af,fun m hm hlm=>hold m (fun e=>hm (by simp [e])) hlm,fun m=>?_,?_,?_,?_⟩,k1,k2,k3⟩
 ·rw [hl]
  simp only [List.cons_append,eZ,kH]
  constructor
  ·rintro(h|h|h|h)
   ·exact .inl (.inl h)
   ·exact .inl (.inr (.inl h))
   ·exact .inr af
   ·exact .inl (.inr (.inr h))
  ·rintro((h|h|h)|h)
   ·exact .inl h
   ·exact .inr (.inl h)
   ·exact .inr (.inr (.inr h))
   ·exact .inr (.inr (.inl af))
 ·have hab:=List.nodup_append.1 tW.2
  rw [List.nodup_append]
  refine⟨List.nodup_cons.2 ⟨fun h=>tW.1 (by simp [h]),hab.1⟩,List.nodup_cons.2 ⟨fun h=>by have:=hlt _ (List.mem_append_right A h);omega,hab.2.1⟩,fun a ha b hb e=>?_⟩
  subst e
  rcases eZ.1 ha with rfl|ha <;> rcases eZ.1 hb with rfl|hb
  ·omega
  ·exact tW.1 (by simp [hb])
  ·have:=hlt _ (List.mem_append_left B ha);omega
  ·exact hab.2.2 a ha a hb rfl
 ·have MB:(((n::A)++(t.nodes.length:Int)::B).flatMap (cJ (jo t Y) n X).of).Perm ((n::(A++B)).flatMap t.of):=by
   simp only [sF,gI]
   rw [of_same kA,of_same kB,ng k1,ng k2,ng hx]
   refine zV.2 fun a=>?_
   have:=zV.1 hp a
   simp only [List.count_append]at this ⊢;omega
  have hg2:aW (((n::A)++(t.nodes.length:Int)::B).flatMap (cJ (jo t Y) n X).of):=fun e he=>hg e (MB.mem_iff.1 he)
  exact ir.perm MB hg2
 ·rw [lg,mE,mE,mE,lg,pD kA,pD kB,nY k1,nY k2,nY hx]
  simp;omega
def Left (t':Tr) (h:Nat) (n lo hi more key:Int) (l':List Int):Prop:=(more = -1/\Sub t' h n lo hi l')\/(0<=more/\∃l1 l2,l'=l1++l2/\Sub t' h n lo key l1/\Sub t' h more key hi l2/\∀x,t'.dm n=some x->x.leaf=true->x.aF≠[])
theorem AY (h0:0<=lo) (hh:hi<=1099511627776) (hi':AP t h n x lo hi ls) (h5:x.kids.length<=5) (h8:x.buf.length<=8)
  (hg:aW ((n::ls.flatten).flatMap t.of)) (hn:t.nodes.length<=1000000000000):∃t' more key l',gW t n=some (t',more,key)/\Prog t t' (n::ls.flatten) l' [] 1/\Left t' (h+1) n lo hi more key l':=by
 have hlen:=hi'.Iw.len
 by_cases h4:x.kids.length<=4
 ·refine⟨t,-1,0,n::ls.flatten,?_,(Prog.refl hi'.nd hg).more af, .inl ⟨rfl,hi'.sub h4 h8⟩⟩
  unfold gW
  rw [hi'.at']
  dsimp only
  rw [ai (by rw [hi'.leaf];simp),ar h4]
 ·have hk4:x.keys.length=4:=af
  obtain⟨s1,s2⟩:=hi'.Iw.part hk4
  obtain⟨key,hkey⟩:=bC (x.keys.getD 1 0)
  have hb:=(hi'.Iw.bounds sub_lt).2.2 key (by rw [<-hkey,List.getD_eq_getElem?_getD,oG af];simp)
  have hfl:ls.flatten=(ls.take 2).flatten++(ls.drop 2).flatten:=by rw [<-List.flatten_append,wL]
  have hnd:=hi'.nd
  have hmem:=hi'.mem
  rw [hkey]at s1 s2
  rw [hfl]at hnd hg hmem
  obtain⟨P,k1,k2,k3⟩:=Be (X:=⟨false,[],x.keys.take 1,x.kids.take 2,x.buf.take (ic x.buf key)⟩) (Y:=⟨false,[],x.keys.drop 2,x.kids.drop 2,x.buf.drop (ic x.buf key)⟩) hi'.at' hnd (fun m hm=>(hmem m (by simp at hm ⊢;exact .inr hm)).2) hg
   (by rw [hi'.aF];simp) (by unfold CU;simp [hi'.leaf];omega)
  have yi:∀k a b l,l∈ls->Sub t h k a b l->Sub (cJ (jo t ⟨false,[],x.keys.drop 2,x.kids.drop 2,x.buf.drop (ic x.buf key)⟩) n ⟨false,[],x.keys.take 1,x.kids.take 2,x.buf.take (ic x.buf key)⟩) h k a b l:=
   fun k a b l hl hs=>hs.frame ((yL _ _ _).trans (Lt _ _)) (fun m hm=>k3 m (by rw [<-hfl];exact List.mem_flatten.2 ⟨l,hl,hm⟩))
  have GA:=List.nodup_append.1 P.nd
  refine⟨_,t.nodes.length,key,_,?_,by rw [hfl];exact P, .inr ⟨af,_,_,rfl,?_,?_,fun y hy hl=>?_⟩⟩
  ·unfold gW
   rw [hi'.at']
   dsimp only
   rw [ai (by rw [hi'.leaf];simp),ai h4,hkey,ar ⟨af,hk4,hi'.buf.row h0 hh af,⟨af,af⟩,hn⟩]
  ·exact AP.sub ⟨hi'.pos,k1,rfl,rfl,by simp;omega,hi'.buf.take,s1.mono fun k a b l hl=>yi k a b l (xP hl),GA.1⟩ (by simp;omega) (by simp;omega)
  ·exact AP.sub ⟨hi'.pos,k2,rfl,rfl,by simp;omega,hi'.buf.drop,s2.mono fun k a b l hl=>yi k a b l (vg hl),GA.2.1⟩ (by simp;omega) (by simp;omega)
  ·rw [k1]at hy;injection hy with hy;subst hy;cases hl
def grow:Nat->Nat
 |0=>1
 |h+1=>9*grow h+1
theorem Iy:∀(h f:Nat),h<=f->I8 (qU f) h (grow h)
 |0,f,_=>fun t n lo hi l e hs=>hs.elim
 |h+1,0,hf=>af
 |h+1,f+1,hf=>fun t n lo hi l e hs hnd he h1 h2 h0 hh hg hsm hn=>by
  by_cases hp:0<h
  ·obtain⟨x,ls,hi',rfl,h4,h8⟩:=hs.inn hp hnd
   have WQ:aW (x.aF++x.buf)/\aW (ls.flatten.flatMap t.of):=by
    rw [gI,ng hi'.at']at hg
    exact bq.1 hg
   have gce:aW (e::(n::ls.flatten).flatMap t.of):=fun y hy=>by rcases eZ.1 hy with rfl|hy;exact he.good;exact hg y hy
   have Mz:Small (e::x.buf):=by
    refine rO (b:=x.aF++ls.flatten.flatMap t.of) hsm gce ?_
    rw [gI,ng hi'.at']
    refine zV.2 fun a=>?_
    simp only [List.count_append,pj];omega
   obtain⟨g1,g2,g3⟩:=Ce (hi'.buf.row h0 hh af) he Mz
   have hi2:=hi'.FE (Gq hi'.buf ⟨h1,h2⟩ g2)
   have gb:aW x.buf:=hi'.buf.1.bP
   have ev:ir (x.aF++ins x.buf e) ([e]++(x.aF++x.buf)):=by
    have e1:=(ir.refl (bq.1 WQ.1).1).append (Cv gb he.good)
    refine e1.trans (ir.perm ?_ e1.2.1)
    refine zV.2 fun a=>?_
    simp only [List.count_append,pj,List.count_nil];omega
   have pr:=(Prog.one (y:={ x with buf:=ins x.buf e }) (E:=[e]) hi'.at' hi'.nd WQ.2 ev (by unfold CU;simp only [hi'.leaf];simpa using g3)).1
   have hs2:Small ((n::ls.flatten).flatMap (cJ t n { x with buf:=ins x.buf e }).of):=by
    have:=pr.small (F:=[]) (fun _ h=>by cases h) (by simpa using hsm)
    simpa using this
   have hgr:grow (h+1)=9*grow h+1:=rfl
   rw [hgr]at hn ⊢
   have hput:∀r,(if (ins x.buf e).length<=8 then gW (cJ t n { x with buf:=ins x.buf e }) n else match ou (qU f) (cJ t n { x with buf:=ins x.buf e }) n with|none=>none|some t2=>gW t2 n)=r->qU (f+1) t n e=r:=fun r hr=>by
    unfold qU
    rw [hi'.at']
    dsimp only
    rw [ai (by rw [hi'.leaf];simp),g1]
    exact hr
   by_cases h8':(ins x.buf e).length<=8
   ·obtain⟨t',more,key,l',q1,q2,q3⟩:=AY h0 hh hi2 (by simp only;omega) h8' pr.bP (by rw [iH];omega)
    refine⟨t',more,key,l',hput _ (by rw [ar h8'];exact q1),?_,q3⟩
    have:=(pr.trans q2).more (d':=9*grow h+1) af
    simpa using this
   ·obtain⟨t2,y,ls2,q1,q2,q3,q4,q5⟩:=J7 (Iy h f af) h0 hh hi2 h4 Mj (by simp only;omega) pr.bP hs2 (by rw [iH];omega)
    have l2:=q5.Ge
    rw [iH]at l2
    obtain⟨t',more,key,l',r1,r2,r3⟩:=AY h0 hh q2 q3 q4 q5.bP af
    refine⟨t',more,key,l',hput _ (by rw [ai h8',q1];exact r1),?_,r3⟩
    have:=((pr.trans q5).trans r2).more (d':=9*grow h+1) af
    simpa using this
  ·obtain⟨x,hx,hlt,⟨rfl,hl,hok,rfl⟩|⟨hp',_⟩⟩:=hs
   ·obtain⟨k1,k2,k3,k4,k5,k6⟩:=hok
    have PN:t.of n=x.aF:=by rw [ng hx,k3,pq]
    have hgx:aW x.aF:=by simpa [PN] using hg
    have Mz:Small (e::x.aF):=by simpa [PN] using hsm
    obtain⟨g1,g2,g3⟩:=Ce (k6.row h0 hh af) he Mz
    have Ck:=Gq k6 ⟨h1,h2⟩ g2
    have hput:∀r,gW (cJ t n { x with aF:=ins x.aF e }) n=r->qU (f+1) t n e=r:=fun r hr=>by
     unfold qU
     rw [hx]
     dsimp only
     rw [ar hl,g1]
     exact hr
    have ev:ir (ins x.aF e++x.buf) ([e]++(x.aF++x.buf)):=by
     rw [k3,pq,pq];exact Cv hgx he.good
    have pr:=(Prog.one (y:={ x with aF:=ins x.aF e }) (L:=[]) (E:=[e]) hx hnd (by simp [aW]) ev (by unfold CU;simp only [hl];simp;omega)).1
    have hat:=tN (y:={ x with aF:=ins x.aF e }) hx
    have hgr:1<=grow (0+1):=by show 1<=9*grow 0+1;omega
    by_cases h6:(ins x.aF e).length<=6
    ·refine⟨_,-1,0,[n],hput _ (by unfold gW;rw [hat];dsimp only;rw [ar hl,ar h6]),pr.more af, .inl ⟨rfl,_,hat,hlt, .inl ⟨rfl,hl,⟨k1,k2,k3,h6, .inl Mj,Ck⟩,rfl⟩⟩⟩
    ·have h7:(ins x.aF e).length=7:=af
     obtain⟨y,hy⟩:∃y,(ins x.aF e)[3]?=some y:=⟨(ins x.aF e)[3],by simp [h7]⟩
     have IJ:(ins x.aF e).getD 3 default=y:=by rw [List.getD_eq_getElem?_getD,hy];rfl
     have hyk:ic (ins x.aF e) y.key=3:=by
      obtain⟨h3,QX⟩:=gJ.1 hy
      have hp2:=px.1 Ck.2.2
      refine xX af (fun i hi hi3=>by rw [<-QX];exact hp2 i 3 hi h3 hi3) fun i hi hi3=>?_
      by_cases hi4:i=3
      ·subst hi4;rw [QX];omega
      ·have:=hp2 3 i h3 hi af;rw [QX]at this;omega
     have yin:=Ck.2.1 y (List.mem_of_getElem? hy)
     have htk:=Ck.take (key:=y.key)
     have hdr:=Ck.drop (key:=y.key)
     rw [hyk]at htk hdr
     have y0:=htk.2.1 _ (gj (n:=0) (by simp;omega))
     obtain⟨P,m1,m2,-⟩:=Be (A:=[]) (B:=[]) (X:={ x with aF:=(ins x.aF e).take 3 }) (Y:=⟨true,(ins x.aF e).drop 3,[],[],[]⟩) hat hnd bt (by simpa using pr.bP)
      (by simp [k3]) (by unfold CU;simp [hl];omega)
     refine⟨_,(cJ t n { x with aF:=ins x.aF e }).nodes.length,y.key,_,hput _ (by unfold gW;rw [hat];dsimp only;rw [ar hl,ai h6,ar ⟨h7,by rw [iH];omega⟩,IJ]),((pr.trans P).more af), .inr ⟨af,_,_,rfl,?_,?_,fun z hz _=>?_⟩⟩
     ·exact⟨_,m1,af, .inl ⟨rfl,hl,⟨k1,k2,k3,by simp;omega, .inl (by intro h;have:=congrArg List.length h;simp [h7]at this),htk⟩,rfl⟩⟩
     ·exact⟨_,m2,yin.2, .inl ⟨rfl,rfl,⟨rfl,rfl,rfl,by simp;omega, .inl (by intro h;have:=congrArg List.length h;simp [h7]at this),hdr⟩,rfl⟩⟩
     ·rw [m1]at hz;injection hz with hz;subst hz
      intro h;have:=congrArg List.length h;simp [h7]at this
   ·omega
end
section
variable {l:List Int} {h:Nat} {t t':Tr}
structure Full (t:Tr) (h:Nat) (l:List Int):Prop where
 sub:Sub t h t.root 0 1099511627776 l
 nd:l.Nodup
 len:l.length=t.nodes.length
theorem yB (hv:lJ t):∃l h,h<=12/\Full t h l:=by
 obtain⟨l,h,h1,h2,h3⟩:=hv
 obtain⟨g1,g2⟩:=Ij h1
 exact⟨l,h,g1,g2,h2,h3⟩
theorem Full.valid (hf:Full t h l) (hh:h<=12):lJ t:=⟨l,h,Ip hf.sub hh,hf.nd,hf.len⟩
theorem Sub.lt' {n lo hi:Int} (hs:Sub t h n lo hi l):∀m∈l,0<=m/\m<(t.nodes.length:Int):=fun m hm=>by
 obtain⟨x,hx⟩:=hs.mem.2 m hm
 exact xA hx
theorem Full.perm (hf:Full t h l):(l.flatMap t.of).Perm t.all:=by
 rw [<-Ek]
 exact List.Perm.flatMap_right _ (yQ hf.nd hf.sub.lt' hf.len)
def nB (t:Tr):Nat:=wt t (Il t.nodes.length)
theorem O7 {a b:List Int} (h:a.Perm b):wt t a=wt t b:=by
 unfold wt;exact(h.map _).sum_nat
theorem Full.wt (hf:Full t h l):wt t l=nB t:=O7 (yQ hf.nd hf.sub.lt' hf.len)
theorem Sub.GZ:∀{h:Nat} {n lo hi:Int} {l:List Int},Sub t h n lo hi l->(∀m∈l,t'.dm m=t.dm m)->(∀m∈l,m=t.root->∀x,t.dm m=some x->x.leaf=true->x.aF≠[])->Sub t' h n lo hi l
 |0,_,_,_,_,hs,_,_=>hs
 |h+1,n,lo,hi,l,⟨x,hx,hlt,hs⟩,hk,hr=>by
  rcases hs with ⟨h0,h1,h2,rfl⟩|⟨hp,h1,h2,ls,h3,rfl,h4⟩
  ·refine⟨x,(hk n bt).trans hx,hlt, .inl ⟨h0,h1,?_,rfl⟩⟩
   obtain⟨a1,a2,a3,a4,a5,a6⟩:=h2
   refine⟨a1,a2,a3,a4, .inl ?_,a6⟩
   rcases a5 with a5|a5
   ·exact a5
   ·exact hr n bt a5 x hx h1
  ·refine⟨x,(hk n bt).trans hx,hlt, .inr ⟨hp,h1,h2,ls,h3,rfl,fun j k lj hj nC=>?_⟩⟩
   obtain⟨g1,g2,g3⟩:=h4 j k lj hj nC
   exact⟨g1,g2,g3.GZ (fun m hm=>hk m (List.mem_cons_of_mem _ (List.mem_flatten.2 ⟨lj,List.mem_of_getElem? nC,hm⟩))) fun m hm=>hr m (List.mem_cons_of_mem _ (List.mem_flatten.2 ⟨lj,List.mem_of_getElem? nC,hm⟩))⟩
theorem zF {t:Tr} {h:Nat}:∀(ls:List (List Int)),(∀l∈ls,∃k,l.length+1<=2*k/\3*k<=wt t l/\2 ^ h<=k)->∃k,ls.flatten.length+ls.length<=2*k/\3*k<=wt t ls.flatten/\ls.length*2 ^ h<=k
 |[],_=>⟨0,bt,bt,bt⟩
 |l::ls,hl=>by
  obtain⟨k1,a1,a2,a3⟩:=hl l bt
  obtain⟨k2,b1,b2,b3⟩:=zF ls fun l hl'=>hl l (by simp [hl'])
  refine⟨k1+k2,?_,?_,?_⟩
  ·rw [List.flatten_cons,eO,fR];omega
  ·rw [List.flatten_cons,lg];omega
  ·rw [fR,Nat.add_mul,Nat.one_mul];omega
theorem Sub.bound:∀{h:Nat} {n lo hi:Int} {l:List Int},Sub t (h+1) n lo hi l->∃k,l.length+1<=2*k/\3*k<=wt t l/\2 ^ h<=k
 |h,n,lo,hi,l,⟨x,hx,hlt,hs⟩=>by
  rcases hs with ⟨rfl,h1,h2,rfl⟩|⟨hp,h1,h2,ls,h3,rfl,h4⟩
  ·refine⟨1,bt,?_,bt⟩
   have:wt t [n]=UX t n:=by simp [wt]
   rw [this,nY hx]
   unfold CU
   rw [ar h1];omega
  ·obtain⟨h',rfl⟩:∃h',h=h'+1:=⟨h-1,af⟩
   obtain⟨k,a1,a2,a3⟩:=zF (t:=t) (h:=h') ls fun l hl=>by
    obtain⟨j,hj,rfl⟩:=kS hl
    have hjk:j<x.kids.length:=af
    exact(h4 j _ _ (oG hjk) (oG hj)).2.2.bound
   have h22:=h2.2.1
   refine⟨k,by rw [fR];omega,by rw [mE];omega,?_⟩
   have:2*2 ^ h'<=ls.length*2 ^ h':=Nat.mul_le_mul_right _ af
   rw [Nat.pow_succ];omega
theorem Full.bound (hf:Full t h l):∃k,t.nodes.length+1<=2*k/\3*k<=nB t/\2 ^ (h-1)<=k:=by
 obtain⟨h',rfl⟩:∃h',h=h'+1:=⟨h-1,by have:=hf.sub.pos;omega⟩
 obtain⟨k,a1,a2,a3⟩:=hf.sub.bound
 rw [hf.len]at a1
 rw [hf.wt]at a2
 exact⟨k,a1,a2,a3⟩
theorem Full.fault (hf:Full t h l) (hw:nB t<=3002):ax t=0:=by
 obtain⟨k,a1,a2,a3⟩:=hf.bound
 refine ui af (hf.valid ?_)
 refine Nat.le_of_not_lt fun hh=>?_
 have:2 ^ 12<=2 ^ (h-1):=Nat.pow_le_pow_right aY af
 have:(2:Nat) ^ 12=4096:=aY
 omega
theorem Sub.node:∀{h:Nat} {n lo hi:Int} {l:List Int},Sub t h n lo hi l->∀m∈l,∀x,t.dm m=some x->x.aF.length<=6/\x.keys.length<=3/\x.kids.length<=4/\x.buf.length<=8
 |0,_,_,_,_,hs,_,_,_,_=>hs.elim
 |h+1,n,lo,hi,l,⟨x,hx,hlt,hs⟩,m,hm,y,hy=>by
  rcases hs with ⟨rfl,h1,h2,rfl⟩|⟨hp,h1,h2,ls,h3,rfl,h4⟩
  ·simp only [ny]at hm
   subst hm
   obtain rfl:=dt (hx.symm.trans hy)
   obtain⟨a1,a2,a3,a4,-,-⟩:=h2
   simp [a1,a2,a3,a4]
  ·rcases eZ.1 hm with rfl|hm
   ·obtain rfl:=dt (hx.symm.trans hy)
    obtain⟨a1,a2,a3,a4,a5,-⟩:=h2
    exact⟨by simp [a1],af,a3,a5⟩
   ·obtain⟨lj,nC,CP⟩:=List.mem_flatten.1 hm
    obtain⟨j,hj,rfl⟩:=kS nC
    have hjk:j<x.kids.length:=af
    exact(h4 j _ _ (oG hjk) (oG hj)).2.2.node m CP y hy
theorem Full.node (hf:Full t h l):∀x∈t.nodes,x.aF.length<=6/\x.keys.length<=3/\x.kids.length<=4/\x.buf.length<=8:=fun x hx=>by
 obtain⟨i,hi,rfl⟩:=kS hx
 have hm:=(vT hf.nd hf.sub.lt').1 hf.len i hi
 exact hf.sub.node i hm _ (by unfold Tr.dm;simp [hi])
theorem Lf {f:Int->Nat} {m:Nat}:∀{l:List Int},(∀y∈l,f y<=m)->(l.map f).sum<=m*l.length
 |[],_=>bt
 |a::l,h=>by
  have:=Lf (l:=l) fun y hy=>h y (by simp [hy])
  have:=h a bt
  rw [List.map_cons,List.sum_cons,fR,Nat.mul_succ];omega
theorem Full.VL (hf:Full t h l):nB t<=8*t.nodes.length:=by
 rw [<-hf.wt,<-hf.len]
 refine Lf fun y hy=>?_
 obtain⟨x,hx⟩:=hf.sub.mem.2 y hy
 have:=hf.sub.node y hy x hx
 rw [nY hx]
 unfold CU
 split <;> omega
def jS (t:Tr) (more key:Int):Tr:={ nodes:=t.nodes++[⟨false,[],[key],[t.root,more],[]⟩],root:=t.nodes.length }
theorem Qk (hh:h<=12):grow h<=500000000000:=by
 have:h=0\/h=1\/h=2\/h=3\/h=4\/h=5\/h=6\/h=7\/h=8\/h=9\/h=10\/h=11\/h=12:=af
 rcases this with rfl|rfl|rfl|rfl|rfl|rfl|rfl|rfl|rfl|rfl|rfl|rfl|rfl <;> decide
theorem Df {l':List Int} {E:List aA} {d:Nat} (P:Prog t t' l l' E d) (hn:l.Nodup) (hr:∀m∈l,0<=m/\m<(t.nodes.length:Int)) (hl:l.length=t.nodes.length) (hr':∀m∈l',0<=m/\m<(t'.nodes.length:Int)):l'.length=t'.nodes.length:=by
 refine(vT P.nd hr').2 fun i hi=>?_
 rw [P.mem]
 by_cases h:i<t.nodes.length
 ·exact .inl ((vT hn hr).1 hl i h)
 ·exact .inr af
theorem LG {e:aA} (hf:Full t h l) (hh:h<=12) (hn:t.nodes.length<=2000) (he:jX e) (hg:aW t.all) (hs:Small (e::t.all)) :
  ∃t1 more key t2 h2 l2,qU 13 t t.root e=some (t1,more,key)/\t1.root=t.root/\t2=(if 0<=more then jS t1 more key else t1)/\Full t2 h2 l2/\ir t2.all (e::t.all)/\nB t2<=nB t+1:=by
 have hp:=hf.perm
 have hgl:aW (l.flatMap t.of):=fun y hy=>hg y (hp.mem_iff.1 hy)
 have hsl:Small (e::l.flatMap t.of):=(mZ (hp.cons e) (fun y hy=>by
  rcases eZ.1 hy with rfl|hy
  ·exact .inr he.good
  ·exact .inr (hgl y hy))).2 hs
 have gle:=Qk hh
 obtain⟨t1,more,key,l',p1,p2,p3⟩:=Iy h 13 af t t.root 0 1099511627776 l e hf.sub hf.nd he he.2.2.1 he.2.2.2 (Int.le_refl _) (Int.le_refl _) hgl hsl af
 have hev:ir (l'.flatMap t1.of) (e::t.all):=p2.ev.trans (ir.perm (hp.cons e) p2.ev.2.1)
 have hwt:wt t1 l'<=nB t+1:=by have:=p2.wt;rw [hf.wt]at this;simpa using this
 rcases p3 with ⟨rfl,g1⟩|⟨g0,l1,l2,rfl,g1,g2,g3⟩
 ·have hfull:Full t1 h l':=⟨by rw [p2.root];exact g1,p2.nd,Df p2 hf.nd hf.sub.lt' hf.len g1.lt'⟩
  refine⟨t1,-1,key,t1,h,l',p1,p2.root,by rw [ai af],hfull,?_,by rw [<-hfull.wt];exact hwt⟩
  exact(ir.perm hfull.perm.symm (fun y hy=>hev.1 y (hfull.perm.mem_iff.2 hy))).trans hev
 ·have hr1:=g1.lt'
  have hr2:=g2.lt'
  have hr:∀m∈l1++l2,0<=m/\m<(t1.nodes.length:Int):=fun m hm=>(kH.1 hm).elim (hr1 m) (hr2 m)
  have hlen:=Df p2 hf.nd hf.sub.lt' hf.len hr
  have hat:∀m:Int,m<(t1.nodes.length:Int)->(jS t1 more key).dm m=t1.dm m:=fun m hm=>by
   unfold Tr.dm jS
   by_cases h0:0<=m
   ·rw [ar h0,ar h0]
    simp only
    rw [zW af]
   ·rw [ai h0,ai h0]
  have hnew:(jS t1 more key).dm (t1.nodes.length:Int)=some ⟨false,[],[key],[t1.root,more],[]⟩:=by
   unfold Tr.dm jS;simp
  have n1:∀m∈l1,(jS t1 more key).dm m=t1.dm m:=fun m hm=>hat m (hr1 m hm).2
  have n2:∀m∈l2,(jS t1 more key).dm m=t1.dm m:=fun m hm=>hat m (hr2 m hm).2
  have hroot:t1.root=t.root:=p2.root
  have s1:Sub (jS t1 more key) h t.root 0 key l1:=g1.GZ n1 fun m hm hmr x hx hl=>by
   rw [hmr,hroot]at hx
   exact g3 x hx hl
  have S3:∀m∈l2,m≠t.root:=fun m hm e=>by
   have h1:=g1.mem.1
   rw [e]at hm
   exact(List.nodup_append.1 p2.nd).2.2 _ h1 _ hm rfl
  have s2:Sub (jS t1 more key) h more key 1099511627776 l2:=g2.GZ n2 fun m hm hmr=>absurd (hmr.trans hroot) (S3 m hm)
  have hfull:Full (jS t1 more key) (h+1) ((t1.nodes.length:Int)::(l1++l2)):=by
   refine⟨⟨_,hnew,aY, .inr ⟨g1.pos,rfl,⟨rfl,bt,bt,bt,bt,⟨(fun _ h=>by cases h),(fun _ h=>by cases h),List.Pairwise.nil⟩⟩,[l1,l2],rfl,by simp [jS],fun j k lj hj nC=>?_⟩⟩,?_,?_⟩
   ·rcases j with _|_|j
    ·simp only [List.getElem?_cons_zero,iE]at hj nC
     subst hj nC
     refine⟨Int.le_refl _,?_,?_⟩
     ·simp [up];have:=s2.lt;omega
     ·rw [hroot];simpa [fr,up] using s1
    ·simp only [List.getElem?_cons_succ,List.getElem?_cons_zero,iE]at hj nC
     subst hj nC
     refine⟨?_,?_,?_⟩
     ·simp [fr];have:=s1.lt;omega
     ·simp [up]
     ·simpa [fr,up] using s2
    ·simp at hj
   ·refine List.nodup_cons.2 ⟨fun hm=>?_,p2.nd⟩
    have:=(hr _ hm).2;omega
   ·rw [fR,hlen];simp [jS]
  refine⟨t1,more,key,_,h+1,_,p1,p2.root,by rw [ar g0],hfull,?_,?_⟩
  ·refine(ir.perm hfull.perm.symm ?_).trans ?_
   ·intro y hy
    have:=hfull.perm.mem_iff.2 hy
    rw [gI,ng hnew,of_same (t':=jS t1 more key) (t:=t1) (fun m hm=>hat m (hr m hm).2)]at this
    exact hev.1 y (by simpa using this)
   ·rw [gI,ng hnew,of_same (t':=jS t1 more key) (t:=t1) (fun m hm=>hat m (hr m hm).2)]
    simpa using hev
  ·rw [<-hfull.wt,mE,nY hnew,pD (t':=jS t1 more key) (t:=t1) (fun m hm=>hat m (hr m hm).2)]
   unfold CU;simp;exact hwt
noncomputable def ji (t:Tr) (key:Int) (r:av):Int:=
 if ax t≠0 then ax t else if key<0\/1099511627776<=key\/r.c=0 then 2 else if aj r≠0 then aj r else if (look t.all key).c+r.c<=1073741824 then 0 else 1
theorem BX {key:Int} {r:av} (h:ji t key r=0):ax t=0/\0<=key/\key<1099511627776/\r.c≠0/\aj r=0/\(look t.all key).c+r.c<=1073741824:=by
 unfold ji at h
 split at h
 ·contradiction
 ·rename_i h1
  split at h
  ·omega
  ·rename_i h2
   split at h
   ·contradiction
   ·rename_i h3
    split at h
    ·rename_i h4
     exact⟨by simpa using h1,af,af,af,by simpa using h3,h4⟩
    ·omega
end
section
variable {e:aA} {l:List aA} {k:Nat} {t:Tr}
theorem mK (hr:aX l) (hc:Checked l):Small l:=fun k=>by
 by_cases h:∃e∈l,e.key=k
 ·obtain⟨e,he,rfl⟩:=h
  rw [fY hr he]
  exact hc.le e he
 ·rw [iz fun e he hk=>h ⟨e,he,hk⟩];decide
theorem filter_all (hv:lJ t):t.all.filter (aT 0 1099511627776)=t.all:=List.filter_eq_self.2 fun e he=>by
 have:=lT hv e he
 simp [aT,this.1,this.2]
theorem yt (hf:ax t=0) (he:ir t.all l) (hr:aX l) (hc:Checked l):allT t=some l:=by
 unfold allT kG
 have hv:=(cW hf).2
 rw [ar hf,filter_all hv,jD (cF hv),ar (he.small.2 (mK hr hc))]
 congr 1
 exact oY (di he.1) hr (eK he.1) he.2.1 fun k=>by rw [fu he.1,he.2.2]
theorem Pv (h:allT t=some l):ax t=0/\ir t.all l/\aX l/\Checked l/\Small t.all:=by
 have hg:=fJ h
 unfold allT at h
 split at h
 ·rename_i hf
  have hv:=(cW hf).2
  unfold kG at h
  rw [filter_all hv]at h
  obtain⟨rfl,hs,hc,-,hr⟩:=fT (cF hv) h
  exact⟨hf,⟨(cF hv).bP,eK (cF hv).bP,fun k=>(fu (cF hv).bP k).symm⟩,hr,hc,hs⟩
 ·cases h
theorem Dc (hl:aX l) (h:∀y∈l,y.key<e.key):aX (l++[e]):=List.pairwise_append.2 ⟨hl,List.pairwise_singleton _ _,fun a ha b hb=>by simp at hb;subst hb;exact h a ha⟩
noncomputable def iI:Option Int->List aA->Int
 |_,[]=>0
 |p,e::l=>if ∃k,p=some k/\e.key<=k then 8 else if e.key<0\/1099511627776<=e.key\/e.is.c=0 then 2 else if aj e.is≠0 then aj e.is else iI (some e.key) l
def kr (l:List aA) (k:Nat):Option Int:=if k=0 then none else(l[k-1]?).map aA.key
theorem Nl (hk:k<l.length):iI (kr l k) (l.drop k)=if ∃p,kr l k=some p/\l[k].key<=p then 8 else if l[k].key<0\/1099511627776<=l[k].key\/l[k].is.c=0 then 2 else if aj l[k].is≠0 then aj l[k].is else iI (kr l (k+1)) (l.drop (k+1)):=by
 rw [vh hk]
 have:kr l (k+1)=some l[k].key:=by unfold kr;simp [hk]
 rw [this]
 rfl
def Made (l:List aA) (t:Tr):Prop:=ax t=0/\ir t.all l/\aX l/\Checked l/\(∀e∈l,0<=e.key/\e.key<1099511627776)/\nB t<=3+l.length
theorem Made.small (h:Made l t):Small t.all:=h.2.1.small.2 (mK h.2.2.1 h.2.2.2.1)
theorem Made.knows (h:Made l t):allT t=some l:=yt h.1 h.2.1 h.2.2.1 h.2.2.2.1
theorem Me (hkl:k<=l.length) (hr:aX (l.take k)) (h:¬∃p,kr l k=some p/\e.key<=p):∀y∈l.take k,y.key<e.key:=fun y hy=>by
 obtain⟨i,hi,rfl⟩:=kS hy
 rw [fx]at hi
 rw [wH]
 have hlt:k-1<l.length:=af
 have h1:l[k-1].key<e.key:=by
  refine Int.not_le.1 fun hle=>h ⟨l[k-1].key,?_,hle⟩
  unfold kr
  rw [ai af,oG hlt];rfl
 by_cases hik:i=k-1
 ·subst hik;exact h1
 ·have:=px.1 hr i (k-1) (by rw [fx];omega) (by rw [fx];omega) af
  rw [wH,wH]at this
  omega
theorem Made.put (h:Made (l.take k) t) (hk:k<l.length) (ho:¬∃p,kr l k=some p/\l[k].key<=p) (h2:¬(l[k].key<0\/1099511627776<=l[k].key\/l[k].is.c=0)) (h3:aj l[k].is=0) :
  look t.all l[k].key=av.zero/\Small (l[k]::t.all)/\aX (l.take (k+1))/\Checked (l.take (k+1))/\∀t2,ir t2.all (l[k]::t.all)->nB t2<=nB t+1->ir t2.all (l.take (k+1))/\nB t2<=3+(l.take (k+1)).length/\∀e∈l.take (k+1),0<=e.key/\e.key<1099511627776:=by
 obtain⟨m1,m2,m3,m4,m5,m6⟩:=h
 have IP:l[k].is.Good:=(cp h3 af).1
 have hle:l[k].is.c<=1073741824:=(cp h3 af).2
 have hlt:=Me af m3 ho
 have hz:look t.all l[k].key=av.zero:=by
  rw [m2.2.2,iz fun y hy e=>by have:=hlt y hy;omega]
 have YW:l.take (k+1)=l.take k++[l[k]]:=mf hk
 have hr:aX (l.take (k+1)):=by rw [YW];exact Dc m3 hlt
 have hc:Checked (l.take (k+1)):=fun e he=>by
  rw [YW]at he
  rcases kH.1 he with he|he
  ·exact m4 e he
  ·simp at he;subst he;exact⟨af,h3⟩
 have hev:ir (l[k]::t.all) (l.take (k+1)):=by
  have e1:ir ([l[k]]++t.all) ([l[k]]++l.take k):=(ir.refl (fun e he=>by simp at he;subst he;exact IP)).append m2
  refine e1.trans (ir.perm ?_ e1.2.1)
  rw [YW];exact List.perm_append_comm
 refine⟨hz,hev.small.2 (mK hr hc),hr,hc,fun t2 h1 h2=>⟨h1.trans hev,?_,fun e he=>?_⟩⟩
 ·rw [fx]at m6 ⊢
  omega
 ·rw [YW]at he
  rcases kH.1 he with he|he
  ·exact m5 e he
  ·simp at he;subst he;omega
def BR:Tr:=⟨[⟨true,[],[],[],[]⟩],0⟩
theorem Dw:Made [] BR:=by
 have hfull:Full BR 1 [0]:=⟨⟨⟨true,[],[],[],[]⟩,rfl,aY, .inl ⟨rfl,rfl,⟨rfl,rfl,rfl,aY, .inr rfl,⟨(fun _ h=>by cases h),(fun _ h=>by cases h),List.Pairwise.nil⟩⟩,rfl⟩⟩,bt,rfl⟩
 have hw:nB BR=3:=rfl
 refine⟨hfull.fault af,?_,List.Pairwise.nil,(fun _ h=>by cases h),(fun _ h=>by cases h),by rw [hw];exact kT _⟩
 exact ir.refl (a:=[]) (fun e h=>absurd h bt)
end
end Go.Proofs.YtmljjfhgciaceaaGreatDoor
