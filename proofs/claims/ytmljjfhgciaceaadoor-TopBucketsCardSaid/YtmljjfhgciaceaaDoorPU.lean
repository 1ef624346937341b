/- Texts of mine that come as one: SubP PutF PutA PutB PutC PutD PutT OfP. -/
import Derived.Test.YtmljjfhgciaceaaDoorHd
import Derived.Test.YtmljjfhgciaceaaDoorPA
namespace Go.Proofs.YtmljjfhgciaceaaDoor
section
variable {t:Tr}
def fr (ks:List Int) (lo:Int) (j:Nat):Int:=if j=0 then lo else ks.getD (j-1) 0
def up (ks:List Int) (hi:Int) (j:Nat):Int:=if j<ks.length then ks.getD j 0 else hi
def Sub (t:Tr):Nat->Int->Int->Int->List Int->Prop
 |0,_,_,_,_=>False
 |h+1,n,lo,hi,l=>∃x,t.dn n=some x/\lo<hi /\
   ((h=0/\x.leaf=true/\mG t n x lo hi/\l=[n]) \/
   (0<h/\x.leaf=false/\qw x lo hi/\∃ls:List (List Int),ls.length=x.kids.length/\l=n::ls.flatten /\
     ∀(j:Nat) (k:Int) (lj:List Int),x.kids[j]?=some k->ls[j]?=some lj->lo<=fr x.keys lo j/\up x.keys hi j<=hi/\Sub t h k (fr x.keys lo j) (up x.keys hi j) lj))
theorem Sub.lt:∀{h:Nat} {n lo hi:Int} {l:List Int},Sub t h n lo hi l->lo<hi
 |0,_,_,_,_,hs=>hs.elim
 |_h+1,_,_,_,_,⟨_,_,h1,_⟩=>h1
theorem Sub.pos {h:Nat} {n lo hi:Int} {l:List Int} (hs:Sub t h n lo hi l):0<h:=by
 cases h with
 |zero=>exact hs.elim
 |succ h=>omega
theorem DA {t:Tr} {f:Nat} {x:Nd} {lo hi:Int} (ih:∀{k a b:Int} {l:List Int} {h:Nat},mK t f k a b=some (l,h)->h<=f/\Sub t h k a b l) :
  ∀{ks:List Int} {i:Nat} {l:List Int} {h:Nat},ct (fun k a b=>mK t f k a b) x lo hi ks i=some (l,h)->(ks≠[]->h<=f)/\∃ls:List (List Int),ls.length=ks.length/\l=ls.flatten /\
   ∀(j:Nat) (k:Int) (lj:List Int),ks[j]?=some k->ls[j]?=some lj->lo<=x.from lo (i+j)/\x.upto hi (i+j)<=hi/\Sub t h k (x.from lo (i+j)) (x.upto hi (i+j)) lj
 |[],i,l,h,hv=>by
  simp only [ct,iE,jK]at hv
  exact⟨fun h=>absurd rfl h,[],rfl,by rw [<-hv.1];rfl,fun j k lj hj=>by simp at hj⟩
 |k::ks,i,l,h,hv=>by
  unfold ct at hv
  split at hv
  ·rename_i hc
   split at hv
   ·rename_i l1 h1 l2 h2 e1 e2
    split at hv
    ·rename_i hh
     simp only [iE,jK]at hv
     obtain⟨rfl,rfl⟩:=hv
     obtain⟨g1,g2⟩:=ih e1
     obtain⟨_,ls,k1,k2,k3⟩:=DA ih e2
     refine⟨fun _=>g1,l1::ls,by simp [k1],by rw [k2];rfl,fun j k' lj hj nG=>?_⟩
     cases j with
     |zero=>
      simp only [List.getElem?_cons_zero,iE]at hj nG
      subst hj nG
      exact⟨hc.2.1,hc.2.2,g2⟩
     |succ j=>
      simp only [List.getElem?_cons_succ]at hj nG
      have:=k3 j k' lj hj nG
      rw [show i+1+j=i+(j+1)from by omega]at this
      have hne:ks≠[]:=fun h=>by subst h;simp at hj
      rcases qH (fun k a b l h hv=>xR hv) e2 with h0|h0
      ·exact absurd h0 hne
      ·rcases hh with hh|hh
       ·omega
       ·rw [hh]at this;exact this
    ·cases hv
   ·cases hv
  ·cases hv
theorem Ib {t:Tr}:∀{f:Nat} {n lo hi:Int} {l:List Int} {h:Nat},mK t f n lo hi=some (l,h)->h<=f/\Sub t h n lo hi l
 |0,_,_,_,_,_,hv=>by cases hv
 |f+1,n,lo,hi,l,h,hv=>by
  have hlt:=K8 hv
  unfold mK at hv
  split at hv
  ·cases hv
  ·rename_i x hx
   split at hv
   ·cases hv
   ·split at hv
    ·rename_i hl
     split at hv
     ·rename_i hok
      simp only [iE,jK]at hv
      obtain⟨rfl,rfl⟩:=hv
      exact⟨af,x,hx,hlt, .inl ⟨rfl,hl,hok,rfl⟩⟩
     ·cases hv
    ·rename_i hl
     split at hv
     ·rename_i hok
      obtain⟨⟨l',h'⟩,hk,hp⟩:=Option.map_eq_some_iff.1 hv
      simp only [jK]at hp
      obtain⟨rfl,rfl⟩:=hp
      obtain⟨g1,ls,g2,g3,g4⟩:=DA (fun hv=>Ib hv) hk
      have hne:x.kids≠[]:=fun h=>by have:=hok.2.1;rw [h]at this;simp at this
      have hp:1<=h':=by
       rcases qH (fun k a b l h hv=>xR hv) hk with h0|h0
       ·exact absurd h0 hne
       ·exact h0
      refine⟨by have:=g1 hne;omega,x,hx,hlt, .inr ⟨af,by simpa using hl,hok,ls,g2,by rw [g3],fun j k lj hj nG=>?_⟩⟩
      have:=g4 j k lj hj nG
      rw [iM]at this
      exact this
     ·cases hv
theorem CS {t:Tr} {f h:Nat} (hp:0<h) {x:Nd} {lo hi:Int} (ih:∀{k a b:Int} {l:List Int},Sub t h k a b l->mK t f k a b=some (l,h)) :
  ∀{ks:List Int} {i:Nat} {ls:List (List Int)},ls.length=ks.length->(∀(j:Nat) (k:Int) (lj:List Int),ks[j]?=some k->ls[j]?=some lj->lo<=x.from lo (i+j)/\x.upto hi (i+j)<=hi/\Sub t h k (x.from lo (i+j)) (x.upto hi (i+j)) lj) ->
   ct (fun k a b=>mK t f k a b) x lo hi ks i=some (ls.flatten,if ks=[]then 0 else h)
 |[],i,[],_,_=>rfl
 |k::ks,i,l1::ls,hl,hk=>by
  have h0:=hk 0 k l1 rfl rfl
  rw [Nat.add_zero]at h0
  have hr:=CS hp ih (ks:=ks) (i:=i+1) (ls:=ls) (by simpa using hl) fun j k' lj hj nG=>by
   have:=hk (j+1) k' lj (by simpa using hj) (by simpa using nG)
   rwa [show i+(j+1)=i+1+j from by omega]at this
  unfold ct
  rw [ar ⟨h0.2.2.lt,h0.1,h0.2.1⟩,ih h0.2.2,hr]
  try simp only
  have hc:(if ks=[]then 0 else h)=0\/(if ks=[]then 0 else h)=h:=by
   by_cases he:ks=[]
   ·left;rw [ar he]
   ·right;rw [ai he]
  rw [ar hc,ai bq]
  rfl
theorem Ii {t:Tr}:∀{h f:Nat} {n lo hi:Int} {l:List Int},Sub t h n lo hi l->h<=f->mK t f n lo hi=some (l,h)
 |0,_,_,_,_,_,hs,_=>hs.elim
 |h+1,0,_,_,_,_,_,hf=>af
 |h+1,f+1,n,lo,hi,l,⟨x,hx,hlt,hs⟩,hf=>by
  unfold mK
  rw [hx]
  try simp only
  rw [ai (iF hlt)]
  rcases hs with ⟨rfl,h1,h2,rfl⟩|⟨hp,h1,h2,ls,h3,rfl,h4⟩
  ·rw [ar h1,ar h2]
  ·rw [ai (by simp [h1]),ar h2,CS (h:=h) (f:=f) hp (fun hs=>Ii hs af) h3 (fun j k lj hj nG=>by rw [iM];exact h4 j k lj hj nG)]
   have hne:x.kids≠[]:=fun h=>by have:=h2.2.1;rw [h]at this;simp at this
   rw [ai hne];rfl
theorem Sub.frame {t':Tr} (hr:t'.root=t.root):∀{h:Nat} {n lo hi:Int} {l:List Int},Sub t h n lo hi l->(∀m∈l,t'.dn m=t.dn m)->Sub t' h n lo hi l
 |0,_,_,_,_,hs,_=>hs
 |h+1,n,lo,hi,l,⟨x,hx,hlt,hs⟩,hk=>by
  rcases hs with ⟨h0,h1,h2,rfl⟩|⟨hp,h1,h2,ls,h3,rfl,h4⟩
  ·exact⟨x,(hk n bq).trans hx,hlt, .inl ⟨h0,h1,by unfold mG at *;rw [hr];exact h2,rfl⟩⟩
  ·refine⟨x,(hk n bq).trans hx,hlt, .inr ⟨hp,h1,h2,ls,h3,rfl,fun j k lj hj nG=>?_⟩⟩
   obtain⟨g1,g2,g3⟩:=h4 j k lj hj nG
   exact⟨g1,g2,g3.frame hr fun m hm=>hk m (List.mem_cons_of_mem _ (List.mem_flatten.2 ⟨lj,List.mem_of_getElem? nG,hm⟩))⟩
theorem Sub.mem:∀{h:Nat} {n lo hi:Int} {l:List Int},Sub t h n lo hi l->n∈l/\∀m∈l,∃x,t.dn m=some x
 |0,_,_,_,_,hs=>hs.elim
 |h+1,n,lo,hi,l,⟨x,hx,hlt,hs⟩=>by
  rcases hs with ⟨h0,h1,h2,rfl⟩|⟨hp,h1,h2,ls,h3,rfl,h4⟩
  ·exact⟨bq,fun m hm=>by simp at hm;subst hm;exact⟨x,hx⟩⟩
  ·refine⟨bq,fun m hm=>?_⟩
   rcases fc.1 hm with rfl|hm
   ·exact⟨x,hx⟩
   ·obtain⟨lj,nG,CJ⟩:=List.mem_flatten.1 hm
    obtain⟨j,hj,rfl⟩:=kW nG
    have hjk:j<x.kids.length:=af
    exact((h4 j _ _ (oL hjk) (oL hj)).2.2.mem).2 m CJ
theorem xA {m:Int} {x:Nd} (h:t.dn m=some x):0<=m/\m<t.nodes.length:=by
 unfold Tr.dn at h
 split at h
 ·have:=(gH.1 h).1;omega
 ·cases h
end
section
variable {n:Int} {x y:Nd} {t:Tr}
def cH (t:Tr) (n:Int) (x:Nd):Tr:={ t with nodes:=t.nodes.set n.toNat x }
def jo (t:Tr) (x:Nd):Tr:={ t with nodes:=t.nodes++[x] }
def Ue (l:List aA):Prop:=∀e∈l,0<=e.key/\e.key<1099511627776
def jV (e:aA):Prop:=e.is.c≠0/\aj e.is=0/\0<=e.key/\e.key<1099511627776
def vk (l:List aA):Prop:=aV l/\Checked l/\Ue l/\l.length<=20
open Classical in
noncomputable def xK (l:List aA) (e:aA):Option (List aA):=if vk l/\jV e then jG l e else none
open Classical in
noncomputable def gW (t:Tr) (n:Int):Option (Tr×Int×Int):=
 match t.dn n with
 |none=>none
 |some x=>
  if x.leaf=true then
   if x.aF.length<=6 then some (t,-1,0)
   else if x.aF.length=7/\t.nodes.length<=1000000000000 then some (cH (jo t ⟨true,x.aF.drop 3,[],[],[]⟩) n { x with aF:=x.aF.take 3 },t.nodes.length,(x.aF.getD 3 default).key)
   else none
  else if x.kids.length<=4 then some (t,-1,0)
  else if x.kids.length=5/\x.keys.length=4/\vk x.buf/\(0<=x.keys.getD 1 0/\x.keys.getD 1 0<=1099511627776)/\t.nodes.length<=1000000000000 then
   some (cH (jo t ⟨false,[],x.keys.drop 2,x.kids.drop 2,x.buf.drop (ic x.buf (x.keys.getD 1 0))⟩) n ⟨false,[],x.keys.take 1,x.kids.take 2,x.buf.take (ic x.buf (x.keys.getD 1 0))⟩,t.nodes.length,x.keys.getD 1 0)
  else none
noncomputable def oQ (n:Int) (t:Tr) (e:aA):Option Tr:=
 match t.dn n with
 |none=>none
 |some x=>(xK x.buf e).map fun b=>cH t n { x with buf:=b }
def iQ (x:Nd) (j:Nat):Nat:=(x.buf.filter fun e=>decide (aX x.keys e.key=j)).length
def iV (m:Nat->Nat):Nat->Nat
 |0=>0
 |k+1=>if m (iV m k)<m k then k else iV m k
noncomputable def Gk (t1:Tr) (n:Int) (i:Nat) (more key:Int):Option Tr:=
 if more<0 then some t1 else match t1.dn n with
  |none=>none
  |some y=>if i<=y.keys.length/\i+1<=y.kids.length/\y.kids.length<=20/\y.keys.length<=20 then
    some (cH t1 n { y with keys:=y.keys.take i++key::y.keys.drop i,kids:=y.kids.take (i+1)++more::y.kids.drop (i+1) })
   else none
open Classical in
noncomputable def sL (put:Tr->Int->aA->Option (Tr×Int×Int)) (n:Int) (all:List aA):List aA->Tr->Option Tr
 |[],t=>some t
 |e::ds,t=>
  match t.dn n with
  |none=>none
  |some x=>
   if x.keys.Pairwise (·<·)/\x.keys.length<=20/\x.kids.length<=20 then
    match x.kids[aX x.keys e.key]? with
    |none=>none
    |some k=>
     match put t k e with
     |none=>none
     |some (t1,more,key)=>
      match Gk t1 n (aX x.keys e.key) more key with
      |none=>none
      |some t2=>
       match t2.dn n with
       |none=>none
       |some z=>if z.kids.length<=4 then sL put n all ds t2 else(all.filter fun d=>decide (e.key<d.key)).foldlM (oQ n) t2
   else none
open Classical in
noncomputable def oF (put:Tr->Int->aA->Option (Tr×Int×Int)) (t:Tr) (n:Int):Option Tr:=
 match t.dn n with
 |none=>none
 |some x=>
  if x.keys.Pairwise (·<·)/\x.keys.length<=3/\x.buf.length<=20/\Checked x.buf then
   sL put n (x.buf.filter fun e=>decide (aX x.keys e.key=iV (iQ x) 4)) (x.buf.filter fun e=>decide (aX x.keys e.key=iV (iQ x) 4))
    (cH t n { x with buf:=x.buf.filter fun e=>!decide (aX x.keys e.key=iV (iQ x) 4) })
  else none
noncomputable def qO:Nat->Tr->Int->aA->Option (Tr×Int×Int)
 |0,_,_,_=>none
 |f+1,t,n,e=>
  match t.dn n with
  |none=>none
  |some x=>
   if x.leaf=true then
    match xK x.aF e with
    |none=>none
    |some l=>gW (cH t n { x with aF:=l }) n
   else
    match xK x.buf e with
    |none=>none
    |some l=>
     if l.length<=8 then gW (cH t n { x with buf:=l }) n
     else match oF (qO f) (cH t n { x with buf:=l }) n with
      |none=>none
      |some t2=>gW t2 n
theorem tK (h:t.dn n=some x):(cH t n y).dn n=some y:=by
 unfold Tr.dn at *
 split at h
 ·rename_i h0
  rw [ar h0]
  have:=(gH.1 h).1
  simp [cH,this]
 ·cases h
theorem lG {m:Int} (h0:0<=n) (h:m≠n):(cH t n y).dn m=t.dn m:=by
 unfold Tr.dn cH
 split
 ·simp only;rw [Az af]
 ·rfl
theorem TZ (h:t.dn n=some x):(jo t y).dn n=some x:=by
 unfold Tr.dn jo at *
 split at h
 ·rename_i h0
  rw [ar h0]
  simp only
  rw [zP (gH.1 h).1];exact h
 ·cases h
theorem TY:(jo t y).dn (t.nodes.length:Int)=some y:=by
 unfold Tr.dn jo;simp
theorem iI (t:Tr) (n:Int) (x:Nd):(cH t n x).nodes.length=t.nodes.length:=by simp [cH]
theorem Iz (t:Tr) (x:Nd):(jo t x).nodes.length=t.nodes.length+1:=by simp [jo]
theorem yG (t:Tr) (n:Int) (x:Nd):(cH t n x).root=t.root:=rfl
theorem Lt (t:Tr) (x:Nd):(jo t x).root=t.root:=rfl
end
section
variable {P:Int->Int->Int->List Int->Prop}
def Seg (P:Int->Int->Int->List Int->Prop):Int->Int->List Int->List Int->List (List Int)->Prop
 |lo,hi,[],[k],[l]=>P k lo hi l
 |lo,hi,key::keys,k::kids,l::ls=>P k lo key l/\Seg P key hi keys kids ls
 |_,_,_,_,_=>False
theorem Seg.len:∀{keys kids:List Int} {ls:List (List Int)} {lo hi:Int},Seg P lo hi keys kids ls->kids.length=keys.length+1/\ls.length=keys.length+1
 |[],[k],[l],_,_,_=>⟨rfl,rfl⟩
 |key::keys,k::kids,l::ls,_,_,h=>by have:=h.2.len;simp [this.1,this.2]
 |[],[],_,_,_,h=>h.elim
 |[],_::_::_,_,_,_,h=>by simp [Seg]at h
 |[],[_],[],_,_,h=>h.elim
 |[],[_],_::_::_,_,_,h=>by simp [Seg]at h
 |_::_,[],_,_,_,h=>by simp [Seg]at h
 |_::_,_::_,[],_,_,h=>by simp [Seg]at h
theorem IQ (key:Int) (keys:List Int) (lo:Int) (j:Nat):fr (key::keys) lo (j+1)=fr keys key j:=by
 unfold fr
 cases j with
 |zero=>simp
 |succ j=>simp
theorem Ig (key:Int) (keys:List Int) (hi:Int) (j:Nat):up (key::keys) hi (j+1)=up keys hi j:=by
 unfold up;simp
theorem Ll {P:Int->Int->Int->List Int->Prop}:∀{keys kids:List Int} {ls:List (List Int)} {lo hi:Int},kids.length=keys.length+1->ls.length=kids.length ->
  (∀(j:Nat) (k:Int) (lj:List Int),kids[j]?=some k->ls[j]?=some lj->P k (fr keys lo j) (up keys hi j) lj)->Seg P lo hi keys kids ls
 |[],[k],[l],lo,hi,_,_,h=>h 0 k l rfl rfl
 |key::keys,k::kids,l::ls,lo,hi,h1,h2,h=>by
  refine⟨?_,Ll (by simpa using h1) (by simpa using h2) fun j k' lj hj nG=>?_⟩
  ·have:=h 0 k l rfl rfl
   simpa [fr,up] using this
  ·have:=h (j+1) k' lj (by simpa using hj) (by simpa using nG)
   rwa [IQ,Ig]at this
 |[],[],_,_,_,h1,_,_=>by simp at h1
 |[],_::_::_,_,_,_,h1,_,_=>by simp at h1
 |[],[_],[],_,_,_,h2,_=>by simp at h2
 |[],[_],_::_::_,_,_,_,h2,_=>by simp at h2
 |_::_,[],_,_,_,h1,_,_=>by simp at h1
 |_::_,_::_,[],_,_,_,h2,_=>by simp at h2
theorem Seg.bounds (hlt:∀k a b l,P k a b l->a<b):∀{keys kids:List Int} {ls:List (List Int)} {lo hi:Int},Seg P lo hi keys kids ls->lo<hi/\keys.Pairwise (·<·)/\(∀k∈keys,lo<k/\k<hi)
 |[],[k],[l],_,_,h=>⟨hlt _ _ _ _ h,List.Pairwise.nil,fun _ h=>by cases h⟩
 |key::keys,k::kids,l::ls,lo,hi,h=>by
  have h1:=hlt _ _ _ _ h.1
  obtain⟨h2,h3,h4⟩:=h.2.bounds hlt
  refine⟨af,rz.2 ⟨fun y hy=>(h4 y hy).1,h3⟩,fun y hy=>?_⟩
  rcases fc.1 hy with rfl|hy
  ·omega
  ·have:=h4 y hy;omega
 |[],[],_,_,_,h=>h.elim
 |[],_::_::_,_,_,_,h=>by simp [Seg]at h
 |[],[_],[],_,_,h=>h.elim
 |[],[_],_::_::_,_,_,h=>by simp [Seg]at h
 |_::_,[],_,_,_,h=>by simp [Seg]at h
 |_::_,_::_,[],_,_,h=>by simp [Seg]at h
theorem Seg.at {P:Int->Int->Int->List Int->Prop} (hlt:∀k a b l,P k a b l->a<b):∀{keys kids:List Int} {ls:List (List Int)} {lo hi:Int},Seg P lo hi keys kids ls ->
  ∀(j:Nat) (k:Int) (lj:List Int),kids[j]?=some k->ls[j]?=some lj->lo<=fr keys lo j/\up keys hi j<=hi/\P k (fr keys lo j) (up keys hi j) lj
 |[],[k],[l],lo,hi,h,j,k',lj,hj,nG=>by
  cases j with
  |zero=>
   simp only [List.getElem?_cons_zero,iE]at hj nG
   subst hj nG
   exact⟨by simp [fr],by simp [up],by simpa [fr,up,Seg] using h⟩
  |succ j=>simp at hj
 |key::keys,k::kids,l::ls,lo,hi,h,j,k',lj,hj,nG=>by
  have h1:=hlt _ _ _ _ h.1
  have h2:=h.2.bounds hlt
  cases j with
  |zero=>
   simp only [List.getElem?_cons_zero,iE]at hj nG
   subst hj nG
   exact⟨by simp [fr],by simp [up];omega,by simpa [fr,up] using h.1⟩
  |succ j=>
   obtain⟨g1,g2,g3⟩:=h.2.at hlt j k' lj (by simpa using hj) (by simpa using nG)
   rw [IQ,Ig]
   exact⟨af,g2,g3⟩
 |[],[],_,_,_,h,_,_,_,_,_=>h.elim
 |[],_::_::_,_,_,_,h,_,_,_,_,_=>by simp [Seg]at h
 |[],[_],[],_,_,h,_,_,_,_,_=>h.elim
 |[],[_],_::_::_,_,_,h,_,_,_,_,_=>by simp [Seg]at h
 |_::_,[],_,_,_,h,_,_,_,_,_=>by simp [Seg]at h
 |_::_,_::_,[],_,_,h,_,_,_,_,_=>by simp [Seg]at h
theorem Seg.mono {P':Int->Int->Int->List Int->Prop}:∀{keys kids:List Int} {ls:List (List Int)} {lo hi:Int},Seg P lo hi keys kids ls->(∀k a b l,l∈ls->P k a b l->P' k a b l)->Seg P' lo hi keys kids ls
 |[],[k],[l],_,_,h,hp=>hp _ _ _ _ bq h
 |key::keys,k::kids,l::ls,_,_,h,hp=>⟨hp _ _ _ _ bq h.1,h.2.mono fun k a b l' hl=>hp k a b l' (by simp [hl])⟩
 |[],[],_,_,_,h,_=>h.elim
 |[],_::_::_,_,_,_,h,_=>by simp [Seg]at h
 |[],[_],[],_,_,h,_=>h.elim
 |[],[_],_::_::_,_,_,h,_=>by simp [Seg]at h
 |_::_,[],_,_,_,h,_=>by simp [Seg]at h
 |_::_,_::_,[],_,_,h,_=>by simp [Seg]at h
theorem Gj (key:Int) (keys:List Int) (x:Int):aX (key::keys) x=if key<=x then aX keys x+1 else 0:=by
 unfold aX
 by_cases h:key<=x
 ·rw [ar h,List.takeWhile_cons_of_pos (by simpa using h),fR]
 ·rw [ai h,List.takeWhile_cons_of_neg (by simpa using h)];rfl
theorem Seg.zip (hlt:∀k a b l,P k a b l->a<b) {x:Int}:∀{keys kids:List Int} {ls:List (List Int)} {lo hi:Int},Seg P lo hi keys kids ls->lo<=x->x<hi ->
  ∃(k a b:Int) (l:List Int) (L1 L2:List (List Int)),kids[aX keys x]?=some k/\P k a b l/\a<=x/\x<b/\lo<=a/\b<=hi/\ls=L1++l::L2/\aX keys x<=keys.length /\
   (∀(P':Int->Int->Int->List Int->Prop) (l':List Int),(∀k a b l,l∈L1++L2->P k a b l->P' k a b l)->P' k a b l'->Seg P' lo hi keys kids (L1++l'::L2)) /\
   (∀(P':Int->Int->Int->List Int->Prop) (l1 l2:List Int) (more key:Int),(∀k a b l,l∈L1++L2->P k a b l->P' k a b l)->P' k a key l1->P' more key b l2 ->
    Seg P' lo hi (keys.take (aX keys x)++key::keys.drop (aX keys x)) (kids.take (aX keys x+1)++more::kids.drop (aX keys x+1)) (L1++l1::l2::L2))
 |[],[k],[l],lo,hi,h,h1,h2=>⟨k,lo,hi,l,[],[],rfl,h,h1,h2,Int.le_refl _,Int.le_refl _,rfl,kK _,fun P' l' _ h=>h,fun P' l1 l2 more key _ g1 g2=>⟨g1,g2⟩⟩
 |key::keys,k::kids,l::ls,lo,hi,h,h1,h2=>by
  rw [Gj]
  by_cases hk:key<=x
  ·rw [ar hk]
   have:=hlt _ _ _ _ h.1
   obtain⟨k',a,b,l',L1,L2,e1,e2,e3,e4,e5,e6,rfl,e8,e9,e10⟩:=h.2.zip hlt hk h2
   refine⟨k',a,b,l',l::L1,L2,by simpa using e1,e2,e3,e4,af,e6,rfl,by simp;omega,fun P' l'' g1 g2=>?_,fun P' l1 l2 more key' g1 g2 g3=>?_⟩
   ·exact⟨g1 _ _ _ _ bq h.1,e9 P' l'' (fun k a b l hl=>g1 k a b l (by simp at hl ⊢;exact .inr hl)) g2⟩
   ·have:=e10 P' l1 l2 more key' (fun k a b l hl=>g1 k a b l (by simp at hl ⊢;exact .inr hl)) g2 g3
    rw [List.take_succ_cons,List.take_succ_cons,List.drop_succ_cons,List.drop_succ_cons]
    exact⟨g1 _ _ _ _ bq h.1,this⟩
  ·rw [ai hk]
   have hb:=h.2.bounds hlt
   refine⟨k,lo,key,l,[],ls,rfl,h.1,h1,af,Int.le_refl _,af,rfl,bq,fun P' l' g1 g2=>?_,fun P' l1 l2 more key' g1 g2 g3=>?_⟩
   ·exact⟨g2,h.2.mono fun k a b l hl=>g1 k a b l (by simpa using hl)⟩
   ·exact⟨g2,g3,h.2.mono fun k a b l hl=>g1 k a b l (by simpa using hl)⟩
 |[],[],_,_,_,h,_,_=>h.elim
 |[],_::_::_,_,_,_,h,_,_=>by simp [Seg]at h
 |[],[_],[],_,_,h,_,_=>h.elim
 |[],[_],_::_::_,_,_,h,_,_=>by simp [Seg]at h
 |_::_,[],_,_,_,h,_,_=>by simp [Seg]at h
 |_::_,_::_,[],_,_,h,_,_=>by simp [Seg]at h
theorem Seg.part {keys kids:List Int} {ls:List (List Int)} {lo hi:Int} (h:Seg P lo hi keys kids ls) (h4:keys.length=4) :
  Seg P lo (keys.getD 1 0) (keys.take 1) (kids.take 2) (ls.take 2)/\Seg P (keys.getD 1 0) hi (keys.drop 2) (kids.drop 2) (ls.drop 2):=by
 have hl:=h.len
 match keys,kids,ls,h4,hl,h with
 |[a,b,c,d],[k1,k2,k3,k4,k5],[l1,l2,l3,l4,l5],_,_,h=>
  obtain⟨g1,g2,g3,g4,g5⟩:=h
  exact⟨⟨g1,g2⟩,g3,g4,g5⟩
end
section
variable {x e:aA} {lo hi n:Int} {a b c l E:List aA} {L L':List Int} {d:Nat} {t t':Tr}
def gI (a b:List aA):Prop:=aT a/\aT b/\∀k,look a k=look b k
theorem gI.refl (h:aT a):gI a a:=⟨h,h,fun _=>rfl⟩
theorem gI.trans (h:gI a b) (h':gI b c):gI a c:=⟨h.1,h'.2.1,fun k=>(h.2.2 k).trans (h'.2.2 k)⟩
theorem gI.symm (h:gI a b):gI b a:=⟨h.2.1,h.1,fun k=>(h.2.2 k).symm⟩
theorem gI.perm (h:a.Perm b) (ha:aT a):gI a b:=⟨ha,fun e he=>ha e (h.mem_iff.2 he),fun k=>o9 h ha.dm k⟩
theorem gI.append {d:List aA} (h:gI a b) (h':gI c d):gI (a++c) (b++d):=
 ⟨bn.2 ⟨h.1,h'.1⟩,bn.2 ⟨h.2.1,h'.2.1⟩,fun k=>by rw [l8 h.1.dm h'.1.dm,l8 h.2.1.dm h'.2.1.dm,h.2.2,h'.2.2]⟩
theorem Cn (h:aT l) (hx:x.is.Good):gI (ins l x) (x::l):=by
 refine⟨jc h hx,fun e he=>by rcases fc.1 he with rfl|he;exact hx;exact h e he,fun k=>?_⟩
 rw [pc h.dm (.inr hx)]
 simp only [look]
 rw [join_comm (cY h.dm k) (.inr hx)]
theorem gI.small (h:gI a b):Small a↔Small b:=by
 unfold Small;constructor <;> intro hs k
 ·rw [<-h.2.2];exact hs k
 ·rw [h.2.2];exact hs k
theorem Fx (h:Small (a++b)) (g:aT (a++b)):Small a:=fun k=>Int.le_trans (Iy (bn.1 g).1.dm (bn.1 g).2.dm k) (h k)
theorem rJ (h:Small c) (g:aT c) (hp:(a++b).Perm c):Small a:=
 Fx ((na hp (fun e he=> .inr (g e (hp.mem_iff.1 he)))).2 h) fun e he=>g e (hp.mem_iff.1 he)
theorem jV.good (h:jV e):e.is.Good:=(cj h.2.1 h.1).1
theorem jV.le (h:jV e):e.is.c<=1073741824:=(cj h.2.1 h.1).2
theorem BV (hr:vk l) (he:jV e) (hs:Small (e::l)):xK l e=some (ins l e)/\Checked (ins l e)/\(ins l e).length<=l.length+1:=by
 have h1:(look l e.key).c+e.is.c<=1073741824:=by
  have:=hs e.key
  simp only [look,ar trivial,dC]at this
  omega
 have h2:=xW hr.1 he.le
 rw [ar h1]at h2
 refine⟨?_,qV hr.1 hr.2.1 he.good h1,DL h2⟩
 unfold xK
 rw [ar ⟨hr,he⟩,h2]
theorem JO (hl:∀e∈l,lo<=e.key/\e.key<hi) (hx:lo<=x.key/\x.key<hi):∀e∈ins l x,lo<=e.key/\e.key<hi:=fun e he=>by
 rcases qU he with h|⟨z,hz,hk⟩
 ·rw [h];exact hx
 ·rw [<-hk];exact hl z hz
theorem Gm (hl:dF l lo hi) (hx:lo<=x.key/\x.key<hi) (hc:Checked (ins l x)):dF (ins l x) lo hi:=⟨hc,JO hl.2.1 hx,jF hl.2.2⟩
theorem dF.row (h:dF l lo hi) (h0:0<=lo) (h1:hi<=1099511627776) (hl:l.length<=20):vk l:=⟨h.2.2,h.1,fun e he=>by have:=h.2.1 e he;omega,hl⟩
theorem Mh:ins l x≠[]:=by
 cases l with
 |nil=>simp [ins]
 |cons e l=>unfold ins;split <;> (try split) <;> simp
def CP (x:Nd):Nat:=if x.leaf=true then max 3 x.aF.length else x.buf.length
def UJ (t:Tr) (m:Int):Nat:=match t.dn m with|none=>0|some x=>CP x
def wt (t:Tr) (l:List Int):Nat:=(l.map (UJ t)).sum
theorem lh (t:Tr) (a b:List Int):wt t (a++b)=wt t a+wt t b:=by simp [wt]
theorem mI (t:Tr) (n:Int) (b:List Int):wt t (n::b)=UJ t n+wt t b:=by simp [wt]
theorem pF {l:List Int} (h:∀m∈l,t'.dn m=t.dn m):wt t' l=wt t l:=by
 unfold wt
 congr 1
 exact List.map_congr_left fun m hm=>by unfold UJ;rw [h m hm]
theorem zy {f g:Int->List aA}:∀{l:List Int},(∀m∈l,f m=g m)->l.flatMap f=l.flatMap g
 |[],_=>rfl
 |a::l,h=>by rw [gG,gG,h a bq,zy fun m hm=>h m (by simp [hm])]
theorem of_same {l:List Int} (h:∀m∈l,t'.dn m=t.dn m):l.flatMap t'.of=l.flatMap t.of:=
 zy fun m hm=>by unfold Tr.of;rw [h m hm]
theorem ni {x:Nd} (h:t.dn n=some x):t.of n=x.aF++x.buf:=by unfold Tr.of;rw [h]
theorem od {x:Nd} (h:t.dn n=some x):UJ t n=CP x:=by unfold UJ;rw [h]
structure Prog (t t':Tr) (L L':List Int) (E:List aA) (d:Nat):Prop where
 root:t'.root=t.root
 Mb:t.nodes.length<=t'.nodes.length
 Gb:t'.nodes.length<=t.nodes.length+d
 old:∀m:Int,m∉L->m<t.nodes.length->t'.dn m=t.dn m
 mem:∀m:Int,m∈L'↔m∈L\/((t.nodes.length:Int)<=m/\m<t'.nodes.length)
 nd:L'.Nodup
 ev:gI (L'.flatMap t'.of) (E++L.flatMap t.of)
 wt:wt t' L'<=wt t L+E.length
theorem Prog.refl (hn:L.Nodup) (hg:aT (L.flatMap t.of)):Prog t t L L [] 0:=
 ⟨rfl,kK _,kK _,fun _ _ _=>rfl,fun m=>⟨.inl,fun h=>h.elim id fun h=>af⟩,hn,gI.refl hg,kK _⟩
theorem Prog.trans {t1 t2:Tr} {L1 L2:List Int} {E1 E2:List aA} {d1 d2:Nat} (h1:Prog t t1 L L1 E1 d1) (h2:Prog t1 t2 L1 L2 E2 d2):Prog t t2 L L2 (E1++E2) (d1+d2):=by
 have a0:=h1.Mb
 have a1:=h1.Gb
 have b0:=h2.Mb
 have b1:=h2.Gb
 refine⟨h2.root.trans h1.root,af,af,fun m hm hl=>?_,fun m=>?_,h2.nd,?_,?_⟩
 ·rw [h2.old m (fun h=>by rcases (h1.mem m).1 h with h|h;exact hm h;omega) af,h1.old m hm hl]
 ·rw [h2.mem,h1.mem]
  constructor
  ·rintro((h|h)|h)
   ·exact .inl h
   ·exact .inr ⟨h.1,af⟩
   ·exact .inr ⟨af,h.2⟩
  ·rintro(h|h)
   ·exact .inl (.inl h)
   ·by_cases hm:m<t1.nodes.length
    ·exact .inl (.inr ⟨h.1,hm⟩)
    ·exact .inr ⟨af,h.2⟩
 ·refine(h2.ev.trans ((gI.refl (bn.1 h2.ev.2.1).1).append h1.ev)).trans (gI.perm ?_ ?_)
  ·rw [<-jn]
   exact List.Perm.append_right _ (List.perm_append_comm)
  ·exact bn.2 ⟨(bn.1 h2.ev.2.1).1,h1.ev.2.1⟩
 ·have:=h1.wt
  have:=h2.wt
  rw [eP];omega
def Z5 (a b:aA):Nat:=List.count a [b]
theorem py (a b:aA) (l:List aA):List.count a (b::l)=Z5 a b+List.count a l:=List.count_append (l₁:=[b]) (l₂:=l)
theorem Prog.small {F:List aA} (h:Prog t t' L L' E d) (gF:aT F) (hs:Small (E++F++L.flatMap t.of)):Small (F++L'.flatMap t'.of):=by
 have e1:=(gI.refl gF).append h.ev
 refine(e1.trans (gI.perm (b:=E++F++L.flatMap t.of) ?_ e1.2.1)).small.2 hs
 refine zO.2 fun a=>?_
 simp only [List.count_append];omega
theorem Prog.bJ (h:Prog t t' L L' E d):aT (L'.flatMap t'.of):=h.ev.1
theorem Prog.more {d':Nat} (h:Prog t t' L L' E d) (hd:d<=d'):Prog t t' L L' E d':=⟨h.root,h.Mb,by have:=h.Gb;omega,h.old,h.mem,h.nd,h.ev,h.wt⟩
theorem Prog.part {l l' A B:List Int} (h:Prog t t' l l' E d) (hn:(A++(l++B)).Nodup) (hlt:∀m∈A++B,m<(t.nodes.length:Int)) (hg:aT ((A++B).flatMap t.of)):Prog t t' (A++(l++B)) (A++(l'++B)) E d/\(∀m∈A++B,t'.dn m=t.dn m):=by
 have Gy:=hn
 rw [List.nodup_append,List.nodup_append]at Gy
 obtain⟨n1,⟨n2,n3,n4⟩,n5⟩:=Gy
 have hoff:∀m∈A++B,m∉l:=fun m hm hl=>by
  rcases kI.1 hm with hm|hm
  ·exact n5 m hm m (by simp [hl]) rfl
  ·exact n4 m hl m hm rfl
 have hsame:∀m∈A++B,t'.dn m=t.dn m:=fun m hm=>h.old m (hoff m hm) (hlt m hm)
 have hA:∀m∈A,t'.dn m=t.dn m:=fun m hm=>hsame m (by simp [hm])
 have hB:∀m∈B,t'.dn m=t.dn m:=fun m hm=>hsame m (by simp [hm])
 have hl':∀m∈A++B,m∉l':=fun m hm hl=>by
  rcases (h.mem m).1 hl with h'|h'
  ·exact hoff m hm h'
  ·have:=hlt m hm;omega
 refine⟨⟨h.root,h.Mb,h.Gb,fun m hm hl=>h.old m (fun hm'=>hm (by simp [hm'])) hl,fun m=>?_,?_,?_,?_⟩,hsame⟩
 ·simp only [kI]
  rw [h.mem]
  constructor
  ·rintro(h|(h|h)|h)
   ·exact .inl (.inl h)
   ·exact .inl (.inr (.inl h))
   ·exact .inr h
   ·exact .inl (.inr (.inr h))
  ·rintro((h|h|h)|h)
   ·exact .inl h
   ·exact .inr (.inl (.inl h))
   ·exact .inr (.inr h)
   ·exact .inr (.inl (.inr h))
 ·rw [List.nodup_append,List.nodup_append]
  refine⟨n1,⟨h.nd,n3,fun a ha b hb hab=>?_⟩,fun a ha b hb hab=>?_⟩
  ·subst hab;exact hl' a (by simp [hb]) ha
  ·subst hab
   rcases kI.1 hb with hb|hb
   ·exact hl' a (by simp [ha]) hb
   ·exact n5 a ha a (by simp [hb]) rfl
 ·simp only [tM]at hg ⊢
  rw [of_same hA,of_same hB]
  have gA:=(bn.1 hg).1
  have gB:=(bn.1 hg).2
  have e1:=(gI.refl gA).append (h.ev.append (gI.refl gB))
  refine e1.trans (gI.perm ?_ e1.2.1)
  refine zO.2 fun a=>?_
  simp only [List.count_append];omega
 ·have:=h.wt
  rw [lh,lh,lh,lh,pF hA,pF hB];omega
theorem Prog.one {x y:Nd} (hx:t.dn n=some x) (hn:(n::L).Nodup) (hg:aT (L.flatMap t.of)) (he:gI (y.aF++y.buf) (E++(x.aF++x.buf))) (hw:CP y<=CP x+E.length) :
  Prog t (cH t n y) (n::L) (n::L) E 0/\∀m,m≠n->(cH t n y).dn m=t.dn m:=by
 have h0:=(xA hx).1
 have hne:∀m,m≠n->(cH t n y).dn m=t.dn m:=fun m hm=>lG h0 hm
 have hL:∀m∈L,(cH t n y).dn m=t.dn m:=fun m hm=>hne m fun e=>by subst e;exact(List.nodup_cons.1 hn).1 hm
 refine⟨⟨rfl,by rw [iI];omega,by rw [iI];omega,fun m hm _=>hne m fun e=>hm (by simp [e]),fun m=>?_,hn,?_,?_⟩,hne⟩
 ·rw [iI];exact⟨.inl,fun h=>h.elim id fun h=>af⟩
 ·rw [gG,gG,ni (tK hx),ni hx,of_same hL,<-jn]
  exact he.append (gI.refl hg)
 ·rw [mI,mI,od (tK hx),od hx,pF hL];omega
end
section
variable {e:aA} {n lo hi:Int} {ls:List (List Int)} {l:List Int} {h:Nat} {x:Nd} {t:Tr}
structure AE (t:Tr) (h:Nat) (n:Int) (x:Nd) (lo hi:Int) (ls:List (List Int)):Prop where
 pos:0<h
 at':t.dn n=some x
 leaf:x.leaf=false
 aF:x.aF=[]
 two:2<=x.kids.length
 buf:dF x.buf lo hi
 Im:Seg (Sub t h) lo hi x.keys x.kids ls
 nd:(n::ls.flatten).Nodup
theorem sub_lt:∀k a b l,Sub t h k a b l->a<b:=fun _ _ _ _ h=>h.lt
theorem Sub.inn (hs:Sub t (h+1) n lo hi l) (hp:0<h) (hn:l.Nodup):∃x ls,AE t h n x lo hi ls/\l=n::ls.flatten/\x.kids.length<=4/\x.buf.length<=8:=by
 obtain⟨x,hx,hlt,⟨h0,_⟩|⟨_,h1,h2,ls,h3,rfl,h4⟩⟩:=hs
 ·omega
 ·exact⟨x,ls,⟨hp,hx,h1,h2.1,h2.2.1,h2.2.2.2.2.2,Ll (by have:=h2.2.2.2.1;omega) h3 fun j k lj hj nG=>(h4 j k lj hj nG).2.2,hn⟩,rfl,h2.2.2.1,h2.2.2.2.2.1⟩
theorem AE.sub (hi':AE t h n x lo hi ls) (h4:x.kids.length<=4) (h8:x.buf.length<=8):Sub t (h+1) n lo hi (n::ls.flatten):=by
 have hl:=hi'.Im.len
 exact⟨x,hi'.at',(hi'.Im.bounds sub_lt).1, .inr ⟨hi'.pos,hi'.leaf,⟨hi'.aF,hi'.two,h4,af,h8,hi'.buf⟩,ls,af,rfl,hi'.Im.at sub_lt⟩⟩
theorem AE.mem (hi':AE t h n x lo hi ls):∀m∈n::ls.flatten,0<=m/\m<(t.nodes.length:Int):=fun m hm=>by
 rcases fc.1 hm with rfl|hm
 ·exact xA hi'.at'
 ·obtain⟨lj,nG,CJ⟩:=List.mem_flatten.1 hm
  obtain⟨j,hj,rfl⟩:=kW nG
  have hl:=hi'.Im.len
  have hjk:j<x.kids.length:=af
  obtain⟨y,hy⟩:=(hi'.Im.at sub_lt j _ _ (oL hjk) (oL hj)).2.2.mem.2 m CJ
  exact xA hy
theorem AE.keys (hi':AE t h n x lo hi ls):x.keys.Pairwise (·<·):=(hi'.Im.bounds sub_lt).2.1
theorem AE.FB (hi':AE t h n x lo hi ls) {B:List aA} (hB:dF B lo hi):AE (cH t n { x with buf:=B }) h n { x with buf:=B } lo hi ls:=by
 have h0:=(xA hi'.at').1
 refine⟨hi'.pos,tK hi'.at',hi'.leaf,hi'.aF,hi'.two,hB,hi'.Im.mono fun k a b l hl hs=>hs.frame (yG _ _ _) fun m hm=>lG h0 fun e=>?_,hi'.nd⟩
 subst e
 exact(List.nodup_cons.1 hi'.nd).1 (List.mem_flatten.2 ⟨l,hl,hm⟩)
def I6 (put:Tr->Int->aA->Option (Tr×Int×Int)) (h d:Nat):Prop:=∀(t:Tr) (n lo hi:Int) (l:List Int) (e:aA),Sub t h n lo hi l->l.Nodup->jV e->lo<=e.key->e.key<hi->0<=lo->hi<=1099511627776 ->
 aT (l.flatMap t.of)->Small (e::l.flatMap t.of)->t.nodes.length+d<=1000000000000->∃t' more key l',put t n e=some (t',more,key)/\Prog t t' l l' [e] d /\
  ((more = -1/\Sub t' h n lo hi l')\/(0<=more/\∃l1 l2,l'=l1++l2/\Sub t' h n lo key l1/\Sub t' h more key hi l2/\∀x,t'.dn n=some x->x.leaf=true->x.aF≠[]))
theorem qY {L1 L2:List (List Int)}:n::(L1++l::L2).flatten=(n::L1.flatten)++(l++L2.flatten):=bq
theorem PD {put:Tr->Int->aA->Option (Tr×Int×Int)} {d:Nat} (hp:I6 put h d) (hi':AE t h n x lo hi ls) (he:jV e) (h1:lo<=e.key) (h2:e.key<hi) (h0:0<=lo) (hh:hi<=1099511627776)
  (hg:aT ((n::ls.flatten).flatMap t.of)) (hs:Small (e::(n::ls.flatten).flatMap t.of)) (hn:t.nodes.length+d<=1000000000000) (h4:x.kids.length<=4) :
  ∃k t1 more key t2 y Ix,x.kids[aX x.keys e.key]?=some k/\put t k e=some (t1,more,key) /\
   Gk t1 n (aX x.keys e.key) more key=some t2/\AE t2 h n y lo hi Ix/\y.kids.length<=x.kids.length+1/\y.buf=x.buf/\Prog t t2 (n::ls.flatten) (n::Ix.flatten) [e] d:=by
 have hlen:=hi'.Im.len
 obtain⟨k,a,b,l,L1,L2,e1,e2,e3,e4,e5,e6,rfl,e8,e9,e10⟩:=hi'.Im.zip sub_lt h1 h2
 have hnd:=hi'.nd
 have hmem:=hi'.mem
 rw [qY]at hnd hg hs hmem
 have hnl:l.Nodup:=(List.nodup_append.1 (List.nodup_append.1 hnd).2.1).1
 have hgl:aT (l.flatMap t.of):=by
  simp only [tM]at hg
  exact(bn.1 (bn.1 hg).2).1
 have hgA:aT (((n::L1.flatten)++L2.flatten).flatMap t.of):=by
  simp only [tM]at hg ⊢
  exact bn.2 ⟨(bn.1 hg).1,(bn.1 (bn.1 hg).2).2⟩
 have hsl:Small (e::l.flatMap t.of):=by
  refine rJ (b:=((n::L1.flatten)++L2.flatten).flatMap t.of) hs (fun y hy=>by rcases fc.1 hy with rfl|hy;exact he.good;exact hg y hy) ?_
  rw [List.cons_append]
  refine List.Perm.cons _ ?_
  simp only [tM]
  rw [<-jn,<-jn]
  exact List.Perm.append_right _ List.perm_append_comm
 obtain⟨t1,more,key,l',p1,p2,p3⟩:=hp t k a b l e e2 hnl he e3 e4 af af hgl hsl hn
 obtain⟨q1,q2⟩:=p2.part hnd (fun m hm=>(hmem m (by rcases kI.1 hm with hm|hm;exact List.mem_append_left _ hm;exact List.mem_append_right _ (List.mem_append_right _ hm))).2) hgA
 have hx1:t1.dn n=some x:=(q2 n bq).trans hi'.at'
 have ye:∀k a b l,l∈L1++L2->Sub t h k a b l->Sub t1 h k a b l:=fun k a b l hl hs=>hs.frame p2.root fun m hm=>q2 m (by
  rcases kI.1 hl with hl|hl
  ·exact List.mem_append_left _ (List.mem_cons_of_mem _ (List.mem_flatten.2 ⟨l,hl,hm⟩))
  ·exact List.mem_append_right _ (List.mem_flatten.2 ⟨l,hl,hm⟩))
 rcases p3 with ⟨rfl,g1⟩|⟨g0,l1,l2,rfl,g1,g2,-⟩
 ·refine⟨k,t1,-1,key,t1,x,L1++l'::L2,e1,p1,by unfold Gk;rw [ar af],?_,af,rfl,?_⟩
  ·exact⟨hi'.pos,hx1,hi'.leaf,hi'.aF,hi'.two,hi'.buf,e9 (Sub t1 h) l' ye g1,by rw [qY];exact q1.nd⟩
  ·rw [qY,qY];exact q1
 ·have hfl:n::(L1++l1::l2::L2).flatten=(n::L1.flatten)++((l1++l2)++L2.flatten):=bq
  have Gx:=q1.nd
  rw [<-hfl]at Gx
  have hn0:=(xA hx1).1
  have hseg:=e10 (Sub t1 h) l1 l2 more key ye g1 g2
  refine⟨k,t1,more,key,cH t1 n { x with keys:=x.keys.take (aX x.keys e.key)++key::x.keys.drop (aX x.keys e.key),kids:=x.kids.take (aX x.keys e.key+1)++more::x.kids.drop (aX x.keys e.key+1) },
   {x with keys:=x.keys.take (aX x.keys e.key)++key::x.keys.drop (aX x.keys e.key),kids:=x.kids.take (aX x.keys e.key+1)++more::x.kids.drop (aX x.keys e.key+1) },L1++l1::l2::L2,e1,p1,?_,?_,?_,rfl,?_⟩
  ·unfold Gk
   rw [ai af,hx1]
   simp only
   rw [ar ⟨e8,af,af,af⟩]
  ·refine⟨hi'.pos,tK hx1,hi'.leaf,hi'.aF,?_,hi'.buf,hseg.mono fun k a b l hl hs=>hs.frame (yG _ _ _) fun m hm=>lG hn0 fun e=>?_,Gx⟩
   ·have:=hi'.two;simp;omega
   ·subst e
    exact(List.nodup_cons.1 Gx).1 (List.mem_flatten.2 ⟨l,hl,hm⟩)
  ·simp;omega
  ·rw [hfl,qY]
   have hgq:aT ((L1++l1::l2::L2).flatten.flatMap t1.of):=by
    have:=q1.ev.1
    rw [<-hfl,gG]at this
    exact(bn.1 this).2
   have hgx:aT (x.aF++x.buf):=by
    have:=q1.ev.1
    rw [<-hfl,gG,ni hx1]at this
    exact(bn.1 this).1
   have:=(Prog.one (y:={ x with keys:=x.keys.take (aX x.keys e.key)++key::x.keys.drop (aX x.keys e.key),kids:=x.kids.take (aX x.keys e.key+1)++more::x.kids.drop (aX x.keys e.key+1) }) (E:=[]) hx1 Gx hgq (gI.refl hgx) (by unfold CP;simp)).1
   rw [hfl]at this
   have:=q1.trans this
   simpa using this
theorem Da {h:Nat} {n:Int} {lo hi:Int} {ls:List (List Int)} (h0:0<=lo) (hh:hi<=1099511627776):∀(rs:List aA) (t:Tr) (x:Nd),AE t h n x lo hi ls->(∀e∈rs,jV e/\lo<=e.key/\e.key<hi)->x.buf.length+rs.length<=20 ->
  aT ((n::ls.flatten).flatMap t.of)->Small (rs++(n::ls.flatten).flatMap t.of)->∃t' y,rs.foldlM (oQ n) t=some t'/\AE t' h n y lo hi ls/\y.kids=x.kids/\y.buf.length<=x.buf.length+rs.length/\Prog t t' (n::ls.flatten) (n::ls.flatten) rs 0
 |[],t,x,hi',_,_,hg,_=>⟨t,x,rfl,hi',rfl,bq,Prog.refl hi'.nd hg⟩
 |e::rs,t,x,hi',he,hl,hg,hs=>by
  obtain⟨h1,h2,h3⟩:=he e bq
  have WL:aT (x.aF++x.buf)/\aT (ls.flatten.flatMap t.of):=by
   rw [gG,ni hi'.at']at hg
   exact bn.1 hg
  have hgr:aT (e::rs):=fun y hy=>(he y hy).1.good
  have Mx:Small (e::x.buf):=by
   refine rJ (b:=rs++(x.aF++ls.flatten.flatMap t.of)) hs (bn.2 ⟨hgr,hg⟩) ?_
   rw [gG,ni hi'.at']
   refine zO.2 fun a=>?_
   simp only [List.count_append,py];omega
  obtain⟨g1,g2,g3⟩:=BV (hi'.buf.row h0 hh (by simp at hl;omega)) h1 Mx
  have hi2:=hi'.FB (Gm hi'.buf ⟨h2,h3⟩ g2)
  have gb:aT x.buf:=hi'.buf.1.bJ
  have ev:gI (x.aF++ins x.buf e) ([e]++(x.aF++x.buf)):=by
   have e1:=(gI.refl (bn.1 WL.1).1).append (Cn gb h1.good)
   refine e1.trans (gI.perm ?_ e1.2.1)
   refine zO.2 fun a=>?_
   simp only [List.count_append,py,List.count_nil];omega
  have pr:=(Prog.one (y:={ x with buf:=ins x.buf e }) (E:=[e]) hi'.at' hi'.nd WL.2 ev (by unfold CP;simp only [hi'.leaf];simpa using g3)).1
  obtain⟨t',y,k1,k2,k3,k4,k5⟩:=Da h0 hh rs _ _ hi2 (fun y hy=>he y (by simp [hy])) (by show (ins x.buf e).length+rs.length<=20;simp at hl;omega) pr.bJ (pr.small (F:=rs) (fun y hy=>hgr y (by simp [hy])) (by simpa using hs))
  refine⟨t',y,?_,k2,k3,by simp at k4 ⊢;omega,by simpa using pr.trans k5⟩
  rw [List.foldlM_cons]
  have:oQ n t e=some (cH t n { x with buf:=ins x.buf e }):=by unfold oQ;rw [hi'.at'];simp only;rw [g1];rfl
  rw [this];exact k1
theorem Eo {pre:List aA} {ds:List aA} (h:aV (pre++e::ds)):(pre++e::ds).filter (fun d=>decide (e.key<d.key))=ds:=by
 have h1:=List.pairwise_append.1 h
 have h2:=rz.1 h1.2.1
 rw [sw,sx bq,List.filter_eq_nil_iff.2 fun y hy=>?_,List.nil_append,List.filter_eq_self.2 fun y hy=>?_]
 ·simpa using h2.1 y hy
 ·have:=h1.2.2 y hy e bq;simp;omega
theorem ED {put:Tr->Int->aA->Option (Tr×Int×Int)} {h d:Nat} {n:Int} {lo hi:Int} (hp:I6 put h d) (h0:0<=lo) (hh:hi<=1099511627776) {all:List aA} (hr:aV all) :
  ∀(ds pre:List aA) (t:Tr) (x:Nd) (ls:List (List Int)),all=pre++ds->AE t h n x lo hi ls->(∀e∈ds,jV e/\lo<=e.key/\e.key<hi)->x.kids.length<=4->x.buf.length+ds.length<=20 ->
  aT ((n::ls.flatten).flatMap t.of)->Small (ds++(n::ls.flatten).flatMap t.of)->t.nodes.length+ds.length*d<=1000000000000 ->
  ∃t' y Ix,sL put n all ds t=some t'/\AE t' h n y lo hi Ix/\y.kids.length<=5/\y.buf.length<=x.buf.length+(ds.length-1)/\Prog t t' (n::ls.flatten) (n::Ix.flatten) ds (ds.length*d)
 |[],pre,t,x,ls,_,hi',_,h4,_,hg,_,_=>⟨t,x,ls,rfl,hi',af,bq,by simpa using Prog.refl hi'.nd hg⟩
 |e::ds,pre,t,x,ls,ha,hi',he,h4,hl,hg,hs,hn=>by
  obtain⟨h1,h2,h3⟩:=he e bq
  have hgr:aT (e::ds):=fun y hy=>(he y hy).1.good
  rw [fR,Nat.add_mul,Nat.one_mul]at hn
  have KQ:Small (e::(n::ls.flatten).flatMap t.of):=by
   refine rJ (b:=ds) hs (bn.2 ⟨hgr,hg⟩) ?_
   refine zO.2 fun a=>?_
   simp only [List.count_append,py];omega
  obtain⟨k,t1,more,key,t2,y,Ix,p1,p2,p3,p4,p5,p6,p7⟩:=PD hp hi' h1 h2 h3 h0 hh hg KQ af h4
  have hs2:Small (ds++(n::Ix.flatten).flatMap t2.of):=p7.small (F:=ds) (fun y hy=>hgr y (by simp [hy])) (by simpa using hs)
  have hlen:=p7.Gb
  unfold sL
  rw [hi'.at']
  simp only
  rw [ar ⟨hi'.keys,by have:=hi'.Im.len;omega,af⟩,p1]
  simp only
  rw [p2]
  simp only
  rw [p3]
  simp only
  rw [p4.at']
  simp only
  by_cases h5:y.kids.length<=4
  ·rw [ar h5]
   obtain⟨t',z,ls2,q1,q2,q3,q4,q5⟩:=ED hp h0 hh hr ds (pre++[e]) t2 y Ix (by simp [ha]) p4 (fun y hy=>he y (by simp [hy])) h5 (by rw [p6];simp at hl;omega) p7.bJ hs2 af
   refine⟨t',z,ls2,q1,q2,q3,by rw [p6]at q4;simp;omega,?_⟩
   have:=p7.trans q5
   rw [fR,Nat.add_mul,Nat.one_mul,Nat.add_comm]
   simpa using this
  ·rw [ai h5,ha,Eo (ha▸hr)]
   obtain⟨t',z,q1,q2,q3,q4,q5⟩:=Da h0 hh ds t2 y p4 (fun y hy=>he y (by simp [hy])) (by rw [p6];simp at hl;omega) p7.bJ hs2
   refine⟨t',z,Ix,q1,q2,by rw [q3];omega,by rw [p6]at q4;simp;omega,?_⟩
   have:=(p7.trans q5).more (d':=(e::ds).length*d) (by rw [fR,Nat.add_mul,Nat.one_mul];omega)
   simpa using this
end
section
variable {lo hi n key:Int} {ls:List (List Int)} {l:List aA} {h:Nat} {x:Nd} {t:Tr}
theorem Bp (m:Nat->Nat):∀(k j:Nat),j<k->m j<=m (iV m k)
 |0,_,h=>af
 |k+1,j,h=>by
  unfold iV
  by_cases hj:j=k
  ·subst hj;split <;> omega
  ·have:=Bp m k j af
   split <;> omega
theorem Kh (hk:x.keys.length<=3) (hb:x.buf≠[]):(x.buf.filter fun e=>decide (aX x.keys e.key=iV (iQ x) 4))≠[]:=fun h=>by
 obtain⟨e,he⟩:=List.exists_mem_of_ne_nil _ hb
 have h1:=Bp (iQ x) 4 (aX x.keys e.key) (by have:=qR x.keys e.key;omega)
 have h2:iQ x (iV (iQ x) 4)=0:=by unfold iQ at h ⊢;rw [h];rfl
 have h3:0<iQ x (aX x.keys e.key):=by
  unfold iQ
  exact List.length_pos_of_mem (js.2 ⟨he,bq⟩)
 omega
theorem LN (l:List aA) (p:aA->Bool):(l.filter fun e=>!p e).length+(l.filter p).length=l.length:=by
 induction l with
 |nil=>rfl
 |cons a l ih=>by_cases h:p a=true <;> simp [h] <;> omega
theorem JB (l:List aA) (p:aA->Bool):(l.filter p++l.filter fun e=>!p e).Perm l:=List.filter_append_perm p l
theorem dF.filter (h:dF l lo hi) (p:aA->Bool):dF (l.filter p) lo hi:=⟨fun e he=>h.1 e (js.1 he).1,fun e he=>h.2.1 e (js.1 he).1,h.2.2.filter _⟩
theorem dF.Vj (h:dF l lo hi) (h0:0<=lo) (hh:hi<=1099511627776):∀e∈l,jV e/\lo<=e.key/\e.key<hi:=fun e he=>by
 have h1:=h.1 e he
 have h2:=h.2.1 e he
 exact⟨⟨h1.1,h1.2,af,af⟩,h2.1,h2.2⟩
theorem J5 {put:Tr->Int->aA->Option (Tr×Int×Int)} {d:Nat} (hp:I6 put h d) (h0:0<=lo) (hh:hi<=1099511627776) (hi':AE t h n x lo hi ls)
  (h4:x.kids.length<=4) (hb:x.buf≠[]) (h9:x.buf.length<=9) (hg:aT ((n::ls.flatten).flatMap t.of)) (hs:Small ((n::ls.flatten).flatMap t.of)) (hn:t.nodes.length+9*d<=1000000000000) :
  ∃t' y Ix,oF put t n=some t'/\AE t' h n y lo hi Ix/\y.kids.length<=5/\y.buf.length<=8/\Prog t t' (n::ls.flatten) (n::Ix.flatten) [] (9*d):=by
 have hlen:=hi'.Im.len
 obtain⟨p,QT⟩:∃p:aA->Bool,p=fun e=>decide (aX x.keys e.key=iV (iQ x) 4):=⟨_,rfl⟩
 have hne:x.buf.filter p≠[]:=by rw [QT];exact Kh af hb
 have hpl:=LN x.buf p
 have hlp:0<(x.buf.filter p).length:=List.length_pos_iff.2 hne
 have hi1:=hi'.FB (hi'.buf.filter fun e=>!p e)
 have h0n:=(xA hi'.at').1
 have hsame:∀m∈ls.flatten,(cH t n { x with buf:=x.buf.filter fun e=>!p e }).dn m=t.dn m:=fun m hm=>lG h0n fun e=>by subst e;exact(List.nodup_cons.1 hi'.nd).1 hm
 have ef:(n::ls.flatten).flatMap t.of=(x.aF++x.buf)++ls.flatten.flatMap t.of:=by rw [gG,ni hi'.at']
 have ef1:(n::ls.flatten).flatMap (cH t n { x with buf:=x.buf.filter fun e=>!p e }).of=(x.aF++x.buf.filter fun e=>!p e)++ls.flatten.flatMap t.of:=by rw [gG,ni hi1.at',of_same hsame]
 have hperm:(x.buf.filter p++(n::ls.flatten).flatMap (cH t n { x with buf:=x.buf.filter fun e=>!p e }).of).Perm ((n::ls.flatten).flatMap t.of):=by
  rw [ef,ef1]
  have hq:=JB x.buf p
  refine zO.2 fun a=>?_
  have:=zO.1 hq a
  simp only [List.count_append]at this ⊢;omega
 have hg1:aT (x.buf.filter p++(n::ls.flatten).flatMap (cH t n { x with buf:=x.buf.filter fun e=>!p e }).of):=fun e he=>hg e (hperm.mem_iff.1 he)
 have hs1:=(na hperm hg1.dm).2 hs
 have zq:(x.buf.filter p).length*d<=9*d:=Nat.mul_le_mul_right _ af
 obtain⟨t',y,Ix,q1,q2,q3,q4,q5⟩:=ED hp h0 hh (all:=x.buf.filter p) (hi'.buf.2.2.filter _) (x.buf.filter p) [] _ _ ls rfl hi1 (fun e he=>hi'.buf.Vj h0 hh e (js.1 he).1) h4 (by simp only;omega) (bn.1 hg1).2 hs1 (by rw [iI];omega)
 refine⟨t',y,Ix,?_,q2,q3,by simp only at q4;omega,?_⟩
 ·unfold oF
  rw [hi'.at']
  simp only
  rw [ar ⟨hi'.keys,af,af,hi'.buf.1⟩]
  rw [QT]at q1
  exact q1
 ·have l0:=q5.Mb
  have l1:=q5.Gb
  rw [iI]at l0 l1
  refine⟨q5.root,l0,af,fun m hm hl=>?_,fun m=>?_,q5.nd,?_,?_⟩
  ·rw [q5.old m hm (by rw [iI];exact hl)]
   exact lG h0n fun e=>hm (by simp [e])
  ·have:=q5.mem m
   rw [iI]at this;exact this
  ·exact q5.ev.trans (gI.perm (by simpa using hperm) hg1)
  ·have hw:=q5.wt
   rw [mI _ n ls.flatten,od hi1.at',pF hsame]at hw
   rw [mI t,od hi'.at']
   unfold CP at hw ⊢
   simp only [hi'.leaf]at hw ⊢
   simp at hw ⊢;omega
theorem Pm {es:List aA} (hs:aV es) (t:Nat) (ht:t<es.length) (h:ic es key<=t):key<=es[t].key:=by
 have h1:=(ly (key:=key) hs).2.2 af
 by_cases he:ic es key=t
 ·subst he;exact h1
 ·have:=pz.1 hs (ic es key) t af ht af;omega
theorem dF.take (h:dF l lo hi):dF (l.take (ic l key)) lo key:=
 ⟨fun e he=>h.1 e (wH he),fun e he=>by
  obtain⟨i,hi,rfl⟩:=kW he
  rw [fw]at hi
  have:=h.2.1 _ (wH he)
  rw [wC]at this ⊢
  exact⟨this.1,(ly h.2.2).2.1 i af af⟩,h.2.2.sublist (List.take_sublist _ _)⟩
theorem dF.drop (h:dF l lo hi):dF (l.drop (ic l key)) key hi:=
 ⟨fun e he=>h.1 e (ve he),fun e he=>by
  have:=h.2.1 _ (ve he)
  obtain⟨i,hi,rfl⟩:=kW he
  rw [oJ]at hi
  rw [List.getElem_drop]at this ⊢
  exact⟨Pm h.2.2 _ af af,this.2⟩,h.2.2.sublist (List.drop_sublist _ _)⟩
theorem A0 {X Y:Nd} {A B:List Int} (hx:t.dn n=some x) (hn:(n::(A++B)).Nodup) (hlt:∀m∈A++B,m<(t.nodes.length:Int)) (hg:aT ((n::(A++B)).flatMap t.of))
  (hp:(X.aF++X.buf++(Y.aF++Y.buf)).Perm (x.aF++x.buf)) (hw:CP X+CP Y<=CP x) :
  Prog t (cH (jo t Y) n X) (n::(A++B)) ((n::A)++(t.nodes.length:Int)::B) [] 1/\(cH (jo t Y) n X).dn n=some X/\(cH (jo t Y) n X).dn (t.nodes.length:Int)=some Y/\∀m∈A++B,(cH (jo t Y) n X).dn m=t.dn m:=by
 have hr:=xA hx
 have k1:(cH (jo t Y) n X).dn n=some X:=tK (TZ hx)
 have k2:(cH (jo t Y) n X).dn (t.nodes.length:Int)=some Y:=(lG hr.1 af).trans TY
 have hl:(cH (jo t Y) n X).nodes.length=t.nodes.length+1:=by rw [iI,Iz]
 have hold:∀m:Int,m≠n->m<t.nodes.length->(cH (jo t Y) n X).dn m=t.dn m:=fun m hm hlm=>by
  rw [lG hr.1 hm]
  unfold Tr.dn jo
  by_cases h0:0<=m
  ·rw [ar h0,ar h0]
   simp only
   rw [zP af]
  ·rw [ai h0,ai h0]
 have xn:=List.nodup_cons.1 hn
 have k3:∀m∈A++B,(cH (jo t Y) n X).dn m=t.dn m:=fun m hm=>hold m (fun e=>xn.1 (e▸hm)) (hlt m hm)
 have kA:∀m∈A,(cH (jo t Y) n X).dn m=t.dn m:=fun m hm=>k3 m (by simp [hm])
 have kB:∀m∈B,(cH (jo t Y) n X).dn m=t.dn m:=fun m hm=>k3 m (by simp [hm])
 refine⟨⟨rfl,af,af,fun m hm hlm=>hold m (fun e=>hm (by simp [e])) hlm,fun m=>?_,?_,?_,?_⟩,k1,k2,k3⟩
 ·rw [hl]
  simp only [List.cons_append,fc,kI]
  constructor
  ·rintro(h|h|h|h)
   ·exact .inl (.inl h)
   ·exact .inl (.inr (.inl h))
   ·exact .inr af
   ·exact .inl (.inr (.inr h))
  ·rintro((h|h|h)|h)
   ·exact .inl h
   ·exact .inr (.inl h)
   ·exact .inr (.inr (.inr h))
   ·exact .inr (.inr (.inl af))
 ·have hab:=List.nodup_append.1 xn.2
  rw [List.nodup_append]
  refine⟨List.nodup_cons.2 ⟨fun h=>xn.1 (by simp [h]),hab.1⟩,List.nodup_cons.2 ⟨fun h=>by have:=hlt _ (List.mem_append_right A h);omega,hab.2.1⟩,fun a ha b hb e=>?_⟩
  subst e
  rcases fc.1 ha with rfl|ha <;> rcases fc.1 hb with rfl|hb
  ·omega
  ·exact xn.1 (by simp [hb])
  ·have:=hlt _ (List.mem_append_left B ha);omega
  ·exact hab.2.2 a ha a hb rfl
 ·have Mz:(((n::A)++(t.nodes.length:Int)::B).flatMap (cH (jo t Y) n X).of).Perm ((n::(A++B)).flatMap t.of):=by
   simp only [tM,gG]
   rw [of_same kA,of_same kB,ni k1,ni k2,ni hx]
   refine zO.2 fun a=>?_
   have:=zO.1 hp a
   simp only [List.count_append]at this ⊢;omega
  have hg2:aT (((n::A)++(t.nodes.length:Int)::B).flatMap (cH (jo t Y) n X).of):=fun e he=>hg e (Mz.mem_iff.1 he)
  exact gI.perm Mz hg2
 ·rw [lh,mI,mI,mI,lh,pF kA,pF kB,od k1,od k2,od hx]
  simp;omega
def Left (t':Tr) (h:Nat) (n lo hi more key:Int) (l':List Int):Prop:=(more = -1/\Sub t' h n lo hi l')\/(0<=more/\∃l1 l2,l'=l1++l2/\Sub t' h n lo key l1/\Sub t' h more key hi l2/\∀x,t'.dn n=some x->x.leaf=true->x.aF≠[])
theorem AP (h0:0<=lo) (hh:hi<=1099511627776) (hi':AE t h n x lo hi ls) (h5:x.kids.length<=5) (h8:x.buf.length<=8)
  (hg:aT ((n::ls.flatten).flatMap t.of)) (hn:t.nodes.length<=1000000000000):∃t' more key l',gW t n=some (t',more,key)/\Prog t t' (n::ls.flatten) l' [] 1/\Left t' (h+1) n lo hi more key l':=by
 have hlen:=hi'.Im.len
 by_cases h4:x.kids.length<=4
 ·refine⟨t,-1,0,n::ls.flatten,?_,(Prog.refl hi'.nd hg).more af, .inl ⟨rfl,hi'.sub h4 h8⟩⟩
  unfold gW
  rw [hi'.at']
  dsimp only
  rw [ai (by rw [hi'.leaf];simp),ar h4]
 ·have hk4:x.keys.length=4:=af
  obtain⟨s1,s2⟩:=hi'.Im.part hk4
  obtain⟨key,hkey⟩:=bw (x.keys.getD 1 0)
  have hb:=(hi'.Im.bounds sub_lt).2.2 key (by rw [<-hkey,List.getD_eq_getElem?_getD,oL af];simp)
  have hfl:ls.flatten=(ls.take 2).flatten++(ls.drop 2).flatten:=by rw [<-List.flatten_append,wG]
  have hnd:=hi'.nd
  have hmem:=hi'.mem
  rw [hkey]at s1 s2
  rw [hfl]at hnd hg hmem
  obtain⟨P,k1,k2,k3⟩:=A0 (X:=⟨false,[],x.keys.take 1,x.kids.take 2,x.buf.take (ic x.buf key)⟩) (Y:=⟨false,[],x.keys.drop 2,x.kids.drop 2,x.buf.drop (ic x.buf key)⟩) hi'.at' hnd (fun m hm=>(hmem m (by simp at hm ⊢;exact .inr hm)).2) hg
   (by rw [hi'.aF];simp) (by unfold CP;simp [hi'.leaf];omega)
  have ye:∀k a b l,l∈ls->Sub t h k a b l->Sub (cH (jo t ⟨false,[],x.keys.drop 2,x.kids.drop 2,x.buf.drop (ic x.buf key)⟩) n ⟨false,[],x.keys.take 1,x.kids.take 2,x.buf.take (ic x.buf key)⟩) h k a b l:=
   fun k a b l hl hs=>hs.frame ((yG _ _ _).trans (Lt _ _)) (fun m hm=>k3 m (by rw [<-hfl];exact List.mem_flatten.2 ⟨l,hl,hm⟩))
  have Gx:=List.nodup_append.1 P.nd
  refine⟨_,t.nodes.length,key,_,?_,by rw [hfl];exact P, .inr ⟨af,_,_,rfl,?_,?_,fun y hy hl=>?_⟩⟩
  ·unfold gW
   rw [hi'.at']
   dsimp only
   rw [ai (by rw [hi'.leaf];simp),ai h4,hkey,ar ⟨af,hk4,hi'.buf.row h0 hh af,⟨af,af⟩,hn⟩]
  ·exact AE.sub ⟨hi'.pos,k1,rfl,rfl,by simp;omega,hi'.buf.take,s1.mono fun k a b l hl=>ye k a b l (wH hl),Gx.1⟩ (by simp;omega) (by simp;omega)
  ·exact AE.sub ⟨hi'.pos,k2,rfl,rfl,by simp;omega,hi'.buf.drop,s2.mono fun k a b l hl=>ye k a b l (ve hl),Gx.2.1⟩ (by simp;omega) (by simp;omega)
  ·rw [k1]at hy;injection hy with hy;subst hy;cases hl
def grow:Nat->Nat
 |0=>1
 |h+1=>9*grow h+1
theorem Io:∀(h f:Nat),h<=f->I6 (qO f) h (grow h)
 |0,f,_=>fun t n lo hi l e hs=>hs.elim
 |h+1,0,hf=>af
 |h+1,f+1,hf=>fun t n lo hi l e hs hnd he h1 h2 h0 hh hg hsm hn=>by
  by_cases hp:0<h
  ·obtain⟨x,ls,hi',rfl,h4,h8⟩:=hs.inn hp hnd
   have WL:aT (x.aF++x.buf)/\aT (ls.flatten.flatMap t.of):=by
    rw [gG,ni hi'.at']at hg
    exact bn.1 hg
   have gce:aT (e::(n::ls.flatten).flatMap t.of):=fun y hy=>by rcases fc.1 hy with rfl|hy;exact he.good;exact hg y hy
   have Mx:Small (e::x.buf):=by
    refine rJ (b:=x.aF++ls.flatten.flatMap t.of) hsm gce ?_
    rw [gG,ni hi'.at']
    refine zO.2 fun a=>?_
    simp only [List.count_append,py];omega
   obtain⟨g1,g2,g3⟩:=BV (hi'.buf.row h0 hh af) he Mx
   have hi2:=hi'.FB (Gm hi'.buf ⟨h1,h2⟩ g2)
   have gb:aT x.buf:=hi'.buf.1.bJ
   have ev:gI (x.aF++ins x.buf e) ([e]++(x.aF++x.buf)):=by
    have e1:=(gI.refl (bn.1 WL.1).1).append (Cn gb he.good)
    refine e1.trans (gI.perm ?_ e1.2.1)
    refine zO.2 fun a=>?_
    simp only [List.count_append,py,List.count_nil];omega
   have pr:=(Prog.one (y:={ x with buf:=ins x.buf e }) (E:=[e]) hi'.at' hi'.nd WL.2 ev (by unfold CP;simp only [hi'.leaf];simpa using g3)).1
   have hs2:Small ((n::ls.flatten).flatMap (cH t n { x with buf:=ins x.buf e }).of):=by
    have:=pr.small (F:=[]) (fun _ h=>by cases h) (by simpa using hsm)
    simpa using this
   have hgr:grow (h+1)=9*grow h+1:=rfl
   rw [hgr]at hn ⊢
   have hput:∀r,(if (ins x.buf e).length<=8 then gW (cH t n { x with buf:=ins x.buf e }) n else match oF (qO f) (cH t n { x with buf:=ins x.buf e }) n with|none=>none|some t2=>gW t2 n)=r->qO (f+1) t n e=r:=fun r hr=>by
    unfold qO
    rw [hi'.at']
    dsimp only
    rw [ai (by rw [hi'.leaf];simp),g1]
    exact hr
   by_cases h8':(ins x.buf e).length<=8
   ·obtain⟨t',more,key,l',q1,q2,q3⟩:=AP h0 hh hi2 (by simp only;omega) h8' pr.bJ (by rw [iI];omega)
    refine⟨t',more,key,l',hput _ (by rw [ar h8'];exact q1),?_,q3⟩
    have:=(pr.trans q2).more (d':=9*grow h+1) af
    simpa using this
   ·obtain⟨t2,y,ls2,q1,q2,q3,q4,q5⟩:=J5 (Io h f af) h0 hh hi2 h4 Mh (by simp only;omega) pr.bJ hs2 (by rw [iI];omega)
    have l2:=q5.Gb
    rw [iI]at l2
    obtain⟨t',more,key,l',r1,r2,r3⟩:=AP h0 hh q2 q3 q4 q5.bJ af
    refine⟨t',more,key,l',hput _ (by rw [ai h8',q1];exact r1),?_,r3⟩
    have:=((pr.trans q5).trans r2).more (d':=9*grow h+1) af
    simpa using this
  ·obtain⟨x,hx,hlt,⟨rfl,hl,hok,rfl⟩|⟨hp',_⟩⟩:=hs
   ·obtain⟨k1,k2,k3,k4,k5,k6⟩:=hok
    have PJ:t.of n=x.aF:=by rw [ni hx,k3,nM]
    have hgx:aT x.aF:=by simpa [PJ] using hg
    have Mx:Small (e::x.aF):=by simpa [PJ] using hsm
    obtain⟨g1,g2,g3⟩:=BV (k6.row h0 hh af) he Mx
    have Cc:=Gm k6 ⟨h1,h2⟩ g2
    have hput:∀r,gW (cH t n { x with aF:=ins x.aF e }) n=r->qO (f+1) t n e=r:=fun r hr=>by
     unfold qO
     rw [hx]
     dsimp only
     rw [ar hl,g1]
     exact hr
    have ev:gI (ins x.aF e++x.buf) ([e]++(x.aF++x.buf)):=by
     rw [k3,nM,nM];exact Cn hgx he.good
    have pr:=(Prog.one (y:={ x with aF:=ins x.aF e }) (L:=[]) (E:=[e]) hx hnd (by simp [aT]) ev (by unfold CP;simp only [hl];simp;omega)).1
    have hat:=tK (y:={ x with aF:=ins x.aF e }) hx
    have hgr:1<=grow (0+1):=by show 1<=9*grow 0+1;omega
    by_cases h6:(ins x.aF e).length<=6
    ·refine⟨_,-1,0,[n],hput _ (by unfold gW;rw [hat];dsimp only;rw [ar hl,ar h6]),pr.more af, .inl ⟨rfl,_,hat,hlt, .inl ⟨rfl,hl,⟨k1,k2,k3,h6, .inl Mh,Cc⟩,rfl⟩⟩⟩
    ·have h7:(ins x.aF e).length=7:=af
     obtain⟨y,hy⟩:∃y,(ins x.aF e)[3]?=some y:=⟨(ins x.aF e)[3],by simp [h7]⟩
     have IB:(ins x.aF e).getD 3 default=y:=by rw [List.getD_eq_getElem?_getD,hy];rfl
     have hyk:ic (ins x.aF e) y.key=3:=by
      obtain⟨h3,QQ⟩:=gH.1 hy
      have hp2:=pz.1 Cc.2.2
      refine xU af (fun i hi hi3=>by rw [<-QQ];exact hp2 i 3 hi h3 hi3) fun i hi hi3=>?_
      by_cases hi4:i=3
      ·subst hi4;rw [QQ];omega
      ·have:=hp2 3 i h3 hi af;rw [QQ]at this;omega
     have yin:=Cc.2.1 y (List.mem_of_getElem? hy)
     have htk:=Cc.take (key:=y.key)
     have hdr:=Cc.drop (key:=y.key)
     rw [hyk]at htk hdr
     have y0:=htk.2.1 _ (fO (n:=0) (by simp;omega))
     obtain⟨P,m1,m2,-⟩:=A0 (A:=[]) (B:=[]) (X:={ x with aF:=(ins x.aF e).take 3 }) (Y:=⟨true,(ins x.aF e).drop 3,[],[],[]⟩) hat hnd bq (by simpa using pr.bJ)
      (by simp [k3]) (by unfold CP;simp [hl];omega)
     refine⟨_,(cH t n { x with aF:=ins x.aF e }).nodes.length,y.key,_,hput _ (by unfold gW;rw [hat];dsimp only;rw [ar hl,ai h6,ar ⟨h7,by rw [iI];omega⟩,IB]),((pr.trans P).more af), .inr ⟨af,_,_,rfl,?_,?_,fun z hz _=>?_⟩⟩
     ·exact⟨_,m1,af, .inl ⟨rfl,hl,⟨k1,k2,k3,by simp;omega, .inl (by intro h;have:=congrArg List.length h;simp [h7]at this),htk⟩,rfl⟩⟩
     ·exact⟨_,m2,yin.2, .inl ⟨rfl,rfl,⟨rfl,rfl,rfl,by simp;omega, .inl (by intro h;have:=congrArg List.length h;simp [h7]at this),hdr⟩,rfl⟩⟩
     ·rw [m1]at hz;injection hz with hz;subst hz
      intro h;have:=congrArg List.length h;simp [h7]at this
   ·omega
end
section
variable {l:List Int} {h:Nat} {t t':Tr}
structure Full (t:Tr) (h:Nat) (l:List Int):Prop where
 sub:Sub t h t.root 0 1099511627776 l
 nd:l.Nodup
 len:l.length=t.nodes.length
theorem yu (hv:lL t):∃l h,h<=12/\Full t h l:=by
 obtain⟨l,h,h1,h2,h3⟩:=hv
 obtain⟨g1,g2⟩:=Ib h1
 exact⟨l,h,g1,g2,h2,h3⟩
theorem Full.valid (hf:Full t h l) (hh:h<=12):lL t:=⟨l,h,Ii hf.sub hh,hf.nd,hf.len⟩
theorem Sub.lt' {n lo hi:Int} (hs:Sub t h n lo hi l):∀m∈l,0<=m/\m<(t.nodes.length:Int):=fun m hm=>by
 obtain⟨x,hx⟩:=hs.mem.2 m hm
 exact xA hx
theorem Full.perm (hf:Full t h l):(l.flatMap t.of).Perm t.all:=by
 rw [<-Eh]
 exact List.Perm.flatMap_right _ (yL hf.nd hf.sub.lt' hf.len)
def nE (t:Tr):Nat:=wt t (Ie t.nodes.length)
theorem O2 {a b:List Int} (h:a.Perm b):wt t a=wt t b:=by
 unfold wt;exact(h.map _).sum_nat
theorem Full.wt (hf:Full t h l):wt t l=nE t:=O2 (yL hf.nd hf.sub.lt' hf.len)
theorem Sub.GV:∀{h:Nat} {n lo hi:Int} {l:List Int},Sub t h n lo hi l->(∀m∈l,t'.dn m=t.dn m)->(∀m∈l,m=t.root->∀x,t.dn m=some x->x.leaf=true->x.aF≠[])->Sub t' h n lo hi l
 |0,_,_,_,_,hs,_,_=>hs
 |h+1,n,lo,hi,l,⟨x,hx,hlt,hs⟩,hk,hr=>by
  rcases hs with ⟨h0,h1,h2,rfl⟩|⟨hp,h1,h2,ls,h3,rfl,h4⟩
  ·refine⟨x,(hk n bq).trans hx,hlt, .inl ⟨h0,h1,?_,rfl⟩⟩
   obtain⟨a1,a2,a3,a4,a5,a6⟩:=h2
   refine⟨a1,a2,a3,a4, .inl ?_,a6⟩
   rcases a5 with a5|a5
   ·exact a5
   ·exact hr n bq a5 x hx h1
  ·refine⟨x,(hk n bq).trans hx,hlt, .inr ⟨hp,h1,h2,ls,h3,rfl,fun j k lj hj nG=>?_⟩⟩
   obtain⟨g1,g2,g3⟩:=h4 j k lj hj nG
   exact⟨g1,g2,g3.GV (fun m hm=>hk m (List.mem_cons_of_mem _ (List.mem_flatten.2 ⟨lj,List.mem_of_getElem? nG,hm⟩))) fun m hm=>hr m (List.mem_cons_of_mem _ (List.mem_flatten.2 ⟨lj,List.mem_of_getElem? nG,hm⟩))⟩
theorem zA {t:Tr} {h:Nat}:∀(ls:List (List Int)),(∀l∈ls,∃k,l.length+1<=2*k/\3*k<=wt t l/\2 ^ h<=k)->∃k,ls.flatten.length+ls.length<=2*k/\3*k<=wt t ls.flatten/\ls.length*2 ^ h<=k
 |[],_=>⟨0,bq,bq,bq⟩
 |l::ls,hl=>by
  obtain⟨k1,a1,a2,a3⟩:=hl l bq
  obtain⟨k2,b1,b2,b3⟩:=zA ls fun l hl'=>hl l (by simp [hl'])
  refine⟨k1+k2,?_,?_,?_⟩
  ·rw [List.flatten_cons,eP,fR];omega
  ·rw [List.flatten_cons,lh];omega
  ·rw [fR,Nat.add_mul,Nat.one_mul];omega
theorem Sub.bound:∀{h:Nat} {n lo hi:Int} {l:List Int},Sub t (h+1) n lo hi l->∃k,l.length+1<=2*k/\3*k<=wt t l/\2 ^ h<=k
 |h,n,lo,hi,l,⟨x,hx,hlt,hs⟩=>by
  rcases hs with ⟨rfl,h1,h2,rfl⟩|⟨hp,h1,h2,ls,h3,rfl,h4⟩
  ·refine⟨1,bq,?_,bq⟩
   have:wt t [n]=UJ t n:=by simp [wt]
   rw [this,od hx]
   unfold CP
   rw [ar h1];omega
  ·obtain⟨h',rfl⟩:∃h',h=h'+1:=⟨h-1,af⟩
   obtain⟨k,a1,a2,a3⟩:=zA (t:=t) (h:=h') ls fun l hl=>by
    obtain⟨j,hj,rfl⟩:=kW hl
    have hjk:j<x.kids.length:=af
    exact(h4 j _ _ (oL hjk) (oL hj)).2.2.bound
   have h22:=h2.2.1
   refine⟨k,by rw [fR];omega,by rw [mI];omega,?_⟩
   have:2*2 ^ h'<=ls.length*2 ^ h':=Nat.mul_le_mul_right _ af
   rw [Nat.pow_succ];omega
theorem Full.bound (hf:Full t h l):∃k,t.nodes.length+1<=2*k/\3*k<=nE t/\2 ^ (h-1)<=k:=by
 obtain⟨h',rfl⟩:∃h',h=h'+1:=⟨h-1,by have:=hf.sub.pos;omega⟩
 obtain⟨k,a1,a2,a3⟩:=hf.sub.bound
 rw [hf.len]at a1
 rw [hf.wt]at a2
 exact⟨k,a1,a2,a3⟩
theorem Full.fault (hf:Full t h l) (hw:nE t<=3002):ax t=0:=by
 obtain⟨k,a1,a2,a3⟩:=hf.bound
 refine uf af (hf.valid ?_)
 refine Nat.le_of_not_lt fun hh=>?_
 have:2 ^ 12<=2 ^ (h-1):=Nat.pow_le_pow_right aW af
 have:(2:Nat) ^ 12=4096:=aW
 omega
theorem Sub.node:∀{h:Nat} {n lo hi:Int} {l:List Int},Sub t h n lo hi l->∀m∈l,∀x,t.dn m=some x->x.aF.length<=6/\x.keys.length<=3/\x.kids.length<=4/\x.buf.length<=8
 |0,_,_,_,_,hs,_,_,_,_=>hs.elim
 |h+1,n,lo,hi,l,⟨x,hx,hlt,hs⟩,m,hm,y,hy=>by
  rcases hs with ⟨rfl,h1,h2,rfl⟩|⟨hp,h1,h2,ls,h3,rfl,h4⟩
  ·simp only [nB]at hm
   subst hm
   obtain rfl:=dw (hx.symm.trans hy)
   obtain⟨a1,a2,a3,a4,-,-⟩:=h2
   simp [a1,a2,a3,a4]
  ·rcases fc.1 hm with rfl|hm
   ·obtain rfl:=dw (hx.symm.trans hy)
    obtain⟨a1,a2,a3,a4,a5,-⟩:=h2
    exact⟨by simp [a1],af,a3,a5⟩
   ·obtain⟨lj,nG,CJ⟩:=List.mem_flatten.1 hm
    obtain⟨j,hj,rfl⟩:=kW nG
    have hjk:j<x.kids.length:=af
    exact(h4 j _ _ (oL hjk) (oL hj)).2.2.node m CJ y hy
theorem Full.node (hf:Full t h l):∀x∈t.nodes,x.aF.length<=6/\x.keys.length<=3/\x.kids.length<=4/\x.buf.length<=8:=fun x hx=>by
 obtain⟨i,hi,rfl⟩:=kW hx
 have hm:=(vQ hf.nd hf.sub.lt').1 hf.len i hi
 exact hf.sub.node i hm _ (by unfold Tr.dn;simp [hi])
theorem Lf {f:Int->Nat} {m:Nat}:∀{l:List Int},(∀y∈l,f y<=m)->(l.map f).sum<=m*l.length
 |[],_=>bq
 |a::l,h=>by
  have:=Lf (l:=l) fun y hy=>h y (by simp [hy])
  have:=h a bq
  rw [List.map_cons,List.sum_cons,fR,Nat.mul_succ];omega
theorem Full.VC (hf:Full t h l):nE t<=8*t.nodes.length:=by
 rw [<-hf.wt,<-hf.len]
 refine Lf fun y hy=>?_
 obtain⟨x,hx⟩:=hf.sub.mem.2 y hy
 have:=hf.sub.node y hy x hx
 rw [od hx]
 unfold CP
 split <;> omega
def jP (t:Tr) (more key:Int):Tr:={ nodes:=t.nodes++[⟨false,[],[key],[t.root,more],[]⟩],root:=t.nodes.length }
theorem Qf (hh:h<=12):grow h<=500000000000:=by
 have:h=0\/h=1\/h=2\/h=3\/h=4\/h=5\/h=6\/h=7\/h=8\/h=9\/h=10\/h=11\/h=12:=af
 rcases this with rfl|rfl|rfl|rfl|rfl|rfl|rfl|rfl|rfl|rfl|rfl|rfl|rfl <;> decide
theorem Db {l':List Int} {E:List aA} {d:Nat} (P:Prog t t' l l' E d) (hn:l.Nodup) (hr:∀m∈l,0<=m/\m<(t.nodes.length:Int)) (hl:l.length=t.nodes.length) (hr':∀m∈l',0<=m/\m<(t'.nodes.length:Int)):l'.length=t'.nodes.length:=by
 refine(vQ P.nd hr').2 fun i hi=>?_
 rw [P.mem]
 by_cases h:i<t.nodes.length
 ·exact .inl ((vQ hn hr).1 hl i h)
 ·exact .inr af
theorem LG {e:aA} (hf:Full t h l) (hh:h<=12) (hn:t.nodes.length<=2000) (he:jV e) (hg:aT t.all) (hs:Small (e::t.all)) :
  ∃t1 more key t2 h2 l2,qO 13 t t.root e=some (t1,more,key)/\t1.root=t.root/\t2=(if 0<=more then jP t1 more key else t1)/\Full t2 h2 l2/\gI t2.all (e::t.all)/\nE t2<=nE t+1:=by
 have hp:=hf.perm
 have hgl:aT (l.flatMap t.of):=fun y hy=>hg y (hp.mem_iff.1 hy)
 have hsl:Small (e::l.flatMap t.of):=(na (hp.cons e) (fun y hy=>by
  rcases fc.1 hy with rfl|hy
  ·exact .inr he.good
  ·exact .inr (hgl y hy))).2 hs
 have gle:=Qf hh
 obtain⟨t1,more,key,l',p1,p2,p3⟩:=Io h 13 af t t.root 0 1099511627776 l e hf.sub hf.nd he he.2.2.1 he.2.2.2 (Int.le_refl _) (Int.le_refl _) hgl hsl af
 have hev:gI (l'.flatMap t1.of) (e::t.all):=p2.ev.trans (gI.perm (hp.cons e) p2.ev.2.1)
 have hwt:wt t1 l'<=nE t+1:=by have:=p2.wt;rw [hf.wt]at this;simpa using this
 rcases p3 with ⟨rfl,g1⟩|⟨g0,l1,l2,rfl,g1,g2,g3⟩
 ·have hfull:Full t1 h l':=⟨by rw [p2.root];exact g1,p2.nd,Db p2 hf.nd hf.sub.lt' hf.len g1.lt'⟩
  refine⟨t1,-1,key,t1,h,l',p1,p2.root,by rw [ai af],hfull,?_,by rw [<-hfull.wt];exact hwt⟩
  exact(gI.perm hfull.perm.symm (fun y hy=>hev.1 y (hfull.perm.mem_iff.2 hy))).trans hev
 ·have hr1:=g1.lt'
  have hr2:=g2.lt'
  have hr:∀m∈l1++l2,0<=m/\m<(t1.nodes.length:Int):=fun m hm=>(kI.1 hm).elim (hr1 m) (hr2 m)
  have hlen:=Db p2 hf.nd hf.sub.lt' hf.len hr
  have hat:∀m:Int,m<(t1.nodes.length:Int)->(jP t1 more key).dn m=t1.dn m:=fun m hm=>by
   unfold Tr.dn jP
   by_cases h0:0<=m
   ·rw [ar h0,ar h0]
    simp only
    rw [zP af]
   ·rw [ai h0,ai h0]
  have hnew:(jP t1 more key).dn (t1.nodes.length:Int)=some ⟨false,[],[key],[t1.root,more],[]⟩:=by
   unfold Tr.dn jP;simp
  have n1:∀m∈l1,(jP t1 more key).dn m=t1.dn m:=fun m hm=>hat m (hr1 m hm).2
  have n2:∀m∈l2,(jP t1 more key).dn m=t1.dn m:=fun m hm=>hat m (hr2 m hm).2
  have hroot:t1.root=t.root:=p2.root
  have s1:Sub (jP t1 more key) h t.root 0 key l1:=g1.GV n1 fun m hm hmr x hx hl=>by
   rw [hmr,hroot]at hx
   exact g3 x hx hl
  have SM:∀m∈l2,m≠t.root:=fun m hm e=>by
   have h1:=g1.mem.1
   rw [e]at hm
   exact(List.nodup_append.1 p2.nd).2.2 _ h1 _ hm rfl
  have s2:Sub (jP t1 more key) h more key 1099511627776 l2:=g2.GV n2 fun m hm hmr=>absurd (hmr.trans hroot) (SM m hm)
  have hfull:Full (jP t1 more key) (h+1) ((t1.nodes.length:Int)::(l1++l2)):=by
   refine⟨⟨_,hnew,aW, .inr ⟨g1.pos,rfl,⟨rfl,bq,bq,bq,bq,⟨(fun _ h=>by cases h),(fun _ h=>by cases h),List.Pairwise.nil⟩⟩,[l1,l2],rfl,by simp [jP],fun j k lj hj nG=>?_⟩⟩,?_,?_⟩
   ·rcases j with _|_|j
    ·simp only [List.getElem?_cons_zero,iE]at hj nG
     subst hj nG
     refine⟨Int.le_refl _,?_,?_⟩
     ·simp [up];have:=s2.lt;omega
     ·rw [hroot];simpa [fr,up] using s1
    ·simp only [List.getElem?_cons_succ,List.getElem?_cons_zero,iE]at hj nG
     subst hj nG
     refine⟨?_,?_,?_⟩
     ·simp [fr];have:=s1.lt;omega
     ·simp [up]
     ·simpa [fr,up] using s2
    ·simp at hj
   ·refine List.nodup_cons.2 ⟨fun hm=>?_,p2.nd⟩
    have:=(hr _ hm).2;omega
   ·rw [fR,hlen];simp [jP]
  refine⟨t1,more,key,_,h+1,_,p1,p2.root,by rw [ar g0],hfull,?_,?_⟩
  ·refine(gI.perm hfull.perm.symm ?_).trans ?_
   ·intro y hy
    have:=hfull.perm.mem_iff.2 hy
    rw [gG,ni hnew,of_same (t':=jP t1 more key) (t:=t1) (fun m hm=>hat m (hr m hm).2)]at this
    exact hev.1 y (by simpa using this)
   ·rw [gG,ni hnew,of_same (t':=jP t1 more key) (t:=t1) (fun m hm=>hat m (hr m hm).2)]
    simpa using hev
  ·rw [<-hfull.wt,mI,od hnew,pF (t':=jP t1 more key) (t:=t1) (fun m hm=>hat m (hr m hm).2)]
   unfold CP;simp;exact hwt
noncomputable def ji (t:Tr) (key:Int) (r:au):Int:=
 if ax t≠0 then ax t else if key<0\/1099511627776<=key\/r.c=0 then 2 else if aj r≠0 then aj r else if (look t.all key).c+r.c<=1073741824 then 0 else 1
theorem BO {key:Int} {r:au} (h:ji t key r=0):ax t=0/\0<=key/\key<1099511627776/\r.c≠0/\aj r=0/\(look t.all key).c+r.c<=1073741824:=by
 unfold ji at h
 split at h
 ·contradiction
 ·rename_i h1
  split at h
  ·omega
  ·rename_i h2
   split at h
   ·contradiction
   ·rename_i h3
    split at h
    ·rename_i h4
     exact⟨by simpa using h1,af,af,af,by simpa using h3,h4⟩
    ·omega
end
section
variable {e:aA} {l:List aA} {k:Nat} {t:Tr}
theorem mN (hr:aV l) (hc:Checked l):Small l:=fun k=>by
 by_cases h:∃e∈l,e.key=k
 ·obtain⟨e,he,rfl⟩:=h
  rw [fY hr he]
  exact hc.le e he
 ·rw [iw fun e he hk=>h ⟨e,he,hk⟩];decide
theorem filter_all (hv:lL t):t.all.filter (aU 0 1099511627776)=t.all:=List.filter_eq_self.2 fun e he=>by
 have:=lU hv e he
 simp [aU,this.1,this.2]
theorem yl (hf:ax t=0) (he:gI t.all l) (hr:aV l) (hc:Checked l):allT t=some l:=by
 unfold allT kH
 have hv:=(cW hf).2
 rw [ar hf,filter_all hv,jA (cz hv),ar (he.small.2 (mN hr hc))]
 congr 1
 exact nj (cJ he.1) hr (dh he.1) he.2.1 fun k=>by rw [eG he.1,he.2.2]
theorem Pp (h:allT t=some l):ax t=0/\gI t.all l/\aV l/\Checked l/\Small t.all:=by
 have hg:=fI h
 unfold allT at h
 split at h
 ·rename_i hf
  have hv:=(cW hf).2
  unfold kH at h
  rw [filter_all hv]at h
  obtain⟨rfl,hs,hc,-,hr⟩:=fT (cz hv) h
  exact⟨hf,⟨(cz hv).bJ,dh (cz hv).bJ,fun k=>(eG (cz hv).bJ k).symm⟩,hr,hc,hs⟩
 ·cases h
theorem C9 (hl:aV l) (h:∀y∈l,y.key<e.key):aV (l++[e]):=List.pairwise_append.2 ⟨hl,List.pairwise_singleton _ _,fun a ha b hb=>by simp at hb;subst hb;exact h a ha⟩
noncomputable def iJ:Option Int->List aA->Int
 |_,[]=>0
 |p,e::l=>if ∃k,p=some k/\e.key<=k then 8 else if e.key<0\/1099511627776<=e.key\/e.is.c=0 then 2 else if aj e.is≠0 then aj e.is else iJ (some e.key) l
def kq (l:List aA) (k:Nat):Option Int:=if k=0 then none else(l[k-1]?).map aA.key
theorem Nj (hk:k<l.length):iJ (kq l k) (l.drop k)=if ∃p,kq l k=some p/\l[k].key<=p then 8 else if l[k].key<0\/1099511627776<=l[k].key\/l[k].is.c=0 then 2 else if aj l[k].is≠0 then aj l[k].is else iJ (kq l (k+1)) (l.drop (k+1)):=by
 rw [vg hk]
 have:kq l (k+1)=some l[k].key:=by unfold kq;simp [hk]
 rw [this]
 rfl
def Made (l:List aA) (t:Tr):Prop:=ax t=0/\gI t.all l/\aV l/\Checked l/\(∀e∈l,0<=e.key/\e.key<1099511627776)/\nE t<=3+l.length
theorem Made.small (h:Made l t):Small t.all:=h.2.1.small.2 (mN h.2.2.1 h.2.2.2.1)
theorem Made.knows (h:Made l t):allT t=some l:=yl h.1 h.2.1 h.2.2.1 h.2.2.2.1
theorem Mc (hkl:k<=l.length) (hr:aV (l.take k)) (h:¬∃p,kq l k=some p/\e.key<=p):∀y∈l.take k,y.key<e.key:=fun y hy=>by
 obtain⟨i,hi,rfl⟩:=kW hy
 rw [fw]at hi
 rw [wC]
 have hlt:k-1<l.length:=af
 have h1:l[k-1].key<e.key:=by
  refine Int.not_le.1 fun hle=>h ⟨l[k-1].key,?_,hle⟩
  unfold kq
  rw [ai af,oL hlt];rfl
 by_cases hik:i=k-1
 ·subst hik;exact h1
 ·have:=pz.1 hr i (k-1) (by rw [fw];omega) (by rw [fw];omega) af
  rw [wC,wC]at this
  omega
theorem Made.put (h:Made (l.take k) t) (hk:k<l.length) (ho:¬∃p,kq l k=some p/\l[k].key<=p) (h2:¬(l[k].key<0\/1099511627776<=l[k].key\/l[k].is.c=0)) (h3:aj l[k].is=0) :
  look t.all l[k].key=au.zero/\Small (l[k]::t.all)/\aV (l.take (k+1))/\Checked (l.take (k+1))/\∀t2,gI t2.all (l[k]::t.all)->nE t2<=nE t+1->gI t2.all (l.take (k+1))/\nE t2<=3+(l.take (k+1)).length/\∀e∈l.take (k+1),0<=e.key/\e.key<1099511627776:=by
 obtain⟨m1,m2,m3,m4,m5,m6⟩:=h
 have IK:l[k].is.Good:=(cj h3 af).1
 have hle:l[k].is.c<=1073741824:=(cj h3 af).2
 have hlt:=Mc af m3 ho
 have hz:look t.all l[k].key=au.zero:=by
  rw [m2.2.2,iw fun y hy e=>by have:=hlt y hy;omega]
 have YO:l.take (k+1)=l.take k++[l[k]]:=mn hk
 have hr:aV (l.take (k+1)):=by rw [YO];exact C9 m3 hlt
 have hc:Checked (l.take (k+1)):=fun e he=>by
  rw [YO]at he
  rcases kI.1 he with he|he
  ·exact m4 e he
  ·simp at he;subst he;exact⟨af,h3⟩
 have hev:gI (l[k]::t.all) (l.take (k+1)):=by
  have e1:gI ([l[k]]++t.all) ([l[k]]++l.take k):=(gI.refl (fun e he=>by simp at he;subst he;exact IK)).append m2
  refine e1.trans (gI.perm ?_ e1.2.1)
  rw [YO];exact List.perm_append_comm
 refine⟨hz,hev.small.2 (mN hr hc),hr,hc,fun t2 h1 h2=>⟨h1.trans hev,?_,fun e he=>?_⟩⟩
 ·rw [fw]at m6 ⊢
  omega
 ·rw [YO]at he
  rcases kI.1 he with he|he
  ·exact m5 e he
  ·simp at he;subst he;omega
def BI:Tr:=⟨[⟨true,[],[],[],[]⟩],0⟩
theorem Dt:Made [] BI:=by
 have hfull:Full BI 1 [0]:=⟨⟨⟨true,[],[],[],[]⟩,rfl,aW, .inl ⟨rfl,rfl,⟨rfl,rfl,rfl,aW, .inr rfl,⟨(fun _ h=>by cases h),(fun _ h=>by cases h),List.Pairwise.nil⟩⟩,rfl⟩⟩,bq,rfl⟩
 have hw:nE BI=3:=rfl
 refine⟨hfull.fault af,?_,List.Pairwise.nil,(fun _ h=>by cases h),(fun _ h=>by cases h),by rw [hw];exact kK _⟩
 exact gI.refl (a:=[]) (fun e h=>absurd h bq)
end
end Go.Proofs.YtmljjfhgciaceaaDoor
