/- Texts of mine that come as one: SubP PutF PutA PutB PutC PutD PutT OfP. -/
import Derived.Test.YtmljjfhgciaceaaDoorHd
import Derived.Test.YtmljjfhgciaceaaDoorPA
namespace Go.Proofs.YtmljjfhgciaceaaDoor
section
variable {t:Tr}
def fr (ks:List Int) (lo:Int) (j:Nat):Int:=if j=0 then lo else ks.getD (j-1) 0
def up (ks:List Int) (hi:Int) (j:Nat):Int:=if j<ks.length then ks.getD j 0 else hi
def Sub (t:Tr):Nat->Int->Int->Int->List Int->Prop
 |0,_,_,_,_=>False
 |h+1,n,lo,hi,l=>∃x,t.dh n=some x/\lo<hi /\
   ((h=0/\x.leaf=true/\mq t n x lo hi/\l=[n]) \/
   (0<h/\x.leaf=false/\qw x lo hi/\∃ls:List (List Int),ls.length=x.kids.length/\l=n::ls.flatten /\
     ∀(j:Nat) (k:Int) (lj:List Int),x.kids[j]?=some k->ls[j]?=some lj->lo<=fr x.keys lo j/\up x.keys hi j<=hi/\Sub t h k (fr x.keys lo j) (up x.keys hi j) lj))
theorem Sub.lt:∀{h:Nat} {n lo hi:Int} {l:List Int},Sub t h n lo hi l->lo<hi
 |0,_,_,_,_,hs=>hs.elim
 |_h+1,_,_,_,_,⟨_,_,h1,_⟩=>h1
theorem Sub.pos {h:Nat} {n lo hi:Int} {l:List Int} (hs:Sub t h n lo hi l):0<h:=by
 cases h with
 |zero=>exact hs.elim
 |succ h=>omega
theorem DY {t:Tr} {f:Nat} {x:Nd} {lo hi:Int} (ih:∀{k a b:Int} {l:List Int} {h:Nat},mC t f k a b=some (l,h)->h<=f/\Sub t h k a b l) :
  ∀{ks:List Int} {i:Nat} {l:List Int} {h:Nat},ct (fun k a b=>mC t f k a b) x lo hi ks i=some (l,h)->(ks≠[]->h<=f)/\∃ls:List (List Int),ls.length=ks.length/\l=ls.flatten /\
   ∀(j:Nat) (k:Int) (lj:List Int),ks[j]?=some k->ls[j]?=some lj->lo<=x.from lo (i+j)/\x.upto hi (i+j)<=hi/\Sub t h k (x.from lo (i+j)) (x.upto hi (i+j)) lj
 |[],i,l,h,hv=>by
  simp only [ct,iw,jM]at hv
  exact⟨fun h=>absurd rfl h,[],rfl,by rw [<-hv.1];rfl,fun j k lj hj=>by simp at hj⟩
 |k::ks,i,l,h,hv=>by
  unfold ct at hv
  split at hv
  ·rename_i hc
   split at hv
   ·rename_i l1 h1 l2 h2 e1 e2
    split at hv
    ·rename_i hh
     simp only [iw,jM]at hv
     obtain⟨rfl,rfl⟩:=hv
     obtain⟨g1,g2⟩:=ih e1
     obtain⟨_,ls,k1,k2,k3⟩:=DY ih e2
     refine⟨fun _=>g1,l1::ls,by simp [k1],by rw [k2];rfl,fun j k' lj hj nD=>?_⟩
     cases j with
     |zero=>
      simp only [List.getElem?_cons_zero,iw]at hj nD
      subst hj nD
      exact⟨hc.2.1,hc.2.2,g2⟩
     |succ j=>
      simp only [List.getElem?_cons_succ]at hj nD
      have:=k3 j k' lj hj nD
      rw [show i+1+j=i+(j+1)from by omega]at this
      have hne:ks≠[]:=fun h=>by subst h;simp at hj
      rcases qK (fun k a b l h hv=>yt hv) e2 with h0|h0
      ·exact absurd h0 hne
      ·rcases hh with hh|hh
       ·omega
       ·rw [hh]at this;exact this
    ·cases hv
   ·cases hv
  ·cases hv
theorem Iw {t:Tr}:∀{f:Nat} {n lo hi:Int} {l:List Int} {h:Nat},mC t f n lo hi=some (l,h)->h<=f/\Sub t h n lo hi l
 |0,_,_,_,_,_,hv=>by cases hv
 |f+1,n,lo,hi,l,h,hv=>by
  have hlt:=Li hv
  unfold mC at hv
  split at hv
  ·cases hv
  ·rename_i x hx
   split at hv
   ·cases hv
   ·split at hv
    ·rename_i hl
     split at hv
     ·rename_i hok
      simp only [iw,jM]at hv
      obtain⟨rfl,rfl⟩:=hv
      exact⟨af,x,hx,hlt, .inl ⟨rfl,hl,hok,rfl⟩⟩
     ·cases hv
    ·rename_i hl
     split at hv
     ·rename_i hok
      obtain⟨⟨l',h'⟩,hk,hp⟩:=Option.map_eq_some_iff.1 hv
      simp only [jM]at hp
      obtain⟨rfl,rfl⟩:=hp
      obtain⟨g1,ls,g2,g3,g4⟩:=DY (fun hv=>Iw hv) hk
      have hne:x.kids≠[]:=fun h=>by have:=hok.2.1;rw [h]at this;simp at this
      have hp:1<=h':=by
       rcases qK (fun k a b l h hv=>yt hv) hk with h0|h0
       ·exact absurd h0 hne
       ·exact h0
      refine⟨by have:=g1 hne;omega,x,hx,hlt, .inr ⟨af,by simpa using hl,hok,ls,g2,by rw [g3],fun j k lj hj nD=>?_⟩⟩
      have:=g4 j k lj hj nD
      rw [iW]at this
      exact this
     ·cases hv
theorem Df {t:Tr} {f h:Nat} (hp:0<h) {x:Nd} {lo hi:Int} (ih:∀{k a b:Int} {l:List Int},Sub t h k a b l->mC t f k a b=some (l,h)) :
  ∀{ks:List Int} {i:Nat} {ls:List (List Int)},ls.length=ks.length->(∀(j:Nat) (k:Int) (lj:List Int),ks[j]?=some k->ls[j]?=some lj->lo<=x.from lo (i+j)/\x.upto hi (i+j)<=hi/\Sub t h k (x.from lo (i+j)) (x.upto hi (i+j)) lj) ->
   ct (fun k a b=>mC t f k a b) x lo hi ks i=some (ls.flatten,if ks=[]then 0 else h)
 |[],i,[],_,_=>rfl
 |k::ks,i,l1::ls,hl,hk=>by
  have h0:=hk 0 k l1 rfl rfl
  rw [Nat.add_zero]at h0
  have hr:=Df hp ih (ks:=ks) (i:=i+1) (ls:=ls) (by simpa using hl) fun j k' lj hj nD=>by
   have:=hk (j+1) k' lj (by simpa using hj) (by simpa using nD)
   rwa [show i+(j+1)=i+1+j from by omega]at this
  unfold ct
  rw [ar ⟨h0.2.2.lt,h0.1,h0.2.1⟩,ih h0.2.2,hr]
  try simp only
  have hc:(if ks=[]then 0 else h)=0\/(if ks=[]then 0 else h)=h:=by
   by_cases he:ks=[]
   ·left;rw [ar he]
   ·right;rw [ai he]
  rw [ar hc,ai bj]
  rfl
theorem IB {t:Tr}:∀{h f:Nat} {n lo hi:Int} {l:List Int},Sub t h n lo hi l->h<=f->mC t f n lo hi=some (l,h)
 |0,_,_,_,_,_,hs,_=>hs.elim
 |h+1,0,_,_,_,_,_,hf=>af
 |h+1,f+1,n,lo,hi,l,⟨x,hx,hlt,hs⟩,hf=>by
  unfold mC
  rw [hx]
  try simp only
  rw [ai (jo hlt)]
  rcases hs with ⟨rfl,h1,h2,rfl⟩|⟨hp,h1,h2,ls,h3,rfl,h4⟩
  ·rw [ar h1,ar h2]
  ·rw [ai (by simp [h1]),ar h2,Df (h:=h) (f:=f) hp (fun hs=>IB hs af) h3 (fun j k lj hj nD=>by rw [iW];exact h4 j k lj hj nD)]
   have hne:x.kids≠[]:=fun h=>by have:=h2.2.1;rw [h]at this;simp at this
   rw [ai hne];rfl
theorem Sub.frame {t':Tr} (hr:t'.root=t.root):∀{h:Nat} {n lo hi:Int} {l:List Int},Sub t h n lo hi l->(∀m∈l,t'.dh m=t.dh m)->Sub t' h n lo hi l
 |0,_,_,_,_,hs,_=>hs
 |h+1,n,lo,hi,l,⟨x,hx,hlt,hs⟩,hk=>by
  rcases hs with ⟨h0,h1,h2,rfl⟩|⟨hp,h1,h2,ls,h3,rfl,h4⟩
  ·exact⟨x,(hk n bj).trans hx,hlt, .inl ⟨h0,h1,by unfold mq at *;rw [hr];exact h2,rfl⟩⟩
  ·refine⟨x,(hk n bj).trans hx,hlt, .inr ⟨hp,h1,h2,ls,h3,rfl,fun j k lj hj nD=>?_⟩⟩
   obtain⟨g1,g2,g3⟩:=h4 j k lj hj nD
   exact⟨g1,g2,g3.frame hr fun m hm=>hk m (List.mem_cons_of_mem _ (List.mem_flatten.2 ⟨lj,List.mem_of_getElem? nD,hm⟩))⟩
theorem Sub.mem:∀{h:Nat} {n lo hi:Int} {l:List Int},Sub t h n lo hi l->n∈l/\∀m∈l,∃x,t.dh m=some x
 |0,_,_,_,_,hs=>hs.elim
 |h+1,n,lo,hi,l,⟨x,hx,hlt,hs⟩=>by
  rcases hs with ⟨h0,h1,h2,rfl⟩|⟨hp,h1,h2,ls,h3,rfl,h4⟩
  ·exact⟨bj,fun m hm=>by simp at hm;subst hm;exact⟨x,hx⟩⟩
  ·refine⟨bj,fun m hm=>?_⟩
   rcases fk.1 hm with rfl|hm
   ·exact⟨x,hx⟩
   ·obtain⟨lj,nD,AX⟩:=List.mem_flatten.1 hm
    obtain⟨j,hj,rfl⟩:=adU nD
    have hjk:j<x.kids.length:=af
    exact((h4 j _ _ (nL hjk) (nL hj)).2.2.mem).2 m AX
theorem xN {m:Int} {x:Nd} (h:t.dh m=some x):0<=m/\m<t.nodes.length:=by
 unfold Tr.dh at h
 split at h
 ·have:=(gJ.1 h).1;omega
 ·cases h
end
section
variable {n:Int} {x y:Nd} {t:Tr}
def cG (t:Tr) (n:Int) (x:Nd):Tr:={ t with nodes:=t.nodes.set n.toNat x }
def jq (t:Tr) (x:Nd):Tr:={ t with nodes:=t.nodes++[x] }
def Ug (l:List aC):Prop:=∀e∈l,0<=e.key/\e.key<1099511627776
def jZ (e:aC):Prop:=e.is.c≠0/\aq e.is=0/\0<=e.key/\e.key<1099511627776
def vk (l:List aC):Prop:=aT l/\Checked l/\Ug l/\l.length<=20
open Classical in
noncomputable def ye (l:List aC) (e:aC):Option (List aC):=if vk l/\jZ e then jI l e else none
open Classical in
noncomputable def gW (t:Tr) (n:Int):Option (Tr×Int×Int):=
 match t.dh n with
 |none=>none
 |some x=>
  if x.leaf=true then
   if x.aF.length<=6 then some (t,-1,0)
   else if x.aF.length=7/\t.nodes.length<=1000000000000 then some (cG (jq t ⟨true,x.aF.drop 3,[],[],[]⟩) n { x with aF:=x.aF.take 3 },t.nodes.length,(x.aF.getD 3 default).key)
   else none
  else if x.kids.length<=4 then some (t,-1,0)
  else if x.kids.length=5/\x.keys.length=4/\vk x.buf/\(0<=x.keys.getD 1 0/\x.keys.getD 1 0<=1099511627776)/\t.nodes.length<=1000000000000 then
   some (cG (jq t ⟨false,[],x.keys.drop 2,x.kids.drop 2,x.buf.drop (ia x.buf (x.keys.getD 1 0))⟩) n ⟨false,[],x.keys.take 1,x.kids.take 2,x.buf.take (ia x.buf (x.keys.getD 1 0))⟩,t.nodes.length,x.keys.getD 1 0)
  else none
noncomputable def oU (n:Int) (t:Tr) (e:aC):Option Tr:=
 match t.dh n with
 |none=>none
 |some x=>(ye x.buf e).map fun b=>cG t n { x with buf:=b }
def iP (x:Nd) (j:Nat):Nat:=(x.buf.filter fun e=>decide (aU x.keys e.key=j)).length
def iU (m:Nat->Nat):Nat->Nat
 |0=>0
 |k+1=>if m (iU m k)<m k then k else iU m k
noncomputable def GD (t1:Tr) (n:Int) (i:Nat) (more key:Int):Option Tr:=
 if more<0 then some t1 else match t1.dh n with
  |none=>none
  |some y=>if i<=y.keys.length/\i+1<=y.kids.length/\y.kids.length<=20/\y.keys.length<=20 then
    some (cG t1 n { y with keys:=y.keys.take i++key::y.keys.drop i,kids:=y.kids.take (i+1)++more::y.kids.drop (i+1) })
   else none
open Classical in
noncomputable def sN (put:Tr->Int->aC->Option (Tr×Int×Int)) (n:Int) (all:List aC):List aC->Tr->Option Tr
 |[],t=>some t
 |e::ds,t=>
  match t.dh n with
  |none=>none
  |some x=>
   if x.keys.Pairwise (·<·)/\x.keys.length<=20/\x.kids.length<=20 then
    match x.kids[aU x.keys e.key]? with
    |none=>none
    |some k=>
     match put t k e with
     |none=>none
     |some (t1,more,key)=>
      match GD t1 n (aU x.keys e.key) more key with
      |none=>none
      |some t2=>
       match t2.dh n with
       |none=>none
       |some z=>if z.kids.length<=4 then sN put n all ds t2 else(all.filter fun d=>decide (e.key<d.key)).foldlM (oU n) t2
   else none
open Classical in
noncomputable def oz (put:Tr->Int->aC->Option (Tr×Int×Int)) (t:Tr) (n:Int):Option Tr:=
 match t.dh n with
 |none=>none
 |some x=>
  if x.keys.Pairwise (·<·)/\x.keys.length<=3/\x.buf.length<=20/\Checked x.buf then
   sN put n (x.buf.filter fun e=>decide (aU x.keys e.key=iU (iP x) 4)) (x.buf.filter fun e=>decide (aU x.keys e.key=iU (iP x) 4))
    (cG t n { x with buf:=x.buf.filter fun e=>!decide (aU x.keys e.key=iU (iP x) 4) })
  else none
noncomputable def qQ:Nat->Tr->Int->aC->Option (Tr×Int×Int)
 |0,_,_,_=>none
 |f+1,t,n,e=>
  match t.dh n with
  |none=>none
  |some x=>
   if x.leaf=true then
    match ye x.aF e with
    |none=>none
    |some l=>gW (cG t n { x with aF:=l }) n
   else
    match ye x.buf e with
    |none=>none
    |some l=>
     if l.length<=8 then gW (cG t n { x with buf:=l }) n
     else match oz (qQ f) (cG t n { x with buf:=l }) n with
      |none=>none
      |some t2=>gW t2 n
theorem tP (h:t.dh n=some x):(cG t n y).dh n=some y:=by
 unfold Tr.dh at *
 split at h
 ·rename_i h0
  rw [ar h0]
  have:=(gJ.1 h).1
  simp [cG,this]
 ·cases h
theorem lG {m:Int} (h0:0<=n) (h:m≠n):(cG t n y).dh m=t.dh m:=by
 unfold Tr.dh cG
 split
 ·simp only;rw [Bc af]
 ·rfl
theorem Ub (h:t.dh n=some x):(jq t y).dh n=some x:=by
 unfold Tr.dh jq at *
 split at h
 ·rename_i h0
  rw [ar h0]
  simp only
  rw [Ao (gJ.1 h).1];exact h
 ·cases h
theorem Ua:(jq t y).dh (t.nodes.length:Int)=some y:=by
 unfold Tr.dh jq;simp
theorem iF (t:Tr) (n:Int) (x:Nd):(cG t n x).nodes.length=t.nodes.length:=by simp [cG]
theorem IV (t:Tr) (x:Nd):(jq t x).nodes.length=t.nodes.length+1:=by simp [jq]
theorem zb (t:Tr) (n:Int) (x:Nd):(cG t n x).root=t.root:=rfl
theorem LH (t:Tr) (x:Nd):(jq t x).root=t.root:=rfl
end
section
variable {P:Int->Int->Int->List Int->Prop}
def Seg (P:Int->Int->Int->List Int->Prop):Int->Int->List Int->List Int->List (List Int)->Prop
 |lo,hi,[],[k],[l]=>P k lo hi l
 |lo,hi,key::keys,k::kids,l::ls=>P k lo key l/\Seg P key hi keys kids ls
 |_,_,_,_,_=>False
theorem Seg.len:∀{keys kids:List Int} {ls:List (List Int)} {lo hi:Int},Seg P lo hi keys kids ls->kids.length=keys.length+1/\ls.length=keys.length+1
 |[],[k],[l],_,_,_=>⟨rfl,rfl⟩
 |key::keys,k::kids,l::ls,_,_,h=>by have:=h.2.len;simp [this.1,this.2]
 |[],[],_,_,_,h=>h.elim
 |[],_::_::_,_,_,_,h=>by simp [Seg]at h
 |[],[_],[],_,_,h=>h.elim
 |[],[_],_::_::_,_,_,h=>by simp [Seg]at h
 |_::_,[],_,_,_,h=>by simp [Seg]at h
 |_::_,_::_,[],_,_,h=>by simp [Seg]at h
theorem I5 (key:Int) (keys:List Int) (lo:Int) (j:Nat):fr (key::keys) lo (j+1)=fr keys key j:=by
 unfold fr
 cases j with
 |zero=>simp
 |succ j=>simp
theorem Iz (key:Int) (keys:List Int) (hi:Int) (j:Nat):up (key::keys) hi (j+1)=up keys hi j:=by
 unfold up;simp
theorem LB {P:Int->Int->Int->List Int->Prop}:∀{keys kids:List Int} {ls:List (List Int)} {lo hi:Int},kids.length=keys.length+1->ls.length=kids.length ->
  (∀(j:Nat) (k:Int) (lj:List Int),kids[j]?=some k->ls[j]?=some lj->P k (fr keys lo j) (up keys hi j) lj)->Seg P lo hi keys kids ls
 |[],[k],[l],lo,hi,_,_,h=>h 0 k l rfl rfl
 |key::keys,k::kids,l::ls,lo,hi,h1,h2,h=>by
  refine⟨?_,LB (by simpa using h1) (by simpa using h2) fun j k' lj hj nD=>?_⟩
  ·have:=h 0 k l rfl rfl
   simpa [fr,up] using this
  ·have:=h (j+1) k' lj (by simpa using hj) (by simpa using nD)
   rwa [I5,Iz]at this
 |[],[],_,_,_,h1,_,_=>by simp at h1
 |[],_::_::_,_,_,_,h1,_,_=>by simp at h1
 |[],[_],[],_,_,_,h2,_=>by simp at h2
 |[],[_],_::_::_,_,_,_,h2,_=>by simp at h2
 |_::_,[],_,_,_,h1,_,_=>by simp at h1
 |_::_,_::_,[],_,_,_,h2,_=>by simp at h2
theorem Seg.bounds (hlt:∀k a b l,P k a b l->a<b):∀{keys kids:List Int} {ls:List (List Int)} {lo hi:Int},Seg P lo hi keys kids ls->lo<hi/\keys.Pairwise (·<·)/\(∀k∈keys,lo<k/\k<hi)
 |[],[k],[l],_,_,h=>⟨hlt _ _ _ _ h,List.Pairwise.nil,fun _ h=>by cases h⟩
 |key::keys,k::kids,l::ls,lo,hi,h=>by
  have h1:=hlt _ _ _ _ h.1
  obtain⟨h2,h3,h4⟩:=h.2.bounds hlt
  refine⟨af,aez.2 ⟨fun y hy=>(h4 y hy).1,h3⟩,fun y hy=>?_⟩
  rcases fk.1 hy with rfl|hy
  ·omega
  ·have:=h4 y hy;omega
 |[],[],_,_,_,h=>h.elim
 |[],_::_::_,_,_,_,h=>by simp [Seg]at h
 |[],[_],[],_,_,h=>h.elim
 |[],[_],_::_::_,_,_,h=>by simp [Seg]at h
 |_::_,[],_,_,_,h=>by simp [Seg]at h
 |_::_,_::_,[],_,_,h=>by simp [Seg]at h
theorem Seg.at {P:Int->Int->Int->List Int->Prop} (hlt:∀k a b l,P k a b l->a<b):∀{keys kids:List Int} {ls:List (List Int)} {lo hi:Int},Seg P lo hi keys kids ls ->
  ∀(j:Nat) (k:Int) (lj:List Int),kids[j]?=some k->ls[j]?=some lj->lo<=fr keys lo j/\up keys hi j<=hi/\P k (fr keys lo j) (up keys hi j) lj
 |[],[k],[l],lo,hi,h,j,k',lj,hj,nD=>by
  cases j with
  |zero=>
   simp only [List.getElem?_cons_zero,iw]at hj nD
   subst hj nD
   exact⟨by simp [fr],by simp [up],by simpa [fr,up,Seg] using h⟩
  |succ j=>simp at hj
 |key::keys,k::kids,l::ls,lo,hi,h,j,k',lj,hj,nD=>by
  have h1:=hlt _ _ _ _ h.1
  have h2:=h.2.bounds hlt
  cases j with
  |zero=>
   simp only [List.getElem?_cons_zero,iw]at hj nD
   subst hj nD
   exact⟨by simp [fr],by simp [up];omega,by simpa [fr,up] using h.1⟩
  |succ j=>
   obtain⟨g1,g2,g3⟩:=h.2.at hlt j k' lj (by simpa using hj) (by simpa using nD)
   rw [I5,Iz]
   exact⟨af,g2,g3⟩
 |[],[],_,_,_,h,_,_,_,_,_=>h.elim
 |[],_::_::_,_,_,_,h,_,_,_,_,_=>by simp [Seg]at h
 |[],[_],[],_,_,h,_,_,_,_,_=>h.elim
 |[],[_],_::_::_,_,_,h,_,_,_,_,_=>by simp [Seg]at h
 |_::_,[],_,_,_,h,_,_,_,_,_=>by simp [Seg]at h
 |_::_,_::_,[],_,_,h,_,_,_,_,_=>by simp [Seg]at h
theorem Seg.mono {P':Int->Int->Int->List Int->Prop}:∀{keys kids:List Int} {ls:List (List Int)} {lo hi:Int},Seg P lo hi keys kids ls->(∀k a b l,l∈ls->P k a b l->P' k a b l)->Seg P' lo hi keys kids ls
 |[],[k],[l],_,_,h,hp=>hp _ _ _ _ bj h
 |key::keys,k::kids,l::ls,_,_,h,hp=>⟨hp _ _ _ _ bj h.1,h.2.mono fun k a b l' hl=>hp k a b l' (by simp [hl])⟩
 |[],[],_,_,_,h,_=>h.elim
 |[],_::_::_,_,_,_,h,_=>by simp [Seg]at h
 |[],[_],[],_,_,h,_=>h.elim
 |[],[_],_::_::_,_,_,h,_=>by simp [Seg]at h
 |_::_,[],_,_,_,h,_=>by simp [Seg]at h
 |_::_,_::_,[],_,_,h,_=>by simp [Seg]at h
theorem GC (key:Int) (keys:List Int) (x:Int):aU (key::keys) x=if key<=x then aU keys x+1 else 0:=by
 unfold aU
 by_cases h:key<=x
 ·rw [ar h,List.takeWhile_cons_of_pos (by simpa using h),gp]
 ·rw [ai h,List.takeWhile_cons_of_neg (by simpa using h)];rfl
theorem Seg.zip (hlt:∀k a b l,P k a b l->a<b) {x:Int}:∀{keys kids:List Int} {ls:List (List Int)} {lo hi:Int},Seg P lo hi keys kids ls->lo<=x->x<hi ->
  ∃(k a b:Int) (l:List Int) (L1 L2:List (List Int)),kids[aU keys x]?=some k/\P k a b l/\a<=x/\x<b/\lo<=a/\b<=hi/\ls=L1++l::L2/\aU keys x<=keys.length /\
   (∀(P':Int->Int->Int->List Int->Prop) (l':List Int),(∀k a b l,l∈L1++L2->P k a b l->P' k a b l)->P' k a b l'->Seg P' lo hi keys kids (L1++l'::L2)) /\
   (∀(P':Int->Int->Int->List Int->Prop) (l1 l2:List Int) (more key:Int),(∀k a b l,l∈L1++L2->P k a b l->P' k a b l)->P' k a key l1->P' more key b l2 ->
    Seg P' lo hi (keys.take (aU keys x)++key::keys.drop (aU keys x)) (kids.take (aU keys x+1)++more::kids.drop (aU keys x+1)) (L1++l1::l2::L2))
 |[],[k],[l],lo,hi,h,h1,h2=>⟨k,lo,hi,l,[],[],rfl,h,h1,h2,Int.le_refl _,Int.le_refl _,rfl,km _,fun P' l' _ h=>h,fun P' l1 l2 more key _ g1 g2=>⟨g1,g2⟩⟩
 |key::keys,k::kids,l::ls,lo,hi,h,h1,h2=>by
  rw [GC]
  by_cases hk:key<=x
  ·rw [ar hk]
   have:=hlt _ _ _ _ h.1
   obtain⟨k',a,b,l',L1,L2,e1,e2,e3,e4,e5,e6,rfl,e8,e9,e10⟩:=h.2.zip hlt hk h2
   refine⟨k',a,b,l',l::L1,L2,by simpa using e1,e2,e3,e4,af,e6,rfl,by simp;omega,fun P' l'' g1 g2=>?_,fun P' l1 l2 more tG g1 g2 g3=>?_⟩
   ·exact⟨g1 _ _ _ _ bj h.1,e9 P' l'' (fun k a b l hl=>g1 k a b l (by simp at hl ⊢;exact .inr hl)) g2⟩
   ·have:=e10 P' l1 l2 more tG (fun k a b l hl=>g1 k a b l (by simp at hl ⊢;exact .inr hl)) g2 g3
    rw [List.take_succ_cons,List.take_succ_cons,List.drop_succ_cons,List.drop_succ_cons]
    exact⟨g1 _ _ _ _ bj h.1,this⟩
  ·rw [ai hk]
   have hb:=h.2.bounds hlt
   refine⟨k,lo,key,l,[],ls,rfl,h.1,h1,af,Int.le_refl _,af,rfl,bj,fun P' l' g1 g2=>?_,fun P' l1 l2 more tG g1 g2 g3=>?_⟩
   ·exact⟨g2,h.2.mono fun k a b l hl=>g1 k a b l (by simpa using hl)⟩
   ·exact⟨g2,g3,h.2.mono fun k a b l hl=>g1 k a b l (by simpa using hl)⟩
 |[],[],_,_,_,h,_,_=>h.elim
 |[],_::_::_,_,_,_,h,_,_=>by simp [Seg]at h
 |[],[_],[],_,_,h,_,_=>h.elim
 |[],[_],_::_::_,_,_,h,_,_=>by simp [Seg]at h
 |_::_,[],_,_,_,h,_,_=>by simp [Seg]at h
 |_::_,_::_,[],_,_,h,_,_=>by simp [Seg]at h
theorem Seg.part {keys kids:List Int} {ls:List (List Int)} {lo hi:Int} (h:Seg P lo hi keys kids ls) (h4:keys.length=4) :
  Seg P lo (keys.getD 1 0) (keys.take 1) (kids.take 2) (ls.take 2)/\Seg P (keys.getD 1 0) hi (keys.drop 2) (kids.drop 2) (ls.drop 2):=by
 have hl:=h.len
 match keys,kids,ls,h4,hl,h with
 |[a,b,c,d],[k1,k2,k3,k4,k5],[l1,l2,l3,l4,l5],_,_,h=>
  obtain⟨g1,g2,g3,g4,g5⟩:=h
  exact⟨⟨g1,g2⟩,g3,g4,g5⟩
end
section
variable {x e:aC} {lo hi n:Int} {a b c l E:List aC} {L L':List Int} {d:Nat} {t t':Tr}
def il (a b:List aC):Prop:=bh a/\bh b/\∀k,look a k=look b k
theorem il.refl (h:bh a):il a a:=⟨h,h,fun _=>rfl⟩
theorem il.trans (h:il a b) (h':il b c):il a c:=⟨h.1,h'.2.1,fun k=>(h.2.2 k).trans (h'.2.2 k)⟩
theorem il.symm (h:il a b):il b a:=⟨h.2.1,h.1,fun k=>(h.2.2 k).symm⟩
theorem il.perm (h:a.Perm b) (ha:bh a):il a b:=⟨ha,fun e he=>ha e (h.mem_iff.2 he),fun k=>o9 h ha.dD k⟩
theorem il.append {d:List aC} (h:il a b) (h':il c d):il (a++c) (b++d):=
 ⟨bg.2 ⟨h.1,h'.1⟩,bg.2 ⟨h.2.1,h'.2.1⟩,fun k=>by rw [lY h.1.dD h'.1.dD,lY h.2.1.dD h'.2.1.dD,h.2.2,h'.2.2]⟩
theorem CM (h:bh l) (hx:x.is.Good):il (ins l x) (x::l):=by
 refine⟨jR h hx,fun e he=>by rcases fk.1 he with rfl|he;exact hx;exact h e he,fun k=>?_⟩
 rw [aau h.dD (.inr hx)]
 simp only [look]
 rw [join_comm (cV h.dD k) (.inr hx)]
theorem il.small (h:il a b):Small a↔Small b:=by
 unfold Small;constructor <;> intro hs k
 ·rw [<-h.2.2];exact hs k
 ·rw [h.2.2];exact hs k
theorem FR (h:Small (a++b)) (g:bh (a++b)):Small a:=fun k=>Int.le_trans (IU (bg.1 g).1.dD (bg.1 g).2.dD k) (h k)
theorem rQ (h:Small c) (g:bh c) (hp:(a++b).Perm c):Small a:=
 FR ((mZ hp (fun e he=> .inr (g e (hp.mem_iff.1 he)))).2 h) fun e he=>g e (hp.mem_iff.1 he)
theorem jZ.good (h:jZ e):e.is.Good:=(dg h.2.1 h.1).1
theorem jZ.le (h:jZ e):e.is.c<=1073741824:=(dg h.2.1 h.1).2
theorem Cx (hr:vk l) (he:jZ e) (hs:Small (e::l)):ye l e=some (ins l e)/\Checked (ins l e)/\(ins l e).length<=l.length+1:=by
 have h1:(look l e.key).c+e.is.c<=1073741824:=by
  have:=hs e.key
  simp only [look,ar trivial,dF]at this
  omega
 have h2:=yz hr.1 he.le
 rw [ar h1]at h2
 refine⟨?_,aaY hr.1 hr.2.1 he.good h1,Ec h2⟩
 unfold ye
 rw [ar ⟨hr,he⟩,h2]
theorem JX (hl:∀e∈l,lo<=e.key/\e.key<hi) (hx:lo<=x.key/\x.key<hi):∀e∈ins l x,lo<=e.key/\e.key<hi:=fun e he=>by
 rcases rh he with h|⟨z,hz,hk⟩
 ·rw [h];exact hx
 ·rw [<-hk];exact hl z hz
theorem GF (hl:dB l lo hi) (hx:lo<=x.key/\x.key<hi) (hc:Checked (ins l x)):dB (ins l x) lo hi:=⟨hc,JX hl.2.1 hx,jH hl.2.2⟩
theorem dB.row (h:dB l lo hi) (h0:0<=lo) (h1:hi<=1099511627776) (hl:l.length<=20):vk l:=⟨h.2.2,h.1,fun e he=>by have:=h.2.1 e he;omega,hl⟩
theorem Mq:ins l x≠[]:=by
 cases l with
 |nil=>simp [ins]
 |cons e l=>unfold ins;split <;> (try split) <;> simp
def bk (x:Nd):Nat:=if x.leaf=true then max 3 x.aF.length else x.buf.length
def UM (t:Tr) (m:Int):Nat:=match t.dh m with|none=>0|some x=>bk x
def wt (t:Tr) (l:List Int):Nat:=(l.map (UM t)).sum
theorem lh (t:Tr) (a b:List Int):wt t (a++b)=wt t a+wt t b:=by simp [wt]
theorem mz (t:Tr) (n:Int) (b:List Int):wt t (n::b)=UM t n+wt t b:=by simp [wt]
theorem pC {l:List Int} (h:∀m∈l,t'.dh m=t.dh m):wt t' l=wt t l:=by
 unfold wt
 congr 1
 exact List.map_congr_left fun m hm=>by unfold UM;rw [h m hm]
theorem zU {f g:Int->List aC}:∀{l:List Int},(∀m∈l,f m=g m)->l.flatMap f=l.flatMap g
 |[],_=>rfl
 |a::l,h=>by rw [gQ,gQ,h a bj,zU fun m hm=>h m (by simp [hm])]
theorem of_same {l:List Int} (h:∀m∈l,t'.dh m=t.dh m):l.flatMap t'.of=l.flatMap t.of:=
 zU fun m hm=>by unfold Tr.of;rw [h m hm]
theorem ae2 {x:Nd} (h:t.dh n=some x):t.of n=x.aF++x.buf:=by unfold Tr.of;rw [h]
theorem n7 {x:Nd} (h:t.dh n=some x):UM t n=bk x:=by unfold UM;rw [h]
structure Prog (t t':Tr) (L L':List Int) (E:List aC) (d:Nat):Prop where
 root:t'.root=t.root
 Mj:t.nodes.length<=t'.nodes.length
 Gu:t'.nodes.length<=t.nodes.length+d
 old:∀m:Int,m∉L->m<t.nodes.length->t'.dh m=t.dh m
 mem:∀m:Int,m∈L'↔m∈L\/((t.nodes.length:Int)<=m/\m<t'.nodes.length)
 nd:L'.Nodup
 ev:il (L'.flatMap t'.of) (E++L.flatMap t.of)
 wt:wt t' L'<=wt t L+E.length
theorem Prog.refl (hn:L.Nodup) (hg:bh (L.flatMap t.of)):Prog t t L L [] 0:=
 ⟨rfl,km _,km _,fun _ _ _=>rfl,fun m=>⟨.inl,fun h=>h.elim id fun h=>af⟩,hn,il.refl hg,km _⟩
theorem Prog.trans {t1 t2:Tr} {L1 L2:List Int} {E1 E2:List aC} {d1 d2:Nat} (h1:Prog t t1 L L1 E1 d1) (h2:Prog t1 t2 L1 L2 E2 d2):Prog t t2 L L2 (E1++E2) (d1+d2):=by
 have a0:=h1.Mj
 have a1:=h1.Gu
 have b0:=h2.Mj
 have b1:=h2.Gu
 refine⟨h2.root.trans h1.root,af,af,fun m hm hl=>?_,fun m=>?_,h2.nd,?_,?_⟩
 ·rw [h2.old m (fun h=>by rcases (h1.mem m).1 h with h|h;exact hm h;omega) af,h1.old m hm hl]
 ·rw [h2.mem,h1.mem]
  constructor
  ·rintro((h|h)|h)
   ·exact .inl h
   ·exact .inr ⟨h.1,af⟩
   ·exact .inr ⟨af,h.2⟩
  ·rintro(h|h)
   ·exact .inl (.inl h)
   ·by_cases hm:m<t1.nodes.length
    ·exact .inl (.inr ⟨h.1,hm⟩)
    ·exact .inr ⟨af,h.2⟩
 ·refine(h2.ev.trans ((il.refl (bg.1 h2.ev.2.1).1).append h1.ev)).trans (il.perm ?_ ?_)
  ·rw [<-jv]
   exact List.Perm.append_right _ (List.perm_append_comm)
  ·exact bg.2 ⟨(bg.1 h2.ev.2.1).1,h1.ev.2.1⟩
 ·have:=h1.wt
  have:=h2.wt
  rw [dO];omega
def ZY (a b:aC):Nat:=List.count a [b]
theorem px (a b:aC) (l:List aC):List.count a (b::l)=ZY a b+List.count a l:=List.count_append (l₁:=[b]) (l₂:=l)
theorem Prog.small {F:List aC} (h:Prog t t' L L' E d) (gF:bh F) (hs:Small (E++F++L.flatMap t.of)):Small (F++L'.flatMap t'.of):=by
 have e1:=(il.refl gF).append h.ev
 refine(e1.trans (il.perm (b:=E++F++L.flatMap t.of) ?_ e1.2.1)).small.2 hs
 refine Am.2 fun a=>?_
 simp only [List.count_append];omega
theorem Prog.bQ (h:Prog t t' L L' E d):bh (L'.flatMap t'.of):=h.ev.1
theorem Prog.more {d':Nat} (h:Prog t t' L L' E d) (hd:d<=d'):Prog t t' L L' E d':=⟨h.root,h.Mj,by have:=h.Gu;omega,h.old,h.mem,h.nd,h.ev,h.wt⟩
theorem Prog.part {l l' A B:List Int} (h:Prog t t' l l' E d) (hn:(A++(l++B)).Nodup) (hlt:∀m∈A++B,m<(t.nodes.length:Int)) (hg:bh ((A++B).flatMap t.of)):Prog t t' (A++(l++B)) (A++(l'++B)) E d/\(∀m∈A++B,t'.dh m=t.dh m):=by
 have GU:=hn
 rw [List.nodup_append,List.nodup_append]at GU
 obtain⟨n1,⟨n2,n3,n4⟩,n5⟩:=GU
 have hoff:∀m∈A++B,m∉l:=fun m hm hl=>by
  rcases kJ.1 hm with hm|hm
  ·exact n5 m hm m (by simp [hl]) rfl
  ·exact n4 m hl m hm rfl
 have hsame:∀m∈A++B,t'.dh m=t.dh m:=fun m hm=>h.old m (hoff m hm) (hlt m hm)
 have hA:∀m∈A,t'.dh m=t.dh m:=fun m hm=>hsame m (by simp [hm])
 have hB:∀m∈B,t'.dh m=t.dh m:=fun m hm=>hsame m (by simp [hm])
 have hl':∀m∈A++B,m∉l':=fun m hm hl=>by
  rcases (h.mem m).1 hl with h'|h'
  ·exact hoff m hm h'
  ·have:=hlt m hm;omega
 refine⟨⟨h.root,h.Mj,h.Gu,fun m hm hl=>h.old m (fun hm'=>hm (by simp [hm'])) hl,fun m=>?_,?_,?_,?_⟩,hsame⟩
 ·simp only [kJ]
  rw [h.mem]
  constructor
  ·rintro(h|(h|h)|h)
   ·exact .inl (.inl h)
   ·exact .inl (.inr (.inl h))
   ·exact .inr h
   ·exact .inl (.inr (.inr h))
  ·rintro((h|h|h)|h)
   ·exact .inl h
   ·exact .inr (.inl (.inl h))
   ·exact .inr (.inr h)
   ·exact .inr (.inl (.inr h))
 ·rw [List.nodup_append,List.nodup_append]
  refine⟨n1,⟨h.nd,n3,fun a ha b hb hab=>?_⟩,fun a ha b hb hab=>?_⟩
  ·subst hab;exact hl' a (by simp [hb]) ha
  ·subst hab
   rcases kJ.1 hb with hb|hb
   ·exact hl' a (by simp [ha]) hb
   ·exact n5 a ha a (by simp [hb]) rfl
 ·simp only [tR]at hg ⊢
  rw [of_same hA,of_same hB]
  have gA:=(bg.1 hg).1
  have gB:=(bg.1 hg).2
  have e1:=(il.refl gA).append (h.ev.append (il.refl gB))
  refine e1.trans (il.perm ?_ e1.2.1)
  refine Am.2 fun a=>?_
  simp only [List.count_append];omega
 ·have:=h.wt
  rw [lh,lh,lh,lh,pC hA,pC hB];omega
theorem Prog.one {x y:Nd} (hx:t.dh n=some x) (hn:(n::L).Nodup) (hg:bh (L.flatMap t.of)) (he:il (y.aF++y.buf) (E++(x.aF++x.buf))) (hw:bk y<=bk x+E.length) :
  Prog t (cG t n y) (n::L) (n::L) E 0/\∀m,m≠n->(cG t n y).dh m=t.dh m:=by
 have h0:=(xN hx).1
 have hne:∀m,m≠n->(cG t n y).dh m=t.dh m:=fun m hm=>lG h0 hm
 have hL:∀m∈L,(cG t n y).dh m=t.dh m:=fun m hm=>hne m fun e=>by subst e;exact(List.nodup_cons.1 hn).1 hm
 refine⟨⟨rfl,by rw [iF];omega,by rw [iF];omega,fun m hm _=>hne m fun e=>hm (by simp [e]),fun m=>?_,hn,?_,?_⟩,hne⟩
 ·rw [iF];exact⟨.inl,fun h=>h.elim id fun h=>af⟩
 ·rw [gQ,gQ,ae2 (tP hx),ae2 hx,of_same hL,<-jv]
  exact he.append (il.refl hg)
 ·rw [mz,mz,n7 (tP hx),n7 hx,pC hL];omega
end
section
variable {e:aC} {n lo hi:Int} {ls:List (List Int)} {l:List Int} {h:Nat} {x:Nd} {t:Tr}
structure Bg (t:Tr) (h:Nat) (n:Int) (x:Nd) (lo hi:Int) (ls:List (List Int)):Prop where
 pos:0<h
 at':t.dh n=some x
 leaf:x.leaf=false
 aF:x.aF=[]
 two:2<=x.kids.length
 buf:dB x.buf lo hi
 IG:Seg (Sub t h) lo hi x.keys x.kids ls
 nd:(n::ls.flatten).Nodup
theorem sub_lt:∀k a b l,Sub t h k a b l->a<b:=fun _ _ _ _ h=>h.lt
theorem Sub.inn (hs:Sub t (h+1) n lo hi l) (hp:0<h) (hn:l.Nodup):∃x ls,Bg t h n x lo hi ls/\l=n::ls.flatten/\x.kids.length<=4/\x.buf.length<=8:=by
 obtain⟨x,hx,hlt,⟨h0,_⟩|⟨_,h1,h2,ls,h3,rfl,h4⟩⟩:=hs
 ·omega
 ·exact⟨x,ls,⟨hp,hx,h1,h2.1,h2.2.1,h2.2.2.2.2.2,LB (by have:=h2.2.2.2.1;omega) h3 fun j k lj hj nD=>(h4 j k lj hj nD).2.2,hn⟩,rfl,h2.2.2.1,h2.2.2.2.2.1⟩
theorem Bg.sub (hi':Bg t h n x lo hi ls) (h4:x.kids.length<=4) (h8:x.buf.length<=8):Sub t (h+1) n lo hi (n::ls.flatten):=by
 have hl:=hi'.IG.len
 exact⟨x,hi'.at',(hi'.IG.bounds sub_lt).1, .inr ⟨hi'.pos,hi'.leaf,⟨hi'.aF,hi'.two,h4,af,h8,hi'.buf⟩,ls,af,rfl,hi'.IG.at sub_lt⟩⟩
theorem Bg.mem (hi':Bg t h n x lo hi ls):∀m∈n::ls.flatten,0<=m/\m<(t.nodes.length:Int):=fun m hm=>by
 rcases fk.1 hm with rfl|hm
 ·exact xN hi'.at'
 ·obtain⟨lj,nD,AX⟩:=List.mem_flatten.1 hm
  obtain⟨j,hj,rfl⟩:=adU nD
  have hl:=hi'.IG.len
  have hjk:j<x.kids.length:=af
  obtain⟨y,hy⟩:=(hi'.IG.at sub_lt j _ _ (nL hjk) (nL hj)).2.2.mem.2 m AX
  exact xN hy
theorem Bg.keys (hi':Bg t h n x lo hi ls):x.keys.Pairwise (·<·):=(hi'.IG.bounds sub_lt).2.1
theorem Bg.FW (hi':Bg t h n x lo hi ls) {B:List aC} (hB:dB B lo hi):Bg (cG t n { x with buf:=B }) h n { x with buf:=B } lo hi ls:=by
 have h0:=(xN hi'.at').1
 refine⟨hi'.pos,tP hi'.at',hi'.leaf,hi'.aF,hi'.two,hB,hi'.IG.mono fun k a b l hl hs=>hs.frame (zb _ _ _) fun m hm=>lG h0 fun e=>?_,hi'.nd⟩
 subst e
 exact(List.nodup_cons.1 hi'.nd).1 (List.mem_flatten.2 ⟨l,hl,hm⟩)
def Jh (put:Tr->Int->aC->Option (Tr×Int×Int)) (h d:Nat):Prop:=∀(t:Tr) (n lo hi:Int) (l:List Int) (e:aC),Sub t h n lo hi l->l.Nodup->jZ e->lo<=e.key->e.key<hi->0<=lo->hi<=1099511627776 ->
 bh (l.flatMap t.of)->Small (e::l.flatMap t.of)->t.nodes.length+d<=1000000000000->∃t' more key l',put t n e=some (t',more,key)/\Prog t t' l l' [e] d /\
  ((more = -1/\Sub t' h n lo hi l')\/(0<=more/\∃l1 l2,l'=l1++l2/\Sub t' h n lo key l1/\Sub t' h more key hi l2/\∀x,t'.dh n=some x->x.leaf=true->x.aF≠[]))
theorem ry {L1 L2:List (List Int)}:n::(L1++l::L2).flatten=(n::L1.flatten)++(l++L2.flatten):=bj
theorem PC {put:Tr->Int->aC->Option (Tr×Int×Int)} {d:Nat} (hp:Jh put h d) (hi':Bg t h n x lo hi ls) (he:jZ e) (h1:lo<=e.key) (h2:e.key<hi) (h0:0<=lo) (hh:hi<=1099511627776)
  (hg:bh ((n::ls.flatten).flatMap t.of)) (hs:Small (e::(n::ls.flatten).flatMap t.of)) (hn:t.nodes.length+d<=1000000000000) (h4:x.kids.length<=4) :
  ∃k t1 more key t2 y IQ,x.kids[aU x.keys e.key]?=some k/\put t k e=some (t1,more,key) /\
   GD t1 n (aU x.keys e.key) more key=some t2/\Bg t2 h n y lo hi IQ/\y.kids.length<=x.kids.length+1/\y.buf=x.buf/\Prog t t2 (n::ls.flatten) (n::IQ.flatten) [e] d:=by
 have hlen:=hi'.IG.len
 obtain⟨k,a,b,l,L1,L2,e1,e2,e3,e4,e5,e6,rfl,e8,e9,e10⟩:=hi'.IG.zip sub_lt h1 h2
 have hnd:=hi'.nd
 have hmem:=hi'.mem
 rw [ry]at hnd hg hs hmem
 have hnl:l.Nodup:=(List.nodup_append.1 (List.nodup_append.1 hnd).2.1).1
 have hgl:bh (l.flatMap t.of):=by
  simp only [tR]at hg
  exact(bg.1 (bg.1 hg).2).1
 have hgA:bh (((n::L1.flatten)++L2.flatten).flatMap t.of):=by
  simp only [tR]at hg ⊢
  exact bg.2 ⟨(bg.1 hg).1,(bg.1 (bg.1 hg).2).2⟩
 have hsl:Small (e::l.flatMap t.of):=by
  refine rQ (b:=((n::L1.flatten)++L2.flatten).flatMap t.of) hs (fun y hy=>by rcases fk.1 hy with rfl|hy;exact he.good;exact hg y hy) ?_
  rw [List.cons_append]
  refine List.Perm.cons _ ?_
  simp only [tR]
  rw [<-jv,<-jv]
  exact List.Perm.append_right _ List.perm_append_comm
 obtain⟨t1,more,key,l',p1,p2,p3⟩:=hp t k a b l e e2 hnl he e3 e4 af af hgl hsl hn
 obtain⟨q1,q2⟩:=p2.part hnd (fun m hm=>(hmem m (by rcases kJ.1 hm with hm|hm;exact List.mem_append_left _ hm;exact List.mem_append_right _ (List.mem_append_right _ hm))).2) hgA
 have hx1:t1.dh n=some x:=(q2 n bj).trans hi'.at'
 have yD:∀k a b l,l∈L1++L2->Sub t h k a b l->Sub t1 h k a b l:=fun k a b l hl hs=>hs.frame p2.root fun m hm=>q2 m (by
  rcases kJ.1 hl with hl|hl
  ·exact List.mem_append_left _ (List.mem_cons_of_mem _ (List.mem_flatten.2 ⟨l,hl,hm⟩))
  ·exact List.mem_append_right _ (List.mem_flatten.2 ⟨l,hl,hm⟩))
 rcases p3 with ⟨rfl,g1⟩|⟨g0,l1,l2,rfl,g1,g2,-⟩
 ·refine⟨k,t1,-1,key,t1,x,L1++l'::L2,e1,p1,by unfold GD;rw [ar af],?_,af,rfl,?_⟩
  ·exact⟨hi'.pos,hx1,hi'.leaf,hi'.aF,hi'.two,hi'.buf,e9 (Sub t1 h) l' yD g1,by rw [ry];exact q1.nd⟩
  ·rw [ry,ry];exact q1
 ·have hfl:n::(L1++l1::l2::L2).flatten=(n::L1.flatten)++((l1++l2)++L2.flatten):=bj
  have GR:=q1.nd
  rw [<-hfl]at GR
  have hn0:=(xN hx1).1
  have hseg:=e10 (Sub t1 h) l1 l2 more key yD g1 g2
  refine⟨k,t1,more,key,cG t1 n { x with keys:=x.keys.take (aU x.keys e.key)++key::x.keys.drop (aU x.keys e.key),kids:=x.kids.take (aU x.keys e.key+1)++more::x.kids.drop (aU x.keys e.key+1) },
   {x with keys:=x.keys.take (aU x.keys e.key)++key::x.keys.drop (aU x.keys e.key),kids:=x.kids.take (aU x.keys e.key+1)++more::x.kids.drop (aU x.keys e.key+1) },L1++l1::l2::L2,e1,p1,?_,?_,?_,rfl,?_⟩
  ·unfold GD
   rw [ai af,hx1]
   simp only
   rw [ar ⟨e8,af,af,af⟩]
  ·refine⟨hi'.pos,tP hx1,hi'.leaf,hi'.aF,?_,hi'.buf,hseg.mono fun k a b l hl hs=>hs.frame (zb _ _ _) fun m hm=>lG hn0 fun e=>?_,GR⟩
   ·have:=hi'.two;simp;omega
   ·subst e
    exact(List.nodup_cons.1 GR).1 (List.mem_flatten.2 ⟨l,hl,hm⟩)
  ·simp;omega
  ·rw [hfl,ry]
   have hgq:bh ((L1++l1::l2::L2).flatten.flatMap t1.of):=by
    have:=q1.ev.1
    rw [<-hfl,gQ]at this
    exact(bg.1 this).2
   have hgx:bh (x.aF++x.buf):=by
    have:=q1.ev.1
    rw [<-hfl,gQ,ae2 hx1]at this
    exact(bg.1 this).1
   have:=(Prog.one (y:={ x with keys:=x.keys.take (aU x.keys e.key)++key::x.keys.drop (aU x.keys e.key),kids:=x.kids.take (aU x.keys e.key+1)++more::x.kids.drop (aU x.keys e.key+1) }) (E:=[]) hx1 GR hgq (il.refl hgx) (by unfold bk;simp)).1
   rw [hfl]at this
   have:=q1.trans this
   simpa using this
theorem Dt {h:Nat} {n:Int} {lo hi:Int} {ls:List (List Int)} (h0:0<=lo) (hh:hi<=1099511627776):∀(rs:List aC) (t:Tr) (x:Nd),Bg t h n x lo hi ls->(∀e∈rs,jZ e/\lo<=e.key/\e.key<hi)->x.buf.length+rs.length<=20 ->
  bh ((n::ls.flatten).flatMap t.of)->Small (rs++(n::ls.flatten).flatMap t.of)->∃t' y,rs.foldlM (oU n) t=some t'/\Bg t' h n y lo hi ls/\y.kids=x.kids/\y.buf.length<=x.buf.length+rs.length/\Prog t t' (n::ls.flatten) (n::ls.flatten) rs 0
 |[],t,x,hi',_,_,hg,_=>⟨t,x,rfl,hi',rfl,bj,Prog.refl hi'.nd hg⟩
 |e::rs,t,x,hi',he,hl,hg,hs=>by
  obtain⟨h1,h2,h3⟩:=he e bj
  have Wz:bh (x.aF++x.buf)/\bh (ls.flatten.flatMap t.of):=by
   rw [gQ,ae2 hi'.at']at hg
   exact bg.1 hg
  have hgr:bh (e::rs):=fun y hy=>(he y hy).1.good
  have ME:Small (e::x.buf):=by
   refine rQ (b:=rs++(x.aF++ls.flatten.flatMap t.of)) hs (bg.2 ⟨hgr,hg⟩) ?_
   rw [gQ,ae2 hi'.at']
   refine Am.2 fun a=>?_
   simp only [List.count_append,px];omega
  obtain⟨g1,g2,g3⟩:=Cx (hi'.buf.row h0 hh (by simp at hl;omega)) h1 ME
  have hi2:=hi'.FW (GF hi'.buf ⟨h2,h3⟩ g2)
  have gb:bh x.buf:=hi'.buf.1.bQ
  have ev:il (x.aF++ins x.buf e) ([e]++(x.aF++x.buf)):=by
   have e1:=(il.refl (bg.1 Wz.1).1).append (CM gb h1.good)
   refine e1.trans (il.perm ?_ e1.2.1)
   refine Am.2 fun a=>?_
   simp only [List.count_append,px,List.count_nil];omega
  have pr:=(Prog.one (y:={ x with buf:=ins x.buf e }) (E:=[e]) hi'.at' hi'.nd Wz.2 ev (by unfold bk;simp only [hi'.leaf];simpa using g3)).1
  obtain⟨t',y,k1,k2,k3,k4,k5⟩:=Dt h0 hh rs _ _ hi2 (fun y hy=>he y (by simp [hy])) (by show (ins x.buf e).length+rs.length<=20;simp at hl;omega) pr.bQ (pr.small (F:=rs) (fun y hy=>hgr y (by simp [hy])) (by simpa using hs))
  refine⟨t',y,?_,k2,k3,by simp at k4 ⊢;omega,by simpa using pr.trans k5⟩
  rw [List.foldlM_cons]
  have:oU n t e=some (cG t n { x with buf:=ins x.buf e }):=by unfold oU;rw [hi'.at'];simp only;rw [g1];rfl
  rw [this];exact k1
theorem ag2 {pre:List aC} {ds:List aC} (h:aT (pre++e::ds)):(pre++e::ds).filter (fun d=>decide (e.key<d.key))=ds:=by
 have h1:=List.pairwise_append.1 h
 have h2:=aez.1 h1.2.1
 rw [rF,qB bj,List.filter_eq_nil_iff.2 fun y hy=>?_,List.nil_append,List.filter_eq_self.2 fun y hy=>?_]
 ·simpa using h2.1 y hy
 ·have:=h1.2.2 y hy e bj;simp;omega
theorem EY {put:Tr->Int->aC->Option (Tr×Int×Int)} {h d:Nat} {n:Int} {lo hi:Int} (hp:Jh put h d) (h0:0<=lo) (hh:hi<=1099511627776) {all:List aC} (hr:aT all) :
  ∀(ds pre:List aC) (t:Tr) (x:Nd) (ls:List (List Int)),all=pre++ds->Bg t h n x lo hi ls->(∀e∈ds,jZ e/\lo<=e.key/\e.key<hi)->x.kids.length<=4->x.buf.length+ds.length<=20 ->
  bh ((n::ls.flatten).flatMap t.of)->Small (ds++(n::ls.flatten).flatMap t.of)->t.nodes.length+ds.length*d<=1000000000000 ->
  ∃t' y IQ,sN put n all ds t=some t'/\Bg t' h n y lo hi IQ/\y.kids.length<=5/\y.buf.length<=x.buf.length+(ds.length-1)/\Prog t t' (n::ls.flatten) (n::IQ.flatten) ds (ds.length*d)
 |[],pre,t,x,ls,_,hi',_,h4,_,hg,_,_=>⟨t,x,ls,rfl,hi',af,bj,by simpa using Prog.refl hi'.nd hg⟩
 |e::ds,pre,t,x,ls,ha,hi',he,h4,hl,hg,hs,hn=>by
  obtain⟨h1,h2,h3⟩:=he e bj
  have hgr:bh (e::ds):=fun y hy=>(he y hy).1.good
  rw [gp,Nat.add_mul,Nat.one_mul]at hn
  have K5:Small (e::(n::ls.flatten).flatMap t.of):=by
   refine rQ (b:=ds) hs (bg.2 ⟨hgr,hg⟩) ?_
   refine Am.2 fun a=>?_
   simp only [List.count_append,px];omega
  obtain⟨k,t1,more,key,t2,y,IQ,p1,p2,p3,p4,p5,p6,p7⟩:=PC hp hi' h1 h2 h3 h0 hh hg K5 af h4
  have hs2:Small (ds++(n::IQ.flatten).flatMap t2.of):=p7.small (F:=ds) (fun y hy=>hgr y (by simp [hy])) (by simpa using hs)
  have hlen:=p7.Gu
  unfold sN
  rw [hi'.at']
  simp only
  rw [ar ⟨hi'.keys,by have:=hi'.IG.len;omega,af⟩,p1]
  simp only
  rw [p2]
  simp only
  rw [p3]
  simp only
  rw [p4.at']
  simp only
  by_cases h5:y.kids.length<=4
  ·rw [ar h5]
   obtain⟨t',z,ls2,q1,q2,q3,q4,q5⟩:=EY hp h0 hh hr ds (pre++[e]) t2 y IQ (by simp [ha]) p4 (fun y hy=>he y (by simp [hy])) h5 (by rw [p6];simp at hl;omega) p7.bQ hs2 af
   refine⟨t',z,ls2,q1,q2,q3,by rw [p6]at q4;simp;omega,?_⟩
   have:=p7.trans q5
   rw [gp,Nat.add_mul,Nat.one_mul,Nat.add_comm]
   simpa using this
  ·rw [ai h5,ha,ag2 (ha▸hr)]
   obtain⟨t',z,q1,q2,q3,q4,q5⟩:=Dt h0 hh ds t2 y p4 (fun y hy=>he y (by simp [hy])) (by rw [p6];simp at hl;omega) p7.bQ hs2
   refine⟨t',z,IQ,q1,q2,by rw [q3];omega,by rw [p6]at q4;simp;omega,?_⟩
   have:=(p7.trans q5).more (d':=(e::ds).length*d) (by rw [gp,Nat.add_mul,Nat.one_mul];omega)
   simpa using this
end
section
variable {lo hi n key:Int} {ls:List (List Int)} {l:List aC} {h:Nat} {x:Nd} {t:Tr}
theorem BV (m:Nat->Nat):∀(k j:Nat),j<k->m j<=m (iU m k)
 |0,_,h=>af
 |k+1,j,h=>by
  unfold iU
  by_cases hj:j=k
  ·subst hj;split <;> omega
  ·have:=BV m k j af
   split <;> omega
theorem Kr (hk:x.keys.length<=3) (hb:x.buf≠[]):(x.buf.filter fun e=>decide (aU x.keys e.key=iU (iP x) 4))≠[]:=fun h=>by
 obtain⟨e,he⟩:=List.exists_mem_of_ne_nil _ hb
 have h1:=BV (iP x) 4 (aU x.keys e.key) (by have:=qY x.keys e.key;omega)
 have h2:iP x (iU (iP x) 4)=0:=by unfold iP at h ⊢;rw [h];rfl
 have h3:0<iP x (aU x.keys e.key):=by
  unfold iP
  exact List.length_pos_of_mem (mn.2 ⟨he,bj⟩)
 omega
theorem LX (l:List aC) (p:aC->Bool):(l.filter fun e=>!p e).length+(l.filter p).length=l.length:=by
 induction l with
 |nil=>rfl
 |cons a l ih=>by_cases h:p a=true <;> simp [h] <;> omega
theorem JH (l:List aC) (p:aC->Bool):(l.filter p++l.filter fun e=>!p e).Perm l:=List.filter_append_perm p l
theorem dB.filter (h:dB l lo hi) (p:aC->Bool):dB (l.filter p) lo hi:=⟨fun e he=>h.1 e (mn.1 he).1,fun e he=>h.2.1 e (mn.1 he).1,h.2.2.filter _⟩
theorem dB.Vk (h:dB l lo hi) (h0:0<=lo) (hh:hi<=1099511627776):∀e∈l,jZ e/\lo<=e.key/\e.key<hi:=fun e he=>by
 have h1:=h.1 e he
 have h2:=h.2.1 e he
 exact⟨⟨h1.1,h1.2,af,af⟩,h2.1,h2.2⟩
theorem Ke {put:Tr->Int->aC->Option (Tr×Int×Int)} {d:Nat} (hp:Jh put h d) (h0:0<=lo) (hh:hi<=1099511627776) (hi':Bg t h n x lo hi ls)
  (h4:x.kids.length<=4) (hb:x.buf≠[]) (h9:x.buf.length<=9) (hg:bh ((n::ls.flatten).flatMap t.of)) (hs:Small ((n::ls.flatten).flatMap t.of)) (hn:t.nodes.length+9*d<=1000000000000) :
  ∃t' y IQ,oz put t n=some t'/\Bg t' h n y lo hi IQ/\y.kids.length<=5/\y.buf.length<=8/\Prog t t' (n::ls.flatten) (n::IQ.flatten) [] (9*d):=by
 have hlen:=hi'.IG.len
 obtain⟨p,QW⟩:∃p:aC->Bool,p=fun e=>decide (aU x.keys e.key=iU (iP x) 4):=⟨_,rfl⟩
 have hne:x.buf.filter p≠[]:=by rw [QW];exact Kr af hb
 have hpl:=LX x.buf p
 have hlp:0<(x.buf.filter p).length:=List.length_pos_iff.2 hne
 have hi1:=hi'.FW (hi'.buf.filter fun e=>!p e)
 have h0n:=(xN hi'.at').1
 have hsame:∀m∈ls.flatten,(cG t n { x with buf:=x.buf.filter fun e=>!p e }).dh m=t.dh m:=fun m hm=>lG h0n fun e=>by subst e;exact(List.nodup_cons.1 hi'.nd).1 hm
 have ef:(n::ls.flatten).flatMap t.of=(x.aF++x.buf)++ls.flatten.flatMap t.of:=by rw [gQ,ae2 hi'.at']
 have ef1:(n::ls.flatten).flatMap (cG t n { x with buf:=x.buf.filter fun e=>!p e }).of=(x.aF++x.buf.filter fun e=>!p e)++ls.flatten.flatMap t.of:=by rw [gQ,ae2 hi1.at',of_same hsame]
 have hperm:(x.buf.filter p++(n::ls.flatten).flatMap (cG t n { x with buf:=x.buf.filter fun e=>!p e }).of).Perm ((n::ls.flatten).flatMap t.of):=by
  rw [ef,ef1]
  have hq:=JH x.buf p
  refine Am.2 fun a=>?_
  have:=Am.1 hq a
  simp only [List.count_append]at this ⊢;omega
 have hg1:bh (x.buf.filter p++(n::ls.flatten).flatMap (cG t n { x with buf:=x.buf.filter fun e=>!p e }).of):=fun e he=>hg e (hperm.mem_iff.1 he)
 have hs1:=(mZ hperm hg1.dD).2 hs
 have zO:(x.buf.filter p).length*d<=9*d:=Nat.mul_le_mul_right _ af
 obtain⟨t',y,IQ,q1,q2,q3,q4,q5⟩:=EY hp h0 hh (all:=x.buf.filter p) (hi'.buf.2.2.filter _) (x.buf.filter p) [] _ _ ls rfl hi1 (fun e he=>hi'.buf.Vk h0 hh e (mn.1 he).1) h4 (by simp only;omega) (bg.1 hg1).2 hs1 (by rw [iF];omega)
 refine⟨t',y,IQ,?_,q2,q3,by simp only at q4;omega,?_⟩
 ·unfold oz
  rw [hi'.at']
  simp only
  rw [ar ⟨hi'.keys,af,af,hi'.buf.1⟩]
  rw [QW]at q1
  exact q1
 ·have l0:=q5.Mj
  have l1:=q5.Gu
  rw [iF]at l0 l1
  refine⟨q5.root,l0,af,fun m hm hl=>?_,fun m=>?_,q5.nd,?_,?_⟩
  ·rw [q5.old m hm (by rw [iF];exact hl)]
   exact lG h0n fun e=>hm (by simp [e])
  ·have:=q5.mem m
   rw [iF]at this;exact this
  ·exact q5.ev.trans (il.perm (by simpa using hperm) hg1)
  ·have hw:=q5.wt
   rw [mz _ n ls.flatten,n7 hi1.at',pC hsame]at hw
   rw [mz t,n7 hi'.at']
   unfold bk at hw ⊢
   simp only [hi'.leaf]at hw ⊢
   simp at hw ⊢;omega
theorem Pk {es:List aC} (hs:aT es) (t:Nat) (ht:t<es.length) (h:ia es key<=t):key<=es[t].key:=by
 have h1:=(ly (key:=key) hs).2.2 af
 by_cases he:ia es key=t
 ·subst he;exact h1
 ·have:=py.1 hs (ia es key) t af ht af;omega
theorem dB.take (h:dB l lo hi):dB (l.take (ia l key)) lo key:=
 ⟨fun e he=>h.1 e (wM he),fun e he=>by
  obtain⟨i,hi,rfl⟩:=adU he
  rw [eP]at hi
  have:=h.2.1 _ (wM he)
  rw [wI]at this ⊢
  exact⟨this.1,(ly h.2.2).2.1 i af af⟩,h.2.2.sublist (List.take_sublist _ _)⟩
theorem dB.drop (h:dB l lo hi):dB (l.drop (ia l key)) key hi:=
 ⟨fun e he=>h.1 e (uZ he),fun e he=>by
  have:=h.2.1 _ (uZ he)
  obtain⟨i,hi,rfl⟩:=adU he
  rw [oI]at hi
  rw [List.getElem_drop]at this ⊢
  exact⟨Pk h.2.2 _ af af,this.2⟩,h.2.2.sublist (List.drop_sublist _ _)⟩
theorem BA {X Y:Nd} {A B:List Int} (hx:t.dh n=some x) (hn:(n::(A++B)).Nodup) (hlt:∀m∈A++B,m<(t.nodes.length:Int)) (hg:bh ((n::(A++B)).flatMap t.of))
  (hp:(X.aF++X.buf++(Y.aF++Y.buf)).Perm (x.aF++x.buf)) (hw:bk X+bk Y<=bk x) :
  Prog t (cG (jq t Y) n X) (n::(A++B)) ((n::A)++(t.nodes.length:Int)::B) [] 1/\(cG (jq t Y) n X).dh n=some X/\(cG (jq t Y) n X).dh (t.nodes.length:Int)=some Y/\∀m∈A++B,(cG (jq t Y) n X).dh m=t.dh m:=by
 have hr:=xN hx
 have k1:(cG (jq t Y) n X).dh n=some X:=tP (Ub hx)
 have k2:(cG (jq t Y) n X).dh (t.nodes.length:Int)=some Y:=(lG hr.1 af).trans Ua
 have hl:(cG (jq t Y) n X).nodes.length=t.nodes.length+1:=by rw [iF,IV]
 have hold:∀m:Int,m≠n->m<t.nodes.length->(cG (jq t Y) n X).dh m=t.dh m:=fun m hm hlm=>by
  rw [lG hr.1 hm]
  unfold Tr.dh jq
  by_cases h0:0<=m
  ·rw [ar h0,ar h0]
   simp only
   rw [Ao af]
  ·rw [ai h0,ai h0]
 have xE:=List.nodup_cons.1 hn
 have k3:∀m∈A++B,(cG (jq t Y) n X).dh m=t.dh m:=fun m hm=>hold m (fun e=>xE.1 (e▸hm)) (hlt m hm)
 have kA:∀m∈A,(cG (jq t Y) n X).dh m=t.dh m:=fun m hm=>k3 m (by simp [hm])
 have kB:∀m∈B,(cG (jq t Y) n X).dh m=t.dh m:=fun m hm=>k3 m (by simp [hm])
 refine⟨⟨rfl,af,af,fun m hm hlm=>hold m (fun e=>hm (by simp [e])) hlm,fun m=>?_,?_,?_,?_⟩,k1,k2,k3⟩
 ·rw [hl]
  simp only [List.cons_append,fk,kJ]
  constructor
  ·rintro(h|h|h|h)
   ·exact .inl (.inl h)
   ·exact .inl (.inr (.inl h))
   ·exact .inr af
   ·exact .inl (.inr (.inr h))
  ·rintro((h|h|h)|h)
   ·exact .inl h
   ·exact .inr (.inl h)
   ·exact .inr (.inr (.inr h))
   ·exact .inr (.inr (.inl af))
 ·have hab:=List.nodup_append.1 xE.2
  rw [List.nodup_append]
  refine⟨List.nodup_cons.2 ⟨fun h=>xE.1 (by simp [h]),hab.1⟩,List.nodup_cons.2 ⟨fun h=>by have:=hlt _ (List.mem_append_right A h);omega,hab.2.1⟩,fun a ha b hb e=>?_⟩
  subst e
  rcases fk.1 ha with rfl|ha <;> rcases fk.1 hb with rfl|hb
  ·omega
  ·exact xE.1 (by simp [hb])
  ·have:=hlt _ (List.mem_append_left B ha);omega
  ·exact hab.2.2 a ha a hb rfl
 ·have hpp:(((n::A)++(t.nodes.length:Int)::B).flatMap (cG (jq t Y) n X).of).Perm ((n::(A++B)).flatMap t.of):=by
   simp only [tR,gQ]
   rw [of_same kA,of_same kB,ae2 k1,ae2 k2,ae2 hx]
   refine Am.2 fun a=>?_
   have:=Am.1 hp a
   simp only [List.count_append]at this ⊢;omega
  have hg2:bh (((n::A)++(t.nodes.length:Int)::B).flatMap (cG (jq t Y) n X).of):=fun e he=>hg e (hpp.mem_iff.1 he)
  exact il.perm hpp hg2
 ·rw [lh,mz,mz,mz,lh,pC kA,pC kB,n7 k1,n7 k2,n7 hx]
  simp;omega
def Left (t':Tr) (h:Nat) (n lo hi more key:Int) (l':List Int):Prop:=(more = -1/\Sub t' h n lo hi l')\/(0<=more/\∃l1 l2,l'=l1++l2/\Sub t' h n lo key l1/\Sub t' h more key hi l2/\∀x,t'.dh n=some x->x.leaf=true->x.aF≠[])
theorem Bp (h0:0<=lo) (hh:hi<=1099511627776) (hi':Bg t h n x lo hi ls) (h5:x.kids.length<=5) (h8:x.buf.length<=8)
  (hg:bh ((n::ls.flatten).flatMap t.of)) (hn:t.nodes.length<=1000000000000):∃t' more key l',gW t n=some (t',more,key)/\Prog t t' (n::ls.flatten) l' [] 1/\Left t' (h+1) n lo hi more key l':=by
 have hlen:=hi'.IG.len
 by_cases h4:x.kids.length<=4
 ·refine⟨t,-1,0,n::ls.flatten,?_,(Prog.refl hi'.nd hg).more af, .inl ⟨rfl,hi'.sub h4 h8⟩⟩
  unfold gW
  rw [hi'.at']
  dsimp only
  rw [ai (by rw [hi'.leaf];simp),ar h4]
 ·have hk4:x.keys.length=4:=af
  obtain⟨s1,s2⟩:=hi'.IG.part hk4
  obtain⟨key,hkey⟩:=bt (x.keys.getD 1 0)
  have hb:=(hi'.IG.bounds sub_lt).2.2 key (by rw [<-hkey,List.getD_eq_getElem?_getD,nL af];simp)
  have hfl:ls.flatten=(ls.take 2).flatten++(ls.drop 2).flatten:=by rw [<-List.flatten_append,wL]
  have hnd:=hi'.nd
  have hmem:=hi'.mem
  rw [hkey]at s1 s2
  rw [hfl]at hnd hg hmem
  obtain⟨P,k1,k2,k3⟩:=BA (X:=⟨false,[],x.keys.take 1,x.kids.take 2,x.buf.take (ia x.buf key)⟩) (Y:=⟨false,[],x.keys.drop 2,x.kids.drop 2,x.buf.drop (ia x.buf key)⟩) hi'.at' hnd (fun m hm=>(hmem m (by simp at hm ⊢;exact .inr hm)).2) hg
   (by rw [hi'.aF];simp) (by unfold bk;simp [hi'.leaf];omega)
  have yD:∀k a b l,l∈ls->Sub t h k a b l->Sub (cG (jq t ⟨false,[],x.keys.drop 2,x.kids.drop 2,x.buf.drop (ia x.buf key)⟩) n ⟨false,[],x.keys.take 1,x.kids.take 2,x.buf.take (ia x.buf key)⟩) h k a b l:=
   fun k a b l hl hs=>hs.frame ((zb _ _ _).trans (LH _ _)) (fun m hm=>k3 m (by rw [<-hfl];exact List.mem_flatten.2 ⟨l,hl,hm⟩))
  have GR:=List.nodup_append.1 P.nd
  refine⟨_,t.nodes.length,key,_,?_,by rw [hfl];exact P, .inr ⟨af,_,_,rfl,?_,?_,fun y hy hl=>?_⟩⟩
  ·unfold gW
   rw [hi'.at']
   dsimp only
   rw [ai (by rw [hi'.leaf];simp),ai h4,hkey,ar ⟨af,hk4,hi'.buf.row h0 hh af,⟨af,af⟩,hn⟩]
  ·exact Bg.sub ⟨hi'.pos,k1,rfl,rfl,by simp;omega,hi'.buf.take,s1.mono fun k a b l hl=>yD k a b l (wM hl),GR.1⟩ (by simp;omega) (by simp;omega)
  ·exact Bg.sub ⟨hi'.pos,k2,rfl,rfl,by simp;omega,hi'.buf.drop,s2.mono fun k a b l hl=>yD k a b l (uZ hl),GR.2.1⟩ (by simp;omega) (by simp;omega)
  ·rw [k1]at hy;injection hy with hy;subst hy;cases hl
def grow:Nat->Nat
 |0=>1
 |h+1=>9*grow h+1
theorem II:∀(h f:Nat),h<=f->Jh (qQ f) h (grow h)
 |0,f,_=>fun t n lo hi l e hs=>hs.elim
 |h+1,0,hf=>af
 |h+1,f+1,hf=>fun t n lo hi l e hs hnd he h1 h2 h0 hh hg hsm hn=>by
  by_cases hp:0<h
  ·obtain⟨x,ls,hi',rfl,h4,h8⟩:=hs.inn hp hnd
   have Wz:bh (x.aF++x.buf)/\bh (ls.flatten.flatMap t.of):=by
    rw [gQ,ae2 hi'.at']at hg
    exact bg.1 hg
   have gce:bh (e::(n::ls.flatten).flatMap t.of):=fun y hy=>by rcases fk.1 hy with rfl|hy;exact he.good;exact hg y hy
   have ME:Small (e::x.buf):=by
    refine rQ (b:=x.aF++ls.flatten.flatMap t.of) hsm gce ?_
    rw [gQ,ae2 hi'.at']
    refine Am.2 fun a=>?_
    simp only [List.count_append,px];omega
   obtain⟨g1,g2,g3⟩:=Cx (hi'.buf.row h0 hh af) he ME
   have hi2:=hi'.FW (GF hi'.buf ⟨h1,h2⟩ g2)
   have gb:bh x.buf:=hi'.buf.1.bQ
   have ev:il (x.aF++ins x.buf e) ([e]++(x.aF++x.buf)):=by
    have e1:=(il.refl (bg.1 Wz.1).1).append (CM gb he.good)
    refine e1.trans (il.perm ?_ e1.2.1)
    refine Am.2 fun a=>?_
    simp only [List.count_append,px,List.count_nil];omega
   have pr:=(Prog.one (y:={ x with buf:=ins x.buf e }) (E:=[e]) hi'.at' hi'.nd Wz.2 ev (by unfold bk;simp only [hi'.leaf];simpa using g3)).1
   have hs2:Small ((n::ls.flatten).flatMap (cG t n { x with buf:=ins x.buf e }).of):=by
    have:=pr.small (F:=[]) (fun _ h=>by cases h) (by simpa using hsm)
    simpa using this
   have hgr:grow (h+1)=9*grow h+1:=rfl
   rw [hgr]at hn ⊢
   have hput:∀r,(if (ins x.buf e).length<=8 then gW (cG t n { x with buf:=ins x.buf e }) n else match oz (qQ f) (cG t n { x with buf:=ins x.buf e }) n with|none=>none|some t2=>gW t2 n)=r->qQ (f+1) t n e=r:=fun r hr=>by
    unfold qQ
    rw [hi'.at']
    dsimp only
    rw [ai (by rw [hi'.leaf];simp),g1]
    exact hr
   by_cases h8':(ins x.buf e).length<=8
   ·obtain⟨t',more,key,l',q1,q2,q3⟩:=Bp h0 hh hi2 (by simp only;omega) h8' pr.bQ (by rw [iF];omega)
    refine⟨t',more,key,l',hput _ (by rw [ar h8'];exact q1),?_,q3⟩
    have:=(pr.trans q2).more (d':=9*grow h+1) af
    simpa using this
   ·obtain⟨t2,y,ls2,q1,q2,q3,q4,q5⟩:=Ke (II h f af) h0 hh hi2 h4 Mq (by simp only;omega) pr.bQ hs2 (by rw [iF];omega)
    have l2:=q5.Gu
    rw [iF]at l2
    obtain⟨t',more,key,l',r1,r2,r3⟩:=Bp h0 hh q2 q3 q4 q5.bQ af
    refine⟨t',more,key,l',hput _ (by rw [ai h8',q1];exact r1),?_,r3⟩
    have:=((pr.trans q5).trans r2).more (d':=9*grow h+1) af
    simpa using this
  ·obtain⟨x,hx,hlt,⟨rfl,hl,hok,rfl⟩|⟨hp',_⟩⟩:=hs
   ·obtain⟨k1,k2,k3,k4,k5,k6⟩:=hok
    have PJ:t.of n=x.aF:=by rw [ae2 hx,k3,oL]
    have hgx:bh x.aF:=by simpa [PJ] using hg
    have ME:Small (e::x.aF):=by simpa [PJ] using hsm
    obtain⟨g1,g2,g3⟩:=Cx (k6.row h0 hh af) he ME
    have CD:=GF k6 ⟨h1,h2⟩ g2
    have hput:∀r,gW (cG t n { x with aF:=ins x.aF e }) n=r->qQ (f+1) t n e=r:=fun r hr=>by
     unfold qQ
     rw [hx]
     dsimp only
     rw [ar hl,g1]
     exact hr
    have ev:il (ins x.aF e++x.buf) ([e]++(x.aF++x.buf)):=by
     rw [k3,oL,oL];exact CM hgx he.good
    have pr:=(Prog.one (y:={ x with aF:=ins x.aF e }) (L:=[]) (E:=[e]) hx hnd (by simp [bh]) ev (by unfold bk;simp only [hl];simp;omega)).1
    have hat:=tP (y:={ x with aF:=ins x.aF e }) hx
    have hgr:1<=grow (0+1):=by show 1<=9*grow 0+1;omega
    by_cases h6:(ins x.aF e).length<=6
    ·refine⟨_,-1,0,[n],hput _ (by unfold gW;rw [hat];dsimp only;rw [ar hl,ar h6]),pr.more af, .inl ⟨rfl,_,hat,hlt, .inl ⟨rfl,hl,⟨k1,k2,k3,h6, .inl Mq,CD⟩,rfl⟩⟩⟩
    ·have h7:(ins x.aF e).length=7:=af
     obtain⟨y,hy⟩:∃y,(ins x.aF e)[3]?=some y:=⟨(ins x.aF e)[3],by simp [h7]⟩
     have IW:(ins x.aF e).getD 3 default=y:=by rw [List.getD_eq_getElem?_getD,hy];rfl
     have hyk:ia (ins x.aF e) y.key=3:=by
      obtain⟨h3,QT⟩:=gJ.1 hy
      have hp2:=py.1 CD.2.2
      refine yw af (fun i hi hi3=>by rw [<-QT];exact hp2 i 3 hi h3 hi3) fun i hi hi3=>?_
      by_cases hi4:i=3
      ·subst hi4;rw [QT];omega
      ·have:=hp2 3 i h3 hi af;rw [QT]at this;omega
     have yin:=CD.2.1 y (List.mem_of_getElem? hy)
     have htk:=CD.take (key:=y.key)
     have hdr:=CD.drop (key:=y.key)
     rw [hyk]at htk hdr
     have y0:=htk.2.1 _ (fP (n:=0) (by simp;omega))
     obtain⟨P,m1,m2,-⟩:=BA (A:=[]) (B:=[]) (X:={ x with aF:=(ins x.aF e).take 3 }) (Y:=⟨true,(ins x.aF e).drop 3,[],[],[]⟩) hat hnd bj (by simpa using pr.bQ)
      (by simp [k3]) (by unfold bk;simp [hl];omega)
     refine⟨_,(cG t n { x with aF:=ins x.aF e }).nodes.length,y.key,_,hput _ (by unfold gW;rw [hat];dsimp only;rw [ar hl,ai h6,ar ⟨h7,by rw [iF];omega⟩,IW]),((pr.trans P).more af), .inr ⟨af,_,_,rfl,?_,?_,fun z hz _=>?_⟩⟩
     ·exact⟨_,m1,af, .inl ⟨rfl,hl,⟨k1,k2,k3,by simp;omega, .inl (by intro h;have:=congrArg List.length h;simp [h7]at this),htk⟩,rfl⟩⟩
     ·exact⟨_,m2,yin.2, .inl ⟨rfl,rfl,⟨rfl,rfl,rfl,by simp;omega, .inl (by intro h;have:=congrArg List.length h;simp [h7]at this),hdr⟩,rfl⟩⟩
     ·rw [m1]at hz;injection hz with hz;subst hz
      intro h;have:=congrArg List.length h;simp [h7]at this
   ·omega
end
section
variable {l:List Int} {h:Nat} {t t':Tr}
structure Full (t:Tr) (h:Nat) (l:List Int):Prop where
 sub:Sub t h t.root 0 1099511627776 l
 nd:l.Nodup
 len:l.length=t.nodes.length
theorem yN (hv:lJ t):∃l h,h<=12/\Full t h l:=by
 obtain⟨l,h,h1,h2,h3⟩:=hv
 obtain⟨g1,g2⟩:=Iw h1
 exact⟨l,h,g1,g2,h2,h3⟩
theorem Full.valid (hf:Full t h l) (hh:h<=12):lJ t:=⟨l,h,IB hf.sub hh,hf.nd,hf.len⟩
theorem Sub.lt' {n lo hi:Int} (hs:Sub t h n lo hi l):∀m∈l,0<=m/\m<(t.nodes.length:Int):=fun m hm=>by
 obtain⟨x,hx⟩:=hs.mem.2 m hm
 exact xN hx
theorem Full.perm (hf:Full t h l):(l.flatMap t.of).Perm t.all:=by
 rw [<-ED]
 exact List.Perm.flatMap_right _ (zj hf.nd hf.sub.lt' hf.len)
def nC (t:Tr):Nat:=wt t (Iy t.nodes.length)
theorem O2 {a b:List Int} (h:a.Perm b):wt t a=wt t b:=by
 unfold wt;exact(h.map _).sum_nat
theorem Full.wt (hf:Full t h l):wt t l=nC t:=O2 (zj hf.nd hf.sub.lt' hf.len)
theorem Sub.Hd:∀{h:Nat} {n lo hi:Int} {l:List Int},Sub t h n lo hi l->(∀m∈l,t'.dh m=t.dh m)->(∀m∈l,m=t.root->∀x,t.dh m=some x->x.leaf=true->x.aF≠[])->Sub t' h n lo hi l
 |0,_,_,_,_,hs,_,_=>hs
 |h+1,n,lo,hi,l,⟨x,hx,hlt,hs⟩,hk,hr=>by
  rcases hs with ⟨h0,h1,h2,rfl⟩|⟨hp,h1,h2,ls,h3,rfl,h4⟩
  ·refine⟨x,(hk n bj).trans hx,hlt, .inl ⟨h0,h1,?_,rfl⟩⟩
   obtain⟨a1,a2,a3,a4,a5,a6⟩:=h2
   refine⟨a1,a2,a3,a4, .inl ?_,a6⟩
   rcases a5 with a5|a5
   ·exact a5
   ·exact hr n bj a5 x hx h1
  ·refine⟨x,(hk n bj).trans hx,hlt, .inr ⟨hp,h1,h2,ls,h3,rfl,fun j k lj hj nD=>?_⟩⟩
   obtain⟨g1,g2,g3⟩:=h4 j k lj hj nD
   exact⟨g1,g2,g3.Hd (fun m hm=>hk m (List.mem_cons_of_mem _ (List.mem_flatten.2 ⟨lj,List.mem_of_getElem? nD,hm⟩))) fun m hm=>hr m (List.mem_cons_of_mem _ (List.mem_flatten.2 ⟨lj,List.mem_of_getElem? nD,hm⟩))⟩
theorem zV {t:Tr} {h:Nat}:∀(ls:List (List Int)),(∀l∈ls,∃k,l.length+1<=2*k/\3*k<=wt t l/\2 ^ h<=k)->∃k,ls.flatten.length+ls.length<=2*k/\3*k<=wt t ls.flatten/\ls.length*2 ^ h<=k
 |[],_=>⟨0,bj,bj,bj⟩
 |l::ls,hl=>by
  obtain⟨k1,a1,a2,a3⟩:=hl l bj
  obtain⟨k2,b1,b2,b3⟩:=zV ls fun l hl'=>hl l (by simp [hl'])
  refine⟨k1+k2,?_,?_,?_⟩
  ·rw [List.flatten_cons,dO,gp];omega
  ·rw [List.flatten_cons,lh];omega
  ·rw [gp,Nat.add_mul,Nat.one_mul];omega
theorem Sub.bound:∀{h:Nat} {n lo hi:Int} {l:List Int},Sub t (h+1) n lo hi l->∃k,l.length+1<=2*k/\3*k<=wt t l/\2 ^ h<=k
 |h,n,lo,hi,l,⟨x,hx,hlt,hs⟩=>by
  rcases hs with ⟨rfl,h1,h2,rfl⟩|⟨hp,h1,h2,ls,h3,rfl,h4⟩
  ·refine⟨1,bj,?_,bj⟩
   have:wt t [n]=UM t n:=by simp [wt]
   rw [this,n7 hx]
   unfold bk
   rw [ar h1];omega
  ·obtain⟨h',rfl⟩:∃h',h=h'+1:=⟨h-1,af⟩
   obtain⟨k,a1,a2,a3⟩:=zV (t:=t) (h:=h') ls fun l hl=>by
    obtain⟨j,hj,rfl⟩:=adU hl
    have hjk:j<x.kids.length:=af
    exact(h4 j _ _ (nL hjk) (nL hj)).2.2.bound
   have h22:=h2.2.1
   refine⟨k,by rw [gp];omega,by rw [mz];omega,?_⟩
   have:2*2 ^ h'<=ls.length*2 ^ h':=Nat.mul_le_mul_right _ af
   rw [Nat.pow_succ];omega
theorem Full.bound (hf:Full t h l):∃k,t.nodes.length+1<=2*k/\3*k<=nC t/\2 ^ (h-1)<=k:=by
 obtain⟨h',rfl⟩:∃h',h=h'+1:=⟨h-1,by have:=hf.sub.pos;omega⟩
 obtain⟨k,a1,a2,a3⟩:=hf.sub.bound
 rw [hf.len]at a1
 rw [hf.wt]at a2
 exact⟨k,a1,a2,a3⟩
theorem Full.fault (hf:Full t h l) (hw:nC t<=3002):ax t=0:=by
 obtain⟨k,a1,a2,a3⟩:=hf.bound
 refine ug af (hf.valid ?_)
 refine Nat.le_of_not_lt fun hh=>?_
 have:2 ^ 12<=2 ^ (h-1):=Nat.pow_le_pow_right aW af
 have:(2:Nat) ^ 12=4096:=aW
 omega
theorem Sub.node:∀{h:Nat} {n lo hi:Int} {l:List Int},Sub t h n lo hi l->∀m∈l,∀x,t.dh m=some x->x.aF.length<=6/\x.keys.length<=3/\x.kids.length<=4/\x.buf.length<=8
 |0,_,_,_,_,hs,_,_,_,_=>hs.elim
 |h+1,n,lo,hi,l,⟨x,hx,hlt,hs⟩,m,hm,y,hy=>by
  rcases hs with ⟨rfl,h1,h2,rfl⟩|⟨hp,h1,h2,ls,h3,rfl,h4⟩
  ·simp only [mR]at hm
   subst hm
   obtain rfl:=cY (hx.symm.trans hy)
   obtain⟨a1,a2,a3,a4,-,-⟩:=h2
   simp [a1,a2,a3,a4]
  ·rcases fk.1 hm with rfl|hm
   ·obtain rfl:=cY (hx.symm.trans hy)
    obtain⟨a1,a2,a3,a4,a5,-⟩:=h2
    exact⟨by simp [a1],af,a3,a5⟩
   ·obtain⟨lj,nD,AX⟩:=List.mem_flatten.1 hm
    obtain⟨j,hj,rfl⟩:=adU nD
    have hjk:j<x.kids.length:=af
    exact(h4 j _ _ (nL hjk) (nL hj)).2.2.node m AX y hy
theorem Full.node (hf:Full t h l):∀x∈t.nodes,x.aF.length<=6/\x.keys.length<=3/\x.kids.length<=4/\x.buf.length<=8:=fun x hx=>by
 obtain⟨i,hi,rfl⟩:=adU hx
 have hm:=(vU hf.nd hf.sub.lt').1 hf.len i hi
 exact hf.sub.node i hm _ (by unfold Tr.dh;simp [hi])
theorem Lt {f:Int->Nat} {m:Nat}:∀{l:List Int},(∀y∈l,f y<=m)->(l.map f).sum<=m*l.length
 |[],_=>bj
 |a::l,h=>by
  have:=Lt (l:=l) fun y hy=>h y (by simp [hy])
  have:=h a bj
  rw [List.map_cons,List.sum_cons,gp,Nat.mul_succ];omega
theorem Full.VB (hf:Full t h l):nC t<=8*t.nodes.length:=by
 rw [<-hf.wt,<-hf.len]
 refine Lt fun y hy=>?_
 obtain⟨x,hx⟩:=hf.sub.mem.2 y hy
 have:=hf.sub.node y hy x hx
 rw [n7 hx]
 unfold bk
 split <;> omega
def jU (t:Tr) (more key:Int):Tr:={ nodes:=t.nodes++[⟨false,[],[key],[t.root,more],[]⟩],root:=t.nodes.length }
theorem Qg (hh:h<=12):grow h<=500000000000:=by
 have:h=0\/h=1\/h=2\/h=3\/h=4\/h=5\/h=6\/h=7\/h=8\/h=9\/h=10\/h=11\/h=12:=af
 rcases this with rfl|rfl|rfl|rfl|rfl|rfl|rfl|rfl|rfl|rfl|rfl|rfl|rfl <;> decide
theorem Du {l':List Int} {E:List aC} {d:Nat} (P:Prog t t' l l' E d) (hn:l.Nodup) (hr:∀m∈l,0<=m/\m<(t.nodes.length:Int)) (hl:l.length=t.nodes.length) (hr':∀m∈l',0<=m/\m<(t'.nodes.length:Int)):l'.length=t'.nodes.length:=by
 refine(vU P.nd hr').2 fun i hi=>?_
 rw [P.mem]
 by_cases h:i<t.nodes.length
 ·exact .inl ((vU hn hr).1 hl i h)
 ·exact .inr af
theorem LR {e:aC} (hf:Full t h l) (hh:h<=12) (hn:t.nodes.length<=2000) (he:jZ e) (hg:bh t.all) (hs:Small (e::t.all)) :
  ∃t1 more key t2 h2 l2,qQ 13 t t.root e=some (t1,more,key)/\t1.root=t.root/\t2=(if 0<=more then jU t1 more key else t1)/\Full t2 h2 l2/\il t2.all (e::t.all)/\nC t2<=nC t+1:=by
 have hp:=hf.perm
 have hgl:bh (l.flatMap t.of):=fun y hy=>hg y (hp.mem_iff.1 hy)
 have hsl:Small (e::l.flatMap t.of):=(mZ (hp.cons e) (fun y hy=>by
  rcases fk.1 hy with rfl|hy
  ·exact .inr he.good
  ·exact .inr (hgl y hy))).2 hs
 have gle:=Qg hh
 obtain⟨t1,more,key,l',p1,p2,p3⟩:=II h 13 af t t.root 0 1099511627776 l e hf.sub hf.nd he he.2.2.1 he.2.2.2 (Int.le_refl _) (Int.le_refl _) hgl hsl af
 have hev:il (l'.flatMap t1.of) (e::t.all):=p2.ev.trans (il.perm (hp.cons e) p2.ev.2.1)
 have hwt:wt t1 l'<=nC t+1:=by have:=p2.wt;rw [hf.wt]at this;simpa using this
 rcases p3 with ⟨rfl,g1⟩|⟨g0,l1,l2,rfl,g1,g2,g3⟩
 ·have hfull:Full t1 h l':=⟨by rw [p2.root];exact g1,p2.nd,Du p2 hf.nd hf.sub.lt' hf.len g1.lt'⟩
  refine⟨t1,-1,key,t1,h,l',p1,p2.root,by rw [ai af],hfull,?_,by rw [<-hfull.wt];exact hwt⟩
  exact(il.perm hfull.perm.symm (fun y hy=>hev.1 y (hfull.perm.mem_iff.2 hy))).trans hev
 ·have hr1:=g1.lt'
  have hr2:=g2.lt'
  have hr:∀m∈l1++l2,0<=m/\m<(t1.nodes.length:Int):=fun m hm=>(kJ.1 hm).elim (hr1 m) (hr2 m)
  have hlen:=Du p2 hf.nd hf.sub.lt' hf.len hr
  have hat:∀m:Int,m<(t1.nodes.length:Int)->(jU t1 more key).dh m=t1.dh m:=fun m hm=>by
   unfold Tr.dh jU
   by_cases h0:0<=m
   ·rw [ar h0,ar h0]
    simp only
    rw [Ao af]
   ·rw [ai h0,ai h0]
  have hnew:(jU t1 more key).dh (t1.nodes.length:Int)=some ⟨false,[],[key],[t1.root,more],[]⟩:=by
   unfold Tr.dh jU;simp
  have n1:∀m∈l1,(jU t1 more key).dh m=t1.dh m:=fun m hm=>hat m (hr1 m hm).2
  have n2:∀m∈l2,(jU t1 more key).dh m=t1.dh m:=fun m hm=>hat m (hr2 m hm).2
  have hroot:t1.root=t.root:=p2.root
  have s1:Sub (jU t1 more key) h t.root 0 key l1:=g1.Hd n1 fun m hm hmr x hx hl=>by
   rw [hmr,hroot]at hx
   exact g3 x hx hl
  have SP:∀m∈l2,m≠t.root:=fun m hm e=>by
   have h1:=g1.mem.1
   rw [e]at hm
   exact(List.nodup_append.1 p2.nd).2.2 _ h1 _ hm rfl
  have s2:Sub (jU t1 more key) h more key 1099511627776 l2:=g2.Hd n2 fun m hm hmr=>absurd (hmr.trans hroot) (SP m hm)
  have hfull:Full (jU t1 more key) (h+1) ((t1.nodes.length:Int)::(l1++l2)):=by
   refine⟨⟨_,hnew,aW, .inr ⟨g1.pos,rfl,⟨rfl,bj,bj,bj,bj,⟨(fun _ h=>by cases h),(fun _ h=>by cases h),List.Pairwise.nil⟩⟩,[l1,l2],rfl,by simp [jU],fun j k lj hj nD=>?_⟩⟩,?_,?_⟩
   ·rcases j with _|_|j
    ·simp only [List.getElem?_cons_zero,iw]at hj nD
     subst hj nD
     refine⟨Int.le_refl _,?_,?_⟩
     ·simp [up];have:=s2.lt;omega
     ·rw [hroot];simpa [fr,up] using s1
    ·simp only [List.getElem?_cons_succ,List.getElem?_cons_zero,iw]at hj nD
     subst hj nD
     refine⟨?_,?_,?_⟩
     ·simp [fr];have:=s1.lt;omega
     ·simp [up]
     ·simpa [fr,up] using s2
    ·simp at hj
   ·refine List.nodup_cons.2 ⟨fun hm=>?_,p2.nd⟩
    have:=(hr _ hm).2;omega
   ·rw [gp,hlen];simp [jU]
  refine⟨t1,more,key,_,h+1,_,p1,p2.root,by rw [ar g0],hfull,?_,?_⟩
  ·refine(il.perm hfull.perm.symm ?_).trans ?_
   ·intro y hy
    have:=hfull.perm.mem_iff.2 hy
    rw [gQ,ae2 hnew,of_same (t':=jU t1 more key) (t:=t1) (fun m hm=>hat m (hr m hm).2)]at this
    exact hev.1 y (by simpa using this)
   ·rw [gQ,ae2 hnew,of_same (t':=jU t1 more key) (t:=t1) (fun m hm=>hat m (hr m hm).2)]
    simpa using hev
  ·rw [<-hfull.wt,mz,n7 hnew,pC (t':=jU t1 more key) (t:=t1) (fun m hm=>hat m (hr m hm).2)]
   unfold bk;simp;exact hwt
noncomputable def jk (t:Tr) (key:Int) (r:aw):Int:=
 if ax t≠0 then ax t else if key<0\/1099511627776<=key\/r.c=0 then 2 else if aq r≠0 then aq r else if (look t.all key).c+r.c<=1073741824 then 0 else 1
end
section
variable {e:aC} {l:List aC} {k:Nat} {t:Tr}
theorem mG (hr:aT l) (hc:Checked l):Small l:=fun k=>by
 by_cases h:∃e∈l,e.key=k
 ·obtain⟨e,he,rfl⟩:=h
  rw [fX hr he]
  exact hc.le e he
 ·rw [iA fun e he hk=>h ⟨e,he,hk⟩];decide
theorem filter_all (hv:lJ t):t.all.filter (aR 0 1099511627776)=t.all:=List.filter_eq_self.2 fun e he=>by
 have:=lT hv e he
 simp [aR,this.1,this.2]
theorem yI (hf:ax t=0) (he:il t.all l) (hr:aT l) (hc:Checked l):allT t=some l:=by
 unfold allT kI
 have hv:=(cS hf).2
 rw [ar hf,filter_all hv,jC (cz hv),ar (he.small.2 (mG hr hc))]
 congr 1
 exact qW (dV he.1) hr (fA he.1) he.2.1 fun k=>by rw [fY he.1,he.2.2]
theorem Po (h:allT t=some l):ax t=0/\il t.all l/\aT l/\Checked l/\Small t.all:=by
 have hg:=fB h
 unfold allT at h
 split at h
 ·rename_i hf
  have hv:=(cS hf).2
  unfold kI at h
  rw [filter_all hv]at h
  obtain⟨rfl,hs,hc,-,hr⟩:=fR (cz hv) h
  exact⟨hf,⟨(cz hv).bQ,fA (cz hv).bQ,fun k=>(fY (cz hv).bQ k).symm⟩,hr,hc,hs⟩
 ·cases h
theorem Ds (hl:aT l) (h:∀y∈l,y.key<e.key):aT (l++[e]):=List.pairwise_append.2 ⟨hl,List.pairwise_singleton _ _,fun a ha b hb=>by simp at hb;subst hb;exact h a ha⟩
def kC (l:List aC) (k:Nat):Option Int:=if k=0 then none else(l[k-1]?).map aC.key
def Made (l:List aC) (t:Tr):Prop:=ax t=0/\il t.all l/\aT l/\Checked l/\(∀e∈l,0<=e.key/\e.key<1099511627776)/\nC t<=3+l.length
theorem Made.small (h:Made l t):Small t.all:=h.2.1.small.2 (mG h.2.2.1 h.2.2.2.1)
theorem Mk (hkl:k<=l.length) (hr:aT (l.take k)) (h:¬∃p,kC l k=some p/\e.key<=p):∀y∈l.take k,y.key<e.key:=fun y hy=>by
 obtain⟨i,hi,rfl⟩:=adU hy
 rw [eP]at hi
 rw [wI]
 have hlt:k-1<l.length:=af
 have h1:l[k-1].key<e.key:=by
  refine Int.not_le.1 fun hle=>h ⟨l[k-1].key,?_,hle⟩
  unfold kC
  rw [ai af,nL hlt];rfl
 by_cases hik:i=k-1
 ·subst hik;exact h1
 ·have:=py.1 hr i (k-1) (by rw [eP];omega) (by rw [eP];omega) af
  rw [wI,wI]at this
  omega
theorem Made.put (h:Made (l.take k) t) (hk:k<l.length) (ho:¬∃p,kC l k=some p/\l[k].key<=p) (h2:¬(l[k].key<0\/1099511627776<=l[k].key\/l[k].is.c=0)) (h3:aq l[k].is=0) :
  look t.all l[k].key=aw.zero/\Small (l[k]::t.all)/\aT (l.take (k+1))/\Checked (l.take (k+1))/\∀t2,il t2.all (l[k]::t.all)->nC t2<=nC t+1->il t2.all (l.take (k+1))/\nC t2<=3+(l.take (k+1)).length/\∀e∈l.take (k+1),0<=e.key/\e.key<1099511627776:=by
 obtain⟨m1,m2,m3,m4,m5,m6⟩:=h
 have I2:l[k].is.Good:=(dg h3 af).1
 have hle:l[k].is.c<=1073741824:=(dg h3 af).2
 have hlt:=Mk af m3 ho
 have hz:look t.all l[k].key=aw.zero:=by
  rw [m2.2.2,iA fun y hy e=>by have:=hlt y hy;omega]
 have YM:l.take (k+1)=l.take k++[l[k]]:=kK hk
 have hr:aT (l.take (k+1)):=by rw [YM];exact Ds m3 hlt
 have hc:Checked (l.take (k+1)):=fun e he=>by
  rw [YM]at he
  rcases kJ.1 he with he|he
  ·exact m4 e he
  ·simp at he;subst he;exact⟨af,h3⟩
 have hev:il (l[k]::t.all) (l.take (k+1)):=by
  have e1:il ([l[k]]++t.all) ([l[k]]++l.take k):=(il.refl (fun e he=>by simp at he;subst he;exact I2)).append m2
  refine e1.trans (il.perm ?_ e1.2.1)
  rw [YM];exact List.perm_append_comm
 refine⟨hz,hev.small.2 (mG hr hc),hr,hc,fun t2 h1 h2=>⟨h1.trans hev,?_,fun e he=>?_⟩⟩
 ·rw [eP]at m6 ⊢
  omega
 ·rw [YM]at he
  rcases kJ.1 he with he|he
  ·exact m5 e he
  ·simp at he;subst he;omega
end
end Go.Proofs.YtmljjfhgciaceaaDoor
