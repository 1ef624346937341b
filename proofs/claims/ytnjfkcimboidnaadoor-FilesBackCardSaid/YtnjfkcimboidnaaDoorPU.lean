/- Texts of mine that come as one: SubP PutF PutA PutB PutC PutD PutT OfP. -/
import Derived.Test.YtnjfkcimboidnaaDoorPA
/- Trees below a node, of one height: plain laws. No program in sight. -/
namespace Go.Proofs.YtnjfkcimboidnaaDoor
def fr (ks:List Int) (lo:Int) (j:Nat):Int:=if j=0 then lo else ks.getD (j-1) 0
def up (ks:List Int) (hi:Int) (j:Nat):Int:=if j<ks.length then ks.getD j 0 else hi
def Sub (t:Tr):Nat→Int→Int→Int→List Int→Prop
 |0,_,_,_,_=>False
 |h+1,n,lo,hi,l=>∃x,t.at? n=some x∧lo<hi ∧
   ((h=0∧x.leaf=true∧LeafOk t n x lo hi∧l=[n]) ∨
   (0<h∧x.leaf=false∧InnOk x lo hi∧∃ls:List (List Int),ls.length=x.kids.length∧l=n::ls.flatten ∧
     ∀(j:Nat) (k:Int) (lj:List Int),x.kids[j]?=some k→ls[j]?=some lj→lo≤fr x.keys lo j∧up x.keys hi j≤hi∧Sub t h k (fr x.keys lo j) (up x.keys hi j) lj))
theorem Sub.lt {t:Tr}:∀{h:Nat} {n lo hi:Int} {l:List Int},Sub t h n lo hi l→lo<hi
 |0,_,_,_,_,hs=>hs.elim
 |_h+1,_,_,_,_,⟨_,_,h1,_⟩=>h1
theorem Sub.pos {t:Tr} {h:Nat} {n lo hi:Int} {l:List Int} (hs:Sub t h n lo hi l):0<h:=by
 cases h with
 |zero=>exact hs.elim
 |succ h=>omega
theorem kids_sub {t:Tr} {f:Nat} {x:Nd} {lo hi:Int} (ih:∀{k a b:Int} {l:List Int} {h:Nat},vis t f k a b=some (l,h)→h≤f∧Sub t h k a b l) :
  ∀{ks:List Int} {i:Nat} {l:List Int} {h:Nat},visKids (fun k a b=>vis t f k a b) x lo hi ks i=some (l,h)→(ks≠[]→h≤f)∧∃ls:List (List Int),ls.length=ks.length∧l=ls.flatten ∧
   ∀(j:Nat) (k:Int) (lj:List Int),ks[j]?=some k→ls[j]?=some lj→lo≤x.from lo (i+j)∧x.upto hi (i+j)≤hi∧Sub t h k (x.from lo (i+j)) (x.upto hi (i+j)) lj
 |[],i,l,h,hv=>by
  simp only [visKids,Option.some.injEq,Prod.mk.injEq]at hv
  exact⟨fun h=>absurd rfl h,[],rfl,by rw [←hv.1];rfl,fun j k lj hj=>by simp at hj⟩
 |k::ks,i,l,h,hv=>by
  unfold visKids at hv
  split at hv
  ·rename_i hc
   split at hv
   ·rename_i l1 h1 l2 h2 e1 e2
    split at hv
    ·rename_i hh
     simp only [Option.some.injEq,Prod.mk.injEq]at hv
     obtain⟨rfl,rfl⟩:=hv
     obtain⟨g1,g2⟩:=ih e1
     obtain⟨_,ls,k1,k2,k3⟩:=kids_sub ih e2
     refine⟨fun _=>g1,l1::ls,by simp [k1],by rw [k2];rfl,fun j k' lj hj hlj=>?_⟩
     cases j with
     |zero=>
      simp only [List.getElem?_cons_zero,Option.some.injEq]at hj hlj
      subst hj hlj
      exact⟨hc.2.1,hc.2.2,g2⟩
     |succ j=>
      simp only [List.getElem?_cons_succ]at hj hlj
      have:=k3 j k' lj hj hlj
      rw [show i+1+j=i+(j+1)from by omega]at this
      have hne:ks≠[]:=fun h=>by subst h;simp at hj
      rcases visKids_pos (fun k a b l h hv=>vis_pos hv) e2 with h0|h0
      ·exact absurd h0 hne
      ·rcases hh with hh|hh
       ·omega
       ·rw [hh]at this;exact this
    ·cases hv
   ·cases hv
  ·cases hv
theorem vis_sub {t:Tr}:∀{f:Nat} {n lo hi:Int} {l:List Int} {h:Nat},vis t f n lo hi=some (l,h)→h≤f∧Sub t h n lo hi l
 |0,_,_,_,_,_,hv=>by cases hv
 |f+1,n,lo,hi,l,h,hv=>by
  have hlt:=vis_lt hv
  unfold vis at hv
  split at hv
  ·cases hv
  ·rename_i x hx
   split at hv
   ·cases hv
   ·split at hv
    ·rename_i hl
     split at hv
     ·rename_i hok
      simp only [Option.some.injEq,Prod.mk.injEq]at hv
      obtain⟨rfl,rfl⟩:=hv
      exact⟨by omega,x,hx,hlt, .inl ⟨rfl,hl,hok,rfl⟩⟩
     ·cases hv
    ·rename_i hl
     split at hv
     ·rename_i hok
      obtain⟨⟨l',h'⟩,hk,hp⟩:=Option.map_eq_some_iff.1 hv
      simp only [Prod.mk.injEq]at hp
      obtain⟨rfl,rfl⟩:=hp
      obtain⟨g1,ls,g2,g3,g4⟩:=kids_sub (fun hv=>vis_sub hv) hk
      have hne:x.kids≠[]:=fun h=>by have:=hok.2.1;rw [h]at this;simp at this
      have hp:1≤h':=by
       rcases visKids_pos (fun k a b l h hv=>vis_pos hv) hk with h0|h0
       ·exact absurd h0 hne
       ·exact h0
      refine⟨by have:=g1 hne;omega,x,hx,hlt, .inr ⟨by omega,by simpa using hl,hok,ls,g2,by rw [g3],fun j k lj hj hlj=>?_⟩⟩
      have:=g4 j k lj hj hlj
      rw [Nat.zero_add]at this
      exact this
     ·cases hv
theorem sub_kids {t:Tr} {f h:Nat} (hp:0<h) {x:Nd} {lo hi:Int} (ih:∀{k a b:Int} {l:List Int},Sub t h k a b l→vis t f k a b=some (l,h)) :
  ∀{ks:List Int} {i:Nat} {ls:List (List Int)},ls.length=ks.length→(∀(j:Nat) (k:Int) (lj:List Int),ks[j]?=some k→ls[j]?=some lj→lo≤x.from lo (i+j)∧x.upto hi (i+j)≤hi∧Sub t h k (x.from lo (i+j)) (x.upto hi (i+j)) lj) →
   visKids (fun k a b=>vis t f k a b) x lo hi ks i=some (ls.flatten,if ks=[]then 0 else h)
 |[],i,[],_,_=>rfl
 |k::ks,i,l1::ls,hl,hk=>by
  have h0:=hk 0 k l1 rfl rfl
  rw [Nat.add_zero]at h0
  have hr:=sub_kids hp ih (ks:=ks) (i:=i+1) (ls:=ls) (by simpa using hl) fun j k' lj hj hlj=>by
   have:=hk (j+1) k' lj (by simpa using hj) (by simpa using hlj)
   rwa [show i+(j+1)=i+1+j from by omega]at this
  unfold visKids
  rw [if_pos ⟨h0.2.2.lt,h0.1,h0.2.1⟩,ih h0.2.2,hr]
  try simp only
  have hc:(if ks=[]then 0 else h)=0∨(if ks=[]then 0 else h)=h:=by
   by_cases he:ks=[]
   ·left;rw [if_pos he]
   ·right;rw [if_neg he]
  rw [if_pos hc,if_neg (by simp)]
  rfl
theorem sub_vis {t:Tr}:∀{h f:Nat} {n lo hi:Int} {l:List Int},Sub t h n lo hi l→h≤f→vis t f n lo hi=some (l,h)
 |0,_,_,_,_,_,hs,_=>hs.elim
 |h+1,0,_,_,_,_,_,hf=>by omega
 |h+1,f+1,n,lo,hi,l,⟨x,hx,hlt,hs⟩,hf=>by
  unfold vis
  rw [hx]
  try simp only
  rw [if_neg (not_not_intro hlt)]
  rcases hs with ⟨rfl,h1,h2,rfl⟩|⟨hp,h1,h2,ls,h3,rfl,h4⟩
  ·rw [if_pos h1,if_pos h2]
  ·rw [if_neg (by simp [h1]),if_pos h2,sub_kids (h:=h) (f:=f) hp (fun hs=>sub_vis hs (by omega)) h3 (fun j k lj hj hlj=>by rw [Nat.zero_add];exact h4 j k lj hj hlj)]
   have hne:x.kids≠[]:=fun h=>by have:=h2.2.1;rw [h]at this;simp at this
   rw [if_neg hne];rfl
theorem Sub.frame {t t':Tr} (hr:t'.root=t.root):∀{h:Nat} {n lo hi:Int} {l:List Int},Sub t h n lo hi l→(∀m∈l,t'.at? m=t.at? m)→Sub t' h n lo hi l
 |0,_,_,_,_,hs,_=>hs
 |h+1,n,lo,hi,l,⟨x,hx,hlt,hs⟩,hk=>by
  rcases hs with ⟨h0,h1,h2,rfl⟩|⟨hp,h1,h2,ls,h3,rfl,h4⟩
  ·exact⟨x,(hk n (by simp)).trans hx,hlt, .inl ⟨h0,h1,by unfold LeafOk at *;rw [hr];exact h2,rfl⟩⟩
  ·refine⟨x,(hk n (by simp)).trans hx,hlt, .inr ⟨hp,h1,h2,ls,h3,rfl,fun j k lj hj hlj=>?_⟩⟩
   obtain⟨g1,g2,g3⟩:=h4 j k lj hj hlj
   exact⟨g1,g2,g3.frame hr fun m hm=>hk m (List.mem_cons_of_mem _ (List.mem_flatten.2 ⟨lj,List.mem_of_getElem? hlj,hm⟩))⟩
theorem Sub.mem {t:Tr}:∀{h:Nat} {n lo hi:Int} {l:List Int},Sub t h n lo hi l→n∈l∧∀m∈l,∃x,t.at? m=some x
 |0,_,_,_,_,hs=>hs.elim
 |h+1,n,lo,hi,l,⟨x,hx,hlt,hs⟩=>by
  rcases hs with ⟨h0,h1,h2,rfl⟩|⟨hp,h1,h2,ls,h3,rfl,h4⟩
  ·exact⟨by simp,fun m hm=>by simp at hm;subst hm;exact⟨x,hx⟩⟩
  ·refine⟨by simp,fun m hm=>?_⟩
   rcases List.mem_cons.1 hm with rfl|hm
   ·exact⟨x,hx⟩
   ·obtain⟨lj,hlj,hml⟩:=List.mem_flatten.1 hm
    obtain⟨j,hj,rfl⟩:=List.getElem_of_mem hlj
    have hjk:j<x.kids.length:=by omega
    exact((h4 j _ _ (List.getElem?_eq_getElem hjk) (List.getElem?_eq_getElem hj)).2.2.mem).2 m hml
theorem at_lt {t:Tr} {m:Int} {x:Nd} (h:t.at? m=some x):0≤m∧m<t.nodes.length:=by
 unfold Tr.at? at h
 split at h
 ·have:=(List.getElem?_eq_some_iff.1 h).1;omega
 ·cases h
end Go.Proofs.YtnjfkcimboidnaaDoor

/- What tree.put does, step by step, on the plain tree: none where it may not go on. No program in sight. -/
namespace Go.Proofs.YtnjfkcimboidnaaDoor
def setN (t:Tr) (n:Int) (x:Nd):Tr:={ t with nodes:=t.nodes.set n.toNat x }
def addN (t:Tr) (x:Nd):Tr:={ t with nodes:=t.nodes++[x] }
def KeysIn (l:List Ent):Prop:=∀e∈l,0≤e.key∧e.key<1099511627776
def EntOk (e:Ent):Prop:=e.is.c≠0∧rollCheck e.is=0∧0≤e.key∧e.key<1099511627776
def RowOk (l:List Ent):Prop:=Rising l∧Checked l∧KeysIn l∧l.length≤20
open Classical in
noncomputable def insG (l:List Ent) (e:Ent):Option (List Ent):=if RowOk l∧EntOk e then insC l e else none
open Classical in
noncomputable def splitF (t:Tr) (n:Int):Option (Tr×Int×Int):=
 match t.at? n with
 |none=>none
 |some x=>
  if x.leaf=true then
   if x.ents.length≤6 then some (t,-1,0)
   else if x.ents.length=7∧t.nodes.length≤1000000000000 then some (setN (addN t ⟨true,x.ents.drop 3,[],[],[]⟩) n { x with ents:=x.ents.take 3 },t.nodes.length,(x.ents.getD 3 default).key)
   else none
  else if x.kids.length≤4 then some (t,-1,0)
  else if x.kids.length=5∧x.keys.length=4∧RowOk x.buf∧(0≤x.keys.getD 1 0∧x.keys.getD 1 0≤1099511627776)∧t.nodes.length≤1000000000000 then
   some (setN (addN t ⟨false,[],x.keys.drop 2,x.kids.drop 2,x.buf.drop (posE x.buf (x.keys.getD 1 0))⟩) n ⟨false,[],x.keys.take 1,x.kids.take 2,x.buf.take (posE x.buf (x.keys.getD 1 0))⟩,t.nodes.length,x.keys.getD 1 0)
  else none
noncomputable def restF (n:Int) (t:Tr) (e:Ent):Option Tr:=
 match t.at? n with
 |none=>none
 |some x=>(insG x.buf e).map fun b=>setN t n { x with buf:=b }
def manyF (x:Nd) (j:Nat):Nat:=(x.buf.filter fun e=>decide (kidIx x.keys e.key=j)).length
def bestF (m:Nat→Nat):Nat→Nat
 |0=>0
 |k+1=>if m (bestF m k)<m k then k else bestF m k
noncomputable def kidF (t1:Tr) (n:Int) (i:Nat) (more key:Int):Option Tr:=
 if more<0 then some t1 else match t1.at? n with
  |none=>none
  |some y=>if i≤y.keys.length∧i+1≤y.kids.length∧y.kids.length≤20∧y.keys.length≤20 then
    some (setN t1 n { y with keys:=y.keys.take i++key::y.keys.drop i,kids:=y.kids.take (i+1)++more::y.kids.drop (i+1) })
   else none
open Classical in
noncomputable def downF (put:Tr→Int→Ent→Option (Tr×Int×Int)) (n:Int) (all:List Ent):List Ent→Tr→Option Tr
 |[],t=>some t
 |e::ds,t=>
  match t.at? n with
  |none=>none
  |some x=>
   if x.keys.Pairwise (·<·)∧x.keys.length≤20∧x.kids.length≤20 then
    match x.kids[kidIx x.keys e.key]? with
    |none=>none
    |some k=>
     match put t k e with
     |none=>none
     |some (t1,more,key)=>
      match kidF t1 n (kidIx x.keys e.key) more key with
      |none=>none
      |some t2=>
       match t2.at? n with
       |none=>none
       |some z=>if z.kids.length≤4 then downF put n all ds t2 else(all.filter fun d=>decide (e.key<d.key)).foldlM (restF n) t2
   else none
open Classical in
noncomputable def flushF (put:Tr→Int→Ent→Option (Tr×Int×Int)) (t:Tr) (n:Int):Option Tr:=
 match t.at? n with
 |none=>none
 |some x=>
  if x.keys.Pairwise (·<·)∧x.keys.length≤3∧x.buf.length≤20∧Checked x.buf then
   downF put n (x.buf.filter fun e=>decide (kidIx x.keys e.key=bestF (manyF x) 4)) (x.buf.filter fun e=>decide (kidIx x.keys e.key=bestF (manyF x) 4))
    (setN t n { x with buf:=x.buf.filter fun e=>!decide (kidIx x.keys e.key=bestF (manyF x) 4) })
  else none
noncomputable def putF:Nat→Tr→Int→Ent→Option (Tr×Int×Int)
 |0,_,_,_=>none
 |f+1,t,n,e=>
  match t.at? n with
  |none=>none
  |some x=>
   if x.leaf=true then
    match insG x.ents e with
    |none=>none
    |some l=>splitF (setN t n { x with ents:=l }) n
   else
    match insG x.buf e with
    |none=>none
    |some l=>
     if l.length≤8 then splitF (setN t n { x with buf:=l }) n
     else match flushF (putF f) (setN t n { x with buf:=l }) n with
      |none=>none
      |some t2=>splitF t2 n
theorem at_set {t:Tr} {n:Int} {x y:Nd} (h:t.at? n=some x):(setN t n y).at? n=some y:=by
 unfold Tr.at? at *
 split at h
 ·rename_i h0
  rw [if_pos h0]
  have:=(List.getElem?_eq_some_iff.1 h).1
  simp [setN,this]
 ·cases h
theorem at_set_ne {t:Tr} {n m:Int} {y:Nd} (h0:0≤n) (h:m≠n):(setN t n y).at? m=t.at? m:=by
 unfold Tr.at? setN
 split
 ·simp only;rw [List.getElem?_set_ne (by omega)]
 ·rfl
theorem at_add {t:Tr} {n:Int} {x y:Nd} (h:t.at? n=some x):(addN t y).at? n=some x:=by
 unfold Tr.at? addN at *
 split at h
 ·rename_i h0
  rw [if_pos h0]
  simp only
  rw [List.getElem?_append_left (List.getElem?_eq_some_iff.1 h).1];exact h
 ·cases h
theorem at_new {t:Tr} {y:Nd}:(addN t y).at? (t.nodes.length:Int)=some y:=by
 unfold Tr.at? addN;simp
theorem len_set (t:Tr) (n:Int) (x:Nd):(setN t n x).nodes.length=t.nodes.length:=by simp [setN]
theorem len_add (t:Tr) (x:Nd):(addN t x).nodes.length=t.nodes.length+1:=by simp [addN]
theorem root_set (t:Tr) (n:Int) (x:Nd):(setN t n x).root=t.root:=rfl
theorem root_add (t:Tr) (x:Nd):(addN t x).root=t.root:=rfl
end Go.Proofs.YtnjfkcimboidnaaDoor

/- Kids of a node side by side: one changed, one parted. Plain. No program in sight. -/
namespace Go.Proofs.YtnjfkcimboidnaaDoor
def Seg (P:Int→Int→Int→List Int→Prop):Int→Int→List Int→List Int→List (List Int)→Prop
 |lo,hi,[],[k],[l]=>P k lo hi l
 |lo,hi,key::keys,k::kids,l::ls=>P k lo key l∧Seg P key hi keys kids ls
 |_,_,_,_,_=>False
theorem Seg.len {P:Int→Int→Int→List Int→Prop}:∀{keys kids:List Int} {ls:List (List Int)} {lo hi:Int},Seg P lo hi keys kids ls→kids.length=keys.length+1∧ls.length=keys.length+1
 |[],[k],[l],_,_,_=>⟨rfl,rfl⟩
 |key::keys,k::kids,l::ls,_,_,h=>by have:=h.2.len;simp [this.1,this.2]
 |[],[],_,_,_,h=>h.elim
 |[],_::_::_,_,_,_,h=>by simp [Seg]at h
 |[],[_],[],_,_,h=>h.elim
 |[],[_],_::_::_,_,_,h=>by simp [Seg]at h
 |_::_,[],_,_,_,h=>by simp [Seg]at h
 |_::_,_::_,[],_,_,h=>by simp [Seg]at h
theorem fr_cons (key:Int) (keys:List Int) (lo:Int) (j:Nat):fr (key::keys) lo (j+1)=fr keys key j:=by
 unfold fr
 cases j with
 |zero=>simp
 |succ j=>simp
theorem up_cons (key:Int) (keys:List Int) (hi:Int) (j:Nat):up (key::keys) hi (j+1)=up keys hi j:=by
 unfold up;simp
theorem seg_of {P:Int→Int→Int→List Int→Prop}:∀{keys kids:List Int} {ls:List (List Int)} {lo hi:Int},kids.length=keys.length+1→ls.length=kids.length →
  (∀(j:Nat) (k:Int) (lj:List Int),kids[j]?=some k→ls[j]?=some lj→P k (fr keys lo j) (up keys hi j) lj)→Seg P lo hi keys kids ls
 |[],[k],[l],lo,hi,_,_,h=>h 0 k l rfl rfl
 |key::keys,k::kids,l::ls,lo,hi,h1,h2,h=>by
  refine⟨?_,seg_of (by simpa using h1) (by simpa using h2) fun j k' lj hj hlj=>?_⟩
  ·have:=h 0 k l rfl rfl
   simpa [fr,up] using this
  ·have:=h (j+1) k' lj (by simpa using hj) (by simpa using hlj)
   rwa [fr_cons,up_cons]at this
 |[],[],_,_,_,h1,_,_=>by simp at h1
 |[],_::_::_,_,_,_,h1,_,_=>by simp at h1
 |[],[_],[],_,_,_,h2,_=>by simp at h2
 |[],[_],_::_::_,_,_,_,h2,_=>by simp at h2
 |_::_,[],_,_,_,h1,_,_=>by simp at h1
 |_::_,_::_,[],_,_,_,h2,_=>by simp at h2
theorem Seg.bounds {P:Int→Int→Int→List Int→Prop} (hlt:∀k a b l,P k a b l→a<b):∀{keys kids:List Int} {ls:List (List Int)} {lo hi:Int},Seg P lo hi keys kids ls→lo<hi∧keys.Pairwise (·<·)∧(∀k∈keys,lo<k∧k<hi)
 |[],[k],[l],_,_,h=>⟨hlt _ _ _ _ h,List.Pairwise.nil,fun _ h=>by cases h⟩
 |key::keys,k::kids,l::ls,lo,hi,h=>by
  have h1:=hlt _ _ _ _ h.1
  obtain⟨h2,h3,h4⟩:=h.2.bounds hlt
  refine⟨by omega,List.pairwise_cons.2 ⟨fun y hy=>(h4 y hy).1,h3⟩,fun y hy=>?_⟩
  rcases List.mem_cons.1 hy with rfl|hy
  ·omega
  ·have:=h4 y hy;omega
 |[],[],_,_,_,h=>h.elim
 |[],_::_::_,_,_,_,h=>by simp [Seg]at h
 |[],[_],[],_,_,h=>h.elim
 |[],[_],_::_::_,_,_,h=>by simp [Seg]at h
 |_::_,[],_,_,_,h=>by simp [Seg]at h
 |_::_,_::_,[],_,_,h=>by simp [Seg]at h
theorem Seg.at {P:Int→Int→Int→List Int→Prop} (hlt:∀k a b l,P k a b l→a<b):∀{keys kids:List Int} {ls:List (List Int)} {lo hi:Int},Seg P lo hi keys kids ls →
  ∀(j:Nat) (k:Int) (lj:List Int),kids[j]?=some k→ls[j]?=some lj→lo≤fr keys lo j∧up keys hi j≤hi∧P k (fr keys lo j) (up keys hi j) lj
 |[],[k],[l],lo,hi,h,j,k',lj,hj,hlj=>by
  cases j with
  |zero=>
   simp only [List.getElem?_cons_zero,Option.some.injEq]at hj hlj
   subst hj hlj
   exact⟨by simp [fr],by simp [up],by simpa [fr,up,Seg] using h⟩
  |succ j=>simp at hj
 |key::keys,k::kids,l::ls,lo,hi,h,j,k',lj,hj,hlj=>by
  have h1:=hlt _ _ _ _ h.1
  have h2:=h.2.bounds hlt
  cases j with
  |zero=>
   simp only [List.getElem?_cons_zero,Option.some.injEq]at hj hlj
   subst hj hlj
   exact⟨by simp [fr],by simp [up];omega,by simpa [fr,up] using h.1⟩
  |succ j=>
   obtain⟨g1,g2,g3⟩:=h.2.at hlt j k' lj (by simpa using hj) (by simpa using hlj)
   rw [fr_cons,up_cons]
   exact⟨by omega,g2,g3⟩
 |[],[],_,_,_,h,_,_,_,_,_=>h.elim
 |[],_::_::_,_,_,_,h,_,_,_,_,_=>by simp [Seg]at h
 |[],[_],[],_,_,h,_,_,_,_,_=>h.elim
 |[],[_],_::_::_,_,_,h,_,_,_,_,_=>by simp [Seg]at h
 |_::_,[],_,_,_,h,_,_,_,_,_=>by simp [Seg]at h
 |_::_,_::_,[],_,_,h,_,_,_,_,_=>by simp [Seg]at h
theorem Seg.mono {P P':Int→Int→Int→List Int→Prop}:∀{keys kids:List Int} {ls:List (List Int)} {lo hi:Int},Seg P lo hi keys kids ls→(∀k a b l,l∈ls→P k a b l→P' k a b l)→Seg P' lo hi keys kids ls
 |[],[k],[l],_,_,h,hp=>hp _ _ _ _ (by simp) h
 |key::keys,k::kids,l::ls,_,_,h,hp=>⟨hp _ _ _ _ (by simp) h.1,h.2.mono fun k a b l' hl=>hp k a b l' (by simp [hl])⟩
 |[],[],_,_,_,h,_=>h.elim
 |[],_::_::_,_,_,_,h,_=>by simp [Seg]at h
 |[],[_],[],_,_,h,_=>h.elim
 |[],[_],_::_::_,_,_,h,_=>by simp [Seg]at h
 |_::_,[],_,_,_,h,_=>by simp [Seg]at h
 |_::_,_::_,[],_,_,h,_=>by simp [Seg]at h
theorem kidIx_cons (key:Int) (keys:List Int) (x:Int):kidIx (key::keys) x=if key≤x then kidIx keys x+1 else 0:=by
 unfold kidIx
 by_cases h:key≤x
 ·rw [if_pos h,List.takeWhile_cons_of_pos (by simpa using h),List.length_cons]
 ·rw [if_neg h,List.takeWhile_cons_of_neg (by simpa using h)];rfl
theorem Seg.zip {P:Int→Int→Int→List Int→Prop} (hlt:∀k a b l,P k a b l→a<b) {x:Int}:∀{keys kids:List Int} {ls:List (List Int)} {lo hi:Int},Seg P lo hi keys kids ls→lo≤x→x<hi →
  ∃(k a b:Int) (l:List Int) (L1 L2:List (List Int)),kids[kidIx keys x]?=some k∧P k a b l∧a≤x∧x<b∧lo≤a∧b≤hi∧ls=L1++l::L2∧kidIx keys x≤keys.length ∧
   (∀(P':Int→Int→Int→List Int→Prop) (l':List Int),(∀k a b l,l∈L1++L2→P k a b l→P' k a b l)→P' k a b l'→Seg P' lo hi keys kids (L1++l'::L2)) ∧
   (∀(P':Int→Int→Int→List Int→Prop) (l1 l2:List Int) (more key:Int),(∀k a b l,l∈L1++L2→P k a b l→P' k a b l)→P' k a key l1→P' more key b l2 →
    Seg P' lo hi (keys.take (kidIx keys x)++key::keys.drop (kidIx keys x)) (kids.take (kidIx keys x+1)++more::kids.drop (kidIx keys x+1)) (L1++l1::l2::L2))
 |[],[k],[l],lo,hi,h,h1,h2=>⟨k,lo,hi,l,[],[],rfl,h,h1,h2,Int.le_refl _,Int.le_refl _,rfl,Nat.le_refl _,fun P' l' _ h=>h,fun P' l1 l2 more key _ g1 g2=>⟨g1,g2⟩⟩
 |key::keys,k::kids,l::ls,lo,hi,h,h1,h2=>by
  rw [kidIx_cons]
  by_cases hk:key≤x
  ·rw [if_pos hk]
   have:=hlt _ _ _ _ h.1
   obtain⟨k',a,b,l',L1,L2,e1,e2,e3,e4,e5,e6,rfl,e8,e9,e10⟩:=h.2.zip hlt hk h2
   refine⟨k',a,b,l',l::L1,L2,by simpa using e1,e2,e3,e4,by omega,e6,rfl,by simp;omega,fun P' l'' g1 g2=>?_,fun P' l1 l2 more key' g1 g2 g3=>?_⟩
   ·exact⟨g1 _ _ _ _ (by simp) h.1,e9 P' l'' (fun k a b l hl=>g1 k a b l (by simp at hl ⊢;exact .inr hl)) g2⟩
   ·have:=e10 P' l1 l2 more key' (fun k a b l hl=>g1 k a b l (by simp at hl ⊢;exact .inr hl)) g2 g3
    rw [List.take_succ_cons,List.take_succ_cons,List.drop_succ_cons,List.drop_succ_cons]
    exact⟨g1 _ _ _ _ (by simp) h.1,this⟩
  ·rw [if_neg hk]
   have hb:=h.2.bounds hlt
   refine⟨k,lo,key,l,[],ls,rfl,h.1,h1,by omega,Int.le_refl _,by omega,rfl,by simp,fun P' l' g1 g2=>?_,fun P' l1 l2 more key' g1 g2 g3=>?_⟩
   ·exact⟨g2,h.2.mono fun k a b l hl=>g1 k a b l (by simpa using hl)⟩
   ·exact⟨g2,g3,h.2.mono fun k a b l hl=>g1 k a b l (by simpa using hl)⟩
 |[],[],_,_,_,h,_,_=>h.elim
 |[],_::_::_,_,_,_,h,_,_=>by simp [Seg]at h
 |[],[_],[],_,_,h,_,_=>h.elim
 |[],[_],_::_::_,_,_,h,_,_=>by simp [Seg]at h
 |_::_,[],_,_,_,h,_,_=>by simp [Seg]at h
 |_::_,_::_,[],_,_,h,_,_=>by simp [Seg]at h
theorem Seg.part {P:Int→Int→Int→List Int→Prop} {keys kids:List Int} {ls:List (List Int)} {lo hi:Int} (h:Seg P lo hi keys kids ls) (h4:keys.length=4) :
  Seg P lo (keys.getD 1 0) (keys.take 1) (kids.take 2) (ls.take 2)∧Seg P (keys.getD 1 0) hi (keys.drop 2) (kids.drop 2) (ls.drop 2):=by
 have hl:=h.len
 match keys,kids,ls,h4,hl,h with
 |[a,b,c,d],[k1,k2,k3,k4,k5],[l1,l2,l3,l4,l5],_,_,h=>
  obtain⟨g1,g2,g3,g4,g5⟩:=h
  exact⟨⟨g1,g2⟩,g3,g4,g5⟩
end Go.Proofs.YtnjfkcimboidnaaDoor

/- What is known of nodes, and how much they hold: plain. No program in sight. -/
namespace Go.Proofs.YtnjfkcimboidnaaDoor
def Eqv (a b:List Ent):Prop:=Goods a∧Goods b∧∀k,look a k=look b k
theorem Eqv.refl {a:List Ent} (h:Goods a):Eqv a a:=⟨h,h,fun _=>rfl⟩
theorem Eqv.trans {a b c:List Ent} (h:Eqv a b) (h':Eqv b c):Eqv a c:=⟨h.1,h'.2.1,fun k=>(h.2.2 k).trans (h'.2.2 k)⟩
theorem Eqv.symm {a b:List Ent} (h:Eqv a b):Eqv b a:=⟨h.2.1,h.1,fun k=>(h.2.2 k).symm⟩
theorem Eqv.perm {a b:List Ent} (h:a.Perm b) (ha:Goods a):Eqv a b:=⟨ha,fun e he=>ha e (h.mem_iff.2 he),fun k=>look_perm h ha.fines k⟩
theorem Eqv.append {a b c d:List Ent} (h:Eqv a b) (h':Eqv c d):Eqv (a++c) (b++d):=
 ⟨goods_append.2 ⟨h.1,h'.1⟩,goods_append.2 ⟨h.2.1,h'.2.1⟩,fun k=>by rw [look_append h.1.fines h'.1.fines,look_append h.2.1.fines h'.2.1.fines,h.2.2,h'.2.2]⟩
theorem eqv_ins {l:List Ent} {x:Ent} (h:Goods l) (hx:x.is.Good):Eqv (ins l x) (x::l):=by
 refine⟨ins_goods h hx,fun e he=>by rcases List.mem_cons.1 he with rfl|he;exact hx;exact h e he,fun k=>?_⟩
 rw [look_ins h.fines (.inr hx)]
 simp only [look]
 rw [join_comm (look_fine h.fines k) (.inr hx)]
theorem Eqv.small {a b:List Ent} (h:Eqv a b):Small a↔Small b:=by
 unfold Small;constructor <;> intro hs k
 ·rw [←h.2.2];exact hs k
 ·rw [h.2.2];exact hs k
theorem small_left {a b:List Ent} (h:Small (a++b)) (g:Goods (a++b)):Small a:=fun k=>Int.le_trans (look_le (goods_append.1 g).1.fines (goods_append.1 g).2.fines k) (h k)
theorem small_sub {a b c:List Ent} (h:Small c) (g:Goods c) (hp:(a++b).Perm c):Small a:=
 small_left ((small_perm hp (fun e he=> .inr (g e (hp.mem_iff.1 he)))).2 h) fun e he=>g e (hp.mem_iff.1 he)
theorem EntOk.good {e:Ent} (h:EntOk e):e.is.Good:=(good_check h.2.1 h.1).1
theorem EntOk.le {e:Ent} (h:EntOk e):e.is.c≤1073741824:=(good_check h.2.1 h.1).2
theorem insG_ok {l:List Ent} {e:Ent} (hr:RowOk l) (he:EntOk e) (hs:Small (e::l)):insG l e=some (ins l e)∧Checked (ins l e)∧(ins l e).length≤l.length+1:=by
 have h1:(look l e.key).c+e.is.c≤1073741824:=by
  have:=hs e.key
  simp only [look,if_pos trivial,join_c]at this
  omega
 have h2:=insC_eq hr.1 he.le
 rw [if_pos h1]at h2
 refine⟨?_,ins_checked hr.1 hr.2.1 he.good h1,insC_length h2⟩
 unfold insG
 rw [if_pos ⟨hr,he⟩,h2]
theorem ins_range {l:List Ent} {x:Ent} {lo hi:Int} (hl:∀e∈l,lo≤e.key∧e.key<hi) (hx:lo≤x.key∧x.key<hi):∀e∈ins l x,lo≤e.key∧e.key<hi:=fun e he=>by
 rcases ins_keys he with h|⟨z,hz,hk⟩
 ·rw [h];exact hx
 ·rw [←hk];exact hl z hz
theorem ins_ok {l:List Ent} {x:Ent} {lo hi:Int} (hl:EntsOk l lo hi) (hx:lo≤x.key∧x.key<hi) (hc:Checked (ins l x)):EntsOk (ins l x) lo hi:=⟨hc,ins_range hl.2.1 hx,ins_rising hl.2.2⟩
theorem EntsOk.row {l:List Ent} {lo hi:Int} (h:EntsOk l lo hi) (h0:0≤lo) (h1:hi≤1099511627776) (hl:l.length≤20):RowOk l:=⟨h.2.2,h.1,fun e he=>by have:=h.2.1 e he;omega,hl⟩
theorem ins_ne {l:List Ent} {x:Ent}:ins l x≠[]:=by
 cases l with
 |nil=>simp [ins]
 |cons e l=>unfold ins;split <;> (try split) <;> simp
def wtN (x:Nd):Nat:=if x.leaf=true then max 3 x.ents.length else x.buf.length
def wtI (t:Tr) (m:Int):Nat:=match t.at? m with|none=>0|some x=>wtN x
def wt (t:Tr) (l:List Int):Nat:=(l.map (wtI t)).sum
theorem wt_append (t:Tr) (a b:List Int):wt t (a++b)=wt t a+wt t b:=by simp [wt]
theorem wt_cons (t:Tr) (n:Int) (b:List Int):wt t (n::b)=wtI t n+wt t b:=by simp [wt]
theorem wt_same {t t':Tr} {l:List Int} (h:∀m∈l,t'.at? m=t.at? m):wt t' l=wt t l:=by
 unfold wt
 congr 1
 exact List.map_congr_left fun m hm=>by unfold wtI;rw [h m hm]
theorem flat_congr {f g:Int→List Ent}:∀{l:List Int},(∀m∈l,f m=g m)→l.flatMap f=l.flatMap g
 |[],_=>rfl
 |a::l,h=>by rw [List.flatMap_cons,List.flatMap_cons,h a (by simp),flat_congr fun m hm=>h m (by simp [hm])]
theorem of_same {t t':Tr} {l:List Int} (h:∀m∈l,t'.at? m=t.at? m):l.flatMap t'.of=l.flatMap t.of:=
 flat_congr fun m hm=>by unfold Tr.of;rw [h m hm]
theorem of_at {t:Tr} {n:Int} {x:Nd} (h:t.at? n=some x):t.of n=x.ents++x.buf:=by unfold Tr.of;rw [h]
theorem wtI_at {t:Tr} {n:Int} {x:Nd} (h:t.at? n=some x):wtI t n=wtN x:=by unfold wtI;rw [h]
structure Prog (t t':Tr) (L L':List Int) (E:List Ent) (d:Nat):Prop where
 root:t'.root=t.root
 len0:t.nodes.length≤t'.nodes.length
 len1:t'.nodes.length≤t.nodes.length+d
 old:∀m:Int,m∉L→m<t.nodes.length→t'.at? m=t.at? m
 mem:∀m:Int,m∈L'↔m∈L∨((t.nodes.length:Int)≤m∧m<t'.nodes.length)
 nd:L'.Nodup
 ev:Eqv (L'.flatMap t'.of) (E++L.flatMap t.of)
 wt:wt t' L'≤wt t L+E.length
theorem Prog.refl {t:Tr} {L:List Int} (hn:L.Nodup) (hg:Goods (L.flatMap t.of)):Prog t t L L [] 0:=
 ⟨rfl,Nat.le_refl _,Nat.le_refl _,fun _ _ _=>rfl,fun m=>⟨.inl,fun h=>h.elim id fun h=>by omega⟩,hn,Eqv.refl hg,Nat.le_refl _⟩
theorem Prog.trans {t t1 t2:Tr} {L L1 L2:List Int} {E1 E2:List Ent} {d1 d2:Nat} (h1:Prog t t1 L L1 E1 d1) (h2:Prog t1 t2 L1 L2 E2 d2):Prog t t2 L L2 (E1++E2) (d1+d2):=by
 have a0:=h1.len0
 have a1:=h1.len1
 have b0:=h2.len0
 have b1:=h2.len1
 refine⟨h2.root.trans h1.root,by omega,by omega,fun m hm hl=>?_,fun m=>?_,h2.nd,?_,?_⟩
 ·rw [h2.old m (fun h=>by rcases (h1.mem m).1 h with h|h;exact hm h;omega) (by omega),h1.old m hm hl]
 ·rw [h2.mem,h1.mem]
  constructor
  ·rintro((h|h)|h)
   ·exact .inl h
   ·exact .inr ⟨h.1,by omega⟩
   ·exact .inr ⟨by omega,h.2⟩
  ·rintro(h|h)
   ·exact .inl (.inl h)
   ·by_cases hm:m<t1.nodes.length
    ·exact .inl (.inr ⟨h.1,hm⟩)
    ·exact .inr ⟨by omega,h.2⟩
 ·refine(h2.ev.trans ((Eqv.refl (goods_append.1 h2.ev.2.1).1).append h1.ev)).trans (Eqv.perm ?_ ?_)
  ·rw [←List.append_assoc]
   exact List.Perm.append_right _ (List.perm_append_comm)
  ·exact goods_append.2 ⟨(goods_append.1 h2.ev.2.1).1,h1.ev.2.1⟩
 ·have:=h1.wt
  have:=h2.wt
  rw [List.length_append];omega
def one1 (a b:Ent):Nat:=List.count a [b]
theorem count_one (a b:Ent) (l:List Ent):List.count a (b::l)=one1 a b+List.count a l:=List.count_append (l₁:=[b]) (l₂:=l)
theorem Prog.small {t t':Tr} {L L':List Int} {E F:List Ent} {d:Nat} (h:Prog t t' L L' E d) (gF:Goods F) (hs:Small (E++F++L.flatMap t.of)):Small (F++L'.flatMap t'.of):=by
 have e1:=(Eqv.refl gF).append h.ev
 refine(e1.trans (Eqv.perm (b:=E++F++L.flatMap t.of) ?_ e1.2.1)).small.2 hs
 refine List.perm_iff_count.2 fun a=>?_
 simp only [List.count_append];omega
theorem Prog.goods {t t':Tr} {L L':List Int} {E:List Ent} {d:Nat} (h:Prog t t' L L' E d):Goods (L'.flatMap t'.of):=h.ev.1
theorem Prog.more {t t':Tr} {L L':List Int} {E:List Ent} {d d':Nat} (h:Prog t t' L L' E d) (hd:d≤d'):Prog t t' L L' E d':=⟨h.root,h.len0,by have:=h.len1;omega,h.old,h.mem,h.nd,h.ev,h.wt⟩
theorem Prog.part {t t':Tr} {l l' A B:List Int} {E:List Ent} {d:Nat} (h:Prog t t' l l' E d) (hn:(A++(l++B)).Nodup) (hlt:∀m∈A++B,m<(t.nodes.length:Int)) (hg:Goods ((A++B).flatMap t.of)):Prog t t' (A++(l++B)) (A++(l'++B)) E d∧(∀m∈A++B,t'.at? m=t.at? m):=by
 have hn1:=hn
 rw [List.nodup_append,List.nodup_append]at hn1
 obtain⟨n1,⟨n2,n3,n4⟩,n5⟩:=hn1
 have hoff:∀m∈A++B,m∉l:=fun m hm hl=>by
  rcases List.mem_append.1 hm with hm|hm
  ·exact n5 m hm m (by simp [hl]) rfl
  ·exact n4 m hl m hm rfl
 have hsame:∀m∈A++B,t'.at? m=t.at? m:=fun m hm=>h.old m (hoff m hm) (hlt m hm)
 have hA:∀m∈A,t'.at? m=t.at? m:=fun m hm=>hsame m (by simp [hm])
 have hB:∀m∈B,t'.at? m=t.at? m:=fun m hm=>hsame m (by simp [hm])
 have hl':∀m∈A++B,m∉l':=fun m hm hl=>by
  rcases (h.mem m).1 hl with h'|h'
  ·exact hoff m hm h'
  ·have:=hlt m hm;omega
 refine⟨⟨h.root,h.len0,h.len1,fun m hm hl=>h.old m (fun hm'=>hm (by simp [hm'])) hl,fun m=>?_,?_,?_,?_⟩,hsame⟩
 ·simp only [List.mem_append]
  rw [h.mem]
  constructor
  ·rintro(h|(h|h)|h)
   ·exact .inl (.inl h)
   ·exact .inl (.inr (.inl h))
   ·exact .inr h
   ·exact .inl (.inr (.inr h))
  ·rintro((h|h|h)|h)
   ·exact .inl h
   ·exact .inr (.inl (.inl h))
   ·exact .inr (.inr h)
   ·exact .inr (.inl (.inr h))
 ·rw [List.nodup_append,List.nodup_append]
  refine⟨n1,⟨h.nd,n3,fun a ha b hb hab=>?_⟩,fun a ha b hb hab=>?_⟩
  ·subst hab;exact hl' a (by simp [hb]) ha
  ·subst hab
   rcases List.mem_append.1 hb with hb|hb
   ·exact hl' a (by simp [ha]) hb
   ·exact n5 a ha a (by simp [hb]) rfl
 ·simp only [List.flatMap_append]at hg ⊢
  rw [of_same hA,of_same hB]
  have gA:=(goods_append.1 hg).1
  have gB:=(goods_append.1 hg).2
  have e1:=(Eqv.refl gA).append (h.ev.append (Eqv.refl gB))
  refine e1.trans (Eqv.perm ?_ e1.2.1)
  refine List.perm_iff_count.2 fun a=>?_
  simp only [List.count_append];omega
 ·have:=h.wt
  rw [wt_append,wt_append,wt_append,wt_append,wt_same hA,wt_same hB];omega
theorem Prog.one {t:Tr} {n:Int} {x y:Nd} {L:List Int} {E:List Ent} (hx:t.at? n=some x) (hn:(n::L).Nodup) (hg:Goods (L.flatMap t.of)) (he:Eqv (y.ents++y.buf) (E++(x.ents++x.buf))) (hw:wtN y≤wtN x+E.length) :
  Prog t (setN t n y) (n::L) (n::L) E 0∧∀m,m≠n→(setN t n y).at? m=t.at? m:=by
 have h0:=(at_lt hx).1
 have hne:∀m,m≠n→(setN t n y).at? m=t.at? m:=fun m hm=>at_set_ne h0 hm
 have hL:∀m∈L,(setN t n y).at? m=t.at? m:=fun m hm=>hne m fun e=>by subst e;exact(List.nodup_cons.1 hn).1 hm
 refine⟨⟨rfl,by rw [len_set];omega,by rw [len_set];omega,fun m hm _=>hne m fun e=>hm (by simp [e]),fun m=>?_,hn,?_,?_⟩,hne⟩
 ·rw [len_set];exact⟨.inl,fun h=>h.elim id fun h=>by omega⟩
 ·rw [List.flatMap_cons,List.flatMap_cons,of_at (at_set hx),of_at hx,of_same hL,←List.append_assoc]
  exact he.append (Eqv.refl hg)
 ·rw [wt_cons,wt_cons,wtI_at (at_set hx),wtI_at hx,wt_same hL];omega
end Go.Proofs.YtnjfkcimboidnaaDoor

/- An inner node while something is put into it: plain. No program in sight. -/
namespace Go.Proofs.YtnjfkcimboidnaaDoor
structure Inn (t:Tr) (h:Nat) (n:Int) (x:Nd) (lo hi:Int) (ls:List (List Int)):Prop where
 pos:0<h
 at':t.at? n=some x
 leaf:x.leaf=false
 ents:x.ents=[]
 two:2≤x.kids.length
 buf:EntsOk x.buf lo hi
 seg:Seg (Sub t h) lo hi x.keys x.kids ls
 nd:(n::ls.flatten).Nodup
theorem sub_lt {t:Tr} {h:Nat}:∀k a b l,Sub t h k a b l→a<b:=fun _ _ _ _ h=>h.lt
theorem Sub.inn {t:Tr} {h:Nat} {n lo hi:Int} {l:List Int} (hs:Sub t (h+1) n lo hi l) (hp:0<h) (hn:l.Nodup):∃x ls,Inn t h n x lo hi ls∧l=n::ls.flatten∧x.kids.length≤4∧x.buf.length≤8:=by
 obtain⟨x,hx,hlt,⟨h0,_⟩|⟨_,h1,h2,ls,h3,rfl,h4⟩⟩:=hs
 ·omega
 ·exact⟨x,ls,⟨hp,hx,h1,h2.1,h2.2.1,h2.2.2.2.2.2,seg_of (by have:=h2.2.2.2.1;omega) h3 fun j k lj hj hlj=>(h4 j k lj hj hlj).2.2,hn⟩,rfl,h2.2.2.1,h2.2.2.2.2.1⟩
theorem Inn.sub {t:Tr} {h:Nat} {n:Int} {x:Nd} {lo hi:Int} {ls:List (List Int)} (hi':Inn t h n x lo hi ls) (h4:x.kids.length≤4) (h8:x.buf.length≤8):Sub t (h+1) n lo hi (n::ls.flatten):=by
 have hl:=hi'.seg.len
 exact⟨x,hi'.at',(hi'.seg.bounds sub_lt).1, .inr ⟨hi'.pos,hi'.leaf,⟨hi'.ents,hi'.two,h4,by omega,h8,hi'.buf⟩,ls,by omega,rfl,hi'.seg.at sub_lt⟩⟩
theorem Inn.mem {t:Tr} {h:Nat} {n:Int} {x:Nd} {lo hi:Int} {ls:List (List Int)} (hi':Inn t h n x lo hi ls):∀m∈n::ls.flatten,0≤m∧m<(t.nodes.length:Int):=fun m hm=>by
 rcases List.mem_cons.1 hm with rfl|hm
 ·exact at_lt hi'.at'
 ·obtain⟨lj,hlj,hml⟩:=List.mem_flatten.1 hm
  obtain⟨j,hj,rfl⟩:=List.getElem_of_mem hlj
  have hl:=hi'.seg.len
  have hjk:j<x.kids.length:=by omega
  obtain⟨y,hy⟩:=(hi'.seg.at sub_lt j _ _ (List.getElem?_eq_getElem hjk) (List.getElem?_eq_getElem hj)).2.2.mem.2 m hml
  exact at_lt hy
theorem Inn.keys {t:Tr} {h:Nat} {n:Int} {x:Nd} {lo hi:Int} {ls:List (List Int)} (hi':Inn t h n x lo hi ls):x.keys.Pairwise (·<·):=(hi'.seg.bounds sub_lt).2.1
theorem Inn.setbuf {t:Tr} {h:Nat} {n:Int} {x:Nd} {lo hi:Int} {ls:List (List Int)} (hi':Inn t h n x lo hi ls) {B:List Ent} (hB:EntsOk B lo hi):Inn (setN t n { x with buf:=B }) h n { x with buf:=B } lo hi ls:=by
 have h0:=(at_lt hi'.at').1
 refine⟨hi'.pos,at_set hi'.at',hi'.leaf,hi'.ents,hi'.two,hB,hi'.seg.mono fun k a b l hl hs=>hs.frame (root_set _ _ _) fun m hm=>at_set_ne h0 fun e=>?_,hi'.nd⟩
 subst e
 exact(List.nodup_cons.1 hi'.nd).1 (List.mem_flatten.2 ⟨l,hl,hm⟩)
def PutOk (put:Tr→Int→Ent→Option (Tr×Int×Int)) (h d:Nat):Prop:=∀(t:Tr) (n lo hi:Int) (l:List Int) (e:Ent),Sub t h n lo hi l→l.Nodup→EntOk e→lo≤e.key→e.key<hi→0≤lo→hi≤1099511627776 →
 Goods (l.flatMap t.of)→Small (e::l.flatMap t.of)→t.nodes.length+d≤1000000000000→∃t' more key l',put t n e=some (t',more,key)∧Prog t t' l l' [e] d ∧
  ((more = -1∧Sub t' h n lo hi l')∨(0≤more∧∃l1 l2,l'=l1++l2∧Sub t' h n lo key l1∧Sub t' h more key hi l2∧∀x,t'.at? n=some x→x.leaf=true→x.ents≠[]))
theorem flat_mid {n:Int} {L1 L2:List (List Int)} {l:List Int}:n::(L1++l::L2).flatten=(n::L1.flatten)++(l++L2.flatten):=by simp
theorem inn_put {put:Tr→Int→Ent→Option (Tr×Int×Int)} {t:Tr} {h d:Nat} {n:Int} {x:Nd} {lo hi:Int} {ls:List (List Int)} {e:Ent} (hp:PutOk put h d) (hi':Inn t h n x lo hi ls) (he:EntOk e) (h1:lo≤e.key) (h2:e.key<hi) (h0:0≤lo) (hh:hi≤1099511627776)
  (hg:Goods ((n::ls.flatten).flatMap t.of)) (hs:Small (e::(n::ls.flatten).flatMap t.of)) (hn:t.nodes.length+d≤1000000000000) (h4:x.kids.length≤4) :
  ∃k t1 more key t2 y ls',x.kids[kidIx x.keys e.key]?=some k∧put t k e=some (t1,more,key) ∧
   kidF t1 n (kidIx x.keys e.key) more key=some t2∧Inn t2 h n y lo hi ls'∧y.kids.length≤x.kids.length+1∧y.buf=x.buf∧Prog t t2 (n::ls.flatten) (n::ls'.flatten) [e] d:=by
 have hlen:=hi'.seg.len
 obtain⟨k,a,b,l,L1,L2,e1,e2,e3,e4,e5,e6,rfl,e8,e9,e10⟩:=hi'.seg.zip sub_lt h1 h2
 have hnd:=hi'.nd
 have hmem:=hi'.mem
 rw [flat_mid]at hnd hg hs hmem
 have hnl:l.Nodup:=(List.nodup_append.1 (List.nodup_append.1 hnd).2.1).1
 have hgl:Goods (l.flatMap t.of):=by
  simp only [List.flatMap_append]at hg
  exact(goods_append.1 (goods_append.1 hg).2).1
 have hgA:Goods (((n::L1.flatten)++L2.flatten).flatMap t.of):=by
  simp only [List.flatMap_append]at hg ⊢
  exact goods_append.2 ⟨(goods_append.1 hg).1,(goods_append.1 (goods_append.1 hg).2).2⟩
 have hsl:Small (e::l.flatMap t.of):=by
  refine small_sub (b:=((n::L1.flatten)++L2.flatten).flatMap t.of) hs (fun y hy=>by rcases List.mem_cons.1 hy with rfl|hy;exact he.good;exact hg y hy) ?_
  rw [List.cons_append]
  refine List.Perm.cons _ ?_
  simp only [List.flatMap_append]
  rw [←List.append_assoc,←List.append_assoc]
  exact List.Perm.append_right _ List.perm_append_comm
 obtain⟨t1,more,key,l',p1,p2,p3⟩:=hp t k a b l e e2 hnl he e3 e4 (by omega) (by omega) hgl hsl hn
 obtain⟨q1,q2⟩:=p2.part hnd (fun m hm=>(hmem m (by rcases List.mem_append.1 hm with hm|hm;exact List.mem_append_left _ hm;exact List.mem_append_right _ (List.mem_append_right _ hm))).2) hgA
 have hx1:t1.at? n=some x:=(q2 n (by simp)).trans hi'.at'
 have hfr:∀k a b l,l∈L1++L2→Sub t h k a b l→Sub t1 h k a b l:=fun k a b l hl hs=>hs.frame p2.root fun m hm=>q2 m (by
  rcases List.mem_append.1 hl with hl|hl
  ·exact List.mem_append_left _ (List.mem_cons_of_mem _ (List.mem_flatten.2 ⟨l,hl,hm⟩))
  ·exact List.mem_append_right _ (List.mem_flatten.2 ⟨l,hl,hm⟩))
 rcases p3 with ⟨rfl,g1⟩|⟨g0,l1,l2,rfl,g1,g2,-⟩
 ·refine⟨k,t1,-1,key,t1,x,L1++l'::L2,e1,p1,by unfold kidF;rw [if_pos (by omega)],?_,by omega,rfl,?_⟩
  ·exact⟨hi'.pos,hx1,hi'.leaf,hi'.ents,hi'.two,hi'.buf,e9 (Sub t1 h) l' hfr g1,by rw [flat_mid];exact q1.nd⟩
  ·rw [flat_mid,flat_mid];exact q1
 ·have hfl:n::(L1++l1::l2::L2).flatten=(n::L1.flatten)++((l1++l2)++L2.flatten):=by simp
  have hnd2:=q1.nd
  rw [←hfl]at hnd2
  have hn0:=(at_lt hx1).1
  have hseg:=e10 (Sub t1 h) l1 l2 more key hfr g1 g2
  refine⟨k,t1,more,key,setN t1 n { x with keys:=x.keys.take (kidIx x.keys e.key)++key::x.keys.drop (kidIx x.keys e.key),kids:=x.kids.take (kidIx x.keys e.key+1)++more::x.kids.drop (kidIx x.keys e.key+1) },
   {x with keys:=x.keys.take (kidIx x.keys e.key)++key::x.keys.drop (kidIx x.keys e.key),kids:=x.kids.take (kidIx x.keys e.key+1)++more::x.kids.drop (kidIx x.keys e.key+1) },L1++l1::l2::L2,e1,p1,?_,?_,?_,rfl,?_⟩
  ·unfold kidF
   rw [if_neg (by omega),hx1]
   simp only
   rw [if_pos ⟨e8,by omega,by omega,by omega⟩]
  ·refine⟨hi'.pos,at_set hx1,hi'.leaf,hi'.ents,?_,hi'.buf,hseg.mono fun k a b l hl hs=>hs.frame (root_set _ _ _) fun m hm=>at_set_ne hn0 fun e=>?_,hnd2⟩
   ·have:=hi'.two;simp;omega
   ·subst e
    exact(List.nodup_cons.1 hnd2).1 (List.mem_flatten.2 ⟨l,hl,hm⟩)
  ·simp;omega
  ·rw [hfl,flat_mid]
   have hgq:Goods ((L1++l1::l2::L2).flatten.flatMap t1.of):=by
    have:=q1.ev.1
    rw [←hfl,List.flatMap_cons]at this
    exact(goods_append.1 this).2
   have hgx:Goods (x.ents++x.buf):=by
    have:=q1.ev.1
    rw [←hfl,List.flatMap_cons,of_at hx1]at this
    exact(goods_append.1 this).1
   have:=(Prog.one (y:={ x with keys:=x.keys.take (kidIx x.keys e.key)++key::x.keys.drop (kidIx x.keys e.key),kids:=x.kids.take (kidIx x.keys e.key+1)++more::x.kids.drop (kidIx x.keys e.key+1) }) (E:=[]) hx1 hnd2 hgq (Eqv.refl hgx) (by unfold wtN;simp)).1
   rw [hfl]at this
   have:=q1.trans this
   simpa using this
theorem rest_law {h:Nat} {n:Int} {lo hi:Int} {ls:List (List Int)} (h0:0≤lo) (hh:hi≤1099511627776):∀(rs:List Ent) (t:Tr) (x:Nd),Inn t h n x lo hi ls→(∀e∈rs,EntOk e∧lo≤e.key∧e.key<hi)→x.buf.length+rs.length≤20 →
  Goods ((n::ls.flatten).flatMap t.of)→Small (rs++(n::ls.flatten).flatMap t.of)→∃t' y,rs.foldlM (restF n) t=some t'∧Inn t' h n y lo hi ls∧y.kids=x.kids∧y.buf.length≤x.buf.length+rs.length∧Prog t t' (n::ls.flatten) (n::ls.flatten) rs 0
 |[],t,x,hi',_,_,hg,_=>⟨t,x,rfl,hi',rfl,by simp,Prog.refl hi'.nd hg⟩
 |e::rs,t,x,hi',he,hl,hg,hs=>by
  obtain⟨h1,h2,h3⟩:=he e (by simp)
  have hgn:Goods (x.ents++x.buf)∧Goods (ls.flatten.flatMap t.of):=by
   rw [List.flatMap_cons,of_at hi'.at']at hg
   exact goods_append.1 hg
  have hgr:Goods (e::rs):=fun y hy=>(he y hy).1.good
  have hsb:Small (e::x.buf):=by
   refine small_sub (b:=rs++(x.ents++ls.flatten.flatMap t.of)) hs (goods_append.2 ⟨hgr,hg⟩) ?_
   rw [List.flatMap_cons,of_at hi'.at']
   refine List.perm_iff_count.2 fun a=>?_
   simp only [List.count_append,count_one];omega
  obtain⟨g1,g2,g3⟩:=insG_ok (hi'.buf.row h0 hh (by simp at hl;omega)) h1 hsb
  have hi2:=hi'.setbuf (ins_ok hi'.buf ⟨h2,h3⟩ g2)
  have gb:Goods x.buf:=hi'.buf.1.goods
  have ev:Eqv (x.ents++ins x.buf e) ([e]++(x.ents++x.buf)):=by
   have e1:=(Eqv.refl (goods_append.1 hgn.1).1).append (eqv_ins gb h1.good)
   refine e1.trans (Eqv.perm ?_ e1.2.1)
   refine List.perm_iff_count.2 fun a=>?_
   simp only [List.count_append,count_one,List.count_nil];omega
  have pr:=(Prog.one (y:={ x with buf:=ins x.buf e }) (E:=[e]) hi'.at' hi'.nd hgn.2 ev (by unfold wtN;simp only [hi'.leaf];simpa using g3)).1
  obtain⟨t',y,k1,k2,k3,k4,k5⟩:=rest_law h0 hh rs _ _ hi2 (fun y hy=>he y (by simp [hy])) (by show (ins x.buf e).length+rs.length≤20;simp at hl;omega) pr.goods (pr.small (F:=rs) (fun y hy=>hgr y (by simp [hy])) (by simpa using hs))
  refine⟨t',y,?_,k2,k3,by simp at k4 ⊢;omega,by simpa using pr.trans k5⟩
  rw [List.foldlM_cons]
  have:restF n t e=some (setN t n { x with buf:=ins x.buf e }):=by unfold restF;rw [hi'.at'];simp only;rw [g1];rfl
  rw [this];exact k1
theorem filter_rest {pre:List Ent} {e:Ent} {ds:List Ent} (h:Rising (pre++e::ds)):(pre++e::ds).filter (fun d=>decide (e.key<d.key))=ds:=by
 have h1:=List.pairwise_append.1 h
 have h2:=List.pairwise_cons.1 h1.2.1
 rw [List.filter_append,List.filter_cons_of_neg (by simp),List.filter_eq_nil_iff.2 fun y hy=>?_,List.nil_append,List.filter_eq_self.2 fun y hy=>?_]
 ·simpa using h2.1 y hy
 ·have:=h1.2.2 y hy e (by simp);simp;omega
theorem down_law {put:Tr→Int→Ent→Option (Tr×Int×Int)} {h d:Nat} {n:Int} {lo hi:Int} (hp:PutOk put h d) (h0:0≤lo) (hh:hi≤1099511627776) {all:List Ent} (hr:Rising all) :
  ∀(ds pre:List Ent) (t:Tr) (x:Nd) (ls:List (List Int)),all=pre++ds→Inn t h n x lo hi ls→(∀e∈ds,EntOk e∧lo≤e.key∧e.key<hi)→x.kids.length≤4→x.buf.length+ds.length≤20 →
  Goods ((n::ls.flatten).flatMap t.of)→Small (ds++(n::ls.flatten).flatMap t.of)→t.nodes.length+ds.length*d≤1000000000000 →
  ∃t' y ls',downF put n all ds t=some t'∧Inn t' h n y lo hi ls'∧y.kids.length≤5∧y.buf.length≤x.buf.length+(ds.length-1)∧Prog t t' (n::ls.flatten) (n::ls'.flatten) ds (ds.length*d)
 |[],pre,t,x,ls,_,hi',_,h4,_,hg,_,_=>⟨t,x,ls,rfl,hi',by omega,by simp,by simpa using Prog.refl hi'.nd hg⟩
 |e::ds,pre,t,x,ls,ha,hi',he,h4,hl,hg,hs,hn=>by
  obtain⟨h1,h2,h3⟩:=he e (by simp)
  have hgr:Goods (e::ds):=fun y hy=>(he y hy).1.good
  rw [List.length_cons,Nat.add_mul,Nat.one_mul]at hn
  have hse:Small (e::(n::ls.flatten).flatMap t.of):=by
   refine small_sub (b:=ds) hs (goods_append.2 ⟨hgr,hg⟩) ?_
   refine List.perm_iff_count.2 fun a=>?_
   simp only [List.count_append,count_one];omega
  obtain⟨k,t1,more,key,t2,y,ls',p1,p2,p3,p4,p5,p6,p7⟩:=inn_put hp hi' h1 h2 h3 h0 hh hg hse (by omega) h4
  have hs2:Small (ds++(n::ls'.flatten).flatMap t2.of):=p7.small (F:=ds) (fun y hy=>hgr y (by simp [hy])) (by simpa using hs)
  have hlen:=p7.len1
  unfold downF
  rw [hi'.at']
  simp only
  rw [if_pos ⟨hi'.keys,by have:=hi'.seg.len;omega,by omega⟩,p1]
  simp only
  rw [p2]
  simp only
  rw [p3]
  simp only
  rw [p4.at']
  simp only
  by_cases h5:y.kids.length≤4
  ·rw [if_pos h5]
   obtain⟨t',z,ls2,q1,q2,q3,q4,q5⟩:=down_law hp h0 hh hr ds (pre++[e]) t2 y ls' (by simp [ha]) p4 (fun y hy=>he y (by simp [hy])) h5 (by rw [p6];simp at hl;omega) p7.goods hs2 (by omega)
   refine⟨t',z,ls2,q1,q2,q3,by rw [p6]at q4;simp;omega,?_⟩
   have:=p7.trans q5
   rw [List.length_cons,Nat.add_mul,Nat.one_mul,Nat.add_comm]
   simpa using this
  ·rw [if_neg h5,ha,filter_rest (ha▸hr)]
   obtain⟨t',z,q1,q2,q3,q4,q5⟩:=rest_law h0 hh ds t2 y p4 (fun y hy=>he y (by simp [hy])) (by rw [p6];simp at hl;omega) p7.goods hs2
   refine⟨t',z,ls',q1,q2,by rw [q3];omega,by rw [p6]at q4;simp;omega,?_⟩
   have:=(p7.trans q5).more (d':=(e::ds).length*d) (by rw [List.length_cons,Nat.add_mul,Nat.one_mul];omega)
   simpa using this
end Go.Proofs.YtnjfkcimboidnaaDoor

/- A node flushed, a node split, something put: plain. No program in sight. -/
namespace Go.Proofs.YtnjfkcimboidnaaDoor
theorem bestF_max (m:Nat→Nat):∀(k j:Nat),j<k→m j≤m (bestF m k)
 |0,_,h=>by omega
 |k+1,j,h=>by
  unfold bestF
  by_cases hj:j=k
  ·subst hj;split <;> omega
  ·have:=bestF_max m k j (by omega)
   split <;> omega
theorem down_some {x:Nd} (hk:x.keys.length≤3) (hb:x.buf≠[]):(x.buf.filter fun e=>decide (kidIx x.keys e.key=bestF (manyF x) 4))≠[]:=fun h=>by
 obtain⟨e,he⟩:=List.exists_mem_of_ne_nil _ hb
 have h1:=bestF_max (manyF x) 4 (kidIx x.keys e.key) (by have:=kidIx_le x.keys e.key;omega)
 have h2:manyF x (bestF (manyF x) 4)=0:=by unfold manyF at h ⊢;rw [h];rfl
 have h3:0<manyF x (kidIx x.keys e.key):=by
  unfold manyF
  exact List.length_pos_of_mem (List.mem_filter.2 ⟨he,by simp⟩)
 omega
theorem part_len (l:List Ent) (p:Ent→Bool):(l.filter fun e=>!p e).length+(l.filter p).length=l.length:=by
 induction l with
 |nil=>rfl
 |cons a l ih=>by_cases h:p a=true <;> simp [h] <;> omega
theorem part_perm (l:List Ent) (p:Ent→Bool):(l.filter p++l.filter fun e=>!p e).Perm l:=List.filter_append_perm p l
theorem EntsOk.filter {l:List Ent} {lo hi:Int} (h:EntsOk l lo hi) (p:Ent→Bool):EntsOk (l.filter p) lo hi:=⟨fun e he=>h.1 e (List.mem_filter.1 he).1,fun e he=>h.2.1 e (List.mem_filter.1 he).1,h.2.2.filter _⟩
theorem EntsOk.ent {l:List Ent} {lo hi:Int} (h:EntsOk l lo hi) (h0:0≤lo) (hh:hi≤1099511627776):∀e∈l,EntOk e∧lo≤e.key∧e.key<hi:=fun e he=>by
 have h1:=h.1 e he
 have h2:=h.2.1 e he
 exact⟨⟨h1.1,h1.2,by omega,by omega⟩,h2.1,h2.2⟩
theorem flush_law {put:Tr→Int→Ent→Option (Tr×Int×Int)} {h d:Nat} {t:Tr} {n:Int} {x:Nd} {lo hi:Int} {ls:List (List Int)} (hp:PutOk put h d) (h0:0≤lo) (hh:hi≤1099511627776) (hi':Inn t h n x lo hi ls)
  (h4:x.kids.length≤4) (hb:x.buf≠[]) (h9:x.buf.length≤9) (hg:Goods ((n::ls.flatten).flatMap t.of)) (hs:Small ((n::ls.flatten).flatMap t.of)) (hn:t.nodes.length+9*d≤1000000000000) :
  ∃t' y ls',flushF put t n=some t'∧Inn t' h n y lo hi ls'∧y.kids.length≤5∧y.buf.length≤8∧Prog t t' (n::ls.flatten) (n::ls'.flatten) [] (9*d):=by
 have hlen:=hi'.seg.len
 obtain⟨p,hpd⟩:∃p:Ent→Bool,p=fun e=>decide (kidIx x.keys e.key=bestF (manyF x) 4):=⟨_,rfl⟩
 have hne:x.buf.filter p≠[]:=by rw [hpd];exact down_some (by omega) hb
 have hpl:=part_len x.buf p
 have hlp:0<(x.buf.filter p).length:=List.length_pos_iff.2 hne
 have hi1:=hi'.setbuf (hi'.buf.filter fun e=>!p e)
 have h0n:=(at_lt hi'.at').1
 have hsame:∀m∈ls.flatten,(setN t n { x with buf:=x.buf.filter fun e=>!p e }).at? m=t.at? m:=fun m hm=>at_set_ne h0n fun e=>by subst e;exact(List.nodup_cons.1 hi'.nd).1 hm
 have ef:(n::ls.flatten).flatMap t.of=(x.ents++x.buf)++ls.flatten.flatMap t.of:=by rw [List.flatMap_cons,of_at hi'.at']
 have ef1:(n::ls.flatten).flatMap (setN t n { x with buf:=x.buf.filter fun e=>!p e }).of=(x.ents++x.buf.filter fun e=>!p e)++ls.flatten.flatMap t.of:=by rw [List.flatMap_cons,of_at hi1.at',of_same hsame]
 have hperm:(x.buf.filter p++(n::ls.flatten).flatMap (setN t n { x with buf:=x.buf.filter fun e=>!p e }).of).Perm ((n::ls.flatten).flatMap t.of):=by
  rw [ef,ef1]
  have hq:=part_perm x.buf p
  refine List.perm_iff_count.2 fun a=>?_
  have:=List.perm_iff_count.1 hq a
  simp only [List.count_append]at this ⊢;omega
 have hg1:Goods (x.buf.filter p++(n::ls.flatten).flatMap (setN t n { x with buf:=x.buf.filter fun e=>!p e }).of):=fun e he=>hg e (hperm.mem_iff.1 he)
 have hs1:=(small_perm hperm hg1.fines).2 hs
 have hdl:(x.buf.filter p).length*d≤9*d:=Nat.mul_le_mul_right _ (by omega)
 obtain⟨t',y,ls',q1,q2,q3,q4,q5⟩:=down_law hp h0 hh (all:=x.buf.filter p) (hi'.buf.2.2.filter _) (x.buf.filter p) [] _ _ ls rfl hi1 (fun e he=>hi'.buf.ent h0 hh e (List.mem_filter.1 he).1) h4 (by simp only;omega) (goods_append.1 hg1).2 hs1 (by rw [len_set];omega)
 refine⟨t',y,ls',?_,q2,q3,by simp only at q4;omega,?_⟩
 ·unfold flushF
  rw [hi'.at']
  simp only
  rw [if_pos ⟨hi'.keys,by omega,by omega,hi'.buf.1⟩]
  rw [hpd]at q1
  exact q1
 ·have l0:=q5.len0
  have l1:=q5.len1
  rw [len_set]at l0 l1
  refine⟨q5.root,l0,by omega,fun m hm hl=>?_,fun m=>?_,q5.nd,?_,?_⟩
  ·rw [q5.old m hm (by rw [len_set];exact hl)]
   exact at_set_ne h0n fun e=>hm (by simp [e])
  ·have:=q5.mem m
   rw [len_set]at this;exact this
  ·exact q5.ev.trans (Eqv.perm (by simpa using hperm) hg1)
  ·have hw:=q5.wt
   rw [wt_cons _ n ls.flatten,wtI_at hi1.at',wt_same hsame]at hw
   rw [wt_cons t,wtI_at hi'.at']
   unfold wtN at hw ⊢
   simp only [hi'.leaf]at hw ⊢
   simp at hw ⊢;omega
theorem posE_ge {es:List Ent} {key:Int} (hs:Rising es) (t:Nat) (ht:t<es.length) (h:posE es key≤t):key≤es[t].key:=by
 have h1:=(posE_spec (key:=key) hs).2.2 (by omega)
 by_cases he:posE es key=t
 ·subst he;exact h1
 ·have:=List.pairwise_iff_getElem.1 hs (posE es key) t (by omega) ht (by omega);omega
theorem EntsOk.take {l:List Ent} {lo hi key:Int} (h:EntsOk l lo hi):EntsOk (l.take (posE l key)) lo key:=
 ⟨fun e he=>h.1 e (List.mem_of_mem_take he),fun e he=>by
  obtain⟨i,hi,rfl⟩:=List.getElem_of_mem he
  rw [List.length_take]at hi
  have:=h.2.1 _ (List.mem_of_mem_take he)
  rw [List.getElem_take]at this ⊢
  exact⟨this.1,(posE_spec h.2.2).2.1 i (by omega) (by omega)⟩,h.2.2.sublist (List.take_sublist _ _)⟩
theorem EntsOk.drop {l:List Ent} {lo hi key:Int} (h:EntsOk l lo hi):EntsOk (l.drop (posE l key)) key hi:=
 ⟨fun e he=>h.1 e (List.mem_of_mem_drop he),fun e he=>by
  have:=h.2.1 _ (List.mem_of_mem_drop he)
  obtain⟨i,hi,rfl⟩:=List.getElem_of_mem he
  rw [List.length_drop]at hi
  rw [List.getElem_drop]at this ⊢
  exact⟨posE_ge h.2.2 _ (by omega) (by omega),this.2⟩,h.2.2.sublist (List.drop_sublist _ _)⟩
theorem part_prog {t:Tr} {n:Int} {x X Y:Nd} {A B:List Int} (hx:t.at? n=some x) (hn:(n::(A++B)).Nodup) (hlt:∀m∈A++B,m<(t.nodes.length:Int)) (hg:Goods ((n::(A++B)).flatMap t.of))
  (hp:(X.ents++X.buf++(Y.ents++Y.buf)).Perm (x.ents++x.buf)) (hw:wtN X+wtN Y≤wtN x) :
  Prog t (setN (addN t Y) n X) (n::(A++B)) ((n::A)++(t.nodes.length:Int)::B) [] 1∧(setN (addN t Y) n X).at? n=some X∧(setN (addN t Y) n X).at? (t.nodes.length:Int)=some Y∧∀m∈A++B,(setN (addN t Y) n X).at? m=t.at? m:=by
 have hr:=at_lt hx
 have k1:(setN (addN t Y) n X).at? n=some X:=at_set (at_add hx)
 have k2:(setN (addN t Y) n X).at? (t.nodes.length:Int)=some Y:=(at_set_ne hr.1 (by omega)).trans at_new
 have hl:(setN (addN t Y) n X).nodes.length=t.nodes.length+1:=by rw [len_set,len_add]
 have hold:∀m:Int,m≠n→m<t.nodes.length→(setN (addN t Y) n X).at? m=t.at? m:=fun m hm hlm=>by
  rw [at_set_ne hr.1 hm]
  unfold Tr.at? addN
  by_cases h0:0≤m
  ·rw [if_pos h0,if_pos h0]
   simp only
   rw [List.getElem?_append_left (by omega)]
  ·rw [if_neg h0,if_neg h0]
 have hn2:=List.nodup_cons.1 hn
 have k3:∀m∈A++B,(setN (addN t Y) n X).at? m=t.at? m:=fun m hm=>hold m (fun e=>hn2.1 (e▸hm)) (hlt m hm)
 have kA:∀m∈A,(setN (addN t Y) n X).at? m=t.at? m:=fun m hm=>k3 m (by simp [hm])
 have kB:∀m∈B,(setN (addN t Y) n X).at? m=t.at? m:=fun m hm=>k3 m (by simp [hm])
 refine⟨⟨rfl,by omega,by omega,fun m hm hlm=>hold m (fun e=>hm (by simp [e])) hlm,fun m=>?_,?_,?_,?_⟩,k1,k2,k3⟩
 ·rw [hl]
  simp only [List.cons_append,List.mem_cons,List.mem_append]
  constructor
  ·rintro(h|h|h|h)
   ·exact .inl (.inl h)
   ·exact .inl (.inr (.inl h))
   ·exact .inr (by omega)
   ·exact .inl (.inr (.inr h))
  ·rintro((h|h|h)|h)
   ·exact .inl h
   ·exact .inr (.inl h)
   ·exact .inr (.inr (.inr h))
   ·exact .inr (.inr (.inl (by omega)))
 ·have hab:=List.nodup_append.1 hn2.2
  rw [List.nodup_append]
  refine⟨List.nodup_cons.2 ⟨fun h=>hn2.1 (by simp [h]),hab.1⟩,List.nodup_cons.2 ⟨fun h=>by have:=hlt _ (List.mem_append_right A h);omega,hab.2.1⟩,fun a ha b hb e=>?_⟩
  subst e
  rcases List.mem_cons.1 ha with rfl|ha <;> rcases List.mem_cons.1 hb with rfl|hb
  ·omega
  ·exact hn2.1 (by simp [hb])
  ·have:=hlt _ (List.mem_append_left B ha);omega
  ·exact hab.2.2 a ha a hb rfl
 ·have hpp:(((n::A)++(t.nodes.length:Int)::B).flatMap (setN (addN t Y) n X).of).Perm ((n::(A++B)).flatMap t.of):=by
   simp only [List.flatMap_append,List.flatMap_cons]
   rw [of_same kA,of_same kB,of_at k1,of_at k2,of_at hx]
   refine List.perm_iff_count.2 fun a=>?_
   have:=List.perm_iff_count.1 hp a
   simp only [List.count_append]at this ⊢;omega
  have hg2:Goods (((n::A)++(t.nodes.length:Int)::B).flatMap (setN (addN t Y) n X).of):=fun e he=>hg e (hpp.mem_iff.1 he)
  exact Eqv.perm hpp hg2
 ·rw [wt_append,wt_cons,wt_cons,wt_cons,wt_append,wt_same kA,wt_same kB,wtI_at k1,wtI_at k2,wtI_at hx]
  simp;omega
def Left (t':Tr) (h:Nat) (n lo hi more key:Int) (l':List Int):Prop:=(more = -1∧Sub t' h n lo hi l')∨(0≤more∧∃l1 l2,l'=l1++l2∧Sub t' h n lo key l1∧Sub t' h more key hi l2∧∀x,t'.at? n=some x→x.leaf=true→x.ents≠[])
theorem split_law {t:Tr} {h:Nat} {n:Int} {x:Nd} {lo hi:Int} {ls:List (List Int)} (h0:0≤lo) (hh:hi≤1099511627776) (hi':Inn t h n x lo hi ls) (h5:x.kids.length≤5) (h8:x.buf.length≤8)
  (hg:Goods ((n::ls.flatten).flatMap t.of)) (hn:t.nodes.length≤1000000000000):∃t' more key l',splitF t n=some (t',more,key)∧Prog t t' (n::ls.flatten) l' [] 1∧Left t' (h+1) n lo hi more key l':=by
 have hlen:=hi'.seg.len
 by_cases h4:x.kids.length≤4
 ·refine⟨t,-1,0,n::ls.flatten,?_,(Prog.refl hi'.nd hg).more (by omega), .inl ⟨rfl,hi'.sub h4 h8⟩⟩
  unfold splitF
  rw [hi'.at']
  dsimp only
  rw [if_neg (by rw [hi'.leaf];simp),if_pos h4]
 ·have hk4:x.keys.length=4:=by omega
  obtain⟨s1,s2⟩:=hi'.seg.part hk4
  obtain⟨key,hkey⟩:∃key,x.keys.getD 1 0=key:=⟨_,rfl⟩
  have hb:=(hi'.seg.bounds sub_lt).2.2 key (by rw [←hkey,List.getD_eq_getElem?_getD,List.getElem?_eq_getElem (by omega)];simp)
  have hfl:ls.flatten=(ls.take 2).flatten++(ls.drop 2).flatten:=by rw [←List.flatten_append,List.take_append_drop]
  have hnd:=hi'.nd
  have hmem:=hi'.mem
  rw [hkey]at s1 s2
  rw [hfl]at hnd hg hmem
  obtain⟨P,k1,k2,k3⟩:=part_prog (X:=⟨false,[],x.keys.take 1,x.kids.take 2,x.buf.take (posE x.buf key)⟩) (Y:=⟨false,[],x.keys.drop 2,x.kids.drop 2,x.buf.drop (posE x.buf key)⟩) hi'.at' hnd (fun m hm=>(hmem m (by simp at hm ⊢;exact .inr hm)).2) hg
   (by rw [hi'.ents];simp) (by unfold wtN;simp [hi'.leaf];omega)
  have hfr:∀k a b l,l∈ls→Sub t h k a b l→Sub (setN (addN t ⟨false,[],x.keys.drop 2,x.kids.drop 2,x.buf.drop (posE x.buf key)⟩) n ⟨false,[],x.keys.take 1,x.kids.take 2,x.buf.take (posE x.buf key)⟩) h k a b l:=
   fun k a b l hl hs=>hs.frame ((root_set _ _ _).trans (root_add _ _)) (fun m hm=>k3 m (by rw [←hfl];exact List.mem_flatten.2 ⟨l,hl,hm⟩))
  have hnd2:=List.nodup_append.1 P.nd
  refine⟨_,t.nodes.length,key,_,?_,by rw [hfl];exact P, .inr ⟨by omega,_,_,rfl,?_,?_,fun y hy hl=>?_⟩⟩
  ·unfold splitF
   rw [hi'.at']
   dsimp only
   rw [if_neg (by rw [hi'.leaf];simp),if_neg h4,hkey,if_pos ⟨by omega,hk4,hi'.buf.row h0 hh (by omega),⟨by omega,by omega⟩,hn⟩]
  ·exact Inn.sub ⟨hi'.pos,k1,rfl,rfl,by simp;omega,hi'.buf.take,s1.mono fun k a b l hl=>hfr k a b l (List.mem_of_mem_take hl),hnd2.1⟩ (by simp;omega) (by simp;omega)
  ·exact Inn.sub ⟨hi'.pos,k2,rfl,rfl,by simp;omega,hi'.buf.drop,s2.mono fun k a b l hl=>hfr k a b l (List.mem_of_mem_drop hl),hnd2.2.1⟩ (by simp;omega) (by simp;omega)
  ·rw [k1]at hy;injection hy with hy;subst hy;cases hl
def grow:Nat→Nat
 |0=>1
 |h+1=>9*grow h+1
theorem put_law:∀(h f:Nat),h≤f→PutOk (putF f) h (grow h)
 |0,f,_=>fun t n lo hi l e hs=>hs.elim
 |h+1,0,hf=>by omega
 |h+1,f+1,hf=>fun t n lo hi l e hs hnd he h1 h2 h0 hh hg hsm hn=>by
  by_cases hp:0<h
  ·obtain⟨x,ls,hi',rfl,h4,h8⟩:=hs.inn hp hnd
   have hgn:Goods (x.ents++x.buf)∧Goods (ls.flatten.flatMap t.of):=by
    rw [List.flatMap_cons,of_at hi'.at']at hg
    exact goods_append.1 hg
   have gce:Goods (e::(n::ls.flatten).flatMap t.of):=fun y hy=>by rcases List.mem_cons.1 hy with rfl|hy;exact he.good;exact hg y hy
   have hsb:Small (e::x.buf):=by
    refine small_sub (b:=x.ents++ls.flatten.flatMap t.of) hsm gce ?_
    rw [List.flatMap_cons,of_at hi'.at']
    refine List.perm_iff_count.2 fun a=>?_
    simp only [List.count_append,count_one];omega
   obtain⟨g1,g2,g3⟩:=insG_ok (hi'.buf.row h0 hh (by omega)) he hsb
   have hi2:=hi'.setbuf (ins_ok hi'.buf ⟨h1,h2⟩ g2)
   have gb:Goods x.buf:=hi'.buf.1.goods
   have ev:Eqv (x.ents++ins x.buf e) ([e]++(x.ents++x.buf)):=by
    have e1:=(Eqv.refl (goods_append.1 hgn.1).1).append (eqv_ins gb he.good)
    refine e1.trans (Eqv.perm ?_ e1.2.1)
    refine List.perm_iff_count.2 fun a=>?_
    simp only [List.count_append,count_one,List.count_nil];omega
   have pr:=(Prog.one (y:={ x with buf:=ins x.buf e }) (E:=[e]) hi'.at' hi'.nd hgn.2 ev (by unfold wtN;simp only [hi'.leaf];simpa using g3)).1
   have hs2:Small ((n::ls.flatten).flatMap (setN t n { x with buf:=ins x.buf e }).of):=by
    have:=pr.small (F:=[]) (fun _ h=>by cases h) (by simpa using hsm)
    simpa using this
   have hgr:grow (h+1)=9*grow h+1:=rfl
   rw [hgr]at hn ⊢
   have hput:∀r,(if (ins x.buf e).length≤8 then splitF (setN t n { x with buf:=ins x.buf e }) n else match flushF (putF f) (setN t n { x with buf:=ins x.buf e }) n with|none=>none|some t2=>splitF t2 n)=r→putF (f+1) t n e=r:=fun r hr=>by
    unfold putF
    rw [hi'.at']
    dsimp only
    rw [if_neg (by rw [hi'.leaf];simp),g1]
    exact hr
   by_cases h8':(ins x.buf e).length≤8
   ·obtain⟨t',more,key,l',q1,q2,q3⟩:=split_law h0 hh hi2 (by simp only;omega) h8' pr.goods (by rw [len_set];omega)
    refine⟨t',more,key,l',hput _ (by rw [if_pos h8'];exact q1),?_,q3⟩
    have:=(pr.trans q2).more (d':=9*grow h+1) (by omega)
    simpa using this
   ·obtain⟨t2,y,ls2,q1,q2,q3,q4,q5⟩:=flush_law (put_law h f (by omega)) h0 hh hi2 h4 ins_ne (by simp only;omega) pr.goods hs2 (by rw [len_set];omega)
    have l2:=q5.len1
    rw [len_set]at l2
    obtain⟨t',more,key,l',r1,r2,r3⟩:=split_law h0 hh q2 q3 q4 q5.goods (by omega)
    refine⟨t',more,key,l',hput _ (by rw [if_neg h8',q1];exact r1),?_,r3⟩
    have:=((pr.trans q5).trans r2).more (d':=9*grow h+1) (by omega)
    simpa using this
  ·obtain⟨x,hx,hlt,⟨rfl,hl,hok,rfl⟩|⟨hp',_⟩⟩:=hs
   ·obtain⟨k1,k2,k3,k4,k5,k6⟩:=hok
    have hxo:t.of n=x.ents:=by rw [of_at hx,k3,List.append_nil]
    have hgx:Goods x.ents:=by simpa [hxo] using hg
    have hsb:Small (e::x.ents):=by simpa [hxo] using hsm
    obtain⟨g1,g2,g3⟩:=insG_ok (k6.row h0 hh (by omega)) he hsb
    have hok2:=ins_ok k6 ⟨h1,h2⟩ g2
    have hput:∀r,splitF (setN t n { x with ents:=ins x.ents e }) n=r→putF (f+1) t n e=r:=fun r hr=>by
     unfold putF
     rw [hx]
     dsimp only
     rw [if_pos hl,g1]
     exact hr
    have ev:Eqv (ins x.ents e++x.buf) ([e]++(x.ents++x.buf)):=by
     rw [k3,List.append_nil,List.append_nil];exact eqv_ins hgx he.good
    have pr:=(Prog.one (y:={ x with ents:=ins x.ents e }) (L:=[]) (E:=[e]) hx hnd (by simp [Goods]) ev (by unfold wtN;simp only [hl];simp;omega)).1
    have hat:=at_set (y:={ x with ents:=ins x.ents e }) hx
    have hgr:1≤grow (0+1):=by show 1≤9*grow 0+1;omega
    by_cases h6:(ins x.ents e).length≤6
    ·refine⟨_,-1,0,[n],hput _ (by unfold splitF;rw [hat];dsimp only;rw [if_pos hl,if_pos h6]),pr.more (by omega), .inl ⟨rfl,_,hat,hlt, .inl ⟨rfl,hl,⟨k1,k2,k3,h6, .inl ins_ne,hok2⟩,rfl⟩⟩⟩
    ·have h7:(ins x.ents e).length=7:=by omega
     obtain⟨y,hy⟩:∃y,(ins x.ents e)[3]?=some y:=⟨(ins x.ents e)[3],by simp [h7]⟩
     have hyd:(ins x.ents e).getD 3 default=y:=by rw [List.getD_eq_getElem?_getD,hy];rfl
     have hyk:posE (ins x.ents e) y.key=3:=by
      obtain⟨h3,hy3⟩:=List.getElem?_eq_some_iff.1 hy
      have hp2:=List.pairwise_iff_getElem.1 hok2.2.2
      refine posE_eq (by omega) (fun i hi hi3=>by rw [←hy3];exact hp2 i 3 hi h3 hi3) fun i hi hi3=>?_
      by_cases hi4:i=3
      ·subst hi4;rw [hy3];omega
      ·have:=hp2 3 i h3 hi (by omega);rw [hy3]at this;omega
     have yin:=hok2.2.1 y (List.mem_of_getElem? hy)
     have htk:=hok2.take (key:=y.key)
     have hdr:=hok2.drop (key:=y.key)
     rw [hyk]at htk hdr
     have y0:=htk.2.1 _ (List.getElem_mem (n:=0) (by simp;omega))
     obtain⟨P,m1,m2,-⟩:=part_prog (A:=[]) (B:=[]) (X:={ x with ents:=(ins x.ents e).take 3 }) (Y:=⟨true,(ins x.ents e).drop 3,[],[],[]⟩) hat hnd (by simp) (by simpa using pr.goods)
      (by simp [k3]) (by unfold wtN;simp [hl];omega)
     refine⟨_,(setN t n { x with ents:=ins x.ents e }).nodes.length,y.key,_,hput _ (by unfold splitF;rw [hat];dsimp only;rw [if_pos hl,if_neg h6,if_pos ⟨h7,by rw [len_set];omega⟩,hyd]),((pr.trans P).more (by omega)), .inr ⟨by omega,_,_,rfl,?_,?_,fun z hz _=>?_⟩⟩
     ·exact⟨_,m1,by omega, .inl ⟨rfl,hl,⟨k1,k2,k3,by simp;omega, .inl (by intro h;have:=congrArg List.length h;simp [h7]at this),htk⟩,rfl⟩⟩
     ·exact⟨_,m2,yin.2, .inl ⟨rfl,rfl,⟨rfl,rfl,rfl,by simp;omega, .inl (by intro h;have:=congrArg List.length h;simp [h7]at this),hdr⟩,rfl⟩⟩
     ·rw [m1]at hz;injection hz with hz;subst hz
      intro h;have:=congrArg List.length h;simp [h7]at this
   ·omega
end Go.Proofs.YtnjfkcimboidnaaDoor

/- What tree.Put makes of a tree that may be: plain. No program in sight. -/
namespace Go.Proofs.YtnjfkcimboidnaaDoor
structure Full (t:Tr) (h:Nat) (l:List Int):Prop where
 sub:Sub t h t.root 0 1099511627776 l
 nd:l.Nodup
 len:l.length=t.nodes.length
theorem valid_full {t:Tr} (hv:ValidT t):∃l h,h≤12∧Full t h l:=by
 obtain⟨l,h,h1,h2,h3⟩:=hv
 obtain⟨g1,g2⟩:=vis_sub h1
 exact⟨l,h,g1,g2,h2,h3⟩
theorem Full.valid {t:Tr} {h:Nat} {l:List Int} (hf:Full t h l) (hh:h≤12):ValidT t:=⟨l,h,sub_vis hf.sub hh,hf.nd,hf.len⟩
theorem Sub.lt' {t:Tr} {h:Nat} {n lo hi:Int} {l:List Int} (hs:Sub t h n lo hi l):∀m∈l,0≤m∧m<(t.nodes.length:Int):=fun m hm=>by
 obtain⟨x,hx⟩:=hs.mem.2 m hm
 exact at_lt hx
theorem Full.perm {t:Tr} {h:Nat} {l:List Int} (hf:Full t h l):(l.flatMap t.of).Perm t.all:=by
 rw [←flat_ups]
 exact List.Perm.flatMap_right _ (perm_ups hf.nd hf.sub.lt' hf.len)
def wtT (t:Tr):Nat:=wt t (ups t.nodes.length)
theorem wt_perm {t:Tr} {a b:List Int} (h:a.Perm b):wt t a=wt t b:=by
 unfold wt;exact(h.map _).sum_nat
theorem Full.wt {t:Tr} {h:Nat} {l:List Int} (hf:Full t h l):wt t l=wtT t:=wt_perm (perm_ups hf.nd hf.sub.lt' hf.len)
theorem Sub.frame2 {t t':Tr}:∀{h:Nat} {n lo hi:Int} {l:List Int},Sub t h n lo hi l→(∀m∈l,t'.at? m=t.at? m)→(∀m∈l,m=t.root→∀x,t.at? m=some x→x.leaf=true→x.ents≠[])→Sub t' h n lo hi l
 |0,_,_,_,_,hs,_,_=>hs
 |h+1,n,lo,hi,l,⟨x,hx,hlt,hs⟩,hk,hr=>by
  rcases hs with ⟨h0,h1,h2,rfl⟩|⟨hp,h1,h2,ls,h3,rfl,h4⟩
  ·refine⟨x,(hk n (by simp)).trans hx,hlt, .inl ⟨h0,h1,?_,rfl⟩⟩
   obtain⟨a1,a2,a3,a4,a5,a6⟩:=h2
   refine⟨a1,a2,a3,a4, .inl ?_,a6⟩
   rcases a5 with a5|a5
   ·exact a5
   ·exact hr n (by simp) a5 x hx h1
  ·refine⟨x,(hk n (by simp)).trans hx,hlt, .inr ⟨hp,h1,h2,ls,h3,rfl,fun j k lj hj hlj=>?_⟩⟩
   obtain⟨g1,g2,g3⟩:=h4 j k lj hj hlj
   exact⟨g1,g2,g3.frame2 (fun m hm=>hk m (List.mem_cons_of_mem _ (List.mem_flatten.2 ⟨lj,List.mem_of_getElem? hlj,hm⟩))) fun m hm=>hr m (List.mem_cons_of_mem _ (List.mem_flatten.2 ⟨lj,List.mem_of_getElem? hlj,hm⟩))⟩
theorem flat_bound {t:Tr} {h:Nat}:∀(ls:List (List Int)),(∀l∈ls,∃k,l.length+1≤2*k∧3*k≤wt t l∧2 ^ h≤k)→∃k,ls.flatten.length+ls.length≤2*k∧3*k≤wt t ls.flatten∧ls.length*2 ^ h≤k
 |[],_=>⟨0,by simp,by simp,by simp⟩
 |l::ls,hl=>by
  obtain⟨k1,a1,a2,a3⟩:=hl l (by simp)
  obtain⟨k2,b1,b2,b3⟩:=flat_bound ls fun l hl'=>hl l (by simp [hl'])
  refine⟨k1+k2,?_,?_,?_⟩
  ·rw [List.flatten_cons,List.length_append,List.length_cons];omega
  ·rw [List.flatten_cons,wt_append];omega
  ·rw [List.length_cons,Nat.add_mul,Nat.one_mul];omega
theorem Sub.bound {t:Tr}:∀{h:Nat} {n lo hi:Int} {l:List Int},Sub t (h+1) n lo hi l→∃k,l.length+1≤2*k∧3*k≤wt t l∧2 ^ h≤k
 |h,n,lo,hi,l,⟨x,hx,hlt,hs⟩=>by
  rcases hs with ⟨rfl,h1,h2,rfl⟩|⟨hp,h1,h2,ls,h3,rfl,h4⟩
  ·refine⟨1,by simp,?_,by simp⟩
   have:wt t [n]=wtI t n:=by simp [wt]
   rw [this,wtI_at hx]
   unfold wtN
   rw [if_pos h1];omega
  ·obtain⟨h',rfl⟩:∃h',h=h'+1:=⟨h-1,by omega⟩
   obtain⟨k,a1,a2,a3⟩:=flat_bound (t:=t) (h:=h') ls fun l hl=>by
    obtain⟨j,hj,rfl⟩:=List.getElem_of_mem hl
    have hjk:j<x.kids.length:=by omega
    exact(h4 j _ _ (List.getElem?_eq_getElem hjk) (List.getElem?_eq_getElem hj)).2.2.bound
   have h22:=h2.2.1
   refine⟨k,by rw [List.length_cons];omega,by rw [wt_cons];omega,?_⟩
   have:2*2 ^ h'≤ls.length*2 ^ h':=Nat.mul_le_mul_right _ (by omega)
   rw [Nat.pow_succ];omega
theorem Full.bound {t:Tr} {h:Nat} {l:List Int} (hf:Full t h l):∃k,t.nodes.length+1≤2*k∧3*k≤wtT t∧2 ^ (h-1)≤k:=by
 obtain⟨h',rfl⟩:∃h',h=h'+1:=⟨h-1,by have:=hf.sub.pos;omega⟩
 obtain⟨k,a1,a2,a3⟩:=hf.sub.bound
 rw [hf.len]at a1
 rw [hf.wt]at a2
 exact⟨k,a1,a2,a3⟩
theorem Full.fault {t:Tr} {h:Nat} {l:List Int} (hf:Full t h l) (hw:wtT t≤3002):treeFault t=0:=by
 obtain⟨k,a1,a2,a3⟩:=hf.bound
 refine treeFault_of (by omega) (hf.valid ?_)
 refine Nat.le_of_not_lt fun hh=>?_
 have:2 ^ 12≤2 ^ (h-1):=Nat.pow_le_pow_right (by decide) (by omega)
 have:(2:Nat) ^ 12=4096:=by decide
 omega
theorem Sub.node {t:Tr}:∀{h:Nat} {n lo hi:Int} {l:List Int},Sub t h n lo hi l→∀m∈l,∀x,t.at? m=some x→x.ents.length≤6∧x.keys.length≤3∧x.kids.length≤4∧x.buf.length≤8
 |0,_,_,_,_,hs,_,_,_,_=>hs.elim
 |h+1,n,lo,hi,l,⟨x,hx,hlt,hs⟩,m,hm,y,hy=>by
  rcases hs with ⟨rfl,h1,h2,rfl⟩|⟨hp,h1,h2,ls,h3,rfl,h4⟩
  ·simp only [List.mem_singleton]at hm
   subst hm
   obtain rfl:=Option.some.inj (hx.symm.trans hy)
   obtain⟨a1,a2,a3,a4,-,-⟩:=h2
   simp [a1,a2,a3,a4]
  ·rcases List.mem_cons.1 hm with rfl|hm
   ·obtain rfl:=Option.some.inj (hx.symm.trans hy)
    obtain⟨a1,a2,a3,a4,a5,-⟩:=h2
    exact⟨by simp [a1],by omega,a3,a5⟩
   ·obtain⟨lj,hlj,hml⟩:=List.mem_flatten.1 hm
    obtain⟨j,hj,rfl⟩:=List.getElem_of_mem hlj
    have hjk:j<x.kids.length:=by omega
    exact(h4 j _ _ (List.getElem?_eq_getElem hjk) (List.getElem?_eq_getElem hj)).2.2.node m hml y hy
theorem Full.node {t:Tr} {h:Nat} {l:List Int} (hf:Full t h l):∀x∈t.nodes,x.ents.length≤6∧x.keys.length≤3∧x.kids.length≤4∧x.buf.length≤8:=fun x hx=>by
 obtain⟨i,hi,rfl⟩:=List.getElem_of_mem hx
 have hm:=(nodup_all hf.nd hf.sub.lt').1 hf.len i hi
 exact hf.sub.node i hm _ (by unfold Tr.at?;simp [hi])
theorem sum_le {f:Int→Nat} {m:Nat}:∀{l:List Int},(∀y∈l,f y≤m)→(l.map f).sum≤m*l.length
 |[],_=>by simp
 |a::l,h=>by
  have:=sum_le (l:=l) fun y hy=>h y (by simp [hy])
  have:=h a (by simp)
  rw [List.map_cons,List.sum_cons,List.length_cons,Nat.mul_succ];omega
theorem Full.wt_le {t:Tr} {h:Nat} {l:List Int} (hf:Full t h l):wtT t≤8*t.nodes.length:=by
 rw [←hf.wt,←hf.len]
 refine sum_le fun y hy=>?_
 obtain⟨x,hx⟩:=hf.sub.mem.2 y hy
 have:=hf.sub.node y hy x hx
 rw [wtI_at hx]
 unfold wtN
 split <;> omega
def growT (t:Tr) (more key:Int):Tr:={ nodes:=t.nodes++[⟨false,[],[key],[t.root,more],[]⟩],root:=t.nodes.length }
theorem grow_le {h:Nat} (hh:h≤12):grow h≤500000000000:=by
 have:h=0∨h=1∨h=2∨h=3∨h=4∨h=5∨h=6∨h=7∨h=8∨h=9∨h=10∨h=11∨h=12:=by omega
 rcases this with rfl|rfl|rfl|rfl|rfl|rfl|rfl|rfl|rfl|rfl|rfl|rfl|rfl <;> decide
theorem prog_len {t t':Tr} {l l':List Int} {E:List Ent} {d:Nat} (P:Prog t t' l l' E d) (hn:l.Nodup) (hr:∀m∈l,0≤m∧m<(t.nodes.length:Int)) (hl:l.length=t.nodes.length) (hr':∀m∈l',0≤m∧m<(t'.nodes.length:Int)):l'.length=t'.nodes.length:=by
 refine(nodup_all P.nd hr').2 fun i hi=>?_
 rw [P.mem]
 by_cases h:i<t.nodes.length
 ·exact .inl ((nodup_all hn hr).1 hl i h)
 ·exact .inr (by omega)
theorem putT_law {t:Tr} {h:Nat} {l:List Int} {e:Ent} (hf:Full t h l) (hh:h≤12) (hn:t.nodes.length≤2000) (he:EntOk e) (hg:Goods t.all) (hs:Small (e::t.all)) :
  ∃t1 more key t2 h2 l2,putF 13 t t.root e=some (t1,more,key)∧t1.root=t.root∧t2=(if 0≤more then growT t1 more key else t1)∧Full t2 h2 l2∧Eqv t2.all (e::t.all)∧wtT t2≤wtT t+1:=by
 have hp:=hf.perm
 have hgl:Goods (l.flatMap t.of):=fun y hy=>hg y (hp.mem_iff.1 hy)
 have hsl:Small (e::l.flatMap t.of):=(small_perm (hp.cons e) (fun y hy=>by
  rcases List.mem_cons.1 hy with rfl|hy
  ·exact .inr he.good
  ·exact .inr (hgl y hy))).2 hs
 have gle:=grow_le hh
 obtain⟨t1,more,key,l',p1,p2,p3⟩:=put_law h 13 (by omega) t t.root 0 1099511627776 l e hf.sub hf.nd he he.2.2.1 he.2.2.2 (Int.le_refl _) (Int.le_refl _) hgl hsl (by omega)
 have hev:Eqv (l'.flatMap t1.of) (e::t.all):=p2.ev.trans (Eqv.perm (hp.cons e) p2.ev.2.1)
 have hwt:wt t1 l'≤wtT t+1:=by have:=p2.wt;rw [hf.wt]at this;simpa using this
 rcases p3 with ⟨rfl,g1⟩|⟨g0,l1,l2,rfl,g1,g2,g3⟩
 ·have hfull:Full t1 h l':=⟨by rw [p2.root];exact g1,p2.nd,prog_len p2 hf.nd hf.sub.lt' hf.len g1.lt'⟩
  refine⟨t1,-1,key,t1,h,l',p1,p2.root,by rw [if_neg (by omega)],hfull,?_,by rw [←hfull.wt];exact hwt⟩
  exact(Eqv.perm hfull.perm.symm (fun y hy=>hev.1 y (hfull.perm.mem_iff.2 hy))).trans hev
 ·have hr1:=g1.lt'
  have hr2:=g2.lt'
  have hr:∀m∈l1++l2,0≤m∧m<(t1.nodes.length:Int):=fun m hm=>(List.mem_append.1 hm).elim (hr1 m) (hr2 m)
  have hlen:=prog_len p2 hf.nd hf.sub.lt' hf.len hr
  have hat:∀m:Int,m<(t1.nodes.length:Int)→(growT t1 more key).at? m=t1.at? m:=fun m hm=>by
   unfold Tr.at? growT
   by_cases h0:0≤m
   ·rw [if_pos h0,if_pos h0]
    simp only
    rw [List.getElem?_append_left (by omega)]
   ·rw [if_neg h0,if_neg h0]
  have hnew:(growT t1 more key).at? (t1.nodes.length:Int)=some ⟨false,[],[key],[t1.root,more],[]⟩:=by
   unfold Tr.at? growT;simp
  have n1:∀m∈l1,(growT t1 more key).at? m=t1.at? m:=fun m hm=>hat m (hr1 m hm).2
  have n2:∀m∈l2,(growT t1 more key).at? m=t1.at? m:=fun m hm=>hat m (hr2 m hm).2
  have hroot:t1.root=t.root:=p2.root
  have s1:Sub (growT t1 more key) h t.root 0 key l1:=g1.frame2 n1 fun m hm hmr x hx hl=>by
   rw [hmr,hroot]at hx
   exact g3 x hx hl
  have hnotin:∀m∈l2,m≠t.root:=fun m hm e=>by
   have h1:=g1.mem.1
   rw [e]at hm
   exact(List.nodup_append.1 p2.nd).2.2 _ h1 _ hm rfl
  have s2:Sub (growT t1 more key) h more key 1099511627776 l2:=g2.frame2 n2 fun m hm hmr=>absurd (hmr.trans hroot) (hnotin m hm)
  have hfull:Full (growT t1 more key) (h+1) ((t1.nodes.length:Int)::(l1++l2)):=by
   refine⟨⟨_,hnew,by decide, .inr ⟨g1.pos,rfl,⟨rfl,by simp,by simp,by simp,by simp,⟨(fun _ h=>by cases h),(fun _ h=>by cases h),List.Pairwise.nil⟩⟩,[l1,l2],rfl,by simp [growT],fun j k lj hj hlj=>?_⟩⟩,?_,?_⟩
   ·rcases j with _|_|j
    ·simp only [List.getElem?_cons_zero,Option.some.injEq]at hj hlj
     subst hj hlj
     refine⟨Int.le_refl _,?_,?_⟩
     ·simp [up];have:=s2.lt;omega
     ·rw [hroot];simpa [fr,up] using s1
    ·simp only [List.getElem?_cons_succ,List.getElem?_cons_zero,Option.some.injEq]at hj hlj
     subst hj hlj
     refine⟨?_,?_,?_⟩
     ·simp [fr];have:=s1.lt;omega
     ·simp [up]
     ·simpa [fr,up] using s2
    ·simp at hj
   ·refine List.nodup_cons.2 ⟨fun hm=>?_,p2.nd⟩
    have:=(hr _ hm).2;omega
   ·rw [List.length_cons,hlen];simp [growT]
  refine⟨t1,more,key,_,h+1,_,p1,p2.root,by rw [if_pos g0],hfull,?_,?_⟩
  ·refine(Eqv.perm hfull.perm.symm ?_).trans ?_
   ·intro y hy
    have:=hfull.perm.mem_iff.2 hy
    rw [List.flatMap_cons,of_at hnew,of_same (t':=growT t1 more key) (t:=t1) (fun m hm=>hat m (hr m hm).2)]at this
    exact hev.1 y (by simpa using this)
   ·rw [List.flatMap_cons,of_at hnew,of_same (t':=growT t1 more key) (t:=t1) (fun m hm=>hat m (hr m hm).2)]
    simpa using hev
  ·rw [←hfull.wt,wt_cons,wtI_at hnew,wt_same (t':=growT t1 more key) (t:=t1) (fun m hm=>hat m (hr m hm).2)]
   unfold wtN;simp;exact hwt
noncomputable def putE (t:Tr) (key:Int) (r:Roll):Int:=
 if treeFault t≠0 then treeFault t else if key<0∨1099511627776≤key∨r.c=0 then 2 else if rollCheck r≠0 then rollCheck r else if (look t.all key).c+r.c≤1073741824 then 0 else 1
theorem putE_ok {t:Tr} {key:Int} {r:Roll} (h:putE t key r=0):treeFault t=0∧0≤key∧key<1099511627776∧r.c≠0∧rollCheck r=0∧(look t.all key).c+r.c≤1073741824:=by
 unfold putE at h
 split at h
 ·contradiction
 ·rename_i h1
  split at h
  ·omega
  ·rename_i h2
   split at h
   ·contradiction
   ·rename_i h3
    split at h
    ·rename_i h4
     exact⟨by simpa using h1,by omega,by omega,by omega,by simpa using h3,h4⟩
    ·omega
end Go.Proofs.YtnjfkcimboidnaaDoor

/- What tree.Of makes of entries: plain. No program in sight. -/
namespace Go.Proofs.YtnjfkcimboidnaaDoor
theorem small_rising {l:List Ent} (hr:Rising l) (hc:Checked l):Small l:=fun k=>by
 by_cases h:∃e∈l,e.key=k
 ·obtain⟨e,he,rfl⟩:=h
  rw [look_rising hr he]
  exact hc.le e he
 ·rw [look_none fun e he hk=>h ⟨e,he,hk⟩];decide
theorem filter_all {t:Tr} (hv:ValidT t):t.all.filter (inRange 0 1099511627776)=t.all:=List.filter_eq_self.2 fun e he=>by
 have:=valid_range hv e he
 simp [inRange,this.1,this.2]
theorem allT_of {t:Tr} {l:List Ent} (hf:treeFault t=0) (he:Eqv t.all l) (hr:Rising l) (hc:Checked l):allT t=some l:=by
 unfold allT allR
 have hv:=(treeFault_ok hf).2
 rw [if_pos hf,filter_all hv,bagC_eq (valid_checked hv),if_pos (he.small.2 (small_rising hr hc))]
 congr 1
 exact look_ext (bag_rising he.1) hr (bag_goods he.1) he.2.1 fun k=>by rw [look_bag he.1,he.2.2]
theorem of_allT {t:Tr} {l:List Ent} (h:allT t=some l):treeFault t=0∧Eqv t.all l∧Rising l∧Checked l∧Small t.all:=by
 have hg:=allT_good h
 unfold allT at h
 split at h
 ·rename_i hf
  have hv:=(treeFault_ok hf).2
  unfold allR at h
  rw [filter_all hv]at h
  obtain⟨rfl,hs,hc,-,hr⟩:=bagC_some (valid_checked hv) h
  exact⟨hf,⟨(valid_checked hv).goods,bag_goods (valid_checked hv).goods,fun k=>(look_bag (valid_checked hv).goods k).symm⟩,hr,hc,hs⟩
 ·cases h
theorem rising_snoc {l:List Ent} {e:Ent} (hl:Rising l) (h:∀y∈l,y.key<e.key):Rising (l++[e]):=List.pairwise_append.2 ⟨hl,List.pairwise_singleton _ _,fun a ha b hb=>by simp at hb;subst hb;exact h a ha⟩
noncomputable def entsE:Option Int→List Ent→Int
 |_,[]=>0
 |p,e::l=>if ∃k,p=some k∧e.key≤k then 8 else if e.key<0∨1099511627776≤e.key∨e.is.c=0 then 2 else if rollCheck e.is≠0 then rollCheck e.is else entsE (some e.key) l
def lastK (l:List Ent) (k:Nat):Option Int:=if k=0 then none else(l[k-1]?).map Ent.key
theorem entsE_at {l:List Ent} {k:Nat} (hk:k<l.length):entsE (lastK l k) (l.drop k)=if ∃p,lastK l k=some p∧l[k].key≤p then 8 else if l[k].key<0∨1099511627776≤l[k].key∨l[k].is.c=0 then 2 else if rollCheck l[k].is≠0 then rollCheck l[k].is else entsE (lastK l (k+1)) (l.drop (k+1)):=by
 rw [List.drop_eq_getElem_cons hk]
 have:lastK l (k+1)=some l[k].key:=by unfold lastK;simp [hk]
 rw [this]
 rfl
def Made (l:List Ent) (t:Tr):Prop:=treeFault t=0∧Eqv t.all l∧Rising l∧Checked l∧(∀e∈l,0≤e.key∧e.key<1099511627776)∧wtT t≤3+l.length
theorem Made.small {l:List Ent} {t:Tr} (h:Made l t):Small t.all:=h.2.1.small.2 (small_rising h.2.2.1 h.2.2.2.1)
theorem Made.knows {l:List Ent} {t:Tr} (h:Made l t):allT t=some l:=allT_of h.1 h.2.1 h.2.2.1 h.2.2.2.1
theorem lastK_lt {l:List Ent} {k:Nat} (hkl:k≤l.length) (hr:Rising (l.take k)) {e:Ent} (h:¬∃p,lastK l k=some p∧e.key≤p):∀y∈l.take k,y.key<e.key:=fun y hy=>by
 obtain⟨i,hi,rfl⟩:=List.getElem_of_mem hy
 rw [List.length_take]at hi
 rw [List.getElem_take]
 have hlt:k-1<l.length:=by omega
 have h1:l[k-1].key<e.key:=by
  refine Int.not_le.1 fun hle=>h ⟨l[k-1].key,?_,hle⟩
  unfold lastK
  rw [if_neg (by omega),List.getElem?_eq_getElem hlt];rfl
 by_cases hik:i=k-1
 ·subst hik;exact h1
 ·have:=List.pairwise_iff_getElem.1 hr i (k-1) (by rw [List.length_take];omega) (by rw [List.length_take];omega) (by omega)
  rw [List.getElem_take,List.getElem_take]at this
  omega
theorem Made.put {l:List Ent} {t:Tr} {k:Nat} (h:Made (l.take k) t) (hk:k<l.length) (ho:¬∃p,lastK l k=some p∧l[k].key≤p) (h2:¬(l[k].key<0∨1099511627776≤l[k].key∨l[k].is.c=0)) (h3:rollCheck l[k].is=0) :
  look t.all l[k].key=Roll.zero∧Small (l[k]::t.all)∧Rising (l.take (k+1))∧Checked (l.take (k+1))∧∀t2,Eqv t2.all (l[k]::t.all)→wtT t2≤wtT t+1→Eqv t2.all (l.take (k+1))∧wtT t2≤3+(l.take (k+1)).length∧∀e∈l.take (k+1),0≤e.key∧e.key<1099511627776:=by
 obtain⟨m1,m2,m3,m4,m5,m6⟩:=h
 have hgood:l[k].is.Good:=(good_check h3 (by omega)).1
 have hle:l[k].is.c≤1073741824:=(good_check h3 (by omega)).2
 have hlt:=lastK_lt (by omega) m3 ho
 have hz:look t.all l[k].key=Roll.zero:=by
  rw [m2.2.2,look_none fun y hy e=>by have:=hlt y hy;omega]
 have hsn:l.take (k+1)=l.take k++[l[k]]:=List.take_succ_eq_append_getElem hk
 have hr:Rising (l.take (k+1)):=by rw [hsn];exact rising_snoc m3 hlt
 have hc:Checked (l.take (k+1)):=fun e he=>by
  rw [hsn]at he
  rcases List.mem_append.1 he with he|he
  ·exact m4 e he
  ·simp at he;subst he;exact⟨by omega,h3⟩
 have hev:Eqv (l[k]::t.all) (l.take (k+1)):=by
  have e1:Eqv ([l[k]]++t.all) ([l[k]]++l.take k):=(Eqv.refl (fun e he=>by simp at he;subst he;exact hgood)).append m2
  refine e1.trans (Eqv.perm ?_ e1.2.1)
  rw [hsn];exact List.perm_append_comm
 refine⟨hz,hev.small.2 (small_rising hr hc),hr,hc,fun t2 h1 h2=>⟨h1.trans hev,?_,fun e he=>?_⟩⟩
 ·rw [List.length_take]at m6 ⊢
  omega
 ·rw [hsn]at he
  rcases List.mem_append.1 he with he|he
  ·exact m5 e he
  ·simp at he;subst he;omega
def startT:Tr:=⟨[⟨true,[],[],[],[]⟩],0⟩
theorem made_new:Made [] startT:=by
 have hfull:Full startT 1 [0]:=⟨⟨⟨true,[],[],[],[]⟩,rfl,by decide, .inl ⟨rfl,rfl,⟨rfl,rfl,rfl,by decide, .inr rfl,⟨(fun _ h=>by cases h),(fun _ h=>by cases h),List.Pairwise.nil⟩⟩,rfl⟩⟩,by simp,rfl⟩
 have hw:wtT startT=3:=rfl
 refine⟨hfull.fault (by omega),?_,List.Pairwise.nil,(fun _ h=>by cases h),(fun _ h=>by cases h),by rw [hw];exact Nat.le_refl _⟩
 exact Eqv.refl (a:=[]) (fun e h=>absurd h (by simp))
end Go.Proofs.YtnjfkcimboidnaaDoor
