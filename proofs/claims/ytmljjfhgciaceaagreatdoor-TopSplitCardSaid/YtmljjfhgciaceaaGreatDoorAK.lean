/- Texts of mine that come as one: AddP Add AddK. -/
import Derived.Test.YtmljjfhgciaceaaGreatDoorHd
import Derived.Test.YtmljjfhgciaceaaGreatDoorAQ
import Derived.Test.YtmljjfhgciaceaaGreatDoorPS
import Derived.Test.YtmljjfhgciaceaaGreatDoorPG
import Derived.Test.YtmljjfhgciaceaaGreatDoorBK
import Derived.Test.YtmljjfhgciaceaaGreatDoorPC
import Derived.Test.YtmljjfhgciaceaaGreatDoorKG
namespace Go.Proofs.YtmljjfhgciaceaaGreatDoor
section
variable {b:Ba} {s:ByteArray} {time value:Int} {l:List aA} {k:Nat}
theorem PG {f:aA->aA} (hf:∀e,(f e).is=e.is) (hk:∀a b:aA,a.key=b.key->(f a).key=(f b).key) {x:aA} (hl:aW l) (hx:x.is.Good):ir ((ins l x).map f) (f x::l.map f):=by
 have gm:∀{m:List aA},aW m->aW (m.map f):=fun {m} hm e he=>by
  obtain⟨y,hy,rfl⟩:=pn.1 he
  rw [hf];exact hm y hy
 have gx:aW (f x::l.map f):=fun e he=>by
  rcases eZ.1 he with rfl|he
  ·rw [hf];exact hx
  ·exact gm hl e he
 refine⟨gm (jQ hl hx),gx,fun k=>?_⟩
 induction l with
 |nil=>rfl
 |cons e l ih=>
  obtain⟨he,hl'⟩:=hl.cons
  have ih:=ih hl' (fun y hy=>by
   rcases eZ.1 hy with rfl|hy
   ·rw [hf];exact hx
   ·exact gm hl' y hy)
  have fl:=cX (gm hl').dD k
  unfold ins
  split
  ·rw [List.map_cons,List.map_cons]
   simp only [look]at ih ⊢
   rw [hf,hf]at *
   rw [ih]
   by_cases h1:(f e).key=k <;> by_cases h2:(f x).key=k
   ·simp only [h1,h2,if_true]
    rw [<-join_assoc (.inr he) (.inr hx) fl,join_comm (.inr he) (.inr hx),join_assoc (.inr hx) (.inr he) fl]
   all_goals simp only [h1,h2,if_true,if_false]
  ·split
   ·rename_i heq
    rw [List.map_cons,List.map_cons]
    have e1:(f ⟨x.key,e.is.join x.is⟩).key=(f x).key:=hk _ _ rfl
    have e2:(f e).key=(f x).key:=hk _ _ heq
    simp only [look]
    rw [e1,e2,hf,hf,hf]
    by_cases h:(f x).key=k
    ·simp only [h,if_true]
     rw [join_comm (.inr he) (.inr hx),join_assoc (.inr hx) (.inr he) fl]
    ·simp only [h,if_false]
   ·rfl
theorem IY (h:aW l):ir (mo l) l:=⟨eK h,h,fun k=>fu h k⟩
theorem qc (h:aR b=true):∃l,bX b=some l/\aX l/\dY l/\∀k,k<3->ax (b.tree k)=0/\ir (b.tree k).all (l.map (bucket (aS k)))/\Small (b.tree k).all:=by
 obtain⟨l,hl,hr,hg,hk⟩:=iW h
 refine⟨l,hl,hr,hg,fun k hk3=>?_⟩
 obtain⟨m,h1,h2⟩:=hk k hk3
 obtain⟨g1,g2,g3,g4,g5⟩:=Pv h2
 refine⟨g1,g2.trans ?_,g5⟩
 obtain⟨rfl,-⟩:=fT (fM (aS k) hg.1) h1
 exact IY (fM (aS k) hg.1).bP
theorem Bw (s:Int) (e:aA):(bucket s e).is=e.is:=rfl
theorem Hn (s:Int) (a b:aA) (h:a.key=b.key):(bucket s a).key=(bucket s b).key:=by unfold bucket;simp only;rw [h]
theorem qa (e:aA):bucket 1 e=e:=by
 unfold bucket
 cases e
 simp [Int.emod_one]
theorem gM (l:List aA):l.map (bucket 1)=l:=by
 rw [List.map_congr_left (g:=id) fun e _=>qa e,List.map_id]
theorem Mf {t:Tr} {s:Int} (hf:ax t=0) (hc:Checked l) (he:ir t.all (l.map (bucket s))) (hs:Small t.all):∃m,bV l s=some m/\allT t=some m:=by
 have hc':=fM s hc
 have hs':Small (l.map (bucket s)):=he.small.1 hs
 refine⟨mo (l.map (bucket s)),by unfold bV;rw [jD hc',ar hs'],?_⟩
 have hg:=hc'.bP
 exact yt hf (he.trans (IY hg).symm) (di hg) (xy hg hs')
def j6 (b:Ba) (s:ByteArray):Int:=if aG b.names s<0 then b.names.length else aG b.names s
def bA (b:Ba) (s:ByteArray):List ByteArray:=if aG b.names s<0 then b.names++[s]else b.names
def cu (b:Ba) (s:ByteArray) (time:Int) (r:av):aA:=⟨j6 b s*1048576+time,r⟩
noncomputable def jv (b:Ba) (s:ByteArray) (time value:Int):Int:=
 if aR b=false then 7 else if dG s=false then 4 else if (eH time value).2≠0 then(eH time value).2 else if time<b.floor then 8 else if aG b.names s<0/\16<=b.names.length then 1 else 0
noncomputable def jN (b:Ba) (s:ByteArray) (time value:Int):Int:=
 if jv b s time value≠0 then jv b s time value else match bX b with
  |none=>0
  |some l=>match jJ l (cu b s time (eH time value).1) with
   |none=>1
   |some l'=>if bV l' 60=none\/bV l' 3600=none then 1 else 0
noncomputable def EW (b:Ba) (s:ByteArray) (time value:Int):List aA:=
 match bX b with|none=>[]|some l=>ins l (cu b s time (eH time value).1)
theorem mS (h:jv b s time value=0):aR b=true/\dG s=true/\eH time value=(⟨1,value,value,value,time,value⟩,0)/\0<=time/\time<=1048575/\-1000000<=value/\value<=1000000/\b.floor<=time/\0<=j6 b s/\j6 b s<=15/\(aG b.names s<0->b.names.length<16):=by
 unfold jv at h
 split at h
 ·omega
 rename_i h1
 split at h
 ·omega
 rename_i h2
 split at h
 ·contradiction
 rename_i h3
 split at h
 ·omega
 rename_i h4
 split at h
 ·omega
 rename_i h5
 have hm:aR b=true:=by simpa using h1
 have hn:=(dK hm).n16
 have hr:0<=time/\time<=1048575/\-1000000<=value/\value<=1000000:=by
  unfold eH at h3
  split at h3
  ·assumption
  ·exact absurd (show (2:Int)≠0 by decide) h3
 refine⟨hm,by simpa using h2,by unfold eH;rw [ar hr],hr.1,hr.2.1,hr.2.2.1,hr.2.2.2,af,?_,?_,fun h=>af⟩
 ·unfold j6;split <;> omega
 ·unfold j6
  rcases eY b.names s with ⟨k,hk,e,-⟩|⟨e,-⟩
  ·rw [e];split <;> omega
  ·rw [e];split <;> omega
theorem nP (h0:0<=time) (h1:time<=1048575) (h2 : -1000000<=value) (h3:value<=1000000):aj ⟨1,value,value,value,time,value⟩=0:=by
 refine YO ⟨?_,?_,?_,?_,?_,?_,?_,?_,?_,?_,?_,?_⟩ bt ⟨?_,?_,?_,?_⟩ <;> simp only <;> omega
theorem Qr {i:Int} (k:Nat) (r:av) (h0:0<=time) (h1:time<=1048575):(bucket (aS k) ⟨i*1048576+time,r⟩).key=i*1048576+time/aS k*aS k:=by
 have hm:(i*1048576+time)%1048576=time:=af
 unfold bucket
 simp only
 rw [hm]
 have:=Int.emod_add_mul_ediv time (aS k)
 rw [Int.mul_comm (time/aS k)]
 omega
theorem km (h:jv b s time value=0) (hl:bX b=some l) (hk:k<3) :
  (ji (b.tree k) (j6 b s*1048576+time/aS k*aS k) ⟨1,value,value,value,time,value⟩=0/\Small ((⟨j6 b s*1048576+time/aS k*aS k,⟨1,value,value,value,time,value⟩⟩:aA)::(b.tree k).all) \/
  ji (b.tree k) (j6 b s*1048576+time/aS k*aS k) ⟨1,value,value,value,time,value⟩=1/\¬Small ((⟨j6 b s*1048576+time/aS k*aS k,⟨1,value,value,value,time,value⟩⟩:aA)::(b.tree k).all)) /\
  ir ((⟨j6 b s*1048576+time/aS k*aS k,⟨1,value,value,value,time,value⟩⟩:aA)::(b.tree k).all) ((ins l (cu b s time ⟨1,value,value,value,time,value⟩)).map (bucket (aS k))):=by
 obtain⟨hm,-,-,h0,h1,h2,h3,-,hi0,hi1,-⟩:=mS h
 obtain⟨l',hl',-,hg,ht⟩:=qc hm
 obtain rfl:l'=l:=dt (hl'.symm.trans hl)
 obtain⟨t1,t2,t3⟩:=ht k hk
 obtain⟨r,hr⟩:∃r:av,r=⟨1,value,value,value,time,value⟩:=⟨_,rfl⟩
 have hrc:aj r=0:=by rw [hr];exact nP h0 h1 h2 h3
 have Oy:r.c=1:=by rw [hr]
 rw [<-hr]
 have hrg:r.Good:=(cp hrc af).1
 have hsz:=iu k
 have hkey:=Qr (i:=j6 b s) k r h0 h1
 obtain⟨K,hK⟩:=bC (j6 b s*1048576+time/aS k*aS k)
 rw [hK]at hkey ⊢
 have hkr:0<=K/\K<1099511627776:=by
  have:=pZ hsz (e:=⟨j6 b s*1048576+time,r⟩) ⟨by simp only;omega,by simp only;omega⟩
  rw [hkey]at this;exact this
 have hev:ir ((⟨K,r⟩:aA)::(b.tree k).all) ((ins l' (cu b s time r)).map (bucket (aS k))):=by
  have e1:=PG (Bw (aS k)) (Hn (aS k)) (x:=cu b s time r) hg.1.bP hrg
  have e2:bucket (aS k) (cu b s time r)=⟨K,r⟩:=by
   have:(bucket (aS k) (cu b s time r)).key=K:=hkey
   cases hb:bucket (aS k) (cu b s time r) with
   |mk a c=>rw [hb]at this;simp only at this;subst this;congr 1;have:=Bw (aS k) (cu b s time r);rw [hb]at this;exact this
  rw [e2]at e1
  have e3:ir ([(⟨K,r⟩:aA)]++(b.tree k).all) ([(⟨K,r⟩:aA)]++l'.map (bucket (aS k))):=(ir.refl (fun e he=>by simp at he;subst he;exact hrg)).append t2
  exact e3.trans e1.symm
 have hsmall:Small ((⟨K,r⟩:aA)::(b.tree k).all)↔(look (b.tree k).all K).c+r.c<=1073741824:=by
  constructor
  ·intro hs
   have:=hs K
   simp only [look,ar trivial,dJ]at this
   omega
  ·intro hs q
   simp only [look]
   by_cases hq:K=q
   ·subst hq;rw [ar rfl,dJ];omega
   ·rw [ai hq];exact t3 q
 refine⟨?_,hev⟩
 unfold ji
 rw [ai (by simp [t1]),ai af,ai (by simp [hrc])]
 by_cases hc:(look (b.tree k).all K).c+r.c<=1073741824
 ·rw [ar hc]
  exact .inl ⟨rfl,hsmall.2 hc⟩
 ·rw [ai hc]
  exact .inr ⟨rfl,fun hs=>hc (hsmall.1 hs)⟩
def dX (b:Ba) (s:ByteArray) (time value:Int) (k:Nat):aA:=⟨j6 b s*1048576+time/aS k*aS k,⟨1,value,value,value,time,value⟩⟩
theorem Qs (h:jv b s time value=0) (hl:bX b=some l) (hs:Small (dX b s time value 0::(b.tree 0).all)) :
  jJ l (cu b s time ⟨1,value,value,value,time,value⟩)=some (ins l (cu b s time ⟨1,value,value,value,time,value⟩))/\Checked (ins l (cu b s time ⟨1,value,value,value,time,value⟩)):=by
 obtain⟨hm,-,-,h0,h1,h2,h3,-,hi0,hi1,-⟩:=mS h
 have hev:=(km h hl (k:=0) aY).2
 have hs2:=hev.small.1 hs
 rw [show aS 0=1 from rfl,gM]at hs2
 obtain⟨hr,hg⟩:=gw hl
 have hrc:=nP h0 h1 h2 h3
 have hrg:(⟨1,value,value,value,time,value⟩:av).Good:=(cp hrc bt).1
 have hc:(look l (cu b s time ⟨1,value,value,value,time,value⟩).key).c+(cu b s time ⟨1,value,value,value,time,value⟩).is.c<=1073741824:=by
  have:=hs2 (cu b s time ⟨1,value,value,value,time,value⟩).key
  rw [oX hg.1.bP.dD (.inr hrg),ar rfl,dJ]at this
  exact this
 refine⟨?_,rh hr hg.1 hrg hc⟩
 rw [xZ hr (by show (1:Int)<=_;omega),ar hc]
theorem NK (h:jv b s time value=0) (hl:bX b=some l) (hk:k<3) (hs:¬Small (dX b s time value k::(b.tree k).all)):jN b s time value=1:=by
 obtain⟨hm,-,hro,h0,h1,h2,h3,-,hi0,hi1,-⟩:=mS h
 unfold jN
 rw [ai (by simp [h]),hl]
 simp only
 rw [hro]
 simp only
 cases hi:jJ l (cu b s time ⟨1,value,value,value,time,value⟩) with
 |none=>rfl
 |some l'=>
  simp only
  obtain⟨hr,hg⟩:=gw hl
  have hrc:=nP h0 h1 h2 h3
  have hrg:(⟨1,value,value,value,time,value⟩:av).Good:=(cp hrc bt).1
  have Vj:=xZ hr (x:=cu b s time ⟨1,value,value,value,time,value⟩) (by show (1:Int)<=_;omega)
  rw [hi]at Vj
  split at Vj
  ·rename_i hc
   obtain rfl:=dt Vj
   have IQ:=rh hr hg.1 hrg hc
   have hev:=(km h hl hk).2
   have hns:bV (ins l (cu b s time ⟨1,value,value,value,time,value⟩)) (aS k)=none:=by
    unfold bV
    rw [jD (fM _ IQ),ai fun hh=>hs (hev.small.2 hh)]
   have:k=0\/k=1\/k=2:=af
   rcases this with rfl|rfl|rfl
   ·rw [show aS 0=1 from rfl]at hns
    unfold bV at hns
    rw [gM,jD IQ]at hns
    split at hns
    ·cases hns
    ·rename_i hh
     exact absurd (mK (jI hr) IQ) hh
   ·rw [ar (.inl hns)]
   ·rw [ar (.inr hns)]
  ·cases Vj
theorem wM (h:jv b s time value=0) (hl:bX b=some l) (hs:∀k,k<3->Small (dX b s time value k::(b.tree k).all)) :
  jN b s time value=0/\EW b s time value=ins l (cu b s time ⟨1,value,value,value,time,value⟩)/\Checked (ins l (cu b s time ⟨1,value,value,value,time,value⟩)):=by
 obtain⟨hm,-,hro,h0,h1,h2,h3,-,hi0,hi1,-⟩:=mS h
 obtain⟨hi,IQ⟩:=Qs h hl (hs 0 aY)
 have hr:∀k,k<3->bV (ins l (cu b s time ⟨1,value,value,value,time,value⟩)) (aS k)≠none:=fun k hk=>by
  have hev:=(km h hl hk).2
  unfold bV
  rw [jD (fM _ IQ),ar (hev.small.1 (hs k hk))]
  simp
 refine⟨?_,by unfold EW;rw [hl,hro],IQ⟩
 unfold jN
 rw [ai (by simp [h]),hl]
 simp only
 rw [hro]
 simp only
 rw [hi]
 simp only
 rw [ai]
 rintro(hh|hh)
 ·exact hr 1 aY hh
 ·exact hr 2 aY hh
theorem Ul {T:Nat->Tr} (h:jv b s time value=0) (hl:bX b=some l) (hs:∀k,k<3->Small (dX b s time value k::(b.tree k).all))
  (hT:∀k,k<3->ax (T k)=0/\ir (T k).all (dX b s time value k::(b.tree k).all)) :
  aR ⟨bA b s,T 0,T 1,T 2,b.floor⟩=true/\bX ⟨bA b s,T 0,T 1,T 2,b.floor⟩=some (EW b s time value):=by
 obtain⟨hm,hn,hro,h0,h1,h2,h3,hfl,hi0,hi1,hnl⟩:=mS h
 obtain⟨-,hL,IQ⟩:=wM h hl hs
 obtain⟨hr,hg⟩:=gw hl
 have hB:=dK hm
 obtain⟨P5,hl2⟩:=lC hl
 have hev:∀k,k<3->ir (T k).all ((ins l (cu b s time ⟨1,value,value,value,time,value⟩)).map (bucket (aS k))):=fun k hk=>(hT k hk).2.trans (km h hl hk).2
 have hsm:∀k,k<3->Small (T k).all:=fun k hk=>(hT k hk).2.small.2 (hs k hk)
 have hkn:∀k,k<3->∃m,bV (ins l (cu b s time ⟨1,value,value,value,time,value⟩)) (aS k)=some m/\allT (T k)=some m:=fun k hk=>Mf (hT k hk).1 IQ (hev k hk) (hsm k hk)
 have ha0:allT (T 0)=some (EW b s time value):=by
  have e:=hev 0 aY
  rw [show aS 0=1 from rfl,gM]at e
  rw [hL]
  exact yt (hT 0 aY).1 e (jI hr) IQ
 have hlen:b.names.length<=(bA b s).length/\(j6 b s).toNat<(bA b s).length/\(bA b s).length<=16:=by
  have:=hB.n16
  unfold bA j6
  rcases eY b.names s with ⟨k,hk,e,-⟩|⟨e,-⟩
  ·rw [e,ai af,ai af];omega
  ·rw [e,ar af,ar af]
   have:=hnl (by rw [e];decide)
   simp;omega
 have uM:bX ⟨bA b s,T 0,T 1,T 2,b.floor⟩=some (EW b s time value):=by
  refine uZ ha0 (py.2 fun e he=>?_)
  rw [hL]at he
  have hold:∀y∈l,jm b y=true:=py.1 hl2
  unfold jm
  simp only [Bool.and_eq_true,wI]
  have PY:(j6 b s*1048576+time)%1048576=time:=af
  have hdiv:(j6 b s*1048576+time)/1048576=j6 b s:=af
  have QZ:(cu b s time ⟨1,value,value,value,time,value⟩).key/1048576<((bA b s).length:Int)/\b.floor<=(cu b s time ⟨1,value,value,value,time,value⟩).key%1048576:=by
   unfold cu
   simp only
   rw [PY,hdiv]
   omega
  have Mw:∀y∈l,y.key/1048576<((bA b s).length:Int)/\b.floor<=y.key%1048576/\y.is.t=y.key%1048576:=fun y hy=>by
   have:=hold y hy
   unfold jm at this
   simp only [Bool.and_eq_true,wI]at this
   exact⟨af,this.1.2,this.2⟩
  have hin:∀(l:List aA),(∀y∈l,y.is.t=y.key%1048576)->∀e∈ins l (cu b s time ⟨1,value,value,value,time,value⟩),e.is.t=e.key%1048576:=by
   intro l
   induction l with
   |nil=>
    intro _ e he
    simp [ins]at he;subst he
    unfold cu;simp only;rw [PY]
   |cons y l ih=>
    intro hy e he
    unfold ins at he
    split at he
    ·rcases eZ.1 he with rfl|he
     ·exact hy _ bt
     ·exact ih (fun z hz=>hy z (by simp [hz])) e he
    ·split at he
     ·rename_i heq
      rcases eZ.1 he with rfl|he
      ·have ht:=hy y bt
       rw [heq]at ht
       have hk:(cu b s time ⟨1,value,value,value,time,value⟩).key%1048576=time:=by unfold cu;simp only;exact PY
       show (y.is.join _).t=_
       rw [hk]at ht ⊢
       unfold av.join cu
       simp only
       rw [ai aY]
       split
       ·rfl
       ·simp only
        split
        ·rfl
        ·exact ht
      ·exact hy e (by simp [he])
     ·rcases eZ.1 he with rfl|he
      ·unfold cu;simp only;rw [PY]
      ·exact hy e he
  refine⟨⟨?_,?_⟩,hin l (fun y hy=>(Mw y hy).2.2) e he⟩
  ·rcases qZ he with hk|⟨y,hy,hk⟩
   ·rw [hk];exact QZ.1
   ·rw [<-hk];exact(Mw y hy).1
  ·rcases qZ he with hk|⟨y,hy,hk⟩
   ·rw [hk];exact QZ.2
   ·rw [<-hk];exact(Mw y hy).2.1
 refine⟨jV ⟨hlen.2.2,hB.Zh,hB.XR,hB.fl2,?_,_,uM,fun k hk=>?_⟩,uM⟩
 ·intro i hi
  have hi:i<(bA b s).length:=hi
  show dG (bA b s)[i]=true/\∀k (hk:k<i),(bA b s)[k]≠(bA b s)[i]
  by_cases hp:aG b.names s<0
  ·have hns:bA b s=b.names++[s]:=ar hp
   have hno:∀j (hj:j<b.names.length),b.names[j]≠s:=by
    rcases eY b.names s with ⟨k,hk,e,-⟩|⟨-,h⟩
    ·omega
    ·exact h
   simp only [hns]at hi ⊢
   rw [eO,List.length_singleton]at hi
   by_cases hlt:i<b.names.length
   ·have:=hB.names i hlt
    rw [List.getElem_append_left hlt]
    refine⟨this.1,fun k hk=>?_⟩
    rw [List.getElem_append_left af]
    exact this.2 k hk
   ·have Vj:i=b.names.length:=af
    subst Vj
    rw [List.getElem_append_right aI]
    simp only [Nat.sub_self,List.getElem_singleton]
    refine⟨hn,fun k hk=>?_⟩
    rw [List.getElem_append_left hk]
    exact hno k hk
  ·have hns:bA b s=b.names:=ai hp
   simp only [hns]at hi ⊢
   exact hB.names i hi
 ·have hk3:k=0\/k=1\/k=2:=af
  obtain⟨m,g1,g2⟩:=hkn k hk
  unfold fL
  rw [hL,g1]
  rcases hk3 with rfl|rfl|rfl
  ·show (match some m,allT (T 0) with|some a,some c=>decide (a=c)|_,_=>false)=true
   rw [g2];simp
  ·show (match some m,allT (T 1) with|some a,some c=>decide (a=c)|_,_=>false)=true
   rw [g2];simp
  ·show (match some m,allT (T 2) with|some a,some c=>decide (a=c)|_,_=>false)=true
   rw [g2];simp
end
open Go.RowKit
section
set_option maxRecDepth 100000
set_option maxHeartbeats 4000000
variable {s:ByteArray} {time value:Int} {w w1:World}
structure kN (w:World) (cs:Array Value) (s:ByteArray) (time value:Int) (w':World):Prop where
 below:ah w w'
 size:w.heap.size+3<=w'.heap.size
 box:w'.heap[w.heap.size]?=some (.cells cs 30)
 pt:w'.heap[w.heap.size+1]?=some (.cells #[.string s, .int .i64 time, .int .i64 value] 70)
 res:w'.heap[w.heap.size+2]?=some (.cells cN 30)
theorem kN.start {W0:World} {cs:Array Value} (hW0:W0=((w.alloc (.cells cs 30)).alloc (.cells #[.string s, .int .i64 time, .int .i64 value] 70)).alloc (.cells cN 30)):kN w cs s time value W0:=by
 refine⟨by rw [hW0];exact ag,by rw [hW0];simp,?_,?_,?_⟩
 ·rw [hW0,lI _ _ _ (by simp;omega),lI _ _ _ bt];exact aq _ _ rfl
 ·rw [hW0,lI _ _ _ bt];exact aq _ _ bt
 ·rw [hW0];exact aq _ _ bt
theorem kN.later {cs:Array Value} {w2:World} {B:Nat} (h:kN w cs s time value w1) (hb:Below B w1 w2) (hB:w.heap.size+3<=B):kN w cs s time value w2:=
 ⟨⟨hb.os.trans h.below.os,hb.tape.trans h.below.tape,hb.output.trans h.below.output,im h.below.size hb.size,fun k hk=>(hb.block k af).trans (h.below.block k hk)⟩,by have:=hb.size;have:=h.size;omega,
  (hb.block _ af).trans h.box,(hb.block _ af).trans h.pt,(hb.block _ af).trans h.res⟩
theorem kN.lN {cs:Array Value} (h:kN w cs s time value w1):w1.cell? ⟨w.heap.size+1,0,none⟩=some (.string s)/\w1.cell? ⟨w.heap.size+1,1,none⟩=some (.int .i64 time)/\w1.cell? ⟨w.heap.size+1,2,none⟩=some (.int .i64 value):=by simp [World.cell?,h.pt]
theorem kN.zs {cs:Array Value} (h:kN w cs s time value w1):w1.cell? ⟨w.heap.size+2,0,none⟩=some (.slice none 0 0)/\w1.cell? ⟨w.heap.size+2,1,none⟩=some (.slice none 0 0)/\w1.cell? ⟨w.heap.size+2,2,none⟩=some (.int .i64 0)/\w1.cell? ⟨w.heap.size+2,3,none⟩=some (.slice none 0 0)/\w1.cell? ⟨w.heap.size+2,4,none⟩=some (.int .i64 0)/\w1.cell? ⟨w.heap.size+2,5,none⟩=some (.slice none 0 0)/\w1.cell? ⟨w.heap.size+2,6,none⟩=some (.int .i64 0)/\w1.cell? ⟨w.heap.size+2,7,none⟩=some (.int .i64 0)/\∀o,w1.frozen? ⟨w.heap.size+2,o,none⟩=false:=by simp [World.cell?,World.frozen?,h.res]
theorem kN.bs {v0 v1 v2 v3 v4 v5 v6 v7:Value} (h:kN w #[v0,v1,v2,v3,v4,v5,v6,v7] s time value w1):w1.cell? ⟨w.heap.size,0,none⟩=some v0/\w1.cell? ⟨w.heap.size,1,none⟩=some v1/\w1.cell? ⟨w.heap.size,2,none⟩=some v2/\w1.cell? ⟨w.heap.size,3,none⟩=some v3/\w1.cell? ⟨w.heap.size,4,none⟩=some v4/\w1.cell? ⟨w.heap.size,5,none⟩=some v5/\w1.cell? ⟨w.heap.size,6,none⟩=some v6/\w1.cell? ⟨w.heap.size,7,none⟩=some v7/\∀o,w1.frozen? ⟨w.heap.size,o,none⟩=false:=by simp [World.cell?,World.frozen?,h.box]
theorem yu {sa:Option Addr} {sc:Nat} {g0:Option Addr} {l0 p0:Nat} {g1:Option Addr} {l1 p1:Nat} {g2:Option Addr} {l2 p2:Nat} {b:Ba} (h:bQ w (.agg (aJ sa b.names.length sc g0 l0 p0 g1 l1 p1 g2 l2 p2 b)) b)
  (hst:∀s∈b.names,s.size<=140737488351232) (xj:s.size<=140737488351232) (hsz:bS w) {E:Int} (hE:(aR b=false/\E=7)\/(aR b=true/\dG s=false/\E=4)\/(aR b=true/\dG s=true/\¬(0<=time/\time<=1048575/\-1000000<=value/\value<=1000000)/\E=2)\/(aR b=true/\dG s=true/\(0<=time/\time<=1048575/\-1000000<=value/\value<=1000000)/\time<b.floor/\E=8)) :
  Calls Tryz.prog 35 #[.agg (aJ sa b.names.length sc g0 l0 p0 g1 l1 p1 g2 l2 p2 b), .agg #[.string s, .int .i64 time, .int .i64 value]] w fun x w'=>ah w w'/\x = .returned (.tuple #[dH, .int .i64 E]):=by
 obtain⟨W0,hW0⟩:=bR (((w.alloc (.cells (aJ sa b.names.length sc g0 l0 p0 g1 l1 p1 g2 l2 p2 b) 30)).alloc (.cells #[.string s, .int .i64 time, .int .i64 value] 70)).alloc (.cells cN 30))
 have h0:=kN.start hW0
 have tZ:=hdd h0
 have z0:=h0.size
 have iC:=hdd (fH (h.below h0.below) hst (hsz.below h0.below))
 have xE:=hdd fun w'=>ux s w' xj
 have nW:=hdd fun w'=>FX time value w'
 have HE:=hdd hE;clear hE
 obtain⟨y0,y1,y2,y3,y4,y5,y6,y7,yf⟩:=h0.bs
 clear h hst xj hsz h0
 go_enter Tryz.func35,Tryz.ntmps35
 go_upto_region 1 with (fail)
 rw [<-hW0]
 clear hW0
 rcases HE.out with ⟨hm,rfl⟩|⟨hm,hn,rfl⟩|⟨hm,hn,hr,rfl⟩|⟨hm,hn,hr,hf,rfl⟩ <;> clear HE
 ·rw [cS hm]at iC
  clear hm
  go_wp2_with (first|(go_at_call 66;(with_reducible refine iC.out.mono ?_);rintro e w1 ⟨rfl,hb1⟩;have gD:=hdd (tZ.out.later hb1 z0);have z1:=gD.out.size;clear y0 y1 y2 y3 y4 y5 y6 y7 yf;obtain⟨y0,y1,y2,y3,y4,y5,y6,y7,yf⟩:=gD.out.bs;obtain⟨q0,q1,q2⟩:=gD.out.lN;obtain⟨r0,r1,r2,r3,r4,r5,r6,r7,rf⟩:=gD.out.zs;clear hb1))
  have dh:=gD.out.below
  exact bodyPost_ret (v:= .tuple #[dH, .int .i64 7]) (by simp [results,Tryz.results35,go_sem, *]) rfl ⟨ag,rfl⟩
 ·rw [dW hm]at iC
  rw [hn]at xE
  clear hm hn
  go_wp2_with (first|(go_at_call 66;(with_reducible refine iC.out.mono ?_);rintro e w1 ⟨rfl,hb1⟩;have gD:=hdd (tZ.out.later hb1 z0);have z1:=gD.out.size;clear y0 y1 y2 y3 y4 y5 y6 y7 yf;obtain⟨y0,y1,y2,y3,y4,y5,y6,y7,yf⟩:=gD.out.bs;obtain⟨q0,q1,q2⟩:=gD.out.lN;obtain⟨r0,r1,r2,r3,r4,r5,r6,r7,rf⟩:=gD.out.zs;clear hb1)|(go_at_call 67;(with_reducible refine(xE.out w1).mono ?_);rintro e w2 ⟨rfl,hb2⟩;have nG:=hdd (gD.out.later hb2 z1);have z2:=nG.out.size;clear y0 y1 y2 y3 y4 y5 y6 y7 yf q0 q1 q2 r0 r1 r2 r3 r4 r5 r6 r7 rf;obtain⟨y0,y1,y2,y3,y4,y5,y6,y7,yf⟩:=nG.out.bs;obtain⟨q0,q1,q2⟩:=nG.out.lN;obtain⟨r0,r1,r2,r3,r4,r5,r6,r7,rf⟩:=nG.out.zs;clear hb2))
  have dh:=nG.out.below
  exact bodyPost_ret (v:= .tuple #[dH, .int .i64 4]) (by simp [results,Tryz.results35,go_sem, *]) rfl ⟨ag,rfl⟩
 ·rw [dW hm]at iC
  rw [hn]at xE
  rw [show eH time value=(av.zero,2)from ai hr]at nW
  clear hm hn hr
  go_upto_region 7 with (first|(go_at_call 66;(with_reducible refine iC.out.mono ?_);rintro e w1 ⟨rfl,hb1⟩;have gD:=hdd (tZ.out.later hb1 z0);have z1:=gD.out.size;clear y0 y1 y2 y3 y4 y5 y6 y7 yf;obtain⟨y0,y1,y2,y3,y4,y5,y6,y7,yf⟩:=gD.out.bs;obtain⟨q0,q1,q2⟩:=gD.out.lN;obtain⟨r0,r1,r2,r3,r4,r5,r6,r7,rf⟩:=gD.out.zs;clear hb1)|(go_at_call 67;(with_reducible refine(xE.out w1).mono ?_);rintro e w2 ⟨rfl,hb2⟩;have nG:=hdd (gD.out.later hb2 z1);have z2:=nG.out.size;clear y0 y1 y2 y3 y4 y5 y6 y7 yf q0 q1 q2 r0 r1 r2 r3 r4 r5 r6 r7 rf;obtain⟨y0,y1,y2,y3,y4,y5,y6,y7,yf⟩:=nG.out.bs;obtain⟨q0,q1,q2⟩:=nG.out.lN;obtain⟨r0,r1,r2,r3,r4,r5,r6,r7,rf⟩:=nG.out.zs;clear hb2)|(go_at_call 68;(with_reducible refine(nW.out w2).mono ?_);rintro e w3 ⟨rfl,hb3⟩))
  obtain⟨W3,hW3⟩:=bR (w3.alloc (.cells #[.int .i64 av.zero.c, .int .i64 av.zero.s, .int .i64 av.zero.mi, .int .i64 av.zero.ma, .int .i64 av.zero.t, .int .i64 av.zero.l] 39))
  have xF:=hdd (show ah w2 W3 from by rw [hW3];exact Below.trans' hb3 ((aL _ _).alloc aI _) hb3.size)
  have vF:=hdd (nG.out.later xF.out z2)
  have UW:W3.heap.size=w3.heap.size+1:=by rw [hW3];simp
  have z3:w.heap.size+3<=w3.heap.size:=by have:=hb3.size;omega
  have E5:=hdd (show W3.heap[w3.heap.size]?=some (.cells #[.int .i64 av.zero.c, .int .i64 av.zero.s, .int .i64 av.zero.mi, .int .i64 av.zero.ma, .int .i64 av.zero.t, .int .i64 av.zero.l] 39) by rw [hW3];exact aq _ _ rfl)
  rw [<-hW3]
  clear hW3 hb3 y0 y1 y2 y3 y4 y5 y6 y7 yf q0 q1 q2 r0 r1 r2 r3 r4 r5 r6 r7 rf
  obtain⟨y0,y1,y2,y3,y4,y5,y6,y7,yf⟩:=vF.out.bs
  obtain⟨q0,q1,q2⟩:=vF.out.lN
  obtain⟨r0,r1,r2,r3,r4,r5,r6,r7,rf⟩:=vF.out.zs
  go_wp2_with fail
  have dh:=vF.out.below
  exact bodyPost_ret (v:= .tuple #[dH, .int .i64 2]) (by simp [results,Tryz.results35,go_sem, *]) rfl ⟨ag,rfl⟩
 ·rw [dW hm]at iC
  rw [hn]at xE
  rw [show eH time value=(⟨1,value,value,value,time,value⟩,0)from ar hr]at nW
  clear hm hn hr
  go_upto_region 7 with (first|(go_at_call 66;(with_reducible refine iC.out.mono ?_);rintro e w1 ⟨rfl,hb1⟩;have gD:=hdd (tZ.out.later hb1 z0);have z1:=gD.out.size;clear y0 y1 y2 y3 y4 y5 y6 y7 yf;obtain⟨y0,y1,y2,y3,y4,y5,y6,y7,yf⟩:=gD.out.bs;obtain⟨q0,q1,q2⟩:=gD.out.lN;obtain⟨r0,r1,r2,r3,r4,r5,r6,r7,rf⟩:=gD.out.zs;clear hb1)|(go_at_call 67;(with_reducible refine(xE.out w1).mono ?_);rintro e w2 ⟨rfl,hb2⟩;have nG:=hdd (gD.out.later hb2 z1);have z2:=nG.out.size;clear y0 y1 y2 y3 y4 y5 y6 y7 yf q0 q1 q2 r0 r1 r2 r3 r4 r5 r6 r7 rf;obtain⟨y0,y1,y2,y3,y4,y5,y6,y7,yf⟩:=nG.out.bs;obtain⟨q0,q1,q2⟩:=nG.out.lN;obtain⟨r0,r1,r2,r3,r4,r5,r6,r7,rf⟩:=nG.out.zs;clear hb2)|(go_at_call 68;(with_reducible refine(nW.out w2).mono ?_);rintro e w3 ⟨rfl,hb3⟩))
  obtain⟨W3,hW3⟩:=bR (w3.alloc (.cells #[.int .i64 1, .int .i64 value, .int .i64 value, .int .i64 value, .int .i64 time, .int .i64 value] 39))
  have xF:=hdd (show ah w2 W3 from by rw [hW3];exact Below.trans' hb3 ((aL _ _).alloc aI _) hb3.size)
  have vF:=hdd (nG.out.later xF.out z2)
  have UW:W3.heap.size=w3.heap.size+1:=by rw [hW3];simp
  have z3:w.heap.size+3<=w3.heap.size:=by have:=hb3.size;omega
  have E5:=hdd (show W3.heap[w3.heap.size]?=some (.cells #[.int .i64 1, .int .i64 value, .int .i64 value, .int .i64 value, .int .i64 time, .int .i64 value] 39) by rw [hW3];exact aq _ _ rfl)
  rw [<-hW3]
  clear hW3 hb3 y0 y1 y2 y3 y4 y5 y6 y7 yf q0 q1 q2 r0 r1 r2 r3 r4 r5 r6 r7 rf
  obtain⟨y0,y1,y2,y3,y4,y5,y6,y7,yf⟩:=vF.out.bs
  obtain⟨q0,q1,q2⟩:=vF.out.lN
  obtain⟨r0,r1,r2,r3,r4,r5,r6,r7,rf⟩:=vF.out.zs
  go_wp2_with fail
  have dh:=vF.out.below
  exact bodyPost_ret (v:= .tuple #[dH, .int .i64 8]) (by simp [results,Tryz.results35,go_sem, *]) rfl ⟨ag,rfl⟩
end
section
variable {b:Ba} {s:ByteArray} {rt time value r0 r1 r2:Int} {B n c rb sc l0 p0 l1 p1 l2 p2:Nat} {T:Nat->Tr} {so sn g0 g1 g2:Option Addr} {t':Tr} {w wx wr:World}
theorem mX {ops:Array Oper} {rest:List Oper} {o:Oper} {a:Act} {Q:Exit->Act->World->Prop} (hgd:o.guard=none) (s x:Operand)
  (ho:o.op = .call { callee:= .builtin .append,args:=#[s,x],argTypes:=#[24,24] }) (B:Nat) (v:Value) (es:List ByteArray) (hs:a.eval s=v) (hown:w.ownsRow B 9 1 v es.length (es.flatMap jg))
  (ad:Addr) (e:ByteArray) (hx:a.eval x = .slice (some ad) 1 1) (hnews:w.cell? ad=some (.string e)) (hlen:es.length<=1000000) (hbase:B<=w.heap.size)
  (h:∀v' w',w'.ownsRow B 9 1 v' (es.length+1) ((es++[e]).flatMap jg)->w.grownBy w' v.ownBlock->(v'.ownBlock=v.ownBlock\/v'.ownBlock=some w.heap.size)->wpList Tryz.prog ops Q rest (a.put o.dst v') w'):wpList Tryz.prog ops Q (o::rest) a w:=by
 obtain⟨i0,z,hi,hz,hz1,hz2,hz3⟩:=cG Tryz.We
 refine wpList_append_own_at w hgd s x 24 ho B 9 i0 z 1 16 Tryz.underlying24 hi hz hz1 hz2 hz3 aY v es.length _ hs hown ad 1 1 (jg e) hx rfl (fun j u hu=>?_) (fun u hu=>Bu [e] u (by simpa using hu)) (by unfold maxLen;omega) af hbase ?_
 ·cases j with
  |zero=>simp [jg]at hu;subst hu;simpa [Addr.add] using hnews
  |succ j=>simp [jg]at hu
 ·intro v' w' hown' hg _ h4
  refine h v' w' ?_ hg h4
  have:(es++[e]).flatMap jg=es.flatMap jg++jg e:=bt
  rw [this];exact hown'
theorem fO.keep {B':Nat} {t:Tr} {key:Int} {r:av} {w6:World} {E2:Int} (h:fO B t key r w6 so n c rt E2) (hk:aQ B w6 wx) (hB:B'<=B):fO B' t key r wx so n c rt E2:=by
 rcases h with h|⟨h1,t2,h2,l2,g1,g2,g3,⟨g4,g5,g6,g7⟩|g4⟩
 ·exact .inl h
 ·exact .inr ⟨h1,t2,h2,l2,g1,g2,g3, .inl ⟨g4,g5,g6,fun w'' hw=>g7 w'' (hk.trans (hw.mono hB))⟩⟩
 ·exact .inr ⟨h1,t2,h2,l2,g1,g2,g3, .inr g4⟩
theorem fk {b:Nat} {v0 v1 v2 v3 v4 v5 v6 v7:Value} (h:b≠B) :
  ((((((((w.setCell ⟨B,0,none⟩ v0).setCell ⟨B,1,none⟩ v1).setCell ⟨B,2,none⟩ v2).setCell ⟨B,3,none⟩ v3).setCell ⟨B,4,none⟩ v4).setCell ⟨B,5,none⟩ v5).setCell ⟨B,6,none⟩ v6).setCell ⟨B,7,none⟩ v7).heap[b]?=w.heap[b]?:=by
 rw [heap_setCell_other _ ⟨B,_,none⟩ b _ h,heap_setCell_other _ ⟨B,_,none⟩ b _ h,heap_setCell_other _ ⟨B,_,none⟩ b _ h,heap_setCell_other _ ⟨B,_,none⟩ b _ h,heap_setCell_other _ ⟨B,_,none⟩ b _ h,heap_setCell_other _ ⟨B,_,none⟩ b _ h,heap_setCell_other _ ⟨B,_,none⟩ b _ h,heap_setCell_other _ ⟨B,_,none⟩ b _ h]
structure vz (w:World) (b:Ba) (s:ByteArray) (time value:Int) (rb k:Nat) (sn:Option Addr) (sc:Nat) (g0:Option Addr) (l0 p0:Nat) (r0:Int) (g1:Option Addr) (l1 p1:Nat) (r1:Int) (g2:Option Addr) (l2 p2:Nat) (r2:Int) (T:Nat->Tr) (wr:World):Prop where
 at':kN w #[.slice sn (bA b s).length sc, .slice g0 l0 p0, .int .i64 r0, .slice g1 l1 p1, .int .i64 r1, .slice g2 l2 p2, .int .i64 r2, .int .i64 b.floor] s time value wr
 Lv:wr.heap[rb]?=some (.cells #[.int .i64 1, .int .i64 value, .int .i64 value, .int .i64 value, .int .i64 time, .int .i64 value] 39)
 FN:w.heap.size+3<=rb
 names:∀w'',aQ (w.heap.size+3) wr w''->jO w'' (.slice sn (bA b s).length sc) (bA b s)
 t0:∀w'',aQ (w.heap.size+3) wr w''->bN w'' (.agg #[.slice g0 l0 p0, .int .i64 r0]) (T 0)
 t1:∀w'',aQ (w.heap.size+3) wr w''->bN w'' (.agg #[.slice g1 l1 p1, .int .i64 r1]) (T 1)
 t2:∀w'',aQ (w.heap.size+3) wr w''->bN w'' (.agg #[.slice g2 l2 p2, .int .i64 r2]) (T 2)
 done:∀j,j<k->ax (T j)=0/\ir (T j).all (dX b s time value j::(b.tree j).all)/\nB (T j)<=nB (b.tree j)+1/\Small (dX b s time value j::(b.tree j).all)
 rest:∀j,k<=j->j<3->T j=b.tree j
theorem vz.later {k:Nat}
  (h:vz w b s time value rb k sn sc g0 l0 p0 r0 g1 l1 p1 r1 g2 l2 p2 r2 T wr) (hb:ah wr wx):vz w b s time value rb k sn sc g0 l0 p0 r0 g1 l1 p1 r1 g2 l2 p2 r2 T wx:=by
 have hk:=aQ.of (M:=w.heap.size+3) hb aI
 exact⟨h.at'.later hb h.at'.size,(hb.block rb (eP.1 h.Lv).1).trans h.Lv,h.FN,fun w'' hw=>h.names w'' (hk.trans hw),fun w'' hw=>h.t0 w'' (hk.trans hw),fun w'' hw=>h.t1 w'' (hk.trans hw),fun w'' hw=>h.t2 w'' (hk.trans hw),h.done,h.rest⟩
theorem vz.step0
  (h:vz w b s time value rb 0 sn sc g0 l0 p0 r0 g1 l1 p1 r1 g2 l2 p2 r2 T wr) (hb:ah wr wx) (htr:∀w'',aQ wr.heap.size wx w''->bN w'' (.agg #[.slice so n c, .int .i64 rt]) t')
  (hf:ax t'=0) (he:ir t'.all (dX b s time value 0::(b.tree 0).all)) (hw':nB t'<=nB (b.tree 0)+1) (hsm:Small (dX b s time value 0::(b.tree 0).all)) :
  vz w b s time value rb 1 sn sc so n c rt g1 l1 p1 r1 g2 l2 p2 r2 (fun j=>if j=0 then t' else T j) ((wx.setCell ⟨w.heap.size,1,none⟩ (.slice so n c)).setCell ⟨w.heap.size,2,none⟩ (.int .i64 rt)):=by
 have h1:=h.at'.size
 have hbz:=hb.size
 have eD:aQ (w.heap.size+3) wx ((wx.setCell ⟨w.heap.size,1,none⟩ (.slice so n c)).setCell ⟨w.heap.size,2,none⟩ (.int .i64 rt)):=((aQ.refl _ _).set (by show w.heap.size<w.heap.size+3;omega) _).set (by show w.heap.size<w.heap.size+3;omega) _
 have hk:=(aQ.of (M:=w.heap.size+3) hb aI).trans eD
 have hx:=h.at'.later hb h1
 have ho:∀q,q≠w.heap.size->((wx.setCell ⟨w.heap.size,1,none⟩ (.slice so n c)).setCell ⟨w.heap.size,2,none⟩ (.int .i64 rt)).heap[q]?=wx.heap[q]?:=fun q hq=>(heap_setCell_other _ ⟨w.heap.size,_,none⟩ q _ hq).trans (heap_setCell_other _ ⟨w.heap.size,_,none⟩ q _ hq)
 refine⟨⟨(hx.below.setCell (by show w.heap.size<=w.heap.size;omega) _).setCell (by show w.heap.size<=w.heap.size;omega) _,by simp only [ay];exact hx.size,?_,(ho _ af).trans hx.pt,(ho _ af).trans hx.res⟩,?_,h.FN,fun w'' hw=>h.names w'' (hk.trans hw),fun w'' hw=>by rw [ar rfl];exact htr w'' ((eD.trans hw).mono h.at'.size),fun w'' hw=>by rw [ai aY];exact h.t1 w'' (hk.trans hw),fun w'' hw=>by rw [ai aY];exact h.t2 w'' (hk.trans hw),fun j hj=>?_,fun j hj h3=>?_⟩
 ·have:=heap_setCell_same (off:=2) (v:= .int .i64 rt) (heap_setCell_same (off:=1) (v:= .slice so n c) hx.box)
  simpa using this
 ·have hr:=h.FN
  exact(ho rb af).trans ((hb.block rb (eP.1 h.Lv).1).trans h.Lv)
 ·by_cases hjk:j=0
  ·subst hjk;simp only [ar];exact⟨hf,he,hw',hsm⟩
  ·simp only [ai hjk];exact h.done j af
 ·simp only [ai (show j≠0 by omega)];exact h.rest j af h3
theorem vz.CZ
  (h:vz w b s time value rb 1 sn sc g0 l0 p0 r0 g1 l1 p1 r1 g2 l2 p2 r2 T wr) (hb:ah wr wx) (htr:∀w'',aQ wr.heap.size wx w''->bN w'' (.agg #[.slice so n c, .int .i64 rt]) t')
  (hf:ax t'=0) (he:ir t'.all (dX b s time value 1::(b.tree 1).all)) (hw':nB t'<=nB (b.tree 1)+1) (hsm:Small (dX b s time value 1::(b.tree 1).all)) :
  vz w b s time value rb 2 sn sc g0 l0 p0 r0 so n c rt g2 l2 p2 r2 (fun j=>if j=1 then t' else T j) ((wx.setCell ⟨w.heap.size,3,none⟩ (.slice so n c)).setCell ⟨w.heap.size,4,none⟩ (.int .i64 rt)):=by
 have h1:=h.at'.size
 have hbz:=hb.size
 have eD:aQ (w.heap.size+3) wx ((wx.setCell ⟨w.heap.size,3,none⟩ (.slice so n c)).setCell ⟨w.heap.size,4,none⟩ (.int .i64 rt)):=((aQ.refl _ _).set (by show w.heap.size<w.heap.size+3;omega) _).set (by show w.heap.size<w.heap.size+3;omega) _
 have hk:=(aQ.of (M:=w.heap.size+3) hb aI).trans eD
 have hx:=h.at'.later hb h1
 have ho:∀q,q≠w.heap.size->((wx.setCell ⟨w.heap.size,3,none⟩ (.slice so n c)).setCell ⟨w.heap.size,4,none⟩ (.int .i64 rt)).heap[q]?=wx.heap[q]?:=fun q hq=>(heap_setCell_other _ ⟨w.heap.size,_,none⟩ q _ hq).trans (heap_setCell_other _ ⟨w.heap.size,_,none⟩ q _ hq)
 refine⟨⟨(hx.below.setCell (by show w.heap.size<=w.heap.size;omega) _).setCell (by show w.heap.size<=w.heap.size;omega) _,by simp only [ay];exact hx.size,?_,(ho _ af).trans hx.pt,(ho _ af).trans hx.res⟩,?_,h.FN,fun w'' hw=>h.names w'' (hk.trans hw),fun w'' hw=>by rw [ai aY];exact h.t0 w'' (hk.trans hw),fun w'' hw=>by rw [ar rfl];exact htr w'' ((eD.trans hw).mono h.at'.size),fun w'' hw=>by rw [ai aY];exact h.t2 w'' (hk.trans hw),fun j hj=>?_,fun j hj h3=>?_⟩
 ·have:=heap_setCell_same (off:=4) (v:= .int .i64 rt) (heap_setCell_same (off:=3) (v:= .slice so n c) hx.box)
  simpa using this
 ·have hr:=h.FN
  exact(ho rb af).trans ((hb.block rb (eP.1 h.Lv).1).trans h.Lv)
 ·by_cases hjk:j=1
  ·subst hjk;simp only [ar];exact⟨hf,he,hw',hsm⟩
  ·simp only [ai hjk];exact h.done j af
 ·simp only [ai (show j≠1 by omega)];exact h.rest j af h3
theorem vz.CY
  (h:vz w b s time value rb 2 sn sc g0 l0 p0 r0 g1 l1 p1 r1 g2 l2 p2 r2 T wr) (hb:ah wr wx) (htr:∀w'',aQ wr.heap.size wx w''->bN w'' (.agg #[.slice so n c, .int .i64 rt]) t')
  (hf:ax t'=0) (he:ir t'.all (dX b s time value 2::(b.tree 2).all)) (hw':nB t'<=nB (b.tree 2)+1) (hsm:Small (dX b s time value 2::(b.tree 2).all)) :
  vz w b s time value rb 3 sn sc g0 l0 p0 r0 g1 l1 p1 r1 so n c rt (fun j=>if j=2 then t' else T j) ((wx.setCell ⟨w.heap.size,5,none⟩ (.slice so n c)).setCell ⟨w.heap.size,6,none⟩ (.int .i64 rt)):=by
 have h1:=h.at'.size
 have hbz:=hb.size
 have eD:aQ (w.heap.size+3) wx ((wx.setCell ⟨w.heap.size,5,none⟩ (.slice so n c)).setCell ⟨w.heap.size,6,none⟩ (.int .i64 rt)):=((aQ.refl _ _).set (by show w.heap.size<w.heap.size+3;omega) _).set (by show w.heap.size<w.heap.size+3;omega) _
 have hk:=(aQ.of (M:=w.heap.size+3) hb aI).trans eD
 have hx:=h.at'.later hb h1
 have ho:∀q,q≠w.heap.size->((wx.setCell ⟨w.heap.size,5,none⟩ (.slice so n c)).setCell ⟨w.heap.size,6,none⟩ (.int .i64 rt)).heap[q]?=wx.heap[q]?:=fun q hq=>(heap_setCell_other _ ⟨w.heap.size,_,none⟩ q _ hq).trans (heap_setCell_other _ ⟨w.heap.size,_,none⟩ q _ hq)
 refine⟨⟨(hx.below.setCell (by show w.heap.size<=w.heap.size;omega) _).setCell (by show w.heap.size<=w.heap.size;omega) _,by simp only [ay];exact hx.size,?_,(ho _ af).trans hx.pt,(ho _ af).trans hx.res⟩,?_,h.FN,fun w'' hw=>h.names w'' (hk.trans hw),fun w'' hw=>by rw [ai aY];exact h.t0 w'' (hk.trans hw),fun w'' hw=>by rw [ai aY];exact h.t1 w'' (hk.trans hw),fun w'' hw=>by rw [ar rfl];exact htr w'' ((eD.trans hw).mono h.at'.size),fun j hj=>?_,fun j hj h3=>?_⟩
 ·have:=heap_setCell_same (off:=6) (v:= .int .i64 rt) (heap_setCell_same (off:=5) (v:= .slice so n c) hx.box)
  simpa using this
 ·have hr:=h.FN
  exact(ho rb af).trans ((hb.block rb (eP.1 h.Lv).1).trans h.Lv)
 ·by_cases hjk:j=2
  ·subst hjk;simp only [ar];exact⟨hf,he,hw',hsm⟩
  ·simp only [ai hjk];exact h.done j af
 ·simp only [ai (show j≠2 by omega)];exact h.rest j af h3
end
end Go.Proofs.YtmljjfhgciaceaaGreatDoor
