/- Texts of mine that come as one: AddP Add AddK. -/
import Derived.Test.YtmljjfhgciaceaaDoorHd
import Derived.Test.YtmljjfhgciaceaaDoorAQ
import Derived.Test.YtmljjfhgciaceaaDoorPS
import Derived.Test.YtmljjfhgciaceaaDoorPG
import Derived.Test.YtmljjfhgciaceaaDoorBK
import Derived.Test.YtmljjfhgciaceaaDoorPC
import Derived.Test.YtmljjfhgciaceaaDoorKG
namespace Go.Proofs.YtmljjfhgciaceaaDoor
section
variable {b:Ba} {s:ByteArray} {time value:Int} {l:List aA} {k:Nat}
theorem IA {f:aA->aA} (hf:∀e,(f e).is=e.is) (hk:∀a b:aA,a.key=b.key->(f a).key=(f b).key) {x:aA} (hl:aT l) (hx:x.is.Good):gI ((ins l x).map f) (f x::l.map f):=by
 have gm:∀{m:List aA},aT m->aT (m.map f):=fun {m} hm e he=>by
  obtain⟨y,hy,rfl⟩:=lI.1 he
  rw [hf];exact hm y hy
 have gx:aT (f x::l.map f):=fun e he=>by
  rcases fc.1 he with rfl|he
  ·rw [hf];exact hx
  ·exact gm hl e he
 refine⟨gm (jc hl hx),gx,fun k=>?_⟩
 induction l with
 |nil=>rfl
 |cons e l ih=>
  obtain⟨he,hl'⟩:=hl.cons
  have ih:=ih hl' (fun y hy=>by
   rcases fc.1 hy with rfl|hy
   ·rw [hf];exact hx
   ·exact gm hl' y hy)
  have fl:=cY (gm hl').dm k
  unfold ins
  split
  ·rw [List.map_cons,List.map_cons]
   simp only [look]at ih ⊢
   rw [hf,hf]at *
   rw [ih]
   by_cases h1:(f e).key=k <;> by_cases h2:(f x).key=k
   ·simp only [h1,h2,if_true]
    rw [<-join_assoc (.inr he) (.inr hx) fl,join_comm (.inr he) (.inr hx),join_assoc (.inr hx) (.inr he) fl]
   all_goals simp only [h1,h2,if_true,if_false]
  ·split
   ·rename_i heq
    rw [List.map_cons,List.map_cons]
    have e1:(f ⟨x.key,e.is.join x.is⟩).key=(f x).key:=hk _ _ rfl
    have e2:(f e).key=(f x).key:=hk _ _ heq
    simp only [look]
    rw [e1,e2,hf,hf,hf]
    by_cases h:(f x).key=k
    ·simp only [h,if_true]
     rw [join_comm (.inr he) (.inr hx),join_assoc (.inr hx) (.inr he) fl]
    ·simp only [h,if_false]
   ·rfl
theorem I2 {f:aA->aA} (hf:∀e,(f e).is=e.is) (hk:∀a b:aA,a.key=b.key->(f a).key=(f b).key):∀{l m:List aA},aT m->aT l->gI ((l.foldl ins m).map f) ((l++m).map f)
 |[],m,hm,_=>gI.refl fun e he=>by
   obtain⟨y,hy,rfl⟩:=lI.1 he
   rw [hf];exact hm y (by simpa using hy)
 |x::l,m,hm,hl=>by
  obtain⟨hx,hl'⟩:=hl.cons
  have h1:=I2 hf hk (l:=l) (m:=ins m x) (jc hm hx) hl'
  have h2:=IA hf hk hm hx
  have gl:aT (l.map f):=fun e he=>by
   obtain⟨y,hy,rfl⟩:=lI.1 he
   rw [hf];exact hl' y hy
  rw [tL]at h1
  have h3:=h1.trans ((gI.refl gl).append h2)
  refine h3.trans (gI.perm ?_ h3.2.1)
  rw [List.cons_append,List.map_cons,tL]
  exact List.perm_middle
theorem IV (h:aT l):gI (jJ l) l:=⟨dh h,h,fun k=>eG h k⟩
theorem qa (h:aQ b=true):∃l,bW b=some l/\aV l/\dY l/\∀k,k<3->ax (b.tree k)=0/\gI (b.tree k).all (l.map (bucket (aR k)))/\Small (b.tree k).all:=by
 obtain⟨l,hl,hr,hg,hk⟩:=iW h
 refine⟨l,hl,hr,hg,fun k hk3=>?_⟩
 obtain⟨m,h1,h2⟩:=hk k hk3
 obtain⟨g1,g2,g3,g4,g5⟩:=Pp h2
 refine⟨g1,g2.trans ?_,g5⟩
 obtain⟨rfl,-⟩:=fT (fM (aR k) hg.1) h1
 exact IV (fM (aR k) hg.1).bJ
theorem Nh {a b:List aA} (h:gI a b):jJ a=jJ b:=nj (cJ h.1) (cJ h.2.1) (dh h.1) (dh h.2.1) fun k=>by rw [eG h.1,eG h.2.1,h.2.2]
theorem wu (s:Int) (e:aA):(bucket s e).is=e.is:=rfl
theorem zK (s:Int) (a b:aA) (h:a.key=b.key):(bucket s a).key=(bucket s b).key:=by unfold bucket;simp only;rw [h]
theorem nz (e:aA):bucket 1 e=e:=by
 unfold bucket
 cases e
 simp [Int.emod_one]
theorem gM (l:List aA):l.map (bucket 1)=l:=by
 rw [List.map_congr_left (g:=id) fun e _=>nz e,List.map_id]
theorem Md {t:Tr} {s:Int} (hf:ax t=0) (hc:Checked l) (he:gI t.all (l.map (bucket s))) (hs:Small t.all):∃m,bU l s=some m/\allT t=some m:=by
 have hc':=fM s hc
 have hs':Small (l.map (bucket s)):=he.small.1 hs
 refine⟨jJ (l.map (bucket s)),by unfold bU;rw [jA hc',ar hs'],?_⟩
 have hg:=hc'.bJ
 exact yl hf (he.trans (IV hg).symm) (cJ hg) (xy hg hs')
def jZ (b:Ba) (s:ByteArray):Int:=if aG b.names s<0 then b.names.length else aG b.names s
def bA (b:Ba) (s:ByteArray):List ByteArray:=if aG b.names s<0 then b.names++[s]else b.names
def cu (b:Ba) (s:ByteArray) (time:Int) (r:au):aA:=⟨jZ b s*1048576+time,r⟩
noncomputable def jt (b:Ba) (s:ByteArray) (time value:Int):Int:=
 if aQ b=false then 7 else if dG s=false then 4 else if (eJ time value).2≠0 then(eJ time value).2 else if time<b.floor then 8 else if aG b.names s<0/\16<=b.names.length then 1 else 0
noncomputable def jL (b:Ba) (s:ByteArray) (time value:Int):Int:=
 if jt b s time value≠0 then jt b s time value else match bW b with
  |none=>0
  |some l=>match jG l (cu b s time (eJ time value).1) with
   |none=>1
   |some l'=>if bU l' 60=none\/bU l' 3600=none then 1 else 0
noncomputable def ET (b:Ba) (s:ByteArray) (time value:Int):List aA:=
 match bW b with|none=>[]|some l=>ins l (cu b s time (eJ time value).1)
theorem mU (h:jt b s time value=0):aQ b=true/\dG s=true/\eJ time value=(⟨1,value,value,value,time,value⟩,0)/\0<=time/\time<=1048575/\-1000000<=value/\value<=1000000/\b.floor<=time/\0<=jZ b s/\jZ b s<=15/\(aG b.names s<0->b.names.length<16):=by
 unfold jt at h
 split at h
 ·omega
 rename_i h1
 split at h
 ·omega
 rename_i h2
 split at h
 ·contradiction
 rename_i h3
 split at h
 ·omega
 rename_i h4
 split at h
 ·omega
 rename_i h5
 have hm:aQ b=true:=by simpa using h1
 have hn:=(dJ hm).n16
 have hr:0<=time/\time<=1048575/\-1000000<=value/\value<=1000000:=by
  unfold eJ at h3
  split at h3
  ·assumption
  ·exact absurd (show (2:Int)≠0 by decide) h3
 refine⟨hm,by simpa using h2,by unfold eJ;rw [ar hr],hr.1,hr.2.1,hr.2.2.1,hr.2.2.2,af,?_,?_,fun h=>af⟩
 ·unfold jZ;split <;> omega
 ·unfold jZ
  rcases eX b.names s with ⟨k,hk,e,-⟩|⟨e,-⟩
  ·rw [e];split <;> omega
  ·rw [e];split <;> omega
theorem nU (h0:0<=time) (h1:time<=1048575) (h2 : -1000000<=value) (h3:value<=1000000):aj ⟨1,value,value,value,time,value⟩=0:=by
 refine YH ⟨?_,?_,?_,?_,?_,?_,?_,?_,?_,?_,?_,?_⟩ bq ⟨?_,?_,?_,?_⟩ <;> simp only <;> omega
theorem Ql {i:Int} (k:Nat) (r:au) (h0:0<=time) (h1:time<=1048575):(bucket (aR k) ⟨i*1048576+time,r⟩).key=i*1048576+time/aR k*aR k:=by
 have hm:(i*1048576+time)%1048576=time:=af
 unfold bucket
 simp only
 rw [hm]
 have:=Int.emod_add_mul_ediv time (aR k)
 rw [Int.mul_comm (time/aR k)]
 omega
theorem kj (h:jt b s time value=0) (hl:bW b=some l) (hk:k<3) :
  (ji (b.tree k) (jZ b s*1048576+time/aR k*aR k) ⟨1,value,value,value,time,value⟩=0/\Small ((⟨jZ b s*1048576+time/aR k*aR k,⟨1,value,value,value,time,value⟩⟩:aA)::(b.tree k).all) \/
  ji (b.tree k) (jZ b s*1048576+time/aR k*aR k) ⟨1,value,value,value,time,value⟩=1/\¬Small ((⟨jZ b s*1048576+time/aR k*aR k,⟨1,value,value,value,time,value⟩⟩:aA)::(b.tree k).all)) /\
  gI ((⟨jZ b s*1048576+time/aR k*aR k,⟨1,value,value,value,time,value⟩⟩:aA)::(b.tree k).all) ((ins l (cu b s time ⟨1,value,value,value,time,value⟩)).map (bucket (aR k))):=by
 obtain⟨hm,-,-,h0,h1,h2,h3,-,hi0,hi1,-⟩:=mU h
 obtain⟨l',hl',-,hg,ht⟩:=qa hm
 obtain rfl:l'=l:=dw (hl'.symm.trans hl)
 obtain⟨t1,t2,t3⟩:=ht k hk
 obtain⟨r,hr⟩:∃r:au,r=⟨1,value,value,value,time,value⟩:=⟨_,rfl⟩
 have hrc:aj r=0:=by rw [hr];exact nU h0 h1 h2 h3
 have Ox:r.c=1:=by rw [hr]
 rw [<-hr]
 have hrg:r.Good:=(cj hrc af).1
 have hsz:=gJ k
 have hkey:=Ql (i:=jZ b s) k r h0 h1
 obtain⟨K,hK⟩:=bw (jZ b s*1048576+time/aR k*aR k)
 rw [hK]at hkey ⊢
 have hkr:0<=K/\K<1099511627776:=by
  have:=pZ hsz (e:=⟨jZ b s*1048576+time,r⟩) ⟨by simp only;omega,by simp only;omega⟩
  rw [hkey]at this;exact this
 have hev:gI ((⟨K,r⟩:aA)::(b.tree k).all) ((ins l' (cu b s time r)).map (bucket (aR k))):=by
  have e1:=IA (wu (aR k)) (zK (aR k)) (x:=cu b s time r) hg.1.bJ hrg
  have e2:bucket (aR k) (cu b s time r)=⟨K,r⟩:=by
   have:(bucket (aR k) (cu b s time r)).key=K:=hkey
   cases hb:bucket (aR k) (cu b s time r) with
   |mk a c=>rw [hb]at this;simp only at this;subst this;congr 1;have:=wu (aR k) (cu b s time r);rw [hb]at this;exact this
  rw [e2]at e1
  have e3:gI ([(⟨K,r⟩:aA)]++(b.tree k).all) ([(⟨K,r⟩:aA)]++l'.map (bucket (aR k))):=(gI.refl (fun e he=>by simp at he;subst he;exact hrg)).append t2
  exact e3.trans e1.symm
 have hsmall:Small ((⟨K,r⟩:aA)::(b.tree k).all)↔(look (b.tree k).all K).c+r.c<=1073741824:=by
  constructor
  ·intro hs
   have:=hs K
   simp only [look,ar trivial,dC]at this
   omega
  ·intro hs q
   simp only [look]
   by_cases hq:K=q
   ·subst hq;rw [ar rfl,dC];omega
   ·rw [ai hq];exact t3 q
 refine⟨?_,hev⟩
 unfold ji
 rw [ai (by simp [t1]),ai af,ai (by simp [hrc])]
 by_cases hc:(look (b.tree k).all K).c+r.c<=1073741824
 ·rw [ar hc]
  exact .inl ⟨rfl,hsmall.2 hc⟩
 ·rw [ai hc]
  exact .inr ⟨rfl,fun hs=>hc (hsmall.1 hs)⟩
def dX (b:Ba) (s:ByteArray) (time value:Int) (k:Nat):aA:=⟨jZ b s*1048576+time/aR k*aR k,⟨1,value,value,value,time,value⟩⟩
theorem Qm (h:jt b s time value=0) (hl:bW b=some l) (hs:Small (dX b s time value 0::(b.tree 0).all)) :
  jG l (cu b s time ⟨1,value,value,value,time,value⟩)=some (ins l (cu b s time ⟨1,value,value,value,time,value⟩))/\Checked (ins l (cu b s time ⟨1,value,value,value,time,value⟩)):=by
 obtain⟨hm,-,-,h0,h1,h2,h3,-,hi0,hi1,-⟩:=mU h
 have hev:=(kj h hl (k:=0) aW).2
 have hs2:=hev.small.1 hs
 rw [show aR 0=1 from rfl,gM]at hs2
 obtain⟨hr,hg⟩:=gq hl
 have hrc:=nU h0 h1 h2 h3
 have hrg:(⟨1,value,value,value,time,value⟩:au).Good:=(cj hrc bq).1
 have hc:(look l (cu b s time ⟨1,value,value,value,time,value⟩).key).c+(cu b s time ⟨1,value,value,value,time,value⟩).is.c<=1073741824:=by
  have:=hs2 (cu b s time ⟨1,value,value,value,time,value⟩).key
  rw [pc hg.1.bJ.dm (.inr hrg),ar rfl,dC]at this
  exact this
 refine⟨?_,qV hr hg.1 hrg hc⟩
 rw [xW hr (by show (1:Int)<=_;omega),ar hc]
theorem NI (h:jt b s time value=0) (hl:bW b=some l) (hk:k<3) (hs:¬Small (dX b s time value k::(b.tree k).all)):jL b s time value=1:=by
 obtain⟨hm,-,hro,h0,h1,h2,h3,-,hi0,hi1,-⟩:=mU h
 unfold jL
 rw [ai (by simp [h]),hl]
 simp only
 rw [hro]
 simp only
 cases hi:jG l (cu b s time ⟨1,value,value,value,time,value⟩) with
 |none=>rfl
 |some l'=>
  simp only
  obtain⟨hr,hg⟩:=gq hl
  have hrc:=nU h0 h1 h2 h3
  have hrg:(⟨1,value,value,value,time,value⟩:au).Good:=(cj hrc bq).1
  have U9:=xW hr (x:=cu b s time ⟨1,value,value,value,time,value⟩) (by show (1:Int)<=_;omega)
  rw [hi]at U9
  split at U9
  ·rename_i hc
   obtain rfl:=dw U9
   have IL:=qV hr hg.1 hrg hc
   have hev:=(kj h hl hk).2
   have hns:bU (ins l (cu b s time ⟨1,value,value,value,time,value⟩)) (aR k)=none:=by
    unfold bU
    rw [jA (fM _ IL),ai fun hh=>hs (hev.small.2 hh)]
   have:k=0\/k=1\/k=2:=af
   rcases this with rfl|rfl|rfl
   ·rw [show aR 0=1 from rfl]at hns
    unfold bU at hns
    rw [gM,jA IL]at hns
    split at hns
    ·cases hns
    ·rename_i hh
     exact absurd (mN (jF hr) IL) hh
   ·rw [ar (.inl hns)]
   ·rw [ar (.inr hns)]
  ·cases U9
theorem wI (h:jt b s time value=0) (hl:bW b=some l) (hs:∀k,k<3->Small (dX b s time value k::(b.tree k).all)) :
  jL b s time value=0/\ET b s time value=ins l (cu b s time ⟨1,value,value,value,time,value⟩)/\Checked (ins l (cu b s time ⟨1,value,value,value,time,value⟩)):=by
 obtain⟨hm,-,hro,h0,h1,h2,h3,-,hi0,hi1,-⟩:=mU h
 obtain⟨hi,IL⟩:=Qm h hl (hs 0 aW)
 have hr:∀k,k<3->bU (ins l (cu b s time ⟨1,value,value,value,time,value⟩)) (aR k)≠none:=fun k hk=>by
  have hev:=(kj h hl hk).2
  unfold bU
  rw [jA (fM _ IL),ar (hev.small.1 (hs k hk))]
  simp
 refine⟨?_,by unfold ET;rw [hl,hro],IL⟩
 unfold jL
 rw [ai (by simp [h]),hl]
 simp only
 rw [hro]
 simp only
 rw [hi]
 simp only
 rw [ai]
 rintro(hh|hh)
 ·exact hr 1 aW hh
 ·exact hr 2 aW hh
theorem Ub {T:Nat->Tr} (h:jt b s time value=0) (hl:bW b=some l) (hs:∀k,k<3->Small (dX b s time value k::(b.tree k).all))
  (hT:∀k,k<3->ax (T k)=0/\gI (T k).all (dX b s time value k::(b.tree k).all)) :
  aQ ⟨bA b s,T 0,T 1,T 2,b.floor⟩=true/\bW ⟨bA b s,T 0,T 1,T 2,b.floor⟩=some (ET b s time value):=by
 obtain⟨hm,hn,hro,h0,h1,h2,h3,hfl,hi0,hi1,hnl⟩:=mU h
 obtain⟨-,hL,IL⟩:=wI h hl hs
 obtain⟨hr,hg⟩:=gq hl
 have hB:=dJ hm
 obtain⟨KS,hl2⟩:=lC hl
 have hev:∀k,k<3->gI (T k).all ((ins l (cu b s time ⟨1,value,value,value,time,value⟩)).map (bucket (aR k))):=fun k hk=>(hT k hk).2.trans (kj h hl hk).2
 have hsm:∀k,k<3->Small (T k).all:=fun k hk=>(hT k hk).2.small.2 (hs k hk)
 have hkn:∀k,k<3->∃m,bU (ins l (cu b s time ⟨1,value,value,value,time,value⟩)) (aR k)=some m/\allT (T k)=some m:=fun k hk=>Md (hT k hk).1 IL (hev k hk) (hsm k hk)
 have ha0:allT (T 0)=some (ET b s time value):=by
  have e:=hev 0 aW
  rw [show aR 0=1 from rfl,gM]at e
  rw [hL]
  exact yl (hT 0 aW).1 e (jF hr) IL
 have hlen:b.names.length<=(bA b s).length/\(jZ b s).toNat<(bA b s).length/\(bA b s).length<=16:=by
  have:=hB.n16
  unfold bA jZ
  rcases eX b.names s with ⟨k,hk,e,-⟩|⟨e,-⟩
  ·rw [e,ai af,ai af];omega
  ·rw [e,ar af,ar af]
   have:=hnl (by rw [e];decide)
   simp;omega
 have uK:bW ⟨bA b s,T 0,T 1,T 2,b.floor⟩=some (ET b s time value):=by
  refine uX ha0 (pA.2 fun e he=>?_)
  rw [hL]at he
  have hold:∀y∈l,jm b y=true:=pA.1 hl2
  unfold jm
  simp only [Bool.and_eq_true,sk]
  have PV:(jZ b s*1048576+time)%1048576=time:=af
  have hdiv:(jZ b s*1048576+time)/1048576=jZ b s:=af
  have QS:(cu b s time ⟨1,value,value,value,time,value⟩).key/1048576<((bA b s).length:Int)/\b.floor<=(cu b s time ⟨1,value,value,value,time,value⟩).key%1048576:=by
   unfold cu
   simp only
   rw [PV,hdiv]
   omega
  have Mt:∀y∈l,y.key/1048576<((bA b s).length:Int)/\b.floor<=y.key%1048576/\y.is.t=y.key%1048576:=fun y hy=>by
   have:=hold y hy
   unfold jm at this
   simp only [Bool.and_eq_true,sk]at this
   exact⟨af,this.1.2,this.2⟩
  have hin:∀(l:List aA),(∀y∈l,y.is.t=y.key%1048576)->∀e∈ins l (cu b s time ⟨1,value,value,value,time,value⟩),e.is.t=e.key%1048576:=by
   intro l
   induction l with
   |nil=>
    intro _ e he
    simp [ins]at he;subst he
    unfold cu;simp only;rw [PV]
   |cons y l ih=>
    intro hy e he
    unfold ins at he
    split at he
    ·rcases fc.1 he with rfl|he
     ·exact hy _ bq
     ·exact ih (fun z hz=>hy z (by simp [hz])) e he
    ·split at he
     ·rename_i heq
      rcases fc.1 he with rfl|he
      ·have ht:=hy y bq
       rw [heq]at ht
       have hk:(cu b s time ⟨1,value,value,value,time,value⟩).key%1048576=time:=by unfold cu;simp only;exact PV
       show (y.is.join _).t=_
       rw [hk]at ht ⊢
       unfold au.join cu
       simp only
       rw [ai aW]
       split
       ·rfl
       ·simp only
        split
        ·rfl
        ·exact ht
      ·exact hy e (by simp [he])
     ·rcases fc.1 he with rfl|he
      ·unfold cu;simp only;rw [PV]
      ·exact hy e he
  refine⟨⟨?_,?_⟩,hin l (fun y hy=>(Mt y hy).2.2) e he⟩
  ·rcases qU he with hk|⟨y,hy,hk⟩
   ·rw [hk];exact QS.1
   ·rw [<-hk];exact(Mt y hy).1
  ·rcases qU he with hk|⟨y,hy,hk⟩
   ·rw [hk];exact QS.2
   ·rw [<-hk];exact(Mt y hy).2.1
 refine⟨jS ⟨hlen.2.2,hB.Zb,hB.XM,hB.fl2,?_,_,uK,fun k hk=>?_⟩,uK⟩
 ·intro i hi
  have hi:i<(bA b s).length:=hi
  show dG (bA b s)[i]=true/\∀k (hk:k<i),(bA b s)[k]≠(bA b s)[i]
  by_cases hp:aG b.names s<0
  ·have hns:bA b s=b.names++[s]:=ar hp
   have hno:∀j (hj:j<b.names.length),b.names[j]≠s:=by
    rcases eX b.names s with ⟨k,hk,e,-⟩|⟨-,h⟩
    ·omega
    ·exact h
   simp only [hns]at hi ⊢
   rw [eP,List.length_singleton]at hi
   by_cases hlt:i<b.names.length
   ·have:=hB.names i hlt
    rw [List.getElem_append_left hlt]
    refine⟨this.1,fun k hk=>?_⟩
    rw [List.getElem_append_left af]
    exact this.2 k hk
   ·have U9:i=b.names.length:=af
    subst U9
    rw [List.getElem_append_right aI]
    simp only [Nat.sub_self,List.getElem_singleton]
    refine⟨hn,fun k hk=>?_⟩
    rw [List.getElem_append_left hk]
    exact hno k hk
  ·have hns:bA b s=b.names:=ai hp
   simp only [hns]at hi ⊢
   exact hB.names i hi
 ·have hk3:k=0\/k=1\/k=2:=af
  obtain⟨m,g1,g2⟩:=hkn k hk
  unfold fL
  rw [hL,g1]
  rcases hk3 with rfl|rfl|rfl
  ·show (match some m,allT (T 0) with|some a,some c=>decide (a=c)|_,_=>false)=true
   rw [g2];simp
  ·show (match some m,allT (T 1) with|some a,some c=>decide (a=c)|_,_=>false)=true
   rw [g2];simp
  ·show (match some m,allT (T 2) with|some a,some c=>decide (a=c)|_,_=>false)=true
   rw [g2];simp
end
open Go.RowKit
section
set_option maxRecDepth 100000
set_option maxHeartbeats 4000000
variable {s:ByteArray} {time value:Int} {w w1:World}
structure kP (w:World) (cs:Array Value) (s:ByteArray) (time value:Int) (w':World):Prop where
 below:ah w w'
 size:w.heap.size+3<=w'.heap.size
 box:w'.heap[w.heap.size]?=some (.cells cs 35)
 pt:w'.heap[w.heap.size+1]?=some (.cells #[.string s, .int .i64 time, .int .i64 value] 59)
 res:w'.heap[w.heap.size+2]?=some (.cells cN 35)
theorem kP.start {W0:World} {cs:Array Value} (hW0:W0=((w.alloc (.cells cs 35)).alloc (.cells #[.string s, .int .i64 time, .int .i64 value] 59)).alloc (.cells cN 35)):kP w cs s time value W0:=by
 refine⟨by rw [hW0];exact ag,by rw [hW0];simp,?_,?_,?_⟩
 ·rw [hW0,lJ _ _ _ (by simp;omega),lJ _ _ _ bq];exact aq _ _ rfl
 ·rw [hW0,lJ _ _ _ bq];exact aq _ _ bq
 ·rw [hW0];exact aq _ _ bq
theorem kP.later {cs:Array Value} {w2:World} {B:Nat} (h:kP w cs s time value w1) (hb:Below B w1 w2) (hB:w.heap.size+3<=B):kP w cs s time value w2:=
 ⟨⟨hb.os.trans h.below.os,hb.tape.trans h.below.tape,hb.output.trans h.below.output,gT h.below.size hb.size,fun k hk=>(hb.block k af).trans (h.below.block k hk)⟩,by have:=hb.size;have:=h.size;omega,
  (hb.block _ af).trans h.box,(hb.block _ af).trans h.pt,(hb.block _ af).trans h.res⟩
theorem kP.lO {cs:Array Value} (h:kP w cs s time value w1):w1.cell? ⟨w.heap.size+1,0,none⟩=some (.string s)/\w1.cell? ⟨w.heap.size+1,1,none⟩=some (.int .i64 time)/\w1.cell? ⟨w.heap.size+1,2,none⟩=some (.int .i64 value):=by simp [World.cell?,h.pt]
theorem kP.zs {cs:Array Value} (h:kP w cs s time value w1):w1.cell? ⟨w.heap.size+2,0,none⟩=some (.slice none 0 0)/\w1.cell? ⟨w.heap.size+2,1,none⟩=some (.slice none 0 0)/\w1.cell? ⟨w.heap.size+2,2,none⟩=some (.int .i64 0)/\w1.cell? ⟨w.heap.size+2,3,none⟩=some (.slice none 0 0)/\w1.cell? ⟨w.heap.size+2,4,none⟩=some (.int .i64 0)/\w1.cell? ⟨w.heap.size+2,5,none⟩=some (.slice none 0 0)/\w1.cell? ⟨w.heap.size+2,6,none⟩=some (.int .i64 0)/\w1.cell? ⟨w.heap.size+2,7,none⟩=some (.int .i64 0)/\∀o,w1.frozen? ⟨w.heap.size+2,o,none⟩=false:=by simp [World.cell?,World.frozen?,h.res]
theorem kP.bs {v0 v1 v2 v3 v4 v5 v6 v7:Value} (h:kP w #[v0,v1,v2,v3,v4,v5,v6,v7] s time value w1):w1.cell? ⟨w.heap.size,0,none⟩=some v0/\w1.cell? ⟨w.heap.size,1,none⟩=some v1/\w1.cell? ⟨w.heap.size,2,none⟩=some v2/\w1.cell? ⟨w.heap.size,3,none⟩=some v3/\w1.cell? ⟨w.heap.size,4,none⟩=some v4/\w1.cell? ⟨w.heap.size,5,none⟩=some v5/\w1.cell? ⟨w.heap.size,6,none⟩=some v6/\w1.cell? ⟨w.heap.size,7,none⟩=some v7/\∀o,w1.frozen? ⟨w.heap.size,o,none⟩=false:=by simp [World.cell?,World.frozen?,h.box]
theorem yo {sa:Option Addr} {sc:Nat} {g0:Option Addr} {l0 p0:Nat} {g1:Option Addr} {l1 p1:Nat} {g2:Option Addr} {l2 p2:Nat} {b:Ba} (h:bN w (.agg (aH sa b.names.length sc g0 l0 p0 g1 l1 p1 g2 l2 p2 b)) b)
  (hst:∀s∈b.names,s.size<=140737488351232) (xh:s.size<=140737488351232) (hsz:bS w) {E:Int} (hE:(aQ b=false/\E=7)\/(aQ b=true/\dG s=false/\E=4)\/(aQ b=true/\dG s=true/\¬(0<=time/\time<=1048575/\-1000000<=value/\value<=1000000)/\E=2)\/(aQ b=true/\dG s=true/\(0<=time/\time<=1048575/\-1000000<=value/\value<=1000000)/\time<b.floor/\E=8)) :
  Calls Tryd.prog 22 #[.agg (aH sa b.names.length sc g0 l0 p0 g1 l1 p1 g2 l2 p2 b), .agg #[.string s, .int .i64 time, .int .i64 value]] w fun x w'=>ah w w'/\x = .returned (.tuple #[dH, .int .i64 E]):=by
 obtain⟨W0,hW0⟩:=bQ (((w.alloc (.cells (aH sa b.names.length sc g0 l0 p0 g1 l1 p1 g2 l2 p2 b) 35)).alloc (.cells #[.string s, .int .i64 time, .int .i64 value] 59)).alloc (.cells cN 35))
 have h0:=kP.start hW0
 have tW:=hdd h0
 have z0:=h0.size
 have iB:=hdd (fG (h.below h0.below) hst (hsz.below h0.below))
 have xE:=hdd fun w'=>uv s w' xh
 have n7:=hdd fun w'=>FU time value w'
 have HE:=hdd hE;clear hE
 obtain⟨y0,y1,y2,y3,y4,y5,y6,y7,yf⟩:=h0.bs
 clear h hst xh hsz h0
 go_enter Tryd.func22,Tryd.ntmps22
 go_upto_region 1 with (fail)
 rw [<-hW0]
 clear hW0
 rcases HE.out with ⟨hm,rfl⟩|⟨hm,hn,rfl⟩|⟨hm,hn,hr,rfl⟩|⟨hm,hn,hr,hf,rfl⟩ <;> clear HE
 ·rw [cS hm]at iB
  clear hm
  go_wp2_with (first|(go_at_call 31;(with_reducible refine iB.out.mono ?_);rintro e w1 ⟨rfl,hb1⟩;have gw:=hdd (tW.out.later hb1 z0);have z1:=gw.out.size;clear y0 y1 y2 y3 y4 y5 y6 y7 yf;obtain⟨y0,y1,y2,y3,y4,y5,y6,y7,yf⟩:=gw.out.bs;obtain⟨q0,q1,q2⟩:=gw.out.lO;obtain⟨r0,r1,r2,r3,r4,r5,r6,r7,rf⟩:=gw.out.zs;clear hb1))
  have di:=gw.out.below
  exact bodyPost_ret (v:= .tuple #[dH, .int .i64 7]) (by simp [results,Tryd.results22,go_sem, *]) rfl ⟨ag,rfl⟩
 ·rw [dW hm]at iB
  rw [hn]at xE
  clear hm hn
  go_wp2_with (first|(go_at_call 31;(with_reducible refine iB.out.mono ?_);rintro e w1 ⟨rfl,hb1⟩;have gw:=hdd (tW.out.later hb1 z0);have z1:=gw.out.size;clear y0 y1 y2 y3 y4 y5 y6 y7 yf;obtain⟨y0,y1,y2,y3,y4,y5,y6,y7,yf⟩:=gw.out.bs;obtain⟨q0,q1,q2⟩:=gw.out.lO;obtain⟨r0,r1,r2,r3,r4,r5,r6,r7,rf⟩:=gw.out.zs;clear hb1)|(go_at_call 39;(with_reducible refine(xE.out w1).mono ?_);rintro e w2 ⟨rfl,hb2⟩;have nJ:=hdd (gw.out.later hb2 z1);have z2:=nJ.out.size;clear y0 y1 y2 y3 y4 y5 y6 y7 yf q0 q1 q2 r0 r1 r2 r3 r4 r5 r6 r7 rf;obtain⟨y0,y1,y2,y3,y4,y5,y6,y7,yf⟩:=nJ.out.bs;obtain⟨q0,q1,q2⟩:=nJ.out.lO;obtain⟨r0,r1,r2,r3,r4,r5,r6,r7,rf⟩:=nJ.out.zs;clear hb2))
  have di:=nJ.out.below
  exact bodyPost_ret (v:= .tuple #[dH, .int .i64 4]) (by simp [results,Tryd.results22,go_sem, *]) rfl ⟨ag,rfl⟩
 ·rw [dW hm]at iB
  rw [hn]at xE
  rw [show eJ time value=(au.zero,2)from ai hr]at n7
  clear hm hn hr
  go_upto_region 7 with (first|(go_at_call 31;(with_reducible refine iB.out.mono ?_);rintro e w1 ⟨rfl,hb1⟩;have gw:=hdd (tW.out.later hb1 z0);have z1:=gw.out.size;clear y0 y1 y2 y3 y4 y5 y6 y7 yf;obtain⟨y0,y1,y2,y3,y4,y5,y6,y7,yf⟩:=gw.out.bs;obtain⟨q0,q1,q2⟩:=gw.out.lO;obtain⟨r0,r1,r2,r3,r4,r5,r6,r7,rf⟩:=gw.out.zs;clear hb1)|(go_at_call 39;(with_reducible refine(xE.out w1).mono ?_);rintro e w2 ⟨rfl,hb2⟩;have nJ:=hdd (gw.out.later hb2 z1);have z2:=nJ.out.size;clear y0 y1 y2 y3 y4 y5 y6 y7 yf q0 q1 q2 r0 r1 r2 r3 r4 r5 r6 r7 rf;obtain⟨y0,y1,y2,y3,y4,y5,y6,y7,yf⟩:=nJ.out.bs;obtain⟨q0,q1,q2⟩:=nJ.out.lO;obtain⟨r0,r1,r2,r3,r4,r5,r6,r7,rf⟩:=nJ.out.zs;clear hb2)|(go_at_call 17;(with_reducible refine(n7.out w2).mono ?_);rintro e w3 ⟨rfl,hb3⟩))
  obtain⟨W3,hW3⟩:=bQ (w3.alloc (.cells #[.int .i64 au.zero.c, .int .i64 au.zero.s, .int .i64 au.zero.mi, .int .i64 au.zero.ma, .int .i64 au.zero.t, .int .i64 au.zero.l] 42))
  have wO:=hdd (show ah w2 W3 from by rw [hW3];exact Below.trans' hb3 ((aJ _ _).alloc aI _) hb3.size)
  have vA:=hdd (nJ.out.later wO.out z2)
  have UI:W3.heap.size=w3.heap.size+1:=by rw [hW3];simp
  have z3:w.heap.size+3<=w3.heap.size:=by have:=hb3.size;omega
  have E3:=hdd (show W3.heap[w3.heap.size]?=some (.cells #[.int .i64 au.zero.c, .int .i64 au.zero.s, .int .i64 au.zero.mi, .int .i64 au.zero.ma, .int .i64 au.zero.t, .int .i64 au.zero.l] 42) by rw [hW3];exact aq _ _ rfl)
  rw [<-hW3]
  clear hW3 hb3 y0 y1 y2 y3 y4 y5 y6 y7 yf q0 q1 q2 r0 r1 r2 r3 r4 r5 r6 r7 rf
  obtain⟨y0,y1,y2,y3,y4,y5,y6,y7,yf⟩:=vA.out.bs
  obtain⟨q0,q1,q2⟩:=vA.out.lO
  obtain⟨r0,r1,r2,r3,r4,r5,r6,r7,rf⟩:=vA.out.zs
  go_wp2_with fail
  have di:=vA.out.below
  exact bodyPost_ret (v:= .tuple #[dH, .int .i64 2]) (by simp [results,Tryd.results22,go_sem, *]) rfl ⟨ag,rfl⟩
 ·rw [dW hm]at iB
  rw [hn]at xE
  rw [show eJ time value=(⟨1,value,value,value,time,value⟩,0)from ar hr]at n7
  clear hm hn hr
  go_upto_region 7 with (first|(go_at_call 31;(with_reducible refine iB.out.mono ?_);rintro e w1 ⟨rfl,hb1⟩;have gw:=hdd (tW.out.later hb1 z0);have z1:=gw.out.size;clear y0 y1 y2 y3 y4 y5 y6 y7 yf;obtain⟨y0,y1,y2,y3,y4,y5,y6,y7,yf⟩:=gw.out.bs;obtain⟨q0,q1,q2⟩:=gw.out.lO;obtain⟨r0,r1,r2,r3,r4,r5,r6,r7,rf⟩:=gw.out.zs;clear hb1)|(go_at_call 39;(with_reducible refine(xE.out w1).mono ?_);rintro e w2 ⟨rfl,hb2⟩;have nJ:=hdd (gw.out.later hb2 z1);have z2:=nJ.out.size;clear y0 y1 y2 y3 y4 y5 y6 y7 yf q0 q1 q2 r0 r1 r2 r3 r4 r5 r6 r7 rf;obtain⟨y0,y1,y2,y3,y4,y5,y6,y7,yf⟩:=nJ.out.bs;obtain⟨q0,q1,q2⟩:=nJ.out.lO;obtain⟨r0,r1,r2,r3,r4,r5,r6,r7,rf⟩:=nJ.out.zs;clear hb2)|(go_at_call 17;(with_reducible refine(n7.out w2).mono ?_);rintro e w3 ⟨rfl,hb3⟩))
  obtain⟨W3,hW3⟩:=bQ (w3.alloc (.cells #[.int .i64 1, .int .i64 value, .int .i64 value, .int .i64 value, .int .i64 time, .int .i64 value] 42))
  have wO:=hdd (show ah w2 W3 from by rw [hW3];exact Below.trans' hb3 ((aJ _ _).alloc aI _) hb3.size)
  have vA:=hdd (nJ.out.later wO.out z2)
  have UI:W3.heap.size=w3.heap.size+1:=by rw [hW3];simp
  have z3:w.heap.size+3<=w3.heap.size:=by have:=hb3.size;omega
  have E3:=hdd (show W3.heap[w3.heap.size]?=some (.cells #[.int .i64 1, .int .i64 value, .int .i64 value, .int .i64 value, .int .i64 time, .int .i64 value] 42) by rw [hW3];exact aq _ _ rfl)
  rw [<-hW3]
  clear hW3 hb3 y0 y1 y2 y3 y4 y5 y6 y7 yf q0 q1 q2 r0 r1 r2 r3 r4 r5 r6 r7 rf
  obtain⟨y0,y1,y2,y3,y4,y5,y6,y7,yf⟩:=vA.out.bs
  obtain⟨q0,q1,q2⟩:=vA.out.lO
  obtain⟨r0,r1,r2,r3,r4,r5,r6,r7,rf⟩:=vA.out.zs
  go_wp2_with fail
  have di:=vA.out.below
  exact bodyPost_ret (v:= .tuple #[dH, .int .i64 8]) (by simp [results,Tryd.results22,go_sem, *]) rfl ⟨ag,rfl⟩
end
section
variable {b:Ba} {s:ByteArray} {rt time value r0 r1 r2:Int} {B n c rb sc l0 p0 l1 p1 l2 p2:Nat} {T:Nat->Tr} {so sn g0 g1 g2:Option Addr} {t':Tr} {w wx wr:World}
theorem mY {ops:Array Oper} {rest:List Oper} {o:Oper} {a:Act} {Q:Exit->Act->World->Prop} (hgd:o.guard=none) (s x:Operand)
  (ho:o.op = .call { callee:= .builtin .append,args:=#[s,x],argTypes:=#[29,29] }) (B:Nat) (v:Value) (es:List ByteArray) (hs:a.eval s=v) (hown:w.ownsRow B 9 1 v es.length (es.flatMap jg))
  (ad:Addr) (e:ByteArray) (hx:a.eval x = .slice (some ad) 1 1) (hnews:w.cell? ad=some (.string e)) (hlen:es.length<=1000000) (hbase:B<=w.heap.size)
  (h:∀v' w',w'.ownsRow B 9 1 v' (es.length+1) ((es++[e]).flatMap jg)->w.grownBy w' v.ownBlock->(v'.ownBlock=v.ownBlock\/v'.ownBlock=some w.heap.size)->wpList Tryd.prog ops Q rest (a.put o.dst v') w'):wpList Tryd.prog ops Q (o::rest) a w:=by
 obtain⟨i0,z,hi,hz,hz1,hz2,hz3⟩:=cC Tryd.V7
 refine wpList_append_own_at w hgd s x 29 ho B 9 i0 z 1 16 Tryd.underlying29 hi hz hz1 hz2 hz3 aW v es.length _ hs hown ad 1 1 (jg e) hx rfl (fun j u hu=>?_) (fun u hu=>Bn [e] u (by simpa using hu)) (by unfold maxLen;omega) af hbase ?_
 ·cases j with
  |zero=>simp [jg]at hu;subst hu;simpa [Addr.add] using hnews
  |succ j=>simp [jg]at hu
 ·intro v' w' hown' hg _ h4
  refine h v' w' ?_ hg h4
  have:(es++[e]).flatMap jg=es.flatMap jg++jg e:=bq
  rw [this];exact hown'
theorem fP.keep {B':Nat} {t:Tr} {key:Int} {r:au} {w6:World} {E2:Int} (h:fP B t key r w6 so n c rt E2) (hk:aP B w6 wx) (hB:B'<=B):fP B' t key r wx so n c rt E2:=by
 rcases h with h|⟨h1,t2,h2,l2,g1,g2,g3,⟨g4,g5,g6,g7⟩|g4⟩
 ·exact .inl h
 ·exact .inr ⟨h1,t2,h2,l2,g1,g2,g3, .inl ⟨g4,g5,g6,fun w'' hw=>g7 w'' (hk.trans (hw.mono hB))⟩⟩
 ·exact .inr ⟨h1,t2,h2,l2,g1,g2,g3, .inr g4⟩
theorem fo {b:Nat} {v0 v1 v2 v3 v4 v5 v6 v7:Value} (h:b≠B) :
  ((((((((w.setCell ⟨B,0,none⟩ v0).setCell ⟨B,1,none⟩ v1).setCell ⟨B,2,none⟩ v2).setCell ⟨B,3,none⟩ v3).setCell ⟨B,4,none⟩ v4).setCell ⟨B,5,none⟩ v5).setCell ⟨B,6,none⟩ v6).setCell ⟨B,7,none⟩ v7).heap[b]?=w.heap[b]?:=by
 rw [heap_setCell_other _ ⟨B,_,none⟩ b _ h,heap_setCell_other _ ⟨B,_,none⟩ b _ h,heap_setCell_other _ ⟨B,_,none⟩ b _ h,heap_setCell_other _ ⟨B,_,none⟩ b _ h,heap_setCell_other _ ⟨B,_,none⟩ b _ h,heap_setCell_other _ ⟨B,_,none⟩ b _ h,heap_setCell_other _ ⟨B,_,none⟩ b _ h,heap_setCell_other _ ⟨B,_,none⟩ b _ h]
structure vv (w:World) (b:Ba) (s:ByteArray) (time value:Int) (rb k:Nat) (sn:Option Addr) (sc:Nat) (g0:Option Addr) (l0 p0:Nat) (r0:Int) (g1:Option Addr) (l1 p1:Nat) (r1:Int) (g2:Option Addr) (l2 p2:Nat) (r2:Int) (T:Nat->Tr) (wr:World):Prop where
 at':kP w #[.slice sn (bA b s).length sc, .slice g0 l0 p0, .int .i64 r0, .slice g1 l1 p1, .int .i64 r1, .slice g2 l2 p2, .int .i64 r2, .int .i64 b.floor] s time value wr
 Lv:wr.heap[rb]?=some (.cells #[.int .i64 1, .int .i64 value, .int .i64 value, .int .i64 value, .int .i64 time, .int .i64 value] 42)
 FK:w.heap.size+3<=rb
 names:∀w'',aP (w.heap.size+3) wr w''->jM w'' (.slice sn (bA b s).length sc) (bA b s)
 t0:∀w'',aP (w.heap.size+3) wr w''->bL w'' (.agg #[.slice g0 l0 p0, .int .i64 r0]) (T 0)
 t1:∀w'',aP (w.heap.size+3) wr w''->bL w'' (.agg #[.slice g1 l1 p1, .int .i64 r1]) (T 1)
 t2:∀w'',aP (w.heap.size+3) wr w''->bL w'' (.agg #[.slice g2 l2 p2, .int .i64 r2]) (T 2)
 done:∀j,j<k->ax (T j)=0/\gI (T j).all (dX b s time value j::(b.tree j).all)/\nE (T j)<=nE (b.tree j)+1/\Small (dX b s time value j::(b.tree j).all)
 rest:∀j,k<=j->j<3->T j=b.tree j
theorem vv.later {k:Nat}
  (h:vv w b s time value rb k sn sc g0 l0 p0 r0 g1 l1 p1 r1 g2 l2 p2 r2 T wr) (hb:ah wr wx):vv w b s time value rb k sn sc g0 l0 p0 r0 g1 l1 p1 r1 g2 l2 p2 r2 T wx:=by
 have hk:=aP.of (M:=w.heap.size+3) hb aI
 exact⟨h.at'.later hb h.at'.size,(hb.block rb (eW.1 h.Lv).1).trans h.Lv,h.FK,fun w'' hw=>h.names w'' (hk.trans hw),fun w'' hw=>h.t0 w'' (hk.trans hw),fun w'' hw=>h.t1 w'' (hk.trans hw),fun w'' hw=>h.t2 w'' (hk.trans hw),h.done,h.rest⟩
theorem vv.step0
  (h:vv w b s time value rb 0 sn sc g0 l0 p0 r0 g1 l1 p1 r1 g2 l2 p2 r2 T wr) (hb:ah wr wx) (htr:∀w'',aP wr.heap.size wx w''->bL w'' (.agg #[.slice so n c, .int .i64 rt]) t')
  (hf:ax t'=0) (he:gI t'.all (dX b s time value 0::(b.tree 0).all)) (hw':nE t'<=nE (b.tree 0)+1) (hsm:Small (dX b s time value 0::(b.tree 0).all)) :
  vv w b s time value rb 1 sn sc so n c rt g1 l1 p1 r1 g2 l2 p2 r2 (fun j=>if j=0 then t' else T j) ((wx.setCell ⟨w.heap.size,1,none⟩ (.slice so n c)).setCell ⟨w.heap.size,2,none⟩ (.int .i64 rt)):=by
 have h1:=h.at'.size
 have hbz:=hb.size
 have eD:aP (w.heap.size+3) wx ((wx.setCell ⟨w.heap.size,1,none⟩ (.slice so n c)).setCell ⟨w.heap.size,2,none⟩ (.int .i64 rt)):=((aP.refl _ _).set (by show w.heap.size<w.heap.size+3;omega) _).set (by show w.heap.size<w.heap.size+3;omega) _
 have hk:=(aP.of (M:=w.heap.size+3) hb aI).trans eD
 have hx:=h.at'.later hb h1
 have ho:∀q,q≠w.heap.size->((wx.setCell ⟨w.heap.size,1,none⟩ (.slice so n c)).setCell ⟨w.heap.size,2,none⟩ (.int .i64 rt)).heap[q]?=wx.heap[q]?:=fun q hq=>(heap_setCell_other _ ⟨w.heap.size,_,none⟩ q _ hq).trans (heap_setCell_other _ ⟨w.heap.size,_,none⟩ q _ hq)
 refine⟨⟨(hx.below.setCell (by show w.heap.size<=w.heap.size;omega) _).setCell (by show w.heap.size<=w.heap.size;omega) _,by simp only [ay];exact hx.size,?_,(ho _ af).trans hx.pt,(ho _ af).trans hx.res⟩,?_,h.FK,fun w'' hw=>h.names w'' (hk.trans hw),fun w'' hw=>by rw [ar rfl];exact htr w'' ((eD.trans hw).mono h.at'.size),fun w'' hw=>by rw [ai aW];exact h.t1 w'' (hk.trans hw),fun w'' hw=>by rw [ai aW];exact h.t2 w'' (hk.trans hw),fun j hj=>?_,fun j hj h3=>?_⟩
 ·have:=heap_setCell_same (off:=2) (v:= .int .i64 rt) (heap_setCell_same (off:=1) (v:= .slice so n c) hx.box)
  simpa using this
 ·have hr:=h.FK
  exact(ho rb af).trans ((hb.block rb (eW.1 h.Lv).1).trans h.Lv)
 ·by_cases hjk:j=0
  ·subst hjk;simp only [ar];exact⟨hf,he,hw',hsm⟩
  ·simp only [ai hjk];exact h.done j af
 ·simp only [ai (show j≠0 by omega)];exact h.rest j af h3
theorem vv.CU
  (h:vv w b s time value rb 1 sn sc g0 l0 p0 r0 g1 l1 p1 r1 g2 l2 p2 r2 T wr) (hb:ah wr wx) (htr:∀w'',aP wr.heap.size wx w''->bL w'' (.agg #[.slice so n c, .int .i64 rt]) t')
  (hf:ax t'=0) (he:gI t'.all (dX b s time value 1::(b.tree 1).all)) (hw':nE t'<=nE (b.tree 1)+1) (hsm:Small (dX b s time value 1::(b.tree 1).all)) :
  vv w b s time value rb 2 sn sc g0 l0 p0 r0 so n c rt g2 l2 p2 r2 (fun j=>if j=1 then t' else T j) ((wx.setCell ⟨w.heap.size,3,none⟩ (.slice so n c)).setCell ⟨w.heap.size,4,none⟩ (.int .i64 rt)):=by
 have h1:=h.at'.size
 have hbz:=hb.size
 have eD:aP (w.heap.size+3) wx ((wx.setCell ⟨w.heap.size,3,none⟩ (.slice so n c)).setCell ⟨w.heap.size,4,none⟩ (.int .i64 rt)):=((aP.refl _ _).set (by show w.heap.size<w.heap.size+3;omega) _).set (by show w.heap.size<w.heap.size+3;omega) _
 have hk:=(aP.of (M:=w.heap.size+3) hb aI).trans eD
 have hx:=h.at'.later hb h1
 have ho:∀q,q≠w.heap.size->((wx.setCell ⟨w.heap.size,3,none⟩ (.slice so n c)).setCell ⟨w.heap.size,4,none⟩ (.int .i64 rt)).heap[q]?=wx.heap[q]?:=fun q hq=>(heap_setCell_other _ ⟨w.heap.size,_,none⟩ q _ hq).trans (heap_setCell_other _ ⟨w.heap.size,_,none⟩ q _ hq)
 refine⟨⟨(hx.below.setCell (by show w.heap.size<=w.heap.size;omega) _).setCell (by show w.heap.size<=w.heap.size;omega) _,by simp only [ay];exact hx.size,?_,(ho _ af).trans hx.pt,(ho _ af).trans hx.res⟩,?_,h.FK,fun w'' hw=>h.names w'' (hk.trans hw),fun w'' hw=>by rw [ai aW];exact h.t0 w'' (hk.trans hw),fun w'' hw=>by rw [ar rfl];exact htr w'' ((eD.trans hw).mono h.at'.size),fun w'' hw=>by rw [ai aW];exact h.t2 w'' (hk.trans hw),fun j hj=>?_,fun j hj h3=>?_⟩
 ·have:=heap_setCell_same (off:=4) (v:= .int .i64 rt) (heap_setCell_same (off:=3) (v:= .slice so n c) hx.box)
  simpa using this
 ·have hr:=h.FK
  exact(ho rb af).trans ((hb.block rb (eW.1 h.Lv).1).trans h.Lv)
 ·by_cases hjk:j=1
  ·subst hjk;simp only [ar];exact⟨hf,he,hw',hsm⟩
  ·simp only [ai hjk];exact h.done j af
 ·simp only [ai (show j≠1 by omega)];exact h.rest j af h3
theorem vv.CT
  (h:vv w b s time value rb 2 sn sc g0 l0 p0 r0 g1 l1 p1 r1 g2 l2 p2 r2 T wr) (hb:ah wr wx) (htr:∀w'',aP wr.heap.size wx w''->bL w'' (.agg #[.slice so n c, .int .i64 rt]) t')
  (hf:ax t'=0) (he:gI t'.all (dX b s time value 2::(b.tree 2).all)) (hw':nE t'<=nE (b.tree 2)+1) (hsm:Small (dX b s time value 2::(b.tree 2).all)) :
  vv w b s time value rb 3 sn sc g0 l0 p0 r0 g1 l1 p1 r1 so n c rt (fun j=>if j=2 then t' else T j) ((wx.setCell ⟨w.heap.size,5,none⟩ (.slice so n c)).setCell ⟨w.heap.size,6,none⟩ (.int .i64 rt)):=by
 have h1:=h.at'.size
 have hbz:=hb.size
 have eD:aP (w.heap.size+3) wx ((wx.setCell ⟨w.heap.size,5,none⟩ (.slice so n c)).setCell ⟨w.heap.size,6,none⟩ (.int .i64 rt)):=((aP.refl _ _).set (by show w.heap.size<w.heap.size+3;omega) _).set (by show w.heap.size<w.heap.size+3;omega) _
 have hk:=(aP.of (M:=w.heap.size+3) hb aI).trans eD
 have hx:=h.at'.later hb h1
 have ho:∀q,q≠w.heap.size->((wx.setCell ⟨w.heap.size,5,none⟩ (.slice so n c)).setCell ⟨w.heap.size,6,none⟩ (.int .i64 rt)).heap[q]?=wx.heap[q]?:=fun q hq=>(heap_setCell_other _ ⟨w.heap.size,_,none⟩ q _ hq).trans (heap_setCell_other _ ⟨w.heap.size,_,none⟩ q _ hq)
 refine⟨⟨(hx.below.setCell (by show w.heap.size<=w.heap.size;omega) _).setCell (by show w.heap.size<=w.heap.size;omega) _,by simp only [ay];exact hx.size,?_,(ho _ af).trans hx.pt,(ho _ af).trans hx.res⟩,?_,h.FK,fun w'' hw=>h.names w'' (hk.trans hw),fun w'' hw=>by rw [ai aW];exact h.t0 w'' (hk.trans hw),fun w'' hw=>by rw [ai aW];exact h.t1 w'' (hk.trans hw),fun w'' hw=>by rw [ar rfl];exact htr w'' ((eD.trans hw).mono h.at'.size),fun j hj=>?_,fun j hj h3=>?_⟩
 ·have:=heap_setCell_same (off:=6) (v:= .int .i64 rt) (heap_setCell_same (off:=5) (v:= .slice so n c) hx.box)
  simpa using this
 ·have hr:=h.FK
  exact(ho rb af).trans ((hb.block rb (eW.1 h.Lv).1).trans h.Lv)
 ·by_cases hjk:j=2
  ·subst hjk;simp only [ar];exact⟨hf,he,hw',hsm⟩
  ·simp only [ai hjk];exact h.done j af
 ·simp only [ai (show j≠2 by omega)];exact h.rest j af h3
end
end Go.Proofs.YtmljjfhgciaceaaDoor
