/- Texts of mine that come as one: AddP Add AddK. -/
import Derived.Test.YtmljjfhgciaceaaDoorHd
import Derived.Test.YtmljjfhgciaceaaDoorAQ
import Derived.Test.YtmljjfhgciaceaaDoorPS
import Derived.Test.YtmljjfhgciaceaaDoorPG
import Derived.Test.YtmljjfhgciaceaaDoorBK
import Derived.Test.YtmljjfhgciaceaaDoorPC
import Derived.Test.YtmljjfhgciaceaaDoorKG
namespace Go.Proofs.YtmljjfhgciaceaaDoor
section
variable {b:Ba} {s:ByteArray} {time value:Int} {l:List aC} {k:Nat}
theorem PB {f:aC->aC} (hf:∀e,(f e).is=e.is) (hk:∀a b:aC,a.key=b.key->(f a).key=(f b).key) {x:aC} (hl:bh l) (hx:x.is.Good):il ((ins l x).map f) (f x::l.map f):=by
 have gm:∀{m:List aC},bh m->bh (m.map f):=fun {m} hm e he=>by
  obtain⟨y,hy,rfl⟩:=wN.1 he
  rw [hf];exact hm y hy
 have gx:bh (f x::l.map f):=fun e he=>by
  rcases fk.1 he with rfl|he
  ·rw [hf];exact hx
  ·exact gm hl e he
 refine⟨gm (jR hl hx),gx,fun k=>?_⟩
 induction l with
 |nil=>rfl
 |cons e l ih=>
  obtain⟨he,hl'⟩:=hl.cons
  have ih:=ih hl' (fun y hy=>by
   rcases fk.1 hy with rfl|hy
   ·rw [hf];exact hx
   ·exact gm hl' y hy)
  have fl:=cV (gm hl').dD k
  unfold ins
  split
  ·rw [List.map_cons,List.map_cons]
   simp only [look]at ih ⊢
   rw [hf,hf]at *
   rw [ih]
   by_cases h1:(f e).key=k <;> by_cases h2:(f x).key=k
   ·simp only [h1,h2,if_true]
    rw [<-join_assoc (.inr he) (.inr hx) fl,join_comm (.inr he) (.inr hx),join_assoc (.inr hx) (.inr he) fl]
   all_goals simp only [h1,h2,if_true,if_false]
  ·split
   ·rename_i heq
    rw [List.map_cons,List.map_cons]
    have e1:(f ⟨x.key,e.is.join x.is⟩).key=(f x).key:=hk _ _ rfl
    have e2:(f e).key=(f x).key:=hk _ _ heq
    simp only [look]
    rw [e1,e2,hf,hf,hf]
    by_cases h:(f x).key=k
    ·simp only [h,if_true]
     rw [join_comm (.inr he) (.inr hx),join_assoc (.inr hx) (.inr he) fl]
    ·simp only [h,if_false]
   ·rfl
theorem I7 (h:bh l):il (oG l) l:=⟨fA h,h,fun k=>fY h k⟩
theorem aaK (h:aO b=true):∃l,bY b=some l/\aT l/\dX l/\∀k,k<3->ax (b.tree k)=0/\il (b.tree k).all (l.map (bucket (aQ k)))/\Small (b.tree k).all:=by
 obtain⟨l,hl,hr,hg,hk⟩:=iV h
 refine⟨l,hl,hr,hg,fun k hk3=>?_⟩
 obtain⟨m,h1,h2⟩:=hk k hk3
 obtain⟨g1,g2,g3,g4,g5⟩:=Po h2
 refine⟨g1,g2.trans ?_,g5⟩
 obtain⟨rfl,-⟩:=fR (fG (aQ k) hg.1) h1
 exact I7 (fG (aQ k) hg.1).bQ
theorem BU (s:Int) (e:aC):(bucket s e).is=e.is:=rfl
theorem Hz (s:Int) (a b:aC) (h:a.key=b.key):(bucket s a).key=(bucket s b).key:=by unfold bucket;simp only;rw [h]
theorem aaC (e:aC):bucket 1 e=e:=by
 unfold bucket
 cases e
 simp [Int.emod_one]
theorem gM (l:List aC):l.map (bucket 1)=l:=by
 rw [List.map_congr_left (g:=id) fun e _=>aaC e,List.map_id]
theorem Ml {t:Tr} {s:Int} (hf:ax t=0) (hc:Checked l) (he:il t.all (l.map (bucket s))) (hs:Small t.all):∃m,bW l s=some m/\allT t=some m:=by
 have hc':=fG s hc
 have hs':Small (l.map (bucket s)):=he.small.1 hs
 refine⟨oG (l.map (bucket s)),by unfold bW;rw [jC hc',ar hs'],?_⟩
 have hg:=hc'.bQ
 exact yI hf (he.trans (I7 hg).symm) (dV hg) (xM hg hs')
def aaj (b:Ba) (s:ByteArray):Int:=if aS b.names s<0 then b.names.length else aS b.names s
def bC (b:Ba) (s:ByteArray):List ByteArray:=if aS b.names s<0 then b.names++[s]else b.names
def cv (b:Ba) (s:ByteArray) (time:Int) (r:aw):aC:=⟨aaj b s*1048576+time,r⟩
noncomputable def jw (b:Ba) (s:ByteArray) (time value:Int):Int:=
 if aO b=false then 7 else if dL s=false then 4 else if (fF time value).2≠0 then(fF time value).2 else if time<b.floor then 8 else if aS b.names s<0/\16<=b.names.length then 1 else 0
noncomputable def ny (b:Ba) (s:ByteArray) (time value:Int):Int:=
 if jw b s time value≠0 then jw b s time value else match bY b with
  |none=>0
  |some l=>match jI l (cv b s time (fF time value).1) with
   |none=>1
   |some l'=>if bW l' 60=none\/bW l' 3600=none then 1 else 0
noncomputable def Ff (b:Ba) (s:ByteArray) (time value:Int):List aC:=
 match bY b with|none=>[]|some l=>ins l (cv b s time (fF time value).1)
theorem mS (h:jw b s time value=0):aO b=true/\dL s=true/\fF time value=(⟨1,value,value,value,time,value⟩,0)/\0<=time/\time<=1048575/\-1000000<=value/\value<=1000000/\b.floor<=time/\0<=aaj b s/\aaj b s<=15/\(aS b.names s<0->b.names.length<16):=by
 unfold jw at h
 split at h
 ·omega
 rename_i h1
 split at h
 ·omega
 rename_i h2
 split at h
 ·contradiction
 rename_i h3
 split at h
 ·omega
 rename_i h4
 split at h
 ·omega
 rename_i h5
 have hm:aO b=true:=by simpa using h1
 have hn:=(dH hm).n16
 have hr:0<=time/\time<=1048575/\-1000000<=value/\value<=1000000:=by
  unfold fF at h3
  split at h3
  ·assumption
  ·exact absurd (show (2:Int)≠0 by decide) h3
 refine⟨hm,by simpa using h2,by unfold fF;rw [ar hr],hr.1,hr.2.1,hr.2.2.1,hr.2.2.2,af,?_,?_,fun h=>af⟩
 ·unfold aaj;split <;> omega
 ·unfold aaj
  rcases fW b.names s with ⟨k,hk,e,-⟩|⟨e,-⟩
  ·rw [e];split <;> omega
  ·rw [e];split <;> omega
theorem nT (h0:0<=time) (h1:time<=1048575) (h2 : -1000000<=value) (h3:value<=1000000):aq ⟨1,value,value,value,time,value⟩=0:=by
 refine ZT ⟨?_,?_,?_,?_,?_,?_,?_,?_,?_,?_,?_,?_⟩ bj ⟨?_,?_,?_,?_⟩ <;> simp only <;> omega
theorem Qm {i:Int} (k:Nat) (r:aw) (h0:0<=time) (h1:time<=1048575):(bucket (aQ k) ⟨i*1048576+time,r⟩).key=i*1048576+time/aQ k*aQ k:=by
 have hm:(i*1048576+time)%1048576=time:=af
 unfold bucket
 simp only
 rw [hm]
 have:=Int.emod_add_mul_ediv time (aQ k)
 rw [Int.mul_comm (time/aQ k)]
 omega
theorem kr (h:jw b s time value=0) (hl:bY b=some l) (hk:k<3) :
  (jk (b.tree k) (aaj b s*1048576+time/aQ k*aQ k) ⟨1,value,value,value,time,value⟩=0/\Small ((⟨aaj b s*1048576+time/aQ k*aQ k,⟨1,value,value,value,time,value⟩⟩:aC)::(b.tree k).all) \/
  jk (b.tree k) (aaj b s*1048576+time/aQ k*aQ k) ⟨1,value,value,value,time,value⟩=1/\¬Small ((⟨aaj b s*1048576+time/aQ k*aQ k,⟨1,value,value,value,time,value⟩⟩:aC)::(b.tree k).all)) /\
  il ((⟨aaj b s*1048576+time/aQ k*aQ k,⟨1,value,value,value,time,value⟩⟩:aC)::(b.tree k).all) ((ins l (cv b s time ⟨1,value,value,value,time,value⟩)).map (bucket (aQ k))):=by
 obtain⟨hm,-,-,h0,h1,h2,h3,-,hi0,hi1,-⟩:=mS h
 obtain⟨l',hl',-,hg,ht⟩:=aaK hm
 obtain rfl:l'=l:=cY (hl'.symm.trans hl)
 obtain⟨t1,t2,t3⟩:=ht k hk
 obtain⟨r,hr⟩:∃r:aw,r=⟨1,value,value,value,time,value⟩:=⟨_,rfl⟩
 have hrc:aq r=0:=by rw [hr];exact nT h0 h1 h2 h3
 have Ou:r.c=1:=by rw [hr]
 rw [<-hr]
 have hrg:r.Good:=(dg hrc af).1
 have hsz:=ir k
 have hkey:=Qm (i:=aaj b s) k r h0 h1
 obtain⟨K,hK⟩:=bt (aaj b s*1048576+time/aQ k*aQ k)
 rw [hK]at hkey ⊢
 have hkr:0<=K/\K<1099511627776:=by
  have:=pZ hsz (e:=⟨aaj b s*1048576+time,r⟩) ⟨by simp only;omega,by simp only;omega⟩
  rw [hkey]at this;exact this
 have hev:il ((⟨K,r⟩:aC)::(b.tree k).all) ((ins l' (cv b s time r)).map (bucket (aQ k))):=by
  have e1:=PB (BU (aQ k)) (Hz (aQ k)) (x:=cv b s time r) hg.1.bQ hrg
  have e2:bucket (aQ k) (cv b s time r)=⟨K,r⟩:=by
   have:(bucket (aQ k) (cv b s time r)).key=K:=hkey
   cases hb:bucket (aQ k) (cv b s time r) with
   |mk a c=>rw [hb]at this;simp only at this;subst this;congr 1;have:=BU (aQ k) (cv b s time r);rw [hb]at this;exact this
  rw [e2]at e1
  have e3:il ([(⟨K,r⟩:aC)]++(b.tree k).all) ([(⟨K,r⟩:aC)]++l'.map (bucket (aQ k))):=(il.refl (fun e he=>by simp at he;subst he;exact hrg)).append t2
  exact e3.trans e1.symm
 have hsmall:Small ((⟨K,r⟩:aC)::(b.tree k).all)↔(look (b.tree k).all K).c+r.c<=1073741824:=by
  constructor
  ·intro hs
   have:=hs K
   simp only [look,ar trivial,dF]at this
   omega
  ·intro hs q
   simp only [look]
   by_cases hq:K=q
   ·subst hq;rw [ar rfl,dF];omega
   ·rw [ai hq];exact t3 q
 refine⟨?_,hev⟩
 unfold jk
 rw [ai (by simp [t1]),ai af,ai (by simp [hrc])]
 by_cases hc:(look (b.tree k).all K).c+r.c<=1073741824
 ·rw [ar hc]
  exact .inl ⟨rfl,hsmall.2 hc⟩
 ·rw [ai hc]
  exact .inr ⟨rfl,fun hs=>hc (hsmall.1 hs)⟩
def dW (b:Ba) (s:ByteArray) (time value:Int) (k:Nat):aC:=⟨aaj b s*1048576+time/aQ k*aQ k,⟨1,value,value,value,time,value⟩⟩
theorem Qn (h:jw b s time value=0) (hl:bY b=some l) (hs:Small (dW b s time value 0::(b.tree 0).all)) :
  jI l (cv b s time ⟨1,value,value,value,time,value⟩)=some (ins l (cv b s time ⟨1,value,value,value,time,value⟩))/\Checked (ins l (cv b s time ⟨1,value,value,value,time,value⟩)):=by
 obtain⟨hm,-,-,h0,h1,h2,h3,-,hi0,hi1,-⟩:=mS h
 have hev:=(kr h hl (k:=0) aW).2
 have hs2:=hev.small.1 hs
 rw [show aQ 0=1 from rfl,gM]at hs2
 obtain⟨hr,hg⟩:=gw hl
 have hrc:=nT h0 h1 h2 h3
 have hrg:(⟨1,value,value,value,time,value⟩:aw).Good:=(dg hrc bj).1
 have hc:(look l (cv b s time ⟨1,value,value,value,time,value⟩).key).c+(cv b s time ⟨1,value,value,value,time,value⟩).is.c<=1073741824:=by
  have:=hs2 (cv b s time ⟨1,value,value,value,time,value⟩).key
  rw [aau hg.1.bQ.dD (.inr hrg),ar rfl,dF]at this
  exact this
 refine⟨?_,aaY hr hg.1 hrg hc⟩
 rw [yz hr (by show (1:Int)<=_;omega),ar hc]
theorem NK (h:jw b s time value=0) (hl:bY b=some l) (hk:k<3) (hs:¬Small (dW b s time value k::(b.tree k).all)):ny b s time value=1:=by
 obtain⟨hm,-,hro,h0,h1,h2,h3,-,hi0,hi1,-⟩:=mS h
 unfold ny
 rw [ai (by simp [h]),hl]
 simp only
 rw [hro]
 simp only
 cases hi:jI l (cv b s time ⟨1,value,value,value,time,value⟩) with
 |none=>rfl
 |some l'=>
  simp only
  obtain⟨hr,hg⟩:=gw hl
  have hrc:=nT h0 h1 h2 h3
  have hrg:(⟨1,value,value,value,time,value⟩:aw).Good:=(dg hrc bj).1
  have Va:=yz hr (x:=cv b s time ⟨1,value,value,value,time,value⟩) (by show (1:Int)<=_;omega)
  rw [hi]at Va
  split at Va
  ·rename_i hc
   obtain rfl:=cY Va
   have Es:=aaY hr hg.1 hrg hc
   have hev:=(kr h hl hk).2
   have hns:bW (ins l (cv b s time ⟨1,value,value,value,time,value⟩)) (aQ k)=none:=by
    unfold bW
    rw [jC (fG _ Es),ai fun hh=>hs (hev.small.2 hh)]
   have:k=0\/k=1\/k=2:=af
   rcases this with rfl|rfl|rfl
   ·rw [show aQ 0=1 from rfl]at hns
    unfold bW at hns
    rw [gM,jC Es]at hns
    split at hns
    ·cases hns
    ·rename_i hh
     exact absurd (mG (jH hr) Es) hh
   ·rw [ar (.inl hns)]
   ·rw [ar (.inr hns)]
  ·cases Va
theorem wP (h:jw b s time value=0) (hl:bY b=some l) (hs:∀k,k<3->Small (dW b s time value k::(b.tree k).all)) :
  ny b s time value=0/\Ff b s time value=ins l (cv b s time ⟨1,value,value,value,time,value⟩)/\Checked (ins l (cv b s time ⟨1,value,value,value,time,value⟩)):=by
 obtain⟨hm,-,hro,h0,h1,h2,h3,-,hi0,hi1,-⟩:=mS h
 obtain⟨hi,Es⟩:=Qn h hl (hs 0 aW)
 have hr:∀k,k<3->bW (ins l (cv b s time ⟨1,value,value,value,time,value⟩)) (aQ k)≠none:=fun k hk=>by
  have hev:=(kr h hl hk).2
  unfold bW
  rw [jC (fG _ Es),ar (hev.small.1 (hs k hk))]
  simp
 refine⟨?_,by unfold Ff;rw [hl,hro],Es⟩
 unfold ny
 rw [ai (by simp [h]),hl]
 simp only
 rw [hro]
 simp only
 rw [hi]
 simp only
 rw [ai]
 rintro(hh|hh)
 ·exact hr 1 aW hh
 ·exact hr 2 aW hh
theorem Ud {T:Nat->Tr} (h:jw b s time value=0) (hl:bY b=some l) (hs:∀k,k<3->Small (dW b s time value k::(b.tree k).all))
  (hT:∀k,k<3->ax (T k)=0/\il (T k).all (dW b s time value k::(b.tree k).all)) :
  aO ⟨bC b s,T 0,T 1,T 2,b.floor⟩=true/\bY ⟨bC b s,T 0,T 1,T 2,b.floor⟩=some (Ff b s time value):=by
 obtain⟨hm,hn,hro,h0,h1,h2,h3,hfl,hi0,hi1,hnl⟩:=mS h
 obtain⟨-,hL,Es⟩:=wP h hl hs
 obtain⟨hr,hg⟩:=gw hl
 have hB:=dH hm
 obtain⟨Eo,hl2⟩:=lC hl
 have hev:∀k,k<3->il (T k).all ((ins l (cv b s time ⟨1,value,value,value,time,value⟩)).map (bucket (aQ k))):=fun k hk=>(hT k hk).2.trans (kr h hl hk).2
 have hsm:∀k,k<3->Small (T k).all:=fun k hk=>(hT k hk).2.small.2 (hs k hk)
 have hkn:∀k,k<3->∃m,bW (ins l (cv b s time ⟨1,value,value,value,time,value⟩)) (aQ k)=some m/\allT (T k)=some m:=fun k hk=>Ml (hT k hk).1 Es (hev k hk) (hsm k hk)
 have ha0:allT (T 0)=some (Ff b s time value):=by
  have e:=hev 0 aW
  rw [show aQ 0=1 from rfl,gM]at e
  rw [hL]
  exact yI (hT 0 aW).1 e (jH hr) Es
 have hlen:b.names.length<=(bC b s).length/\(aaj b s).toNat<(bC b s).length/\(bC b s).length<=16:=by
  have:=hB.n16
  unfold bC aaj
  rcases fW b.names s with ⟨k,hk,e,-⟩|⟨e,-⟩
  ·rw [e,ai af,ai af];omega
  ·rw [e,ar af,ar af]
   have:=hnl (by rw [e];decide)
   simp;omega
 have uJ:bY ⟨bC b s,T 0,T 1,T 2,b.floor⟩=some (Ff b s time value):=by
  refine uW ha0 (nK.2 fun e he=>?_)
  rw [hL]at he
  have hold:∀y∈l,jn b y=true:=nK.1 hl2
  unfold jn
  simp only [Bool.and_eq_true,yi]
  have PU:(aaj b s*1048576+time)%1048576=time:=af
  have hdiv:(aaj b s*1048576+time)/1048576=aaj b s:=af
  have QV:(cv b s time ⟨1,value,value,value,time,value⟩).key/1048576<((bC b s).length:Int)/\b.floor<=(cv b s time ⟨1,value,value,value,time,value⟩).key%1048576:=by
   unfold cv
   simp only
   rw [PU,hdiv]
   omega
  have MB:∀y∈l,y.key/1048576<((bC b s).length:Int)/\b.floor<=y.key%1048576/\y.is.t=y.key%1048576:=fun y hy=>by
   have:=hold y hy
   unfold jn at this
   simp only [Bool.and_eq_true,yi]at this
   exact⟨af,this.1.2,this.2⟩
  have hin:∀(l:List aC),(∀y∈l,y.is.t=y.key%1048576)->∀e∈ins l (cv b s time ⟨1,value,value,value,time,value⟩),e.is.t=e.key%1048576:=by
   intro l
   induction l with
   |nil=>
    intro _ e he
    simp [ins]at he;subst he
    unfold cv;simp only;rw [PU]
   |cons y l ih=>
    intro hy e he
    unfold ins at he
    split at he
    ·rcases fk.1 he with rfl|he
     ·exact hy _ bj
     ·exact ih (fun z hz=>hy z (by simp [hz])) e he
    ·split at he
     ·rename_i heq
      rcases fk.1 he with rfl|he
      ·have ht:=hy y bj
       rw [heq]at ht
       have hk:(cv b s time ⟨1,value,value,value,time,value⟩).key%1048576=time:=by unfold cv;simp only;exact PU
       show (y.is.join _).t=_
       rw [hk]at ht ⊢
       unfold aw.join cv
       simp only
       rw [ai aW]
       split
       ·rfl
       ·simp only
        split
        ·rfl
        ·exact ht
      ·exact hy e (by simp [he])
     ·rcases fk.1 he with rfl|he
      ·unfold cv;simp only;rw [PU]
      ·exact hy e he
  refine⟨⟨?_,?_⟩,hin l (fun y hy=>(MB y hy).2.2) e he⟩
  ·rcases rh he with hk|⟨y,hy,hk⟩
   ·rw [hk];exact QV.1
   ·rw [<-hk];exact(MB y hy).1
  ·rcases rh he with hk|⟨y,hy,hk⟩
   ·rw [hk];exact QV.2
   ·rw [<-hk];exact(MB y hy).2.1
 refine⟨jX ⟨hlen.2.2,hB.Y9,hB.XC,hB.fl2,?_,_,uJ,fun k hk=>?_⟩,uJ⟩
 ·intro i hi
  have hi:i<(bC b s).length:=hi
  show dL (bC b s)[i]=true/\∀k (hk:k<i),(bC b s)[k]≠(bC b s)[i]
  by_cases hp:aS b.names s<0
  ·have hns:bC b s=b.names++[s]:=ar hp
   have hno:∀j (hj:j<b.names.length),b.names[j]≠s:=by
    rcases fW b.names s with ⟨k,hk,e,-⟩|⟨-,h⟩
    ·omega
    ·exact h
   simp only [hns]at hi ⊢
   rw [dO,List.length_singleton]at hi
   by_cases hlt:i<b.names.length
   ·have:=hB.names i hlt
    rw [List.getElem_append_left hlt]
    refine⟨this.1,fun k hk=>?_⟩
    rw [List.getElem_append_left af]
    exact this.2 k hk
   ·have Va:i=b.names.length:=af
    subst Va
    rw [List.getElem_append_right aH]
    simp only [Nat.sub_self,List.getElem_singleton]
    refine⟨hn,fun k hk=>?_⟩
    rw [List.getElem_append_left hk]
    exact hno k hk
  ·have hns:bC b s=b.names:=ai hp
   simp only [hns]at hi ⊢
   exact hB.names i hi
 ·have hk3:k=0\/k=1\/k=2:=af
  obtain⟨m,g1,g2⟩:=hkn k hk
  unfold fE
  rw [hL,g1]
  rcases hk3 with rfl|rfl|rfl
  ·show (match some m,allT (T 0) with|some a,some c=>decide (a=c)|_,_=>false)=true
   rw [g2];simp
  ·show (match some m,allT (T 1) with|some a,some c=>decide (a=c)|_,_=>false)=true
   rw [g2];simp
  ·show (match some m,allT (T 2) with|some a,some c=>decide (a=c)|_,_=>false)=true
   rw [g2];simp
end
open Go.RowKit
section
set_option maxRecDepth 100000
set_option maxHeartbeats 4000000
variable {cs:Array Value} {s:ByteArray} {time value:Int} {w w1:World}
structure kP (w:World) (cs:Array Value) (s:ByteArray) (time value:Int) (w':World):Prop where
 below:ah w w'
 size:w.heap.size+3<=w'.heap.size
 box:w'.heap[w.heap.size]?=some (.cells cs 35)
 pt:w'.heap[w.heap.size+1]?=some (.cells #[.string s, .int .i64 time, .int .i64 value] 59)
 res:w'.heap[w.heap.size+2]?=some (.cells cL 35)
theorem kP.start {W0:World} (hW0:W0=((w.alloc (.cells cs 35)).alloc (.cells #[.string s, .int .i64 time, .int .i64 value] 59)).alloc (.cells cL 35)):kP w cs s time value W0:=by
 refine⟨by rw [hW0];exact ag,by rw [hW0];simp,?_,?_,?_⟩
 ·rw [hW0,kW _ _ _ (by simp;omega),kW _ _ _ bj];exact aj _ _ rfl
 ·rw [hW0,kW _ _ _ bj];exact aj _ _ bj
 ·rw [hW0];exact aj _ _ bj
theorem kP.later {w2:World} {B:Nat} (h:kP w cs s time value w1) (hb:Below B w1 w2) (hB:w.heap.size+3<=B):kP w cs s time value w2:=
 ⟨⟨hb.os.trans h.below.os,hb.tape.trans h.below.tape,hb.output.trans h.below.output,ik h.below.size hb.size,fun k hk=>(hb.block k af).trans (h.below.block k hk)⟩,by have:=hb.size;have:=h.size;omega,
  (hb.block _ af).trans h.box,(hb.block _ af).trans h.pt,(hb.block _ af).trans h.res⟩
theorem kP.oO (h:kP w cs s time value w1):w1.cell? ⟨w.heap.size+1,0,none⟩=some (.string s)/\w1.cell? ⟨w.heap.size+1,1,none⟩=some (.int .i64 time)/\w1.cell? ⟨w.heap.size+1,2,none⟩=some (.int .i64 value):=by simp [World.cell?,h.pt]
theorem kP.zs (h:kP w cs s time value w1):w1.cell? ⟨w.heap.size+2,0,none⟩=some (.slice none 0 0)/\w1.cell? ⟨w.heap.size+2,1,none⟩=some (.slice none 0 0)/\w1.cell? ⟨w.heap.size+2,2,none⟩=some (.int .i64 0)/\w1.cell? ⟨w.heap.size+2,3,none⟩=some (.slice none 0 0)/\w1.cell? ⟨w.heap.size+2,4,none⟩=some (.int .i64 0)/\w1.cell? ⟨w.heap.size+2,5,none⟩=some (.slice none 0 0)/\w1.cell? ⟨w.heap.size+2,6,none⟩=some (.int .i64 0)/\w1.cell? ⟨w.heap.size+2,7,none⟩=some (.int .i64 0)/\∀o,w1.frozen? ⟨w.heap.size+2,o,none⟩=false:=by simp [World.cell?,World.frozen?,h.res]
theorem kP.bs {v0 v1 v2 v3 v4 v5 v6 v7:Value} (h:kP w #[v0,v1,v2,v3,v4,v5,v6,v7] s time value w1):w1.cell? ⟨w.heap.size,0,none⟩=some v0/\w1.cell? ⟨w.heap.size,1,none⟩=some v1/\w1.cell? ⟨w.heap.size,2,none⟩=some v2/\w1.cell? ⟨w.heap.size,3,none⟩=some v3/\w1.cell? ⟨w.heap.size,4,none⟩=some v4/\w1.cell? ⟨w.heap.size,5,none⟩=some v5/\w1.cell? ⟨w.heap.size,6,none⟩=some v6/\w1.cell? ⟨w.heap.size,7,none⟩=some v7/\∀o,w1.frozen? ⟨w.heap.size,o,none⟩=false:=by simp [World.cell?,World.frozen?,h.box]
theorem yJ {sa:Option Addr} {sc:Nat} {g0:Option Addr} {l0 p0:Nat} {g1:Option Addr} {l1 p1:Nat} {g2:Option Addr} {l2 p2:Nat} {b:Ba} (h:bO w (.agg (aG sa b.names.length sc g0 l0 p0 g1 l1 p1 g2 l2 p2 b)) b)
  (hst:∀s∈b.names,s.size<=140737488351232) (xB:s.size<=140737488351232) (hsz:bL w) {E:Int} (hE:(aO b=false/\E=7)\/(aO b=true/\dL s=false/\E=4)\/(aO b=true/\dL s=true/\¬(0<=time/\time<=1048575/\-1000000<=value/\value<=1000000)/\E=2)\/(aO b=true/\dL s=true/\(0<=time/\time<=1048575/\-1000000<=value/\value<=1000000)/\time<b.floor/\E=8)) :
  Calls Tryd.prog 22 #[.agg (aG sa b.names.length sc g0 l0 p0 g1 l1 p1 g2 l2 p2 b), .agg #[.string s, .int .i64 time, .int .i64 value]] w fun x w'=>ah w w'/\x = .returned (.tuple #[dC, .int .i64 E]):=by
 obtain⟨W0,hW0⟩:=bP (((w.alloc (.cells (aG sa b.names.length sc g0 l0 p0 g1 l1 p1 g2 l2 p2 b) 35)).alloc (.cells #[.string s, .int .i64 time, .int .i64 value] 59)).alloc (.cells cL 35))
 have h0:=kP.start hW0
 have tW:=hdd h0
 have z0:=h0.size
 have iq:=hdd (eO (h.below h0.below) hst (hsz.below h0.below))
 have xR:=hdd fun w'=>uv s w' xB
 have nY:=hdd fun w'=>Gf time value w'
 have HE:=hdd hE;clear hE
 obtain⟨y0,y1,y2,y3,y4,y5,y6,y7,yf⟩:=h0.bs
 clear h hst xB hsz h0
 go_enter Tryd.func22,Tryd.ntmps22
 go_upto_region 1 with (fail)
 rw [<-hW0]
 clear hW0
 rcases HE.out with ⟨hm,rfl⟩|⟨hm,hn,rfl⟩|⟨hm,hn,hr,rfl⟩|⟨hm,hn,hr,hf,rfl⟩ <;> clear HE
 ·rw [cN hm]at iq
  clear hm
  go_wp2_with (first|(go_at_call 31;(with_reducible refine iq.out.mono ?_);rintro e w1 ⟨rfl,hb1⟩;have gD:=hdd (tW.out.later hb1 z0);have z1:=gD.out.size;clear y0 y1 y2 y3 y4 y5 y6 y7 yf;obtain⟨y0,y1,y2,y3,y4,y5,y6,y7,yf⟩:=gD.out.bs;obtain⟨q0,q1,q2⟩:=gD.out.oO;obtain⟨r0,r1,r2,r3,r4,r5,r6,r7,rf⟩:=gD.out.zs;clear hb1))
  have cZ:=gD.out.below
  exact bodyPost_ret (v:= .tuple #[dC, .int .i64 7]) (by simp [results,Tryd.results22,go_sem, *]) rfl ⟨ag,rfl⟩
 ·rw [dG hm]at iq
  rw [hn]at xR
  clear hm hn
  go_wp2_with (first|(go_at_call 31;(with_reducible refine iq.out.mono ?_);rintro e w1 ⟨rfl,hb1⟩;have gD:=hdd (tW.out.later hb1 z0);have z1:=gD.out.size;clear y0 y1 y2 y3 y4 y5 y6 y7 yf;obtain⟨y0,y1,y2,y3,y4,y5,y6,y7,yf⟩:=gD.out.bs;obtain⟨q0,q1,q2⟩:=gD.out.oO;obtain⟨r0,r1,r2,r3,r4,r5,r6,r7,rf⟩:=gD.out.zs;clear hb1)|(go_at_call 39;(with_reducible refine(xR.out w1).mono ?_);rintro e w2 ⟨rfl,hb2⟩;have nH:=hdd (gD.out.later hb2 z1);have z2:=nH.out.size;clear y0 y1 y2 y3 y4 y5 y6 y7 yf q0 q1 q2 r0 r1 r2 r3 r4 r5 r6 r7 rf;obtain⟨y0,y1,y2,y3,y4,y5,y6,y7,yf⟩:=nH.out.bs;obtain⟨q0,q1,q2⟩:=nH.out.oO;obtain⟨r0,r1,r2,r3,r4,r5,r6,r7,rf⟩:=nH.out.zs;clear hb2))
  have cZ:=nH.out.below
  exact bodyPost_ret (v:= .tuple #[dC, .int .i64 4]) (by simp [results,Tryd.results22,go_sem, *]) rfl ⟨ag,rfl⟩
 ·rw [dG hm]at iq
  rw [hn]at xR
  rw [show fF time value=(aw.zero,2)from ai hr]at nY
  clear hm hn hr
  go_upto_region 7 with (first|(go_at_call 31;(with_reducible refine iq.out.mono ?_);rintro e w1 ⟨rfl,hb1⟩;have gD:=hdd (tW.out.later hb1 z0);have z1:=gD.out.size;clear y0 y1 y2 y3 y4 y5 y6 y7 yf;obtain⟨y0,y1,y2,y3,y4,y5,y6,y7,yf⟩:=gD.out.bs;obtain⟨q0,q1,q2⟩:=gD.out.oO;obtain⟨r0,r1,r2,r3,r4,r5,r6,r7,rf⟩:=gD.out.zs;clear hb1)|(go_at_call 39;(with_reducible refine(xR.out w1).mono ?_);rintro e w2 ⟨rfl,hb2⟩;have nH:=hdd (gD.out.later hb2 z1);have z2:=nH.out.size;clear y0 y1 y2 y3 y4 y5 y6 y7 yf q0 q1 q2 r0 r1 r2 r3 r4 r5 r6 r7 rf;obtain⟨y0,y1,y2,y3,y4,y5,y6,y7,yf⟩:=nH.out.bs;obtain⟨q0,q1,q2⟩:=nH.out.oO;obtain⟨r0,r1,r2,r3,r4,r5,r6,r7,rf⟩:=nH.out.zs;clear hb2)|(go_at_call 17;(with_reducible refine(nY.out w2).mono ?_);rintro e w3 ⟨rfl,hb3⟩))
  obtain⟨W3,hW3⟩:=bP (w3.alloc (.cells #[.int .i64 aw.zero.c, .int .i64 aw.zero.s, .int .i64 aw.zero.mi, .int .i64 aw.zero.ma, .int .i64 aw.zero.t, .int .i64 aw.zero.l] 42))
  have sU:=hdd (show ah w2 W3 from by rw [hW3];exact Below.trans' hb3 ((aI _ _).alloc aH _) hb3.size)
  have vG:=hdd (nH.out.later sU.out z2)
  have UL:W3.heap.size=w3.heap.size+1:=by rw [hW3];simp
  have z3:w.heap.size+3<=w3.heap.size:=by have:=hb3.size;omega
  have Fp:=hdd (show W3.heap[w3.heap.size]?=some (.cells #[.int .i64 aw.zero.c, .int .i64 aw.zero.s, .int .i64 aw.zero.mi, .int .i64 aw.zero.ma, .int .i64 aw.zero.t, .int .i64 aw.zero.l] 42) by rw [hW3];exact aj _ _ rfl)
  rw [<-hW3]
  clear hW3 hb3 y0 y1 y2 y3 y4 y5 y6 y7 yf q0 q1 q2 r0 r1 r2 r3 r4 r5 r6 r7 rf
  obtain⟨y0,y1,y2,y3,y4,y5,y6,y7,yf⟩:=vG.out.bs
  obtain⟨q0,q1,q2⟩:=vG.out.oO
  obtain⟨r0,r1,r2,r3,r4,r5,r6,r7,rf⟩:=vG.out.zs
  go_wp2_with fail
  have cZ:=vG.out.below
  exact bodyPost_ret (v:= .tuple #[dC, .int .i64 2]) (by simp [results,Tryd.results22,go_sem, *]) rfl ⟨ag,rfl⟩
 ·rw [dG hm]at iq
  rw [hn]at xR
  rw [show fF time value=(⟨1,value,value,value,time,value⟩,0)from ar hr]at nY
  clear hm hn hr
  go_upto_region 7 with (first|(go_at_call 31;(with_reducible refine iq.out.mono ?_);rintro e w1 ⟨rfl,hb1⟩;have gD:=hdd (tW.out.later hb1 z0);have z1:=gD.out.size;clear y0 y1 y2 y3 y4 y5 y6 y7 yf;obtain⟨y0,y1,y2,y3,y4,y5,y6,y7,yf⟩:=gD.out.bs;obtain⟨q0,q1,q2⟩:=gD.out.oO;obtain⟨r0,r1,r2,r3,r4,r5,r6,r7,rf⟩:=gD.out.zs;clear hb1)|(go_at_call 39;(with_reducible refine(xR.out w1).mono ?_);rintro e w2 ⟨rfl,hb2⟩;have nH:=hdd (gD.out.later hb2 z1);have z2:=nH.out.size;clear y0 y1 y2 y3 y4 y5 y6 y7 yf q0 q1 q2 r0 r1 r2 r3 r4 r5 r6 r7 rf;obtain⟨y0,y1,y2,y3,y4,y5,y6,y7,yf⟩:=nH.out.bs;obtain⟨q0,q1,q2⟩:=nH.out.oO;obtain⟨r0,r1,r2,r3,r4,r5,r6,r7,rf⟩:=nH.out.zs;clear hb2)|(go_at_call 17;(with_reducible refine(nY.out w2).mono ?_);rintro e w3 ⟨rfl,hb3⟩))
  obtain⟨W3,hW3⟩:=bP (w3.alloc (.cells #[.int .i64 1, .int .i64 value, .int .i64 value, .int .i64 value, .int .i64 time, .int .i64 value] 42))
  have sU:=hdd (show ah w2 W3 from by rw [hW3];exact Below.trans' hb3 ((aI _ _).alloc aH _) hb3.size)
  have vG:=hdd (nH.out.later sU.out z2)
  have UL:W3.heap.size=w3.heap.size+1:=by rw [hW3];simp
  have z3:w.heap.size+3<=w3.heap.size:=by have:=hb3.size;omega
  have Fp:=hdd (show W3.heap[w3.heap.size]?=some (.cells #[.int .i64 1, .int .i64 value, .int .i64 value, .int .i64 value, .int .i64 time, .int .i64 value] 42) by rw [hW3];exact aj _ _ rfl)
  rw [<-hW3]
  clear hW3 hb3 y0 y1 y2 y3 y4 y5 y6 y7 yf q0 q1 q2 r0 r1 r2 r3 r4 r5 r6 r7 rf
  obtain⟨y0,y1,y2,y3,y4,y5,y6,y7,yf⟩:=vG.out.bs
  obtain⟨q0,q1,q2⟩:=vG.out.oO
  obtain⟨r0,r1,r2,r3,r4,r5,r6,r7,rf⟩:=vG.out.zs
  go_wp2_with fail
  have cZ:=vG.out.below
  exact bodyPost_ret (v:= .tuple #[dC, .int .i64 8]) (by simp [results,Tryd.results22,go_sem, *]) rfl ⟨ag,rfl⟩
end
section
variable {b:Ba} {s:ByteArray} {rt time value r0 r1 r2:Int} {B n c rb sc l0 p0 l1 p1 l2 p2:Nat} {T:Nat->Tr} {so sn g0 g1 g2:Option Addr} {t':Tr} {w wx wr:World}
theorem mX {ops:Array Oper} {rest:List Oper} {o:Oper} {a:Act} {Q:Exit->Act->World->Prop} (hgd:o.guard=none) (s x:Operand)
  (ho:o.op = .call { callee:= .builtin .append,args:=#[s,x],argTypes:=#[29,29] }) (B:Nat) (v:Value) (es:List ByteArray) (hs:a.eval s=v) (hown:w.ownsRow B 9 1 v es.length (es.flatMap jg))
  (ad:Addr) (e:ByteArray) (hx:a.eval x = .slice (some ad) 1 1) (hnews:w.cell? ad=some (.string e)) (hlen:es.length<=1000000) (hbase:B<=w.heap.size)
  (h:∀v' w',w'.ownsRow B 9 1 v' (es.length+1) ((es++[e]).flatMap jg)->w.grownBy w' v.ownBlock->(v'.ownBlock=v.ownBlock\/v'.ownBlock=some w.heap.size)->wpList Tryd.prog ops Q rest (a.put o.dst v') w'):wpList Tryd.prog ops Q (o::rest) a w:=by
 obtain⟨i0,z,hi,hz,hz1,hz2,hz3⟩:=cj Tryd.VY
 refine wpList_append_own_at w hgd s x 29 ho B 9 i0 z 1 16 Tryd.underlying29 hi hz hz1 hz2 hz3 aW v es.length _ hs hown ad 1 1 (jg e) hx rfl (fun j u hu=>?_) (fun u hu=>BR [e] u (by simpa using hu)) (by unfold maxLen;omega) af hbase ?_
 ·cases j with
  |zero=>simp [jg]at hu;subst hu;simpa [Addr.add] using hnews
  |succ j=>simp [jg]at hu
 ·intro v' w' hown' hg _ h4
  refine h v' w' ?_ hg h4
  have:(es++[e]).flatMap jg=es.flatMap jg++jg e:=bj
  rw [this];exact hown'
theorem fJ.keep {B':Nat} {t:Tr} {key:Int} {r:aw} {w6:World} {E2:Int} (h:fJ B t key r w6 so n c rt E2) (hk:aM B w6 wx) (hB:B'<=B):fJ B' t key r wx so n c rt E2:=by
 rcases h with h|⟨h1,t2,h2,l2,g1,g2,g3,⟨g4,g5,g6,g7⟩|g4⟩
 ·exact .inl h
 ·exact .inr ⟨h1,t2,h2,l2,g1,g2,g3, .inl ⟨g4,g5,g6,fun w'' hw=>g7 w'' (hk.trans (hw.mono hB))⟩⟩
 ·exact .inr ⟨h1,t2,h2,l2,g1,g2,g3, .inr g4⟩
theorem aac {b:Nat} {v0 v1 v2 v3 v4 v5 v6 v7:Value} (h:b≠B) :
  ((((((((w.setCell ⟨B,0,none⟩ v0).setCell ⟨B,1,none⟩ v1).setCell ⟨B,2,none⟩ v2).setCell ⟨B,3,none⟩ v3).setCell ⟨B,4,none⟩ v4).setCell ⟨B,5,none⟩ v5).setCell ⟨B,6,none⟩ v6).setCell ⟨B,7,none⟩ v7).heap[b]?=w.heap[b]?:=by
 rw [heap_setCell_other _ ⟨B,_,none⟩ b _ h,heap_setCell_other _ ⟨B,_,none⟩ b _ h,heap_setCell_other _ ⟨B,_,none⟩ b _ h,heap_setCell_other _ ⟨B,_,none⟩ b _ h,heap_setCell_other _ ⟨B,_,none⟩ b _ h,heap_setCell_other _ ⟨B,_,none⟩ b _ h,heap_setCell_other _ ⟨B,_,none⟩ b _ h,heap_setCell_other _ ⟨B,_,none⟩ b _ h]
structure vw (w:World) (b:Ba) (s:ByteArray) (time value:Int) (rb k:Nat) (sn:Option Addr) (sc:Nat) (g0:Option Addr) (l0 p0:Nat) (r0:Int) (g1:Option Addr) (l1 p1:Nat) (r1:Int) (g2:Option Addr) (l2 p2:Nat) (r2:Int) (T:Nat->Tr) (wr:World):Prop where
 at':kP w #[.slice sn (bC b s).length sc, .slice g0 l0 p0, .int .i64 r0, .slice g1 l1 p1, .int .i64 r1, .slice g2 l2 p2, .int .i64 r2, .int .i64 b.floor] s time value wr
 LK:wr.heap[rb]?=some (.cells #[.int .i64 1, .int .i64 value, .int .i64 value, .int .i64 value, .int .i64 time, .int .i64 value] 42)
 F7:w.heap.size+3<=rb
 names:∀w'',aM (w.heap.size+3) wr w''->jN w'' (.slice sn (bC b s).length sc) (bC b s)
 t0:∀w'',aM (w.heap.size+3) wr w''->bM w'' (.agg #[.slice g0 l0 p0, .int .i64 r0]) (T 0)
 t1:∀w'',aM (w.heap.size+3) wr w''->bM w'' (.agg #[.slice g1 l1 p1, .int .i64 r1]) (T 1)
 t2:∀w'',aM (w.heap.size+3) wr w''->bM w'' (.agg #[.slice g2 l2 p2, .int .i64 r2]) (T 2)
 done:∀j,j<k->ax (T j)=0/\il (T j).all (dW b s time value j::(b.tree j).all)/\nC (T j)<=nC (b.tree j)+1/\Small (dW b s time value j::(b.tree j).all)
 rest:∀j,k<=j->j<3->T j=b.tree j
theorem vw.later {k:Nat}
  (h:vw w b s time value rb k sn sc g0 l0 p0 r0 g1 l1 p1 r1 g2 l2 p2 r2 T wr) (hb:ah wr wx):vw w b s time value rb k sn sc g0 l0 p0 r0 g1 l1 p1 r1 g2 l2 p2 r2 T wx:=by
 have hk:=aM.of (M:=w.heap.size+3) hb aH
 exact⟨h.at'.later hb h.at'.size,(hb.block rb (eI.1 h.LK).1).trans h.LK,h.F7,fun w'' hw=>h.names w'' (hk.trans hw),fun w'' hw=>h.t0 w'' (hk.trans hw),fun w'' hw=>h.t1 w'' (hk.trans hw),fun w'' hw=>h.t2 w'' (hk.trans hw),h.done,h.rest⟩
theorem vw.step0
  (h:vw w b s time value rb 0 sn sc g0 l0 p0 r0 g1 l1 p1 r1 g2 l2 p2 r2 T wr) (hb:ah wr wx) (htr:∀w'',aM wr.heap.size wx w''->bM w'' (.agg #[.slice so n c, .int .i64 rt]) t')
  (hf:ax t'=0) (he:il t'.all (dW b s time value 0::(b.tree 0).all)) (hw':nC t'<=nC (b.tree 0)+1) (hsm:Small (dW b s time value 0::(b.tree 0).all)) :
  vw w b s time value rb 1 sn sc so n c rt g1 l1 p1 r1 g2 l2 p2 r2 (fun j=>if j=0 then t' else T j) ((wx.setCell ⟨w.heap.size,1,none⟩ (.slice so n c)).setCell ⟨w.heap.size,2,none⟩ (.int .i64 rt)):=by
 have h1:=h.at'.size
 have hbz:=hb.size
 have ey:aM (w.heap.size+3) wx ((wx.setCell ⟨w.heap.size,1,none⟩ (.slice so n c)).setCell ⟨w.heap.size,2,none⟩ (.int .i64 rt)):=((aM.refl _ _).set (by show w.heap.size<w.heap.size+3;omega) _).set (by show w.heap.size<w.heap.size+3;omega) _
 have hk:=(aM.of (M:=w.heap.size+3) hb aH).trans ey
 have hx:=h.at'.later hb h1
 have ho:∀q,q≠w.heap.size->((wx.setCell ⟨w.heap.size,1,none⟩ (.slice so n c)).setCell ⟨w.heap.size,2,none⟩ (.int .i64 rt)).heap[q]?=wx.heap[q]?:=fun q hq=>(heap_setCell_other _ ⟨w.heap.size,_,none⟩ q _ hq).trans (heap_setCell_other _ ⟨w.heap.size,_,none⟩ q _ hq)
 refine⟨⟨(hx.below.setCell (by show w.heap.size<=w.heap.size;omega) _).setCell (by show w.heap.size<=w.heap.size;omega) _,by simp only [aA];exact hx.size,?_,(ho _ af).trans hx.pt,(ho _ af).trans hx.res⟩,?_,h.F7,fun w'' hw=>h.names w'' (hk.trans hw),fun w'' hw=>by rw [ar rfl];exact htr w'' ((ey.trans hw).mono h.at'.size),fun w'' hw=>by rw [ai aW];exact h.t1 w'' (hk.trans hw),fun w'' hw=>by rw [ai aW];exact h.t2 w'' (hk.trans hw),fun j hj=>?_,fun j hj h3=>?_⟩
 ·have:=heap_setCell_same (off:=2) (v:= .int .i64 rt) (heap_setCell_same (off:=1) (v:= .slice so n c) hx.box)
  simpa using this
 ·have hr:=h.F7
  exact(ho rb af).trans ((hb.block rb (eI.1 h.LK).1).trans h.LK)
 ·by_cases hjk:j=0
  ·subst hjk;simp only [ar];exact⟨hf,he,hw',hsm⟩
  ·simp only [ai hjk];exact h.done j af
 ·simp only [ai (show j≠0 by omega)];exact h.rest j af h3
theorem vw.Dh
  (h:vw w b s time value rb 1 sn sc g0 l0 p0 r0 g1 l1 p1 r1 g2 l2 p2 r2 T wr) (hb:ah wr wx) (htr:∀w'',aM wr.heap.size wx w''->bM w'' (.agg #[.slice so n c, .int .i64 rt]) t')
  (hf:ax t'=0) (he:il t'.all (dW b s time value 1::(b.tree 1).all)) (hw':nC t'<=nC (b.tree 1)+1) (hsm:Small (dW b s time value 1::(b.tree 1).all)) :
  vw w b s time value rb 2 sn sc g0 l0 p0 r0 so n c rt g2 l2 p2 r2 (fun j=>if j=1 then t' else T j) ((wx.setCell ⟨w.heap.size,3,none⟩ (.slice so n c)).setCell ⟨w.heap.size,4,none⟩ (.int .i64 rt)):=by
 have h1:=h.at'.size
 have hbz:=hb.size
 have ey:aM (w.heap.size+3) wx ((wx.setCell ⟨w.heap.size,3,none⟩ (.slice so n c)).setCell ⟨w.heap.size,4,none⟩ (.int .i64 rt)):=((aM.refl _ _).set (by show w.heap.size<w.heap.size+3;omega) _).set (by show w.heap.size<w.heap.size+3;omega) _
 have hk:=(aM.of (M:=w.heap.size+3) hb aH).trans ey
 have hx:=h.at'.later hb h1
 have ho:∀q,q≠w.heap.size->((wx.setCell ⟨w.heap.size,3,none⟩ (.slice so n c)).setCell ⟨w.heap.size,4,none⟩ (.int .i64 rt)).heap[q]?=wx.heap[q]?:=fun q hq=>(heap_setCell_other _ ⟨w.heap.size,_,none⟩ q _ hq).trans (heap_setCell_other _ ⟨w.heap.size,_,none⟩ q _ hq)
 refine⟨⟨(hx.below.setCell (by show w.heap.size<=w.heap.size;omega) _).setCell (by show w.heap.size<=w.heap.size;omega) _,by simp only [aA];exact hx.size,?_,(ho _ af).trans hx.pt,(ho _ af).trans hx.res⟩,?_,h.F7,fun w'' hw=>h.names w'' (hk.trans hw),fun w'' hw=>by rw [ai aW];exact h.t0 w'' (hk.trans hw),fun w'' hw=>by rw [ar rfl];exact htr w'' ((ey.trans hw).mono h.at'.size),fun w'' hw=>by rw [ai aW];exact h.t2 w'' (hk.trans hw),fun j hj=>?_,fun j hj h3=>?_⟩
 ·have:=heap_setCell_same (off:=4) (v:= .int .i64 rt) (heap_setCell_same (off:=3) (v:= .slice so n c) hx.box)
  simpa using this
 ·have hr:=h.F7
  exact(ho rb af).trans ((hb.block rb (eI.1 h.LK).1).trans h.LK)
 ·by_cases hjk:j=1
  ·subst hjk;simp only [ar];exact⟨hf,he,hw',hsm⟩
  ·simp only [ai hjk];exact h.done j af
 ·simp only [ai (show j≠1 by omega)];exact h.rest j af h3
theorem vw.Dg
  (h:vw w b s time value rb 2 sn sc g0 l0 p0 r0 g1 l1 p1 r1 g2 l2 p2 r2 T wr) (hb:ah wr wx) (htr:∀w'',aM wr.heap.size wx w''->bM w'' (.agg #[.slice so n c, .int .i64 rt]) t')
  (hf:ax t'=0) (he:il t'.all (dW b s time value 2::(b.tree 2).all)) (hw':nC t'<=nC (b.tree 2)+1) (hsm:Small (dW b s time value 2::(b.tree 2).all)) :
  vw w b s time value rb 3 sn sc g0 l0 p0 r0 g1 l1 p1 r1 so n c rt (fun j=>if j=2 then t' else T j) ((wx.setCell ⟨w.heap.size,5,none⟩ (.slice so n c)).setCell ⟨w.heap.size,6,none⟩ (.int .i64 rt)):=by
 have h1:=h.at'.size
 have hbz:=hb.size
 have ey:aM (w.heap.size+3) wx ((wx.setCell ⟨w.heap.size,5,none⟩ (.slice so n c)).setCell ⟨w.heap.size,6,none⟩ (.int .i64 rt)):=((aM.refl _ _).set (by show w.heap.size<w.heap.size+3;omega) _).set (by show w.heap.size<w.heap.size+3;omega) _
 have hk:=(aM.of (M:=w.heap.size+3) hb aH).trans ey
 have hx:=h.at'.later hb h1
 have ho:∀q,q≠w.heap.size->((wx.setCell ⟨w.heap.size,5,none⟩ (.slice so n c)).setCell ⟨w.heap.size,6,none⟩ (.int .i64 rt)).heap[q]?=wx.heap[q]?:=fun q hq=>(heap_setCell_other _ ⟨w.heap.size,_,none⟩ q _ hq).trans (heap_setCell_other _ ⟨w.heap.size,_,none⟩ q _ hq)
 refine⟨⟨(hx.below.setCell (by show w.heap.size<=w.heap.size;omega) _).setCell (by show w.heap.size<=w.heap.size;omega) _,by simp only [aA];exact hx.size,?_,(ho _ af).trans hx.pt,(ho _ af).trans hx.res⟩,?_,h.F7,fun w'' hw=>h.names w'' (hk.trans hw),fun w'' hw=>by rw [ai aW];exact h.t0 w'' (hk.trans hw),fun w'' hw=>by rw [ai aW];exact h.t1 w'' (hk.trans hw),fun w'' hw=>by rw [ar rfl];exact htr w'' ((ey.trans hw).mono h.at'.size),fun j hj=>?_,fun j hj h3=>?_⟩
 ·have:=heap_setCell_same (off:=6) (v:= .int .i64 rt) (heap_setCell_same (off:=5) (v:= .slice so n c) hx.box)
  simpa using this
 ·have hr:=h.F7
  exact(ho rb af).trans ((hb.block rb (eI.1 h.LK).1).trans h.LK)
 ·by_cases hjk:j=2
  ·subst hjk;simp only [ar];exact⟨hf,he,hw',hsm⟩
  ·simp only [ai hjk];exact h.done j af
 ·simp only [ai (show j≠2 by omega)];exact h.rest j af h3
end
end Go.Proofs.YtmljjfhgciaceaaDoor
