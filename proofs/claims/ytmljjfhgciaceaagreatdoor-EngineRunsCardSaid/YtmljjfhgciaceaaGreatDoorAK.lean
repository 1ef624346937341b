/- Lemmas of the proof. -/
import Derived.Test.YtmljjfhgciaceaaGreatDoorHd
import Derived.Test.YtmljjfhgciaceaaGreatDoorCz
import Derived.Test.YtmljjfhgciaceaaGreatDoorAQ
import Derived.Test.YtmljjfhgciaceaaGreatDoorPS
import Derived.Test.YtmljjfhgciaceaaGreatDoorPG
import Derived.Test.YtmljjfhgciaceaaGreatDoorKG
import Derived.Test.YtmljjfhgciaceaaGreatDoorBK
import Derived.Test.YtmljjfhgciaceaaGreatDoorPC
set_option maxRecDepth 100000
set_option maxHeartbeats 4000000
namespace Go.Proofs.YtmljjfhgciaceaaGreatDoor
open Go.RowKit
section
variable {b:Ba} {s:ByteArray} {time value:Int} {l:List aH}
theorem UY {f:aH->aH} (hf:∀e,(f e).is=e.is) (hk:∀a b:aH,a.key=b.key->(f a).key=(f b).key) {x:aH} (hl:bQ l) (hx:x.is.Good):jv ((ins l x).map f) (f x::l.map f):=by
 have gm:∀{m:List aH},bQ m->bQ (m.map f):=fun {m} hm e he=>by
  obtain⟨y,hy,rfl⟩:=ua.1 he;rw [hf];exact hm y hy
 have gx:bQ (f x::l.map f):=fun e he=>by
  rcases fy.1 he with rfl|he
  ·rw [hf];exact hx
  ·exact gm hl e he
 refine⟨gm (lV hl hx),gx,fun k=>?_⟩
 induction l with
 |nil=>rfl
 |cons e l ih=>
  obtain⟨he,hl'⟩:=hl.cons;have ih:=ih hl' (fun y hy=>by
   rcases fy.1 hy with rfl|hy
   ·rw [hf];exact hx
   ·exact gm hl' y hy)
  have fl:=dM (gm hl').dV k;unfold ins
  split
  ·rw [List.map_cons,List.map_cons];simp only [look]at ih ⊢;rw [hf,hf]at *;rw [ih];by_cases h1:(f e).key=k <;> by_cases h2:(f x).key=k
   ·simp only [h1,h2,if_true];rw [<-join_assoc (.inr he) (.inr hx) fl,join_comm (.inr he) (.inr hx),join_assoc (.inr hx) (.inr he) fl]
   all_goals simp only [h1,h2,if_true,if_false]
  ·split
   ·rename_i heq
    rw [List.map_cons,List.map_cons];have e1:(f ⟨x.key,e.is.join x.is⟩).key=(f x).key:=hk _ _ rfl;have e2:(f e).key=(f x).key:=hk _ _ heq;simp only [look];rw [e1,e2,hf,hf,hf];by_cases h:(f x).key=k
    ·simp only [h,if_true];rw [join_comm (.inr he) (.inr hx),join_assoc (.inr hx) (.inr he) fl]
    ·simp only [h,if_false]
   ·rfl
theorem NH (h:bQ l):jv (pH l) l:=⟨gU h,h,fun k=>iG h k⟩
theorem qq (h:aS b=true):∃l,cx b=some l/\aY l/\dX l/\∀k,k<3->aC (b.tree k)=0/\jv (b.tree k).all (l.map (bucket (bp k)))/\Small (b.tree k).all:=by
 obtain⟨l,hl,hr,hg,hk⟩:=fJ h;refine⟨l,hl,hr,hg,fun k hk3=>?_⟩;obtain⟨m,h1,h2⟩:=hk k hk3;obtain⟨g1,g2,g3,g4,g5⟩:=UG h2;refine⟨g1,g2.trans ?_,g5⟩;obtain⟨rfl,-⟩:=fL (ia (bp k) hg.1) h1;exact NH (ia (bp k) hg.1).cp
theorem Fe (s:Int) (e:aH):(bucket s e).is=e.is:=rfl
theorem Mz (s:Int) (a b:aH) (h:a.key=b.key):(bucket s a).key=(bucket s b).key:=by unfold bucket;simp only;rw [h]
theorem tH (e:aH):bucket 1 e=e:=by
 unfold bucket
 cases e
 simp [Int.emod_one]
theorem iV (l:List aH):l.map (bucket 1)=l:=by
 rw [List.map_congr_left (g:=id) fun e _=>tH e,List.map_id]
theorem Rb {t:Tr} {s:Int} (hf:aC t=0) (hc:Checked l) (he:jv t.all (l.map (bucket s))) (hs:Small t.all):∃m,bw l s=some m/\allT t=some m:=by
 have hc':=ia s hc;have hs':Small (l.map (bucket s)):=he.small.1 hs;refine⟨pH (l.map (bucket s)),by unfold bw;rw [ky hc',aw hs'],?_⟩;have hg:=hc'.cp;exact BA hf (he.trans (NH hg).symm) (eW hg) (AK hg hs')
def jG (b:Ba) (s:ByteArray):Int:=if bt b.names s<0 then b.names.length else bt b.names s
def bH (b:Ba) (s:ByteArray):List ByteArray:=if bt b.names s<0 then b.names++[s]else b.names
def cW (b:Ba) (s:ByteArray) (time:Int) (r:ax):aH:=⟨jG b s*1048576+time,r⟩
noncomputable def gK (b:Ba) (s:ByteArray) (time value:Int):Int:=
 if aS b=false then 7 else if dt s=false then 4 else if (ej time value).2≠0 then(ej time value).2 else if time<b.floor then 8 else if bt b.names s<0/\16<=b.names.length then 1 else 0
noncomputable def fU (b:Ba) (s:ByteArray) (time value:Int):Int:=
 if gK b s time value≠0 then gK b s time value else match cx b with
  |none=>0
  |some l=>match gJ l (cW b s time (ej time value).1) with
   |none=>1
   |some l'=>if bw l' 60=none\/bw l' 3600=none then 1 else 0
noncomputable def xB (b:Ba) (s:ByteArray) (time value:Int):List aH:=
 match cx b with|none=>[]|some l=>ins l (cW b s time (ej time value).1)
theorem kE (h:gK b s time value=0):aS b=true/\dt s=true/\ej time value=(⟨1,value,value,value,time,value⟩,0)/\0<=time/\time<=1048575/\-1000000<=value/\value<=1000000/\b.floor<=time/\0<=jG b s/\jG b s<=15/\(bt b.names s<0->b.names.length<16):=by
 unfold gK at h
 split at h
 ·omega
 rename_i h1
 split at h
 ·omega
 rename_i h2
 split at h
 ·contradiction
 rename_i h3
 split at h
 ·omega
 rename_i h4
 split at h
 ·omega
 rename_i h5
 have hm:aS b=true:=by simpa using h1
 have hn:=(dJ hm).n16;have hr:0<=time/\time<=1048575/\-1000000<=value/\value<=1000000:=by
  unfold ej at h3
  split at h3
  ·assumption
  ·exact absurd (show (2:Int)≠0 by decide) h3
 refine⟨hm,by simpa using h2,by unfold ej;rw [aw hr],hr.1,hr.2.1,hr.2.2.1,hr.2.2.2,ai,?_,?_,fun h=>ai⟩
 ·unfold jG;split <;> omega
 ·unfold jG;rcases iE b.names s with ⟨k,hk,e,-⟩|⟨e,-⟩
  ·rw [e];split <;> omega
  ·rw [e];split <;> omega
theorem lQ (h0:0<=time) (h1:time<=1048575) (h2 : -1000000<=value) (h3:value<=1000000):av ⟨1,value,value,value,time,value⟩=0:=by
 refine rc0 ⟨?_,?_,?_,?_,?_,?_,?_,?_,?_,?_,?_,?_⟩ bh ⟨?_,?_,?_,?_⟩ <;> simp only <;> omega
theorem VD {i:Int} (k:Nat) (r:ax) (h0:0<=time) (h1:time<=1048575):(bucket (bp k) ⟨i*1048576+time,r⟩).key=i*1048576+time/bp k*bp k:=by
 have hm:(i*1048576+time)%1048576=time:=ai;unfold bucket;simp only;rw [hm];have:=Int.emod_add_mul_ediv time (bp k);rw [Int.mul_comm (time/bp k)];omega
theorem qa {k:Nat} (h:gK b s time value=0) (hl:cx b=some l) (hk:k<3) :
  (kL (b.tree k) (jG b s*1048576+time/bp k*bp k) ⟨1,value,value,value,time,value⟩=0/\Small ((⟨jG b s*1048576+time/bp k*bp k,⟨1,value,value,value,time,value⟩⟩:aH)::(b.tree k).all) \/
  kL (b.tree k) (jG b s*1048576+time/bp k*bp k) ⟨1,value,value,value,time,value⟩=1/\¬Small ((⟨jG b s*1048576+time/bp k*bp k,⟨1,value,value,value,time,value⟩⟩:aH)::(b.tree k).all)) /\
  jv ((⟨jG b s*1048576+time/bp k*bp k,⟨1,value,value,value,time,value⟩⟩:aH)::(b.tree k).all) ((ins l (cW b s time ⟨1,value,value,value,time,value⟩)).map (bucket (bp k))):=by
 obtain⟨hm,-,-,h0,h1,h2,h3,-,hi0,hi1,-⟩:=kE h;obtain⟨l',hl',-,hg,ht⟩:=qq hm;obtain rfl:l'=l:=dh (hl'.symm.trans hl);obtain⟨t1,t2,t3⟩:=ht k hk;obtain⟨r,hr⟩:∃r:ax,r=⟨1,value,value,value,time,value⟩:=⟨_,rfl⟩;have hrc:av r=0:=by rw [hr];exact lQ h0 h1 h2 h3
 have Ty:r.c=1:=by rw [hr]
 rw [<-hr];have hrg:r.Good:=(dC hrc ai).1;have hsz:=eB k;have hkey:=VD (i:=jG b s) k r h0 h1;obtain⟨K,hK⟩:=bG (jG b s*1048576+time/bp k*bp k);rw [hK]at hkey ⊢;have hkr:0<=K/\K<1099511627776:=by
  have:=pG hsz (e:=⟨jG b s*1048576+time,r⟩) ⟨by simp only;omega,by simp only;omega⟩;rw [hkey]at this;exact this
 have hev:jv ((⟨K,r⟩:aH)::(b.tree k).all) ((ins l' (cW b s time r)).map (bucket (bp k))):=by
  have e1:=UY (Fe (bp k)) (Mz (bp k)) (x:=cW b s time r) hg.1.cp hrg;have e2:bucket (bp k) (cW b s time r)=⟨K,r⟩:=by
   have:(bucket (bp k) (cW b s time r)).key=K:=hkey
   cases hb:bucket (bp k) (cW b s time r) with
   |mk a c=>rw [hb]at this;simp only at this;subst this;congr 1;have:=Fe (bp k) (cW b s time r);rw [hb]at this;exact this
  rw [e2]at e1;have e3:jv ([(⟨K,r⟩:aH)]++(b.tree k).all) ([(⟨K,r⟩:aH)]++l'.map (bucket (bp k))):=(jv.refl (fun e he=>by simp at he;subst he;exact hrg)).append t2;exact e3.trans e1.symm
 have hsmall:Small ((⟨K,r⟩:aH)::(b.tree k).all)↔(look (b.tree k).all K).c+r.c<=1073741824:=by
  constructor
  ·intro hs;have:=hs K;simp only [look,aw trivial,dO]at this;omega
  ·intro hs q;simp only [look];by_cases hq:K=q
   ·subst hq;rw [aw rfl,dO];omega
   ·rw [ar hq];exact t3 q
 refine⟨?_,hev⟩;unfold kL;rw [ar (by simp [t1]),ar ai,ar (by simp [hrc])];by_cases hc:(look (b.tree k).all K).c+r.c<=1073741824
 ·rw [aw hc];exact .inl ⟨rfl,hsmall.2 hc⟩
 ·rw [ar hc];exact .inr ⟨rfl,fun hs=>hc (hsmall.1 hs)⟩
def j6 (b:Ba) (s:ByteArray) (time value:Int) (k:Nat):aH:=⟨jG b s*1048576+time/bp k*bp k,⟨1,value,value,value,time,value⟩⟩
theorem VE (h:gK b s time value=0) (hl:cx b=some l) (hs:Small (j6 b s time value 0::(b.tree 0).all)) :
  gJ l (cW b s time ⟨1,value,value,value,time,value⟩)=some (ins l (cW b s time ⟨1,value,value,value,time,value⟩))/\Checked (ins l (cW b s time ⟨1,value,value,value,time,value⟩)):=by
 obtain⟨hm,-,-,h0,h1,h2,h3,-,hi0,hi1,-⟩:=kE h;have hev:=(qa h hl (k:=0) bY).2;have hs2:=hev.small.1 hs;rw [show bp 0=1 from rfl,iV]at hs2;obtain⟨hr,hg⟩:=fI hl;have hrc:=lQ h0 h1 h2 h3;have hrg:(⟨1,value,value,value,time,value⟩:ax).Good:=(dC hrc bh).1;have hc:(look l (cW b s time ⟨1,value,value,value,time,value⟩).key).c+(cW b s time ⟨1,value,value,value,time,value⟩).is.c<=1073741824:=by
  have:=hs2 (cW b s time ⟨1,value,value,value,time,value⟩).key;rw [rX hg.1.cp.dV (.inr hrg),aw rfl,dO]at this;exact this
 refine⟨?_,qU hr hg.1 hrg hc⟩;rw [yj hr (by show (1:Int)<=_;omega),aw hc]
theorem SS {k:Nat} (h:gK b s time value=0) (hl:cx b=some l) (hk:k<3) (hs:¬Small (j6 b s time value k::(b.tree k).all)):fU b s time value=1:=by
 obtain⟨hm,-,hro,h0,h1,h2,h3,-,hi0,hi1,-⟩:=kE h;unfold fU;rw [ar (by simp [h]),hl];simp only;rw [hro];simp only
 cases hi:gJ l (cW b s time ⟨1,value,value,value,time,value⟩) with
 |none=>rfl
 |some l'=>
  simp only;obtain⟨hr,hg⟩:=fI hl;have hrc:=lQ h0 h1 h2 h3;have hrg:(⟨1,value,value,value,time,value⟩:ax).Good:=(dC hrc bh).1;have hie:=yj hr (x:=cW b s time ⟨1,value,value,value,time,value⟩) (by show (1:Int)<=_;omega);rw [hi]at hie
  split at hie
  ·rename_i hc
   obtain rfl:=dh hie;have NA:=qU hr hg.1 hrg hc;have hev:=(qa h hl hk).2;have hns:bw (ins l (cW b s time ⟨1,value,value,value,time,value⟩)) (bp k)=none:=by
    unfold bw;rw [ky (ia _ NA),ar fun hh=>hs (hev.small.2 hh)]
   have:k=0\/k=1\/k=2:=ai;rcases this with rfl|rfl|rfl
   ·rw [show bp 0=1 from rfl]at hns;unfold bw at hns;rw [iV,ky NA]at hns
    split at hns
    ·cases hns
    ·rename_i hh
     exact absurd (mI (lH hr) NA) hh
   ·rw [aw (.inl hns)]
   ·rw [aw (.inr hns)]
  ·cases hie
theorem vY (h:gK b s time value=0) (hl:cx b=some l) (hs:∀k,k<3->Small (j6 b s time value k::(b.tree k).all)) :
  fU b s time value=0/\xB b s time value=ins l (cW b s time ⟨1,value,value,value,time,value⟩)/\Checked (ins l (cW b s time ⟨1,value,value,value,time,value⟩)):=by
 obtain⟨hm,-,hro,h0,h1,h2,h3,-,hi0,hi1,-⟩:=kE h;obtain⟨hi,NA⟩:=VE h hl (hs 0 bY);have hr:∀k,k<3->bw (ins l (cW b s time ⟨1,value,value,value,time,value⟩)) (bp k)≠none:=fun k hk=>by
  have hev:=(qa h hl hk).2;unfold bw;rw [ky (ia _ NA),aw (hev.small.1 (hs k hk))];simp
 refine⟨?_,by unfold xB;rw [hl,hro],NA⟩;unfold fU;rw [ar (by simp [h]),hl];simp only;rw [hro];simp only;rw [hi];simp only;rw [ar];rintro(hh|hh)
 ·exact hr 1 bY hh
 ·exact hr 2 bY hh
theorem Zl {T:Nat->Tr} (h:gK b s time value=0) (hl:cx b=some l) (hs:∀k,k<3->Small (j6 b s time value k::(b.tree k).all))
  (hT:∀k,k<3->aC (T k)=0/\jv (T k).all (j6 b s time value k::(b.tree k).all)) :
  aS ⟨bH b s,T 0,T 1,T 2,b.floor⟩=true/\cx ⟨bH b s,T 0,T 1,T 2,b.floor⟩=some (xB b s time value):=by
 obtain⟨hm,hn,hro,h0,h1,h2,h3,hfl,hi0,hi1,hnl⟩:=kE h;obtain⟨-,hL,NA⟩:=vY h hl hs;obtain⟨hr,hg⟩:=fI hl;have hB:=dJ hm;obtain⟨RJ,hl2⟩:=lM hl;have hev:∀k,k<3->jv (T k).all ((ins l (cW b s time ⟨1,value,value,value,time,value⟩)).map (bucket (bp k))):=fun k hk=>(hT k hk).2.trans (qa h hl hk).2;have hsm:∀k,k<3->Small (T k).all:=fun k hk=>(hT k hk).2.small.2 (hs k hk);have hkn:∀k,k<3->∃m,bw (ins l (cW b s time ⟨1,value,value,value,time,value⟩)) (bp k)=some m/\allT (T k)=some m:=fun k hk=>Rb (hT k hk).1 NA (hev k hk) (hsm k hk);have ha0:allT (T 0)=some (xB b s time value):=by
  have e:=hev 0 bY;rw [show bp 0=1 from rfl,iV]at e;rw [hL];exact BA (hT 0 bY).1 e (lH hr) NA
 have hlen:b.names<=(bH b s).length/\(jG b s).toNat<(bH b s).length/\(bH b s).length<=16:=by
  have:=hB.n16;unfold bH jG;rcases iE b.names s with ⟨k,hk,e,-⟩|⟨e,-⟩
  ·rw [e,ar ai,ar ai];omega
  ·rw [e,aw ai,aw ai];have:=hnl (by rw [e];decide);simp;omega
 have yF:cx ⟨bH b s,T 0,T 1,T 2,b.floor⟩=some (xB b s time value):=by
  refine vV ha0 (rH.2 fun e he=>?_);rw [hL]at he;have hold:∀y∈l,iu b y=true:=rH.1 hl2;unfold iu;simp only [Bool.and_eq_true,Du];have Vf:(jG b s*1048576+time)%1048576=time:=ai;have hdiv:(jG b s*1048576+time)/1048576=jG b s:=ai;have Wt:(cW b s time ⟨1,value,value,value,time,value⟩).key/1048576<((bH b s).length:Int)/\b.floor<=(cW b s time ⟨1,value,value,value,time,value⟩).key%1048576:=by
   unfold cW;simp only;rw [Vf,hdiv];omega
  have Ru:∀y∈l,y.key/1048576<((bH b s).length:Int)/\b.floor<=y.key%1048576/\y.is.t=y.key%1048576:=fun y hy=>by
   have:=hold y hy;unfold iu at this;simp only [Bool.and_eq_true,Du]at this;exact⟨ai,this.1.2,this.2⟩
  have hin:∀(l:List aH),(∀y∈l,y.is.t=y.key%1048576)->∀e∈ins l (cW b s time ⟨1,value,value,value,time,value⟩),e.is.t=e.key%1048576:=by
   intro l
   induction l with
   |nil=>
    intro _ e he;simp [ins]at he;subst he;unfold cW;simp only;rw [Vf]
   |cons y l ih=>
    intro hy e he;unfold ins at he
    split at he
    ·rcases fy.1 he with rfl|he
     ·exact hy _ bh
     ·exact ih (fun z hz=>hy z (by simp [hz])) e he
    ·split at he
     ·rename_i heq
      rcases fy.1 he with rfl|he
      ·have ht:=hy y bh;rw [heq]at ht;have hk:(cW b s time ⟨1,value,value,value,time,value⟩).key%1048576=time:=(by unfold cW;simp only;exact Vf);show (y.is.join _).t=_;rw [hk]at ht ⊢;unfold ax.join cW;simp only;rw [ar bY]
       split
       ·rfl
       ·simp only
        split
        ·rfl
        ·exact ht
      ·exact hy e (by simp [he])
     ·rcases fy.1 he with rfl|he
      ·unfold cW;simp only;rw [Vf]
      ·exact hy e he
  refine⟨⟨?_,?_⟩,hin l (fun y hy=>(Ru y hy).2.2) e he⟩
  ·rcases uE he with hk|⟨y,hy,hk⟩
   ·rw [hk];exact Wt.1
   ·rw [<-hk];exact(Ru y hy).1
  ·rcases uE he with hk|⟨y,hy,hk⟩
   ·rw [hk];exact Wt.2
   ·rw [<-hk];exact(Ru y hy).2.1
 refine⟨lZ ⟨hlen.2.2,hB.fl0,hB.TN,hB.Sp,?_,_,yF,fun k hk=>?_⟩,yF⟩
 ·intro i hi;have hi:i<(bH b s).length:=hi;show dt (bH b s)[i]=true/\∀k (hk:k<i),(bH b s)[k]≠(bH b s)[i];by_cases hp:bt b.names s<0
  ·have hns:bH b s=b.names++[s]:=aw hp;have hno:∀j (hj:j<b.names.length),b.names[j]≠s:=by
    rcases iE b.names s with ⟨k,hk,e,-⟩|⟨-,h⟩
    ·omega
    ·exact h
   simp only [hns]at hi ⊢;rw [dF,List.length_singleton]at hi;by_cases hlt:i<b.names
   ·have:=hB.names i hlt;rw [List.getElem_append_left hlt];refine⟨this.1,fun k hk=>?_⟩;rw [List.getElem_append_left ai];exact this.2 k hk
   ·have hie:i=b.names:=ai;subst hie;rw [List.getElem_append_right aO];simp only [Nat.sub_self,List.getElem_singleton];refine⟨hn,fun k hk=>?_⟩;rw [List.getElem_append_left hk];exact hno k hk
  ·have hns:bH b s=b.names:=ar hp;simp only [hns]at hi ⊢;exact hB.names i hi
 ·have hk3:k=0\/k=1\/k=2:=ai;obtain⟨m,g1,g2⟩:=hkn k hk;unfold kK;rw [hL,g1];rcases hk3 with rfl|rfl|rfl
  ·show (match some m,allT (T 0) with|some a,some c=>decide (a=c)|_,_=>false)=true;rw [g2];simp
  ·show (match some m,allT (T 1) with|some a,some c=>decide (a=c)|_,_=>false)=true;rw [g2];simp
  ·show (match some m,allT (T 2) with|some a,some c=>decide (a=c)|_,_=>false)=true;rw [g2];simp
end
section
variable {s:ByteArray} {time value:Int} {w w1:World}
structure ng (w:World) (cs:Array Value) (s:ByteArray) (time value:Int) (w':World):Prop where
 below:aq w w'
 size:w+3<=w'.heap.size
 box:w'.heap[w.heap.size]?=some (.cells cs 30)
 pt:w'.heap[w.heap.size+1]?=some (.cells #[.string s,af time,af value] 70)
 res:w'.heap[w.heap.size+2]?=some (.cells cz 30)
theorem ng.start {W0:World} {cs:Array Value} (hW0:W0=((w.alloc (.cells cs 30)).alloc (.cells #[.string s,af time,af value] 70)).alloc (.cells cz 30)):ng w cs s time value W0:=by
 refine⟨by rw [hW0];exact aj,by rw [hW0];simp,?_,?_,?_⟩
 ·rw [hW0,gy _ _ _ fk,gy _ _ _ bh];exact au _ _ rfl
 ·rw [hW0,gy _ _ _ bh];exact au _ _ bh
 ·rw [hW0];exact au _ _ bh
theorem ng.later {cs:Array Value} {w2:World} {B:Nat} (h:ng w cs s time value w1) (hb:Below B w1 w2) (hB:w+3<=B):ng w cs s time value w2:=
 ⟨⟨hb.os.trans h.below.os,hb.tape.trans h.below.tape,hb.output.trans h.below.output,fZ h.below.size hb.size,fun k hk=>(hb.block k ai).trans (h.below.block k hk)⟩,by have:=hb.size;have:=h.size;omega,
  (hb.block _ ai).trans h.box,(hb.block _ ai).trans h.pt,(hb.block _ ai).trans h.res⟩
theorem ng.rR {cs:Array Value} (h:ng w cs s time value w1):w1.cell? (w,1,0)=some (.string s)/\(w1,w.heap.size+1,1,time)/\(w1,w.heap.size+1,2,value):=by simp [World.cell?,h.pt]
theorem ng.zs {cs:Array Value} (h:ng w cs s time value w1):w1.cell? (w,2,0)=some (az 0 0)/\w1.cell? (w,2,1)=some (az 0 0)/\(w1,w.heap.size+2,2)/\w1.cell? (w,2,3)=some (az 0 0)/\(w1,w.heap.size+2,4)/\w1.cell? (w,2,5)=some (az 0 0)/\(w1,w.heap.size+2,6)/\(w1,w.heap.size+2,7)/\∀o,w1.frozen? ⟨w.heap.size+2,o,none⟩=false:=by simp [World.cell?,World.frozen?,h.res]
theorem ng.bs {v0 v1 v2 v3 v4 v5 v6 v7:Value} (h:ng w #[v0,v1,v2,v3,v4,v5,v6,v7] s time value w1):w1.cell? (w,0)=some v0/\w1.cell? (w,1)=some v1/\w1.cell? (w,2)=some v2/\w1.cell? (w,3)=some v3/\w1.cell? (w,4)=some v4/\w1.cell? (w,5)=some v5/\w1.cell? (w,6)=some v6/\w1.cell? (w,7)=some v7/\∀o,w1.frozen? ⟨w.heap.size,o,none⟩=false:=by simp [World.cell?,World.frozen?,h.box]
theorem BC {sa:Option Addr} {sc:Nat} {g0:Option Addr} {l0 p0:Nat} {g1:Option Addr} {l1 p1:Nat} {g2:Option Addr} {l2 p2:Nat} {b:Ba} (h:bR w (.agg (aL sa b.names sc g0 l0 p0 g1 l1 p1 g2 l2 p2 b)) b)
  (hst:∀s∈b.names,s.size<=140737488351232) (tu:s.size<=140737488351232) (hsz:cI w) {E:Int} (hE:(aS b=false/\E=7)\/(aS b=true/\dt s=false/\E=4)\/(aS b=true/\dt s=true/\¬(0<=time/\time<=1048575/\-1000000<=value/\value<=1000000)/\E=2)\/(aS b=true/\dt s=true/\(0<=time/\time<=1048575/\-1000000<=value/\value<=1000000)/\time<b.floor/\E=8)) :
  Calls Tryz.prog 35 #[.agg (aL sa b.names sc g0 l0 p0 g1 l1 p1 g2 l2 p2 b), .agg #[.string s,af time,af value]] w fun x w'=>aq w w'/\x = .returned (.tuple #[ey,af E]):=by
 obtain⟨W0,hW0⟩:=cd (((w.alloc (.cells (aL sa b.names sc g0 l0 p0 g1 l1 p1 g2 l2 p2 b) 30)).alloc (.cells #[.string s,af time,af value] 70)).alloc (.cells cz 30));have h0:=ng.start hW0;have uX:=ag h0;have z0:=h0.size;have jD:=ag (gP (h.below h0.below) hst (hsz.below h0.below));have vZ:=ag fun w'=>xX s w' tu;have rM:=ag fun w'=>K9 time value w';have HE:=ag hE;clear hE;obtain⟨y0,y1,y2,y3,y4,y5,y6,y7,yf⟩:=h0.bs;clear h hst tu hsz h0;go_enter Tryz.func35,Tryz.ntmps35;go_upto_region 1 with (fail);rw [<-hW0];clear hW0;rcases HE.out with ⟨hm,rfl⟩|⟨hm,hn,rfl⟩|⟨hm,hn,hr,rfl⟩|⟨hm,hn,hr,hf,rfl⟩ <;> clear HE
 ·rw [iA hm]at jD;clear hm;go_wp2_with (first|(go_at_call 66;(with_reducible refine jD.out.mono ?_);rintro e w1 ⟨rfl,hb1⟩;have iN:=ag (uX.later hb1 z0);have z1:=iN.size;clear y0 y1 y2 y3 y4 y5 y6 y7 yf;obtain⟨y0,y1,y2,y3,y4,y5,y6,y7,yf⟩:=iN.bs;obtain⟨q0,q1,q2⟩:=iN.rR;obtain⟨r0,r1,r2,r3,r4,r5,r6,r7,rf⟩:=iN.zs;clear hb1));have cT:=iN.below;exact bW (v:= .tuple #[ey,af 7]) (by simp [results,Tryz.results35,go_sem, *]) rfl ⟨aj,rfl⟩
 ·rw [eU hm]at jD;rw [hn]at vZ;clear hm hn;go_wp2_with (first|(go_at_call 66;(with_reducible refine jD.out.mono ?_);rintro e w1 ⟨rfl,hb1⟩;have iN:=ag (uX.later hb1 z0);have z1:=iN.size;clear y0 y1 y2 y3 y4 y5 y6 y7 yf;obtain⟨y0,y1,y2,y3,y4,y5,y6,y7,yf⟩:=iN.bs;obtain⟨q0,q1,q2⟩:=iN.rR;obtain⟨r0,r1,r2,r3,r4,r5,r6,r7,rf⟩:=iN.zs;clear hb1)|(go_at_call 67;(with_reducible refine(vZ.out w1).mono ?_);rintro e w2 ⟨rfl,hb2⟩;have qC:=ag (iN.later hb2 z1);have z2:=qC.size;clear y0 y1 y2 y3 y4 y5 y6 y7 yf q0 q1 q2 r0 r1 r2 r3 r4 r5 r6 r7 rf;obtain⟨y0,y1,y2,y3,y4,y5,y6,y7,yf⟩:=qC.bs;obtain⟨q0,q1,q2⟩:=qC.rR;obtain⟨r0,r1,r2,r3,r4,r5,r6,r7,rf⟩:=qC.zs;clear hb2));have cT:=qC.below;exact bW (v:= .tuple #[ey,af 4]) (by simp [results,Tryz.results35,go_sem, *]) rfl ⟨aj,rfl⟩
 ·rw [eU hm]at jD;rw [hn]at vZ;rw [show ej time value=(ax.zero,2)from ar hr]at rM;clear hm hn hr;go_upto_region 7 with (first|(go_at_call 66;(with_reducible refine jD.out.mono ?_);rintro e w1 ⟨rfl,hb1⟩;have iN:=ag (uX.later hb1 z0);have z1:=iN.size;clear y0 y1 y2 y3 y4 y5 y6 y7 yf;obtain⟨y0,y1,y2,y3,y4,y5,y6,y7,yf⟩:=iN.bs;obtain⟨q0,q1,q2⟩:=iN.rR;obtain⟨r0,r1,r2,r3,r4,r5,r6,r7,rf⟩:=iN.zs;clear hb1)|(go_at_call 67;(with_reducible refine(vZ.out w1).mono ?_);rintro e w2 ⟨rfl,hb2⟩;have qC:=ag (iN.later hb2 z1);have z2:=qC.size;clear y0 y1 y2 y3 y4 y5 y6 y7 yf q0 q1 q2 r0 r1 r2 r3 r4 r5 r6 r7 rf;obtain⟨y0,y1,y2,y3,y4,y5,y6,y7,yf⟩:=qC.bs;obtain⟨q0,q1,q2⟩:=qC.rR;obtain⟨r0,r1,r2,r3,r4,r5,r6,r7,rf⟩:=qC.zs;clear hb2)|(go_at_call 68;(with_reducible refine(rM.out w2).mono ?_);rintro e w3 ⟨rfl,hb3⟩));obtain⟨W3,hW3⟩:=cd (w3.alloc (.cells #[af ax.zero.c,af ax.zero.s,af ax.zero.mi,af ax.zero.ma,af ax.zero.t,af ax.zero.l] 39));have sL:=ag (show aq w2 W3 from by rw [hW3];exact aF hb3 ((aW _ _).alloc aO _) hb3.size);have zm:=ag (qC.later sL z2);have Z3:W3=w3.heap.size+1:=by rw [hW3];simp
  have z3:w+3<=w3.heap.size:=by have:=hb3.size;omega
  have pL:=ag (show W3.heap[w3.heap.size]?=some (.cells #[af ax.zero.c,af ax.zero.s,af ax.zero.mi,af ax.zero.ma,af ax.zero.t,af ax.zero.l] 39) by rw [hW3];exact au _ _ rfl);rw [<-hW3];clear hW3 hb3 y0 y1 y2 y3 y4 y5 y6 y7 yf q0 q1 q2 r0 r1 r2 r3 r4 r5 r6 r7 rf;obtain⟨y0,y1,y2,y3,y4,y5,y6,y7,yf⟩:=zm.bs;obtain⟨q0,q1,q2⟩:=zm.rR;obtain⟨r0,r1,r2,r3,r4,r5,r6,r7,rf⟩:=zm.zs;go_wp2_with fail;have cT:=zm.below;exact bW (v:= .tuple #[ey,af 2]) (by simp [results,Tryz.results35,go_sem, *]) rfl ⟨aj,rfl⟩
 ·rw [eU hm]at jD;rw [hn]at vZ;rw [show ej time value=(⟨1,value,value,value,time,value⟩,0)from aw hr]at rM;clear hm hn hr;go_upto_region 7 with (first|(go_at_call 66;(with_reducible refine jD.out.mono ?_);rintro e w1 ⟨rfl,hb1⟩;have iN:=ag (uX.later hb1 z0);have z1:=iN.size;clear y0 y1 y2 y3 y4 y5 y6 y7 yf;obtain⟨y0,y1,y2,y3,y4,y5,y6,y7,yf⟩:=iN.bs;obtain⟨q0,q1,q2⟩:=iN.rR;obtain⟨r0,r1,r2,r3,r4,r5,r6,r7,rf⟩:=iN.zs;clear hb1)|(go_at_call 67;(with_reducible refine(vZ.out w1).mono ?_);rintro e w2 ⟨rfl,hb2⟩;have qC:=ag (iN.later hb2 z1);have z2:=qC.size;clear y0 y1 y2 y3 y4 y5 y6 y7 yf q0 q1 q2 r0 r1 r2 r3 r4 r5 r6 r7 rf;obtain⟨y0,y1,y2,y3,y4,y5,y6,y7,yf⟩:=qC.bs;obtain⟨q0,q1,q2⟩:=qC.rR;obtain⟨r0,r1,r2,r3,r4,r5,r6,r7,rf⟩:=qC.zs;clear hb2)|(go_at_call 68;(with_reducible refine(rM.out w2).mono ?_);rintro e w3 ⟨rfl,hb3⟩));obtain⟨W3,hW3⟩:=cd (w3.alloc (.cells #[af 1,af value,af value,af value,af time,af value] 39));have sL:=ag (show aq w2 W3 from by rw [hW3];exact aF hb3 ((aW _ _).alloc aO _) hb3.size);have zm:=ag (qC.later sL z2);have Z3:W3=w3.heap.size+1:=by rw [hW3];simp
  have z3:w+3<=w3.heap.size:=by have:=hb3.size;omega
  have pL:=ag (show W3.heap[w3.heap.size]?=some (.cells #[af 1,af value,af value,af value,af time,af value] 39) by rw [hW3];exact au _ _ rfl);rw [<-hW3];clear hW3 hb3 y0 y1 y2 y3 y4 y5 y6 y7 yf q0 q1 q2 r0 r1 r2 r3 r4 r5 r6 r7 rf;obtain⟨y0,y1,y2,y3,y4,y5,y6,y7,yf⟩:=zm.bs;obtain⟨q0,q1,q2⟩:=zm.rR;obtain⟨r0,r1,r2,r3,r4,r5,r6,r7,rf⟩:=zm.zs;go_wp2_with fail;have cT:=zm.below;exact bW (v:= .tuple #[ey,af 8]) (by simp [results,Tryz.results35,go_sem, *]) rfl ⟨aj,rfl⟩
end
section
variable {rt:Int} {B:Nat} {so:Option Addr} {w:World}
theorem jm {ops:Array Oper} {rest:List Oper} {o:Oper} {a:Act} {Q:Exit->Act->World->Prop} (hgd:o.guard=none) (s x:Operand)
  (ho:o.op = .call { callee:= .builtin .append,args:=#[s,x],argTypes:=#[24,24] }) (B:Nat) (v:Value) (es:List ByteArray) (hs:a.eval s=v) (hown:w.ownsRow B 9 1 v es (es.flatMap jN))
  (ad:Addr) (e:ByteArray) (hx:a.eval x=ah (some ad) 1 1) (hnews:w.cell? ad=some (.string e)) (hlen:es.length<=1000000) (hbase:B<=w)
  (h:∀v' w',w'.ownsRow B 9 1 v' (es+1) ((es++[e]).flatMap jN)->w.grownBy w' v.ownBlock->(v'.ownBlock=v.ownBlock\/v'.ownBlock=some w.heap.size)->wpList Tryz.prog ops Q rest (a.put o.dst v') w'):wpList Tryz.prog ops Q (o::rest) a w:=by
 obtain⟨i0,z,hi,hz,hz1,hz2,hz3⟩:=cG Tryz.U1;refine wpList_append_own_at w hgd s x 24 ho B 9 i0 z 1 16 Tryz.underlying24 hi hz hz1 hz2 hz3 bY v es _ hs hown ad 1 1 (jN e) hx rfl (fun j u hu=>?_) (fun u hu=>sw [e] u (by simpa using hu)) iI ai hbase ?_
 ·cases j with
  |zero=>simp [jN]at hu;subst hu;simpa [Addr.add] using hnews
  |succ j=>simp [jN]at hu
 ·intro v' w' hown' hg _ h4;refine h v' w' ?_ hg h4;have:(es++[e]).flatMap jN=es.flatMap jN++jN e:=bh;rw [this];exact hown'
theorem ru.keep {B':Nat} {t:Tr} {key:Int} {r:ax} {w6 wx:World} {n c:Nat} {E2:Int} (h:ru B t key r w6 so n c rt E2) (hk:aQ B w6 wx) (hB:B'<=B):ru B' t key r wx so n c rt E2:=by
 rcases h with h|⟨h1,t2,h2,l2,g1,g2,g3,⟨g4,g5,g6,g7⟩|g4⟩
 ·exact .inl h
 ·exact .inr ⟨h1,t2,h2,l2,g1,g2,g3, .inl ⟨g4,g5,g6,fun w'' hw=>g7 w'' (hk.trans (hw.mono hB))⟩⟩
 ·exact .inr ⟨h1,t2,h2,l2,g1,g2,g3, .inr g4⟩
theorem dZ {b:Nat} {v0 v1 v2 v3 v4 v5 v6 v7:Value} (h:b≠B) :
  ((((((((w.setCell (B,0) v0).setCell (B,1) v1).setCell (B,2) v2).setCell (B,3) v3).setCell (B,4) v4).setCell (B,5) v5).setCell (B,6) v6).setCell (B,7) v7).heap[b]?=w.heap[b]?:=by
 rw [cH _ ⟨B,_,none⟩ b _ h,cH _ ⟨B,_,none⟩ b _ h,cH _ ⟨B,_,none⟩ b _ h,cH _ ⟨B,_,none⟩ b _ h,cH _ ⟨B,_,none⟩ b _ h,cH _ ⟨B,_,none⟩ b _ h,cH _ ⟨B,_,none⟩ b _ h,cH _ ⟨B,_,none⟩ b _ h]
structure Bi (w:World) (b:Ba) (s:ByteArray) (time value:Int) (rb k:Nat) (sn:Option Addr) (sc:Nat) (g:Nat->Option Addr) (n c:Nat->Nat) (r:Nat->Int) (T:Nat->Tr) (wr:World):Prop where
 at':ng w #[ah sn (bH b s).length sc,ah (g 0) (n 0) (c 0),af (r 0),ah (g 1) (n 1) (c 1),af (r 1),ah (g 2) (n 2) (c 2),af (r 2),af b.floor] s time value wr
 rol:wr.heap[rb]?=some (.cells #[af 1,af value,af value,af value,af time,af value] 39)
 XC:w+3<=rb
 names:∀w'',aQ (w+3) wr w''->fX w'' (ah sn (bH b s).length sc) (bH b s)
 tr:∀j,j<3->∀w'',aQ (w+3) wr w''->di w'' (.agg #[ah (g j) (n j) (c j),af (r j)]) (T j)
 done:∀j,j<k->aC (T j)=0/\jv (T j).all (j6 b s time value j::(b.tree j).all)/\qE (T j)<=qE (b.tree j)+1/\Small (j6 b s time value j::(b.tree j).all)
 rest:∀j,k<=j->j<3->T j=b.tree j
section
variable {w:World} {b:Ba} {s:ByteArray} {time value:Int} {rb k:Nat} {sn:Option Addr} {sc:Nat} {g:Nat->Option Addr} {n c:Nat->Nat} {r:Nat->Int} {T:Nat->Tr} {wr wx:World}
theorem Bi.later (h:Bi w b s time value rb k sn sc g n c r T wr) (hb:aq wr wx):Bi w b s time value rb k sn sc g n c r T wx:=by
 have hk:=aQ.of (M:=w.heap.size+3) hb aO;exact⟨h.at'.later hb h.at'.size,(hb.block rb (eJ.1 h.rol).1).trans h.rol,h.XC,fun w'' hw=>h.names w'' (hk.trans hw),fun j hj w'' hw=>h.tr j hj w'' (hk.trans hw),h.done,h.rest⟩
theorem Bi.cells (h:Bi w b s time value rb k sn sc g n c r T wr) (hk:k<3):wr.cell? (w,1+k*2)=some (ah (g k) (n k) (c k))/\(wr,w.heap.size,1+k*2+1,r k):=by
 have h1:=h.at'.box;obtain rfl|rfl|rfl:k=0\/k=1\/k=2:=ai
 all_goals simp [World.cell?,h1]
theorem Bi.step {nn cc:Nat} {t':Tr} (h:Bi w b s time value rb k sn sc g n c r T wr) (hk3:k<3) (hb:aq wr wx) (htr:∀w'',aQ wr wx w''->di w'' (.agg #[ah so nn cc,af rt]) t')
  (hf:aC t'=0/\jv t'.all (j6 b s time value k::(b.tree k).all)/\qE t'<=qE (b.tree k)+1/\Small (j6 b s time value k::(b.tree k).all)) :
  Bi w b s time value rb (k+1) sn sc (upd g k so) (upd n k nn) (upd c k cc) (upd r k rt) (upd T k t') ((wx.setCell (w,1+k*2) (ah so nn cc)).setCell (w,1+k*2+1) (af rt)):=by
 have h1:=h.at'.size;have hbz:=hb.size;have fE:aQ (w+3) wx ((wx.setCell (w,1+k*2) (ah so nn cc)).setCell (w,1+k*2+1) (af rt)):=((aQ.refl _ _).set (by show w<w.heap.size+3;omega) _).set (by show w<w.heap.size+3;omega) _;have hk:=(aQ.of (M:=w.heap.size+3) hb aO).trans fE;have hx:=h.at'.later hb h1;have ho:∀q,q≠w.heap.size->((wx.setCell (w,1+k*2) (ah so nn cc)).setCell (w,1+k*2+1) (af rt)).heap[q]?=wx.heap[q]?:=fun q hq=>(cH _ ⟨w.heap.size,_,none⟩ q _ hq).trans (cH _ ⟨w.heap.size,_,none⟩ q _ hq);refine⟨⟨(hx.below.setCell aO _).setCell aO _,by simp only [aG];exact hx.size,?_,(ho _ ai).trans hx.pt,(ho _ ai).trans hx.res⟩,?_,h.XC,fun w'' hw=>h.names w'' (hk.trans hw),fun j hj w'' hw=>?_,fun j hj=>?_,fun j hj h3=>?_⟩
 ·have h1:=aM (off:=1+k*2+1) (v:=af rt) (aM (off:=1+k*2) (v:=ah so nn cc) hx.box);rw [h1];obtain rfl|rfl|rfl:k=0\/k=1\/k=2:=ai
  all_goals simp [upd]
 ·have hr:=h.XC;exact(ho rb ai).trans ((hb.block rb (eJ.1 h.rol).1).trans h.rol)
 ·by_cases hjk:j=k
  ·subst hjk;rw [iq,iq,iq,iq,iq];exact htr w'' ((fE.trans hw).mono h.at'.size)
  ·rw [upd_ne _ _ hjk,upd_ne _ _ hjk,upd_ne _ _ hjk,upd_ne _ _ hjk,upd_ne _ _ hjk];exact h.tr j hj w'' (hk.trans hw)
 ·by_cases hjk:j=k
  ·subst hjk;rw [iq];exact hf
  ·rw [upd_ne _ _ hjk];exact h.done j ai
 ·rw [upd_ne _ _ ai];exact h.rest j ai h3
theorem Bi.base (h:Bi w b s time value rb k sn sc g n c r T wr):r 0=(T 0).root/\r 1=(T 1).root/\r 2=(T 2).root/\∀w'',aQ (w+3) wr w''->bR w'' (.agg (aL sn (bH b s).length sc (g 0) (n 0) (c 0) (g 1) (n 1) (c 1) (g 2) (n 2) (c 2) ⟨bH b s,T 0,T 1,T 2,b.floor⟩)) ⟨bH b s,T 0,T 1,T 2,b.floor⟩:=by
 have key:∀j,j<3->∀w'',aQ (w+3) wr w''->r j=(T j).root/\bn w'' (ah (g j) (n j) (c j)) (T j).nodes:=fun j hj w'' hw=>by
  obtain⟨nv,e,hn⟩:=h.tr j hj w'' hw;simp only [Value.agg.injEq,Array.mk.injEq,List.cons.injEq,Value.int.injEq,and_true,true_and]at e;exact⟨e.2,e.1▸hn⟩
 have k0:=key 0 bY;have k1:=key 1 bY;have k2:=key 2 bY;exact⟨(k0 wr (aQ.refl _ _)).1,(k1 wr (aQ.refl _ _)).1,(k2 wr (aQ.refl _ _)).1,fun w'' hw=>⟨_,_,_,_,rfl,h.names w'' hw,(k0 w'' hw).2,(k1 w'' hw).2,(k2 w'' hw).2⟩⟩
end
end
end Go.Proofs.YtmljjfhgciaceaaGreatDoor
