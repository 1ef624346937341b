/- Texts of mine that come as one: AddP Add AddK. -/
import Derived.Test.YtnjfkcimboidnaaDoorAQ
import Derived.Test.YtnjfkcimboidnaaDoorPS
import Derived.Test.YtnjfkcimboidnaaDoorPG
import Derived.Test.YtnjfkcimboidnaaDoorBK
import Derived.Test.YtnjfkcimboidnaaDoorPC
import Derived.Test.YtnjfkcimboidnaaDoorKG
/- What base.Add makes of a base: plain. No program in sight. -/
namespace Go.Proofs.YtnjfkcimboidnaaDoor
theorem ins_map {f:Ent→Ent} (hf:∀e,(f e).is=e.is) (hk:∀a b:Ent,a.key=b.key→(f a).key=(f b).key) {l:List Ent} {x:Ent} (hl:Goods l) (hx:x.is.Good):Eqv ((ins l x).map f) (f x::l.map f):=by
 have gm:∀{m:List Ent},Goods m→Goods (m.map f):=fun {m} hm e he=>by
  obtain⟨y,hy,rfl⟩:=List.mem_map.1 he
  rw [hf];exact hm y hy
 have gx:Goods (f x::l.map f):=fun e he=>by
  rcases List.mem_cons.1 he with rfl|he
  ·rw [hf];exact hx
  ·exact gm hl e he
 refine⟨gm (ins_goods hl hx),gx,fun k=>?_⟩
 induction l with
 |nil=>rfl
 |cons e l ih=>
  obtain⟨he,hl'⟩:=hl.cons
  have ih:=ih hl' (fun y hy=>by
   rcases List.mem_cons.1 hy with rfl|hy
   ·rw [hf];exact hx
   ·exact gm hl' y hy)
  have fl:=look_fine (gm hl').fines k
  unfold ins
  split
  ·rw [List.map_cons,List.map_cons]
   simp only [look]at ih ⊢
   rw [hf,hf]at *
   rw [ih]
   by_cases h1:(f e).key=k <;> by_cases h2:(f x).key=k
   ·simp only [h1,h2,if_true]
    rw [←join_assoc (.inr he) (.inr hx) fl,join_comm (.inr he) (.inr hx),join_assoc (.inr hx) (.inr he) fl]
   all_goals simp only [h1,h2,if_true,if_false]
  ·split
   ·rename_i heq
    rw [List.map_cons,List.map_cons]
    have e1:(f ⟨x.key,e.is.join x.is⟩).key=(f x).key:=hk _ _ rfl
    have e2:(f e).key=(f x).key:=hk _ _ heq
    simp only [look]
    rw [e1,e2,hf,hf,hf]
    by_cases h:(f x).key=k
    ·simp only [h,if_true]
     rw [join_comm (.inr he) (.inr hx),join_assoc (.inr hx) (.inr he) fl]
    ·simp only [h,if_false]
   ·rfl
theorem eqv_bag {l:List Ent} (h:Goods l):Eqv (bag l) l:=⟨bag_goods h,h,fun k=>look_bag h k⟩
theorem base_trees {b:Ba} (h:baseMay b=true):∃l,bookR b=some l∧Rising l∧PGood l∧∀k,k<3→treeFault (b.tree k)=0∧Eqv (b.tree k).all (l.map (bucket (szOf k)))∧Small (b.tree k).all:=by
 obtain⟨l,hl,hr,hg,hk⟩:=base_knows h
 refine⟨l,hl,hr,hg,fun k hk3=>?_⟩
 obtain⟨m,h1,h2⟩:=hk k hk3
 obtain⟨g1,g2,g3,g4,g5⟩:=of_allT h2
 refine⟨g1,g2.trans ?_,g5⟩
 obtain⟨rfl,-⟩:=bagC_some (checked_bucket (szOf k) hg.1) h1
 exact eqv_bag (checked_bucket (szOf k) hg.1).goods
theorem bucket_is (s:Int) (e:Ent):(bucket s e).is=e.is:=rfl
theorem bucket_key (s:Int) (a b:Ent) (h:a.key=b.key):(bucket s a).key=(bucket s b).key:=by unfold bucket;simp only;rw [h]
theorem bucket_one (e:Ent):bucket 1 e=e:=by
 unfold bucket
 cases e
 simp [Int.emod_one]
theorem map_bucket_one (l:List Ent):l.map (bucket 1)=l:=by
 rw [List.map_congr_left (g:=id) fun e _=>bucket_one e,List.map_id]
theorem knows_of {t:Tr} {l:List Ent} {s:Int} (hf:treeFault t=0) (hc:Checked l) (he:Eqv t.all (l.map (bucket s))) (hs:Small t.all):∃m,rolledR l s=some m∧allT t=some m:=by
 have hc':=checked_bucket s hc
 have hs':Small (l.map (bucket s)):=he.small.1 hs
 refine⟨bag (l.map (bucket s)),by unfold rolledR;rw [bagC_eq hc',if_pos hs'],?_⟩
 have hg:=hc'.goods
 exact allT_of hf (he.trans (eqv_bag hg).symm) (bag_rising hg) (bag_checked hg hs')
def addI (b:Ba) (s:ByteArray):Int:=if placeI b.names s<0 then b.names.length else placeI b.names s
def addNames (b:Ba) (s:ByteArray):List ByteArray:=if placeI b.names s<0 then b.names++[s]else b.names
def addEnt (b:Ba) (s:ByteArray) (time:Int) (r:Roll):Ent:=⟨addI b s*1048576+time,r⟩
noncomputable def addF (b:Ba) (s:ByteArray) (time value:Int):Int:=
 if baseMay b=false then 7 else if nameMay s=false then 4 else if (rollOf time value).2≠0 then(rollOf time value).2 else if time<b.floor then 8 else if placeI b.names s<0∧16≤b.names.length then 1 else 0
noncomputable def addE (b:Ba) (s:ByteArray) (time value:Int):Int:=
 if addF b s time value≠0 then addF b s time value else match bookR b with
  |none=>0
  |some l=>match insC l (addEnt b s time (rollOf time value).1) with
   |none=>1
   |some l'=>if rolledR l' 60=none∨rolledR l' 3600=none then 1 else 0
noncomputable def addL (b:Ba) (s:ByteArray) (time value:Int):List Ent:=
 match bookR b with|none=>[]|some l=>ins l (addEnt b s time (rollOf time value).1)
theorem addF_ok {b:Ba} {s:ByteArray} {time value:Int} (h:addF b s time value=0):baseMay b=true∧nameMay s=true∧rollOf time value=(⟨1,value,value,value,time,value⟩,0)∧0≤time∧time≤1048575∧-1000000≤value∧value≤1000000∧b.floor≤time∧0≤addI b s∧addI b s≤15∧(placeI b.names s<0→b.names.length<16):=by
 unfold addF at h
 split at h
 ·omega
 rename_i h1
 split at h
 ·omega
 rename_i h2
 split at h
 ·contradiction
 rename_i h3
 split at h
 ·omega
 rename_i h4
 split at h
 ·omega
 rename_i h5
 have hm:baseMay b=true:=by simpa using h1
 have hn:=(baseMay_ok hm).n16
 have hr:0≤time∧time≤1048575∧-1000000≤value∧value≤1000000:=by
  unfold rollOf at h3
  split at h3
  ·assumption
  ·exact absurd (show (2:Int)≠0 by decide) h3
 refine⟨hm,by simpa using h2,by unfold rollOf;rw [if_pos hr],hr.1,hr.2.1,hr.2.2.1,hr.2.2.2,by omega,?_,?_,fun h=>by omega⟩
 ·unfold addI;split <;> omega
 ·unfold addI
  rcases place_cases b.names s with ⟨k,hk,e,-⟩|⟨e,-⟩
  ·rw [e];split <;> omega
  ·rw [e];split <;> omega
theorem point_check {time value:Int} (h0:0≤time) (h1:time≤1048575) (h2 : -1000000≤value) (h3:value≤1000000):rollCheck ⟨1,value,value,value,time,value⟩=0:=by
 refine rc0 ⟨?_,?_,?_,?_,?_,?_,?_,?_,?_,?_,?_,?_⟩ (by simp) ⟨?_,?_,?_,?_⟩ <;> simp only <;> omega
theorem add_key {i time:Int} (k:Nat) (r:Roll) (h0:0≤time) (h1:time≤1048575):(bucket (szOf k) ⟨i*1048576+time,r⟩).key=i*1048576+time/szOf k*szOf k:=by
 have hm:(i*1048576+time)%1048576=time:=by omega
 unfold bucket
 simp only
 rw [hm]
 have:=Int.emod_add_mul_ediv time (szOf k)
 rw [Int.mul_comm (time/szOf k)]
 omega
theorem putE_add {b:Ba} {s:ByteArray} {time value:Int} {l:List Ent} {k:Nat} (h:addF b s time value=0) (hl:bookR b=some l) (hk:k<3) :
  (putE (b.tree k) (addI b s*1048576+time/szOf k*szOf k) ⟨1,value,value,value,time,value⟩=0∧Small ((⟨addI b s*1048576+time/szOf k*szOf k,⟨1,value,value,value,time,value⟩⟩:Ent)::(b.tree k).all) ∨
  putE (b.tree k) (addI b s*1048576+time/szOf k*szOf k) ⟨1,value,value,value,time,value⟩=1∧¬Small ((⟨addI b s*1048576+time/szOf k*szOf k,⟨1,value,value,value,time,value⟩⟩:Ent)::(b.tree k).all)) ∧
  Eqv ((⟨addI b s*1048576+time/szOf k*szOf k,⟨1,value,value,value,time,value⟩⟩:Ent)::(b.tree k).all) ((ins l (addEnt b s time ⟨1,value,value,value,time,value⟩)).map (bucket (szOf k))):=by
 obtain⟨hm,-,-,h0,h1,h2,h3,-,hi0,hi1,-⟩:=addF_ok h
 obtain⟨l',hl',-,hg,ht⟩:=base_trees hm
 obtain rfl:l'=l:=Option.some.inj (hl'.symm.trans hl)
 obtain⟨t1,t2,t3⟩:=ht k hk
 obtain⟨r,hr⟩:∃r:Roll,r=⟨1,value,value,value,time,value⟩:=⟨_,rfl⟩
 have hrc:rollCheck r=0:=by rw [hr];exact point_check h0 h1 h2 h3
 have hrn:r.c=1:=by rw [hr]
 rw [←hr]
 have hrg:r.Good:=(good_check hrc (by omega)).1
 have hsz:=szOf_pos k
 have hkey:=add_key (i:=addI b s) k r h0 h1
 obtain⟨K,hK⟩:∃K,addI b s*1048576+time/szOf k*szOf k=K:=⟨_,rfl⟩
 rw [hK]at hkey ⊢
 have hkr:0≤K∧K<1099511627776:=by
  have:=bucket_range hsz (e:=⟨addI b s*1048576+time,r⟩) ⟨by simp only;omega,by simp only;omega⟩
  rw [hkey]at this;exact this
 have hev:Eqv ((⟨K,r⟩:Ent)::(b.tree k).all) ((ins l' (addEnt b s time r)).map (bucket (szOf k))):=by
  have e1:=ins_map (bucket_is (szOf k)) (bucket_key (szOf k)) (x:=addEnt b s time r) hg.1.goods hrg
  have e2:bucket (szOf k) (addEnt b s time r)=⟨K,r⟩:=by
   have:(bucket (szOf k) (addEnt b s time r)).key=K:=hkey
   cases hb:bucket (szOf k) (addEnt b s time r) with
   |mk a c=>rw [hb]at this;simp only at this;subst this;congr 1;have:=bucket_is (szOf k) (addEnt b s time r);rw [hb]at this;exact this
  rw [e2]at e1
  have e3:Eqv ([(⟨K,r⟩:Ent)]++(b.tree k).all) ([(⟨K,r⟩:Ent)]++l'.map (bucket (szOf k))):=(Eqv.refl (fun e he=>by simp at he;subst he;exact hrg)).append t2
  exact e3.trans e1.symm
 have hsmall:Small ((⟨K,r⟩:Ent)::(b.tree k).all)↔(look (b.tree k).all K).c+r.c≤1073741824:=by
  constructor
  ·intro hs
   have:=hs K
   simp only [look,if_pos trivial,join_c]at this
   omega
  ·intro hs q
   simp only [look]
   by_cases hq:K=q
   ·subst hq;rw [if_pos rfl,join_c];omega
   ·rw [if_neg hq];exact t3 q
 refine⟨?_,hev⟩
 unfold putE
 rw [if_neg (by simp [t1]),if_neg (by omega),if_neg (by simp [hrc])]
 by_cases hc:(look (b.tree k).all K).c+r.c≤1073741824
 ·rw [if_pos hc]
  exact .inl ⟨rfl,hsmall.2 hc⟩
 ·rw [if_neg hc]
  exact .inr ⟨rfl,fun hs=>hc (hsmall.1 hs)⟩
def addK (b:Ba) (s:ByteArray) (time value:Int) (k:Nat):Ent:=⟨addI b s*1048576+time/szOf k*szOf k,⟨1,value,value,value,time,value⟩⟩
theorem add_ins {b:Ba} {s:ByteArray} {time value:Int} {l:List Ent} (h:addF b s time value=0) (hl:bookR b=some l) (hs:Small (addK b s time value 0::(b.tree 0).all)) :
  insC l (addEnt b s time ⟨1,value,value,value,time,value⟩)=some (ins l (addEnt b s time ⟨1,value,value,value,time,value⟩))∧Checked (ins l (addEnt b s time ⟨1,value,value,value,time,value⟩)):=by
 obtain⟨hm,-,-,h0,h1,h2,h3,-,hi0,hi1,-⟩:=addF_ok h
 have hev:=(putE_add h hl (k:=0) (by decide)).2
 have hs2:=hev.small.1 hs
 rw [show szOf 0=1 from rfl,map_bucket_one]at hs2
 obtain⟨hr,hg⟩:=bookR_good hl
 have hrc:=point_check h0 h1 h2 h3
 have hrg:(⟨1,value,value,value,time,value⟩:Roll).Good:=(good_check hrc (by simp)).1
 have hc:(look l (addEnt b s time ⟨1,value,value,value,time,value⟩).key).c+(addEnt b s time ⟨1,value,value,value,time,value⟩).is.c≤1073741824:=by
  have:=hs2 (addEnt b s time ⟨1,value,value,value,time,value⟩).key
  rw [look_ins hg.1.goods.fines (.inr hrg),if_pos rfl,join_c]at this
  exact this
 refine⟨?_,ins_checked hr hg.1 hrg hc⟩
 rw [insC_eq hr (by show (1:Int)≤_;omega),if_pos hc]
theorem addE_bad {b:Ba} {s:ByteArray} {time value:Int} {l:List Ent} {k:Nat} (h:addF b s time value=0) (hl:bookR b=some l) (hk:k<3) (hs:¬Small (addK b s time value k::(b.tree k).all)):addE b s time value=1:=by
 obtain⟨hm,-,hro,h0,h1,h2,h3,-,hi0,hi1,-⟩:=addF_ok h
 unfold addE
 rw [if_neg (by simp [h]),hl]
 simp only
 rw [hro]
 simp only
 cases hi:insC l (addEnt b s time ⟨1,value,value,value,time,value⟩) with
 |none=>rfl
 |some l'=>
  simp only
  obtain⟨hr,hg⟩:=bookR_good hl
  have hrc:=point_check h0 h1 h2 h3
  have hrg:(⟨1,value,value,value,time,value⟩:Roll).Good:=(good_check hrc (by simp)).1
  have hie:=insC_eq hr (x:=addEnt b s time ⟨1,value,value,value,time,value⟩) (by show (1:Int)≤_;omega)
  rw [hi]at hie
  split at hie
  ·rename_i hc
   obtain rfl:=Option.some.inj hie
   have hck:=ins_checked hr hg.1 hrg hc
   have hev:=(putE_add h hl hk).2
   have hns:rolledR (ins l (addEnt b s time ⟨1,value,value,value,time,value⟩)) (szOf k)=none:=by
    unfold rolledR
    rw [bagC_eq (checked_bucket _ hck),if_neg fun hh=>hs (hev.small.2 hh)]
   have:k=0∨k=1∨k=2:=by omega
   rcases this with rfl|rfl|rfl
   ·rw [show szOf 0=1 from rfl]at hns
    unfold rolledR at hns
    rw [map_bucket_one,bagC_eq hck]at hns
    split at hns
    ·cases hns
    ·rename_i hh
     exact absurd (small_rising (ins_rising hr) hck) hh
   ·rw [if_pos (.inl hns)]
   ·rw [if_pos (.inr hns)]
  ·cases hie
theorem addE_good {b:Ba} {s:ByteArray} {time value:Int} {l:List Ent} (h:addF b s time value=0) (hl:bookR b=some l) (hs:∀k,k<3→Small (addK b s time value k::(b.tree k).all)) :
  addE b s time value=0∧addL b s time value=ins l (addEnt b s time ⟨1,value,value,value,time,value⟩)∧Checked (ins l (addEnt b s time ⟨1,value,value,value,time,value⟩)):=by
 obtain⟨hm,-,hro,h0,h1,h2,h3,-,hi0,hi1,-⟩:=addF_ok h
 obtain⟨hi,hck⟩:=add_ins h hl (hs 0 (by decide))
 have hr:∀k,k<3→rolledR (ins l (addEnt b s time ⟨1,value,value,value,time,value⟩)) (szOf k)≠none:=fun k hk=>by
  have hev:=(putE_add h hl hk).2
  unfold rolledR
  rw [bagC_eq (checked_bucket _ hck),if_pos (hev.small.1 (hs k hk))]
  simp
 refine⟨?_,by unfold addL;rw [hl,hro],hck⟩
 unfold addE
 rw [if_neg (by simp [h]),hl]
 simp only
 rw [hro]
 simp only
 rw [hi]
 simp only
 rw [if_neg]
 rintro(hh|hh)
 ·exact hr 1 (by decide) hh
 ·exact hr 2 (by decide) hh
theorem add_is {b:Ba} {s:ByteArray} {time value:Int} {l:List Ent} {T:Nat→Tr} (h:addF b s time value=0) (hl:bookR b=some l) (hs:∀k,k<3→Small (addK b s time value k::(b.tree k).all))
  (hT:∀k,k<3→treeFault (T k)=0∧Eqv (T k).all (addK b s time value k::(b.tree k).all)) :
  baseMay ⟨addNames b s,T 0,T 1,T 2,b.floor⟩=true∧bookR ⟨addNames b s,T 0,T 1,T 2,b.floor⟩=some (addL b s time value):=by
 obtain⟨hm,hn,hro,h0,h1,h2,h3,hfl,hi0,hi1,hnl⟩:=addF_ok h
 obtain⟨-,hL,hck⟩:=addE_good h hl hs
 obtain⟨hr,hg⟩:=bookR_good hl
 have hB:=baseMay_ok hm
 obtain⟨hl1,hl2⟩:=bookR_some hl
 have hev:∀k,k<3→Eqv (T k).all ((ins l (addEnt b s time ⟨1,value,value,value,time,value⟩)).map (bucket (szOf k))):=fun k hk=>(hT k hk).2.trans (putE_add h hl hk).2
 have hsm:∀k,k<3→Small (T k).all:=fun k hk=>(hT k hk).2.small.2 (hs k hk)
 have hkn:∀k,k<3→∃m,rolledR (ins l (addEnt b s time ⟨1,value,value,value,time,value⟩)) (szOf k)=some m∧allT (T k)=some m:=fun k hk=>knows_of (hT k hk).1 hck (hev k hk) (hsm k hk)
 have ha0:allT (T 0)=some (addL b s time value):=by
  have e:=hev 0 (by decide)
  rw [show szOf 0=1 from rfl,map_bucket_one]at e
  rw [hL]
  exact allT_of (hT 0 (by decide)).1 e (ins_rising hr) hck
 have hlen:b.names.length≤(addNames b s).length∧(addI b s).toNat<(addNames b s).length∧(addNames b s).length≤16:=by
  have:=hB.n16
  unfold addNames addI
  rcases place_cases b.names s with ⟨k,hk,e,-⟩|⟨e,-⟩
  ·rw [e,if_neg (by omega),if_neg (by omega)];omega
  ·rw [e,if_pos (by omega),if_pos (by omega)]
   have:=hnl (by rw [e];decide)
   simp;omega
 have hbook:bookR ⟨addNames b s,T 0,T 1,T 2,b.floor⟩=some (addL b s time value):=by
  refine book_ok ha0 (List.all_eq_true.2 fun e he=>?_)
  rw [hL]at he
  have hold:∀y∈l,bookOk b y=true:=List.all_eq_true.1 hl2
  unfold bookOk
  simp only [Bool.and_eq_true,decide_eq_true_eq]
  have hmod:(addI b s*1048576+time)%1048576=time:=by omega
  have hdiv:(addI b s*1048576+time)/1048576=addI b s:=by omega
  have hself:(addEnt b s time ⟨1,value,value,value,time,value⟩).key/1048576<((addNames b s).length:Int)∧b.floor≤(addEnt b s time ⟨1,value,value,value,time,value⟩).key%1048576:=by
   unfold addEnt
   simp only
   rw [hmod,hdiv]
   omega
  have htime:∀y∈l,y.key/1048576<((addNames b s).length:Int)∧b.floor≤y.key%1048576∧y.is.t=y.key%1048576:=fun y hy=>by
   have:=hold y hy
   unfold bookOk at this
   simp only [Bool.and_eq_true,decide_eq_true_eq]at this
   exact⟨by omega,this.1.2,this.2⟩
  have hin:∀(l:List Ent),(∀y∈l,y.is.t=y.key%1048576)→∀e∈ins l (addEnt b s time ⟨1,value,value,value,time,value⟩),e.is.t=e.key%1048576:=by
   intro l
   induction l with
   |nil=>
    intro _ e he
    simp [ins]at he;subst he
    unfold addEnt;simp only;rw [hmod]
   |cons y l ih=>
    intro hy e he
    unfold ins at he
    split at he
    ·rcases List.mem_cons.1 he with rfl|he
     ·exact hy _ (by simp)
     ·exact ih (fun z hz=>hy z (by simp [hz])) e he
    ·split at he
     ·rename_i heq
      rcases List.mem_cons.1 he with rfl|he
      ·have ht:=hy y (by simp)
       rw [heq]at ht
       have hk:(addEnt b s time ⟨1,value,value,value,time,value⟩).key%1048576=time:=by unfold addEnt;simp only;exact hmod
       show (y.is.join _).t=_
       rw [hk]at ht ⊢
       unfold Roll.join addEnt
       simp only
       rw [if_neg (by decide)]
       split
       ·rfl
       ·simp only
        split
        ·rfl
        ·exact ht
      ·exact hy e (by simp [he])
     ·rcases List.mem_cons.1 he with rfl|he
      ·unfold addEnt;simp only;rw [hmod]
      ·exact hy e he
  refine⟨⟨?_,?_⟩,hin l (fun y hy=>(htime y hy).2.2) e he⟩
  ·rcases ins_keys he with hk|⟨y,hy,hk⟩
   ·rw [hk];exact hself.1
   ·rw [←hk];exact(htime y hy).1
  ·rcases ins_keys he with hk|⟨y,hy,hk⟩
   ·rw [hk];exact hself.2
   ·rw [←hk];exact(htime y hy).2.1
 refine⟨baseMay_yes ⟨hlen.2.2,hB.fl0,hB.fl1,hB.fl2,?_,_,hbook,fun k hk=>?_⟩,hbook⟩
 ·intro i hi
  have hi:i<(addNames b s).length:=hi
  show nameMay (addNames b s)[i]=true∧∀k (hk:k<i),(addNames b s)[k]≠(addNames b s)[i]
  by_cases hp:placeI b.names s<0
  ·have hns:addNames b s=b.names++[s]:=if_pos hp
   have hno:∀j (hj:j<b.names.length),b.names[j]≠s:=by
    rcases place_cases b.names s with ⟨k,hk,e,-⟩|⟨-,h⟩
    ·omega
    ·exact h
   simp only [hns]at hi ⊢
   rw [List.length_append,List.length_singleton]at hi
   by_cases hlt:i<b.names.length
   ·have:=hB.names i hlt
    rw [List.getElem_append_left hlt]
    refine⟨this.1,fun k hk=>?_⟩
    rw [List.getElem_append_left (by omega)]
    exact this.2 k hk
   ·have hie:i=b.names.length:=by omega
    subst hie
    rw [List.getElem_append_right (Nat.le_refl _)]
    simp only [Nat.sub_self,List.getElem_singleton]
    refine⟨hn,fun k hk=>?_⟩
    rw [List.getElem_append_left hk]
    exact hno k hk
  ·have hns:addNames b s=b.names:=if_neg hp
   simp only [hns]at hi ⊢
   exact hB.names i hi
 ·have hk3:k=0∨k=1∨k=2:=by omega
  obtain⟨m,g1,g2⟩:=hkn k hk
  unfold treeOk
  rw [hL,g1]
  rcases hk3 with rfl|rfl|rfl
  ·show (match some m,allT (T 0) with|some a,some c=>decide (a=c)|_,_=>false)=true
   rw [g2];simp
  ·show (match some m,allT (T 1) with|some a,some c=>decide (a=c)|_,_=>false)=true
   rw [g2];simp
  ·show (match some m,allT (T 2) with|some a,some c=>decide (a=c)|_,_=>false)=true
   rw [g2];simp
end Go.Proofs.YtnjfkcimboidnaaDoor

/- The walk of base.Add. -/
namespace Go.Proofs.YtnjfkcimboidnaaDoor
open Go.RowKit
structure AddAt (w:World) (cs:Array Value) (s:ByteArray) (time value:Int) (w':World):Prop where
 below:Below w.heap.size w w'
 size:w.heap.size+3≤w'.heap.size
 box:w'.heap[w.heap.size]?=some (.cells cs 35)
 pt:w'.heap[w.heap.size+1]?=some (.cells #[.string s, .int .i64 time, .int .i64 value] 76)
 res:w'.heap[w.heap.size+2]?=some (.cells zeroBC 35)
theorem AddAt.later {w:World} {cs:Array Value} {s:ByteArray} {time value:Int} {w1 w2:World} {B:Nat} (h:AddAt w cs s time value w1) (hb:Below B w1 w2) (hB:w.heap.size+3≤B):AddAt w cs s time value w2:=
 ⟨⟨hb.os.trans h.below.os,hb.tape.trans h.below.tape,hb.output.trans h.below.output,Nat.le_trans h.below.size hb.size,fun k hk=>(hb.block k (by omega)).trans (h.below.block k hk)⟩,by have:=hb.size;have:=h.size;omega,
  (hb.block _ (by omega)).trans h.box,(hb.block _ (by omega)).trans h.pt,(hb.block _ (by omega)).trans h.res⟩
theorem AddAt.pts {w:World} {cs:Array Value} {s:ByteArray} {time value:Int} {w1:World} (h:AddAt w cs s time value w1):w1.cell? ⟨w.heap.size+1,0,none⟩=some (.string s)∧w1.cell? ⟨w.heap.size+1,1,none⟩=some (.int .i64 time)∧w1.cell? ⟨w.heap.size+1,2,none⟩=some (.int .i64 value):=by simp [World.cell?,h.pt]
theorem AddAt.zs {w:World} {cs:Array Value} {s:ByteArray} {time value:Int} {w1:World} (h:AddAt w cs s time value w1):w1.cell? ⟨w.heap.size+2,0,none⟩=some (.slice none 0 0)∧w1.cell? ⟨w.heap.size+2,1,none⟩=some (.slice none 0 0)∧w1.cell? ⟨w.heap.size+2,2,none⟩=some (.int .i64 0)∧w1.cell? ⟨w.heap.size+2,3,none⟩=some (.slice none 0 0)∧w1.cell? ⟨w.heap.size+2,4,none⟩=some (.int .i64 0)∧w1.cell? ⟨w.heap.size+2,5,none⟩=some (.slice none 0 0)∧w1.cell? ⟨w.heap.size+2,6,none⟩=some (.int .i64 0)∧w1.cell? ⟨w.heap.size+2,7,none⟩=some (.int .i64 0)∧∀o,w1.frozen? ⟨w.heap.size+2,o,none⟩=false:=by simp [World.cell?,World.frozen?,h.res]
theorem AddAt.bs {w:World} {v0 v1 v2 v3 v4 v5 v6 v7:Value} {s:ByteArray} {time value:Int} {w1:World} (h:AddAt w #[v0,v1,v2,v3,v4,v5,v6,v7] s time value w1):w1.cell? ⟨w.heap.size,0,none⟩=some v0∧w1.cell? ⟨w.heap.size,1,none⟩=some v1∧w1.cell? ⟨w.heap.size,2,none⟩=some v2∧w1.cell? ⟨w.heap.size,3,none⟩=some v3∧w1.cell? ⟨w.heap.size,4,none⟩=some v4∧w1.cell? ⟨w.heap.size,5,none⟩=some v5∧w1.cell? ⟨w.heap.size,6,none⟩=some v6∧w1.cell? ⟨w.heap.size,7,none⟩=some v7∧∀o,w1.frozen? ⟨w.heap.size,o,none⟩=false:=by simp [World.cell?,World.frozen?,h.box]
set_option maxRecDepth 100000 in
set_option maxHeartbeats 4000000 in
theorem add_may {sa:Option Addr} {sc:Nat} {g0:Option Addr} {l0 p0:Nat} {g1:Option Addr} {l1 p1:Nat} {g2:Option Addr} {l2 p2:Nat} {b:Ba} {s:ByteArray} {time value:Int} {w:World} (h:BaseAt w (.agg (baCells sa b.names.length sc g0 l0 p0 g1 l1 p1 g2 l2 p2 b)) b)
  (hst:∀s∈b.names,s.size≤140737488351232) (hss:s.size≤140737488351232) (hsz:SizesAt w) (hm:baseMay b=false) :
  Calls Tryd.prog 51 #[.agg (baCells sa b.names.length sc g0 l0 p0 g1 l1 p1 g2 l2 p2 b), .agg #[.string s, .int .i64 time, .int .i64 value]] w fun x w'=>Below w.heap.size w w'∧x = .returned (.tuple #[zeroB, .int .i64 7]):=by
 obtain⟨W0,hW0⟩:∃W0,W0=((w.alloc (.cells (baCells sa b.names.length sc g0 l0 p0 g1 l1 p1 g2 l2 p2 b) 35)).alloc (.cells #[.string s, .int .i64 time, .int .i64 value] 76)).alloc (.cells zeroBC 35):=⟨_,rfl⟩
 have h0:AddAt w (baCells sa b.names.length sc g0 l0 p0 g1 l1 p1 g2 l2 p2 b) s time value W0:=by
  refine⟨by rw [hW0];exact belowAuto,by rw [hW0];simp,?_,?_,?_⟩
  ·rw [hW0,Below.heap_alloc _ _ _ (by simp;omega),Below.heap_alloc _ _ _ (by simp)];exact heap_new _ _ rfl
  ·rw [hW0,Below.heap_alloc _ _ _ (by simp)];exact heap_new _ _ (by simp)
  ·rw [hW0];exact heap_new _ _ (by simp)
 have HP0:=Lib.hid h0
 have z0:=h0.size
 have HCK:=Lib.hid (baseCheck_any (h.below h0.below) hst (hsz.below h0.below))
 have HNM:=Lib.hid fun w'=>name_any s w' hss
 have HRO:=Lib.hid fun w'=>of_any time value w'
 rw [checkE_no hm]at HCK
 clear hm
 obtain⟨y0,y1,y2,y3,y4,y5,y6,y7,yf⟩:=h0.bs
 clear h hst hss hsz h0
 go_enter Tryd.func51,Tryd.ntmps51
 go_upto_region 1 with (fail)
 rw [←hW0]
 clear hW0
 go_wp2_with (first|(go_at_call 26;(with_reducible refine HCK.out.mono ?_);rintro e w1 ⟨rfl,hb1⟩;have HP1:=Lib.hid (HP0.out.later hb1 z0);have z1:=HP1.out.size;clear y0 y1 y2 y3 y4 y5 y6 y7 yf;obtain⟨y0,y1,y2,y3,y4,y5,y6,y7,yf⟩:=HP1.out.bs;obtain⟨q0,q1,q2⟩:=HP1.out.pts;obtain⟨r0,r1,r2,r3,r4,r5,r6,r7,rf⟩:=HP1.out.zs;clear hb1))
 have hbw:=HP1.out.below
 exact bodyPost_ret (v:= .tuple #[zeroB, .int .i64 7]) (by simp [results,Tryd.results51,go_sem, *]) rfl ⟨belowAuto,rfl⟩
set_option maxRecDepth 100000 in
set_option maxHeartbeats 4000000 in
theorem add_name {sa:Option Addr} {sc:Nat} {g0:Option Addr} {l0 p0:Nat} {g1:Option Addr} {l1 p1:Nat} {g2:Option Addr} {l2 p2:Nat} {b:Ba} {s:ByteArray} {time value:Int} {w:World} (h:BaseAt w (.agg (baCells sa b.names.length sc g0 l0 p0 g1 l1 p1 g2 l2 p2 b)) b)
  (hst:∀s∈b.names,s.size≤140737488351232) (hss:s.size≤140737488351232) (hsz:SizesAt w) (hm:baseMay b=true) (hn:nameMay s=false) :
  Calls Tryd.prog 51 #[.agg (baCells sa b.names.length sc g0 l0 p0 g1 l1 p1 g2 l2 p2 b), .agg #[.string s, .int .i64 time, .int .i64 value]] w fun x w'=>Below w.heap.size w w'∧x = .returned (.tuple #[zeroB, .int .i64 4]):=by
 obtain⟨W0,hW0⟩:∃W0,W0=((w.alloc (.cells (baCells sa b.names.length sc g0 l0 p0 g1 l1 p1 g2 l2 p2 b) 35)).alloc (.cells #[.string s, .int .i64 time, .int .i64 value] 76)).alloc (.cells zeroBC 35):=⟨_,rfl⟩
 have h0:AddAt w (baCells sa b.names.length sc g0 l0 p0 g1 l1 p1 g2 l2 p2 b) s time value W0:=by
  refine⟨by rw [hW0];exact belowAuto,by rw [hW0];simp,?_,?_,?_⟩
  ·rw [hW0,Below.heap_alloc _ _ _ (by simp;omega),Below.heap_alloc _ _ _ (by simp)];exact heap_new _ _ rfl
  ·rw [hW0,Below.heap_alloc _ _ _ (by simp)];exact heap_new _ _ (by simp)
  ·rw [hW0];exact heap_new _ _ (by simp)
 have HP0:=Lib.hid h0
 have z0:=h0.size
 have HCK:=Lib.hid (baseCheck_any (h.below h0.below) hst (hsz.below h0.below))
 have HNM:=Lib.hid fun w'=>name_any s w' hss
 have HRO:=Lib.hid fun w'=>of_any time value w'
 rw [checkE_yes hm]at HCK
 rw [hn]at HNM
 clear hm hn
 obtain⟨y0,y1,y2,y3,y4,y5,y6,y7,yf⟩:=h0.bs
 clear h hst hss hsz h0
 go_enter Tryd.func51,Tryd.ntmps51
 go_upto_region 1 with (fail)
 rw [←hW0]
 clear hW0
 go_wp2_with (first|(go_at_call 26;(with_reducible refine HCK.out.mono ?_);rintro e w1 ⟨rfl,hb1⟩;have HP1:=Lib.hid (HP0.out.later hb1 z0);have z1:=HP1.out.size;clear y0 y1 y2 y3 y4 y5 y6 y7 yf;obtain⟨y0,y1,y2,y3,y4,y5,y6,y7,yf⟩:=HP1.out.bs;obtain⟨q0,q1,q2⟩:=HP1.out.pts;obtain⟨r0,r1,r2,r3,r4,r5,r6,r7,rf⟩:=HP1.out.zs;clear hb1)|(go_at_call 53;(with_reducible refine(HNM.out w1).mono ?_);rintro e w2 ⟨rfl,hb2⟩;have HP2:=Lib.hid (HP1.out.later hb2 z1);have z2:=HP2.out.size;clear y0 y1 y2 y3 y4 y5 y6 y7 yf q0 q1 q2 r0 r1 r2 r3 r4 r5 r6 r7 rf;obtain⟨y0,y1,y2,y3,y4,y5,y6,y7,yf⟩:=HP2.out.bs;obtain⟨q0,q1,q2⟩:=HP2.out.pts;obtain⟨r0,r1,r2,r3,r4,r5,r6,r7,rf⟩:=HP2.out.zs;clear hb2))
 have hbw:=HP2.out.below
 exact bodyPost_ret (v:= .tuple #[zeroB, .int .i64 4]) (by simp [results,Tryd.results51,go_sem, *]) rfl ⟨belowAuto,rfl⟩
set_option maxRecDepth 100000 in
set_option maxHeartbeats 4000000 in
theorem add_roll {sa:Option Addr} {sc:Nat} {g0:Option Addr} {l0 p0:Nat} {g1:Option Addr} {l1 p1:Nat} {g2:Option Addr} {l2 p2:Nat} {b:Ba} {s:ByteArray} {time value:Int} {w:World} (h:BaseAt w (.agg (baCells sa b.names.length sc g0 l0 p0 g1 l1 p1 g2 l2 p2 b)) b)
  (hst:∀s∈b.names,s.size≤140737488351232) (hss:s.size≤140737488351232) (hsz:SizesAt w) (hm:baseMay b=true) (hn:nameMay s=true) (hr:¬(0≤time∧time≤1048575∧-1000000≤value∧value≤1000000)) :
  Calls Tryd.prog 51 #[.agg (baCells sa b.names.length sc g0 l0 p0 g1 l1 p1 g2 l2 p2 b), .agg #[.string s, .int .i64 time, .int .i64 value]] w fun x w'=>Below w.heap.size w w'∧x = .returned (.tuple #[zeroB, .int .i64 2]):=by
 obtain⟨W0,hW0⟩:∃W0,W0=((w.alloc (.cells (baCells sa b.names.length sc g0 l0 p0 g1 l1 p1 g2 l2 p2 b) 35)).alloc (.cells #[.string s, .int .i64 time, .int .i64 value] 76)).alloc (.cells zeroBC 35):=⟨_,rfl⟩
 have h0:AddAt w (baCells sa b.names.length sc g0 l0 p0 g1 l1 p1 g2 l2 p2 b) s time value W0:=by
  refine⟨by rw [hW0];exact belowAuto,by rw [hW0];simp,?_,?_,?_⟩
  ·rw [hW0,Below.heap_alloc _ _ _ (by simp;omega),Below.heap_alloc _ _ _ (by simp)];exact heap_new _ _ rfl
  ·rw [hW0,Below.heap_alloc _ _ _ (by simp)];exact heap_new _ _ (by simp)
  ·rw [hW0];exact heap_new _ _ (by simp)
 have HP0:=Lib.hid h0
 have z0:=h0.size
 have HCK:=Lib.hid (baseCheck_any (h.below h0.below) hst (hsz.below h0.below))
 have HNM:=Lib.hid fun w'=>name_any s w' hss
 have HRO:=Lib.hid fun w'=>of_any time value w'
 rw [checkE_yes hm]at HCK
 rw [hn]at HNM
 rw [show rollOf time value=(Roll.zero,2)from if_neg hr]at HRO
 clear hm hn hr
 obtain⟨y0,y1,y2,y3,y4,y5,y6,y7,yf⟩:=h0.bs
 clear h hst hss hsz h0
 go_enter Tryd.func51,Tryd.ntmps51
 go_upto_region 1 with (fail)
 rw [←hW0]
 clear hW0
 go_upto_region 7 with (first|(go_at_call 26;(with_reducible refine HCK.out.mono ?_);rintro e w1 ⟨rfl,hb1⟩;have HP1:=Lib.hid (HP0.out.later hb1 z0);have z1:=HP1.out.size;clear y0 y1 y2 y3 y4 y5 y6 y7 yf;obtain⟨y0,y1,y2,y3,y4,y5,y6,y7,yf⟩:=HP1.out.bs;obtain⟨q0,q1,q2⟩:=HP1.out.pts;obtain⟨r0,r1,r2,r3,r4,r5,r6,r7,rf⟩:=HP1.out.zs;clear hb1)|(go_at_call 53;(with_reducible refine(HNM.out w1).mono ?_);rintro e w2 ⟨rfl,hb2⟩;have HP2:=Lib.hid (HP1.out.later hb2 z1);have z2:=HP2.out.size;clear y0 y1 y2 y3 y4 y5 y6 y7 yf q0 q1 q2 r0 r1 r2 r3 r4 r5 r6 r7 rf;obtain⟨y0,y1,y2,y3,y4,y5,y6,y7,yf⟩:=HP2.out.bs;obtain⟨q0,q1,q2⟩:=HP2.out.pts;obtain⟨r0,r1,r2,r3,r4,r5,r6,r7,rf⟩:=HP2.out.zs;clear hb2)|(go_at_call 18;(with_reducible refine(HRO.out w2).mono ?_);rintro e w3 ⟨rfl,hb3⟩))
 obtain⟨W3,hW3⟩:∃W3,W3=w3.alloc (.cells #[.int .i64 Roll.zero.c, .int .i64 Roll.zero.s, .int .i64 Roll.zero.mi, .int .i64 Roll.zero.ma, .int .i64 Roll.zero.t, .int .i64 Roll.zero.l] 42):=⟨_,rfl⟩
 have HB3:=Lib.hid (show Below w2.heap.size w2 W3 from by rw [hW3];exact Below.trans' hb3 ((Below.refl _ _).alloc (Nat.le_refl _) _) hb3.size)
 have HP3:=Lib.hid (HP2.out.later HB3.out z2)
 have zz3:W3.heap.size=w3.heap.size+1:=by rw [hW3];simp
 have z3:w.heap.size+3≤w3.heap.size:=by have:=hb3.size;omega
 have HR3:=Lib.hid (show W3.heap[w3.heap.size]?=some (.cells #[.int .i64 Roll.zero.c, .int .i64 Roll.zero.s, .int .i64 Roll.zero.mi, .int .i64 Roll.zero.ma, .int .i64 Roll.zero.t, .int .i64 Roll.zero.l] 42) by rw [hW3];exact heap_new _ _ rfl)
 rw [←hW3]
 clear hW3 hb3 y0 y1 y2 y3 y4 y5 y6 y7 yf q0 q1 q2 r0 r1 r2 r3 r4 r5 r6 r7 rf
 obtain⟨y0,y1,y2,y3,y4,y5,y6,y7,yf⟩:=HP3.out.bs
 obtain⟨q0,q1,q2⟩:=HP3.out.pts
 obtain⟨r0,r1,r2,r3,r4,r5,r6,r7,rf⟩:=HP3.out.zs
 go_wp2_with fail
 have hbw:=HP3.out.below
 exact bodyPost_ret (v:= .tuple #[zeroB, .int .i64 2]) (by simp [results,Tryd.results51,go_sem, *]) rfl ⟨belowAuto,rfl⟩
set_option maxRecDepth 100000 in
set_option maxHeartbeats 4000000 in
theorem add_floor {sa:Option Addr} {sc:Nat} {g0:Option Addr} {l0 p0:Nat} {g1:Option Addr} {l1 p1:Nat} {g2:Option Addr} {l2 p2:Nat} {b:Ba} {s:ByteArray} {time value:Int} {w:World} (h:BaseAt w (.agg (baCells sa b.names.length sc g0 l0 p0 g1 l1 p1 g2 l2 p2 b)) b)
  (hst:∀s∈b.names,s.size≤140737488351232) (hss:s.size≤140737488351232) (hsz:SizesAt w) (hm:baseMay b=true) (hn:nameMay s=true) (hr:0≤time∧time≤1048575∧-1000000≤value∧value≤1000000) (hf:time<b.floor) :
  Calls Tryd.prog 51 #[.agg (baCells sa b.names.length sc g0 l0 p0 g1 l1 p1 g2 l2 p2 b), .agg #[.string s, .int .i64 time, .int .i64 value]] w fun x w'=>Below w.heap.size w w'∧x = .returned (.tuple #[zeroB, .int .i64 8]):=by
 obtain⟨W0,hW0⟩:∃W0,W0=((w.alloc (.cells (baCells sa b.names.length sc g0 l0 p0 g1 l1 p1 g2 l2 p2 b) 35)).alloc (.cells #[.string s, .int .i64 time, .int .i64 value] 76)).alloc (.cells zeroBC 35):=⟨_,rfl⟩
 have h0:AddAt w (baCells sa b.names.length sc g0 l0 p0 g1 l1 p1 g2 l2 p2 b) s time value W0:=by
  refine⟨by rw [hW0];exact belowAuto,by rw [hW0];simp,?_,?_,?_⟩
  ·rw [hW0,Below.heap_alloc _ _ _ (by simp;omega),Below.heap_alloc _ _ _ (by simp)];exact heap_new _ _ rfl
  ·rw [hW0,Below.heap_alloc _ _ _ (by simp)];exact heap_new _ _ (by simp)
  ·rw [hW0];exact heap_new _ _ (by simp)
 have HP0:=Lib.hid h0
 have z0:=h0.size
 have HCK:=Lib.hid (baseCheck_any (h.below h0.below) hst (hsz.below h0.below))
 have HNM:=Lib.hid fun w'=>name_any s w' hss
 have HRO:=Lib.hid fun w'=>of_any time value w'
 rw [checkE_yes hm]at HCK
 rw [hn]at HNM
 rw [show rollOf time value=(⟨1,value,value,value,time,value⟩,0)from if_pos hr]at HRO
 clear hm hn hr
 obtain⟨y0,y1,y2,y3,y4,y5,y6,y7,yf⟩:=h0.bs
 clear h hst hss hsz h0
 go_enter Tryd.func51,Tryd.ntmps51
 go_upto_region 1 with (fail)
 rw [←hW0]
 clear hW0
 go_upto_region 7 with (first|(go_at_call 26;(with_reducible refine HCK.out.mono ?_);rintro e w1 ⟨rfl,hb1⟩;have HP1:=Lib.hid (HP0.out.later hb1 z0);have z1:=HP1.out.size;clear y0 y1 y2 y3 y4 y5 y6 y7 yf;obtain⟨y0,y1,y2,y3,y4,y5,y6,y7,yf⟩:=HP1.out.bs;obtain⟨q0,q1,q2⟩:=HP1.out.pts;obtain⟨r0,r1,r2,r3,r4,r5,r6,r7,rf⟩:=HP1.out.zs;clear hb1)|(go_at_call 53;(with_reducible refine(HNM.out w1).mono ?_);rintro e w2 ⟨rfl,hb2⟩;have HP2:=Lib.hid (HP1.out.later hb2 z1);have z2:=HP2.out.size;clear y0 y1 y2 y3 y4 y5 y6 y7 yf q0 q1 q2 r0 r1 r2 r3 r4 r5 r6 r7 rf;obtain⟨y0,y1,y2,y3,y4,y5,y6,y7,yf⟩:=HP2.out.bs;obtain⟨q0,q1,q2⟩:=HP2.out.pts;obtain⟨r0,r1,r2,r3,r4,r5,r6,r7,rf⟩:=HP2.out.zs;clear hb2)|(go_at_call 18;(with_reducible refine(HRO.out w2).mono ?_);rintro e w3 ⟨rfl,hb3⟩))
 obtain⟨W3,hW3⟩:∃W3,W3=w3.alloc (.cells #[.int .i64 1, .int .i64 value, .int .i64 value, .int .i64 value, .int .i64 time, .int .i64 value] 42):=⟨_,rfl⟩
 have HB3:=Lib.hid (show Below w2.heap.size w2 W3 from by rw [hW3];exact Below.trans' hb3 ((Below.refl _ _).alloc (Nat.le_refl _) _) hb3.size)
 have HP3:=Lib.hid (HP2.out.later HB3.out z2)
 have zz3:W3.heap.size=w3.heap.size+1:=by rw [hW3];simp
 have z3:w.heap.size+3≤w3.heap.size:=by have:=hb3.size;omega
 have HR3:=Lib.hid (show W3.heap[w3.heap.size]?=some (.cells #[.int .i64 1, .int .i64 value, .int .i64 value, .int .i64 value, .int .i64 time, .int .i64 value] 42) by rw [hW3];exact heap_new _ _ rfl)
 rw [←hW3]
 clear hW3 hb3 y0 y1 y2 y3 y4 y5 y6 y7 yf q0 q1 q2 r0 r1 r2 r3 r4 r5 r6 r7 rf
 obtain⟨y0,y1,y2,y3,y4,y5,y6,y7,yf⟩:=HP3.out.bs
 obtain⟨q0,q1,q2⟩:=HP3.out.pts
 obtain⟨r0,r1,r2,r3,r4,r5,r6,r7,rf⟩:=HP3.out.zs
 go_wp2_with fail
 have hbw:=HP3.out.below
 exact bodyPost_ret (v:= .tuple #[zeroB, .int .i64 8]) (by simp [results,Tryd.results51,go_sem, *]) rfl ⟨belowAuto,rfl⟩
end Go.Proofs.YtnjfkcimboidnaaDoor

/- What the loop of base.Add has. -/
namespace Go.Proofs.YtnjfkcimboidnaaDoor
open Go.RowKit
theorem wpList_append_str1 {w:World} {ops:Array Oper} {rest:List Oper} {o:Oper} {a:Act} {Q:Exit→Act→World→Prop} (hgd:o.guard=none) (s x:Operand)
  (ho:o.op = .call { callee:= .builtin .append,args:=#[s,x],argTypes:=#[29,29] }) (B:Nat) (v:Value) (es:List ByteArray) (hs:a.eval s=v) (hown:w.ownsRow B 9 1 v es.length (es.flatMap enStr))
  (ad:Addr) (e:ByteArray) (hx:a.eval x = .slice (some ad) 1 1) (hnews:w.cell? ad=some (.string e)) (hlen:es.length≤1000000) (hbase:B≤w.heap.size)
  (h:∀v' w',w'.ownsRow B 9 1 v' (es.length+1) ((es++[e]).flatMap enStr)→w.grownBy w' v.ownBlock→(v'.ownBlock=v.ownBlock∨v'.ownBlock=some w.heap.size)→wpList Tryd.prog ops Q rest (a.put o.dst v') w'):wpList Tryd.prog ops Q (o::rest) a w:=by
 obtain⟨i0,z,hi,hz,hz1,hz2,hz3⟩:=info_some Tryd.iStr
 refine wpList_append_own_at w hgd s x 29 ho B 9 i0 z 1 16 Tryd.underlying29 hi hz hz1 hz2 hz3 (by decide) v es.length _ hs hown ad 1 1 (enStr e) hx rfl (fun j u hu=>?_) (fun u hu=>enStr_one [e] u (by simpa using hu)) (by unfold maxLen;omega) (by omega) hbase ?_
 ·cases j with
  |zero=>simp [enStr]at hu;subst hu;simpa [Addr.add] using hnews
  |succ j=>simp [enStr]at hu
 ·intro v' w' hown' hg _ h4
  refine h v' w' ?_ hg h4
  have:(es++[e]).flatMap enStr=es.flatMap enStr++enStr e:=by simp
  rw [this];exact hown'
theorem PutForm.keep {B B':Nat} {t:Tr} {key:Int} {r:Roll} {w6 wx:World} {so:Option Addr} {n c:Nat} {rt E2:Int} (h:PutForm B t key r w6 so n c rt E2) (hk:Keep B w6 wx) (hB:B'≤B):PutForm B' t key r wx so n c rt E2:=by
 rcases h with h|⟨h1,t2,h2,l2,g1,g2,g3,⟨g4,g5,g6,g7⟩|g4⟩
 ·exact .inl h
 ·exact .inr ⟨h1,t2,h2,l2,g1,g2,g3, .inl ⟨g4,g5,g6,fun w'' hw=>g7 w'' (hk.trans (hw.mono hB))⟩⟩
 ·exact .inr ⟨h1,t2,h2,l2,g1,g2,g3, .inr g4⟩
theorem heap_set8_other {w:World} {B b:Nat} {v0 v1 v2 v3 v4 v5 v6 v7:Value} (h:b≠B) :
  ((((((((w.setCell ⟨B,0,none⟩ v0).setCell ⟨B,1,none⟩ v1).setCell ⟨B,2,none⟩ v2).setCell ⟨B,3,none⟩ v3).setCell ⟨B,4,none⟩ v4).setCell ⟨B,5,none⟩ v5).setCell ⟨B,6,none⟩ v6).setCell ⟨B,7,none⟩ v7).heap[b]?=w.heap[b]?:=by
 rw [heap_setCell_other _ ⟨B,_,none⟩ b _ h,heap_setCell_other _ ⟨B,_,none⟩ b _ h,heap_setCell_other _ ⟨B,_,none⟩ b _ h,heap_setCell_other _ ⟨B,_,none⟩ b _ h,heap_setCell_other _ ⟨B,_,none⟩ b _ h,heap_setCell_other _ ⟨B,_,none⟩ b _ h,heap_setCell_other _ ⟨B,_,none⟩ b _ h,heap_setCell_other _ ⟨B,_,none⟩ b _ h]
structure AddK (w:World) (b:Ba) (s:ByteArray) (time value:Int) (rb k:Nat) (sn:Option Addr) (sc:Nat) (g0:Option Addr) (l0 p0:Nat) (r0:Int) (g1:Option Addr) (l1 p1:Nat) (r1:Int) (g2:Option Addr) (l2 p2:Nat) (r2:Int) (T:Nat→Tr) (wr:World):Prop where
 at':AddAt w #[.slice sn (addNames b s).length sc, .slice g0 l0 p0, .int .i64 r0, .slice g1 l1 p1, .int .i64 r1, .slice g2 l2 p2, .int .i64 r2, .int .i64 b.floor] s time value wr
 rol:wr.heap[rb]?=some (.cells #[.int .i64 1, .int .i64 value, .int .i64 value, .int .i64 value, .int .i64 time, .int .i64 value] 42)
 rlow:w.heap.size+3≤rb
 names:∀w'',Keep (w.heap.size+3) wr w''→StrsAt w'' (.slice sn (addNames b s).length sc) (addNames b s)
 t0:∀w'',Keep (w.heap.size+3) wr w''→TreeAt w'' (.agg #[.slice g0 l0 p0, .int .i64 r0]) (T 0)
 t1:∀w'',Keep (w.heap.size+3) wr w''→TreeAt w'' (.agg #[.slice g1 l1 p1, .int .i64 r1]) (T 1)
 t2:∀w'',Keep (w.heap.size+3) wr w''→TreeAt w'' (.agg #[.slice g2 l2 p2, .int .i64 r2]) (T 2)
 done:∀j,j<k→treeFault (T j)=0∧Eqv (T j).all (addK b s time value j::(b.tree j).all)∧wtT (T j)≤wtT (b.tree j)+1∧Small (addK b s time value j::(b.tree j).all)
 rest:∀j,k≤j→j<3→T j=b.tree j
theorem AddK.later {w:World} {b:Ba} {s:ByteArray} {time value:Int} {rb k:Nat} {sn:Option Addr} {sc:Nat} {g0:Option Addr} {l0 p0:Nat} {r0:Int} {g1:Option Addr} {l1 p1:Nat} {r1:Int} {g2:Option Addr} {l2 p2:Nat} {r2:Int} {T:Nat→Tr} {wr wx:World}
  (h:AddK w b s time value rb k sn sc g0 l0 p0 r0 g1 l1 p1 r1 g2 l2 p2 r2 T wr) (hb:Below wr.heap.size wr wx):AddK w b s time value rb k sn sc g0 l0 p0 r0 g1 l1 p1 r1 g2 l2 p2 r2 T wx:=by
 have hk:=Keep.of (M:=w.heap.size+3) hb (Nat.le_refl _)
 exact⟨h.at'.later hb h.at'.size,(hb.block rb (Array.getElem?_eq_some_iff.1 h.rol).1).trans h.rol,h.rlow,fun w'' hw=>h.names w'' (hk.trans hw),fun w'' hw=>h.t0 w'' (hk.trans hw),fun w'' hw=>h.t1 w'' (hk.trans hw),fun w'' hw=>h.t2 w'' (hk.trans hw),h.done,h.rest⟩
theorem AddK.step0 {w:World} {b:Ba} {s:ByteArray} {time value:Int} {rb:Nat} {sn:Option Addr} {sc:Nat} {g0:Option Addr} {l0 p0:Nat} {r0:Int} {g1:Option Addr} {l1 p1:Nat} {r1:Int} {g2:Option Addr} {l2 p2:Nat} {r2:Int} {T:Nat→Tr} {wr wx:World} {so:Option Addr} {n c:Nat} {rt:Int} {t':Tr}
  (h:AddK w b s time value rb 0 sn sc g0 l0 p0 r0 g1 l1 p1 r1 g2 l2 p2 r2 T wr) (hb:Below wr.heap.size wr wx) (htr:∀w'',Keep wr.heap.size wx w''→TreeAt w'' (.agg #[.slice so n c, .int .i64 rt]) t')
  (hf:treeFault t'=0) (he:Eqv t'.all (addK b s time value 0::(b.tree 0).all)) (hw':wtT t'≤wtT (b.tree 0)+1) (hsm:Small (addK b s time value 0::(b.tree 0).all)) :
  AddK w b s time value rb 1 sn sc so n c rt g1 l1 p1 r1 g2 l2 p2 r2 (fun j=>if j=0 then t' else T j) ((wx.setCell ⟨w.heap.size,1,none⟩ (.slice so n c)).setCell ⟨w.heap.size,2,none⟩ (.int .i64 rt)):=by
 have h1:=h.at'.size
 have hbz:=hb.size
 have hset:Keep (w.heap.size+3) wx ((wx.setCell ⟨w.heap.size,1,none⟩ (.slice so n c)).setCell ⟨w.heap.size,2,none⟩ (.int .i64 rt)):=((Keep.refl _ _).set (by show w.heap.size<w.heap.size+3;omega) _).set (by show w.heap.size<w.heap.size+3;omega) _
 have hk:=(Keep.of (M:=w.heap.size+3) hb (Nat.le_refl _)).trans hset
 have hx:=h.at'.later hb h1
 have ho:∀q,q≠w.heap.size→((wx.setCell ⟨w.heap.size,1,none⟩ (.slice so n c)).setCell ⟨w.heap.size,2,none⟩ (.int .i64 rt)).heap[q]?=wx.heap[q]?:=fun q hq=>(heap_setCell_other _ ⟨w.heap.size,_,none⟩ q _ hq).trans (heap_setCell_other _ ⟨w.heap.size,_,none⟩ q _ hq)
 refine⟨⟨(hx.below.setCell (by show w.heap.size≤w.heap.size;omega) _).setCell (by show w.heap.size≤w.heap.size;omega) _,by simp only [heap_setCell_size];exact hx.size,?_,(ho _ (by omega)).trans hx.pt,(ho _ (by omega)).trans hx.res⟩,?_,h.rlow,fun w'' hw=>h.names w'' (hk.trans hw),fun w'' hw=>by rw [if_pos rfl];exact htr w'' ((hset.trans hw).mono h.at'.size),fun w'' hw=>by rw [if_neg (by decide)];exact h.t1 w'' (hk.trans hw),fun w'' hw=>by rw [if_neg (by decide)];exact h.t2 w'' (hk.trans hw),fun j hj=>?_,fun j hj h3=>?_⟩
 ·have:=heap_setCell_same (off:=2) (v:= .int .i64 rt) (heap_setCell_same (off:=1) (v:= .slice so n c) hx.box)
  simpa using this
 ·have hr:=h.rlow
  exact(ho rb (by omega)).trans ((hb.block rb (Array.getElem?_eq_some_iff.1 h.rol).1).trans h.rol)
 ·by_cases hjk:j=0
  ·subst hjk;simp only [if_pos];exact⟨hf,he,hw',hsm⟩
  ·simp only [if_neg hjk];exact h.done j (by omega)
 ·simp only [if_neg (show j≠0 by omega)];exact h.rest j (by omega) h3
theorem AddK.step1 {w:World} {b:Ba} {s:ByteArray} {time value:Int} {rb:Nat} {sn:Option Addr} {sc:Nat} {g0:Option Addr} {l0 p0:Nat} {r0:Int} {g1:Option Addr} {l1 p1:Nat} {r1:Int} {g2:Option Addr} {l2 p2:Nat} {r2:Int} {T:Nat→Tr} {wr wx:World} {so:Option Addr} {n c:Nat} {rt:Int} {t':Tr}
  (h:AddK w b s time value rb 1 sn sc g0 l0 p0 r0 g1 l1 p1 r1 g2 l2 p2 r2 T wr) (hb:Below wr.heap.size wr wx) (htr:∀w'',Keep wr.heap.size wx w''→TreeAt w'' (.agg #[.slice so n c, .int .i64 rt]) t')
  (hf:treeFault t'=0) (he:Eqv t'.all (addK b s time value 1::(b.tree 1).all)) (hw':wtT t'≤wtT (b.tree 1)+1) (hsm:Small (addK b s time value 1::(b.tree 1).all)) :
  AddK w b s time value rb 2 sn sc g0 l0 p0 r0 so n c rt g2 l2 p2 r2 (fun j=>if j=1 then t' else T j) ((wx.setCell ⟨w.heap.size,3,none⟩ (.slice so n c)).setCell ⟨w.heap.size,4,none⟩ (.int .i64 rt)):=by
 have h1:=h.at'.size
 have hbz:=hb.size
 have hset:Keep (w.heap.size+3) wx ((wx.setCell ⟨w.heap.size,3,none⟩ (.slice so n c)).setCell ⟨w.heap.size,4,none⟩ (.int .i64 rt)):=((Keep.refl _ _).set (by show w.heap.size<w.heap.size+3;omega) _).set (by show w.heap.size<w.heap.size+3;omega) _
 have hk:=(Keep.of (M:=w.heap.size+3) hb (Nat.le_refl _)).trans hset
 have hx:=h.at'.later hb h1
 have ho:∀q,q≠w.heap.size→((wx.setCell ⟨w.heap.size,3,none⟩ (.slice so n c)).setCell ⟨w.heap.size,4,none⟩ (.int .i64 rt)).heap[q]?=wx.heap[q]?:=fun q hq=>(heap_setCell_other _ ⟨w.heap.size,_,none⟩ q _ hq).trans (heap_setCell_other _ ⟨w.heap.size,_,none⟩ q _ hq)
 refine⟨⟨(hx.below.setCell (by show w.heap.size≤w.heap.size;omega) _).setCell (by show w.heap.size≤w.heap.size;omega) _,by simp only [heap_setCell_size];exact hx.size,?_,(ho _ (by omega)).trans hx.pt,(ho _ (by omega)).trans hx.res⟩,?_,h.rlow,fun w'' hw=>h.names w'' (hk.trans hw),fun w'' hw=>by rw [if_neg (by decide)];exact h.t0 w'' (hk.trans hw),fun w'' hw=>by rw [if_pos rfl];exact htr w'' ((hset.trans hw).mono h.at'.size),fun w'' hw=>by rw [if_neg (by decide)];exact h.t2 w'' (hk.trans hw),fun j hj=>?_,fun j hj h3=>?_⟩
 ·have:=heap_setCell_same (off:=4) (v:= .int .i64 rt) (heap_setCell_same (off:=3) (v:= .slice so n c) hx.box)
  simpa using this
 ·have hr:=h.rlow
  exact(ho rb (by omega)).trans ((hb.block rb (Array.getElem?_eq_some_iff.1 h.rol).1).trans h.rol)
 ·by_cases hjk:j=1
  ·subst hjk;simp only [if_pos];exact⟨hf,he,hw',hsm⟩
  ·simp only [if_neg hjk];exact h.done j (by omega)
 ·simp only [if_neg (show j≠1 by omega)];exact h.rest j (by omega) h3
theorem AddK.step2 {w:World} {b:Ba} {s:ByteArray} {time value:Int} {rb:Nat} {sn:Option Addr} {sc:Nat} {g0:Option Addr} {l0 p0:Nat} {r0:Int} {g1:Option Addr} {l1 p1:Nat} {r1:Int} {g2:Option Addr} {l2 p2:Nat} {r2:Int} {T:Nat→Tr} {wr wx:World} {so:Option Addr} {n c:Nat} {rt:Int} {t':Tr}
  (h:AddK w b s time value rb 2 sn sc g0 l0 p0 r0 g1 l1 p1 r1 g2 l2 p2 r2 T wr) (hb:Below wr.heap.size wr wx) (htr:∀w'',Keep wr.heap.size wx w''→TreeAt w'' (.agg #[.slice so n c, .int .i64 rt]) t')
  (hf:treeFault t'=0) (he:Eqv t'.all (addK b s time value 2::(b.tree 2).all)) (hw':wtT t'≤wtT (b.tree 2)+1) (hsm:Small (addK b s time value 2::(b.tree 2).all)) :
  AddK w b s time value rb 3 sn sc g0 l0 p0 r0 g1 l1 p1 r1 so n c rt (fun j=>if j=2 then t' else T j) ((wx.setCell ⟨w.heap.size,5,none⟩ (.slice so n c)).setCell ⟨w.heap.size,6,none⟩ (.int .i64 rt)):=by
 have h1:=h.at'.size
 have hbz:=hb.size
 have hset:Keep (w.heap.size+3) wx ((wx.setCell ⟨w.heap.size,5,none⟩ (.slice so n c)).setCell ⟨w.heap.size,6,none⟩ (.int .i64 rt)):=((Keep.refl _ _).set (by show w.heap.size<w.heap.size+3;omega) _).set (by show w.heap.size<w.heap.size+3;omega) _
 have hk:=(Keep.of (M:=w.heap.size+3) hb (Nat.le_refl _)).trans hset
 have hx:=h.at'.later hb h1
 have ho:∀q,q≠w.heap.size→((wx.setCell ⟨w.heap.size,5,none⟩ (.slice so n c)).setCell ⟨w.heap.size,6,none⟩ (.int .i64 rt)).heap[q]?=wx.heap[q]?:=fun q hq=>(heap_setCell_other _ ⟨w.heap.size,_,none⟩ q _ hq).trans (heap_setCell_other _ ⟨w.heap.size,_,none⟩ q _ hq)
 refine⟨⟨(hx.below.setCell (by show w.heap.size≤w.heap.size;omega) _).setCell (by show w.heap.size≤w.heap.size;omega) _,by simp only [heap_setCell_size];exact hx.size,?_,(ho _ (by omega)).trans hx.pt,(ho _ (by omega)).trans hx.res⟩,?_,h.rlow,fun w'' hw=>h.names w'' (hk.trans hw),fun w'' hw=>by rw [if_neg (by decide)];exact h.t0 w'' (hk.trans hw),fun w'' hw=>by rw [if_neg (by decide)];exact h.t1 w'' (hk.trans hw),fun w'' hw=>by rw [if_pos rfl];exact htr w'' ((hset.trans hw).mono h.at'.size),fun j hj=>?_,fun j hj h3=>?_⟩
 ·have:=heap_setCell_same (off:=6) (v:= .int .i64 rt) (heap_setCell_same (off:=5) (v:= .slice so n c) hx.box)
  simpa using this
 ·have hr:=h.rlow
  exact(ho rb (by omega)).trans ((hb.block rb (Array.getElem?_eq_some_iff.1 h.rol).1).trans h.rol)
 ·by_cases hjk:j=2
  ·subst hjk;simp only [if_pos];exact⟨hf,he,hw',hsm⟩
  ·simp only [if_neg hjk];exact h.done j (by omega)
 ·simp only [if_neg (show j≠2 by omega)];exact h.rest j (by omega) h3
end Go.Proofs.YtnjfkcimboidnaaDoor
