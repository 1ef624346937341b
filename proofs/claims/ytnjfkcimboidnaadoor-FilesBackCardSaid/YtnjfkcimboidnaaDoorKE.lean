/- Texts of mine that come as one: BstQ KTotP RowsK KRowsP. -/
import Derived.Test.YtnjfkcimboidnaaDoorKC
import Derived.Test.YtnjfkcimboidnaaDoorTG
import Derived.Test.YtnjfkcimboidnaaDoorKD
/- What a base tells, of which is known what it knows: plain. -/
namespace Go.Proofs.YtnjfkcimboidnaaDoor
structure Kn (b:Ba) (L:List Ent) (N:Nat):Prop where
 may:baseMay b=true
 book:bookR b=some L
 allC:allC L≤N
theorem Bst.kn {b:Ba} {L:List Ent} {N:Nat} (h:Bst b L N):Kn b L N:=⟨h.may,h.book,h.allC⟩
theorem Kn.goods {b:Ba} {L:List Ent} {N:Nat} (h:Kn b L N):Rising L∧PGood L:=bookR_good h.book
theorem joinAll_c (l:List Ent):(joinAll l).c=allC l:=by
 induction l with
 |nil=>rfl
 |cons e l ih=>rw [allC_cons,joinAll,join_c,ih]
theorem allC_filter {L:List Ent} (h:Goods L) (p:Ent→Bool):allC (L.filter p)≤allC L:=by
 induction L with
 |nil=>simp
 |cons e l ih=>
  have h1:=ih h.cons.2
  have h2:=h.cons.1.1
  rw [allC_cons]
  by_cases hp:p e=true
  ·rw [List.filter_cons_of_pos hp,allC_cons];omega
  ·rw [List.filter_cons_of_neg hp];omega
theorem len_allC {L:List Ent} (h:Goods L):(L.length:Int)≤allC L:=by
 induction L with
 |nil=>simp [allC]
 |cons e l ih=>
  have h1:=ih h.cons.2
  have h2:=h.cons.1.1
  rw [allC_cons,List.length_cons];push_cast;omega
theorem Kn.series {b:Ba} {L:List Ent} {N:Nat} (h:Kn b L N) (s:ByteArray):(placeI b.names s<0∧seriesE b s=6)∨(0≤placeI b.names s∧seriesE b s=0):=by
 unfold seriesE
 rw [if_pos h.may]
 by_cases hp:placeI b.names s<0
 ·exact .inl ⟨hp,if_pos hp⟩
 ·exact .inr ⟨by omega,if_neg hp⟩
theorem Kn.total {b:Ba} {L:List Ent} {N:Nat} (h:Kn b L N) (hN:N≤1000000) {s:ByteArray} (hs:0≤placeI b.names s) {a z:Int} (hr:rowsOk a z):totalE b s a z=0∧totalR b s a z=ptsT L (placeI b.names s) a (z+1):=by
 have he:seriesE b s=0:=by rcases h.series s with h1|h1 <;> omega
 have hg:=h.goods.2.1.goods
 have hc:(ptsT L (placeI b.names s) a (z+1)).c≤1073741824:=by
  unfold ptsT
  rw [joinAll_c]
  have:=allC_filter hg (inRange (placeI b.names s*1048576+a) (placeI b.names s*1048576+(z+1)))
  have:=h.allC
  omega
 have hf:=ptsT_fine hg.fines (placeI b.names s) a (z+1)
 have hm:mergeTo Roll.zero (ptsT L (placeI b.names s) a (z+1))=some (ptsT L (placeI b.names s) a (z+1)):=by
  unfold mergeTo
  rw [if_pos (by show (0:Int)+_≤_;omega),zero_join hf]
 unfold totalE totalR
 rw [if_neg (not_not_intro he),if_neg (not_not_intro he),if_neg (not_not_intro hr),if_neg (not_not_intro hr),h.book]
 simp only
 rw [hm]
 exact⟨rfl,rfl⟩
theorem Kn.len {b:Ba} {L:List Ent} {N:Nat} (h:Kn b L N):L.length≤N:=by
 have h1:=len_allC h.goods.2.1.goods
 have h2:=h.allC
 omega
theorem insQ_len {l:List Ent} {x:Ent}:(ins l x).length≤l.length+1:=by
 induction l with
 |nil=>simp [ins]
 |cons e l ih=>
  unfold ins
  split
  ·simp only [List.length_cons];omega
  ·split <;> simp
theorem bagQ_len {l:List Ent}:∀{m:List Ent},(l.foldl ins m).length≤m.length+l.length:=by
 induction l with
 |nil=>intro m;simp
 |cons e l ih=>
  intro m
  rw [List.foldl_cons,List.length_cons]
  have h1:=@ih (ins m e)
  have h2:=@insQ_len m e
  omega
theorem Kn.rolled {b:Ba} {L:List Ent} {N:Nat} (h:Kn b L N) (hN:N≤1000000) {k:Nat} (_hk:k<3):rolledR L (szOf k)=some (bag (L.map (bucket (szOf k)))):=by
 have hg:=h.goods.2
 have hb:=(bucket_good (szOf_pos k) hg).1
 unfold rolledR
 rw [bagC_eq hb,if_pos]
 refine small_of_allC hb.goods ?_
 rw [allC_bucket]
 have:=h.allC
 omega
theorem Kn.rows {b:Ba} {L:List Ent} {N:Nat} (h:Kn b L N) (hN:N≤500) {s:ByteArray} (hs:0≤placeI b.names s) {k:Nat} (hk:k<3) {a z:Int} (hr:rowsOk a z) :
  rowsE b s (szOf k) a z=0∧rowsR b s (szOf k) a z=((bag (L.map (bucket (szOf k)))).filter (inRow (placeI b.names s) a z)).map rowOf:=by
 have he:seriesE b s=0:=by rcases h.series s with h1|h1 <;> omega
 have hl:rowsL b s (szOf k) a z=((bag (L.map (bucket (szOf k)))).filter (inRow (placeI b.names s) a z)).map rowOf:=by
  unfold rowsL
  rw [h.book]
  simp only
  rw [h.rolled (by omega) hk]
 have hlen:¬500<(rowsL b s (szOf k) a z).length:=by
  rw [hl,List.length_map]
  have h1:=List.length_filter_le (inRow (placeI b.names s) a z) (bag (L.map (bucket (szOf k))))
  have h2:=@bagQ_len (L.map (bucket (szOf k))) []
  have h3:=h.len
  rw [List.length_map]at h2
  simp only [List.length_nil,Nat.zero_add]at h2
  show ¬_
  unfold bag at h1 ⊢
  omega
 have hsz:¬(szOf k≠1∧szOf k≠60∧szOf k≠3600):=by
  obtain rfl|rfl|rfl:k=0∨k=1∨k=2:=by omega
  all_goals decide
 have h1:rowsE b s (szOf k) a z=0:=by unfold rowsE;rw [if_neg (not_not_intro he),if_neg hsz,if_neg (not_not_intro hr),if_neg hlen]
 exact⟨h1,by unfold rowsR;rw [if_pos h1,hl]⟩
end Go.Proofs.YtnjfkcimboidnaaDoor

/- What a base tells of the points that it is: plain. -/
namespace Go.Proofs.YtnjfkcimboidnaaDoor
theorem place_inj {xs:List ByteArray} {x y:ByteArray} (hx:x∈xs) (h:placeI xs x=placeI xs y):x=y:=by
 rcases place_cases xs x with ⟨k,hk,e,h1,-⟩|⟨e,h1⟩
 ·rcases place_cases xs y with ⟨j,hj,e',h1',-⟩|⟨e',h1'⟩
  ·have:k=j:=by omega
   subst this
   exact h1.symm.trans h1'
  ·omega
 ·have:=place_nonneg.2 hx;omega
theorem bag_filter {E:List Ent} (hg:Goods E) (p:Int→Bool):(bag E).filter (fun e=>p e.key)=bag (E.filter fun e=>p e.key):=by
 have hgf:Goods (E.filter fun e=>p e.key):=fun e he=>hg e (List.mem_filter.1 he).1
 have hgb:Goods ((bag E).filter fun e=>p e.key):=fun e he=>bag_goods hg e (List.mem_filter.1 he).1
 refine look_ext ((bag_rising hg).filter _) (bag_rising hgf) hgb (bag_goods hgf) fun k=>?_
 rw [look_bag hgf,look_filter,look_filter,look_bag hg]
theorem fold_join {s:ByteArray} {a z:Int} {ns:List ByteArray}:∀{ps:List Pnt} {r:Roll},r.Fine→(∀p∈ps,(rollP p).Fine)→ps.foldl (fun r p=>if isIn s a z p then r.join (rollP p)else r) r=r.join (joinAll ((ps.filter (isIn s a z)).map (entP ns)))
 |[],r,_,_=>by simp [joinAll,join_zero]
 |p::ps,r,hr,hp=>by
  have h1:=hp p (by simp)
  have h2:∀q∈ps,(rollP q).Fine:=fun q hq=>hp q (by simp [hq])
  rw [List.foldl_cons]
  by_cases hi:isIn s a z p=true
  ·rw [if_pos hi,fold_join (join_fine hr h1) h2,List.filter_cons_of_pos hi,List.map_cons]
   have hf:(joinAll ((ps.filter (isIn s a z)).map (entP ns))).Fine:=joinAll_fine fun e he=>by
    obtain⟨q,hq,rfl⟩:=List.mem_map.1 he
    exact h2 q (List.mem_filter.1 hq).1
   show _=r.join ((rollP p).join _)
   rw [join_assoc hr h1 hf]
  ·rw [if_neg hi,fold_join hr h2,List.filter_cons_of_neg hi]
theorem ptsT_known {pts:List Pnt} {b:Ba} {s:ByteArray} {a z:Int} (h:KB pts b) (hs:s∈b.names) (hp:∀p∈pts,PtOk p) (ha:0≤a) (hz:z≤1048575):ptsT (bag (pts.map (entP b.names))) (placeI b.names s) a (z+1)=knownF pts s a z:=by
 have hg:Goods (pts.map (entP b.names)):=fun e he=>by
  obtain⟨p,hpp,rfl⟩:=List.mem_map.1 he
  exact(good_check (rollP_check (hp p hpp)) (by show (1:Int)≠0;decide)).1
 have hgf:=fun(q:Int→Bool)=>(show Goods ((pts.map (entP b.names)).filter fun e=>q e.key)from fun e he=>hg e (List.mem_filter.1 he).1)
 unfold ptsT
 have e1:inRange (placeI b.names s*1048576+a) (placeI b.names s*1048576+(z+1))=fun e:Ent=>(fun k:Int=>decide (placeI b.names s*1048576+a≤k) && decide (k<placeI b.names s*1048576+(z+1))) e.key:=rfl
 rw [e1,bag_filter hg (fun k:Int=>decide (placeI b.names s*1048576+a≤k) && decide (k<placeI b.names s*1048576+(z+1))),joinAll_bag (show Goods ((pts.map (entP b.names)).filter fun e=>decide (placeI b.names s*1048576+a≤e.key) && decide (e.key<placeI b.names s*1048576+(z+1)))from hgf fun k=>decide (placeI b.names s*1048576+a≤k) && decide (k<placeI b.names s*1048576+(z+1)))]
 have e2:(pts.map (entP b.names)).filter (fun e:Ent=>(fun k:Int=>decide (placeI b.names s*1048576+a≤k) && decide (k<placeI b.names s*1048576+(z+1))) e.key)=(pts.filter (isIn s a z)).map (entP b.names):=by
  rw [List.filter_map]
  congr 1
  refine List.filter_congr fun p hpp=>?_
  have hk:=hp p hpp
  have hin:=h.ok p hpp
  have hpos:=place_nonneg.2 hin
  have hpos2:=place_nonneg.2 hs
  obtain⟨k1,k2,-,-⟩:=hk
  simp only [Function.comp,entP,isIn]
  by_cases hps:p.s=s
  ·subst hps
   rw [Bool.eq_iff_iff];simp;omega
  ·have hne:placeI b.names p.s≠placeI b.names s:=fun e=>hps (place_inj hin e)
   rw [Bool.eq_iff_iff]
   simp only [Bool.and_eq_true,decide_eq_true_eq]
   refine⟨fun⟨h1,h2⟩=>?_,fun h1=>absurd h1.1.1 hps⟩
   have h1:=of_decide_eq_true h1
   have h2:=of_decide_eq_true h2
   omega
 rw [e2]
 have e3:=fold_join (s:=s) (a:=a) (z:=z) (ns:=b.names) (ps:=pts) (r:=Roll.zero) fine_zero (fun p hpp=> .inr (good_check (rollP_check (hp p hpp)) (by show (1:Int)≠0;decide)).1)
 unfold knownF
 rw [e3,zero_join (joinAll_fine fun e he=>by
  obtain⟨p,hpp,rfl⟩:=List.mem_map.1 he
  exact .inr (good_check (rollP_check (hp p (List.mem_filter.1 hpp).1)) (by show (1:Int)≠0;decide)).1)]
def PtEarly (p:Pnt):Prop:=PtOk p∧p.t<14400
theorem pointF_early (r:Rw):PtEarly (pointF r):=by
 obtain⟨-,h1,h2,h3,h4⟩:=pointF_ok r
 exact⟨⟨h1,by omega,by omega,by omega⟩,by omega⟩
end Go.Proofs.YtnjfkcimboidnaaDoor

/- What the rows of a series are, where all times are early: plain. -/
namespace Go.Proofs.YtnjfkcimboidnaaDoor
def rowsK (L:List Ent) (sz p a z:Int):List Ent:=((bag (L.map (bucket sz))).filter (inRow p a z)).map rowOf
theorem mem_bucket {L:List Ent} {sz:Int} (hsz:0<sz) (hT:∀e∈L,e.key%1048576<14400) {e:Ent} (he:e∈bag (L.map (bucket sz))):e.key%1048576<14400∧e.key%1048576%sz=0∧∃x∈L,x.key/1048576=e.key/1048576∧e.key%1048576=x.key%1048576-x.key%1048576%sz:=by
 obtain⟨y,hy|hy,hk⟩:=bag_keys he
 ·obtain⟨x,hx,rfl⟩:=List.mem_map.1 hy
  have ht:=hT x hx
  have h0:=Int.emod_nonneg x.key (show (1048576:Int)≠0 by decide)
  have h1:=Int.emod_nonneg (x.key%1048576) (show sz≠0 by omega)
  have h2:=mod_le h0 hsz
  have h3:(bucket sz x).key=x.key-x.key%1048576%sz:=rfl
  rw [h3]at hk
  have h4:e.key%1048576=x.key%1048576-x.key%1048576%sz:=by omega
  refine⟨by omega,?_,x,hx,by omega,h4⟩
  rw [h4,Int.sub_emod,Int.emod_emod_of_dvd _ (Int.dvd_refl sz),Int.sub_self,Int.zero_emod]
 ·cases hy
theorem rising_filter_one {M:List Ent} (hr:Rising M) {q:Ent→Bool} {e:Ent} (he:e∈M) (hq:q e=true) (h1:∀x∈M,q x=true→x.key=e.key):M.filter q=[e]:=by
 induction M with
 |nil=>cases he
 |cons y l ih=>
  have hc:=List.pairwise_cons.1 hr
  rcases List.mem_cons.1 he with rfl|he'
  ·rw [List.filter_cons_of_pos hq]
   congr 1
   refine List.filter_eq_nil_iff.2 fun x hx hqx=>?_
   have:=h1 x (by simp [hx]) hqx
   have:=hc.1 x hx
   omega
  ·have hn:¬q y=true:=fun hqy=>by
    have:=h1 y (by simp) hqy
    have:=hc.1 e he'
    omega
   rw [List.filter_cons_of_neg hn]
   exact ih hc.2 he' fun x hx=>h1 x (by simp [hx])
theorem emod_gap {a b s:Int} (hs:0<s) (ha:a%s=0) (hb:b%s=0) (h1:a≤b) (h2:b<a+s):a=b:=by
 have e1:=Int.ediv_mul_add_emod a s
 have e2:=Int.ediv_mul_add_emod b s
 rw [ha]at e1
 rw [hb]at e2
 have h3:a/s≤b/s:=Int.ediv_le_ediv hs h1
 rcases Int.lt_or_eq_of_le h3 with h|h
 ·have:(a/s+1)*s≤b/s*s:=Int.mul_le_mul_of_nonneg_right (by omega) (by omega)
  rw [Int.add_mul]at this
  omega
 ·rw [h]at e1;omega
section
variable {b:Ba} {L:List Ent} {N:Nat}
theorem Kn.row (h:Kn b L N) (hN:N≤1000000) {k:Nat} (hk:k<3) (hT:∀e∈L,e.key%1048576<14400) {p:Int} {x:Ent} (hx:x∈rowsK L (szOf k) p 0 1048575) :
  0≤x.key∧x.key<14400∧x.key%szOf k=0∧x.is.c≠0∧x.is=ptsT L p x.key (x.key+szOf k):=by
 obtain⟨e,he,rfl⟩:=List.mem_map.1 hx
 obtain⟨he,hp⟩:=List.mem_filter.1 he
 obtain⟨h1,h2,-⟩:=mem_bucket (szOf_pos k) hT he
 have h0:=Int.emod_nonneg e.key (show (1048576:Int)≠0 by decide)
 have hg:=h.goods.2
 have hb:=(bucket_good (szOf_pos k) hg).1.goods
 have hge:=bag_goods hb e he
 have hpk:e.key/1048576=p:=by
  unfold inRow at hp
  simp only [Bool.and_eq_true,decide_eq_true_eq]at hp
  exact hp.1
 have hs:szOf k≤3600:=by
  obtain rfl|rfl|rfl:k=0∨k=1∨k=2:=by omega
  all_goals decide
 have hsp:=szOf_pos k
 refine⟨h0,h1,h2,?_,?_⟩
 ·have:=hge.1
  show e.is.c≠0
  omega
 show e.is=ptsT L p (e.key%1048576) (e.key%1048576+szOf k)
 rw [←ptsT_bucket hg (h.rolled hN hk) h0 (by omega) h2 (by rw [Int.add_emod,h2,Int.emod_self];rfl)]
 rw [rising_filter_one (bag_rising hb) he (by unfold inRange;simp;omega) fun y hy hq=>?_]
 ·exact(join_zero e.is).symm
 ·obtain⟨y1,y2,-⟩:=mem_bucket (szOf_pos k) hT hy
  unfold inRange at hq
  simp only [Bool.and_eq_true,decide_eq_true_eq]at hq
  have:=emod_gap hsp h2 y2 (by omega) (by omega)
  omega
end
end Go.Proofs.YtnjfkcimboidnaaDoor

/- What a base tells in rows and totals of the points that it is: plain. -/
namespace Go.Proofs.YtnjfkcimboidnaaDoor
theorem kb_total {pts:List Pnt} {b:Ba} {s:ByteArray} {a z:Int} (h:KB pts b) (hl:pts.length≤100000) (hs:s∈b.names) (hp:∀p∈pts,PtOk p) (hr:rowsOk a z):totalE b s a z=0∧totalR b s a z=knownF pts s a z:=by
 obtain⟨h1,h2⟩:=h.st.kn.total (by omega) (place_nonneg.2 hs) hr
 exact⟨h1,h2.trans (ptsT_known h hs hp hr.1 hr.2.2)⟩
end Go.Proofs.YtnjfkcimboidnaaDoor
