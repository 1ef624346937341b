/- Texts of mine that come as one: BstQ KTotP RowsK. -/
import Derived.Test.YtmljjfhgciaceaaDoorHd
import Derived.Test.YtmljjfhgciaceaaDoorKC
import Derived.Test.YtmljjfhgciaceaaDoorTG
import Derived.Test.YtmljjfhgciaceaaDoorKD
namespace Go.Proofs.YtmljjfhgciaceaaDoor
section
variable {b:Ba} {s:ByteArray} {a z:Int} {L l:List aA} {N k:Nat}
structure Kn (b:Ba) (L:List aA) (N:Nat):Prop where
 may:aQ b=true
 book:bW b=some L
 fA:fA L<=N
theorem Fk.kn (h:Fk b L N):Kn b L N:=⟨h.may,h.book,h.fA⟩
theorem Kn.bJ (h:Kn b L N):aV L/\dY L:=gq h.book
theorem A9 (l:List aA):(aN l).c=fA l:=by
 induction l with
 |nil=>rfl
 |cons e l ih=>rw [eO,aN,dC,ih]
theorem ru (h:aT L) (p:aA->Bool):fA (L.filter p)<=fA L:=by
 induction L with
 |nil=>simp
 |cons e l ih=>
  have h1:=ih h.cons.2
  have h2:=h.cons.1.1
  rw [eO]
  by_cases hp:p e=true
  ·rw [tN hp,eO];omega
  ·rw [sx hp];omega
theorem Dx (h:aT L):(L.length:Int)<=fA L:=by
 induction L with
 |nil=>simp [fA]
 |cons e l ih=>
  have h1:=ih h.cons.2
  have h2:=h.cons.1.1
  rw [eO,fR];push_cast;omega
theorem Kn.BN (h:Kn b L N) (s:ByteArray):(aG b.names s<0/\bT b s=6)\/(0<=aG b.names s/\bT b s=0):=by
 unfold bT
 rw [ar h.may]
 by_cases hp:aG b.names s<0
 ·exact .inl ⟨hp,ar hp⟩
 ·exact .inr ⟨af,ai hp⟩
theorem Kn.total (h:Kn b L N) (hN:N<=1000000) (hs:0<=aG b.names s) (hr:cO a z):mA b s a z=0/\mz b s a z=eF L (aG b.names s) a (z+1):=by
 have he:bT b s=0:=by rcases h.BN s with h1|h1 <;> omega
 have hg:=h.bJ.2.1.bJ
 have hc:(eF L (aG b.names s) a (z+1)).c<=1073741824:=by
  unfold eF
  rw [A9]
  have:=ru hg (aU (aG b.names s*1048576+a) (aG b.names s*1048576+(z+1)))
  have:=h.fA
  omega
 have hf:=rN hg.dm (aG b.names s) a (z+1)
 have hm:bH au.zero (eF L (aG b.names s) a (z+1))=some (eF L (aG b.names s) a (z+1)):=by
  unfold bH
  rw [ar (by show (0:Int)+_<=_;omega),eH hf]
 unfold mA mz
 rw [ai (iF he),ai (iF he),ai (iF hr),ai (iF hr),h.book]
 simp only
 rw [hm]
 exact⟨rfl,rfl⟩
theorem Kn.len (h:Kn b L N):L.length<=N:=by
 have h1:=Dx h.bJ.2.1.bJ
 have h2:=h.fA
 omega
theorem Mi {x:aA}:(ins l x).length<=l.length+1:=by
 induction l with
 |nil=>simp [ins]
 |cons e l ih=>
  unfold ins
  split
  ·simp only [fR];omega
  ·split <;> simp
theorem uZ:∀{m:List aA},(l.foldl ins m).length<=m.length+l.length:=by
 induction l with
 |nil=>intro m;simp
 |cons e l ih=>
  intro m
  rw [List.foldl_cons,fR]
  have h1:=@ih (ins m e)
  have h2:=@Mi m e
  omega
theorem Kn.rolled (h:Kn b L N) (hN:N<=1000000) (_hk:k<3):bU L (aR k)=some (jJ (L.map (bucket (aR k)))):=by
 have hg:=h.bJ.2
 have hb:=(eB (gJ k) hg).1
 unfold bU
 rw [jA hb,ar]
 refine oq hb.bJ ?_
 rw [ry]
 have:=h.fA
 omega
theorem Kn.rows (h:Kn b L N) (hN:N<=500) (hs:0<=aG b.names s) (hk:k<3) (hr:cO a z) :
  ey b s (aR k) a z=0/\nR b s (aR k) a z=((jJ (L.map (bucket (aR k)))).filter (kr (aG b.names s) a z)).map rowOf:=by
 have he:bT b s=0:=by rcases h.BN s with h1|h1 <;> omega
 have hl:sG b s (aR k) a z=((jJ (L.map (bucket (aR k)))).filter (kr (aG b.names s) a z)).map rowOf:=by
  unfold sG
  rw [h.book]
  simp only
  rw [h.rolled af hk]
 have hlen:¬500<(sG b s (aR k) a z).length:=by
  rw [hl,nA]
  have h1:=tO (kr (aG b.names s) a z) (jJ (L.map (bucket (aR k))))
  have h2:=@uZ (L.map (bucket (aR k))) []
  have h3:=h.len
  rw [nA]at h2
  simp only [List.length_nil,iM]at h2
  show ¬_
  unfold jJ at h1 ⊢
  omega
 have hsz:¬(aR k≠1/\aR k≠60/\aR k≠3600):=by
  obtain rfl|rfl|rfl:k=0\/k=1\/k=2:=af
  all_goals decide
 have h1:ey b s (aR k) a z=0:=by unfold ey;rw [ai (iF he),ai hsz,ai (iF hr),ai hlen]
 exact⟨h1,by unfold nR;rw [ar h1,hl]⟩
end
theorem JA {xs:List ByteArray} {x y:ByteArray} (hx:x∈xs) (h:aG xs x=aG xs y):x=y:=by
 rcases eX xs x with ⟨k,hk,e,h1,-⟩|⟨e,h1⟩
 ·rcases eX xs y with ⟨j,hj,e',h1',-⟩|⟨e',h1'⟩
  ·have:k=j:=af
   subst this
   exact h1.symm.trans h1'
  ·omega
 ·have:=eU.2 hx;omega
theorem tJ {E:List aA} (hg:aT E) (p:Int->Bool):(jJ E).filter (fun e=>p e.key)=jJ (E.filter fun e=>p e.key):=by
 have WM:aT (E.filter fun e=>p e.key):=fun e he=>hg e (js.1 he).1
 have hgb:aT ((jJ E).filter fun e=>p e.key):=fun e he=>dh hg e (js.1 he).1
 refine nj ((cJ hg).filter _) (cJ WM) hgb (dh WM) fun k=>?_
 rw [eG WM,l7,l7,eG hg]
theorem vZ {s:ByteArray} {a z:Int} {ns:List ByteArray}:∀{ps:List r9} {r:au},r.iu->(∀p∈ps,(AV p).iu)->ps.foldl (fun r p=>if Gl s a z p then r.join (AV p)else r) r=r.join (aN ((ps.filter (Gl s a z)).map (mh ns)))
 |[],r,_,_=>by simp [aN,cZ]
 |p::ps,r,hr,hp=>by
  have h1:=hp p bq
  have h2:∀q∈ps,(AV q).iu:=fun q hq=>hp q (by simp [hq])
  rw [List.foldl_cons]
  by_cases hi:Gl s a z p=true
  ·rw [ar hi,vZ (iy hr h1) h2,tN hi,List.map_cons]
   have hf:(aN ((ps.filter (Gl s a z)).map (mh ns))).iu:=cg fun e he=>by
    obtain⟨q,hq,rfl⟩:=lI.1 he
    exact h2 q (js.1 hq).1
   show _=r.join ((AV p).join _)
   rw [join_assoc hr h1 hf]
  ·rw [ai hi,vZ hr h2,sx hi]
section
variable {e:aA} {L:List aA}
def qo (L:List aA) (sz p a z:Int):List aA:=((jJ (L.map (bucket sz))).filter (kr p a z)).map rowOf
theorem tA {sz:Int} (hsz:0<sz) (hT:∀e∈L,e.key%1048576<14400) (he:e∈jJ (L.map (bucket sz))):e.key%1048576<14400/\e.key%1048576%sz=0/\∃x∈L,x.key/1048576=e.key/1048576/\e.key%1048576=x.key%1048576-x.key%1048576%sz:=by
 obtain⟨y,hy|hy,hk⟩:=zN he
 ·obtain⟨x,hx,rfl⟩:=lI.1 hy
  have ht:=hT x hx
  have h0:=Int.emod_nonneg x.key (show (1048576:Int)≠0 by decide)
  have h1:=Int.emod_nonneg (x.key%1048576) (show sz≠0 by omega)
  have h2:=mod_le h0 hsz
  have h3:(bucket sz x).key=x.key-x.key%1048576%sz:=rfl
  rw [h3]at hk
  have h4:e.key%1048576=x.key%1048576-x.key%1048576%sz:=af
  refine⟨af,?_,x,hx,af,h4⟩
  rw [h4,Int.sub_emod,Int.emod_emod_of_dvd _ (Int.dvd_refl sz),Int.sub_self,Int.zero_emod]
 ·cases hy
theorem um {M:List aA} (hr:aV M) {q:aA->Bool} (he:e∈M) (hq:q e=true) (h1:∀x∈M,q x=true->x.key=e.key):M.filter q=[e]:=by
 induction M with
 |nil=>cases he
 |cons y l ih=>
  have hc:=rz.1 hr
  rcases fc.1 he with rfl|he'
  ·rw [tN hq]
   congr 1
   refine List.filter_eq_nil_iff.2 fun x hx hqx=>?_
   have:=h1 x (by simp [hx]) hqx
   have:=hc.1 x hx
   omega
  ·have hn:¬q y=true:=fun hqy=>by
    have:=h1 y bq hqy
    have:=hc.1 e he'
    omega
   rw [sx hn]
   exact ih hc.2 he' fun x hx=>h1 x (by simp [hx])
theorem Nr {a b s:Int} (hs:0<s) (ha:a%s=0) (hb:b%s=0) (h1:a<=b) (h2:b<a+s):a=b:=by
 have e1:=Int.ediv_mul_add_emod a s
 have e2:=Int.ediv_mul_add_emod b s
 rw [ha]at e1
 rw [hb]at e2
 have h3:a/s<=b/s:=Int.ediv_le_ediv hs h1
 rcases Int.lt_or_eq_of_le h3 with h|h
 ·have:(a/s+1)*s<=b/s*s:=Int.mul_le_mul_of_nonneg_right af af
  rw [Int.add_mul]at this
  omega
 ·rw [h]at e1;omega
section
variable {b:Ba} {L:List aA} {N:Nat}
theorem Kn.row (h:Kn b L N) (hN:N<=1000000) {k:Nat} (hk:k<3) (hT:∀e∈L,e.key%1048576<14400) {p:Int} {x:aA} (hx:x∈qo L (aR k) p 0 1048575) :
  0<=x.key/\x.key<14400/\x.key%aR k=0/\x.is.c≠0/\x.is=eF L p x.key (x.key+aR k):=by
 obtain⟨e,he,rfl⟩:=lI.1 hx
 obtain⟨he,hp⟩:=js.1 he
 obtain⟨h1,h2,-⟩:=tA (gJ k) hT he
 have h0:=Int.emod_nonneg e.key (show (1048576:Int)≠0 by decide)
 have hg:=h.bJ.2
 have hb:=(eB (gJ k) hg).1.bJ
 have hge:=dh hb e he
 have hpk:e.key/1048576=p:=by
  unfold kr at hp
  simp only [Bool.and_eq_true,sk]at hp
  exact hp.1
 have hs:aR k<=3600:=by
  obtain rfl|rfl|rfl:k=0\/k=1\/k=2:=af
  all_goals decide
 have hsp:=gJ k
 refine⟨h0,h1,h2,?_,?_⟩
 ·have:=hge.1
  show e.is.c≠0
  omega
 show e.is=eF L p (e.key%1048576) (e.key%1048576+aR k)
 rw [<-qP hg (h.rolled hN hk) h0 af h2 (by rw [Int.add_emod,h2,Int.emod_self];rfl)]
 rw [um (cJ hb) he (by unfold aU;simp;omega) fun y hy hq=>?_]
 ·exact(cZ e.is).symm
 ·obtain⟨y1,y2,-⟩:=tA (gJ k) hT hy
  unfold aU at hq
  simp only [Bool.and_eq_true,sk]at hq
  have:=Nr hsp h2 y2 af af
  omega
theorem Jw (hT:∀e∈L,e.key%1048576<14400) (p a:Int) (_ha:0<=a):eF L p a 14400=eF L p a 1048576:=by
 unfold eF
 congr 1
 refine List.filter_congr fun e he=>?_
 have h1:=hT e he
 unfold aU
 rw [Bool.eq_iff_iff]
 simp only [Bool.and_eq_true,sk]
 omega
end
end
end Go.Proofs.YtmljjfhgciaceaaDoor
