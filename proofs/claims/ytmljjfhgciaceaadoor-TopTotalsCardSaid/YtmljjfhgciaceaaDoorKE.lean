/- Texts of mine that come as one: BstQ KTotP RowsK. -/
import Derived.Test.YtmljjfhgciaceaaDoorHd
import Derived.Test.YtmljjfhgciaceaaDoorKC
import Derived.Test.YtmljjfhgciaceaaDoorTG
import Derived.Test.YtmljjfhgciaceaaDoorKD
namespace Go.Proofs.YtmljjfhgciaceaaDoor
section
variable {b:Ba} {s:ByteArray} {a z:Int} {L l:List aC} {N k:Nat}
structure Kn (b:Ba) (L:List aC) (N:Nat):Prop where
 may:aO b=true
 book:bY b=some L
 fH:fH L<=N
theorem FK.kn (h:FK b L N):Kn b L N:=⟨h.may,h.book,h.fH⟩
theorem Kn.bQ (h:Kn b L N):aT L/\dX L:=gw h.book
theorem JW (l:List aC):(bq l).c=fH l:=by
 induction l with
 |nil=>rfl
 |cons e l ih=>rw [eH,bq,dF,ih]
theorem xP (h:bh L) (p:aC->Bool):fH (L.filter p)<=fH L:=by
 induction L with
 |nil=>simp
 |cons e l ih=>
  have h1:=ih h.cons.2
  have h2:=h.cons.1.1
  rw [eH]
  by_cases hp:p e=true
  ·rw [rG hp,eH];omega
  ·rw [qB hp];omega
theorem DW (h:bh L):(L.length:Int)<=fH L:=by
 induction L with
 |nil=>simp [fH]
 |cons e l ih=>
  have h1:=ih h.cons.2
  have h2:=h.cons.1.1
  rw [eH,gp];push_cast;omega
theorem Kn.Cq (h:Kn b L N) (s:ByteArray):(aS b.names s<0/\bV b s=6)\/(0<=aS b.names s/\bV b s=0):=by
 unfold bV
 rw [ar h.may]
 by_cases hp:aS b.names s<0
 ·exact .inl ⟨hp,ar hp⟩
 ·exact .inr ⟨af,ai hp⟩
theorem Kn.total (h:Kn b L N) (hN:N<=1000000) (hs:0<=aS b.names s) (hr:cT a z):mh b s a z=0/\mf b s a z=fL L (aS b.names s) a (z+1):=by
 have he:bV b s=0:=by rcases h.Cq s with h1|h1 <;> omega
 have hg:=h.bQ.2.1.bQ
 have hc:(fL L (aS b.names s) a (z+1)).c<=1073741824:=by
  unfold fL
  rw [JW]
  have:=xP hg (aR (aS b.names s*1048576+a) (aS b.names s*1048576+(z+1)))
  have:=h.fH
  omega
 have hf:=rV hg.dD (aS b.names s) a (z+1)
 have hm:bI aw.zero (fL L (aS b.names s) a (z+1))=some (fL L (aS b.names s) a (z+1)):=by
  unfold bI
  rw [ar (by show (0:Int)+_<=_;omega),eV hf]
 unfold mh mf
 rw [ai (jo he),ai (jo he),ai (jo hr),ai (jo hr),h.book]
 simp only
 rw [hm]
 exact⟨rfl,rfl⟩
theorem Kn.len (h:Kn b L N):L.length<=N:=by
 have h1:=DW h.bQ.2.1.bQ
 have h2:=h.fH
 omega
theorem Mr {x:aC}:(ins l x).length<=l.length+1:=by
 induction l with
 |nil=>simp [ins]
 |cons e l ih=>
  unfold ins
  split
  ·simp only [gp];omega
  ·split <;> simp
theorem E8:∀{m:List aC},(l.foldl ins m).length<=m.length+l.length:=by
 induction l with
 |nil=>intro m;simp
 |cons e l ih=>
  intro m
  rw [List.foldl_cons,gp]
  have h1:=@ih (ins m e)
  have h2:=@Mr m e
  omega
theorem Kn.rolled (h:Kn b L N) (hN:N<=1000000) (_hk:k<3):bW L (aQ k)=some (oG (L.map (bucket (aQ k)))):=by
 have hg:=h.bQ.2
 have hb:=(eu (ir k) hg).1
 unfold bW
 rw [jC hb,ar]
 refine oh hb.bQ ?_
 rw [rD]
 have:=h.fH
 omega
theorem Kn.rows (h:Kn b L N) (hN:N<=500) (hs:0<=aS b.names s) (hk:k<3) (hr:cT a z) :
  eQ b s (aQ k) a z=0/\nR b s (aQ k) a z=((oG (L.map (bucket (aQ k)))).filter (xA (aS b.names s) a z)).map rowOf:=by
 have he:bV b s=0:=by rcases h.Cq s with h1|h1 <;> omega
 have hl:sJ b s (aQ k) a z=((oG (L.map (bucket (aQ k)))).filter (xA (aS b.names s) a z)).map rowOf:=by
  unfold sJ
  rw [h.book]
  simp only
  rw [h.rolled af hk]
 have hlen:¬500<(sJ b s (aQ k) a z).length:=by
  rw [hl,oJ]
  have h1:=sH (xA (aS b.names s) a z) (oG (L.map (bucket (aQ k))))
  have h2:=@E8 (L.map (bucket (aQ k))) []
  have h3:=h.len
  rw [oJ]at h2
  simp only [List.length_nil,iW]at h2
  show ¬_
  unfold oG at h1 ⊢
  omega
 have hsz:¬(aQ k≠1/\aQ k≠60/\aQ k≠3600):=by
  obtain rfl|rfl|rfl:k=0\/k=1\/k=2:=af
  all_goals decide
 have h1:eQ b s (aQ k) a z=0:=by unfold eQ;rw [ai (jo he),ai hsz,ai (jo hr),ai hlen]
 exact⟨h1,by unfold nR;rw [ar h1,hl]⟩
end
theorem acT {xs:List ByteArray} {x y:ByteArray} (hx:x∈xs) (h:aS xs x=aS xs y):x=y:=by
 rcases fW xs x with ⟨k,hk,e,h1,-⟩|⟨e,h1⟩
 ·rcases fW xs y with ⟨j,hj,e',h1',-⟩|⟨e',h1'⟩
  ·have:k=j:=af
   subst this
   exact h1.symm.trans h1'
  ·omega
 ·have:=mI.2 hx;omega
theorem abK {E:List aC} (hg:bh E) (p:Int->Bool):(oG E).filter (fun e=>p e.key)=oG (E.filter fun e=>p e.key):=by
 have hgf:bh (E.filter fun e=>p e.key):=fun e he=>hg e (mn.1 he).1
 have hgb:bh ((oG E).filter fun e=>p e.key):=fun e he=>fA hg e (mn.1 he).1
 refine qW ((dV hg).filter _) (dV hgf) hgb (fA hgf) fun k=>?_
 rw [fY hgf,qV,qV,fY hg]
theorem abu {s:ByteArray} {a z:Int} {ns:List ByteArray}:∀{ps:List C9} {r:aw},r.jr->(∀p∈ps,(aar p).jr)->ps.foldl (fun r p=>if abf s a z p then r.join (aar p)else r) r=r.join (bq ((ps.filter (abf s a z)).map (CN ns)))
 |[],r,_,_=>by simp [bq,dn]
 |p::ps,r,hr,hp=>by
  have h1:=hp p bj
  have h2:∀q∈ps,(aar q).jr:=fun q hq=>hp q (by simp [hq])
  rw [List.foldl_cons]
  by_cases hi:abf s a z p=true
  ·rw [ar hi,abu (ja hr h1) h2,rG hi,List.map_cons]
   have hf:(bq ((ps.filter (abf s a z)).map (CN ns))).jr:=cW fun e he=>by
    obtain⟨q,hq,rfl⟩:=wN.1 he
    exact h2 q (mn.1 hq).1
   show _=r.join ((aar p).join _)
   rw [join_assoc hr h1 hf]
  ·rw [ai hi,abu hr h2,qB hi]
def QO (L:List aC) (sz p a z:Int):List aC:=((oG (L.map (bucket sz))).filter (xA p a z)).map rowOf
theorem zr {L:List aC} {sz:Int} (hsz:0<sz) (hT:∀e∈L,e.key%1048576<14400) {e:aC} (he:e∈oG (L.map (bucket sz))):e.key%1048576<14400/\e.key%1048576%sz=0/\∃x∈L,x.key/1048576=e.key/1048576/\e.key%1048576=x.key%1048576-x.key%1048576%sz:=by
 obtain⟨y,hy|hy,hk⟩:=Al he
 ·obtain⟨x,hx,rfl⟩:=wN.1 hy
  have ht:=hT x hx
  have h0:=Int.emod_nonneg x.key (show (1048576:Int)≠0 by decide)
  have h1:=Int.emod_nonneg (x.key%1048576) (show sz≠0 by omega)
  have h2:=mod_le h0 hsz
  have h3:(bucket sz x).key=x.key-x.key%1048576%sz:=rfl
  rw [h3]at hk
  have h4:e.key%1048576=x.key%1048576-x.key%1048576%sz:=af
  refine⟨af,?_,x,hx,af,h4⟩
  rw [h4,Int.sub_emod,Int.emod_emod_of_dvd _ (Int.dvd_refl sz),Int.sub_self,Int.zero_emod]
 ·cases hy
theorem um {M:List aC} (hr:aT M) {q:aC->Bool} {e:aC} (he:e∈M) (hq:q e=true) (h1:∀x∈M,q x=true->x.key=e.key):M.filter q=[e]:=by
 induction M with
 |nil=>cases he
 |cons y l ih=>
  have hc:=rE.1 hr
  rcases fk.1 he with rfl|he'
  ·rw [rG hq]
   congr 1
   refine List.filter_eq_nil_iff.2 fun x hx hqx=>?_
   have:=h1 x (by simp [hx]) hqx
   have:=hc.1 x hx
   omega
  ·have hn:¬q y=true:=fun hqy=>by
    have:=h1 y bj hqy
    have:=hc.1 e he'
    omega
   rw [qB hn]
   exact ih hc.2 he' fun x hx=>h1 x (by simp [hx])
theorem Nv {a b s:Int} (hs:0<s) (ha:a%s=0) (hb:b%s=0) (h1:a<=b) (h2:b<a+s):a=b:=by
 have e1:=Int.ediv_mul_add_emod a s
 have e2:=Int.ediv_mul_add_emod b s
 rw [ha]at e1
 rw [hb]at e2
 have h3:a/s<=b/s:=Int.ediv_le_ediv hs h1
 rcases Int.lt_or_eq_of_le h3 with h|h
 ·have:(a/s+1)*s<=b/s*s:=Int.mul_le_mul_of_nonneg_right af af
  rw [Int.add_mul]at this
  omega
 ·rw [h]at e1;omega
section
variable {b:Ba} {L:List aC} {N:Nat}
theorem Kn.row (h:Kn b L N) (hN:N<=1000000) {k:Nat} (hk:k<3) (hT:∀e∈L,e.key%1048576<14400) {p:Int} {x:aC} (hx:x∈QO L (aQ k) p 0 1048575) :
  0<=x.key/\x.key<14400/\x.key%aQ k=0/\x.is.c≠0/\x.is=fL L p x.key (x.key+aQ k):=by
 obtain⟨e,he,rfl⟩:=wN.1 hx
 obtain⟨he,hp⟩:=mn.1 he
 obtain⟨h1,h2,-⟩:=zr (ir k) hT he
 have h0:=Int.emod_nonneg e.key (show (1048576:Int)≠0 by decide)
 have hg:=h.bQ.2
 have hb:=(eu (ir k) hg).1.bQ
 have hge:=fA hb e he
 have hpk:e.key/1048576=p:=by
  unfold xA at hp
  simp only [Bool.and_eq_true,yi]at hp
  exact hp.1
 have hs:aQ k<=3600:=by
  obtain rfl|rfl|rfl:k=0\/k=1\/k=2:=af
  all_goals decide
 have hsp:=ir k
 refine⟨h0,h1,h2,?_,?_⟩
 ·have:=hge.1
  show e.is.c≠0
  omega
 show e.is=fL L p (e.key%1048576) (e.key%1048576+aQ k)
 rw [<-xu hg (h.rolled hN hk) h0 af h2 (by rw [Int.add_emod,h2,Int.emod_self];rfl)]
 rw [um (dV hb) he (by unfold aR;simp;omega) fun y hy hq=>?_]
 ·exact(dn e.is).symm
 ·obtain⟨y1,y2,-⟩:=zr (ir k) hT hy
  unfold aR at hq
  simp only [Bool.and_eq_true,yi]at hq
  have:=Nv hsp h2 y2 af af
  omega
end
end Go.Proofs.YtmljjfhgciaceaaDoor
