/- Texts of mine that come as one: BstQ KTotP RowsK. -/
import Derived.Test.YtmljjfhgciaceaaGreatDoorHd
import Derived.Test.YtmljjfhgciaceaaGreatDoorKC
import Derived.Test.YtmljjfhgciaceaaGreatDoorTG
import Derived.Test.YtmljjfhgciaceaaGreatDoorKD
namespace Go.Proofs.YtmljjfhgciaceaaGreatDoor
section
variable {b:Ba} {s:ByteArray} {a z:Int} {L l:List aA} {N k:Nat}
structure Kn (b:Ba) (L:List aA) (N:Nat):Prop where
 may:aR b=true
 book:bX b=some L
 fB:fB L<=N
theorem Fp.kn (h:Fp b L N):Kn b L N:=⟨h.may,h.book,h.fB⟩
theorem Kn.bP (h:Kn b L N):aX L/\dY L:=gw h.book
theorem Bi (l:List aA):(bj l).c=fB l:=by
 induction l with
 |nil=>rfl
 |cons e l ih=>rw [eN,bj,dJ,ih]
theorem rC (h:aW L) (p:aA->Bool):fB (L.filter p)<=fB L:=by
 induction L with
 |nil=>simp
 |cons e l ih=>
  have h1:=ih h.cons.2
  have h2:=h.cons.1.1
  rw [eN]
  by_cases hp:p e=true
  ·rw [tP hp,eN];omega
  ·rw [sH hp];omega
theorem DA (h:aW L):(L.length:Int)<=fB L:=by
 induction L with
 |nil=>simp [fB]
 |cons e l ih=>
  have h1:=ih h.cons.2
  have h2:=h.cons.1.1
  rw [eN,fR];push_cast;omega
theorem Kn.BW (h:Kn b L N) (s:ByteArray):(aG b.names s<0/\bU b s=6)\/(0<=aG b.names s/\bU b s=0):=by
 unfold bU
 rw [ar h.may]
 by_cases hp:aG b.names s<0
 ·exact .inl ⟨hp,ar hp⟩
 ·exact .inr ⟨af,ai hp⟩
theorem Kn.total (h:Kn b L N) (hN:N<=1000000) (hs:0<=aG b.names s) (hr:cO a z):mz b s a z=0/\mv b s a z=eT L (aG b.names s) a (z+1):=by
 have he:bU b s=0:=by rcases h.BW s with h1|h1 <;> omega
 have hg:=h.bP.2.1.bP
 have hc:(eT L (aG b.names s) a (z+1)).c<=1073741824:=by
  unfold eT
  rw [Bi]
  have:=rC hg (aT (aG b.names s*1048576+a) (aG b.names s*1048576+(z+1)))
  have:=h.fB
  omega
 have hf:=rS hg.dD (aG b.names s) a (z+1)
 have hm:bM av.zero (eT L (aG b.names s) a (z+1))=some (eT L (aG b.names s) a (z+1)):=by
  unfold bM
  rw [ar (by show (0:Int)+_<=_;omega),eF hf]
 unfold mz mv
 rw [ai (iM he),ai (iM he),ai (iM hr),ai (iM hr),h.book]
 simp only
 rw [hm]
 exact⟨rfl,rfl⟩
theorem Kn.len (h:Kn b L N):L.length<=N:=by
 have h1:=DA h.bP.2.1.bP
 have h2:=h.fB
 omega
theorem Mk {x:aA}:(ins l x).length<=l.length+1:=by
 induction l with
 |nil=>simp [ins]
 |cons e l ih=>
  unfold ins
  split
  ·simp only [fR];omega
  ·split <;> simp
theorem zU:∀{m:List aA},(l.foldl ins m).length<=m.length+l.length:=by
 induction l with
 |nil=>intro m;simp
 |cons e l ih=>
  intro m
  rw [List.foldl_cons,fR]
  have h1:=@ih (ins m e)
  have h2:=@Mk m e
  omega
theorem Kn.rolled (h:Kn b L N) (hN:N<=1000000) (_hk:k<3):bV L (aS k)=some (mo (L.map (bucket (aS k)))):=by
 have hg:=h.bP.2
 have hb:=(eA (iu k) hg).1
 unfold bV
 rw [jD hb,ar]
 refine n9 hb.bP ?_
 rw [rD]
 have:=h.fB
 omega
theorem Kn.rows (h:Kn b L N) (hN:N<=500) (hs:0<=aG b.names s) (hk:k<3) (hr:cO a z) :
  eX b s (aS k) a z=0/\nM b s (aS k) a z=((mo (L.map (bucket (aS k)))).filter (uD (aG b.names s) a z)).map rowOf:=by
 have he:bU b s=0:=by rcases h.BW s with h1|h1 <;> omega
 have hl:sL b s (aS k) a z=((mo (L.map (bucket (aS k)))).filter (uD (aG b.names s) a z)).map rowOf:=by
  unfold sL
  rw [h.book]
  simp only
  rw [h.rolled af hk]
 have hlen:¬500<(sL b s (aS k) a z).length:=by
  rw [hl,po]
  have h1:=tQ (uD (aG b.names s) a z) (mo (L.map (bucket (aS k))))
  have h2:=@zU (L.map (bucket (aS k))) []
  have h3:=h.len
  rw [po]at h2
  simp only [List.length_nil,iX]at h2
  show ¬_
  unfold mo at h1 ⊢
  omega
 have hsz:¬(aS k≠1/\aS k≠60/\aS k≠3600):=by
  obtain rfl|rfl|rfl:k=0\/k=1\/k=2:=af
  all_goals decide
 have h1:eX b s (aS k) a z=0:=by unfold eX;rw [ai (iM he),ai hsz,ai (iM hr),ai hlen]
 exact⟨h1,by unfold nM;rw [ar h1,hl]⟩
end
theorem JC {xs:List ByteArray} {x y:ByteArray} (hx:x∈xs) (h:aG xs x=aG xs y):x=y:=by
 rcases eY xs x with ⟨k,hk,e,h1,-⟩|⟨e,h1⟩
 ·rcases eY xs y with ⟨j,hj,e',h1',-⟩|⟨e',h1'⟩
  ·have:k=j:=af
   subst this
   exact h1.symm.trans h1'
  ·omega
 ·have:=eU.2 hx;omega
theorem zT {E:List aA} (hg:aW E) (p:Int->Bool):(mo E).filter (fun e=>p e.key)=mo (E.filter fun e=>p e.key):=by
 have WR:aW (E.filter fun e=>p e.key):=fun e he=>hg e (ju.1 he).1
 have hgb:aW ((mo E).filter fun e=>p e.key):=fun e he=>eK hg e (ju.1 he).1
 refine oY ((di hg).filter _) (di WR) hgb (eK WR) fun k=>?_
 rw [fu WR,lY,lY,fu hg]
theorem wk {s:ByteArray} {a z:Int} {ns:List ByteArray}:∀{ps:List sk} {r:av},r.iq->(∀p∈ps,(A7 p).iq)->ps.foldl (fun r p=>if Gp s a z p then r.join (A7 p)else r) r=r.join (bj ((ps.filter (Gp s a z)).map (l8 ns)))
 |[],r,_,_=>by simp [bj,cY]
 |p::ps,r,hr,hp=>by
  have h1:=hp p bt
  have h2:∀q∈ps,(A7 q).iq:=fun q hq=>hp q (by simp [hq])
  rw [List.foldl_cons]
  by_cases hi:Gp s a z p=true
  ·rw [ar hi,wk (iA hr h1) h2,tP hi,List.map_cons]
   have hf:(bj ((ps.filter (Gp s a z)).map (l8 ns))).iq:=cg fun e he=>by
    obtain⟨q,hq,rfl⟩:=pn.1 he
    exact h2 q (ju.1 hq).1
   show _=r.join ((A7 p).join _)
   rw [join_assoc hr h1 hf]
  ·rw [ai hi,wk hr h2,sH hi]
def Ix (L:List aA) (sz p a z:Int):List aA:=((mo (L.map (bucket sz))).filter (uD p a z)).map rowOf
theorem yY {L:List aA} {sz:Int} (hsz:0<sz) (hT:∀e∈L,e.key%1048576<14400) {e:aA} (he:e∈mo (L.map (bucket sz))):e.key%1048576<14400/\e.key%1048576%sz=0/\∃x∈L,x.key/1048576=e.key/1048576/\e.key%1048576=x.key%1048576-x.key%1048576%sz:=by
 obtain⟨y,hy|hy,hk⟩:=zS he
 ·obtain⟨x,hx,rfl⟩:=pn.1 hy
  have ht:=hT x hx
  have h0:=Int.emod_nonneg x.key (show (1048576:Int)≠0 by decide)
  have h1:=Int.emod_nonneg (x.key%1048576) (show sz≠0 by omega)
  have h2:=mod_le h0 hsz
  have h3:(bucket sz x).key=x.key-x.key%1048576%sz:=rfl
  rw [h3]at hk
  have h4:e.key%1048576=x.key%1048576-x.key%1048576%sz:=af
  refine⟨af,?_,x,hx,af,h4⟩
  rw [h4,Int.sub_emod,Int.emod_emod_of_dvd _ (Int.dvd_refl sz),Int.sub_self,Int.zero_emod]
 ·cases hy
theorem uq {M:List aA} (hr:aX M) {q:aA->Bool} {e:aA} (he:e∈M) (hq:q e=true) (h1:∀x∈M,q x=true->x.key=e.key):M.filter q=[e]:=by
 induction M with
 |nil=>cases he
 |cons y l ih=>
  have hc:=rE.1 hr
  rcases eZ.1 he with rfl|he'
  ·rw [tP hq]
   congr 1
   refine List.filter_eq_nil_iff.2 fun x hx hqx=>?_
   have:=h1 x (by simp [hx]) hqx
   have:=hc.1 x hx
   omega
  ·have hn:¬q y=true:=fun hqy=>by
    have:=h1 y bt hqy
    have:=hc.1 e he'
    omega
   rw [sH hn]
   exact ih hc.2 he' fun x hx=>h1 x (by simp [hx])
theorem Nt {a b s:Int} (hs:0<s) (ha:a%s=0) (hb:b%s=0) (h1:a<=b) (h2:b<a+s):a=b:=by
 have e1:=Int.ediv_mul_add_emod a s
 have e2:=Int.ediv_mul_add_emod b s
 rw [ha]at e1
 rw [hb]at e2
 have h3:a/s<=b/s:=Int.ediv_le_ediv hs h1
 rcases Int.lt_or_eq_of_le h3 with h|h
 ·have:(a/s+1)*s<=b/s*s:=Int.mul_le_mul_of_nonneg_right af af
  rw [Int.add_mul]at this
  omega
 ·rw [h]at e1;omega
section
variable {b:Ba} {L:List aA} {N:Nat}
theorem Kn.row (h:Kn b L N) (hN:N<=1000000) {k:Nat} (hk:k<3) (hT:∀e∈L,e.key%1048576<14400) {p:Int} {x:aA} (hx:x∈Ix L (aS k) p 0 1048575) :
  0<=x.key/\x.key<14400/\x.key%aS k=0/\x.is.c≠0/\x.is=eT L p x.key (x.key+aS k):=by
 obtain⟨e,he,rfl⟩:=pn.1 hx
 obtain⟨he,hp⟩:=ju.1 he
 obtain⟨h1,h2,-⟩:=yY (iu k) hT he
 have h0:=Int.emod_nonneg e.key (show (1048576:Int)≠0 by decide)
 have hg:=h.bP.2
 have hb:=(eA (iu k) hg).1.bP
 have hge:=eK hb e he
 have hpk:e.key/1048576=p:=by
  unfold uD at hp
  simp only [Bool.and_eq_true,wI]at hp
  exact hp.1
 have hs:aS k<=3600:=by
  obtain rfl|rfl|rfl:k=0\/k=1\/k=2:=af
  all_goals decide
 have hsp:=iu k
 refine⟨h0,h1,h2,?_,?_⟩
 ·have:=hge.1
  show e.is.c≠0
  omega
 show e.is=eT L p (e.key%1048576) (e.key%1048576+aS k)
 rw [<-xc hg (h.rolled hN hk) h0 af h2 (by rw [Int.add_emod,h2,Int.emod_self];rfl)]
 rw [uq (di hb) he (by unfold aT;simp;omega) fun y hy hq=>?_]
 ·exact(cY e.is).symm
 ·obtain⟨y1,y2,-⟩:=yY (iu k) hT hy
  unfold aT at hq
  simp only [Bool.and_eq_true,wI]at hq
  have:=Nt hsp h2 y2 af af
  omega
end
end Go.Proofs.YtmljjfhgciaceaaGreatDoor
