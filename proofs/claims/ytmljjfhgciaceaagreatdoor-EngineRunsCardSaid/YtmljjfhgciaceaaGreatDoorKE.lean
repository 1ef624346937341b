/- Lemmas of the proof. -/
import Derived.Test.YtmljjfhgciaceaaGreatDoorHd
import Derived.Test.YtmljjfhgciaceaaGreatDoorCz
import Derived.Test.YtmljjfhgciaceaaGreatDoorKC
import Derived.Test.YtmljjfhgciaceaaGreatDoorTG
import Derived.Test.YtmljjfhgciaceaaGreatDoorKD
namespace Go.Proofs.YtmljjfhgciaceaaGreatDoor
section
variable {b:Ba} {s:ByteArray} {a z:Int} {L l:List aH} {N:Nat}
structure Kn (b:Ba) (L:List aH) (N:Nat):Prop where
 may:aS b=true
 book:cx b=some L
 gw:gw L<=N
theorem Ky.kn (h:Ky b L N):Kn b L N:=⟨h.may,h.book,h.gw⟩
theorem Kn.cp (h:Kn b L N):aY L/\dX L:=fI h.book
theorem OX (l:List aH):(bj l).c=gw l:=by
 induction l with
 |nil=>rfl
 |cons e l ih=>rw [fM,bj,dO,ih]
theorem AP (h:bQ L) (p:aH->Bool):gw (L.filter p)<=gw L:=by
 induction L with
 |nil=>simp
 |cons e l ih=>
  have h1:=ih h.cons.2;have h2:=h.cons.1.1;rw [fM];by_cases hp:p e=true
  ·rw [uS hp,fM];omega
  ·rw [uR hp];omega
theorem Iu (h:bQ L):(L.length:Int)<=gw L:=by
 induction L with
 |nil=>simp [gw]
 |cons e l ih=>
  have h1:=ih h.cons.2;have h2:=h.cons.1.1;rw [fM,gD];push_cast;omega
theorem Kn.FK (h:Kn b L N) (s:ByteArray):(bt b.names s<0/\cj b s=6)\/(0<=bt b.names s/\cj b s=0):=by
 unfold cj;rw [aw h.may];by_cases hp:bt b.names s<0
 ·exact .inl ⟨hp,aw hp⟩
 ·exact .inr ⟨ai,ar hp⟩
theorem Kn.total (h:Kn b L N) (hN:N<=1000000) (hs:0<=bt b.names s) (hr:dA a z):mH b s a z=0/\mG b s a z=gS L (bt b.names s) a (z+1):=by
 have he:cj b s=0:=by rcases h.FK s with h1|h1 <;> omega
 have hg:=h.cp.2.1.cp;have hc:(gS L (bt b.names s) a (z+1)).c<=1073741824:=by
  unfold gS;rw [OX];have:=AP hg (aV (bt b.names s*1048576+a) (bt b.names s*1048576+(z+1)));have:=h.gw;omega
 have hf:=vG hg.dV (bt b.names s) a (z+1);have hm:bZ ax.zero (gS L (bt b.names s) a (z+1))=some (gS L (bt b.names s) a (z+1)):=by
  unfold bZ;rw [aw (by show (0:Int)+_<=_;omega),fB hf]
 unfold mH mG;rw [ar (jw he),ar (jw he),ar (jw hr),ar (jw hr),h.book];simp only;rw [hm];exact⟨rfl,rfl⟩
theorem Kn.len (h:Kn b L N):L<=N:=by
 have h1:=Iu h.cp.2.1.cp;have h2:=h.gw;omega
theorem Rh {x:aH}:(ins l x).length<=l+1:=by
 induction l with
 |nil=>simp [ins]
 |cons e l ih=>
  unfold ins
  split
  ·simp only [gD];omega
  ·split <;> simp
theorem Dj:∀{m:List aH},(l.foldl ins m).length<=m+l:=by
 induction l with
 |nil=>intro m;simp
 |cons e l ih=>
  intro m;rw [List.foldl_cons,gD];have h1:=@ih (ins m e);have h2:=@Rh m e;omega
theorem Kn.rolled (h:Kn b L N) (hN:N<=1000000) {k:Nat} (_hk:k<3):bw L (bp k)=some (pH (L.map (bucket (bp k)))):=by
 have hg:=h.cp.2;have hb:=(eF (eB k) hg).1;unfold bw;rw [ky hb,aw];refine nV hb.cp ?_;rw [rq];have:=h.gw;omega
theorem Kn.rows (h:Kn b L N) (hN:N<=500) (hs:0<=bt b.names s) {k:Nat} (hk:k<3) (hr:dA a z) :
  eD b s (bp k) a z=0/\pn b s (bp k) a z=((pH (L.map (bucket (bp k)))).filter (im (bt b.names s) a z)).map rowOf:=by
 have he:cj b s=0:=by rcases h.FK s with h1|h1 <;> omega
 have hl:rP b s (bp k) a z=((pH (L.map (bucket (bp k)))).filter (im (bt b.names s) a z)).map rowOf:=by
  unfold rP;rw [h.book];simp only;rw [h.rolled ai hk]
 have hlen:¬500<(rP b s (bp k) a z).length:=by
  rw [hl,oX];have h1:=ub (im (bt b.names s) a z) (pH (L.map (bucket (bp k))));have h2:=@Dj (L.map (bucket (bp k))) [];have h3:=h.len;rw [oX]at h2;simp only [List.length_nil,iR]at h2;show ¬_;unfold pH at h1 ⊢;omega
 have hsz:¬(bp k≠1/\bp k≠60/\bp k≠3600):=by
  obtain rfl|rfl|rfl:k=0\/k=1\/k=2:=ai
  all_goals decide
 have h1:eD b s (bp k) a z=0:=by unfold eD;rw [ar (jw he),ar hsz,ar (jw hr),ar hlen]
 exact⟨h1,by unfold pn;rw [aw h1,hl]⟩
end
def Nb (L:List aH) (sz p a z:Int):List aH:=((pH (L.map (bucket sz))).filter (im p a z)).map rowOf
theorem Cu {L:List aH} {sz:Int} (hsz:0<sz) (hT:∀e∈L,e.key%1048576<14400) {e:aH} (he:e∈pH (L.map (bucket sz))):e.key%1048576<14400/\e.key%1048576%sz=0/\∃x∈L,x.key/1048576=e.key/1048576/\e.key%1048576=x.key%1048576-x.key%1048576%sz:=by
 obtain⟨y,hy|hy,hk⟩:=Di he
 ·obtain⟨x,hx,rfl⟩:=ua.1 hy;have ht:=hT x hx;have h0:=Int.emod_nonneg x.key (show (1048576:Int)≠0 by decide);have h1:=Int.emod_nonneg (x.key%1048576) (show sz≠0 by omega);have h2:=mod_le h0 hsz;have h3:(bucket sz x).key=x.key-x.key%1048576%sz:=rfl;rw [h3]at hk;have h4:e.key%1048576=x.key%1048576-x.key%1048576%sz:=ai;refine⟨ai,?_,x,hx,ai,h4⟩;rw [h4,Int.sub_emod,Int.emod_emod_of_dvd _ (Int.dvd_refl sz),Int.sub_self,Int.zero_emod]
 ·cases hy
theorem xS {M:List aH} (hr:aY M) {q:aH->Bool} {e:aH} (he:e∈M) (hq:q e=true) (h1:∀x∈M,q x=true->x.key=e.key):M.filter q=[e]:=by
 induction M with
 |nil=>cases he
 |cons y l ih=>
  have hc:=tZ.1 hr;rcases fy.1 he with rfl|he'
  ·rw [uS hq]
   congr 1
   refine List.filter_eq_nil_iff.2 fun x hx hqx=>?_;have:=h1 x (by simp [hx]) hqx;have:=hc.1 x hx;omega
  ·have hn:¬q y=true:=fun hqy=>by
    have:=h1 y bh hqy;have:=hc.1 e he';omega
   rw [uR hn];exact ih hc.2 he' fun x hx=>h1 x (by simp [hx])
theorem Sy {a b s:Int} (hs:0<s) (ha:a%s=0) (hb:b%s=0) (h1:a<=b) (h2:b<a+s):a=b:=by
 have e1:=Int.ediv_mul_add_emod a s;have e2:=Int.ediv_mul_add_emod b s;rw [ha]at e1;rw [hb]at e2;have h3:a/s<=b/s:=Int.ediv_le_ediv hs h1;rcases Int.lt_or_eq_of_le h3 with h|h
 ·have:(a/s+1)*s<=b/s*s:=Int.mul_le_mul_of_nonneg_right ai ai;rw [Int.add_mul]at this;omega
 ·rw [h]at e1;omega
section
variable {b:Ba} {L:List aH} {N:Nat}
theorem Kn.row (h:Kn b L N) (hN:N<=1000000) {k:Nat} (hk:k<3) (hT:∀e∈L,e.key%1048576<14400) {p:Int} {x:aH} (hx:x∈Nb L (bp k) p 0 1048575) :
  0<=x.key/\x.key<14400/\x.key%bp k=0/\x.is.c≠0/\x.is=gS L p x.key (x.key+bp k):=by
 obtain⟨e,he,rfl⟩:=ua.1 hx;obtain⟨he,hp⟩:=nt.1 he;obtain⟨h1,h2,-⟩:=Cu (eB k) hT he;have h0:=Int.emod_nonneg e.key (show (1048576:Int)≠0 by decide);have hg:=h.cp.2;have hb:=(eF (eB k) hg).1.cp;have hge:=gU hb e he;have hpk:e.key/1048576=p:=by
  unfold im at hp;simp only [Bool.and_eq_true,Du]at hp;exact hp.1
 have hs:bp k<=3600:=by
  obtain rfl|rfl|rfl:k=0\/k=1\/k=2:=ai
  all_goals decide
 have hsp:=eB k;refine⟨h0,h1,h2,?_,?_⟩
 ·have:=hge.1;show e.is.c≠0;omega
 show e.is=gS L p (e.key%1048576) (e.key%1048576+bp k);rw [<-Ao hg (h.rolled hN hk) h0 ai h2 (by rw [Int.add_emod,h2,Int.emod_self];rfl)];rw [xS (eW hb) he (by unfold aV;simp;omega) fun y hy hq=>?_]
 ·exact(dN e.is).symm
 ·obtain⟨y1,y2,-⟩:=Cu (eB k) hT hy;unfold aV at hq;simp only [Bool.and_eq_true,Du]at hq;have:=Sy hsp h2 y2 ai ai;omega
end
end Go.Proofs.YtmljjfhgciaceaaGreatDoor
