/- Texts of mine that come as one: DecP DecQ Rdr RdrN RdrS. -/
import Derived.Test.YtmljjfhgciaceaaDoorHd
import Derived.Test.YtmljjfhgciaceaaDoorBG
import Derived.Laws.BytesArg
import Derived.Test.YtmljjfhgciaceaaDoorKG
namespace Go.Proofs.YtmljjfhgciaceaaDoor
section
variable {most key:Int} {ns:List ByteArray} {l:List aC} {t:List Int} {m k:Nat}
def jG:Nat->Int->List Int->List Int×Int×Int
 |_,_,[]=>([],5,0)
 |i,n,c::r=>if i=8\/(0<i/\c=0) then(r,4,0)else if c<128 then(r,0,n+c*128 ^ i)else jG (i+1) (n+(c%128)*128 ^ i) r
theorem DB:∀{b:List Int} {i:Nat} {n:Int} {r:List Int} {e v:Int},jG i n b=(r,e,v)->e≠0->v=0/\(e=4\/e=5)
 |[],i,n,r,e,v,h,he=>by
  unfold jG at h
  simp only [jM]at h
  omega
 |c::b,i,n,r,e,v,h,he=>by
  unfold jG at h
  split at h
  ·simp only [jM]at h;omega
  ·split at h
   ·simp only [jM]at h;omega
   ·exact DB h he
theorem IL:∀{b:List Int} {i:Nat} {n:Int} {r:List Int} {v:Int},(∀c∈b,0<=c/\c<=255)->i<=8->jG i n b=(r,0,v) ->
  ∃m:Nat,v=n+m*128 ^ i/\b=ay m++r/\(0<i->0<m)/\m<128 ^ (8-i)
 |[],i,n,r,v,hb,hi,h=>by
  unfold jG at h
  simp only [jM]at h
  omega
 |c::b,i,n,r,v,hb,hi,h=>by
  have hc:=hb c bj
  unfold jG at h
  split at h
  ·simp only [jM]at h;omega
  ·rename_i h1
   have hi8:i<8:=af
   have PS:(128:Nat) ^ (8-i)=128*128 ^ (8-(i+1)):=by
    have:8-i=(8-(i+1))+1:=af
    rw [this,Nat.pow_succ,Nat.mul_comm]
   have hpos:0<(128:Nat) ^ (8-(i+1)):=Nat.pow_pos aW
   split at h
   ·rename_i h2
    simp only [jM]at h
    obtain⟨rfl,-,rfl⟩:=h
    refine⟨c.toNat,by rw [Int.toNat_of_nonneg hc.1],?_,fun hi0=>af,by rw [PS];omega⟩
    rw [jD af,Int.toNat_of_nonneg hc.1];rfl
   ·rename_i h2
    obtain⟨m,rfl,rfl,h3,h4⟩:=IL (fun x hx=>hb x (by simp [hx])) af h
    have h3:=h3 af
    refine⟨(c%128).toNat+128*m,?_,?_,fun _=>af,by rw [PS];omega⟩
    ·have e1:(((c%128).toNat+128*m:Nat):Int)=c%128+128*(m:Int):=af
     rw [e1,Int.add_mul,Int.pow_succ,Int.mul_comm (128:Int) (m:Int),Int.mul_assoc,Int.mul_comm (128:Int) (128 ^ i)];omega
    ·have e1:((c%128).toNat+128*m)%128=(c%128).toNat:=af
     have e2:((c%128).toNat+128*m)/128=m:=af
     rw [lV (n:=(c%128).toNat+128*m) af,e1,e2,List.cons_append]
     congr 1
     omega
theorem Pq:∀(m:Nat) {i:Nat} {n:Int} {r:List Int},i<=7->(0<i->0<m)->m<128 ^ (8-i)->jG i n (ay m++r)=(r,0,n+m*128 ^ i):=by
 intro m
 induction m using Nat.strongRecOn with
 |_ m ih=>
  intro i n r hi h0 h1
  have PS:(128:Nat) ^ (8-i)=128*128 ^ (8-(i+1)):=by
   have:8-i=(8-(i+1))+1:=af
   rw [this,Nat.pow_succ,Nat.mul_comm]
  by_cases hm:m<128
  ·rw [jD hm,List.singleton_append]
   unfold jG
   rw [ai af,ar af]
  ·rw [lV hm,List.cons_append]
   unfold jG
   rw [ai af,ai af]
   have h2:m/128<128 ^ (8-(i+1)):=by
    rw [PS]at h1
    rw [Nat.div_lt_iff_lt_mul aW,Nat.mul_comm];exact h1
   by_cases hi7:i=7
   ·subst hi7
    simp at h2
    omega
   ·rw [ih (m/128) af af (fun _=>af) h2]
    simp only [jM,true_and]
    have e1:(128+(m%128:Nat):Int)%128=(m%128:Nat):=af
    have e2:(m:Int)=(m%128:Nat)+128*(m/128:Nat):=af
    rw [e1,e2,Int.add_mul,Int.pow_succ,Int.mul_comm (128:Int) ((m/128:Nat):Int),Int.mul_assoc,Int.mul_comm (128:Int) (128 ^ i)]
    omega
theorem Dz {xs:List Int} (h:aN xs):nums (strOfNums xs)=xs:=by
 unfold nums strOfNums
 simp only [List.map_map]
 refine(List.map_congr_left fun c hc=>?_).trans (List.map_id xs)
 have:=h c hc
 simp only [Function.comp,UInt8.toNat_ofNat',id]
 omega
theorem Lu (s:ByteArray):strOfNums (nums s)=s:=by
 unfold nums strOfNums
 simp only [List.map_map]
 have:(s.data.toList.map ((fun n:Int=>UInt8.ofNat n.toNat)∘fun b:UInt8=>(b.toNat:Int)))=s.data.toList:=
  (List.map_congr_left fun c _=>by simp [Function.comp]).trans (List.map_id _)
 rw [this]
theorem xw:∀{b:List Int} {i:Nat} {n:Int},∃p,b=p++(jG i n b).1
 |[],i,n=>⟨[],rfl⟩
 |c::b,i,n=>by
  unfold jG
  split
  ·exact⟨[c],rfl⟩
  ·split
   ·exact⟨[c],rfl⟩
   ·obtain⟨p,hp⟩:=@xw b (i+1) (n+(c%128)*128 ^ i)
    exact⟨c::p,by rw [List.cons_append,<-hp]⟩
structure Rd where
 b:List Int
 e:Int
def Rd.num (r:Rd):Rd×Int:=if r.e=0 then(⟨(jG 0 0 r.b).1,(jG 0 0 r.b).2.1⟩,(jG 0 0 r.b).2.2) else(r,0)
def Rd.wrong (r:Rd) (e:Int):Rd:=if r.e=0 then⟨r.b,e⟩else r
def ui (n:Int):Int:=if n%2=1 then -((n+1)/2)else n/2
def Rd.rS (r:Rd):Rd×Int:=(r.num.1,ui r.num.2)
def Rd.cnt (r:Rd) (most:Int):Rd×Int:=if most<r.num.2 then(r.num.1.wrong 1,0)else r.num
theorem DA {r:Rd} (h:r.e≠0):r.num=(r,0):=by unfold Rd.num;rw [ai h]
theorem Gh (r:Rd):∃p,r.b=p++r.num.1.b:=by
 unfold Rd.num
 split
 ·exact xw
 ·exact⟨[],rfl⟩
theorem eX {r:Rd} (h:aN r.b):aN r.num.1.b:=by
 obtain⟨p,hp⟩:=Gh r
 intro c hc
 exact h c (by rw [hp];simp [hc])
theorem vT {r:Rd} (hb:aN r.b) (h:r.num.1.e=0):r.e=0/\∃m:Nat,r.num.2=m/\r.b=ay m++r.num.1.b/\m<72057594037927936:=by
 by_cases he:r.e=0
 ·refine⟨he,?_⟩
  unfold Rd.num at h ⊢
  rw [ar he]at h ⊢
  simp only at h ⊢
  obtain⟨m,h1,h2,-,h4⟩:=IL (i:=0) (n:=0) (r:=(jG 0 0 r.b).1) (v:=(jG 0 0 r.b).2.2) hb aW (Prod.ext rfl (Prod.ext h rfl))
  exact⟨m,by simpa using h1,h2,by simpa using h4⟩
 ·rw [DA he]at h;exact absurd h he
theorem L8 {r:Rd} (h:r.num.1.e≠0):r.num.2=0:=by
 unfold Rd.num at h ⊢
 split
 ·rename_i he
  rw [ar he]at h
  exact(DB (r:=(jG 0 0 r.b).1) (e:=(jG 0 0 r.b).2.1) rfl h).1
 ·rfl
theorem rY {r:Rd} (hb:aN r.b):0<=r.num.2/\r.num.2<72057594037927936:=by
 by_cases h:r.num.1.e=0
 ·obtain⟨-,m,h1,-,h2⟩:=vT hb h
  omega
 ·rw [L8 h];decide
theorem qT (h:m<72057594037927936):(Rd.mk (ay m++t) 0).num=(⟨t,0⟩,(m:Int)):=by
 have:=Pq m (i:=0) (n:=0) (r:=t) aW (fun h=>absurd h aW) (by simpa using h)
 unfold Rd.num
 rw [ar rfl]
 simp only [this]
 simp
theorem LA:dt (ui m)=ay m:=by
 unfold dt ui
 split
 ·rename_i h;rw [ar af];congr 1;omega
 ·rename_i h;rw [ai af];congr 1;omega
theorem Cn {r:Rd} (hb:aN r.b) (h:r.rS.1.e=0):r.e=0/\r.b=dt r.rS.2++r.rS.1.b:=by
 obtain⟨h1,m,h2,h3,-⟩:=vT hb h
 refine⟨h1,?_⟩
 show r.b=dt (ui r.num.2)++r.num.1.b
 rw [h2,LA];exact h3
theorem uh {v:Int} (h1 : -18014398509481984<v) (h2:v<18014398509481984):(Rd.mk (dt v++t) 0).rS=(⟨t,0⟩,v):=by
 have key:∀m:Nat,m<72057594037927936->dt v=ay m->ui m=v->(Rd.mk (dt v++t) 0).rS=(⟨t,0⟩,v):=fun m hm e1 e2=>by
  unfold Rd.rS
  rw [e1,qT hm]
  simp only [e2]
 unfold dt at key
 by_cases h:v<0
 ·exact key (-2*v-1).toNat af (ar h) (by unfold ui;rw [ar af];omega)
 ·exact key (2*v).toNat af (ai h) (by unfold ui;rw [ai af];omega)
theorem O4 {r:Rd} {e:Int} (he:e≠0):(r.wrong e).e≠0:=by
 unfold Rd.wrong;split
 ·exact he
 ·assumption
theorem O5 {r:Rd} {e:Int}:(r.wrong e).b=r.b:=by unfold Rd.wrong;split <;> rfl
theorem Ht {r:Rd} (hb:aN r.b) (h:(r.cnt most).1.e=0):r.e=0/\∃m:Nat,(r.cnt most).2=m/\r.b=ay m++(r.cnt most).1.b/\(m:Int)<=most:=by
 unfold Rd.cnt at h ⊢
 split
 ·rename_i h1;rw [ar h1]at h;exact absurd h (O4 aW)
 ·rename_i h1
  rw [ai h1]at h
  obtain⟨h2,m,h3,h4,-⟩:=vT hb h
  exact⟨h2,m,h3,h4,af⟩
theorem mW {r:Rd} (h:aN r.b):aN (r.cnt most).1.b:=by
 unfold Rd.cnt
 split
 ·rw [O5];exact eX h
 ·exact eX h
theorem sw {r:Rd} (hm:0<=most) (h:aN r.b):0<=(r.cnt most).2/\(r.cnt most).2<=most:=by
 have:=rY h
 unfold Rd.cnt
 split
 ·exact⟨Int.le_refl _,hm⟩
 ·exact⟨this.1,af⟩
theorem Ah (h:m<72057594037927936) (hm:(m:Int)<=most):(Rd.mk (ay m++t) 0).cnt most=(⟨t,0⟩,(m:Int)):=by
 unfold Rd.cnt
 rw [qT h,ai (by simp only;omega)]
def dM:Nat->Rd->List ByteArray->Rd×List ByteArray
 |0,r,ns=>(r,ns)
 |k+1,r,ns=>if r.e≠0 then(r,ns) else
  if (r.cnt 10).1.e=0/\(r.cnt 10).2<=(r.cnt 10).1.b.length then dM k ⟨(r.cnt 10).1.b.drop (r.cnt 10).2.toNat,0⟩ (ns++[strOfNums ((r.cnt 10).1.b.take (r.cnt 10).2.toNat)])
  else(if (r.cnt 10).1.e=0 then⟨(r.cnt 10).1.b,5⟩ else(r.cnt 10).1,ns)
theorem nW {r:Rd} (h:r.e≠0):dM k r ns=(r,ns):=by
 cases k with
 |zero=>rfl
 |succ k=>unfold dM;rw [ar h]
theorem BC:∀{k:Nat} {r:Rd} {ns:List ByteArray},aN r.b->(dM k r ns).1.e=0->r.e=0/\∃xs:List ByteArray,(dM k r ns).2=ns++xs/\xs.length=k/\r.b=cH xs++(dM k r ns).1.b
 |0,r,ns,_,h=>⟨h,[],by simp [dM],rfl,by simp [dM,cH]⟩
 |k+1,r,ns,hb,h=>by
  by_cases he:r.e=0
  ·refine⟨he,?_⟩
   by_cases hc:(r.cnt 10).1.e=0/\(r.cnt 10).2<=(r.cnt 10).1.b.length
   ·have eq:dM (k+1) r ns=dM k ⟨(r.cnt 10).1.b.drop (r.cnt 10).2.toNat,0⟩ (ns++[strOfNums ((r.cnt 10).1.b.take (r.cnt 10).2.toNat)]):=by
     rw [dM,ai (jo he),ar hc]
    rw [eq]at h ⊢
    have hb1:=mW (most:=10) hb
    obtain⟨-,m,h1,h2,-⟩:=Ht hb hc.1
    have hb2:aN ((r.cnt 10).1.b.drop (r.cnt 10).2.toNat):=fun c hcc=>hb1 c (uZ hcc)
    obtain⟨-,xs,h3,h4,h5⟩:=BC hb2 h
    refine⟨strOfNums ((r.cnt 10).1.b.take (r.cnt 10).2.toNat)::xs,by rw [h3];simp,by simp [h4],?_⟩
    have hl:(strOfNums ((r.cnt 10).1.b.take (r.cnt 10).2.toNat)).size=m:=by
     rw [strOfNums_size,eP,h1]
     have:=hc.2;omega
    have e1:cH (strOfNums ((r.cnt 10).1.b.take (r.cnt 10).2.toNat)::xs)=ay m++(r.cnt 10).1.b.take (r.cnt 10).2.toNat++cH xs:=by
     unfold cH
     rw [gQ,hl,Dz fun c hcc=>hb1 c (wM hcc)]
    rw [e1,h2,jv,jv,<-h5,wL]
   ·have eq:dM (k+1) r ns=(if (r.cnt 10).1.e=0 then⟨(r.cnt 10).1.b,5⟩ else(r.cnt 10).1,ns):=by
     rw [dM,ai (jo he),ai hc]
    rw [eq]at h
    simp only at h
    split at h
    ·cases h
    ·rename_i h1;exact absurd h h1
  ·rw [nW he]at h;exact absurd h he
theorem xx:∀{xs:List ByteArray} {t:List Int} {ns:List ByteArray},(∀s∈xs,s.size<=10)->dM xs.length ⟨cH xs++t,0⟩ ns=(⟨t,0⟩,ns++xs)
 |[],t,ns,_=>by simp [dM,cH]
 |s::xs,t,ns,h=>by
  have hs:=h s bj
  have e1:cH (s::xs)++t=ay s.size++(nums s++(cH xs++t)):=by simp [cH]
  have hc:(Rd.mk (cH (s::xs)++t) 0).cnt 10=(⟨nums s++(cH xs++t),0⟩,(s.size:Int)):=by
   rw [e1];exact Ah af af
  rw [gp,dM,ai bj,hc,ar ⟨rfl,by simp [nums_length];omega⟩]
  simp only [Int.toNat_natCast]
  have e2:(nums s++(cH xs++t)).drop s.size=cH xs++t:=by
   rw [<-nums_length s];exact List.drop_left
  have e3:(nums s++(cH xs++t)).take s.size=nums s:=by
   rw [<-nums_length s];exact List.take_left
  rw [e2,e3,Lu,xx fun x hx=>h x (by simp [hx])]
  simp
theorem uu:∀{k:Nat} {r:Rd} {ns:List ByteArray},aN r.b->aN (dM k r ns).1.b
 |0,r,ns,h=>h
 |k+1,r,ns,h=>by
  have hb1:=mW (most:=10) h
  unfold dM
  split
  ·exact h
  ·split
   ·exact uu fun c hc=>hb1 c (uZ hc)
   ·show aN (if _ then _ else _:Rd).b
    split <;> exact hb1
def gT (l:List aC):Int:=match l.getLast? with|none=>0|some e=>e.key
theorem iZ (l:List aC) (x:aC):gT (l++[x])=x.key:=by simp [gT]
def kT (r:Rd) (key:Int):Rd×aC:=
 (r.num.1.num.1.rS.1.rS.1.rS.1.rS.1,⟨key+r.num.2,⟨r.num.1.num.2,r.num.1.num.1.rS.2,r.num.1.num.1.rS.1.rS.2,r.num.1.num.1.rS.1.rS.1.rS.2,(key+r.num.2)%1048576,r.num.1.num.1.rS.1.rS.1.rS.1.rS.2⟩⟩)
def jK (l:List aC) (x:aC):Prop:=1099511627776<=x.key\/x.is.c=0\/(l≠[]/\x.key<=gT l)
instance (l:List aC) (x:aC):Decidable (jK l x):=by unfold jK;infer_instance
def qA (r:Rd) (l:List aC):Rd:=if (kT r (gT l)).1.e=0/\jK l (kT r (gT l)).2 then⟨(kT r (gT l)).1.b,7⟩ else(kT r (gT l)).1
def iR:Nat->Rd->List aC->Rd×List aC
 |0,r,l=>(r,l)
 |k+1,r,l=>if r.e≠0 then(r,l)else iR k (qA r l) (l++[(kT r (gT l)).2])
theorem pW {r:Rd} (h:r.e≠0):iR k r l=(r,l):=by
 cases k with
 |zero=>rfl
 |succ k=>unfold iR;rw [ar h]
theorem Qj {r:Rd} (hb:aN r.b) (h:(kT r key).1.e=0):r.e=0/\key<=(kT r key).2.key/\r.b=uN key (kT r key).2++(kT r key).1.b/\(kT r key).2.is.t=(kT r key).2.key%1048576/\0<=(kT r key).2.is.c:=by
 have b1:=eX hb
 have b2:=eX b1
 have b3:aN r.num.1.num.1.rS.1.b:=eX b2
 have b4:aN r.num.1.num.1.rS.1.rS.1.b:=eX b3
 have b5:aN r.num.1.num.1.rS.1.rS.1.rS.1.b:=eX b4
 obtain⟨e6,h6⟩:=Cn b5 h
 obtain⟨e5,h5⟩:=Cn b4 e6
 obtain⟨e4,h4⟩:=Cn b3 e5
 obtain⟨e3,h3⟩:=Cn b2 e4
 obtain⟨e2,c,hc,h2,-⟩:=vT b1 e3
 obtain⟨e1,d,hd,h1,-⟩:=vT hb e2
 refine⟨e1,?_,?_,rfl,?_⟩
 ·show key<=key+r.num.2;omega
 ·rw [h1,h2,h3,h4,h5,h6]
  unfold uN
  show _=ay (key+r.num.2-key).toNat++ay (r.num.1.num.2).toNat++_++_++_++_++_
  have e1:(key+r.num.2-key).toNat=d:=af
  have e2:(r.num.1.num.2).toNat=c:=af
  rw [e1,e2]
  simp only [jv]
  rfl
 ·show 0<=r.num.1.num.2;omega
theorem Hm {r:Rd} (hb:aN r.b):aN (kT r key).1.b:=
 eX (eX (eX (eX (eX (eX hb)))))
theorem Hl {r:Rd} (hb:aN r.b):aN (qA r l).b:=by
 unfold qA;split <;> exact Hm hb
theorem zZ (last:Int) (e:aC) (l:List aC):dN last (e::l)=uN last e++dN e.key l:=rfl
def abr (l xs:List aC):Prop:=(∀e∈xs,0<=e.key/\e.key<1099511627776/\0<e.is.c/\e.is.t=e.key%1048576)/\aT xs/\(l≠[]->∀e∈xs,gT l<e.key)
theorem ES:∀{k:Nat} {r:Rd} {l:List aC},aN r.b->0<=gT l->(iR k r l).1.e=0->r.e=0/\∃xs:List aC,(iR k r l).2=l++xs/\xs.length=k/\r.b=dN (gT l) xs++(iR k r l).1.b/\abr l xs
 |0,r,l,_,_,h=>⟨h,[],by simp [iR],rfl,by simp [iR,dN],fun e he=>(by cases he),List.Pairwise.nil,fun _ e he=>(by cases he)⟩
 |k+1,r,l,hb,hk,h=>by
  by_cases he:r.e=0
  ·refine⟨he,?_⟩
   have eq:iR (k+1) r l=iR k (qA r l) (l++[(kT r (gT l)).2]):=by rw [iR,ai (jo he)]
   rw [eq]at h ⊢
   have hb1:=Hl (l:=l) hb
   by_cases hw:(kT r (gT l)).1.e=0/\jK l (kT r (gT l)).2
   ·have:(qA r l).e≠0:=by unfold qA;rw [ar hw];show (7:Int)≠0;decide
    rw [pW this]at h
    exact absurd h this
   ·have ew:qA r l=(kT r (gT l)).1:=by unfold qA;rw [ai hw]
    by_cases h0:(kT r (gT l)).1.e=0
    ·obtain⟨-,d1,d2,d3,d4⟩:=Qj hb h0
     obtain⟨-,xs,h3,h4,h5,h6⟩:=ES hb1 (by rw [iZ];omega) h
     have hnb:¬jK l (kT r (gT l)).2:=fun hh=>hw ⟨h0,hh⟩
     unfold abr at h6
     rw [iZ]at h5 h6
     unfold jK at hnb
     refine⟨(kT r (gT l)).2::xs,by rw [h3];simp,by simp [h4],?_,?_,?_,?_⟩
     ·rw [zZ,jv,<-h5,ew];exact d2
     ·intro e PX
      rcases fk.1 PX with rfl|PX
      ·exact⟨af,af,af,d3⟩
      ·exact h6.1 e PX
     ·exact rE.2 ⟨fun e PX=>h6.2.2 bj e PX,h6.2.1⟩
     ·intro hl e PX
      have h7:gT l<(kT r (gT l)).2.key:=by
       refine Int.not_le.1 fun hle=>hnb (.inr (.inr ⟨hl,hle⟩))
      rcases fk.1 PX with rfl|PX
      ·exact h7
      ·have:=h6.2.2 bj e PX;omega
    ·rw [pW (by rw [ew];exact h0)]at h
     rw [ew]at h
     exact absurd h h0
  ·rw [pW he]at h;exact absurd h he
def Ay (e:aC):Prop:=0<=e.key/\e.key<1099511627776/\0<e.is.c/\e.is.c<72057594037927936/\e.is.t=e.key%1048576/\(-18014398509481984<e.is.s/\e.is.s<18014398509481984)/\(-18014398509481984<e.is.mi/\e.is.mi<18014398509481984)/\(-18014398509481984<e.is.ma/\e.is.ma<18014398509481984)/\(-18014398509481984<e.is.l/\e.is.l<18014398509481984)
theorem Kl {e:aC} (h:Ay e) (hk:key<=e.key) (h0:0<=key):kT ⟨uN key e++t,0⟩ key=(⟨t,0⟩,e):=by
 obtain⟨k1,k2,c1,c2,ht,s,mi,ma,la⟩:=h
 have e0:uN key e++t=ay (e.key-key).toNat++(ay e.is.c.toNat++(dt e.is.s++(dt e.is.mi++(dt e.is.ma++(dt e.is.l++t))))):=by
  unfold uN;simp only [jv]
 have n1:=qT (m:=(e.key-key).toNat) (t:=ay e.is.c.toNat++(dt e.is.s++(dt e.is.mi++(dt e.is.ma++(dt e.is.l++t))))) af
 have n2:=qT (m:=e.is.c.toNat) (t:=dt e.is.s++(dt e.is.mi++(dt e.is.ma++(dt e.is.l++t)))) af
 have n3:=uh (v:=e.is.s) (t:=dt e.is.mi++(dt e.is.ma++(dt e.is.l++t))) s.1 s.2
 have n4:=uh (v:=e.is.mi) (t:=dt e.is.ma++(dt e.is.l++t)) mi.1 mi.2
 have n5:=uh (v:=e.is.ma) (t:=dt e.is.l++t) ma.1 ma.2
 have n6:=uh (v:=e.is.l) (t:=t) la.1 la.2
 rw [e0]
 unfold kT
 rw [n1]
 simp only
 rw [n2]
 simp only
 rw [n3]
 simp only
 rw [n4]
 simp only
 rw [n5]
 simp only
 rw [n6]
 simp only
 have k3:key+((e.key-key).toNat:Int)=e.key:=af
 have k4:((e.is.c.toNat:Nat):Int)=e.is.c:=af
 rw [k3,k4,<-ht]
theorem Aa:∀{xs:List aC} {l:List aC} {t:List Int},0<=gT l->(∀e∈xs,Ay e)->aT xs->(∀e∈xs,gT l<=e.key)->(l≠[]->∀e∈xs,gT l<e.key)->iR xs.length ⟨dN (gT l) xs++t,0⟩ l=(⟨t,0⟩,l++xs)
 |[],l,t,_,_,_,_,_=>by simp [iR,dN]
 |e::xs,l,t,h0,hf,hr,hk,hl=>by
  have hc:=rE.1 hr
  have he:=hf e bj
  have eb:kT ⟨dN (gT l) (e::xs)++t,0⟩ (gT l)=(⟨dN e.key xs++t,0⟩,e):=by
   rw [zZ,jv]
   exact Kl he (hk e bj) h0
  rw [gp,iR,ai bj]
  have ew:qA ⟨dN (gT l) (e::xs)++t,0⟩ l=⟨dN e.key xs++t,0⟩:=by
   unfold qA
   rw [eb]
   refine ai fun hh=>?_
   have hb:=hh.2
   unfold jK at hb
   simp only at hb
   obtain⟨k1,k2,c1,-⟩:=he
   rcases hb with hb|hb|⟨hb1,hb2⟩
   ·omega
   ·omega
   ·have:=hl hb1 e bj;omega
  rw [ew,eb]
  simp only
  have:=Aa (xs:=xs) (l:=l++[e]) (t:=t) (by rw [iZ];exact he.1) (fun x hx=>hf x (by simp [hx])) hc.2 (fun x hx=>by rw [iZ];exact Int.le_of_lt (hc.1 x hx)) (fun _ x hx=>by rw [iZ];exact hc.1 x hx)
  rw [iZ]at this
  rw [this]
  simp
def dz (ns:List ByteArray) (fl:Int) (l:List aC):List Int:=[119,110]++ay ns.length++cH ns++ay fl.toNat++ay l.length++dN 0 l
theorem BS (b:Ba) (l:List aC):jm b l=dz b.names b.floor l:=rfl
def cP (b:List Int):Rd×List ByteArray:=dM ((Rd.mk b 0).cnt 16).2.toNat ((Rd.mk b 0).cnt 16).1 []
def rA (b:List Int):Rd×Int:=(cP b).1.num.1.cnt 10000
def fg (b:List Int):Rd×List aC:=iR (rA b).2.toNat (rA b).1 []
def Aj (b:List Int):Rd:=if (fg b).1.e=0/\0<(fg b).1.b.length then⟨(fg b).1.b,4⟩ else(fg b).1
theorem Qk {b:List Int} (hb:aN b) (h:(Aj b).e=0) :
  [119,110]++b=dz (cP b).2 (cP b).1.num.2 (fg b).2/\(cP b).2.length<=16/\(fg b).2.length<=10000/\abr [] (fg b).2/\0<=(cP b).1.num.2/\(cP b).1.num.2<72057594037927936:=by
 have hnil:(fg b).1.e=0/\(fg b).1.b=[]:=by
  unfold Aj at h
  split at h
  ·cases h
  ·rename_i hn
   refine⟨h,?_⟩
   cases hh:(fg b).1.b with
   |nil=>rfl
   |cons c l=>exact absurd ⟨h,by rw [hh];simp⟩ hn
 have b1:aN ((Rd.mk b 0).cnt 16).1.b:=mW hb
 have b2:aN (cP b).1.b:=uu b1
 have b3:aN (cP b).1.num.1.b:=eX b2
 have b4:aN (rA b).1.b:=mW b3
 obtain⟨e4,xs,h41,h42,h43,h44⟩:=ES (l:=[]) b4 (Int.le_refl _) hnil.1
 obtain⟨e3,c,h31,h32,h33⟩:=Ht b3 e4
 obtain⟨e2,f,h21,h22,h23⟩:=vT b2 e3
 obtain⟨e1,ys,h11,h12,h13⟩:=BC b1 e2
 obtain⟨-,n,h01,h02,h03⟩:=Ht (r:=Rd.mk b 0) hb e1
 have g1:(cP b).2=ys:=by have:(cP b).2=[]++ys:=h11;simpa using this
 have g2:(fg b).2=xs:=by have:(fg b).2=[]++xs:=h41;simpa using this
 have g3:ys.length=n:=by rw [h12,h01];simp
 have g4:xs.length=c:=by rw [h42];show (rA b).2.toNat=c;rw [show (rA b).2=(c:Int)from h31];simp
 refine⟨?_,by rw [g1];omega,by rw [g2];omega,by rw [g2];exact h44,af,af⟩
 rw [g1,g2]
 unfold dz
 have hf:((cP b).1.num.2).toNat=f:=af
 rw [hf,g3,g4]
 have q0:b=ay n++((Rd.mk b 0).cnt 16).1.b:=h02
 have q1:((Rd.mk b 0).cnt 16).1.b=cH ys++(cP b).1.b:=h13
 have q2:(cP b).1.num.1.b=ay c++(rA b).1.b:=h32
 have q3:(rA b).1.b=dN 0 xs++(fg b).1.b:=h43
 have q:b=ay n++(cH ys++(ay f++(ay c++(dN 0 xs++[])))):=by
  rw [<-hnil.2,<-q3,<-q2,<-h22,<-q1];exact q0
 refine(congrArg (fun x=>[119,110]++x) q).trans ?_
 simp only [jv,oL]
theorem Ky {fl:Int} (t:List Int) (h1:ns.length<=16) (h2:∀s∈ns,s.size<=10) (h3:0<=fl) (h4:fl<72057594037927936) (h5:l.length<=10000) (h6:∀e∈l,Ay e) (h7:aT l) {b:List Int} (hb:[119,110]++b=dz ns fl l++t) :
  (cP b).2=ns/\(cP b).1.num.2=fl/\(fg b).2=l/\(fg b).1=⟨t,0⟩:=by
 have hb':b=ay ns.length++(cH ns++(ay fl.toNat++(ay l.length++(dN 0 l++t)))):=by
  unfold dz at hb
  simp only [jv,List.cons_append,List.nil_append,List.cons.injEq,true_and]at hb
  exact hb
 subst hb'
 have q1:=Ah (m:=ns.length) (t:=cH ns++(ay fl.toNat++(ay l.length++(dN 0 l++t)))) (most:=16) af af
 have q2:=xx (xs:=ns) (t:=ay fl.toNat++(ay l.length++(dN 0 l++t))) (ns:=[]) h2
 have g1:cP (ay ns.length++(cH ns++(ay fl.toNat++(ay l.length++(dN 0 l++t)))))=(⟨ay fl.toNat++(ay l.length++(dN 0 l++t)),0⟩,ns):=by
  unfold cP
  rw [q1]
  simp only [Int.toNat_natCast]
  rw [q2];simp
 have q3:=qT (m:=fl.toNat) (t:=ay l.length++(dN 0 l++t)) af
 have q4:=Ah (m:=l.length) (t:=dN 0 l++t) (most:=10000) af af
 have g2:rA (ay ns.length++(cH ns++(ay fl.toNat++(ay l.length++(dN 0 l++t)))))=(⟨dN 0 l++t,0⟩,(l.length:Int)):=by
  unfold rA
  rw [g1]
  simp only
  rw [q3]
  simp only
  rw [q4]
 have q5:=Aa (xs:=l) (l:=[]) (t:=t) (Int.le_refl _) h6 h7 (fun e he=>(h6 e he).1) (fun h=>absurd rfl h)
 have g3:fg (ay ns.length++(cH ns++(ay fl.toNat++(ay l.length++(dN 0 l++t)))))=(⟨t,0⟩,l):=by
  unfold fg
  rw [g2]
  simp only [Int.toNat_natCast]
  have:dN (gT []) l=dN 0 l:=rfl
  rw [this]at q5
  rw [q5];simp
 refine⟨by rw [g1],?_,by rw [g3],by rw [g3]⟩
 rw [g1]
 simp only
 rw [q3]
 simp only
 omega
end
def bu (bs:List Int):List Int:=(bs.take (bs.length-4)).drop 2
def sG (bs:List Int):Int:=
 if 200000<bs.length then 1 else if bs.length<6 then 5 else if bs.take 2≠[119,110]then 4 else if ju (bs.take (bs.length-4))≠bs.drop (bs.length-4)then 9 else(Aj (bu bs)).e
theorem tN {bs:List Int} (h:aN bs):aN (bu bs):=fun c hc=>h c (wM (uZ hc))
theorem Je {bs:List Int} (h6:¬bs.length<6) (h2:bs.take 2=[119,110]):[119,110]++bu bs=bs.take (bs.length-4):=by
 unfold bu
 have e:(bs.take (bs.length-4)).take 2=[119,110]:=by
  rw [List.take_take,Nat.min_eq_left af];exact h2
 rw [<-e]
 exact wL 2 _
theorem TW {bs:List Int} (hb:aN bs) (h:sG bs=0) :
  bs=dz (cP (bu bs)).2 (cP (bu bs)).1.num.2 (fg (bu bs)).2++ju (dz (cP (bu bs)).2 (cP (bu bs)).1.num.2 (fg (bu bs)).2) /\
  (cP (bu bs)).2.length<=16/\(fg (bu bs)).2.length<=10000/\abr [] (fg (bu bs)).2/\0<=(cP (bu bs)).1.num.2/\(cP (bu bs)).1.num.2<72057594037927936/\bs.length<=200000:=by
 unfold sG at h
 split at h
 ·cases h
 rename_i h1
 split at h
 ·cases h
 rename_i h2
 split at h
 ·cases h
 rename_i h3
 split at h
 ·cases h
 rename_i h4
 have h3:bs.take 2=[119,110]:=Decidable.not_not.1 h3
 have h4:ju (bs.take (bs.length-4))=bs.drop (bs.length-4):=Decidable.not_not.1 h4
 obtain⟨g1,g2,g3,g4,g5,g6⟩:=Qk (tN hb) h
 refine⟨?_,g2,g3,g4,g5,g6,af⟩
 rw [<-g1,Je h2 h3,h4]
 exact(wL _ _).symm
theorem yZ (b:List Int):(ju b).length=4:=rfl
theorem Ai (ns:List ByteArray) (fl:Int) (l:List aC):5<=(dz ns fl l).length:=by
 have h1:=tj ns.length
 have h2:=tj fl.toNat
 have h3:=tj l.length
 unfold dz
 simp only [dO,gp,List.length_nil]
 omega
theorem Hw (ns:List ByteArray) (fl:Int) (l:List aC) (t:List Int):(dz ns fl l++t).take 2=[119,110]:=rfl
section
variable {ns:List ByteArray} {fl:Int} {l:List aC}
theorem Nw (h1:ns.length<=16) (h2:∀s∈ns,s.size<=10) (h3:0<=fl) (h4:fl<72057594037927936) (h5:l.length<=10000) (h6:∀e∈l,Ay e) (h7:aT l)
  {bs:List Int} (hbs:bs=dz ns fl l++ju (dz ns fl l)) (hl:bs.length<=200000) :
  sG bs=0/\(cP (bu bs)).2=ns/\(cP (bu bs)).1.num.2=fl/\(fg (bu bs)).2=l:=by
 have hlen:bs.length=(dz ns fl l).length+4:=by rw [hbs,dO,yZ]
 have AX:=Ai ns fl l
 have ht:bs.take (bs.length-4)=dz ns fl l:=by
  rw [hlen,Nat.add_sub_cancel,hbs];exact List.take_left
 have hd:bs.drop (bs.length-4)=ju (dz ns fl l):=by
  rw [hlen,Nat.add_sub_cancel];rw (config:={occs:= .pos [1]}) [hbs];exact List.drop_left
 have h2':bs.take 2=[119,110]:=by rw [hbs];exact Hw ns fl l _
 have Fy:=Je (bs:=bs) af h2'
 rw [ht]at Fy
 obtain⟨g1,g2,g3,g4⟩:=Ky [] h1 h2 h3 h4 h5 h6 h7 (b:=bu bs) (by rw [oL];exact Fy)
 refine⟨?_,g1,g2,g3⟩
 unfold sG
 rw [ai af,ai af,ai (jo h2'),ai (jo (by rw [ht,hd]))]
 unfold Aj
 rw [g4]
 rfl
end
open Go.RowKit
section
set_option maxRecDepth 100000
variable {e:Int} {xs:List Int} {rb b off cap m:Nat} {r:Rd} {w w':World}
structure fM (w:World) (rb:Nat) (v:Value) (r:Rd):Prop where
 box:w.heap[rb]?=some (.cells #[v, .int .i64 r.e] 165)
 sl:fw w v r.b
 ok:aN r.b
 form:∃b o c,v = .slice (some ⟨b,o,none⟩) r.b.length c/\b<rb
theorem fM.low {v:Value} (h:fM w rb v r):∀a n c,v = .slice (some a) n c->a.block<rb:=by
 obtain⟨b,o,c,rfl,hb⟩:=h.form
 intro a n c e
 injection e with e
 injection e with e
 subst e
 exact hb
theorem fM.lt {v:Value} (h:fM w rb v r):rb<w.heap.size:=(eI.1 h.box).1
abbrev gU (rb:Nat) (w w':World):Prop:=aa0 (fun b=>b=rb) w w'
theorem VE {v:Value} {k:Nat} (Ka:w.heap[rb]?=some (.cells #[v, .int .i64 e] 165)) (hv:∃ao n c,v = .slice ao n c) (hk:k<xs.length)
  (h:∀i x,xs[i]?=some x->∀j u,(xI x)[j]?=some u->w.cell? ⟨b,off+i*1+j,none⟩=some u):b≠rb:=by
 rintro rfl
 have h0:=l7 h hk
 obtain⟨ao,n,c,rfl⟩:=hv
 simp only [World.cell?,Ka]at h0
 obtain⟨q,hq⟩:=bt (off+k)
 rw [hq]at h0
 match q with
 |0=>simp at h0
 |1=>simp at h0
 |q+2=>simp at h0
theorem IC {v:Value} (Ka:w.heap[rb]?=some (.cells #[v, .int .i64 e] 165)) (hs:fw w v xs) (hT:gU rb w w'):fw w' v xs:=by
 obtain⟨ao,cap,rfl,h1,h2,h3,h4,h5⟩:=hs
 refine⟨ao,cap,rfl,h1,h2,h3,h4,fun h0=>?_⟩
 obtain⟨b,off,rfl,hb,hc⟩:=h5 h0
 have hne:=VE Ka ⟨_,_,_,rfl⟩ h0 hc
 exact⟨b,off,rfl,mQ hb hT.size,fun i x hx j u hu=>(hT.cell hb hne _).trans (hc i x hx j u hu)⟩
theorem Cm (h:fw w (.slice (some ⟨b,off,none⟩) xs.length cap) xs) (hm:m<=xs.length) (o:Nat) (ho:m<cap->o=off+m):fw w (.slice (some ⟨b,o,none⟩) (xs.length-m) (cap-m)) (xs.drop m):=by
 obtain⟨ao,cap',hv,h1,h2,h3,h4,h5⟩:=h
 injection hv with hv1 _ hv3
 subst hv3
 refine⟨_,_,by rw [oI],by rw [oI];omega,af,by rw [oI];omega,bj,fun h0=>?_⟩
 rw [oI]at h0
 obtain rfl:=ho af
 obtain⟨b',ZZ,hb,hlt,hc⟩:=h5 af
 rw [<-hv1]at hb
 injection hb with hb;injection hb with e1 e2
 subst e1 e2
 refine⟨b,off+m,rfl,hlt,fun k x hk j u hu=>?_⟩
 rw [List.getElem?_drop]at hk
 have:=hc (m+k) x hk j u hu
 rw [<-this];congr 2;omega
theorem yu {ao:Option Addr} (h:fw w (.slice ao xs.length cap) xs) (hm:m<=xs.length):fw w (.slice ao m cap) (xs.take m):=by
 obtain⟨ao',cap',hv,h1,h2,h3,h4,h5⟩:=h
 injection hv with hv1 _ hv3
 subst hv3 hv1
 refine⟨_,_,by rw [eP,Nat.min_eq_left hm],by rw [eP,Nat.min_eq_left hm];omega,af,by rw [eP,Nat.min_eq_left hm];omega,h4,fun h0=>?_⟩
 rw [eP,Nat.min_eq_left hm]at h0
 obtain⟨b,off,rfl,hlt,hc⟩:=h5 af
 refine⟨b,off,rfl,hlt,fun k x hk j u hu=>hc k x ?_ j u hu⟩
 rw [qg]at hk
 split at hk
 ·exact hk
 ·cases hk
theorem fM.cells {v:Value} (h:fM w rb v r):w.cell? ⟨rb,0,none⟩=some v/\w.cell? ⟨rb,1,none⟩=some (.int .i64 r.e)/\∀o,w.frozen? ⟨rb,o,none⟩=false:=by
 have h1:=h.box
 simp [World.cell?,World.frozen?,h1]
theorem fM.turn {v:Value} (h:fM w rb v r) (hT:gU rb w w') (hb:w'.heap[rb]?=w.heap[rb]?):fM w' rb v r:=⟨hb.trans h.box,IC h.box h.sl hT,h.ok,h.form⟩
theorem fM.Sd {v:Value} (hs:fw w v xs) (qz:∀a n c,v = .slice (some a) n c->a.block<rb) (hb:Below (rb+1) w w') (_hr:rb<w.heap.size):fw w' v xs:=by
 obtain⟨ao,cap,rfl,h1,h2,h3,h4,h5⟩:=hs
 refine⟨ao,cap,rfl,h1,h2,h3,h4,fun h0=>?_⟩
 obtain⟨b,off,rfl,hb1,hc⟩:=h5 h0
 have hl:=qz _ _ _ rfl
 simp only at hl
 exact⟨b,off,rfl,mQ hb1 hb.size,fun i x hx j u hu=>(hb.cell (p:=⟨b,off+i*1+j,none⟩) (by show b<rb+1;omega)).trans (hc i x hx j u hu)⟩
theorem fM.later {v:Value} (h:fM w rb v r) (hb:Below (rb+1) w w'):fM w' rb v r:=
 ⟨(hb.block _ (Nat.lt_succ_self _)).trans h.box,fM.Sd h.sl h.low hb h.lt,h.ok,h.form⟩
theorem fM.ZK {v:Value} (h:fM w rb v r) (e:Int):gU rb w (w.setCell ⟨rb,1,none⟩ (.int .i64 e))/\fM (w.setCell ⟨rb,1,none⟩ (.int .i64 e)) rb v ⟨r.b,e⟩:=by
 have hT:gU rb w (w.setCell ⟨rb,1,none⟩ (.int .i64 e)):=aa0.setCell (X:=fun b=>b=rb) (aa0.refl _ w) (.inl (show rb=rb from rfl)) _
 exact⟨hT,heap_setCell_same h.box,IC h.box h.sl hT,h.ok,h.form⟩
theorem fM.qO {v v':Value} {b:List Int} (h:fM w rb v r) (hs:fw w v' b) (hform:∃bk o c,v' = .slice (some ⟨bk,o,none⟩) b.length c/\bk<rb) (hb:aN b):gU rb w (w.setCell ⟨rb,0,none⟩ v')/\fM (w.setCell ⟨rb,0,none⟩ v') rb v' ⟨b,r.e⟩:=by
 have hT:gU rb w (w.setCell ⟨rb,0,none⟩ v'):=aa0.setCell (X:=fun b=>b=rb) (aa0.refl _ w) (.inl (show rb=rb from rfl)) _
 refine⟨hT,heap_setCell_same h.box,?_,hb,hform⟩
 ·obtain⟨ao,cap,rfl,h1,h2,h3,h4,h5⟩:=hs
  refine⟨ao,cap,rfl,h1,h2,h3,h4,fun h0=>?_⟩
  obtain⟨b,off,rfl,hb,hc⟩:=h5 h0
  exact⟨b,off,rfl,mQ hb hT.size,fun i x hx j u hu=>(hT.cell hb (by obtain⟨b',o',c',e,hlt⟩:=hform;injection e with e;injection e with e;injection e with e;subst e;exact Nat.ne_of_lt hlt) _).trans (hc i x hx j u hu)⟩
theorem mU {v:Value} (h:fM w rb v r):Calls Tryd.prog 109 #[.pointer (some ⟨rb,0,none⟩), .int .i64 e] w fun x w'=>x = .returned (.tuple #[])/\gU rb w w'/\fM w' rb v (r.wrong e):=by
 obtain⟨c0,c1,cf⟩:=h.cells
 have HS:=hdd (h.ZK e)
 have HR:=hdd h
 by_cases he:r.e=0
 ·have HW:=hdd (show r.wrong e=⟨r.b,e⟩ by unfold Rd.wrong;rw [ar he])
  rw [he]at c1
  clear h he
  go_enter Tryd.func109,Tryd.ntmps109
  go_wp2_with fail
  go_end0
  exact⟨rfl,HS.out.1,by rw [HW.out];exact HS.out.2⟩
 ·have HW:=hdd (show r.wrong e=r by unfold Rd.wrong;rw [ai he])
  have hd:(r.e == 0)=false:=by simpa using he
  clear h he
  go_enter Tryd.func109,Tryd.ntmps109
  go_wp2_with fail
  go_end0
  exact⟨rfl,aa0.refl _ _,by rw [HW.out];exact HR.out⟩
end
section
set_option maxRecDepth 100000
set_option maxHeartbeats 4000000
variable {n c:Int} {b:List Int} {i:Nat} {r:Rd}
theorem Gi (h:r.e=0) {e v:Int} (hn:jG 0 0 r.b=(b,e,v)):r.num=(⟨b,e⟩,v):=by unfold Rd.num;rw [ar h,hn]
theorem L9 (i:Nat) (n:Int):jG i n []=([],5,0):=by unfold jG;rfl
theorem Mb (h:i=8\/(0<i/\c=0)):jG i n (c::b)=(b,4,0):=by unfold jG;rw [ar h]
theorem Ma (h:¬(i=8\/(0<i/\c=0))) (hc:c<128):jG i n (c::b)=(b,0,n+c*128 ^ i):=by unfold jG;rw [ai h,ar hc]
theorem Pp (h:¬(i=8\/(0<i/\c=0))) (hc:¬c<128):jG i n (c::b)=jG (i+1) (n+c%128*128 ^ i) b:=by
 rw [jG,ai h,ai hc]
theorem oZ {w:World} {rb:Nat} {v:Value} (h:fM w rb v r):Calls Tryd.prog 110 #[.pointer (some ⟨rb,0,none⟩)] w fun x w'=>x = .returned (.int .i64 r.num.2)/\gU rb w w'/\∃v',fM w' rb v' r.num.1:=by
 have HR:=hdd h
 by_cases he:r.e=0
 ·go_enter Tryd.func110,Tryd.ntmps110
  go_wp2_with fail
  go_loopg [3,4] 9 (fun g nv iv wr=>∃(k:Nat) (n:Int) (v:Value) (b:List Int),k<=8/\g=9-k/\iv = .int .i64 k/\nv = .int .i64 n/\Hid (0<=n/\n<128 ^ k)/\Hid (gU rb w wr/\fM wr rb v ⟨b,0⟩/\jG 0 0 r.b=jG k n b))
  case atStart=>exact⟨0,0,v,r.b,af,rfl,rfl,rfl,hdd aW,hdd ⟨aa0.refl _ _,(by have:=HR.out;obtain⟨rb',re⟩:=r;simp only at he;subst he;exact this),rfl⟩⟩
  case round=>
   clear h
   obtain⟨k,n,v1,b,hk,rfl,rfl,rfl,HN,HA⟩:=hrel
   obtain⟨ao,cap,rfl,s1,s2,s3,s4,s5⟩:=HA.out.2.1.sl
   obtain⟨c0,c1,cf⟩:wr.cell? ⟨rb,0,none⟩=some (.slice ao b.length cap)/\wr.cell? ⟨rb,1,none⟩=some (.int .i64 0)/\∀o,wr.frozen? ⟨rb,o,none⟩=false:=HA.out.2.1.cells
   rcases b with _|⟨c,b⟩
   ·have HW:=hdd (mU (e:=5) HA.out.2.1)
    have HG:=hdd (Gi he (HA.out.2.2.trans (L9 k n)))
    have hT0:=hdd HA.out.1
    clear HA HN HR s5 he
    have hl:([]:List Int).length=0:=rfl
    rw [hl]at c0 HW
    go_wp2_with (go_at_call 109;(with_reducible refine HW.out.mono ?_);rintro e w1 ⟨rfl,hT,hR⟩)
    go_ret
    exact⟨by rw [HG.out];rfl,hT0.out.trans hT,_,by rw [HG.out];exact hR⟩
   ·obtain⟨ab,aV,rfl,sO,ac⟩:=s5 bj
    have e0:=l7 (k:=0) ac bj
    simp only [Nat.add_zero,List.getElem_cons_zero]at e0
    have hcb:=HA.out.2.1.ok c bj
    have jS:=fun w'=>mV (ab:=ab) (aV:=aV) (n:=(c::b).length) (cap:=cap) (show (0:Int)=((0:Nat):Int) by rfl) bj w'
    have hlen:(c::b).length=b.length+1:=bj
    rw [hlen]at c0 s1 jS
    have hl0:¬((b.length:Int)+1=0):=af
    obtain⟨o,dZ,ho⟩:∃o,(if cap=1 then some (⟨ab,aV,none⟩:Addr)else some ⟨ab,aV+1,none⟩)=some ⟨ab,o,none⟩/\(1<cap->o=aV+1):=by
     by_cases h1:cap=1
     ·exact⟨aV,ar h1,fun h=>af⟩
     ·exact⟨aV+1,ai h1,fun _=>rfl⟩
    have hne:ab<rb:=HA.out.2.1.low _ _ _ rfl
    have hsl:fw wr (.slice (some ⟨ab,o,none⟩) b.length (cap-1)) b:=by
     have:=Cm (m:=1) (by have:=HA.out.2.1.sl;exact this) bj o ho
     rw [hlen]at this
     exact this
    have HB:=hdd (HA.out.2.1.qO hsl ⟨_,_,_,rfl,hne⟩ (fun x hx=>HA.out.2.1.ok x (by simp [hx])))
    clear ac s5 hne hsl ho
    go_upto_region 9 with (fail)
    obtain⟨W8,mM⟩:=bP (wr.setCell ⟨rb,0,none⟩ (.slice (some ⟨ab,o,none⟩) b.length (cap-1)))
    rw [<-mM]at HB ⊢
    obtain⟨d0,d1,df⟩:W8.cell? ⟨rb,0,none⟩=some (.slice (some ⟨ab,o,none⟩) b.length (cap-1))/\W8.cell? ⟨rb,1,none⟩=some (.int .i64 0)/\∀o,W8.frozen? ⟨rb,o,none⟩=false:=HB.out.2.cells
    have HL:=hdd HA.out.2.2
    have HT:=hdd (HA.out.1.trans HB.out.1)
    have HB:=hdd HB.out.2
    have HE:=hdd he
    clear mM HA c0 c1 cf s1 s2 s3 s4 jS dZ e0 sO hlen hl0 he HR
    by_cases hbad:k=8\/(0<k/\c=0)
    ·have HG:=hdd (Gi HE.out (HL.out.trans (Mb hbad)))
     have HW:=hdd (mU (e:=4) HB.out)
     clear HL HN HB HE
     by_cases h8:k=8
     ·subst h8
      clear hbad
      go_wp2_with (go_at_call 109;(with_reducible refine HW.out.mono ?_);rintro e w1 ⟨rfl,hT,hR⟩)
      go_ret
      exact⟨by rw [HG.out];rfl,HT.out.trans hT,_,by rw [HG.out];exact hR⟩
     ·have hc0:c=0:=af
      have e8:((k:Int) == 8)=false:=by simp;omega
      have ek:(0:Int)<(k:Int):=af
      subst hc0
      clear hbad h8
      go_wp2_with (go_at_call 109;(with_reducible refine HW.out.mono ?_);rintro e w1 ⟨rfl,hT,hR⟩)
      go_ret
      exact⟨by rw [HG.out];rfl,HT.out.trans hT,_,by rw [HG.out];exact hR⟩
    ·have h8:k<8:=af
     have e8:((k:Int) == 8)=false:=by simp;omega
     have hand:=i64_and127 c
     have hpk:(128:Int) ^ k=2 ^ (7*k):=by rw [Int.pow_mul];rfl
     have hp0:(0:Int)<2 ^ (7*k):=Int.pow_pos aW
     have hp1:(2:Int) ^ (7*k)<=562949953421312:=by
      have h1:(2:Nat) ^ (7*k)<=2 ^ 49:=Nat.pow_le_pow_right aW af
      have h2:((2 ^ (7*k):Nat):Int)<=((2 ^ 49:Nat):Int):=Int.ofNat_le.2 h1
      simpa using h2
     have hm0:0<=c%128*2 ^ (7*k):=Int.mul_nonneg af af
     have GV:c%128*2 ^ (7*k)<=127*562949953421312:=Int.mul_le_mul af hp1 af aW
     have hsh:wrap64 (c%128*2 ^ (7*k))=c%128*2 ^ (7*k):=IntWalk.wrap64_in _ af
     have hor:bits .or .i64 n (c%128*2 ^ (7*k))=n+c%128*128 ^ k:=by
      have hn:=HN.out
      rw [hpk]at hn ⊢
      rw [bits_join_low .i64 63 aW (fun n h0 h1=>IntWalk.i64_in _ af) (7*k) n (c%128*2 ^ (7*k)) hn.1 hn.2 af hm0 (Int.mul_emod_left _ _) af]
     have HR:=hdd (show 0<=n+c%128*128 ^ k/\n+c%128*128 ^ k<128 ^ (k+1) by
      have hn:=HN.out
      rw [Int.pow_succ,hpk]at *
      have:=Int.mul_le_mul_of_nonneg_right (show c%128<=127 by omega) (Int.le_of_lt hp0)
      omega)
     have hq:¬(0<(k:Int)/\c=0):=af
     clear hpk hp0 hp1 hm0 GV HN
     obtain⟨N,hN⟩:=bt (n+c%128*128 ^ k)
     rw [hN]at hor HR
     by_cases hc:c<128
     ·have HG:=hdd (Gi HE.out (HL.out.trans (Ma hbad hc)))
      have hcc:c*128 ^ k=c%128*128 ^ k:=by congr 1;omega
      rw [hcc,hN]at HG
      clear hcc hN HL HE
      by_cases im:(0:Int)<(k:Int)
      ·have hc0:(c == 0)=false:=by simp;omega
       clear hbad hq
       go_wp2_with fail
       go_ret
       exact⟨by rw [HG.out];rfl,HT.out,_,by rw [HG.out];exact HB.out⟩
      ·obtain rfl:k=0:=af
       have hk1:((0:Nat):Int)=0:=rfl
       have aaz:bits .or .i64 n (c%128)=N:=by simpa using hor
       rw [hk1]at e8 ⊢
       clear hbad hq im hk1 e8
       go_wp2_with fail
       go_ret
       exact⟨by rw [HG.out];rfl,HT.out,_,by rw [HG.out];exact HB.out⟩
     ·have HL:=hdd (HL.out.trans (Pp hbad hc))
      rw [hN]at HL
      have hc1:decide (c<128)=false:=wJ hc
      clear hN HE
      by_cases im:(0:Int)<(k:Int)
      ·have hc0:(c == 0)=false:=by simp;omega
       clear hbad hq hc
       go_wp2_with fail
       go_roundg (9-(k+1))
       case measure=>omega
       case rel=>exact⟨k+1,N,_,b,af,rfl,by go_num,rfl,HR,hdd ⟨HT.out,HB.out,HL.out⟩⟩
      ·obtain rfl:k=0:=af
       have hk1:((0:Nat):Int)=0:=rfl
       have aaz:bits .or .i64 n (c%128)=N:=by simpa using hor
       rw [hk1]at e8 ⊢
       clear hbad hq im hc hk1 e8
       go_wp2_with fail
       go_roundg (9-(0+1))
       case measure=>omega
       case rel=>exact⟨0+1,N,_,b,af,rfl,by go_num,rfl,HR,hdd ⟨HT.out,HB.out,HL.out⟩⟩
 ·have HG:=hdd (DA he)
  obtain⟨c0,c1,cf⟩:=h.cells
  have hd:(r.e == 0)=false:=by simpa using he
  clear h he
  go_enter Tryd.func110,Tryd.ntmps110
  go_wp2_with fail
  go_loopg [3,4] 1 (fun g nv iv wr=>g=1/\iv = .int .i64 0/\nv = .int .i64 0/\wr=w)
  case atStart=>exact⟨rfl,rfl,rfl,rfl⟩
  case round=>
   obtain⟨rfl,rfl,rfl,hwr⟩:=hrel
   obtain rfl:=hwr.symm
   go_wp2_with fail
   go_ret
   exact⟨by rw [HG.out];rfl,aa0.refl _ _,_,by rw [HG.out];exact HR.out⟩
end
section
set_option maxRecDepth 100000
variable {rb:Nat} {r:Rd} {w:World}
theorem Mv (n:Int):bits .and .i64 n 1=n%2:=by
 have h1:(BitVec.ofInt 64 1).toNat=2 ^ 1-1:=aW
 have key:(BitVec.ofInt 64 n &&& BitVec.ofInt 64 1).toNat=(n%((2 ^ 64:Nat):Int)).toNat%2 ^ 1:=by
  rw [BitVec.toNat_and,BitVec.toNat_ofInt,h1,Nat.and_two_pow_sub_one_eq_mod]
 show IntKind.i64.wrap ((BitVec.ofInt 64 n &&& BitVec.ofInt 64 1).toNat:Nat)=n%2
 rw [key,IntKind.wrap_i64]
 omega
theorem rR {v:Value} (h:fM w rb v r):Calls Tryd.prog 111 #[.pointer (some ⟨rb,0,none⟩)] w fun x w'=>x = .returned (.int .i64 r.rS.2)/\gU rb w w'/\∃v',fM w' rb v' r.rS.1:=by
 have HN:=hdd (oZ h)
 have hr:=rY h.ok
 have yl:=hdd (show r.rS.1=r.num.1 from rfl)
 have Ul:=hdd (show r.rS.2=ui r.num.2 from rfl)
 obtain⟨n,hn⟩:=bt (r.num.2)
 rw [hn]at HN hr Ul
 have ha:=Mv n
 clear h hn
 by_cases ho:n%2=1
 ·have HV:=hdd (show (-(n+1)).tdiv 2=ui n by
   unfold ui
   rw [ar ho,Int.neg_tdiv,Bf af])
  have hw1:IntKind.i64.wrap (n+1)=n+1:=IntWalk.i64_in _ af
  have hw2:IntKind.i64.wrap (-(n+1)) = -(n+1):=IntWalk.i64_in _ af
  obtain⟨V,hV⟩:=bt ((-(n+1)).tdiv 2)
  have hw3:IntKind.i64.wrap V=V:=by rw [<-hV,HV.out];unfold ui;rw [ar ho];exact IntWalk.i64_in _ af
  rw [hV]at HV
  rw [ho]at ha
  clear ho
  go_enter Tryd.func111,Tryd.ntmps111
  go_wp2_with (go_at_call 110;(with_reducible refine HN.out.mono ?_);rintro e w1 ⟨rfl,hT,v1,hR⟩)
  go_ret
  exact⟨gZ (by rw [Ul.out,<-HV.out]),hT,v1,by rw [yl.out];exact hR⟩
 ·have hev:(n%2 == 1)=false:=by simpa using ho
  have HV:=hdd (show n.tdiv 2=ui n by
   unfold ui
   rw [ai ho,Bf af])
  obtain⟨V,hV⟩:=bt (n.tdiv 2)
  have hw3:IntKind.i64.wrap V=V:=by rw [<-hV,HV.out];unfold ui;rw [ai ho];exact IntWalk.i64_in _ af
  rw [hV]at HV
  clear ho
  go_enter Tryd.func111,Tryd.ntmps111
  go_wp2_with (go_at_call 110;(with_reducible refine HN.out.mono ?_);rintro e w1 ⟨rfl,hT,v1,hR⟩)
  go_ret
  exact⟨gZ (by rw [Ul.out,<-HV.out]),hT,v1,by rw [yl.out];exact hR⟩
theorem Ag {v:Value} {most:Int} (h:fM w rb v r):Calls Tryd.prog 108 #[.pointer (some ⟨rb,0,none⟩), .int .i64 most] w fun x w'=>x = .returned (.int .i64 (r.cnt most).2)/\gU rb w w'/\∃v',fM w' rb v' (r.cnt most).1:=by
 have HN:=hdd (oZ h)
 by_cases hm:most<r.num.2
 ·have HC:=hdd (show r.cnt most=(r.num.1.wrong 1,0)from ar hm)
  obtain⟨n,hn⟩:=bt (r.num.2)
  rw [hn]at HN hm
  clear h hn
  go_enter Tryd.func108,Tryd.ntmps108
  go_wp2_with (first|(go_at_call 110;(with_reducible refine HN.out.mono ?_);rintro e w1 ⟨rfl,hT,v1,hR⟩)|(go_at_call 109;(with_reducible refine(mU hR).mono ?_);rintro e w2 ⟨rfl,hT2,hR2⟩))
  go_ret
  exact⟨gZ (by rw [HC.out]),hT.trans hT2,v1,by rw [HC.out];exact hR2⟩
 ·have HC:=hdd (show r.cnt most=r.num from ai hm)
  have hd:decide (most<r.num.2)=false:=wJ hm
  obtain⟨n,hn⟩:=bt (r.num.2)
  have Oa:=hdd hn
  rw [hn]at HN hd
  clear h hn hm
  go_enter Tryd.func108,Tryd.ntmps108
  go_wp2_with (go_at_call 110;(with_reducible refine HN.out.mono ?_);rintro e w1 ⟨rfl,hT,v1,hR⟩)
  go_ret
  exact⟨gZ (by rw [HC.out,Oa.out]),hT,v1,by rw [HC.out];exact hR⟩
end
end Go.Proofs.YtmljjfhgciaceaaDoor
