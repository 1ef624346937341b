/- Texts of mine that come as one: DecP DecQ Rdr RdrN RdrS. -/
import Derived.Test.YtmljjfhgciaceaaDoorHd
import Derived.Test.YtmljjfhgciaceaaDoorBG
import Derived.Laws.BytesArg
import Derived.Test.YtmljjfhgciaceaaDoorKG
namespace Go.Proofs.YtmljjfhgciaceaaDoor
section
variable {most key:Int} {ns:List ByteArray} {l:List aA} {t:List Int} {m k:Nat}
def jE:Nat->Int->List Int->List Int×Int×Int
 |_,_,[]=>([],5,0)
 |i,n,c::r=>if i=8\/(0<i/\c=0) then(r,4,0)else if c<128 then(r,0,n+c*128 ^ i)else jE (i+1) (n+(c%128)*128 ^ i) r
theorem Dj:∀{b:List Int} {i:Nat} {n:Int} {r:List Int} {e v:Int},jE i n b=(r,e,v)->e≠0->v=0/\(e=4\/e=5)
 |[],i,n,r,e,v,h,he=>by
  unfold jE at h
  simp only [jK]at h
  omega
 |c::b,i,n,r,e,v,h,he=>by
  unfold jE at h
  split at h
  ·simp only [jK]at h;omega
  ·split at h
   ·simp only [jK]at h;omega
   ·exact Dj h he
theorem Ir:∀{b:List Int} {i:Nat} {n:Int} {r:List Int} {v:Int},(∀c∈b,0<=c/\c<=255)->i<=8->jE i n b=(r,0,v) ->
  ∃m:Nat,v=n+m*128 ^ i/\b=az m++r/\(0<i->0<m)/\m<128 ^ (8-i)
 |[],i,n,r,v,hb,hi,h=>by
  unfold jE at h
  simp only [jK]at h
  omega
 |c::b,i,n,r,v,hb,hi,h=>by
  have hc:=hb c bq
  unfold jE at h
  split at h
  ·simp only [jK]at h;omega
  ·rename_i h1
   have hi8:i<8:=af
   have PT:(128:Nat) ^ (8-i)=128*128 ^ (8-(i+1)):=by
    have:8-i=(8-(i+1))+1:=af
    rw [this,Nat.pow_succ,Nat.mul_comm]
   have hpos:0<(128:Nat) ^ (8-(i+1)):=Nat.pow_pos aW
   split at h
   ·rename_i h2
    simp only [jK]at h
    obtain⟨rfl,-,rfl⟩:=h
    refine⟨c.toNat,by rw [Int.toNat_of_nonneg hc.1],?_,fun hi0=>af,by rw [PT];omega⟩
    rw [jB af,Int.toNat_of_nonneg hc.1];rfl
   ·rename_i h2
    obtain⟨m,rfl,rfl,h3,h4⟩:=Ir (fun x hx=>hb x (by simp [hx])) af h
    have h3:=h3 af
    refine⟨(c%128).toNat+128*m,?_,?_,fun _=>af,by rw [PT];omega⟩
    ·have e1:(((c%128).toNat+128*m:Nat):Int)=c%128+128*(m:Int):=af
     rw [e1,Int.add_mul,Int.pow_succ,Int.mul_comm (128:Int) (m:Int),Int.mul_assoc,Int.mul_comm (128:Int) (128 ^ i)];omega
    ·have e1:((c%128).toNat+128*m)%128=(c%128).toNat:=af
     have e2:((c%128).toNat+128*m)/128=m:=af
     rw [lW (n:=(c%128).toNat+128*m) af,e1,e2,List.cons_append]
     congr 1
     omega
theorem Ps:∀(m:Nat) {i:Nat} {n:Int} {r:List Int},i<=7->(0<i->0<m)->m<128 ^ (8-i)->jE i n (az m++r)=(r,0,n+m*128 ^ i):=by
 intro m
 induction m using Nat.strongRecOn with
 |_ m ih=>
  intro i n r hi h0 h1
  have PT:(128:Nat) ^ (8-i)=128*128 ^ (8-(i+1)):=by
   have:8-i=(8-(i+1))+1:=af
   rw [this,Nat.pow_succ,Nat.mul_comm]
  by_cases hm:m<128
  ·rw [jB hm,List.singleton_append]
   unfold jE
   rw [ai af,ar af]
  ·rw [lW hm,List.cons_append]
   unfold jE
   rw [ai af,ai af]
   have h2:m/128<128 ^ (8-(i+1)):=by
    rw [PT]at h1
    rw [Nat.div_lt_iff_lt_mul aW,Nat.mul_comm];exact h1
   by_cases hi7:i=7
   ·subst hi7
    simp at h2
    omega
   ·rw [ih (m/128) af af (fun _=>af) h2]
    simp only [jK,true_and]
    have e1:(128+(m%128:Nat):Int)%128=(m%128:Nat):=af
    have e2:(m:Int)=(m%128:Nat)+128*(m/128:Nat):=af
    rw [e1,e2,Int.add_mul,Int.pow_succ,Int.mul_comm (128:Int) ((m/128:Nat):Int),Int.mul_assoc,Int.mul_comm (128:Int) (128 ^ i)]
    omega
theorem Dh {xs:List Int} (h:aO xs):nums (strOfNums xs)=xs:=by
 unfold nums strOfNums
 simp only [List.map_map]
 refine(List.map_congr_left fun c hc=>?_).trans (List.map_id xs)
 have:=h c hc
 simp only [Function.comp,UInt8.toNat_ofNat',id]
 omega
theorem Lg (s:ByteArray):strOfNums (nums s)=s:=by
 unfold nums strOfNums
 simp only [List.map_map]
 have:(s.data.toList.map ((fun n:Int=>UInt8.ofNat n.toNat)∘fun b:UInt8=>(b.toNat:Int)))=s.data.toList:=
  (List.map_congr_left fun c _=>by simp [Function.comp]).trans (List.map_id _)
 rw [this]
theorem xa:∀{b:List Int} {i:Nat} {n:Int},∃p,b=p++(jE i n b).1
 |[],i,n=>⟨[],rfl⟩
 |c::b,i,n=>by
  unfold jE
  split
  ·exact⟨[c],rfl⟩
  ·split
   ·exact⟨[c],rfl⟩
   ·obtain⟨p,hp⟩:=@xa b (i+1) (n+(c%128)*128 ^ i)
    exact⟨c::p,by rw [List.cons_append,<-hp]⟩
structure Rd where
 b:List Int
 e:Int
def Rd.num (r:Rd):Rd×Int:=if r.e=0 then(⟨(jE 0 0 r.b).1,(jE 0 0 r.b).2.1⟩,(jE 0 0 r.b).2.2) else(r,0)
def Rd.wrong (r:Rd) (e:Int):Rd:=if r.e=0 then⟨r.b,e⟩else r
def ui (n:Int):Int:=if n%2=1 then -((n+1)/2)else n/2
def Rd.rL (r:Rd):Rd×Int:=(r.num.1,ui r.num.2)
def Rd.cnt (r:Rd) (most:Int):Rd×Int:=if most<r.num.2 then(r.num.1.wrong 1,0)else r.num
theorem Di {r:Rd} (h:r.e≠0):r.num=(r,0):=by unfold Rd.num;rw [ai h]
theorem FW (r:Rd):∃p,r.b=p++r.num.1.b:=by
 unfold Rd.num
 split
 ·exact xa
 ·exact⟨[],rfl⟩
theorem fh {r:Rd} (h:aO r.b):aO r.num.1.b:=by
 obtain⟨p,hp⟩:=FW r
 intro c hc
 exact h c (by rw [hp];simp [hc])
theorem vP {r:Rd} (hb:aO r.b) (h:r.num.1.e=0):r.e=0/\∃m:Nat,r.num.2=m/\r.b=az m++r.num.1.b/\m<72057594037927936:=by
 by_cases he:r.e=0
 ·refine⟨he,?_⟩
  unfold Rd.num at h ⊢
  rw [ar he]at h ⊢
  simp only at h ⊢
  obtain⟨m,h1,h2,-,h4⟩:=Ir (i:=0) (n:=0) (r:=(jE 0 0 r.b).1) (v:=(jE 0 0 r.b).2.2) hb aW (Prod.ext rfl (Prod.ext h rfl))
  exact⟨m,by simpa using h1,h2,by simpa using h4⟩
 ·rw [Di he]at h;exact absurd h he
theorem LW {r:Rd} (h:r.num.1.e≠0):r.num.2=0:=by
 unfold Rd.num at h ⊢
 split
 ·rename_i he
  rw [ar he]at h
  exact(Dj (r:=(jE 0 0 r.b).1) (e:=(jE 0 0 r.b).2.1) rfl h).1
 ·rfl
theorem rQ {r:Rd} (hb:aO r.b):0<=r.num.2/\r.num.2<72057594037927936:=by
 by_cases h:r.num.1.e=0
 ·obtain⟨-,m,h1,-,h2⟩:=vP hb h
  omega
 ·rw [LW h];decide
theorem qQ (h:m<72057594037927936):(Rd.mk (az m++t) 0).num=(⟨t,0⟩,(m:Int)):=by
 have:=Ps m (i:=0) (n:=0) (r:=t) aW (fun h=>absurd h aW) (by simpa using h)
 unfold Rd.num
 rw [ar rfl]
 simp only [this]
 simp
theorem Lj:dA (ui m)=az m:=by
 unfold dA ui
 split
 ·rename_i h;rw [ar af];congr 1;omega
 ·rename_i h;rw [ai af];congr 1;omega
theorem BL {r:Rd} (hb:aO r.b) (h:r.rL.1.e=0):r.e=0/\r.b=dA r.rL.2++r.rL.1.b:=by
 obtain⟨h1,m,h2,h3,-⟩:=vP hb h
 refine⟨h1,?_⟩
 show r.b=dA (ui r.num.2)++r.num.1.b
 rw [h2,Lj];exact h3
theorem uh {v:Int} (h1 : -18014398509481984<v) (h2:v<18014398509481984):(Rd.mk (dA v++t) 0).rL=(⟨t,0⟩,v):=by
 have key:∀m:Nat,m<72057594037927936->dA v=az m->ui m=v->(Rd.mk (dA v++t) 0).rL=(⟨t,0⟩,v):=fun m hm e1 e2=>by
  unfold Rd.rL
  rw [e1,qQ hm]
  simp only [e2]
 unfold dA at key
 by_cases h:v<0
 ·exact key (-2*v-1).toNat af (ar h) (by unfold ui;rw [ar af];omega)
 ·exact key (2*v).toNat af (ai h) (by unfold ui;rw [ai af];omega)
theorem O4 {r:Rd} {e:Int} (he:e≠0):(r.wrong e).e≠0:=by
 unfold Rd.wrong;split
 ·exact he
 ·assumption
theorem O5 {r:Rd} {e:Int}:(r.wrong e).b=r.b:=by unfold Rd.wrong;split <;> rfl
theorem Hd {r:Rd} (hb:aO r.b) (h:(r.cnt most).1.e=0):r.e=0/\∃m:Nat,(r.cnt most).2=m/\r.b=az m++(r.cnt most).1.b/\(m:Int)<=most:=by
 unfold Rd.cnt at h ⊢
 split
 ·rename_i h1;rw [ar h1]at h;exact absurd h (O4 aW)
 ·rename_i h1
  rw [ai h1]at h
  obtain⟨h2,m,h3,h4,-⟩:=vP hb h
  exact⟨h2,m,h3,h4,af⟩
theorem mX {r:Rd} (h:aO r.b):aO (r.cnt most).1.b:=by
 unfold Rd.cnt
 split
 ·rw [O5];exact fh h
 ·exact fh h
theorem r8 {r:Rd} (hm:0<=most) (h:aO r.b):0<=(r.cnt most).2/\(r.cnt most).2<=most:=by
 have:=rQ h
 unfold Rd.cnt
 split
 ·exact⟨Int.le_refl _,hm⟩
 ·exact⟨this.1,af⟩
theorem zJ (h:m<72057594037927936) (hm:(m:Int)<=most):(Rd.mk (az m++t) 0).cnt most=(⟨t,0⟩,(m:Int)):=by
 unfold Rd.cnt
 rw [qQ h,ai (by simp only;omega)]
def dM:Nat->Rd->List ByteArray->Rd×List ByteArray
 |0,r,ns=>(r,ns)
 |k+1,r,ns=>if r.e≠0 then(r,ns) else
  if (r.cnt 10).1.e=0/\(r.cnt 10).2<=(r.cnt 10).1.b.length then dM k ⟨(r.cnt 10).1.b.drop (r.cnt 10).2.toNat,0⟩ (ns++[strOfNums ((r.cnt 10).1.b.take (r.cnt 10).2.toNat)])
  else(if (r.cnt 10).1.e=0 then⟨(r.cnt 10).1.b,5⟩ else(r.cnt 10).1,ns)
theorem nY {r:Rd} (h:r.e≠0):dM k r ns=(r,ns):=by
 cases k with
 |zero=>rfl
 |succ k=>unfold dM;rw [ar h]
theorem A5:∀{k:Nat} {r:Rd} {ns:List ByteArray},aO r.b->(dM k r ns).1.e=0->r.e=0/\∃xs:List ByteArray,(dM k r ns).2=ns++xs/\xs.length=k/\r.b=cI xs++(dM k r ns).1.b
 |0,r,ns,_,h=>⟨h,[],by simp [dM],rfl,by simp [dM,cI]⟩
 |k+1,r,ns,hb,h=>by
  by_cases he:r.e=0
  ·refine⟨he,?_⟩
   by_cases hc:(r.cnt 10).1.e=0/\(r.cnt 10).2<=(r.cnt 10).1.b.length
   ·have eq:dM (k+1) r ns=dM k ⟨(r.cnt 10).1.b.drop (r.cnt 10).2.toNat,0⟩ (ns++[strOfNums ((r.cnt 10).1.b.take (r.cnt 10).2.toNat)]):=by
     rw [dM,ai (iF he),ar hc]
    rw [eq]at h ⊢
    have hb1:=mX (most:=10) hb
    obtain⟨-,m,h1,h2,-⟩:=Hd hb hc.1
    have hb2:aO ((r.cnt 10).1.b.drop (r.cnt 10).2.toNat):=fun c hcc=>hb1 c (ve hcc)
    obtain⟨-,xs,h3,h4,h5⟩:=A5 hb2 h
    refine⟨strOfNums ((r.cnt 10).1.b.take (r.cnt 10).2.toNat)::xs,by rw [h3];simp,by simp [h4],?_⟩
    have hl:(strOfNums ((r.cnt 10).1.b.take (r.cnt 10).2.toNat)).size=m:=by
     rw [strOfNums_size,fw,h1]
     have:=hc.2;omega
    have e1:cI (strOfNums ((r.cnt 10).1.b.take (r.cnt 10).2.toNat)::xs)=az m++(r.cnt 10).1.b.take (r.cnt 10).2.toNat++cI xs:=by
     unfold cI
     rw [gG,hl,Dh fun c hcc=>hb1 c (wH hcc)]
    rw [e1,h2,jn,jn,<-h5,wG]
   ·have eq:dM (k+1) r ns=(if (r.cnt 10).1.e=0 then⟨(r.cnt 10).1.b,5⟩ else(r.cnt 10).1,ns):=by
     rw [dM,ai (iF he),ai hc]
    rw [eq]at h
    simp only at h
    split at h
    ·cases h
    ·rename_i h1;exact absurd h h1
  ·rw [nY he]at h;exact absurd h he
theorem xc:∀{xs:List ByteArray} {t:List Int} {ns:List ByteArray},(∀s∈xs,s.size<=10)->dM xs.length ⟨cI xs++t,0⟩ ns=(⟨t,0⟩,ns++xs)
 |[],t,ns,_=>by simp [dM,cI]
 |s::xs,t,ns,h=>by
  have hs:=h s bq
  have e1:cI (s::xs)++t=az s.size++(nums s++(cI xs++t)):=by simp [cI]
  have hc:(Rd.mk (cI (s::xs)++t) 0).cnt 10=(⟨nums s++(cI xs++t),0⟩,(s.size:Int)):=by
   rw [e1];exact zJ af af
  rw [fR,dM,ai bq,hc,ar ⟨rfl,by simp [nums_length];omega⟩]
  simp only [Int.toNat_natCast]
  have e2:(nums s++(cI xs++t)).drop s.size=cI xs++t:=by
   rw [<-nums_length s];exact List.drop_left
  have e3:(nums s++(cI xs++t)).take s.size=nums s:=by
   rw [<-nums_length s];exact List.take_left
  rw [e2,e3,Lg,xc fun x hx=>h x (by simp [hx])]
  simp
theorem uu:∀{k:Nat} {r:Rd} {ns:List ByteArray},aO r.b->aO (dM k r ns).1.b
 |0,r,ns,h=>h
 |k+1,r,ns,h=>by
  have hb1:=mX (most:=10) h
  unfold dM
  split
  ·exact h
  ·split
   ·exact uu fun c hc=>hb1 c (ve hc)
   ·show aO (if _ then _ else _:Rd).b
    split <;> exact hb1
def gS (l:List aA):Int:=match l.getLast? with|none=>0|some e=>e.key
theorem jb (l:List aA) (x:aA):gS (l++[x])=x.key:=by simp [gS]
def kU (r:Rd) (key:Int):Rd×aA:=
 (r.num.1.num.1.rL.1.rL.1.rL.1.rL.1,⟨key+r.num.2,⟨r.num.1.num.2,r.num.1.num.1.rL.2,r.num.1.num.1.rL.1.rL.2,r.num.1.num.1.rL.1.rL.1.rL.2,(key+r.num.2)%1048576,r.num.1.num.1.rL.1.rL.1.rL.1.rL.2⟩⟩)
def jI (l:List aA) (x:aA):Prop:=1099511627776<=x.key\/x.is.c=0\/(l≠[]/\x.key<=gS l)
instance (l:List aA) (x:aA):Decidable (jI l x):=by unfold jI;infer_instance
def qB (r:Rd) (l:List aA):Rd:=if (kU r (gS l)).1.e=0/\jI l (kU r (gS l)).2 then⟨(kU r (gS l)).1.b,7⟩ else(kU r (gS l)).1
def iT:Nat->Rd->List aA->Rd×List aA
 |0,r,l=>(r,l)
 |k+1,r,l=>if r.e≠0 then(r,l)else iT k (qB r l) (l++[(kU r (gS l)).2])
theorem pW {r:Rd} (h:r.e≠0):iT k r l=(r,l):=by
 cases k with
 |zero=>rfl
 |succ k=>unfold iT;rw [ar h]
theorem Qi {r:Rd} (hb:aO r.b) (h:(kU r key).1.e=0):r.e=0/\key<=(kU r key).2.key/\r.b=uO key (kU r key).2++(kU r key).1.b/\(kU r key).2.is.t=(kU r key).2.key%1048576/\0<=(kU r key).2.is.c:=by
 have b1:=fh hb
 have b2:=fh b1
 have b3:aO r.num.1.num.1.rL.1.b:=fh b2
 have b4:aO r.num.1.num.1.rL.1.rL.1.b:=fh b3
 have b5:aO r.num.1.num.1.rL.1.rL.1.rL.1.b:=fh b4
 obtain⟨e6,h6⟩:=BL b5 h
 obtain⟨e5,h5⟩:=BL b4 e6
 obtain⟨e4,h4⟩:=BL b3 e5
 obtain⟨e3,h3⟩:=BL b2 e4
 obtain⟨e2,c,hc,h2,-⟩:=vP b1 e3
 obtain⟨e1,d,hd,h1,-⟩:=vP hb e2
 refine⟨e1,?_,?_,rfl,?_⟩
 ·show key<=key+r.num.2;omega
 ·rw [h1,h2,h3,h4,h5,h6]
  unfold uO
  show _=az (key+r.num.2-key).toNat++az (r.num.1.num.2).toNat++_++_++_++_++_
  have e1:(key+r.num.2-key).toNat=d:=af
  have e2:(r.num.1.num.2).toNat=c:=af
  rw [e1,e2]
  simp only [jn]
  rfl
 ·show 0<=r.num.1.num.2;omega
theorem G7 {r:Rd} (hb:aO r.b):aO (kU r key).1.b:=
 fh (fh (fh (fh (fh (fh hb)))))
theorem G6 {r:Rd} (hb:aO r.b):aO (qB r l).b:=by
 unfold qB;split <;> exact G7 hb
theorem zE (last:Int) (e:aA) (l:List aA):dO last (e::l)=uO last e++dO e.key l:=rfl
def vt (l xs:List aA):Prop:=(∀e∈xs,0<=e.key/\e.key<1099511627776/\0<e.is.c/\e.is.t=e.key%1048576)/\aV xs/\(l≠[]->∀e∈xs,gS l<e.key)
theorem Ev:∀{k:Nat} {r:Rd} {l:List aA},aO r.b->0<=gS l->(iT k r l).1.e=0->r.e=0/\∃xs:List aA,(iT k r l).2=l++xs/\xs.length=k/\r.b=dO (gS l) xs++(iT k r l).1.b/\vt l xs
 |0,r,l,_,_,h=>⟨h,[],by simp [iT],rfl,by simp [iT,dO],fun e he=>(by cases he),List.Pairwise.nil,fun _ e he=>(by cases he)⟩
 |k+1,r,l,hb,hk,h=>by
  by_cases he:r.e=0
  ·refine⟨he,?_⟩
   have eq:iT (k+1) r l=iT k (qB r l) (l++[(kU r (gS l)).2]):=by rw [iT,ai (iF he)]
   rw [eq]at h ⊢
   have hb1:=G6 (l:=l) hb
   by_cases hw:(kU r (gS l)).1.e=0/\jI l (kU r (gS l)).2
   ·have:(qB r l).e≠0:=by unfold qB;rw [ar hw];show (7:Int)≠0;decide
    rw [pW this]at h
    exact absurd h this
   ·have ew:qB r l=(kU r (gS l)).1:=by unfold qB;rw [ai hw]
    by_cases h0:(kU r (gS l)).1.e=0
    ·obtain⟨-,d1,d2,d3,d4⟩:=Qi hb h0
     obtain⟨-,xs,h3,h4,h5,h6⟩:=Ev hb1 (by rw [jb];omega) h
     have hnb:¬jI l (kU r (gS l)).2:=fun hh=>hw ⟨h0,hh⟩
     unfold vt at h6
     rw [jb]at h5 h6
     unfold jI at hnb
     refine⟨(kU r (gS l)).2::xs,by rw [h3];simp,by simp [h4],?_,?_,?_,?_⟩
     ·rw [zE,jn,<-h5,ew];exact d2
     ·intro e PY
      rcases fc.1 PY with rfl|PY
      ·exact⟨af,af,af,d3⟩
      ·exact h6.1 e PY
     ·exact rz.2 ⟨fun e PY=>h6.2.2 bq e PY,h6.2.1⟩
     ·intro hl e PY
      have h7:gS l<(kU r (gS l)).2.key:=by
       refine Int.not_le.1 fun hle=>hnb (.inr (.inr ⟨hl,hle⟩))
      rcases fc.1 PY with rfl|PY
      ·exact h7
      ·have:=h6.2.2 bq e PY;omega
    ·rw [pW (by rw [ew];exact h0)]at h
     rw [ew]at h
     exact absurd h h0
  ·rw [pW he]at h;exact absurd h he
def zX (e:aA):Prop:=0<=e.key/\e.key<1099511627776/\0<e.is.c/\e.is.c<72057594037927936/\e.is.t=e.key%1048576/\(-18014398509481984<e.is.s/\e.is.s<18014398509481984)/\(-18014398509481984<e.is.mi/\e.is.mi<18014398509481984)/\(-18014398509481984<e.is.ma/\e.is.ma<18014398509481984)/\(-18014398509481984<e.is.l/\e.is.l<18014398509481984)
theorem Kc {e:aA} (h:zX e) (hk:key<=e.key) (h0:0<=key):kU ⟨uO key e++t,0⟩ key=(⟨t,0⟩,e):=by
 obtain⟨k1,k2,c1,c2,ht,s,mi,ma,la⟩:=h
 have e0:uO key e++t=az (e.key-key).toNat++(az e.is.c.toNat++(dA e.is.s++(dA e.is.mi++(dA e.is.ma++(dA e.is.l++t))))):=by
  unfold uO;simp only [jn]
 have n1:=qQ (m:=(e.key-key).toNat) (t:=az e.is.c.toNat++(dA e.is.s++(dA e.is.mi++(dA e.is.ma++(dA e.is.l++t))))) af
 have n2:=qQ (m:=e.is.c.toNat) (t:=dA e.is.s++(dA e.is.mi++(dA e.is.ma++(dA e.is.l++t)))) af
 have n3:=uh (v:=e.is.s) (t:=dA e.is.mi++(dA e.is.ma++(dA e.is.l++t))) s.1 s.2
 have n4:=uh (v:=e.is.mi) (t:=dA e.is.ma++(dA e.is.l++t)) mi.1 mi.2
 have n5:=uh (v:=e.is.ma) (t:=dA e.is.l++t) ma.1 ma.2
 have n6:=uh (v:=e.is.l) (t:=t) la.1 la.2
 rw [e0]
 unfold kU
 rw [n1]
 simp only
 rw [n2]
 simp only
 rw [n3]
 simp only
 rw [n4]
 simp only
 rw [n5]
 simp only
 rw [n6]
 simp only
 have k3:key+((e.key-key).toNat:Int)=e.key:=af
 have k4:((e.is.c.toNat:Nat):Int)=e.is.c:=af
 rw [k3,k4,<-ht]
theorem zF:∀{xs:List aA} {l:List aA} {t:List Int},0<=gS l->(∀e∈xs,zX e)->aV xs->(∀e∈xs,gS l<=e.key)->(l≠[]->∀e∈xs,gS l<e.key)->iT xs.length ⟨dO (gS l) xs++t,0⟩ l=(⟨t,0⟩,l++xs)
 |[],l,t,_,_,_,_,_=>by simp [iT,dO]
 |e::xs,l,t,h0,hf,hr,hk,hl=>by
  have hc:=rz.1 hr
  have he:=hf e bq
  have eb:kU ⟨dO (gS l) (e::xs)++t,0⟩ (gS l)=(⟨dO e.key xs++t,0⟩,e):=by
   rw [zE,jn]
   exact Kc he (hk e bq) h0
  rw [fR,iT,ai bq]
  have ew:qB ⟨dO (gS l) (e::xs)++t,0⟩ l=⟨dO e.key xs++t,0⟩:=by
   unfold qB
   rw [eb]
   refine ai fun hh=>?_
   have hb:=hh.2
   unfold jI at hb
   simp only at hb
   obtain⟨k1,k2,c1,-⟩:=he
   rcases hb with hb|hb|⟨hb1,hb2⟩
   ·omega
   ·omega
   ·have:=hl hb1 e bq;omega
  rw [ew,eb]
  simp only
  have:=zF (xs:=xs) (l:=l++[e]) (t:=t) (by rw [jb];exact he.1) (fun x hx=>hf x (by simp [hx])) hc.2 (fun x hx=>by rw [jb];exact Int.le_of_lt (hc.1 x hx)) (fun _ x hx=>by rw [jb];exact hc.1 x hx)
  rw [jb]at this
  rw [this]
  simp
def eN (ns:List ByteArray) (fl:Int) (l:List aA):List Int:=[119,110]++az ns.length++cI ns++az fl.toNat++az l.length++dO 0 l
theorem Bo (b:Ba) (l:List aA):jl b l=eN b.names b.floor l:=rfl
def cU (b:List Int):Rd×List ByteArray:=dM ((Rd.mk b 0).cnt 16).2.toNat ((Rd.mk b 0).cnt 16).1 []
def rh (b:List Int):Rd×Int:=(cU b).1.num.1.cnt 10000
def fu (b:List Int):Rd×List aA:=iT (rh b).2.toNat (rh b).1 []
def zL (b:List Int):Rd:=if (fu b).1.e=0/\0<(fu b).1.b.length then⟨(fu b).1.b,4⟩ else(fu b).1
theorem Qj {b:List Int} (hb:aO b) (h:(zL b).e=0) :
  [119,110]++b=eN (cU b).2 (cU b).1.num.2 (fu b).2/\(cU b).2.length<=16/\(fu b).2.length<=10000/\vt [] (fu b).2/\0<=(cU b).1.num.2/\(cU b).1.num.2<72057594037927936:=by
 have hnil:(fu b).1.e=0/\(fu b).1.b=[]:=by
  unfold zL at h
  split at h
  ·cases h
  ·rename_i hn
   refine⟨h,?_⟩
   cases hh:(fu b).1.b with
   |nil=>rfl
   |cons c l=>exact absurd ⟨h,by rw [hh];simp⟩ hn
 have b1:aO ((Rd.mk b 0).cnt 16).1.b:=mX hb
 have b2:aO (cU b).1.b:=uu b1
 have b3:aO (cU b).1.num.1.b:=fh b2
 have b4:aO (rh b).1.b:=mX b3
 obtain⟨e4,xs,h41,h42,h43,h44⟩:=Ev (l:=[]) b4 (Int.le_refl _) hnil.1
 obtain⟨e3,c,h31,h32,h33⟩:=Hd b3 e4
 obtain⟨e2,f,h21,h22,h23⟩:=vP b2 e3
 obtain⟨e1,ys,h11,h12,h13⟩:=A5 b1 e2
 obtain⟨-,n,h01,h02,h03⟩:=Hd (r:=Rd.mk b 0) hb e1
 have g1:(cU b).2=ys:=by have:(cU b).2=[]++ys:=h11;simpa using this
 have g2:(fu b).2=xs:=by have:(fu b).2=[]++xs:=h41;simpa using this
 have g3:ys.length=n:=by rw [h12,h01];simp
 have g4:xs.length=c:=by rw [h42];show (rh b).2.toNat=c;rw [show (rh b).2=(c:Int)from h31];simp
 refine⟨?_,by rw [g1];omega,by rw [g2];omega,by rw [g2];exact h44,af,af⟩
 rw [g1,g2]
 unfold eN
 have hf:((cU b).1.num.2).toNat=f:=af
 rw [hf,g3,g4]
 have q0:b=az n++((Rd.mk b 0).cnt 16).1.b:=h02
 have q1:((Rd.mk b 0).cnt 16).1.b=cI ys++(cU b).1.b:=h13
 have q2:(cU b).1.num.1.b=az c++(rh b).1.b:=h32
 have q3:(rh b).1.b=dO 0 xs++(fu b).1.b:=h43
 have q:b=az n++(cI ys++(az f++(az c++(dO 0 xs++[])))):=by
  rw [<-hnil.2,<-q3,<-q2,<-h22,<-q1];exact q0
 refine(congrArg (fun x=>[119,110]++x) q).trans ?_
 simp only [jn,nM]
theorem Ko {fl:Int} (t:List Int) (h1:ns.length<=16) (h2:∀s∈ns,s.size<=10) (h3:0<=fl) (h4:fl<72057594037927936) (h5:l.length<=10000) (h6:∀e∈l,zX e) (h7:aV l) {b:List Int} (hb:[119,110]++b=eN ns fl l++t) :
  (cU b).2=ns/\(cU b).1.num.2=fl/\(fu b).2=l/\(fu b).1=⟨t,0⟩:=by
 have hb':b=az ns.length++(cI ns++(az fl.toNat++(az l.length++(dO 0 l++t)))):=by
  unfold eN at hb
  simp only [jn,List.cons_append,List.nil_append,List.cons.injEq,true_and]at hb
  exact hb
 subst hb'
 have q1:=zJ (m:=ns.length) (t:=cI ns++(az fl.toNat++(az l.length++(dO 0 l++t)))) (most:=16) af af
 have q2:=xc (xs:=ns) (t:=az fl.toNat++(az l.length++(dO 0 l++t))) (ns:=[]) h2
 have g1:cU (az ns.length++(cI ns++(az fl.toNat++(az l.length++(dO 0 l++t)))))=(⟨az fl.toNat++(az l.length++(dO 0 l++t)),0⟩,ns):=by
  unfold cU
  rw [q1]
  simp only [Int.toNat_natCast]
  rw [q2];simp
 have q3:=qQ (m:=fl.toNat) (t:=az l.length++(dO 0 l++t)) af
 have q4:=zJ (m:=l.length) (t:=dO 0 l++t) (most:=10000) af af
 have g2:rh (az ns.length++(cI ns++(az fl.toNat++(az l.length++(dO 0 l++t)))))=(⟨dO 0 l++t,0⟩,(l.length:Int)):=by
  unfold rh
  rw [g1]
  simp only
  rw [q3]
  simp only
  rw [q4]
 have q5:=zF (xs:=l) (l:=[]) (t:=t) (Int.le_refl _) h6 h7 (fun e he=>(h6 e he).1) (fun h=>absurd rfl h)
 have g3:fu (az ns.length++(cI ns++(az fl.toNat++(az l.length++(dO 0 l++t)))))=(⟨t,0⟩,l):=by
  unfold fu
  rw [g2]
  simp only [Int.toNat_natCast]
  have:dO (gS []) l=dO 0 l:=rfl
  rw [this]at q5
  rw [q5];simp
 refine⟨by rw [g1],?_,by rw [g3],by rw [g3]⟩
 rw [g1]
 simp only
 rw [q3]
 simp only
 omega
end
def br (bs:List Int):List Int:=(bs.take (bs.length-4)).drop 2
def sj (bs:List Int):Int:=
 if 200000<bs.length then 1 else if bs.length<6 then 5 else if bs.take 2≠[119,110]then 4 else if j6 (bs.take (bs.length-4))≠bs.drop (bs.length-4)then 9 else(zL (br bs)).e
theorem tH {bs:List Int} (h:aO bs):aO (br bs):=fun c hc=>h c (wH (ve hc))
theorem I1 {bs:List Int} (h6:¬bs.length<6) (h2:bs.take 2=[119,110]):[119,110]++br bs=bs.take (bs.length-4):=by
 unfold br
 have e:(bs.take (bs.length-4)).take 2=[119,110]:=by
  rw [List.take_take,Nat.min_eq_left af];exact h2
 rw [<-e]
 exact wG 2 _
theorem TU {bs:List Int} (hb:aO bs) (h:sj bs=0) :
  bs=eN (cU (br bs)).2 (cU (br bs)).1.num.2 (fu (br bs)).2++j6 (eN (cU (br bs)).2 (cU (br bs)).1.num.2 (fu (br bs)).2) /\
  (cU (br bs)).2.length<=16/\(fu (br bs)).2.length<=10000/\vt [] (fu (br bs)).2/\0<=(cU (br bs)).1.num.2/\(cU (br bs)).1.num.2<72057594037927936/\bs.length<=200000:=by
 unfold sj at h
 split at h
 ·cases h
 rename_i h1
 split at h
 ·cases h
 rename_i h2
 split at h
 ·cases h
 rename_i h3
 split at h
 ·cases h
 rename_i h4
 have h3:bs.take 2=[119,110]:=Decidable.not_not.1 h3
 have h4:j6 (bs.take (bs.length-4))=bs.drop (bs.length-4):=Decidable.not_not.1 h4
 obtain⟨g1,g2,g3,g4,g5,g6⟩:=Qj (tH hb) h
 refine⟨?_,g2,g3,g4,g5,g6,af⟩
 rw [<-g1,I1 h2 h3,h4]
 exact(wG _ _).symm
theorem CX (b:List Int):(j6 b).length=4:=rfl
theorem Hh (ns:List ByteArray) (fl:Int) (l:List aA):5<=(eN ns fl l).length:=by
 have h1:=sW ns.length
 have h2:=sW fl.toNat
 have h3:=sW l.length
 unfold eN
 simp only [eP,fR,List.length_nil]
 omega
theorem Hg (ns:List ByteArray) (fl:Int) (l:List aA) (t:List Int):(eN ns fl l++t).take 2=[119,110]:=rfl
section
variable {ns:List ByteArray} {fl:Int} {l:List aA}
theorem Nt (h1:ns.length<=16) (h2:∀s∈ns,s.size<=10) (h3:0<=fl) (h4:fl<72057594037927936) (h5:l.length<=10000) (h6:∀e∈l,zX e) (h7:aV l)
  {bs:List Int} (hbs:bs=eN ns fl l++j6 (eN ns fl l)) (hl:bs.length<=200000) :
  sj bs=0/\(cU (br bs)).2=ns/\(cU (br bs)).1.num.2=fl/\(fu (br bs)).2=l:=by
 have hlen:bs.length=(eN ns fl l).length+4:=by rw [hbs,eP,CX]
 have CJ:=Hh ns fl l
 have ht:bs.take (bs.length-4)=eN ns fl l:=by
  rw [hlen,Nat.add_sub_cancel,hbs];exact List.take_left
 have hd:bs.drop (bs.length-4)=j6 (eN ns fl l):=by
  rw [hlen,Nat.add_sub_cancel];rw (config:={occs:= .pos [1]}) [hbs];exact List.drop_left
 have h2':bs.take 2=[119,110]:=by rw [hbs];exact Hg ns fl l _
 have Bf:=I1 (bs:=bs) af h2'
 rw [ht]at Bf
 obtain⟨g1,g2,g3,g4⟩:=Ko [] h1 h2 h3 h4 h5 h6 h7 (b:=br bs) (by rw [nM];exact Bf)
 refine⟨?_,g1,g2,g3⟩
 unfold sj
 rw [ai af,ai af,ai (iF h2'),ai (iF (by rw [ht,hd]))]
 unfold zL
 rw [g4]
 rfl
end
open Go.RowKit
section
set_option maxRecDepth 100000
variable {e:Int} {xs:List Int} {rb b off cap m:Nat} {r:Rd} {w w':World}
structure fQ (w:World) (rb:Nat) (v:Value) (r:Rd):Prop where
 box:w.heap[rb]?=some (.cells #[v, .int .i64 r.e] 165)
 sl:fE w v r.b
 ok:aO r.b
 form:∃b o c,v = .slice (some ⟨b,o,none⟩) r.b.length c/\b<rb
theorem fQ.low {v:Value} (h:fQ w rb v r):∀a n c,v = .slice (some a) n c->a.block<rb:=by
 obtain⟨b,o,c,rfl,hb⟩:=h.form
 intro a n c e
 injection e with e
 injection e with e
 subst e
 exact hb
theorem fQ.lt {v:Value} (h:fQ w rb v r):rb<w.heap.size:=(eW.1 h.box).1
abbrev gU (rb:Nat) (w w':World):Prop:=aw (fun b=>b=rb) w w'
theorem VF {v:Value} {k:Nat} (J2:w.heap[rb]?=some (.cells #[v, .int .i64 e] 165)) (hv:∃ao n c,v = .slice ao n c) (hk:k<xs.length)
  (h:∀i x,xs[i]?=some x->∀j u,(xt x)[j]?=some u->w.cell? ⟨b,off+i*1+j,none⟩=some u):b≠rb:=by
 rintro rfl
 have h0:=mj h hk
 obtain⟨ao,n,c,rfl⟩:=hv
 simp only [World.cell?,J2]at h0
 obtain⟨q,hq⟩:=bw (off+k)
 rw [hq]at h0
 match q with
 |0=>simp at h0
 |1=>simp at h0
 |q+2=>simp at h0
theorem Ij {v:Value} (J2:w.heap[rb]?=some (.cells #[v, .int .i64 e] 165)) (hs:fE w v xs) (hT:gU rb w w'):fE w' v xs:=by
 obtain⟨ao,cap,rfl,h1,h2,h3,h4,h5⟩:=hs
 refine⟨ao,cap,rfl,h1,h2,h3,h4,fun h0=>?_⟩
 obtain⟨b,off,rfl,hb,hc⟩:=h5 h0
 have hne:=VF J2 ⟨_,_,_,rfl⟩ h0 hc
 exact⟨b,off,rfl,mE hb hT.size,fun i x hx j u hu=>(hT.cell hb hne _).trans (hc i x hx j u hu)⟩
theorem BJ (h:fE w (.slice (some ⟨b,off,none⟩) xs.length cap) xs) (hm:m<=xs.length) (o:Nat) (ho:m<cap->o=off+m):fE w (.slice (some ⟨b,o,none⟩) (xs.length-m) (cap-m)) (xs.drop m):=by
 obtain⟨ao,cap',hv,h1,h2,h3,h4,h5⟩:=h
 injection hv with hv1 _ hv3
 subst hv3
 refine⟨_,_,by rw [oJ],by rw [oJ];omega,af,by rw [oJ];omega,bq,fun h0=>?_⟩
 rw [oJ]at h0
 obtain rfl:=ho af
 obtain⟨b',off',hb,hlt,hc⟩:=h5 af
 rw [<-hv1]at hb
 injection hb with hb;injection hb with e1 e2
 subst e1 e2
 refine⟨b,off+m,rfl,hlt,fun k x hk j u hu=>?_⟩
 rw [List.getElem?_drop]at hk
 have:=hc (m+k) x hk j u hu
 rw [<-this];congr 2;omega
theorem xS {ao:Option Addr} (h:fE w (.slice ao xs.length cap) xs) (hm:m<=xs.length):fE w (.slice ao m cap) (xs.take m):=by
 obtain⟨ao',cap',hv,h1,h2,h3,h4,h5⟩:=h
 injection hv with hv1 _ hv3
 subst hv3 hv1
 refine⟨_,_,by rw [fw,Nat.min_eq_left hm],by rw [fw,Nat.min_eq_left hm];omega,af,by rw [fw,Nat.min_eq_left hm];omega,h4,fun h0=>?_⟩
 rw [fw,Nat.min_eq_left hm]at h0
 obtain⟨b,off,rfl,hlt,hc⟩:=h5 af
 refine⟨b,off,rfl,hlt,fun k x hk j u hu=>hc k x ?_ j u hu⟩
 rw [qd]at hk
 split at hk
 ·exact hk
 ·cases hk
theorem fQ.cells {v:Value} (h:fQ w rb v r):w.cell? ⟨rb,0,none⟩=some v/\w.cell? ⟨rb,1,none⟩=some (.int .i64 r.e)/\∀o,w.frozen? ⟨rb,o,none⟩=false:=by
 have h1:=h.box
 simp [World.cell?,World.frozen?,h1]
theorem fQ.turn {v:Value} (h:fQ w rb v r) (hT:gU rb w w') (hb:w'.heap[rb]?=w.heap[rb]?):fQ w' rb v r:=⟨hb.trans h.box,Ij h.box h.sl hT,h.ok,h.form⟩
theorem fQ.Sd {v:Value} (hs:fE w v xs) (qA:∀a n c,v = .slice (some a) n c->a.block<rb) (hb:Below (rb+1) w w') (_hr:rb<w.heap.size):fE w' v xs:=by
 obtain⟨ao,cap,rfl,h1,h2,h3,h4,h5⟩:=hs
 refine⟨ao,cap,rfl,h1,h2,h3,h4,fun h0=>?_⟩
 obtain⟨b,off,rfl,hb1,hc⟩:=h5 h0
 have hl:=qA _ _ _ rfl
 simp only at hl
 exact⟨b,off,rfl,mE hb1 hb.size,fun i x hx j u hu=>(hb.cell (p:=⟨b,off+i*1+j,none⟩) (by show b<rb+1;omega)).trans (hc i x hx j u hu)⟩
theorem fQ.later {v:Value} (h:fQ w rb v r) (hb:Below (rb+1) w w'):fQ w' rb v r:=
 ⟨(hb.block _ (Nat.lt_succ_self _)).trans h.box,fQ.Sd h.sl h.low hb h.lt,h.ok,h.form⟩
theorem fQ.ZR {v:Value} (h:fQ w rb v r) (e:Int):gU rb w (w.setCell ⟨rb,1,none⟩ (.int .i64 e))/\fQ (w.setCell ⟨rb,1,none⟩ (.int .i64 e)) rb v ⟨r.b,e⟩:=by
 have hT:gU rb w (w.setCell ⟨rb,1,none⟩ (.int .i64 e)):=aw.setCell (X:=fun b=>b=rb) (aw.refl _ w) (.inl (show rb=rb from rfl)) _
 exact⟨hT,heap_setCell_same h.box,Ij h.box h.sl hT,h.ok,h.form⟩
theorem fQ.qL {v v':Value} {b:List Int} (h:fQ w rb v r) (hs:fE w v' b) (hform:∃bk o c,v' = .slice (some ⟨bk,o,none⟩) b.length c/\bk<rb) (hb:aO b):gU rb w (w.setCell ⟨rb,0,none⟩ v')/\fQ (w.setCell ⟨rb,0,none⟩ v') rb v' ⟨b,r.e⟩:=by
 have hT:gU rb w (w.setCell ⟨rb,0,none⟩ v'):=aw.setCell (X:=fun b=>b=rb) (aw.refl _ w) (.inl (show rb=rb from rfl)) _
 refine⟨hT,heap_setCell_same h.box,?_,hb,hform⟩
 ·obtain⟨ao,cap,rfl,h1,h2,h3,h4,h5⟩:=hs
  refine⟨ao,cap,rfl,h1,h2,h3,h4,fun h0=>?_⟩
  obtain⟨b,off,rfl,hb,hc⟩:=h5 h0
  exact⟨b,off,rfl,mE hb hT.size,fun i x hx j u hu=>(hT.cell hb (by obtain⟨b',o',c',e,hlt⟩:=hform;injection e with e;injection e with e;injection e with e;subst e;exact Nat.ne_of_lt hlt) _).trans (hc i x hx j u hu)⟩
theorem mV {v:Value} (h:fQ w rb v r):Calls Tryd.prog 109 #[.pointer (some ⟨rb,0,none⟩), .int .i64 e] w fun x w'=>x = .returned (.tuple #[])/\gU rb w w'/\fQ w' rb v (r.wrong e):=by
 obtain⟨c0,c1,cf⟩:=h.cells
 have HS:=hdd (h.ZR e)
 have HR:=hdd h
 by_cases he:r.e=0
 ·have HW:=hdd (show r.wrong e=⟨r.b,e⟩ by unfold Rd.wrong;rw [ar he])
  rw [he]at c1
  clear h he
  go_enter Tryd.func109,Tryd.ntmps109
  go_wp2_with fail
  go_end0
  exact⟨rfl,HS.out.1,by rw [HW.out];exact HS.out.2⟩
 ·have HW:=hdd (show r.wrong e=r by unfold Rd.wrong;rw [ai he])
  have hd:(r.e == 0)=false:=by simpa using he
  clear h he
  go_enter Tryd.func109,Tryd.ntmps109
  go_wp2_with fail
  go_end0
  exact⟨rfl,aw.refl _ _,by rw [HW.out];exact HR.out⟩
end
section
set_option maxRecDepth 100000
set_option maxHeartbeats 4000000
variable {n c:Int} {b:List Int} {i:Nat} {r:Rd}
theorem FX (h:r.e=0) {e v:Int} (hn:jE 0 0 r.b=(b,e,v)):r.num=(⟨b,e⟩,v):=by unfold Rd.num;rw [ar h,hn]
theorem LX (i:Nat) (n:Int):jE i n []=([],5,0):=by unfold jE;rfl
theorem LZ (h:i=8\/(0<i/\c=0)):jE i n (c::b)=(b,4,0):=by unfold jE;rw [ar h]
theorem LY (h:¬(i=8\/(0<i/\c=0))) (hc:c<128):jE i n (c::b)=(b,0,n+c*128 ^ i):=by unfold jE;rw [ai h,ar hc]
theorem Pq (h:¬(i=8\/(0<i/\c=0))) (hc:¬c<128):jE i n (c::b)=jE (i+1) (n+c%128*128 ^ i) b:=by
 rw [jE,ai h,ai hc]
theorem oY {w:World} {rb:Nat} {v:Value} (h:fQ w rb v r):Calls Tryd.prog 110 #[.pointer (some ⟨rb,0,none⟩)] w fun x w'=>x = .returned (.int .i64 r.num.2)/\gU rb w w'/\∃v',fQ w' rb v' r.num.1:=by
 have HR:=hdd h
 by_cases he:r.e=0
 ·go_enter Tryd.func110,Tryd.ntmps110
  go_wp2_with fail
  go_loopg [3,4] 9 (fun g nv iv wr=>∃(k:Nat) (n:Int) (v:Value) (b:List Int),k<=8/\g=9-k/\iv = .int .i64 k/\nv = .int .i64 n/\Hid (0<=n/\n<128 ^ k)/\Hid (gU rb w wr/\fQ wr rb v ⟨b,0⟩/\jE 0 0 r.b=jE k n b))
  case atStart=>exact⟨0,0,v,r.b,af,rfl,rfl,rfl,hdd aW,hdd ⟨aw.refl _ _,(by have:=HR.out;obtain⟨rb',re⟩:=r;simp only at he;subst he;exact this),rfl⟩⟩
  case round=>
   clear h
   obtain⟨k,n,v1,b,hk,rfl,rfl,rfl,HN,HA⟩:=hrel
   obtain⟨ao,cap,rfl,s1,s2,s3,s4,s5⟩:=HA.out.2.1.sl
   obtain⟨c0,c1,cf⟩:wr.cell? ⟨rb,0,none⟩=some (.slice ao b.length cap)/\wr.cell? ⟨rb,1,none⟩=some (.int .i64 0)/\∀o,wr.frozen? ⟨rb,o,none⟩=false:=HA.out.2.1.cells
   rcases b with _|⟨c,b⟩
   ·have HW:=hdd (mV (e:=5) HA.out.2.1)
    have HG:=hdd (FX he (HA.out.2.2.trans (LX k n)))
    have hT0:=hdd HA.out.1
    clear HA HN HR s5 he
    have hl:([]:List Int).length=0:=rfl
    rw [hl]at c0 HW
    go_wp2_with (go_at_call 109;(with_reducible refine HW.out.mono ?_);rintro e w1 ⟨rfl,hT,hR⟩)
    go_ret
    exact⟨by rw [HG.out];rfl,hT0.out.trans hT,_,by rw [HG.out];exact hR⟩
   ·obtain⟨ab,aY,rfl,xD,ac⟩:=s5 bq
    have e0:=mj (k:=0) ac bq
    simp only [Nat.add_zero,List.getElem_cons_zero]at e0
    have hcb:=HA.out.2.1.ok c bq
    have kS:=fun w'=>mW (ab:=ab) (aY:=aY) (n:=(c::b).length) (cap:=cap) (show (0:Int)=((0:Nat):Int) by rfl) bq w'
    have hlen:(c::b).length=b.length+1:=bq
    rw [hlen]at c0 s1 kS
    have hl0:¬((b.length:Int)+1=0):=af
    obtain⟨o,eo,ho⟩:∃o,(if cap=1 then some (⟨ab,aY,none⟩:Addr)else some ⟨ab,aY+1,none⟩)=some ⟨ab,o,none⟩/\(1<cap->o=aY+1):=by
     by_cases h1:cap=1
     ·exact⟨aY,ar h1,fun h=>af⟩
     ·exact⟨aY+1,ai h1,fun _=>rfl⟩
    have hne:ab<rb:=HA.out.2.1.low _ _ _ rfl
    have hsl:fE wr (.slice (some ⟨ab,o,none⟩) b.length (cap-1)) b:=by
     have:=BJ (m:=1) (by have:=HA.out.2.1.sl;exact this) bq o ho
     rw [hlen]at this
     exact this
    have HB:=hdd (HA.out.2.1.qL hsl ⟨_,_,_,rfl,hne⟩ (fun x hx=>HA.out.2.1.ok x (by simp [hx])))
    clear ac s5 hne hsl ho
    go_upto_region 9 with (fail)
    obtain⟨W8,mf⟩:=bQ (wr.setCell ⟨rb,0,none⟩ (.slice (some ⟨ab,o,none⟩) b.length (cap-1)))
    rw [<-mf]at HB ⊢
    obtain⟨d0,d1,df⟩:W8.cell? ⟨rb,0,none⟩=some (.slice (some ⟨ab,o,none⟩) b.length (cap-1))/\W8.cell? ⟨rb,1,none⟩=some (.int .i64 0)/\∀o,W8.frozen? ⟨rb,o,none⟩=false:=HB.out.2.cells
    have HL:=hdd HA.out.2.2
    have HT:=hdd (HA.out.1.trans HB.out.1)
    have HB:=hdd HB.out.2
    have HE:=hdd he
    clear mf HA c0 c1 cf s1 s2 s3 s4 kS eo e0 xD hlen hl0 he HR
    by_cases hbad:k=8\/(0<k/\c=0)
    ·have HG:=hdd (FX HE.out (HL.out.trans (LZ hbad)))
     have HW:=hdd (mV (e:=4) HB.out)
     clear HL HN HB HE
     by_cases h8:k=8
     ·subst h8
      clear hbad
      go_wp2_with (go_at_call 109;(with_reducible refine HW.out.mono ?_);rintro e w1 ⟨rfl,hT,hR⟩)
      go_ret
      exact⟨by rw [HG.out];rfl,HT.out.trans hT,_,by rw [HG.out];exact hR⟩
     ·have hc0:c=0:=af
      have e8:((k:Int) == 8)=false:=by simp;omega
      have ek:(0:Int)<(k:Int):=af
      subst hc0
      clear hbad h8
      go_wp2_with (go_at_call 109;(with_reducible refine HW.out.mono ?_);rintro e w1 ⟨rfl,hT,hR⟩)
      go_ret
      exact⟨by rw [HG.out];rfl,HT.out.trans hT,_,by rw [HG.out];exact hR⟩
    ·have h8:k<8:=af
     have e8:((k:Int) == 8)=false:=by simp;omega
     have hand:=i64_and127 c
     have hpk:(128:Int) ^ k=2 ^ (7*k):=by rw [Int.pow_mul];rfl
     have hp0:(0:Int)<2 ^ (7*k):=Int.pow_pos aW
     have hp1:(2:Int) ^ (7*k)<=562949953421312:=by
      have h1:(2:Nat) ^ (7*k)<=2 ^ 49:=Nat.pow_le_pow_right aW af
      have h2:((2 ^ (7*k):Nat):Int)<=((2 ^ 49:Nat):Int):=Int.ofNat_le.2 h1
      simpa using h2
     have hm0:0<=c%128*2 ^ (7*k):=Int.mul_nonneg af af
     have Gz:c%128*2 ^ (7*k)<=127*562949953421312:=Int.mul_le_mul af hp1 af aW
     have hsh:wrap64 (c%128*2 ^ (7*k))=c%128*2 ^ (7*k):=IntWalk.wrap64_in _ af
     have hor:bits .or .i64 n (c%128*2 ^ (7*k))=n+c%128*128 ^ k:=by
      have hn:=HN.out
      rw [hpk]at hn ⊢
      rw [bits_join_low .i64 63 aW (fun n h0 h1=>IntWalk.i64_in _ af) (7*k) n (c%128*2 ^ (7*k)) hn.1 hn.2 af hm0 (Int.mul_emod_left _ _) af]
     have HR:=hdd (show 0<=n+c%128*128 ^ k/\n+c%128*128 ^ k<128 ^ (k+1) by
      have hn:=HN.out
      rw [Int.pow_succ,hpk]at *
      have:=Int.mul_le_mul_of_nonneg_right (show c%128<=127 by omega) (Int.le_of_lt hp0)
      omega)
     have hq:¬(0<(k:Int)/\c=0):=af
     clear hpk hp0 hp1 hm0 Gz HN
     obtain⟨N,hN⟩:=bw (n+c%128*128 ^ k)
     rw [hN]at hor HR
     by_cases hc:c<128
     ·have HG:=hdd (FX HE.out (HL.out.trans (LY hbad hc)))
      have hcc:c*128 ^ k=c%128*128 ^ k:=by congr 1;omega
      rw [hcc,hN]at HG
      clear hcc hN HL HE
      by_cases ie:(0:Int)<(k:Int)
      ·have hc0:(c == 0)=false:=by simp;omega
       clear hbad hq
       go_wp2_with fail
       go_ret
       exact⟨by rw [HG.out];rfl,HT.out,_,by rw [HG.out];exact HB.out⟩
      ·obtain rfl:k=0:=af
       have hk1:((0:Nat):Int)=0:=rfl
       have aaF:bits .or .i64 n (c%128)=N:=by simpa using hor
       rw [hk1]at e8 ⊢
       clear hbad hq ie hk1 e8
       go_wp2_with fail
       go_ret
       exact⟨by rw [HG.out];rfl,HT.out,_,by rw [HG.out];exact HB.out⟩
     ·have HL:=hdd (HL.out.trans (Pq hbad hc))
      rw [hN]at HL
      have hc1:decide (c<128)=false:=wF hc
      clear hN HE
      by_cases ie:(0:Int)<(k:Int)
      ·have hc0:(c == 0)=false:=by simp;omega
       clear hbad hq hc
       go_wp2_with fail
       go_roundg (9-(k+1))
       case measure=>omega
       case rel=>exact⟨k+1,N,_,b,af,rfl,by go_num,rfl,HR,hdd ⟨HT.out,HB.out,HL.out⟩⟩
      ·obtain rfl:k=0:=af
       have hk1:((0:Nat):Int)=0:=rfl
       have aaF:bits .or .i64 n (c%128)=N:=by simpa using hor
       rw [hk1]at e8 ⊢
       clear hbad hq ie hc hk1 e8
       go_wp2_with fail
       go_roundg (9-(0+1))
       case measure=>omega
       case rel=>exact⟨0+1,N,_,b,af,rfl,by go_num,rfl,HR,hdd ⟨HT.out,HB.out,HL.out⟩⟩
 ·have HG:=hdd (Di he)
  obtain⟨c0,c1,cf⟩:=h.cells
  have hd:(r.e == 0)=false:=by simpa using he
  clear h he
  go_enter Tryd.func110,Tryd.ntmps110
  go_wp2_with fail
  go_loopg [3,4] 1 (fun g nv iv wr=>g=1/\iv = .int .i64 0/\nv = .int .i64 0/\wr=w)
  case atStart=>exact⟨rfl,rfl,rfl,rfl⟩
  case round=>
   obtain⟨rfl,rfl,rfl,hwr⟩:=hrel
   obtain rfl:=hwr.symm
   go_wp2_with fail
   go_ret
   exact⟨by rw [HG.out];rfl,aw.refl _ _,_,by rw [HG.out];exact HR.out⟩
end
section
set_option maxRecDepth 100000
variable {rb:Nat} {r:Rd} {w:World}
theorem Mm (n:Int):bits .and .i64 n 1=n%2:=by
 have h1:(BitVec.ofInt 64 1).toNat=2 ^ 1-1:=aW
 have key:(BitVec.ofInt 64 n &&& BitVec.ofInt 64 1).toNat=(n%((2 ^ 64:Nat):Int)).toNat%2 ^ 1:=by
  rw [BitVec.toNat_and,BitVec.toNat_ofInt,h1,Nat.and_two_pow_sub_one_eq_mod]
 show IntKind.i64.wrap ((BitVec.ofInt 64 n &&& BitVec.ofInt 64 1).toNat:Nat)=n%2
 rw [key,IntKind.wrap_i64]
 omega
theorem rK {v:Value} (h:fQ w rb v r):Calls Tryd.prog 111 #[.pointer (some ⟨rb,0,none⟩)] w fun x w'=>x = .returned (.int .i64 r.rL.2)/\gU rb w w'/\∃v',fQ w' rb v' r.rL.1:=by
 have HN:=hdd (oY h)
 have hr:=rQ h.ok
 have zT:=hdd (show r.rL.1=r.num.1 from rfl)
 have X0:=hdd (show r.rL.2=ui r.num.2 from rfl)
 obtain⟨n,hn⟩:=bw (r.num.2)
 rw [hn]at HN hr X0
 have ha:=Mm n
 clear h hn
 by_cases ho:n%2=1
 ·have HV:=hdd (show (-(n+1)).tdiv 2=ui n by
   unfold ui
   rw [ar ho,Int.neg_tdiv,AB af])
  have hw1:IntKind.i64.wrap (n+1)=n+1:=IntWalk.i64_in _ af
  have hw2:IntKind.i64.wrap (-(n+1)) = -(n+1):=IntWalk.i64_in _ af
  obtain⟨V,hV⟩:=bw ((-(n+1)).tdiv 2)
  have hw3:IntKind.i64.wrap V=V:=by rw [<-hV,HV.out];unfold ui;rw [ar ho];exact IntWalk.i64_in _ af
  rw [hV]at HV
  rw [ho]at ha
  clear ho
  go_enter Tryd.func111,Tryd.ntmps111
  go_wp2_with (go_at_call 110;(with_reducible refine HN.out.mono ?_);rintro e w1 ⟨rfl,hT,v1,hR⟩)
  go_ret
  exact⟨ia (by rw [X0.out,<-HV.out]),hT,v1,by rw [zT.out];exact hR⟩
 ·have hev:(n%2 == 1)=false:=by simpa using ho
  have HV:=hdd (show n.tdiv 2=ui n by
   unfold ui
   rw [ai ho,AB af])
  obtain⟨V,hV⟩:=bw (n.tdiv 2)
  have hw3:IntKind.i64.wrap V=V:=by rw [<-hV,HV.out];unfold ui;rw [ai ho];exact IntWalk.i64_in _ af
  rw [hV]at HV
  clear ho
  go_enter Tryd.func111,Tryd.ntmps111
  go_wp2_with (go_at_call 110;(with_reducible refine HN.out.mono ?_);rintro e w1 ⟨rfl,hT,v1,hR⟩)
  go_ret
  exact⟨ia (by rw [X0.out,<-HV.out]),hT,v1,by rw [zT.out];exact hR⟩
theorem zI {v:Value} {most:Int} (h:fQ w rb v r):Calls Tryd.prog 108 #[.pointer (some ⟨rb,0,none⟩), .int .i64 most] w fun x w'=>x = .returned (.int .i64 (r.cnt most).2)/\gU rb w w'/\∃v',fQ w' rb v' (r.cnt most).1:=by
 have HN:=hdd (oY h)
 by_cases hm:most<r.num.2
 ·have HC:=hdd (show r.cnt most=(r.num.1.wrong 1,0)from ar hm)
  obtain⟨n,hn⟩:=bw (r.num.2)
  rw [hn]at HN hm
  clear h hn
  go_enter Tryd.func108,Tryd.ntmps108
  go_wp2_with (first|(go_at_call 110;(with_reducible refine HN.out.mono ?_);rintro e w1 ⟨rfl,hT,v1,hR⟩)|(go_at_call 109;(with_reducible refine(mV hR).mono ?_);rintro e w2 ⟨rfl,hT2,hR2⟩))
  go_ret
  exact⟨ia (by rw [HC.out]),hT.trans hT2,v1,by rw [HC.out];exact hR2⟩
 ·have HC:=hdd (show r.cnt most=r.num from ai hm)
  have hd:decide (most<r.num.2)=false:=wF hm
  obtain⟨n,hn⟩:=bw (r.num.2)
  have Ob:=hdd hn
  rw [hn]at HN hd
  clear h hn hm
  go_enter Tryd.func108,Tryd.ntmps108
  go_wp2_with (go_at_call 110;(with_reducible refine HN.out.mono ?_);rintro e w1 ⟨rfl,hT,v1,hR⟩)
  go_ret
  exact⟨ia (by rw [HC.out,Ob.out]),hT,v1,by rw [HC.out];exact hR⟩
end
end Go.Proofs.YtmljjfhgciaceaaDoor
