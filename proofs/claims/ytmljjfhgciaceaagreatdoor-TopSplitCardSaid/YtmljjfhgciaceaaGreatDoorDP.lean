/- Texts of mine that come as one: DecP DecQ Rdr RdrN RdrS. -/
import Derived.Test.YtmljjfhgciaceaaGreatDoorHd
import Derived.Test.YtmljjfhgciaceaaGreatDoorBG
import Derived.Laws.BytesArg
import Derived.Test.YtmljjfhgciaceaaGreatDoorKG
namespace Go.Proofs.YtmljjfhgciaceaaGreatDoor
section
variable {most key:Int} {ns:List ByteArray} {l:List aA} {t:List Int} {m k:Nat}
def jH:Nat->Int->List Int->List Int×Int×Int
 |_,_,[]=>([],5,0)
 |i,n,c::r=>if i=8\/(0<i/\c=0) then(r,4,0)else if c<128 then(r,0,n+c*128 ^ i)else jH (i+1) (n+(c%128)*128 ^ i) r
theorem Dm:∀{b:List Int} {i:Nat} {n:Int} {r:List Int} {e v:Int},jH i n b=(r,e,v)->e≠0->v=0/\(e=4\/e=5)
 |[],i,n,r,e,v,h,he=>by
  unfold jH at h
  simp only [jM]at h
  omega
 |c::b,i,n,r,e,v,h,he=>by
  unfold jH at h
  split at h
  ·simp only [jM]at h;omega
  ·split at h
   ·simp only [jM]at h;omega
   ·exact Dm h he
theorem IB:∀{b:List Int} {i:Nat} {n:Int} {r:List Int} {v:Int},(∀c∈b,0<=c/\c<=255)->i<=8->jH i n b=(r,0,v) ->
  ∃m:Nat,v=n+m*128 ^ i/\b=az m++r/\(0<i->0<m)/\m<128 ^ (8-i)
 |[],i,n,r,v,hb,hi,h=>by
  unfold jH at h
  simp only [jM]at h
  omega
 |c::b,i,n,r,v,hb,hi,h=>by
  have hc:=hb c bt
  unfold jH at h
  split at h
  ·simp only [jM]at h;omega
  ·rename_i h1
   have hi8:i<8:=af
   have PW:(128:Nat) ^ (8-i)=128*128 ^ (8-(i+1)):=by
    have:8-i=(8-(i+1))+1:=af
    rw [this,Nat.pow_succ,Nat.mul_comm]
   have hpos:0<(128:Nat) ^ (8-(i+1)):=Nat.pow_pos aY
   split at h
   ·rename_i h2
    simp only [jM]at h
    obtain⟨rfl,-,rfl⟩:=h
    refine⟨c.toNat,by rw [Int.toNat_of_nonneg hc.1],?_,fun hi0=>af,by rw [PW];omega⟩
    rw [jE af,Int.toNat_of_nonneg hc.1];rfl
   ·rename_i h2
    obtain⟨m,rfl,rfl,h3,h4⟩:=IB (fun x hx=>hb x (by simp [hx])) af h
    have h3:=h3 af
    refine⟨(c%128).toNat+128*m,?_,?_,fun _=>af,by rw [PW];omega⟩
    ·have e1:(((c%128).toNat+128*m:Nat):Int)=c%128+128*(m:Int):=af
     rw [e1,Int.add_mul,Int.pow_succ,Int.mul_comm (128:Int) (m:Int),Int.mul_assoc,Int.mul_comm (128:Int) (128 ^ i)];omega
    ·have e1:((c%128).toNat+128*m)%128=(c%128).toNat:=af
     have e2:((c%128).toNat+128*m)/128=m:=af
     rw [lV (n:=(c%128).toNat+128*m) af,e1,e2,List.cons_append]
     congr 1
     omega
theorem Px:∀(m:Nat) {i:Nat} {n:Int} {r:List Int},i<=7->(0<i->0<m)->m<128 ^ (8-i)->jH i n (az m++r)=(r,0,n+m*128 ^ i):=by
 intro m
 induction m using Nat.strongRecOn with
 |_ m ih=>
  intro i n r hi h0 h1
  have PW:(128:Nat) ^ (8-i)=128*128 ^ (8-(i+1)):=by
   have:8-i=(8-(i+1))+1:=af
   rw [this,Nat.pow_succ,Nat.mul_comm]
  by_cases hm:m<128
  ·rw [jE hm,List.singleton_append]
   unfold jH
   rw [ai af,ar af]
  ·rw [lV hm,List.cons_append]
   unfold jH
   rw [ai af,ai af]
   have h2:m/128<128 ^ (8-(i+1)):=by
    rw [PW]at h1
    rw [Nat.div_lt_iff_lt_mul aY,Nat.mul_comm];exact h1
   by_cases hi7:i=7
   ·subst hi7
    simp at h2
    omega
   ·rw [ih (m/128) af af (fun _=>af) h2]
    simp only [jM,true_and]
    have e1:(128+(m%128:Nat):Int)%128=(m%128:Nat):=af
    have e2:(m:Int)=(m%128:Nat)+128*(m/128:Nat):=af
    rw [e1,e2,Int.add_mul,Int.pow_succ,Int.mul_comm (128:Int) ((m/128:Nat):Int),Int.mul_assoc,Int.mul_comm (128:Int) (128 ^ i)]
    omega
theorem Dk {xs:List Int} (h:aP xs):nums (strOfNums xs)=xs:=by
 unfold nums strOfNums
 simp only [List.map_map]
 refine(List.map_congr_left fun c hc=>?_).trans (List.map_id xs)
 have:=h c hc
 simp only [Function.comp,UInt8.toNat_ofNat',id]
 omega
theorem Lg (s:ByteArray):strOfNums (nums s)=s:=by
 unfold nums strOfNums
 simp only [List.map_map]
 have:(s.data.toList.map ((fun n:Int=>UInt8.ofNat n.toNat)∘fun b:UInt8=>(b.toNat:Int)))=s.data.toList:=
  (List.map_congr_left fun c _=>by simp [Function.comp]).trans (List.map_id _)
 rw [this]
theorem xd:∀{b:List Int} {i:Nat} {n:Int},∃p,b=p++(jH i n b).1
 |[],i,n=>⟨[],rfl⟩
 |c::b,i,n=>by
  unfold jH
  split
  ·exact⟨[c],rfl⟩
  ·split
   ·exact⟨[c],rfl⟩
   ·obtain⟨p,hp⟩:=@xd b (i+1) (n+(c%128)*128 ^ i)
    exact⟨c::p,by rw [List.cons_append,<-hp]⟩
structure Rd where
 b:List Int
 e:Int
def Rd.num (r:Rd):Rd×Int:=if r.e=0 then(⟨(jH 0 0 r.b).1,(jH 0 0 r.b).2.1⟩,(jH 0 0 r.b).2.2) else(r,0)
def Rd.wrong (r:Rd) (e:Int):Rd:=if r.e=0 then⟨r.b,e⟩else r
def uk (n:Int):Int:=if n%2=1 then -((n+1)/2)else n/2
def Rd.rQ (r:Rd):Rd×Int:=(r.num.1,uk r.num.2)
def Rd.cnt (r:Rd) (most:Int):Rd×Int:=if most<r.num.2 then(r.num.1.wrong 1,0)else r.num
theorem Dl {r:Rd} (h:r.e≠0):r.num=(r,0):=by unfold Rd.num;rw [ai h]
theorem FZ (r:Rd):∃p,r.b=p++r.num.1.b:=by
 unfold Rd.num
 split
 ·exact xd
 ·exact⟨[],rfl⟩
theorem fg {r:Rd} (h:aP r.b):aP r.num.1.b:=by
 obtain⟨p,hp⟩:=FZ r
 intro c hc
 exact h c (by rw [hp];simp [hc])
theorem vS {r:Rd} (hb:aP r.b) (h:r.num.1.e=0):r.e=0/\∃m:Nat,r.num.2=m/\r.b=az m++r.num.1.b/\m<72057594037927936:=by
 by_cases he:r.e=0
 ·refine⟨he,?_⟩
  unfold Rd.num at h ⊢
  rw [ar he]at h ⊢
  simp only at h ⊢
  obtain⟨m,h1,h2,-,h4⟩:=IB (i:=0) (n:=0) (r:=(jH 0 0 r.b).1) (v:=(jH 0 0 r.b).2.2) hb aY (Prod.ext rfl (Prod.ext h rfl))
  exact⟨m,by simpa using h1,h2,by simpa using h4⟩
 ·rw [Dl he]at h;exact absurd h he
theorem LX {r:Rd} (h:r.num.1.e≠0):r.num.2=0:=by
 unfold Rd.num at h ⊢
 split
 ·rename_i he
  rw [ar he]at h
  exact(Dm (r:=(jH 0 0 r.b).1) (e:=(jH 0 0 r.b).2.1) rfl h).1
 ·rfl
theorem rV {r:Rd} (hb:aP r.b):0<=r.num.2/\r.num.2<72057594037927936:=by
 by_cases h:r.num.1.e=0
 ·obtain⟨-,m,h1,-,h2⟩:=vS hb h
  omega
 ·rw [LX h];decide
theorem qW (h:m<72057594037927936):(Rd.mk (az m++t) 0).num=(⟨t,0⟩,(m:Int)):=by
 have:=Px m (i:=0) (n:=0) (r:=t) aY (fun h=>absurd h aY) (by simpa using h)
 unfold Rd.num
 rw [ar rfl]
 simp only [this]
 simp
theorem Ll:dz (uk m)=az m:=by
 unfold dz uk
 split
 ·rename_i h;rw [ar af];congr 1;omega
 ·rename_i h;rw [ai af];congr 1;omega
theorem BU {r:Rd} (hb:aP r.b) (h:r.rQ.1.e=0):r.e=0/\r.b=dz r.rQ.2++r.rQ.1.b:=by
 obtain⟨h1,m,h2,h3,-⟩:=vS hb h
 refine⟨h1,?_⟩
 show r.b=dz (uk r.num.2)++r.num.1.b
 rw [h2,Ll];exact h3
theorem uj {v:Int} (h1 : -18014398509481984<v) (h2:v<18014398509481984):(Rd.mk (dz v++t) 0).rQ=(⟨t,0⟩,v):=by
 have key:∀m:Nat,m<72057594037927936->dz v=az m->uk m=v->(Rd.mk (dz v++t) 0).rQ=(⟨t,0⟩,v):=fun m hm e1 e2=>by
  unfold Rd.rQ
  rw [e1,qW hm]
  simp only [e2]
 unfold dz at key
 by_cases h:v<0
 ·exact key (-2*v-1).toNat af (ar h) (by unfold uk;rw [ar af];omega)
 ·exact key (2*v).toNat af (ai h) (by unfold uk;rw [ai af];omega)
theorem O8 {r:Rd} {e:Int} (he:e≠0):(r.wrong e).e≠0:=by
 unfold Rd.wrong;split
 ·exact he
 ·assumption
theorem O9 {r:Rd} {e:Int}:(r.wrong e).b=r.b:=by unfold Rd.wrong;split <;> rfl
theorem Hg {r:Rd} (hb:aP r.b) (h:(r.cnt most).1.e=0):r.e=0/\∃m:Nat,(r.cnt most).2=m/\r.b=az m++(r.cnt most).1.b/\(m:Int)<=most:=by
 unfold Rd.cnt at h ⊢
 split
 ·rename_i h1;rw [ar h1]at h;exact absurd h (O8 aY)
 ·rename_i h1
  rw [ai h1]at h
  obtain⟨h2,m,h3,h4,-⟩:=vS hb h
  exact⟨h2,m,h3,h4,af⟩
theorem mW {r:Rd} (h:aP r.b):aP (r.cnt most).1.b:=by
 unfold Rd.cnt
 split
 ·rw [O9];exact fg h
 ·exact fg h
theorem sj {r:Rd} (hm:0<=most) (h:aP r.b):0<=(r.cnt most).2/\(r.cnt most).2<=most:=by
 have:=rV h
 unfold Rd.cnt
 split
 ·exact⟨Int.le_refl _,hm⟩
 ·exact⟨this.1,af⟩
theorem zP (h:m<72057594037927936) (hm:(m:Int)<=most):(Rd.mk (az m++t) 0).cnt most=(⟨t,0⟩,(m:Int)):=by
 unfold Rd.cnt
 rw [qW h,ai (by simp only;omega)]
def dM:Nat->Rd->List ByteArray->Rd×List ByteArray
 |0,r,ns=>(r,ns)
 |k+1,r,ns=>if r.e≠0 then(r,ns) else
  if (r.cnt 10).1.e=0/\(r.cnt 10).2<=(r.cnt 10).1.b.length then dM k ⟨(r.cnt 10).1.b.drop (r.cnt 10).2.toNat,0⟩ (ns++[strOfNums ((r.cnt 10).1.b.take (r.cnt 10).2.toNat)])
  else(if (r.cnt 10).1.e=0 then⟨(r.cnt 10).1.b,5⟩ else(r.cnt 10).1,ns)
theorem nT {r:Rd} (h:r.e≠0):dM k r ns=(r,ns):=by
 cases k with
 |zero=>rfl
 |succ k=>unfold dM;rw [ar h]
theorem Bf:∀{k:Nat} {r:Rd} {ns:List ByteArray},aP r.b->(dM k r ns).1.e=0->r.e=0/\∃xs:List ByteArray,(dM k r ns).2=ns++xs/\xs.length=k/\r.b=cL xs++(dM k r ns).1.b
 |0,r,ns,_,h=>⟨h,[],by simp [dM],rfl,by simp [dM,cL]⟩
 |k+1,r,ns,hb,h=>by
  by_cases he:r.e=0
  ·refine⟨he,?_⟩
   by_cases hc:(r.cnt 10).1.e=0/\(r.cnt 10).2<=(r.cnt 10).1.b.length
   ·have eq:dM (k+1) r ns=dM k ⟨(r.cnt 10).1.b.drop (r.cnt 10).2.toNat,0⟩ (ns++[strOfNums ((r.cnt 10).1.b.take (r.cnt 10).2.toNat)]):=by
     rw [dM,ai (iM he),ar hc]
    rw [eq]at h ⊢
    have hb1:=mW (most:=10) hb
    obtain⟨-,m,h1,h2,-⟩:=Hg hb hc.1
    have hb2:aP ((r.cnt 10).1.b.drop (r.cnt 10).2.toNat):=fun c hcc=>hb1 c (vg hcc)
    obtain⟨-,xs,h3,h4,h5⟩:=Bf hb2 h
    refine⟨strOfNums ((r.cnt 10).1.b.take (r.cnt 10).2.toNat)::xs,by rw [h3];simp,by simp [h4],?_⟩
    have hl:(strOfNums ((r.cnt 10).1.b.take (r.cnt 10).2.toNat)).size=m:=by
     rw [strOfNums_size,fx,h1]
     have:=hc.2;omega
    have e1:cL (strOfNums ((r.cnt 10).1.b.take (r.cnt 10).2.toNat)::xs)=az m++(r.cnt 10).1.b.take (r.cnt 10).2.toNat++cL xs:=by
     unfold cL
     rw [gI,hl,Dk fun c hcc=>hb1 c (xP hcc)]
    rw [e1,h2,jn,jn,<-h5,wL]
   ·have eq:dM (k+1) r ns=(if (r.cnt 10).1.e=0 then⟨(r.cnt 10).1.b,5⟩ else(r.cnt 10).1,ns):=by
     rw [dM,ai (iM he),ai hc]
    rw [eq]at h
    simp only at h
    split at h
    ·cases h
    ·rename_i h1;exact absurd h h1
  ·rw [nT he]at h;exact absurd h he
theorem xe:∀{xs:List ByteArray} {t:List Int} {ns:List ByteArray},(∀s∈xs,s.size<=10)->dM xs.length ⟨cL xs++t,0⟩ ns=(⟨t,0⟩,ns++xs)
 |[],t,ns,_=>by simp [dM,cL]
 |s::xs,t,ns,h=>by
  have hs:=h s bt
  have e1:cL (s::xs)++t=az s.size++(nums s++(cL xs++t)):=by simp [cL]
  have hc:(Rd.mk (cL (s::xs)++t) 0).cnt 10=(⟨nums s++(cL xs++t),0⟩,(s.size:Int)):=by
   rw [e1];exact zP af af
  rw [fR,dM,ai bt,hc,ar ⟨rfl,by simp [nums_length];omega⟩]
  simp only [Int.toNat_natCast]
  have e2:(nums s++(cL xs++t)).drop s.size=cL xs++t:=by
   rw [<-nums_length s];exact List.drop_left
  have e3:(nums s++(cL xs++t)).take s.size=nums s:=by
   rw [<-nums_length s];exact List.take_left
  rw [e2,e3,Lg,xe fun x hx=>h x (by simp [hx])]
  simp
theorem uw:∀{k:Nat} {r:Rd} {ns:List ByteArray},aP r.b->aP (dM k r ns).1.b
 |0,r,ns,h=>h
 |k+1,r,ns,h=>by
  have hb1:=mW (most:=10) h
  unfold dM
  split
  ·exact h
  ·split
   ·exact uw fun c hc=>hb1 c (vg hc)
   ·show aP (if _ then _ else _:Rd).b
    split <;> exact hb1
def gT (l:List aA):Int:=match l.getLast? with|none=>0|some e=>e.key
theorem jc (l:List aA) (x:aA):gT (l++[x])=x.key:=by simp [gT]
def kR (r:Rd) (key:Int):Rd×aA:=
 (r.num.1.num.1.rQ.1.rQ.1.rQ.1.rQ.1,⟨key+r.num.2,⟨r.num.1.num.2,r.num.1.num.1.rQ.2,r.num.1.num.1.rQ.1.rQ.2,r.num.1.num.1.rQ.1.rQ.1.rQ.2,(key+r.num.2)%1048576,r.num.1.num.1.rQ.1.rQ.1.rQ.1.rQ.2⟩⟩)
def jL (l:List aA) (x:aA):Prop:=1099511627776<=x.key\/x.is.c=0\/(l≠[]/\x.key<=gT l)
instance (l:List aA) (x:aA):Decidable (jL l x):=by unfold jL;infer_instance
def qC (r:Rd) (l:List aA):Rd:=if (kR r (gT l)).1.e=0/\jL l (kR r (gT l)).2 then⟨(kR r (gT l)).1.b,7⟩ else(kR r (gT l)).1
def iT:Nat->Rd->List aA->Rd×List aA
 |0,r,l=>(r,l)
 |k+1,r,l=>if r.e≠0 then(r,l)else iT k (qC r l) (l++[(kR r (gT l)).2])
theorem pV {r:Rd} (h:r.e≠0):iT k r l=(r,l):=by
 cases k with
 |zero=>rfl
 |succ k=>unfold iT;rw [ar h]
theorem Qn {r:Rd} (hb:aP r.b) (h:(kR r key).1.e=0):r.e=0/\key<=(kR r key).2.key/\r.b=uR key (kR r key).2++(kR r key).1.b/\(kR r key).2.is.t=(kR r key).2.key%1048576/\0<=(kR r key).2.is.c:=by
 have b1:=fg hb
 have b2:=fg b1
 have b3:aP r.num.1.num.1.rQ.1.b:=fg b2
 have b4:aP r.num.1.num.1.rQ.1.rQ.1.b:=fg b3
 have b5:aP r.num.1.num.1.rQ.1.rQ.1.rQ.1.b:=fg b4
 obtain⟨e6,h6⟩:=BU b5 h
 obtain⟨e5,h5⟩:=BU b4 e6
 obtain⟨e4,h4⟩:=BU b3 e5
 obtain⟨e3,h3⟩:=BU b2 e4
 obtain⟨e2,c,hc,h2,-⟩:=vS b1 e3
 obtain⟨e1,d,hd,h1,-⟩:=vS hb e2
 refine⟨e1,?_,?_,rfl,?_⟩
 ·show key<=key+r.num.2;omega
 ·rw [h1,h2,h3,h4,h5,h6]
  unfold uR
  show _=az (key+r.num.2-key).toNat++az (r.num.1.num.2).toNat++_++_++_++_++_
  have e1:(key+r.num.2-key).toNat=d:=af
  have e2:(r.num.1.num.2).toNat=c:=af
  rw [e1,e2]
  simp only [jn]
  rfl
 ·show 0<=r.num.1.num.2;omega
theorem Ha {r:Rd} (hb:aP r.b):aP (kR r key).1.b:=
 fg (fg (fg (fg (fg (fg hb)))))
theorem G9 {r:Rd} (hb:aP r.b):aP (qC r l).b:=by
 unfold qC;split <;> exact Ha hb
theorem zK (last:Int) (e:aA) (l:List aA):dO last (e::l)=uR last e++dO e.key l:=rfl
def vv (l xs:List aA):Prop:=(∀e∈xs,0<=e.key/\e.key<1099511627776/\0<e.is.c/\e.is.t=e.key%1048576)/\aX xs/\(l≠[]->∀e∈xs,gT l<e.key)
theorem Ey:∀{k:Nat} {r:Rd} {l:List aA},aP r.b->0<=gT l->(iT k r l).1.e=0->r.e=0/\∃xs:List aA,(iT k r l).2=l++xs/\xs.length=k/\r.b=dO (gT l) xs++(iT k r l).1.b/\vv l xs
 |0,r,l,_,_,h=>⟨h,[],by simp [iT],rfl,by simp [iT,dO],fun e he=>(by cases he),List.Pairwise.nil,fun _ e he=>(by cases he)⟩
 |k+1,r,l,hb,hk,h=>by
  by_cases he:r.e=0
  ·refine⟨he,?_⟩
   have eq:iT (k+1) r l=iT k (qC r l) (l++[(kR r (gT l)).2]):=by rw [iT,ai (iM he)]
   rw [eq]at h ⊢
   have hb1:=G9 (l:=l) hb
   by_cases hw:(kR r (gT l)).1.e=0/\jL l (kR r (gT l)).2
   ·have:(qC r l).e≠0:=by unfold qC;rw [ar hw];show (7:Int)≠0;decide
    rw [pV this]at h
    exact absurd h this
   ·have ew:qC r l=(kR r (gT l)).1:=by unfold qC;rw [ai hw]
    by_cases h0:(kR r (gT l)).1.e=0
    ·obtain⟨-,d1,d2,d3,d4⟩:=Qn hb h0
     obtain⟨-,xs,h3,h4,h5,h6⟩:=Ey hb1 (by rw [jc];omega) h
     have hnb:¬jL l (kR r (gT l)).2:=fun hh=>hw ⟨h0,hh⟩
     unfold vv at h6
     rw [jc]at h5 h6
     unfold jL at hnb
     refine⟨(kR r (gT l)).2::xs,by rw [h3];simp,by simp [h4],?_,?_,?_,?_⟩
     ·rw [zK,jn,<-h5,ew];exact d2
     ·intro e P7
      rcases eZ.1 P7 with rfl|P7
      ·exact⟨af,af,af,d3⟩
      ·exact h6.1 e P7
     ·exact rE.2 ⟨fun e P7=>h6.2.2 bt e P7,h6.2.1⟩
     ·intro hl e P7
      have h7:gT l<(kR r (gT l)).2.key:=by
       refine Int.not_le.1 fun hle=>hnb (.inr (.inr ⟨hl,hle⟩))
      rcases eZ.1 P7 with rfl|P7
      ·exact h7
      ·have:=h6.2.2 bt e P7;omega
    ·rw [pV (by rw [ew];exact h0)]at h
     rw [ew]at h
     exact absurd h h0
  ·rw [pV he]at h;exact absurd h he
def Af (e:aA):Prop:=0<=e.key/\e.key<1099511627776/\0<e.is.c/\e.is.c<72057594037927936/\e.is.t=e.key%1048576/\(-18014398509481984<e.is.s/\e.is.s<18014398509481984)/\(-18014398509481984<e.is.mi/\e.is.mi<18014398509481984)/\(-18014398509481984<e.is.ma/\e.is.ma<18014398509481984)/\(-18014398509481984<e.is.l/\e.is.l<18014398509481984)
theorem Kf {e:aA} (h:Af e) (hk:key<=e.key) (h0:0<=key):kR ⟨uR key e++t,0⟩ key=(⟨t,0⟩,e):=by
 obtain⟨k1,k2,c1,c2,ht,s,mi,ma,la⟩:=h
 have e0:uR key e++t=az (e.key-key).toNat++(az e.is.c.toNat++(dz e.is.s++(dz e.is.mi++(dz e.is.ma++(dz e.is.l++t))))):=by
  unfold uR;simp only [jn]
 have n1:=qW (m:=(e.key-key).toNat) (t:=az e.is.c.toNat++(dz e.is.s++(dz e.is.mi++(dz e.is.ma++(dz e.is.l++t))))) af
 have n2:=qW (m:=e.is.c.toNat) (t:=dz e.is.s++(dz e.is.mi++(dz e.is.ma++(dz e.is.l++t)))) af
 have n3:=uj (v:=e.is.s) (t:=dz e.is.mi++(dz e.is.ma++(dz e.is.l++t))) s.1 s.2
 have n4:=uj (v:=e.is.mi) (t:=dz e.is.ma++(dz e.is.l++t)) mi.1 mi.2
 have n5:=uj (v:=e.is.ma) (t:=dz e.is.l++t) ma.1 ma.2
 have n6:=uj (v:=e.is.l) (t:=t) la.1 la.2
 rw [e0]
 unfold kR
 rw [n1]
 simp only
 rw [n2]
 simp only
 rw [n3]
 simp only
 rw [n4]
 simp only
 rw [n5]
 simp only
 rw [n6]
 simp only
 have k3:key+((e.key-key).toNat:Int)=e.key:=af
 have k4:((e.is.c.toNat:Nat):Int)=e.is.c:=af
 rw [k3,k4,<-ht]
theorem zL:∀{xs:List aA} {l:List aA} {t:List Int},0<=gT l->(∀e∈xs,Af e)->aX xs->(∀e∈xs,gT l<=e.key)->(l≠[]->∀e∈xs,gT l<e.key)->iT xs.length ⟨dO (gT l) xs++t,0⟩ l=(⟨t,0⟩,l++xs)
 |[],l,t,_,_,_,_,_=>by simp [iT,dO]
 |e::xs,l,t,h0,hf,hr,hk,hl=>by
  have hc:=rE.1 hr
  have he:=hf e bt
  have eb:kR ⟨dO (gT l) (e::xs)++t,0⟩ (gT l)=(⟨dO e.key xs++t,0⟩,e):=by
   rw [zK,jn]
   exact Kf he (hk e bt) h0
  rw [fR,iT,ai bt]
  have ew:qC ⟨dO (gT l) (e::xs)++t,0⟩ l=⟨dO e.key xs++t,0⟩:=by
   unfold qC
   rw [eb]
   refine ai fun hh=>?_
   have hb:=hh.2
   unfold jL at hb
   simp only at hb
   obtain⟨k1,k2,c1,-⟩:=he
   rcases hb with hb|hb|⟨hb1,hb2⟩
   ·omega
   ·omega
   ·have:=hl hb1 e bt;omega
  rw [ew,eb]
  simp only
  have:=zL (xs:=xs) (l:=l++[e]) (t:=t) (by rw [jc];exact he.1) (fun x hx=>hf x (by simp [hx])) hc.2 (fun x hx=>by rw [jc];exact Int.le_of_lt (hc.1 x hx)) (fun _ x hx=>by rw [jc];exact hc.1 x hx)
  rw [jc]at this
  rw [this]
  simp
def eJ (ns:List ByteArray) (fl:Int) (l:List aA):List Int:=[119,110]++az ns.length++cL ns++az fl.toNat++az l.length++dO 0 l
theorem Bv (b:Ba) (l:List aA):jl b l=eJ b.names b.floor l:=rfl
def cU (b:List Int):Rd×List ByteArray:=dM ((Rd.mk b 0).cnt 16).2.toNat ((Rd.mk b 0).cnt 16).1 []
def rz (b:List Int):Rd×Int:=(cU b).1.num.1.cnt 10000
def fw (b:List Int):Rd×List aA:=iT (rz b).2.toNat (rz b).1 []
def zQ (b:List Int):Rd:=if (fw b).1.e=0/\0<(fw b).1.b.length then⟨(fw b).1.b,4⟩ else(fw b).1
theorem Qp {b:List Int} (hb:aP b) (h:(zQ b).e=0) :
  [119,110]++b=eJ (cU b).2 (cU b).1.num.2 (fw b).2/\(cU b).2.length<=16/\(fw b).2.length<=10000/\vv [] (fw b).2/\0<=(cU b).1.num.2/\(cU b).1.num.2<72057594037927936:=by
 have hnil:(fw b).1.e=0/\(fw b).1.b=[]:=by
  unfold zQ at h
  split at h
  ·cases h
  ·rename_i hn
   refine⟨h,?_⟩
   cases hh:(fw b).1.b with
   |nil=>rfl
   |cons c l=>exact absurd ⟨h,by rw [hh];simp⟩ hn
 have b1:aP ((Rd.mk b 0).cnt 16).1.b:=mW hb
 have b2:aP (cU b).1.b:=uw b1
 have b3:aP (cU b).1.num.1.b:=fg b2
 have b4:aP (rz b).1.b:=mW b3
 obtain⟨e4,xs,h41,h42,h43,h44⟩:=Ey (l:=[]) b4 (Int.le_refl _) hnil.1
 obtain⟨e3,c,h31,h32,h33⟩:=Hg b3 e4
 obtain⟨e2,f,h21,h22,h23⟩:=vS b2 e3
 obtain⟨e1,ys,h11,h12,h13⟩:=Bf b1 e2
 obtain⟨-,n,h01,h02,h03⟩:=Hg (r:=Rd.mk b 0) hb e1
 have g1:(cU b).2=ys:=by have:(cU b).2=[]++ys:=h11;simpa using this
 have g2:(fw b).2=xs:=by have:(fw b).2=[]++xs:=h41;simpa using this
 have g3:ys.length=n:=by rw [h12,h01];simp
 have g4:xs.length=c:=by rw [h42];show (rz b).2.toNat=c;rw [show (rz b).2=(c:Int)from h31];simp
 refine⟨?_,by rw [g1];omega,by rw [g2];omega,by rw [g2];exact h44,af,af⟩
 rw [g1,g2]
 unfold eJ
 have hf:((cU b).1.num.2).toNat=f:=af
 rw [hf,g3,g4]
 have q0:b=az n++((Rd.mk b 0).cnt 16).1.b:=h02
 have q1:((Rd.mk b 0).cnt 16).1.b=cL ys++(cU b).1.b:=h13
 have q2:(cU b).1.num.1.b=az c++(rz b).1.b:=h32
 have q3:(rz b).1.b=dO 0 xs++(fw b).1.b:=h43
 have q:b=az n++(cL ys++(az f++(az c++(dO 0 xs++[])))):=by
  rw [<-hnil.2,<-q3,<-q2,<-h22,<-q1];exact q0
 refine(congrArg (fun x=>[119,110]++x) q).trans ?_
 simp only [jn,pq]
theorem Kr {fl:Int} (t:List Int) (h1:ns.length<=16) (h2:∀s∈ns,s.size<=10) (h3:0<=fl) (h4:fl<72057594037927936) (h5:l.length<=10000) (h6:∀e∈l,Af e) (h7:aX l) {b:List Int} (hb:[119,110]++b=eJ ns fl l++t) :
  (cU b).2=ns/\(cU b).1.num.2=fl/\(fw b).2=l/\(fw b).1=⟨t,0⟩:=by
 have hb':b=az ns.length++(cL ns++(az fl.toNat++(az l.length++(dO 0 l++t)))):=by
  unfold eJ at hb
  simp only [jn,List.cons_append,List.nil_append,List.cons.injEq,true_and]at hb
  exact hb
 subst hb'
 have q1:=zP (m:=ns.length) (t:=cL ns++(az fl.toNat++(az l.length++(dO 0 l++t)))) (most:=16) af af
 have q2:=xe (xs:=ns) (t:=az fl.toNat++(az l.length++(dO 0 l++t))) (ns:=[]) h2
 have g1:cU (az ns.length++(cL ns++(az fl.toNat++(az l.length++(dO 0 l++t)))))=(⟨az fl.toNat++(az l.length++(dO 0 l++t)),0⟩,ns):=by
  unfold cU
  rw [q1]
  simp only [Int.toNat_natCast]
  rw [q2];simp
 have q3:=qW (m:=fl.toNat) (t:=az l.length++(dO 0 l++t)) af
 have q4:=zP (m:=l.length) (t:=dO 0 l++t) (most:=10000) af af
 have g2:rz (az ns.length++(cL ns++(az fl.toNat++(az l.length++(dO 0 l++t)))))=(⟨dO 0 l++t,0⟩,(l.length:Int)):=by
  unfold rz
  rw [g1]
  simp only
  rw [q3]
  simp only
  rw [q4]
 have q5:=zL (xs:=l) (l:=[]) (t:=t) (Int.le_refl _) h6 h7 (fun e he=>(h6 e he).1) (fun h=>absurd rfl h)
 have g3:fw (az ns.length++(cL ns++(az fl.toNat++(az l.length++(dO 0 l++t)))))=(⟨t,0⟩,l):=by
  unfold fw
  rw [g2]
  simp only [Int.toNat_natCast]
  have:dO (gT []) l=dO 0 l:=rfl
  rw [this]at q5
  rw [q5];simp
 refine⟨by rw [g1],?_,by rw [g3],by rw [g3]⟩
 rw [g1]
 simp only
 rw [q3]
 simp only
 omega
end
def bu (bs:List Int):List Int:=(bs.take (bs.length-4)).drop 2
def sy (bs:List Int):Int:=
 if 200000<bs.length then 1 else if bs.length<6 then 5 else if bs.take 2≠[119,110]then 4 else if ki (bs.take (bs.length-4))≠bs.drop (bs.length-4)then 9 else(zQ (bu bs)).e
theorem tL {bs:List Int} (h:aP bs):aP (bu bs):=fun c hc=>h c (xP (vg hc))
theorem I4 {bs:List Int} (h6:¬bs.length<6) (h2:bs.take 2=[119,110]):[119,110]++bu bs=bs.take (bs.length-4):=by
 unfold bu
 have e:(bs.take (bs.length-4)).take 2=[119,110]:=by
  rw [List.take_take,Nat.min_eq_left af];exact h2
 rw [<-e]
 exact wL 2 _
theorem Uf {bs:List Int} (hb:aP bs) (h:sy bs=0) :
  bs=eJ (cU (bu bs)).2 (cU (bu bs)).1.num.2 (fw (bu bs)).2++ki (eJ (cU (bu bs)).2 (cU (bu bs)).1.num.2 (fw (bu bs)).2) /\
  (cU (bu bs)).2.length<=16/\(fw (bu bs)).2.length<=10000/\vv [] (fw (bu bs)).2/\0<=(cU (bu bs)).1.num.2/\(cU (bu bs)).1.num.2<72057594037927936/\bs.length<=200000:=by
 unfold sy at h
 split at h
 ·cases h
 rename_i h1
 split at h
 ·cases h
 rename_i h2
 split at h
 ·cases h
 rename_i h3
 split at h
 ·cases h
 rename_i h4
 have h3:bs.take 2=[119,110]:=Decidable.not_not.1 h3
 have h4:ki (bs.take (bs.length-4))=bs.drop (bs.length-4):=Decidable.not_not.1 h4
 obtain⟨g1,g2,g3,g4,g5,g6⟩:=Qp (tL hb) h
 refine⟨?_,g2,g3,g4,g5,g6,af⟩
 rw [<-g1,I4 h2 h3,h4]
 exact(wL _ _).symm
theorem C3 (b:List Int):(ki b).length=4:=rfl
theorem Hl (ns:List ByteArray) (fl:Int) (l:List aA):5<=(eJ ns fl l).length:=by
 have h1:=sZ ns.length
 have h2:=sZ fl.toNat
 have h3:=sZ l.length
 unfold eJ
 simp only [eO,fR,List.length_nil]
 omega
theorem Hk (ns:List ByteArray) (fl:Int) (l:List aA) (t:List Int):(eJ ns fl l++t).take 2=[119,110]:=rfl
section
variable {ns:List ByteArray} {fl:Int} {l:List aA}
theorem Nv (h1:ns.length<=16) (h2:∀s∈ns,s.size<=10) (h3:0<=fl) (h4:fl<72057594037927936) (h5:l.length<=10000) (h6:∀e∈l,Af e) (h7:aX l)
  {bs:List Int} (hbs:bs=eJ ns fl l++ki (eJ ns fl l)) (hl:bs.length<=200000) :
  sy bs=0/\(cU (bu bs)).2=ns/\(cU (bu bs)).1.num.2=fl/\(fw (bu bs)).2=l:=by
 have hlen:bs.length=(eJ ns fl l).length+4:=by rw [hbs,eO,C3]
 have CP:=Hl ns fl l
 have ht:bs.take (bs.length-4)=eJ ns fl l:=by
  rw [hlen,Nat.add_sub_cancel,hbs];exact List.take_left
 have hd:bs.drop (bs.length-4)=ki (eJ ns fl l):=by
  rw [hlen,Nat.add_sub_cancel];rw (config:={occs:= .pos [1]}) [hbs];exact List.drop_left
 have h2':bs.take 2=[119,110]:=by rw [hbs];exact Hk ns fl l _
 have yj:=I4 (bs:=bs) af h2'
 rw [ht]at yj
 obtain⟨g1,g2,g3,g4⟩:=Kr [] h1 h2 h3 h4 h5 h6 h7 (b:=bu bs) (by rw [pq];exact yj)
 refine⟨?_,g1,g2,g3⟩
 unfold sy
 rw [ai af,ai af,ai (iM h2'),ai (iM (by rw [ht,hd]))]
 unfold zQ
 rw [g4]
 rfl
end
open Go.RowKit
section
set_option maxRecDepth 100000
variable {e:Int} {xs:List Int} {rb b off cap m:Nat} {r:Rd} {w w':World}
structure fP (w:World) (rb:Nat) (v:Value) (r:Rd):Prop where
 box:w.heap[rb]?=some (.cells #[v, .int .i64 r.e] 142)
 sl:fF w v r.b
 ok:aP r.b
 form:∃b o c,v = .slice (some ⟨b,o,none⟩) r.b.length c/\b<rb
theorem fP.low {v:Value} (h:fP w rb v r):∀a n c,v = .slice (some a) n c->a.block<rb:=by
 obtain⟨b,o,c,rfl,hb⟩:=h.form
 intro a n c e
 injection e with e
 injection e with e
 subst e
 exact hb
theorem fP.lt {v:Value} (h:fP w rb v r):rb<w.heap.size:=(eP.1 h.box).1
abbrev gU (rb:Nat) (w w':World):Prop:=aw (fun b=>b=rb) w w'
theorem VO {v:Value} {k:Nat} (J4:w.heap[rb]?=some (.cells #[v, .int .i64 e] 142)) (hv:∃ao n c,v = .slice ao n c) (hk:k<xs.length)
  (h:∀i x,xs[i]?=some x->∀j u,(xt x)[j]?=some u->w.cell? ⟨b,off+i*1+j,none⟩=some u):b≠rb:=by
 rintro rfl
 have h0:=l9 h hk
 obtain⟨ao,n,c,rfl⟩:=hv
 simp only [World.cell?,J4]at h0
 obtain⟨q,hq⟩:=bC (off+k)
 rw [hq]at h0
 match q with
 |0=>simp at h0
 |1=>simp at h0
 |q+2=>simp at h0
theorem Iq {v:Value} (J4:w.heap[rb]?=some (.cells #[v, .int .i64 e] 142)) (hs:fF w v xs) (hT:gU rb w w'):fF w' v xs:=by
 obtain⟨ao,cap,rfl,h1,h2,h3,h4,h5⟩:=hs
 refine⟨ao,cap,rfl,h1,h2,h3,h4,fun h0=>?_⟩
 obtain⟨b,off,rfl,hb,hc⟩:=h5 h0
 have hne:=VO J4 ⟨_,_,_,rfl⟩ h0 hc
 exact⟨b,off,rfl,mR hb hT.size,fun i x hx j u hu=>(hT.cell hb hne _).trans (hc i x hx j u hu)⟩
theorem BS (h:fF w (.slice (some ⟨b,off,none⟩) xs.length cap) xs) (hm:m<=xs.length) (o:Nat) (ho:m<cap->o=off+m):fF w (.slice (some ⟨b,o,none⟩) (xs.length-m) (cap-m)) (xs.drop m):=by
 obtain⟨ao,cap',hv,h1,h2,h3,h4,h5⟩:=h
 injection hv with hv1 _ hv3
 subst hv3
 refine⟨_,_,by rw [oF],by rw [oF];omega,af,by rw [oF];omega,bt,fun h0=>?_⟩
 rw [oF]at h0
 obtain rfl:=ho af
 obtain⟨b',Z9,hb,hlt,hc⟩:=h5 af
 rw [<-hv1]at hb
 injection hb with hb;injection hb with e1 e2
 subst e1 e2
 refine⟨b,off+m,rfl,hlt,fun k x hk j u hu=>?_⟩
 rw [List.getElem?_drop]at hk
 have:=hc (m+k) x hk j u hu
 rw [<-this];congr 2;omega
theorem xW {ao:Option Addr} (h:fF w (.slice ao xs.length cap) xs) (hm:m<=xs.length):fF w (.slice ao m cap) (xs.take m):=by
 obtain⟨ao',cap',hv,h1,h2,h3,h4,h5⟩:=h
 injection hv with hv1 _ hv3
 subst hv3 hv1
 refine⟨_,_,by rw [fx,Nat.min_eq_left hm],by rw [fx,Nat.min_eq_left hm];omega,af,by rw [fx,Nat.min_eq_left hm];omega,h4,fun h0=>?_⟩
 rw [fx,Nat.min_eq_left hm]at h0
 obtain⟨b,off,rfl,hlt,hc⟩:=h5 af
 refine⟨b,off,rfl,hlt,fun k x hk j u hu=>hc k x ?_ j u hu⟩
 rw [qE]at hk
 split at hk
 ·exact hk
 ·cases hk
theorem fP.cells {v:Value} (h:fP w rb v r):w.cell? ⟨rb,0,none⟩=some v/\w.cell? ⟨rb,1,none⟩=some (.int .i64 r.e)/\∀o,w.frozen? ⟨rb,o,none⟩=false:=by
 have h1:=h.box
 simp [World.cell?,World.frozen?,h1]
theorem fP.turn {v:Value} (h:fP w rb v r) (hT:gU rb w w') (hb:w'.heap[rb]?=w.heap[rb]?):fP w' rb v r:=⟨hb.trans h.box,Iq h.box h.sl hT,h.ok,h.form⟩
theorem fP.Sq {v:Value} (hs:fF w v xs) (qB:∀a n c,v = .slice (some a) n c->a.block<rb) (hb:Below (rb+1) w w') (_hr:rb<w.heap.size):fF w' v xs:=by
 obtain⟨ao,cap,rfl,h1,h2,h3,h4,h5⟩:=hs
 refine⟨ao,cap,rfl,h1,h2,h3,h4,fun h0=>?_⟩
 obtain⟨b,off,rfl,hb1,hc⟩:=h5 h0
 have hl:=qB _ _ _ rfl
 simp only at hl
 exact⟨b,off,rfl,mR hb1 hb.size,fun i x hx j u hu=>(hb.cell (p:=⟨b,off+i*1+j,none⟩) (by show b<rb+1;omega)).trans (hc i x hx j u hu)⟩
theorem fP.later {v:Value} (h:fP w rb v r) (hb:Below (rb+1) w w'):fP w' rb v r:=
 ⟨(hb.block _ (Nat.lt_succ_self _)).trans h.box,fP.Sq h.sl h.low hb h.lt,h.ok,h.form⟩
theorem fP.ZW {v:Value} (h:fP w rb v r) (e:Int):gU rb w (w.setCell ⟨rb,1,none⟩ (.int .i64 e))/\fP (w.setCell ⟨rb,1,none⟩ (.int .i64 e)) rb v ⟨r.b,e⟩:=by
 have hT:gU rb w (w.setCell ⟨rb,1,none⟩ (.int .i64 e)):=aw.setCell (X:=fun b=>b=rb) (aw.refl _ w) (.inl (show rb=rb from rfl)) _
 exact⟨hT,heap_setCell_same h.box,Iq h.box h.sl hT,h.ok,h.form⟩
theorem fP.qQ {v v':Value} {b:List Int} (h:fP w rb v r) (hs:fF w v' b) (hform:∃bk o c,v' = .slice (some ⟨bk,o,none⟩) b.length c/\bk<rb) (hb:aP b):gU rb w (w.setCell ⟨rb,0,none⟩ v')/\fP (w.setCell ⟨rb,0,none⟩ v') rb v' ⟨b,r.e⟩:=by
 have hT:gU rb w (w.setCell ⟨rb,0,none⟩ v'):=aw.setCell (X:=fun b=>b=rb) (aw.refl _ w) (.inl (show rb=rb from rfl)) _
 refine⟨hT,heap_setCell_same h.box,?_,hb,hform⟩
 ·obtain⟨ao,cap,rfl,h1,h2,h3,h4,h5⟩:=hs
  refine⟨ao,cap,rfl,h1,h2,h3,h4,fun h0=>?_⟩
  obtain⟨b,off,rfl,hb,hc⟩:=h5 h0
  exact⟨b,off,rfl,mR hb hT.size,fun i x hx j u hu=>(hT.cell hb (by obtain⟨b',o',c',e,hlt⟩:=hform;injection e with e;injection e with e;injection e with e;subst e;exact Nat.ne_of_lt hlt) _).trans (hc i x hx j u hu)⟩
theorem mU {v:Value} (h:fP w rb v r):Calls Tryz.prog 84 #[.pointer (some ⟨rb,0,none⟩), .int .i64 e] w fun x w'=>x = .returned (.tuple #[])/\gU rb w w'/\fP w' rb v (r.wrong e):=by
 obtain⟨c0,c1,cf⟩:=h.cells
 have HS:=hdd (h.ZW e)
 have HR:=hdd h
 by_cases he:r.e=0
 ·have HW:=hdd (show r.wrong e=⟨r.b,e⟩ by unfold Rd.wrong;rw [ar he])
  rw [he]at c1
  clear h he
  go_enter Tryz.func84,Tryz.ntmps84
  go_wp2_with fail
  go_end0
  exact⟨rfl,HS.out.1,by rw [HW.out];exact HS.out.2⟩
 ·have HW:=hdd (show r.wrong e=r by unfold Rd.wrong;rw [ai he])
  have hd:(r.e == 0)=false:=by simpa using he
  clear h he
  go_enter Tryz.func84,Tryz.ntmps84
  go_wp2_with fail
  go_end0
  exact⟨rfl,aw.refl _ _,by rw [HW.out];exact HR.out⟩
end
section
set_option maxRecDepth 100000
set_option maxHeartbeats 4000000
variable {n c:Int} {b:List Int} {i:Nat} {r:Rd}
theorem F3 (h:r.e=0) {e v:Int} (hn:jH 0 0 r.b=(b,e,v)):r.num=(⟨b,e⟩,v):=by unfold Rd.num;rw [ar h,hn]
theorem LY (i:Nat) (n:Int):jH i n []=([],5,0):=by unfold jH;rfl
theorem L3 (h:i=8\/(0<i/\c=0)):jH i n (c::b)=(b,4,0):=by unfold jH;rw [ar h]
theorem LZ (h:¬(i=8\/(0<i/\c=0))) (hc:c<128):jH i n (c::b)=(b,0,n+c*128 ^ i):=by unfold jH;rw [ai h,ar hc]
theorem Pw (h:¬(i=8\/(0<i/\c=0))) (hc:¬c<128):jH i n (c::b)=jH (i+1) (n+c%128*128 ^ i) b:=by
 rw [jH,ai h,ai hc]
theorem oP {w:World} {rb:Nat} {v:Value} (h:fP w rb v r):Calls Tryz.prog 85 #[.pointer (some ⟨rb,0,none⟩)] w fun x w'=>x = .returned (.int .i64 r.num.2)/\gU rb w w'/\∃v',fP w' rb v' r.num.1:=by
 have HR:=hdd h
 by_cases he:r.e=0
 ·go_enter Tryz.func85,Tryz.ntmps85
  go_wp2_with fail
  go_loopg [3,4] 9 (fun g nv iv wr=>∃(k:Nat) (n:Int) (v:Value) (b:List Int),k<=8/\g=9-k/\iv = .int .i64 k/\nv = .int .i64 n/\Hid (0<=n/\n<128 ^ k)/\Hid (gU rb w wr/\fP wr rb v ⟨b,0⟩/\jH 0 0 r.b=jH k n b))
  case atStart=>exact⟨0,0,v,r.b,af,rfl,rfl,rfl,hdd aY,hdd ⟨aw.refl _ _,(by have:=HR.out;obtain⟨rb',re⟩:=r;simp only at he;subst he;exact this),rfl⟩⟩
  case round=>
   clear h
   obtain⟨k,n,v1,b,hk,rfl,rfl,rfl,HN,HA⟩:=hrel
   obtain⟨ao,cap,rfl,s1,s2,s3,s4,s5⟩:=HA.out.2.1.sl
   obtain⟨c0,c1,cf⟩:wr.cell? ⟨rb,0,none⟩=some (.slice ao b.length cap)/\wr.cell? ⟨rb,1,none⟩=some (.int .i64 0)/\∀o,wr.frozen? ⟨rb,o,none⟩=false:=HA.out.2.1.cells
   rcases b with _|⟨c,b⟩
   ·have HW:=hdd (mU (e:=5) HA.out.2.1)
    have HG:=hdd (F3 he (HA.out.2.2.trans (LY k n)))
    have hT0:=hdd HA.out.1
    clear HA HN HR s5 he
    have hl:([]:List Int).length=0:=rfl
    rw [hl]at c0 HW
    go_wp2_with (go_at_call 84;(with_reducible refine HW.out.mono ?_);rintro e w1 ⟨rfl,hT,hR⟩)
    go_ret
    exact⟨by rw [HG.out];rfl,hT0.out.trans hT,_,by rw [HG.out];exact hR⟩
   ·obtain⟨ab,bp,rfl,xD,ac⟩:=s5 bt
    have e0:=l9 (k:=0) ac bt
    simp only [Nat.add_zero,List.getElem_cons_zero]at e0
    have hcb:=HA.out.2.1.ok c bt
    have lA:=fun w'=>mV (ab:=ab) (bp:=bp) (n:=(c::b).length) (cap:=cap) (show (0:Int)=((0:Nat):Int) by rfl) bt w'
    have hlen:(c::b).length=b.length+1:=bt
    rw [hlen]at c0 s1 lA
    have hl0:¬((b.length:Int)+1=0):=af
    obtain⟨o,eo,ho⟩:∃o,(if cap=1 then some (⟨ab,bp,none⟩:Addr)else some ⟨ab,bp+1,none⟩)=some ⟨ab,o,none⟩/\(1<cap->o=bp+1):=by
     by_cases h1:cap=1
     ·exact⟨bp,ar h1,fun h=>af⟩
     ·exact⟨bp+1,ai h1,fun _=>rfl⟩
    have hne:ab<rb:=HA.out.2.1.low _ _ _ rfl
    have hsl:fF wr (.slice (some ⟨ab,o,none⟩) b.length (cap-1)) b:=by
     have:=BS (m:=1) (by have:=HA.out.2.1.sl;exact this) bt o ho
     rw [hlen]at this
     exact this
    have HB:=hdd (HA.out.2.1.qQ hsl ⟨_,_,_,rfl,hne⟩ (fun x hx=>HA.out.2.1.ok x (by simp [hx])))
    clear ac s5 hne hsl ho
    go_upto_region 9 with (fail)
    obtain⟨W8,mO⟩:=bR (wr.setCell ⟨rb,0,none⟩ (.slice (some ⟨ab,o,none⟩) b.length (cap-1)))
    rw [<-mO]at HB ⊢
    obtain⟨d0,d1,df⟩:W8.cell? ⟨rb,0,none⟩=some (.slice (some ⟨ab,o,none⟩) b.length (cap-1))/\W8.cell? ⟨rb,1,none⟩=some (.int .i64 0)/\∀o,W8.frozen? ⟨rb,o,none⟩=false:=HB.out.2.cells
    have HL:=hdd HA.out.2.2
    have HT:=hdd (HA.out.1.trans HB.out.1)
    have HB:=hdd HB.out.2
    have HE:=hdd he
    clear mO HA c0 c1 cf s1 s2 s3 s4 lA eo e0 xD hlen hl0 he HR
    by_cases hbad:k=8\/(0<k/\c=0)
    ·have HG:=hdd (F3 HE.out (HL.out.trans (L3 hbad)))
     have HW:=hdd (mU (e:=4) HB.out)
     clear HL HN HB HE
     by_cases h8:k=8
     ·subst h8
      clear hbad
      go_wp2_with (go_at_call 84;(with_reducible refine HW.out.mono ?_);rintro e w1 ⟨rfl,hT,hR⟩)
      go_ret
      exact⟨by rw [HG.out];rfl,HT.out.trans hT,_,by rw [HG.out];exact hR⟩
     ·have hc0:c=0:=af
      have e8:((k:Int) == 8)=false:=by simp;omega
      have ek:(0:Int)<(k:Int):=af
      subst hc0
      clear hbad h8
      go_wp2_with (go_at_call 84;(with_reducible refine HW.out.mono ?_);rintro e w1 ⟨rfl,hT,hR⟩)
      go_ret
      exact⟨by rw [HG.out];rfl,HT.out.trans hT,_,by rw [HG.out];exact hR⟩
    ·have h8:k<8:=af
     have e8:((k:Int) == 8)=false:=by simp;omega
     have hand:=i64_and127 c
     have hpk:(128:Int) ^ k=2 ^ (7*k):=by rw [Int.pow_mul];rfl
     have hp0:(0:Int)<2 ^ (7*k):=Int.pow_pos aY
     have hp1:(2:Int) ^ (7*k)<=562949953421312:=by
      have h1:(2:Nat) ^ (7*k)<=2 ^ 49:=Nat.pow_le_pow_right aY af
      have h2:((2 ^ (7*k):Nat):Int)<=((2 ^ 49:Nat):Int):=Int.ofNat_le.2 h1
      simpa using h2
     have hm0:0<=c%128*2 ^ (7*k):=Int.mul_nonneg af af
     have GC:c%128*2 ^ (7*k)<=127*562949953421312:=Int.mul_le_mul af hp1 af aY
     have hsh:wrap64 (c%128*2 ^ (7*k))=c%128*2 ^ (7*k):=IntWalk.wrap64_in _ af
     have hor:bits .or .i64 n (c%128*2 ^ (7*k))=n+c%128*128 ^ k:=by
      have hn:=HN.out
      rw [hpk]at hn ⊢
      rw [bits_join_low .i64 63 aY (fun n h0 h1=>IntWalk.i64_in _ af) (7*k) n (c%128*2 ^ (7*k)) hn.1 hn.2 af hm0 (Int.mul_emod_left _ _) af]
     have HR:=hdd (show 0<=n+c%128*128 ^ k/\n+c%128*128 ^ k<128 ^ (k+1) by
      have hn:=HN.out
      rw [Int.pow_succ,hpk]at *
      have:=Int.mul_le_mul_of_nonneg_right (show c%128<=127 by omega) (Int.le_of_lt hp0)
      omega)
     have hq:¬(0<(k:Int)/\c=0):=af
     clear hpk hp0 hp1 hm0 GC HN
     obtain⟨N,hN⟩:=bC (n+c%128*128 ^ k)
     rw [hN]at hor HR
     by_cases hc:c<128
     ·have HG:=hdd (F3 HE.out (HL.out.trans (LZ hbad hc)))
      have hcc:c*128 ^ k=c%128*128 ^ k:=by congr 1;omega
      rw [hcc,hN]at HG
      clear hcc hN HL HE
      by_cases ie:(0:Int)<(k:Int)
      ·have hc0:(c == 0)=false:=by simp;omega
       clear hbad hq
       go_wp2_with fail
       go_ret
       exact⟨by rw [HG.out];rfl,HT.out,_,by rw [HG.out];exact HB.out⟩
      ·obtain rfl:k=0:=af
       have hk1:((0:Nat):Int)=0:=rfl
       have aaJ:bits .or .i64 n (c%128)=N:=by simpa using hor
       rw [hk1]at e8 ⊢
       clear hbad hq ie hk1 e8
       go_wp2_with fail
       go_ret
       exact⟨by rw [HG.out];rfl,HT.out,_,by rw [HG.out];exact HB.out⟩
     ·have HL:=hdd (HL.out.trans (Pw hbad hc))
      rw [hN]at HL
      have hc1:decide (c<128)=false:=tO hc
      clear hN HE
      by_cases ie:(0:Int)<(k:Int)
      ·have hc0:(c == 0)=false:=by simp;omega
       clear hbad hq hc
       go_wp2_with fail
       go_roundg (9-(k+1))
       case measure=>omega
       case rel=>exact⟨k+1,N,_,b,af,rfl,by go_num,rfl,HR,hdd ⟨HT.out,HB.out,HL.out⟩⟩
      ·obtain rfl:k=0:=af
       have hk1:((0:Nat):Int)=0:=rfl
       have aaJ:bits .or .i64 n (c%128)=N:=by simpa using hor
       rw [hk1]at e8 ⊢
       clear hbad hq ie hc hk1 e8
       go_wp2_with fail
       go_roundg (9-(0+1))
       case measure=>omega
       case rel=>exact⟨0+1,N,_,b,af,rfl,by go_num,rfl,HR,hdd ⟨HT.out,HB.out,HL.out⟩⟩
 ·have HG:=hdd (Dl he)
  obtain⟨c0,c1,cf⟩:=h.cells
  have hd:(r.e == 0)=false:=by simpa using he
  clear h he
  go_enter Tryz.func85,Tryz.ntmps85
  go_wp2_with fail
  go_loopg [3,4] 1 (fun g nv iv wr=>g=1/\iv = .int .i64 0/\nv = .int .i64 0/\wr=w)
  case atStart=>exact⟨rfl,rfl,rfl,rfl⟩
  case round=>
   obtain⟨rfl,rfl,rfl,hwr⟩:=hrel
   obtain rfl:=hwr.symm
   go_wp2_with fail
   go_ret
   exact⟨by rw [HG.out];rfl,aw.refl _ _,_,by rw [HG.out];exact HR.out⟩
end
section
set_option maxRecDepth 100000
variable {rb:Nat} {r:Rd} {w:World}
theorem Mp (n:Int):bits .and .i64 n 1=n%2:=by
 have h1:(BitVec.ofInt 64 1).toNat=2 ^ 1-1:=aY
 have key:(BitVec.ofInt 64 n &&& BitVec.ofInt 64 1).toNat=(n%((2 ^ 64:Nat):Int)).toNat%2 ^ 1:=by
  rw [BitVec.toNat_and,BitVec.toNat_ofInt,h1,Nat.and_two_pow_sub_one_eq_mod]
 show IntKind.i64.wrap ((BitVec.ofInt 64 n &&& BitVec.ofInt 64 1).toNat:Nat)=n%2
 rw [key,IntKind.wrap_i64]
 omega
theorem rP {v:Value} (h:fP w rb v r):Calls Tryz.prog 86 #[.pointer (some ⟨rb,0,none⟩)] w fun x w'=>x = .returned (.int .i64 r.rQ.2)/\gU rb w w'/\∃v',fP w' rb v' r.rQ.1:=by
 have HN:=hdd (oP h)
 have hr:=rV h.ok
 have Aa:=hdd (show r.rQ.1=r.num.1 from rfl)
 have X6:=hdd (show r.rQ.2=uk r.num.2 from rfl)
 obtain⟨n,hn⟩:=bC (r.num.2)
 rw [hn]at HN hr X6
 have ha:=Mp n
 clear h hn
 by_cases ho:n%2=1
 ·have HV:=hdd (show (-(n+1)).tdiv 2=uk n by
   unfold uk
   rw [ar ho,Int.neg_tdiv,AO af])
  have hw1:IntKind.i64.wrap (n+1)=n+1:=IntWalk.i64_in _ af
  have hw2:IntKind.i64.wrap (-(n+1)) = -(n+1):=IntWalk.i64_in _ af
  obtain⟨V,hV⟩:=bC ((-(n+1)).tdiv 2)
  have hw3:IntKind.i64.wrap V=V:=by rw [<-hV,HV.out];unfold uk;rw [ar ho];exact IntWalk.i64_in _ af
  rw [hV]at HV
  rw [ho]at ha
  clear ho
  go_enter Tryz.func86,Tryz.ntmps86
  go_wp2_with (go_at_call 85;(with_reducible refine HN.out.mono ?_);rintro e w1 ⟨rfl,hT,v1,hR⟩)
  go_ret
  exact⟨ia (by rw [X6.out,<-HV.out]),hT,v1,by rw [Aa.out];exact hR⟩
 ·have hev:(n%2 == 1)=false:=by simpa using ho
  have HV:=hdd (show n.tdiv 2=uk n by
   unfold uk
   rw [ai ho,AO af])
  obtain⟨V,hV⟩:=bC (n.tdiv 2)
  have hw3:IntKind.i64.wrap V=V:=by rw [<-hV,HV.out];unfold uk;rw [ai ho];exact IntWalk.i64_in _ af
  rw [hV]at HV
  clear ho
  go_enter Tryz.func86,Tryz.ntmps86
  go_wp2_with (go_at_call 85;(with_reducible refine HN.out.mono ?_);rintro e w1 ⟨rfl,hT,v1,hR⟩)
  go_ret
  exact⟨ia (by rw [X6.out,<-HV.out]),hT,v1,by rw [Aa.out];exact hR⟩
theorem zO {v:Value} {most:Int} (h:fP w rb v r):Calls Tryz.prog 83 #[.pointer (some ⟨rb,0,none⟩), .int .i64 most] w fun x w'=>x = .returned (.int .i64 (r.cnt most).2)/\gU rb w w'/\∃v',fP w' rb v' (r.cnt most).1:=by
 have HN:=hdd (oP h)
 by_cases hm:most<r.num.2
 ·have HC:=hdd (show r.cnt most=(r.num.1.wrong 1,0)from ar hm)
  obtain⟨n,hn⟩:=bC (r.num.2)
  rw [hn]at HN hm
  clear h hn
  go_enter Tryz.func83,Tryz.ntmps83
  go_wp2_with (first|(go_at_call 85;(with_reducible refine HN.out.mono ?_);rintro e w1 ⟨rfl,hT,v1,hR⟩)|(go_at_call 84;(with_reducible refine(mU hR).mono ?_);rintro e w2 ⟨rfl,hT2,hR2⟩))
  go_ret
  exact⟨ia (by rw [HC.out]),hT.trans hT2,v1,by rw [HC.out];exact hR2⟩
 ·have HC:=hdd (show r.cnt most=r.num from ai hm)
  have hd:decide (most<r.num.2)=false:=tO hm
  obtain⟨n,hn⟩:=bC (r.num.2)
  have Od:=hdd hn
  rw [hn]at HN hd
  clear h hn hm
  go_enter Tryz.func83,Tryz.ntmps83
  go_wp2_with (go_at_call 85;(with_reducible refine HN.out.mono ?_);rintro e w1 ⟨rfl,hT,v1,hR⟩)
  go_ret
  exact⟨ia (by rw [HC.out,Od.out]),hT,v1,by rw [HC.out];exact hR⟩
end
end Go.Proofs.YtmljjfhgciaceaaGreatDoor
