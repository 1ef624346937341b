/- Lemmas of the proof. -/
import Derived.Test.YtmljjfhgciaceaaGreatDoorHd
import Derived.Test.YtmljjfhgciaceaaGreatDoorCz
import Derived.Test.YtmljjfhgciaceaaGreatDoorBG
import Derived.Laws.BytesArg
import Derived.Test.YtmljjfhgciaceaaGreatDoorKG
set_option maxRecDepth 100000
set_option maxHeartbeats 4000000
namespace Go.Proofs.YtmljjfhgciaceaaGreatDoor
open Go.RowKit
section
variable {most key:Int} {ns:List ByteArray} {l:List aH} {t:List Int} {m:Nat}
def lF:Nat->Int->List Int->List Int×Int×Int
 |_,_,[]=>([],5,0)
 |i,n,c::r=>if i=8\/(0<i/\c=0) then(r,4,0)else if c<128 then(r,0,n+c*128 ^ i)else lF (i+1) (n+(c%128)*128 ^ i) r
theorem H8:∀{b:List Int} {i:Nat} {n:Int} {r:List Int} {e v:Int},lF i n b=(r,e,v)->e≠0->v=0/\(e=4\/e=5)
 |[],i,n,r,e,v,h,he=>by
  unfold lF at h;simp only [kC]at h;omega
 |c::b,i,n,r,e,v,h,he=>by
  unfold lF at h
  split at h
  ·simp only [kC]at h;omega
  ·split at h
   ·simp only [kC]at h;omega
   ·exact H8 h he
theorem Nj:∀{b:List Int} {i:Nat} {n:Int} {r:List Int} {v:Int},(∀c∈b,0<=c/\c<=255)->i<=8->lF i n b=(r,0,v) ->
  ∃m:Nat,v=n+m*128 ^ i/\b=aN m++r/\(0<i->0<m)/\m<128 ^ (8-i)
 |[],i,n,r,v,hb,hi,h=>by
  unfold lF at h;simp only [kC]at h;omega
 |c::b,i,n,r,v,hb,hi,h=>by
  have hc:=hb c bh;unfold lF at h
  split at h
  ·simp only [kC]at h;omega
  ·rename_i h1
   have hi8:i<8:=ai;have Vd:(128:Nat) ^ (8-i)=128*128 ^ (8-(i+1)):=by
    have:8-i=(8-(i+1))+1:=ai;rw [this,Nat.pow_succ,Nat.mul_comm]
   have hpos:0<(128:Nat) ^ (8-(i+1)):=Nat.pow_pos bY
   split at h
   ·rename_i h2
    simp only [kC]at h;obtain⟨rfl,-,rfl⟩:=h;refine⟨c.toNat,by rw [Int.toNat_of_nonneg hc.1],?_,fun hi0=>ai,by rw [Vd];omega⟩;rw [lA ai,Int.toNat_of_nonneg hc.1];rfl
   ·rename_i h2
    obtain⟨m,rfl,rfl,h3,h4⟩:=Nj (fun x hx=>hb x (by simp [hx])) ai h;have h3:=h3 ai;refine⟨(c%128).toNat+128*m,?_,?_,fun _=>ai,by rw [Vd];omega⟩
    ·have e1:(((c%128).toNat+128*m:Nat):Int)=c%128+128*(m:Int):=ai;rw [e1,Int.add_mul,Int.pow_succ,Int.mul_comm (128:Int) (m:Int),Int.mul_assoc,Int.mul_comm (128:Int) (128 ^ i)];omega
    ·have e1:((c%128).toNat+128*m)%128=(c%128).toNat:=ai;have e2:((c%128).toNat+128*m)/128=m:=ai;rw [n7 (n:=(c%128).toNat+128*m) ai,e1,e2,List.cons_append]
     congr 1
     omega
theorem UJ:∀(m:Nat) {i:Nat} {n:Int} {r:List Int},i<=7->(0<i->0<m)->m<128 ^ (8-i)->lF i n (aN m++r)=(r,0,n+m*128 ^ i):=by
 intro m
 induction m using Nat.strongRecOn with
 |_ m ih=>
  intro i n r hi h0 h1;have Vd:(128:Nat) ^ (8-i)=128*128 ^ (8-(i+1)):=by
   have:8-i=(8-(i+1))+1:=ai;rw [this,Nat.pow_succ,Nat.mul_comm]
  by_cases hm:m<128
  ·rw [lA hm,List.singleton_append];unfold lF;rw [ar ai,aw ai]
  ·rw [n7 hm,List.cons_append];unfold lF;rw [ar ai,ar ai];have h2:m/128<128 ^ (8-(i+1)):=by
    rw [Vd]at h1;rw [Nat.div_lt_iff_lt_mul bY,Nat.mul_comm];exact h1
   by_cases hi7:i=7
   ·subst hi7;simp at h2;omega
   ·rw [ih (m/128) ai ai (fun _=>ai) h2];simp only [kC,true_and];have e1:(128+(m%128:Nat):Int)%128=(m%128:Nat):=ai;have e2:(m:Int)=(m%128:Nat)+128*(m/128:Nat):=ai;rw [e1,e2,Int.add_mul,Int.pow_succ,Int.mul_comm (128:Int) ((m/128:Nat):Int),Int.mul_assoc,Int.mul_comm (128:Int) (128 ^ i)];omega
theorem H6 {xs:List Int} (h:aX xs):nums (strOfNums xs)=xs:=by
 unfold nums strOfNums;simp only [List.map_map];refine(List.map_congr_left fun c hc=>?_).trans (List.map_id xs);have:=h c hc;simp only [Function.comp,UInt8.toNat_ofNat',id];omega
theorem Qy (s:ByteArray):strOfNums (nums s)=s:=by
 unfold nums strOfNums;simp only [List.map_map];have:(s.data.toList.map ((fun n:Int=>UInt8.ofNat n.toNat)∘fun b:UInt8=>(b.toNat:Int)))=s.data.toList:=
  (List.map_congr_left fun c _=>by simp [Function.comp]).trans (List.map_id _)
 rw [this]
theorem Ap:∀{b:List Int} {i:Nat} {n:Int},∃p,b=p++(lF i n b).1
 |[],i,n=>⟨[],rfl⟩
 |c::b,i,n=>by
  unfold lF
  split
  ·exact⟨[c],rfl⟩
  ·split
   ·exact⟨[c],rfl⟩
   ·obtain⟨p,hp⟩:=@Ap b (i+1) (n+(c%128)*128 ^ i);exact⟨c::p,by rw [List.cons_append,<-hp]⟩
structure Rd where
 b:List Int
 e:Int
def Rd.num (r:Rd):Rd×Int:=if r.e=0 then(⟨(lF 0 0 r.b).1,(lF 0 0 r.b).2.1⟩,(lF 0 0 r.b).2.2) else(r,0)
def Rd.wrong (r:Rd) (e:Int):Rd:=if r.e=0 then⟨r.b,e⟩else r
def xP (n:Int):Int:=if n%2=1 then -((n+1)/2)else n/2
def Rd.vv (r:Rd):Rd×Int:=(r.num.1,xP r.num.2)
def Rd.cnt (r:Rd) (most:Int):Rd×Int:=if most<r.num.2 then(r.num.1.wrong 1,0)else r.num
theorem H7 {r:Rd} (h:r.e≠0):r.num=(r,0):=by unfold Rd.num;rw [ar h]
theorem Lc (r:Rd):∃p,r.b=p++r.num.1.b:=by
 unfold Rd.num
 split
 ·exact Ap
 ·exact⟨[],rfl⟩
theorem gp {r:Rd} (h:aX r.b):aX r.num.1.b:=by
 obtain⟨p,hp⟩:=Lc r;intro c hc;exact h c (by rw [hp];simp [hc])
theorem zw {r:Rd} (hb:aX r.b) (h:r.num.1.e=0):r.e=0/\∃m:Nat,r.num.2=m/\r.b=aN m++r.num.1.b/\m<72057594037927936:=by
 by_cases he:r.e=0
 ·refine⟨he,?_⟩;unfold Rd.num at h ⊢;rw [aw he]at h ⊢;simp only at h ⊢;obtain⟨m,h1,h2,-,h4⟩:=Nj (i:=0) (n:=0) (r:=(lF 0 0 r.b).1) (v:=(lF 0 0 r.b).2.2) hb bY (Prod.ext rfl (Prod.ext h rfl));exact⟨m,by simpa using h1,h2,by simpa using h4⟩
 ·rw [H7 he]at h;exact absurd h he
theorem QW {r:Rd} (h:r.num.1.e≠0):r.num.2=0:=by
 unfold Rd.num at h ⊢
 split
 ·rename_i he
  rw [aw he]at h;exact(H8 (r:=(lF 0 0 r.b).1) (e:=(lF 0 0 r.b).2.1) rfl h).1
 ·rfl
theorem vL {r:Rd} (hb:aX r.b):0<=r.num.2/\r.num.2<72057594037927936:=by
 by_cases h:r.num.1.e=0
 ·obtain⟨-,m,h1,-,h2⟩:=zw hb h;omega
 ·rw [QW h];decide
theorem uy (h:m<72057594037927936):(Rd.mk (aN m++t) 0).num=(⟨t,0⟩,(m:Int)):=by
 have:=UJ m (i:=0) (n:=0) (r:=t) bY (fun h=>absurd h bY) (by simpa using h);unfold Rd.num;rw [aw rfl];simp only [this];simp
theorem QA:dS (xP m)=aN m:=by
 unfold dS xP
 split
 ·rename_i h;rw [aw ai];congr 1;omega
 ·rename_i h;rw [ar ai];congr 1;omega
theorem FI {r:Rd} (hb:aX r.b) (h:r.vv.1.e=0):r.e=0/\r.b=dS r.vv.2++r.vv.1.b:=by
 obtain⟨h1,m,h2,h3,-⟩:=zw hb h;refine⟨h1,?_⟩;show r.b=dS (xP r.num.2)++r.num.1.b;rw [h2,QA];exact h3
theorem xO {v:Int} (h1 : -18014398509481984<v) (h2:v<18014398509481984):(Rd.mk (dS v++t) 0).vv=(⟨t,0⟩,v):=by
 have key:∀m:Nat,m<72057594037927936->dS v=aN m->xP m=v->(Rd.mk (dS v++t) 0).vv=(⟨t,0⟩,v):=fun m hm e1 e2=>by
  unfold Rd.vv;rw [e1,uy hm];simp only [e2]
 unfold dS at key;by_cases h:v<0
 ·exact key (-2*v-1).toNat ai (aw h) (by unfold xP;rw [aw ai];omega)
 ·exact key (2*v).toNat ai (ar h) (by unfold xP;rw [ar ai];omega)
theorem Uo {r:Rd} {e:Int} (he:e≠0):(r.wrong e).e≠0:=by
 unfold Rd.wrong;split
 ·exact he
 ·assumption
theorem Uq {r:Rd} {e:Int}:(r.wrong e).b=r.b:=by unfold Rd.wrong;split <;> rfl
theorem Mr {r:Rd} (hb:aX r.b) (h:(r.cnt most).1.e=0):r.e=0/\∃m:Nat,(r.cnt most).2=m/\r.b=aN m++(r.cnt most).1.b/\(m:Int)<=most:=by
 unfold Rd.cnt at h ⊢
 split
 ·rename_i h1;rw [aw h1]at h;exact absurd h (Uo bY)
 ·rename_i h1
  rw [ar h1]at h;obtain⟨h2,m,h3,h4,-⟩:=zw hb h;exact⟨h2,m,h3,h4,ai⟩
theorem pU {r:Rd} (h:aX r.b):aX (r.cnt most).1.b:=by
 unfold Rd.cnt
 split
 ·rw [Uq];exact gp h
 ·exact gp h
theorem vU {r:Rd} (hm:0<=most) (h:aX r.b):0<=(r.cnt most).2/\(r.cnt most).2<=most:=by
 have:=vL h;unfold Rd.cnt
 split
 ·exact⟨Int.le_refl _,hm⟩
 ·exact⟨this.1,ai⟩
theorem Dd (h:m<72057594037927936) (hm:(m:Int)<=most):(Rd.mk (aN m++t) 0).cnt most=(⟨t,0⟩,(m:Int)):=by
 unfold Rd.cnt;rw [uy h,ar (by simp only;omega)]
def eH:Nat->Rd->List ByteArray->Rd×List ByteArray
 |0,r,ns=>(r,ns)
 |k+1,r,ns=>if r.e≠0 then(r,ns) else
  if (r.cnt 10).1.e=0/\(r.cnt 10).2<=(r.cnt 10).1.b.length then eH k ⟨(r.cnt 10).1.b.drop (r.cnt 10).2.toNat,0⟩ (ns++[strOfNums ((r.cnt 10).1.b.take (r.cnt 10).2.toNat)])
  else(if (r.cnt 10).1.e=0 then⟨(r.cnt 10).1.b,5⟩ else(r.cnt 10).1,ns)
theorem qT {k:Nat} {r:Rd} (h:r.e≠0):eH k r ns=(r,ns):=by
 cases k with
 |zero=>rfl
 |succ k=>unfold eH;rw [aw h]
theorem ER:∀{k:Nat} {r:Rd} {ns:List ByteArray},aX r.b->(eH k r ns).1.e=0->r.e=0/\∃xs:List ByteArray,(eH k r ns).2=ns++xs/\xs=k/\r.b=dB xs++(eH k r ns).1.b
 |0,r,ns,_,h=>⟨h,[],by simp [eH],rfl,by simp [eH,dB]⟩
 |k+1,r,ns,hb,h=>by
  by_cases he:r.e=0
  ·refine⟨he,?_⟩;by_cases hc:(r.cnt 10).1.e=0/\(r.cnt 10).2<=(r.cnt 10).1.b.length
   ·have eq:eH (k+1) r ns=eH k ⟨(r.cnt 10).1.b.drop (r.cnt 10).2.toNat,0⟩ (ns++[strOfNums ((r.cnt 10).1.b.take (r.cnt 10).2.toNat)]):=by
     rw [eH,ar (jw he),aw hc]
    rw [eq]at h ⊢;have hb1:=pU (most:=10) hb;obtain⟨-,m,h1,h2,-⟩:=Mr hb hc.1;have hb2:aX ((r.cnt 10).1.b.drop (r.cnt 10).2.toNat):=fun c hcc=>hb1 c (uP hcc);obtain⟨-,xs,h3,h4,h5⟩:=ER hb2 h;refine⟨strOfNums ((r.cnt 10).1.b.take (r.cnt 10).2.toNat)::xs,by rw [h3];simp,by simp [h4],?_⟩;have hl:(strOfNums ((r.cnt 10).1.b.take (r.cnt 10).2.toNat)).size=m:=by
     rw [strOfNums_size,gh,h1];have:=hc.2;omega
    have e1:dB (strOfNums ((r.cnt 10).1.b.take (r.cnt 10).2.toNat)::xs)=aN m++(r.cnt 10).1.b.take (r.cnt 10).2.toNat++dB xs:=by
     unfold dB;rw [fO,hl,H6 fun c hcc=>hb1 c (uQ hcc)]
    rw [e1,h2,iT,iT,<-h5,rG]
   ·have eq:eH (k+1) r ns=(if (r.cnt 10).1.e=0 then⟨(r.cnt 10).1.b,5⟩ else(r.cnt 10).1,ns):=by
     rw [eH,ar (jw he),ar hc]
    rw [eq]at h;simp only at h
    split at h
    ·cases h
    ·rename_i h1;exact absurd h h1
  ·rw [qT he]at h;exact absurd h he
theorem Aq:∀{xs:List ByteArray} {t:List Int} {ns:List ByteArray},(∀s∈xs,s.size<=10)->eH xs ⟨dB xs++t,0⟩ ns=(⟨t,0⟩,ns++xs)
 |[],t,ns,_=>by simp [eH,dB]
 |s::xs,t,ns,h=>by
  have hs:=h s bh;have e1:dB (s::xs)++t=aN s.size++(nums s++(dB xs++t)):=by simp [dB]
  have hc:(Rd.mk (dB (s::xs)++t) 0).cnt 10=(⟨nums s++(dB xs++t),0⟩,(s.size:Int)):=by
   rw [e1];exact Dd ai ai
  rw [gD,eH,ar bh,hc,aw ⟨rfl,by simp [nums_length];omega⟩];simp only [Int.toNat_natCast];have e2:(nums s++(dB xs++t)).drop s.size=dB xs++t:=by
   rw [<-nums_length s];exact List.drop_left
  have e3:(nums s++(dB xs++t)).take s.size=nums s:=by
   rw [<-nums_length s];exact List.take_left
  rw [e2,e3,Qy,Aq fun x hx=>h x (by simp [hx])];simp
theorem xW:∀{k:Nat} {r:Rd} {ns:List ByteArray},aX r.b->aX (eH k r ns).1.b
 |0,r,ns,h=>h
 |k+1,r,ns,h=>by
  have hb1:=pU (most:=10) h;unfold eH
  split
  ·exact h
  ·split
   ·exact xW fun c hc=>hb1 c (uP hc)
   ·show aX (if _ then _ else _:Rd).b
    split <;> exact hb1
def jg (l:List aH):Int:=match l.getLast? with|none=>0|some e=>e.key
theorem ko (l:List aH) (x:aH):jg (l++[x])=x.key:=by simp [jg]
def nj (r:Rd) (key:Int):Rd×aH:=
 (r.num.1.num.1.vv.1.vv.1.vv.1.vv.1,⟨key+r.num.2,⟨r.num.1.num.2,r.num.1.num.1.vv.2,r.num.1.num.1.vv.1.vv.2,r.num.1.num.1.vv.1.vv.1.vv.2,(key+r.num.2)%1048576,r.num.1.num.1.vv.1.vv.1.vv.1.vv.2⟩⟩)
def lL (l:List aH) (x:aH):Prop:=1099511627776<=x.key\/x.is.c=0\/(l≠[]/\x.key<=jg l)
instance (l:List aH) (x:aH):Decidable (lL l x):=by unfold lL;infer_instance
def tY (r:Rd) (l:List aH):Rd:=if (nj r (jg l)).1.e=0/\lL l (nj r (jg l)).2 then⟨(nj r (jg l)).1.b,7⟩ else(nj r (jg l)).1
def jX:Nat->Rd->List aH->Rd×List aH
 |0,r,l=>(r,l)
 |k+1,r,l=>if r.e≠0 then(r,l)else jX k (tY r l) (l++[(nj r (jg l)).2])
theorem tE {k:Nat} {r:Rd} (h:r.e≠0):jX k r l=(r,l):=by
 cases k with
 |zero=>rfl
 |succ k=>unfold jX;rw [aw h]
theorem Vy {r:Rd} (hb:aX r.b) (h:(nj r key).1.e=0):r.e=0/\key<=(nj r key).2.key/\r.b=yK key (nj r key).2++(nj r key).1.b/\(nj r key).2.is.t=(nj r key).2.key%1048576/\0<=(nj r key).2.is.c:=by
 have b1:=gp hb;have b2:=gp b1;have b3:aX r.num.1.num.1.vv.1.b:=gp b2;have b4:aX r.num.1.num.1.vv.1.vv.1.b:=gp b3;have b5:aX r.num.1.num.1.vv.1.vv.1.vv.1.b:=gp b4;obtain⟨e6,h6⟩:=FI b5 h;obtain⟨e5,h5⟩:=FI b4 e6;obtain⟨e4,h4⟩:=FI b3 e5;obtain⟨e3,h3⟩:=FI b2 e4;obtain⟨e2,c,hc,h2,-⟩:=zw b1 e3;obtain⟨e1,d,hd,h1,-⟩:=zw hb e2;refine⟨e1,?_,?_,rfl,?_⟩
 ·show key<=key+r.num.2;omega
 ·rw [h1,h2,h3,h4,h5,h6];unfold yK;show _=aN (key+r.num.2-key).toNat++aN (r.num.1.num.2).toNat++_++_++_++_++_;have e1:(key+r.num.2-key).toNat=d:=ai;have e2:(r.num.1.num.2).toNat=c:=ai;rw [e1,e2];simp only [iT];rfl
 ·show 0<=r.num.1.num.2;omega
theorem Mj {r:Rd} (hb:aX r.b):aX (nj r key).1.b:=
 gp (gp (gp (gp (gp (gp hb)))))
theorem Mi {r:Rd} (hb:aX r.b):aX (tY r l).b:=by
 unfold tY;split <;> exact Mj hb
theorem C6 (last:Int) (e:aH) (l:List aH):eI last (e::l)=yK last e++eI e.key l:=rfl
def zi (l xs:List aH):Prop:=(∀e∈xs,0<=e.key/\e.key<1099511627776/\0<e.is.c/\e.is.t=e.key%1048576)/\aY xs/\(l≠[]->∀e∈xs,jg l<e.key)
theorem Jw:∀{k:Nat} {r:Rd} {l:List aH},aX r.b->0<=jg l->(jX k r l).1.e=0->r.e=0/\∃xs:List aH,(jX k r l).2=l++xs/\xs=k/\r.b=eI (jg l) xs++(jX k r l).1.b/\zi l xs
 |0,r,l,_,_,h=>⟨h,[],by simp [jX],rfl,by simp [jX,eI],fun e he=>(by cases he),List.Pairwise.nil,fun _ e he=>(by cases he)⟩
 |k+1,r,l,hb,hk,h=>by
  by_cases he:r.e=0
  ·refine⟨he,?_⟩;have eq:jX (k+1) r l=jX k (tY r l) (l++[(nj r (jg l)).2]):=by rw [jX,ar (jw he)]
   rw [eq]at h ⊢;have hb1:=Mi (l:=l) hb;by_cases hw:(nj r (jg l)).1.e=0/\lL l (nj r (jg l)).2
   ·have:(tY r l).e≠0:=(by unfold tY;rw [aw hw];show (7:Int)≠0;decide);rw [tE this]at h;exact absurd h this
   ·have ew:tY r l=(nj r (jg l)).1:=(by unfold tY;rw [ar hw]);by_cases h0:(nj r (jg l)).1.e=0
    ·obtain⟨-,d1,d2,d3,d4⟩:=Vy hb h0;obtain⟨-,xs,h3,h4,h5,h6⟩:=Jw hb1 (by rw [ko];omega) h;have hnb:¬lL l (nj r (jg l)).2:=fun hh=>hw ⟨h0,hh⟩;unfold zi at h6;rw [ko]at h5 h6;unfold lL at hnb;refine⟨(nj r (jg l)).2::xs,by rw [h3];simp,by simp [h4],?_,?_,?_,?_⟩
     ·rw [C6,iT,<-h5,ew];exact d2
     ·intro e Vi;rcases fy.1 Vi with rfl|Vi
      ·exact⟨ai,ai,ai,d3⟩
      ·exact h6.1 e Vi
     ·exact tZ.2 ⟨fun e Vi=>h6.2.2 bh e Vi,h6.2.1⟩
     ·intro hl e Vi;have h7:jg l<(nj r (jg l)).2.key:=by
       refine Int.not_le.1 fun hle=>hnb (.inr (.inr ⟨hl,hle⟩))
      rcases fy.1 Vi with rfl|Vi
      ·exact h7
      ·have:=h6.2.2 bh e Vi;omega
    ·rw [tE (by rw [ew];exact h0)]at h;rw [ew]at h;exact absurd h h0
  ·rw [tE he]at h;exact absurd h he
def DI (e:aH):Prop:=0<=e.key/\e.key<1099511627776/\0<e.is.c/\e.is.c<72057594037927936/\e.is.t=e.key%1048576/\(-18014398509481984<e.is.s/\e.is.s<18014398509481984)/\(-18014398509481984<e.is.mi/\e.is.mi<18014398509481984)/\(-18014398509481984<e.is.ma/\e.is.ma<18014398509481984)/\(-18014398509481984<e.is.l/\e.is.l<18014398509481984)
theorem PD {e:aH} (h:DI e) (hk:key<=e.key) (h0:0<=key):nj ⟨yK key e++t,0⟩ key=(⟨t,0⟩,e):=by
 obtain⟨k1,k2,c1,c2,ht,s,mi,ma,la⟩:=h;have e0:yK key e++t=aN (e.key-key).toNat++(aN e.is.c.toNat++(dS e.is.s++(dS e.is.mi++(dS e.is.ma++(dS e.is.l++t))))):=by
  unfold yK;simp only [iT]
 have n1:=uy (m:=(e.key-key).toNat) (t:=aN e.is.c.toNat++(dS e.is.s++(dS e.is.mi++(dS e.is.ma++(dS e.is.l++t))))) ai;have n2:=uy (m:=e.is.c.toNat) (t:=dS e.is.s++(dS e.is.mi++(dS e.is.ma++(dS e.is.l++t)))) ai;have n3:=xO (v:=e.is.s) (t:=dS e.is.mi++(dS e.is.ma++(dS e.is.l++t))) s.1 s.2;have n4:=xO (v:=e.is.mi) (t:=dS e.is.ma++(dS e.is.l++t)) mi.1 mi.2;have n5:=xO (v:=e.is.ma) (t:=dS e.is.l++t) ma.1 ma.2;have n6:=xO (v:=e.is.l) (t:=t) la.1 la.2;rw [e0];unfold nj;rw [n1];simp only;rw [n2];simp only;rw [n3];simp only;rw [n4];simp only;rw [n5];simp only;rw [n6];simp only;have k3:key+((e.key-key).toNat:Int)=e.key:=ai;have k4:((e.is.c.toNat:Nat):Int)=e.is.c:=ai;rw [k3,k4,<-ht]
theorem C7:∀{xs:List aH} {l:List aH} {t:List Int},0<=jg l->(∀e∈xs,DI e)->aY xs->(∀e∈xs,jg l<=e.key)->(l≠[]->∀e∈xs,jg l<e.key)->jX xs ⟨eI (jg l) xs++t,0⟩ l=(⟨t,0⟩,l++xs)
 |[],l,t,_,_,_,_,_=>by simp [jX,eI]
 |e::xs,l,t,h0,hf,hr,hk,hl=>by
  have hc:=tZ.1 hr;have he:=hf e bh;have eb:nj ⟨eI (jg l) (e::xs)++t,0⟩ (jg l)=(⟨eI e.key xs++t,0⟩,e):=by
   rw [C6,iT];exact PD he (hk e bh) h0
  rw [gD,jX,ar bh];have ew:tY ⟨eI (jg l) (e::xs)++t,0⟩ l=⟨eI e.key xs++t,0⟩:=by
   unfold tY;rw [eb];refine ar fun hh=>?_;have hb:=hh.2;unfold lL at hb;simp only at hb;obtain⟨k1,k2,c1,-⟩:=he;rcases hb with hb|hb|⟨hb1,hb2⟩
   ·omega
   ·omega
   ·have:=hl hb1 e bh;omega
  rw [ew,eb];simp only;have:=C7 (xs:=xs) (l:=l++[e]) (t:=t) (by rw [ko];exact he.1) (fun x hx=>hf x (by simp [hx])) hc.2 (fun x hx=>by rw [ko];exact Int.le_of_lt (hc.1 x hx)) (fun _ x hx=>by rw [ko];exact hc.1 x hx);rw [ko]at this;rw [this];simp
def fH (ns:List ByteArray) (fl:Int) (l:List aH):List Int:=[119,110]++aN ns++dB ns++aN fl.toNat++aN l++eI 0 l
theorem Fa (b:Ba) (l:List aH):kM b l=fH b.names b.floor l:=rfl
def dL (b:List Int):Rd×List ByteArray:=eH ((Rd.mk b 0).cnt 16).2.toNat ((Rd.mk b 0).cnt 16).1 []
def uL (b:List Int):Rd×Int:=(dL b).1.num.1.cnt 10000
def gG (b:List Int):Rd×List aH:=jX (uL b).2.toNat (uL b).1 []
def Dg (b:List Int):Rd:=if (gG b).1.e=0/\0<(gG b).1.b.length then⟨(gG b).1.b,4⟩ else(gG b).1
theorem VA {b:List Int} (hb:aX b) (h:(Dg b).e=0) :
  [119,110]++b=fH (dL b).2 (dL b).1.num.2 (gG b).2/\(dL b).2.length<=16/\(gG b).2.length<=10000/\zi [] (gG b).2/\0<=(dL b).1.num.2/\(dL b).1.num.2<72057594037927936:=by
 have hnil:(gG b).1.e=0/\(gG b).1.b=[]:=by
  unfold Dg at h
  split at h
  ·cases h
  ·rename_i hn
   refine⟨h,?_⟩
   cases hh:(gG b).1.b with
   |nil=>rfl
   |cons c l=>exact absurd ⟨h,by rw [hh];simp⟩ hn
 have b1:aX ((Rd.mk b 0).cnt 16).1.b:=pU hb;have b2:aX (dL b).1.b:=xW b1;have b3:aX (dL b).1.num.1.b:=gp b2;have b4:aX (uL b).1.b:=pU b3;obtain⟨e4,xs,h41,h42,h43,h44⟩:=Jw (l:=[]) b4 (Int.le_refl _) hnil.1;obtain⟨e3,c,h31,h32,h33⟩:=Mr b3 e4;obtain⟨e2,f,h21,h22,h23⟩:=zw b2 e3;obtain⟨e1,ys,h11,h12,h13⟩:=ER b1 e2;obtain⟨-,n,h01,h02,h03⟩:=Mr (r:=Rd.mk b 0) hb e1;have g1:(dL b).2=ys:=by have:(dL b).2=[]++ys:=h11;simpa using this
 have g2:(gG b).2=xs:=by have:(gG b).2=[]++xs:=h41;simpa using this
 have g3:ys=n:=by rw [h12,h01];simp
 have g4:xs=c:=by rw [h42];show (uL b).2.toNat=c;rw [show (uL b).2=(c:Int)from h31];simp
 refine⟨?_,by rw [g1];omega,by rw [g2];omega,by rw [g2];exact h44,ai,ai⟩;rw [g1,g2];unfold fH;have hf:((dL b).1.num.2).toNat=f:=ai;rw [hf,g3,g4];have q0:b=aN n++((Rd.mk b 0).cnt 16).1.b:=h02;have q1:((Rd.mk b 0).cnt 16).1.b=dB ys++(dL b).1.b:=h13;have q2:(dL b).1.num.1.b=aN c++(uL b).1.b:=h32;have q3:(uL b).1.b=eI 0 xs++(gG b).1.b:=h43;have q:b=aN n++(dB ys++(aN f++(aN c++(eI 0 xs++[])))):=by
  rw [<-hnil.2,<-q3,<-q2,<-h22,<-q1];exact q0
 refine(congrArg (fun x=>[119,110]++x) q).trans ?_;simp only [iT,nQ]
theorem PN {fl:Int} (t:List Int) (h1:ns.length<=16) (h2:∀s∈ns,s.size<=10) (h3:0<=fl) (h4:fl<72057594037927936) (h5:l.length<=10000) (h6:∀e∈l,DI e) (h7:aY l) {b:List Int} (hb:[119,110]++b=fH ns fl l++t) :
  (dL b).2=ns/\(dL b).1.num.2=fl/\(gG b).2=l/\(gG b).1=⟨t,0⟩:=by
 have hb':b=aN ns++(dB ns++(aN fl.toNat++(aN l++(eI 0 l++t)))):=by
  unfold fH at hb;simp only [iT,List.cons_append,List.nil_append,List.cons.injEq,true_and]at hb;exact hb
 subst hb';have q1:=Dd (m:=ns.length) (t:=dB ns++(aN fl.toNat++(aN l++(eI 0 l++t)))) (most:=16) ai ai;have q2:=Aq (xs:=ns) (t:=aN fl.toNat++(aN l++(eI 0 l++t))) (ns:=[]) h2;have g1:dL (aN ns++(dB ns++(aN fl.toNat++(aN l++(eI 0 l++t)))))=(⟨aN fl.toNat++(aN l++(eI 0 l++t)),0⟩,ns):=by
  unfold dL;rw [q1];simp only [Int.toNat_natCast];rw [q2];simp
 have q3:=uy (m:=fl.toNat) (t:=aN l++(eI 0 l++t)) ai;have q4:=Dd (m:=l.length) (t:=eI 0 l++t) (most:=10000) ai ai;have g2:uL (aN ns++(dB ns++(aN fl.toNat++(aN l++(eI 0 l++t)))))=(⟨eI 0 l++t,0⟩,(l.length:Int)):=by
  unfold uL;rw [g1];simp only;rw [q3];simp only;rw [q4]
 have q5:=C7 (xs:=l) (l:=[]) (t:=t) (Int.le_refl _) h6 h7 (fun e he=>(h6 e he).1) (fun h=>absurd rfl h);have g3:gG (aN ns++(dB ns++(aN fl.toNat++(aN l++(eI 0 l++t)))))=(⟨t,0⟩,l):=by
  unfold gG;rw [g2];simp only [Int.toNat_natCast];have:eI (jg []) l=eI 0 l:=rfl;rw [this]at q5;rw [q5];simp
 refine⟨by rw [g1],?_,by rw [g3],by rw [g3]⟩;rw [g1];simp only;rw [q3];simp only;omega
end
def bT (bs:List Int):List Int:=(bs.take (bs-4)).drop 2
def wu (bs:List Int):Int:=
 if 200000<bs.length then 1 else if bs.length<6 then 5 else if bs.take 2≠[119,110]then 4 else if mJ (bs.take (bs-4))≠bs.drop (bs-4)then 9 else(Dg (bT bs)).e
theorem xq {bs:List Int} (h:aX bs):aX (bT bs):=fun c hc=>h c (uQ (uP hc))
theorem NS {bs:List Int} (h6:¬bs.length<6) (h2:bs.take 2=[119,110]):[119,110]++bT bs=bs.take (bs-4):=by
 unfold bT;have e:(bs.take (bs-4)).take 2=[119,110]:=by
  rw [List.take_take,Nat.min_eq_left ai];exact h2
 rw [<-e];exact rG 2 _
theorem Zd {bs:List Int} (hb:aX bs) (h:wu bs=0) :
  bs=fH (dL (bT bs)).2 (dL (bT bs)).1.num.2 (gG (bT bs)).2++mJ (fH (dL (bT bs)).2 (dL (bT bs)).1.num.2 (gG (bT bs)).2) /\
  (dL (bT bs)).2.length<=16/\(gG (bT bs)).2.length<=10000/\zi [] (gG (bT bs)).2/\0<=(dL (bT bs)).1.num.2/\(dL (bT bs)).1.num.2<72057594037927936/\bs.length<=200000:=by
 unfold wu at h
 split at h
 ·cases h
 rename_i h1
 split at h
 ·cases h
 rename_i h2
 split at h
 ·cases h
 rename_i h3
 split at h
 ·cases h
 rename_i h4
 have h3:bs.take 2=[119,110]:=Decidable.not_not.1 h3;have h4:mJ (bs.take (bs-4))=bs.drop (bs-4):=Decidable.not_not.1 h4;obtain⟨g1,g2,g3,g4,g5,g6⟩:=VA (xq hb) h;refine⟨?_,g2,g3,g4,g5,g6,ai⟩;rw [<-g1,NS h2 h3,h4];exact(rG _ _).symm
theorem Hd (b:List Int):(mJ b).length=4:=rfl
theorem Mw (ns:List ByteArray) (fl:Int) (l:List aH):5<=(fH ns fl l).length:=by
 have h1:=wU ns;have h2:=wU fl.toNat;have h3:=wU l;unfold fH;simp only [dF,gD,List.length_nil];omega
theorem Mv (ns:List ByteArray) (fl:Int) (l:List aH) (t:List Int):(fH ns fl l++t).take 2=[119,110]:=rfl
section
variable {ns:List ByteArray} {fl:Int} {l:List aH}
theorem SC (h1:ns.length<=16) (h2:∀s∈ns,s.size<=10) (h3:0<=fl) (h4:fl<72057594037927936) (h5:l.length<=10000) (h6:∀e∈l,DI e) (h7:aY l)
  {bs:List Int} (hbs:bs=fH ns fl l++mJ (fH ns fl l)) (hl:bs.length<=200000) :
  wu bs=0/\(dL (bT bs)).2=ns/\(dL (bT bs)).1.num.2=fl/\(gG (bT bs)).2=l:=by
 have hlen:bs=(fH ns fl l).length+4:=by rw [hbs,dF,Hd]
 have zH:=Mw ns fl l;have ht:bs.take (bs-4)=fH ns fl l:=by
  rw [hlen,Nat.add_sub_cancel,hbs];exact List.take_left
 have hd:bs.drop (bs-4)=mJ (fH ns fl l):=by
  rw [hlen,Nat.add_sub_cancel];rw (config:={occs:= .pos [1]}) [hbs];exact List.drop_left
 have h2':bs.take 2=[119,110]:=by rw [hbs];exact Mv ns fl l _
 have Ko:=NS (bs:=bs) ai h2';rw [ht]at Ko;obtain⟨g1,g2,g3,g4⟩:=PN [] h1 h2 h3 h4 h5 h6 h7 (b:=bT bs) (by rw [nQ];exact Ko);refine⟨?_,g1,g2,g3⟩;unfold wu;rw [ar ai,ar ai,ar (jw h2'),ar (jw (by rw [ht,hd]))];unfold Dg;rw [g4];rfl
end
section
variable {e:Int} {xs:List Int} {rb b off cap m:Nat} {r:Rd} {w w':World}
structure il (w:World) (rb:Nat) (v:Value) (r:Rd):Prop where
 box:w.heap[rb]?=some (.cells #[v,af r.e] 142)
 sl:ig w v r.b
 ok:aX r.b
 form:∃b o c,v=ah (some ⟨b,o,none⟩) r.b c/\b<rb
theorem il.low {v:Value} (h:il w rb v r):∀a n c,v=ah (some a) n c->a.block<rb:=by
 obtain⟨b,o,c,rfl,hb⟩:=h.form;intro a n c e;injection e with e;injection e with e;subst e;exact hb
theorem il.lt {v:Value} (h:il w rb v r):rb<w:=(eJ.1 h.box).1
abbrev jl (rb:Nat) (w w':World):Prop:=aA (fun b=>b=rb) w w'
theorem aaV {v:Value} {k:Nat} (F5:w.heap[rb]?=some (.cells #[v,af e] 142)) (hv:∃ao n c,v=ah ao n c) (hk:k<xs)
  (h:∀i x,xs[i]?=some x->∀j u,(AG x)[j]?=some u->w.cell? (b,off+i*1+j)=some u):b≠rb:=by
 rintro rfl;have h0:=oz h hk;obtain⟨ao,n,c,rfl⟩:=hv;simp only [World.cell?,F5]at h0;obtain⟨q,hq⟩:=bG (off+k);rw [hq]at h0
 match q with
 |0=>simp at h0
 |1=>simp at h0
 |q+2=>simp at h0
theorem M7 {v:Value} (F5:w.heap[rb]?=some (.cells #[v,af e] 142)) (hs:ig w v xs) (hT:jl rb w w'):ig w' v xs:=by
 obtain⟨ao,cap,rfl,h1,h2,h3,h4,h5⟩:=hs;refine⟨ao,cap,rfl,h1,h2,h3,h4,fun h0=>?_⟩;obtain⟨b,off,rfl,hb,hc⟩:=h5 h0;have hne:=aaV F5 ⟨_,_,_,rfl⟩ h0 hc;exact⟨b,off,rfl,oI hb hT.size,fun i x hx j u hu=>(hT.cell hb hne _).trans (hc i x hx j u hu)⟩
theorem FH (h:ig w (ah (some (b,off)) xs cap) xs) (hm:m<=xs) (o:Nat) (ho:m<cap->o=off+m):ig w (ah (some (b,o)) (xs-m) (cap-m)) (xs.drop m):=by
 obtain⟨ao,cap',hv,h1,h2,h3,h4,h5⟩:=h;injection hv with hv1 _ hv3;subst hv3;refine⟨_,_,by rw [qG],by rw [qG];omega,ai,by rw [qG];omega,bh,fun h0=>?_⟩;rw [qG]at h0;obtain rfl:=ho ai;obtain⟨b',off',hb,hlt,hc⟩:=h5 ai;rw [<-hv1]at hb;injection hb with hb;injection hb with e1 e2;subst e1 e2;refine⟨b,off+m,rfl,hlt,fun k x hk j u hu=>?_⟩;rw [List.getElem?_drop]at hk;have:=hc (m+k) x hk j u hu;rw [<-this];congr 2;omega
theorem Bl {ao:Option Addr} (h:ig w (ah ao xs cap) xs) (hm:m<=xs):ig w (ah ao m cap) (xs.take m):=by
 obtain⟨ao',cap',hv,h1,h2,h3,h4,h5⟩:=h;injection hv with hv1 _ hv3;subst hv3 hv1;refine⟨_,_,by rw [gh,Nat.min_eq_left hm],by rw [gh,Nat.min_eq_left hm];omega,ai,by rw [gh,Nat.min_eq_left hm];omega,h4,fun h0=>?_⟩;rw [gh,Nat.min_eq_left hm]at h0;obtain⟨b,off,rfl,hlt,hc⟩:=h5 ai;refine⟨b,off,rfl,hlt,fun k x hk j u hu=>hc k x ?_ j u hu⟩;rw [rF]at hk
 split at hk
 ·exact hk
 ·cases hk
theorem il.cells {v:Value} (h:il w rb v r):w.cell? (rb,0)=some v/\(w,rb,1,r.e)/\∀o,w.frozen? ⟨rb,o,none⟩=false:=by
 have h1:=h.box;simp [World.cell?,World.frozen?,h1]
theorem il.turn {v:Value} (h:il w rb v r) (hT:jl rb w w') (hb:w'.heap[rb]?=w.heap[rb]?):il w' rb v r:=⟨hb.trans h.box,M7 h.box h.sl hT,h.ok,h.form⟩
theorem il.XJ {v:Value} (hs:ig w v xs) (yw:∀a n c,v=ah (some a) n c->a.block<rb) (hb:Below (rb+1) w w') (_hr:rb<w):ig w' v xs:=by
 obtain⟨ao,cap,rfl,h1,h2,h3,h4,h5⟩:=hs;refine⟨ao,cap,rfl,h1,h2,h3,h4,fun h0=>?_⟩;obtain⟨b,off,rfl,hb1,hc⟩:=h5 h0;have hl:=yw _ _ _ rfl;simp only at hl;exact⟨b,off,rfl,oI hb1 hb.size,fun i x hx j u hu=>(hb.cell (p:=(b,off+i*1+j)) (by show b<rb+1;omega)).trans (hc i x hx j u hu)⟩
theorem il.later {v:Value} (h:il w rb v r) (hb:Below (rb+1) w w'):il w' rb v r:=
 ⟨(hb.block _ (Nat.lt_succ_self _)).trans h.box,il.XJ h.sl h.low hb h.lt,h.ok,h.form⟩
theorem il.afp {v:Value} (h:il w rb v r) (e:Int):jl rb w (w.setCell (rb,1) (af e))/\il (w.setCell (rb,1) (af e)) rb v ⟨r.b,e⟩:=by
 have hT:jl rb w (w.setCell (rb,1) (af e)):=aA.setCell (X:=fun b=>b=rb) (aA.refl _ w) (.inl (show rb=rb from rfl)) _;exact⟨hT,aM h.box,M7 h.box h.sl hT,h.ok,h.form⟩
theorem il.ur {v v':Value} {b:List Int} (h:il w rb v r) (hs:ig w v' b) (hform:∃bk o c,v'=ah (some ⟨bk,o,none⟩) b c/\bk<rb) (hb:aX b):jl rb w (w.setCell (rb,0) v')/\il (w.setCell (rb,0) v') rb v' ⟨b,r.e⟩:=by
 have hT:jl rb w (w.setCell (rb,0) v'):=aA.setCell (X:=fun b=>b=rb) (aA.refl _ w) (.inl (show rb=rb from rfl)) _;refine⟨hT,aM h.box,?_,hb,hform⟩
 ·obtain⟨ao,cap,rfl,h1,h2,h3,h4,h5⟩:=hs;refine⟨ao,cap,rfl,h1,h2,h3,h4,fun h0=>?_⟩;obtain⟨b,off,rfl,hb,hc⟩:=h5 h0;exact⟨b,off,rfl,oI hb hT.size,fun i x hx j u hu=>(hT.cell hb (by obtain⟨b',o',c',e,hlt⟩:=hform;injection e with e;injection e with e;injection e with e;subst e;exact Nat.ne_of_lt hlt) _).trans (hc i x hx j u hu)⟩
theorem pN {v:Value} (h:il w rb v r):Calls Tryz.prog 84 #[.pointer (some (rb,0)),af e] w fun x w'=>x = .returned (.tuple #[])/\jl rb w w'/\il w' rb v (r.wrong e):=by
 obtain⟨c0,c1,cf⟩:=h.cells;have HS:=ag (h.afp e);have HR:=ag h;by_cases he:r.e=0
 ·have HW:=ag (show r.wrong e=⟨r.b,e⟩ by unfold Rd.wrong;rw [aw he]);rw [he]at c1;clear h he;go_enter Tryz.func84,Tryz.ntmps84;go_wp2_with fail
  go_end0
  exact⟨rfl,HS.1,by rw [HW];exact HS.2⟩
 ·have HW:=ag (show r.wrong e=r by unfold Rd.wrong;rw [ar he]);have hd:(r.e == 0)=false:=by simpa using he
  clear h he;go_enter Tryz.func84,Tryz.ntmps84;go_wp2_with fail
  go_end0
  exact⟨rfl,aA.refl _ _,by rw [HW];exact HR⟩
end
section
variable {n c:Int} {b:List Int} {i:Nat} {r:Rd}
theorem Ld (h:r.e=0) {e v:Int} (hn:lF 0 0 r.b=(b,e,v)):r.num=(⟨b,e⟩,v):=by unfold Rd.num;rw [aw h,hn]
theorem QX (i:Nat) (n:Int):lF i n []=([],5,0):=by unfold lF;rfl
theorem QZ (h:i=8\/(0<i/\c=0)):lF i n (c::b)=(b,4,0):=by unfold lF;rw [aw h]
theorem QY (h:¬(i=8\/(0<i/\c=0))) (hc:c<128):lF i n (c::b)=(b,0,n+c*128 ^ i):=by unfold lF;rw [ar h,aw hc]
theorem UI (h:¬(i=8\/(0<i/\c=0))) (hc:¬c<128):lF i n (c::b)=lF (i+1) (n+c%128*128 ^ i) b:=by
 rw [lF,ar h,ar hc]
theorem rU {w:World} {rb:Nat} {v:Value} (h:il w rb v r):Calls Tryz.prog 85 #[.pointer (some (rb,0))] w fun x w'=>x = .returned (af r.num.2)/\jl rb w w'/\∃v',il w' rb v' r.num.1:=by
 have HR:=ag h;by_cases he:r.e=0
 ·go_enter Tryz.func85,Tryz.ntmps85;go_wp2_with fail
  go_loopg [3,4] 9 (fun g nv iv wr=>∃(k:Nat) (n:Int) (v:Value) (b:List Int),k<=8/\g=9-k/\iv=af k/\nv=af n/\Hid (0<=n/\n<128 ^ k)/\Hid (jl rb w wr/\il wr rb v ⟨b,0⟩/\lF 0 0 r.b=lF k n b))
  case atStart=>exact⟨0,0,v,r.b,ai,rfl,rfl,rfl,ag bY,ag ⟨aA.refl _ _,(by have:=HR.out;obtain⟨rb',re⟩:=r;simp only at he;subst he;exact this),rfl⟩⟩
  case round=>
   clear h;obtain⟨k,n,v1,b,hk,rfl,rfl,rfl,HN,HA⟩:=hrel;obtain⟨ao,cap,rfl,s1,s2,s3,s4,s5⟩:=HA.out.2.1.sl;obtain⟨c0,c1,cf⟩:wr.cell? (rb,0)=some (ah ao b cap)/\(wr,rb,1)/\∀o,wr.frozen? ⟨rb,o,none⟩=false:=HA.out.2.1.cells;rcases b with _|⟨c,b⟩
   ·have HW:=ag (pN (e:=5) HA.out.2.1);have HG:=ag (Ld he (HA.out.2.2.trans (QX k n)));have hT0:=ag HA.out.1;clear HA HN HR s5 he;have hl:([]:List Int).length=0:=rfl;rw [hl]at c0 HW;go_wp2_with (go_at_call 84;(with_reducible refine HW.out.mono ?_);rintro e w1 ⟨rfl,hT,hR⟩);go_ret;exact⟨by rw [HG];rfl,hT0.trans hT,_,by rw [HG];exact hR⟩
   ·obtain⟨ab,aR,rfl,qy,ac⟩:=s5 bh;have e0:=oz (k:=0) ac bh;simp only [Nat.add_zero,List.getElem_cons_zero]at e0;have hcb:=HA.out.2.1.ok c bh;have jA:=fun w'=>pQ (ab:=ab) (aR:=aR) (n:=(c::b).length) (cap:=cap) (show (0:Int)=((0:Nat):Int) by rfl) bh w';have hlen:(c::b).length=b.length+1:=bh;rw [hlen]at c0 s1 jA;have hl0:¬((b.length:Int)+1=0):=ai;obtain⟨o,fh,ho⟩:∃o,(if cap=1 then some ((ab,aR):Addr)else some (ab,aR+1))=some ⟨ab,o,none⟩/\(1<cap->o=aR+1):=by
     by_cases h1:cap=1
     ·exact⟨aR,aw h1,fun h=>ai⟩
     ·exact⟨aR+1,ar h1,fun _=>rfl⟩
    have hne:ab<rb:=HA.out.2.1.low _ _ _ rfl;have hsl:ig wr (ah (some (ab,o)) b (cap-1)) b:=by
     have:=FH (m:=1) (by have:=HA.out.2.1.sl;exact this) bh o ho;rw [hlen]at this;exact this
    have HB:=ag (HA.out.2.1.ur hsl ⟨_,_,_,rfl,hne⟩ (fun x hx=>HA.out.2.1.ok x (by simp [hx])));clear ac s5 hne hsl ho;go_upto_region 9 with (fail);obtain⟨W8,mq⟩:=cd (wr.setCell (rb,0) (ah (some (ab,o)) b (cap-1)));rw [<-mq]at HB ⊢;obtain⟨d0,d1,df⟩:W8.cell? (rb,0)=some (ah (some ⟨ab,o,none⟩) b (cap-1))/\(W8,rb,1)/\∀o,W8.frozen? ⟨rb,o,none⟩=false:=HB.2.cells;have HL:=ag HA.out.2.2;have HT:=ag (HA.out.1.trans HB.1);have HB:=ag HB.out.2;have HE:=ag he;clear mq HA c0 c1 cf s1 s2 s3 s4 jA fh e0 qy hlen hl0 he HR;by_cases hbad:k=8\/(0<k/\c=0)
    ·have HG:=ag (Ld HE (HL.trans (QZ hbad)));have HW:=ag (pN (e:=4) HB);clear HL HN HB HE;by_cases h8:k=8
     ·subst h8;clear hbad;go_wp2_with (go_at_call 84;(with_reducible refine HW.out.mono ?_);rintro e w1 ⟨rfl,hT,hR⟩);go_ret;exact⟨by rw [HG];rfl,HT.trans hT,_,by rw [HG];exact hR⟩
     ·have hc0:c=0:=ai;have e8:((k:Int) == 8)=false:=(by simp;omega);have ek:(0:Int)<(k:Int):=ai;subst hc0;clear hbad h8;go_wp2_with (go_at_call 84;(with_reducible refine HW.out.mono ?_);rintro e w1 ⟨rfl,hT,hR⟩);go_ret;exact⟨by rw [HG];rfl,HT.trans hT,_,by rw [HG];exact hR⟩
    ·have h8:k<8:=ai;have e8:((k:Int) == 8)=false:=(by simp;omega);have hand:=i64_and127 c;have hpk:(128:Int) ^ k=2 ^ (7*k):=(by rw [Int.pow_mul];rfl);have hp0:(0:Int)<2 ^ (7*k):=Int.pow_pos bY;have hp1:(2:Int) ^ (7*k)<=562949953421312:=by
      have h1:(2:Nat) ^ (7*k)<=2 ^ 49:=Nat.pow_le_pow_right bY ai;have h2:((2 ^ (7*k):Nat):Int)<=((2 ^ 49:Nat):Int):=Int.ofNat_le.2 h1;simpa using h2
     have hm0:0<=c%128*2 ^ (7*k):=Int.mul_nonneg ai ai;have LP:c%128*2 ^ (7*k)<=127*562949953421312:=Int.mul_le_mul ai hp1 ai bY;have hsh:wrap64 (c%128*2 ^ (7*k))=c%128*2 ^ (7*k):=IntWalk.wrap64_in _ ai;have hor:bits .or .i64 n (c%128*2 ^ (7*k))=n+c%128*128 ^ k:=by
      have hn:=HN.out;rw [hpk]at hn ⊢;rw [bits_join_low .i64 63 bY (fun n h0 h1=>bI _ ai) (7*k) n (c%128*2 ^ (7*k)) hn.1 hn.2 ai hm0 (Int.mul_emod_left _ _) ai]
     have HR:=ag (show 0<=n+c%128*128 ^ k/\n+c%128*128 ^ k<128 ^ (k+1) by
      have hn:=HN.out;rw [Int.pow_succ,hpk]at *;have:=Int.mul_le_mul_of_nonneg_right (show c%128<=127 by omega) (Int.le_of_lt hp0);omega)
     have hq:¬(0<(k:Int)/\c=0):=ai;clear hpk hp0 hp1 hm0 LP HN;obtain⟨N,hN⟩:=bG (n+c%128*128 ^ k);rw [hN]at hor HR;by_cases hc:c<128
     ·have HG:=ag (Ld HE (HL.trans (QY hbad hc)));have hcc:c*128 ^ k=c%128*128 ^ k:=(by congr 1;omega);rw [hcc,hN]at HG;clear hcc hN HL HE;by_cases iy:(0:Int)<(k:Int)
      ·have hc0:(c == 0)=false:=(by simp;omega);clear hbad hq;go_wp2_with fail;go_ret;exact⟨by rw [HG];rfl,HT,_,by rw [HG];exact HB⟩
      ·obtain rfl:k=0:=ai;have hk1:((0:Nat):Int)=0:=rfl;have agk:bits .or .i64 n (c%128)=N:=(by simpa using hor);rw [hk1]at e8 ⊢;clear hbad hq iy hk1 e8;go_wp2_with fail;go_ret;exact⟨by rw [HG];rfl,HT,_,by rw [HG];exact HB⟩
     ·have HL:=ag (HL.trans (UI hbad hc));rw [hN]at HL;have hc1:decide (c<128)=false:=xA hc;clear hN HE;by_cases iy:(0:Int)<(k:Int)
      ·have hc0:(c == 0)=false:=(by simp;omega);clear hbad hq hc;go_wp2_with fail;go_roundg (9-(k+1))
       case measure=>omega
       case rel=>exact⟨k+1,N,_,b,ai,rfl,by go_num,rfl,HR,ag ⟨HT,HB,HL⟩⟩
      ·obtain rfl:k=0:=ai;have hk1:((0:Nat):Int)=0:=rfl;have agk:bits .or .i64 n (c%128)=N:=(by simpa using hor);rw [hk1]at e8 ⊢;clear hbad hq iy hc hk1 e8;go_wp2_with fail;go_roundg (9-(0+1))
       case measure=>omega
       case rel=>exact⟨0+1,N,_,b,ai,rfl,by go_num,rfl,HR,ag ⟨HT,HB,HL⟩⟩
 ·have HG:=ag (H7 he);obtain⟨c0,c1,cf⟩:=h.cells;have hd:(r.e == 0)=false:=by simpa using he
  clear h he;go_enter Tryz.func85,Tryz.ntmps85;go_wp2_with fail
  go_loopg [3,4] 1 (fun g nv iv wr=>g=1/\iv=af 0/\nv=af 0/\wr=w)
  case atStart=>exact⟨rfl,rfl,rfl,rfl⟩
  case round=>
   obtain⟨rfl,rfl,rfl,hwr⟩:=hrel;obtain rfl:=hwr.symm;go_wp2_with fail;go_ret;exact⟨by rw [HG];rfl,aA.refl _ _,_,by rw [HG];exact HR⟩
end
section
variable {rb:Nat} {r:Rd} {w:World}
theorem Ro (n:Int):bits .and .i64 n 1=n%2:=by
 have h1:(BitVec.ofInt 64 1).toNat=2 ^ 1-1:=bY;have key:(BitVec.ofInt 64 n &&& BitVec.ofInt 64 1).toNat=(n%((2 ^ 64:Nat):Int)).toNat%2 ^ 1:=by
  rw [BitVec.toNat_and,BitVec.toNat_ofInt,h1,Nat.and_two_pow_sub_one_eq_mod]
 show IntKind.i64.wrap ((BitVec.ofInt 64 n &&& BitVec.ofInt 64 1).toNat:Nat)=n%2;rw [key,IntKind.wrap_i64];omega
theorem vt {v:Value} (h:il w rb v r):Calls Tryz.prog 86 #[.pointer (some (rb,0))] w fun x w'=>x = .returned (af r.vv.2)/\jl rb w w'/\∃v',il w' rb v' r.vv.1:=by
 have HN:=ag (rU h);have hr:=vL h.ok;have sJ:=ag (show r.vv.1=r.num.1 from rfl);have Ka:=ag (show r.vv.2=xP r.num.2 from rfl);obtain⟨n,hn⟩:=bG (r.num.2);rw [hn]at HN hr Ka;have ha:=Ro n;clear h hn;by_cases ho:n%2=1
 ·have HV:=ag (show (-(n+1)).tdiv 2=xP n by
   unfold xP;rw [aw ho,Int.neg_tdiv,Dw ai])
  have hw1:IntKind.i64.wrap (n+1)=n+1:=bI _ ai;have hw2:IntKind.i64.wrap (-(n+1)) = -(n+1):=bI _ ai;obtain⟨V,hV⟩:=bG ((-(n+1)).tdiv 2);have hw3:IntKind.i64.wrap V=V:=by rw [<-hV,HV];unfold xP;rw [aw ho];exact bI _ ai
  rw [hV]at HV;rw [ho]at ha;clear ho;go_enter Tryz.func86,Tryz.ntmps86;go_wp2_with (go_at_call 85;(with_reducible refine HN.out.mono ?_);rintro e w1 ⟨rfl,hT,v1,hR⟩);go_ret;exact⟨ij (by rw [Ka,<-HV]),hT,v1,by rw [sJ];exact hR⟩
 ·have hev:(n%2 == 1)=false:=by simpa using ho
  have HV:=ag (show n.tdiv 2=xP n by
   unfold xP;rw [ar ho,Dw ai])
  obtain⟨V,hV⟩:=bG (n.tdiv 2);have hw3:IntKind.i64.wrap V=V:=by rw [<-hV,HV];unfold xP;rw [ar ho];exact bI _ ai
  rw [hV]at HV;clear ho;go_enter Tryz.func86,Tryz.ntmps86;go_wp2_with (go_at_call 85;(with_reducible refine HN.out.mono ?_);rintro e w1 ⟨rfl,hT,v1,hR⟩);go_ret;exact⟨ij (by rw [Ka,<-HV]),hT,v1,by rw [sJ];exact hR⟩
theorem Dc {v:Value} {most:Int} (h:il w rb v r):Calls Tryz.prog 83 #[.pointer (some (rb,0)),af most] w fun x w'=>x = .returned (af (r.cnt most).2)/\jl rb w w'/\∃v',il w' rb v' (r.cnt most).1:=by
 have HN:=ag (rU h);by_cases hm:most<r.num.2
 ·have HC:=ag (show r.cnt most=(r.num.1.wrong 1,0)from aw hm);obtain⟨n,hn⟩:=bG (r.num.2);rw [hn]at HN hm;clear h hn;go_enter Tryz.func83,Tryz.ntmps83;go_wp2_with (first|(go_at_call 85;(with_reducible refine HN.out.mono ?_);rintro e w1 ⟨rfl,hT,v1,hR⟩)|(go_at_call 84;(with_reducible refine(pN hR).mono ?_);rintro e w2 ⟨rfl,hT2,hR2⟩));go_ret;exact⟨ij (by rw [HC]),hT.trans hT2,v1,by rw [HC];exact hR2⟩
 ·have HC:=ag (show r.cnt most=r.num from ar hm);have hd:decide (most<r.num.2)=false:=xA hm;obtain⟨n,hn⟩:=bG (r.num.2);have P4:=ag hn;rw [hn]at HN hd;clear h hn hm;go_enter Tryz.func83,Tryz.ntmps83;go_wp2_with (go_at_call 85;(with_reducible refine HN.out.mono ?_);rintro e w1 ⟨rfl,hT,v1,hR⟩);go_ret;exact⟨ij (by rw [HC,P4]),hT,v1,by rw [HC];exact hR⟩
end
end Go.Proofs.YtmljjfhgciaceaaGreatDoor
