/- Texts of mine that come as one: DecP DecQ Rdr RdrN RdrS. -/
import Derived.Test.YtnjfkcimboidnaaDoorBG
import Derived.Laws.BytesArg
import Derived.Test.YtnjfkcimboidnaaDoorKG
/- Bytes read back: what file.Decode reads, number by number. Plain. -/
namespace Go.Proofs.YtnjfkcimboidnaaDoor
def numL:Nat→Int→List Int→List Int×Int×Int
 |_,_,[]=>([],5,0)
 |i,n,c::r=>if i=8∨(0<i∧c=0) then(r,4,0)else if c<128 then(r,0,n+c*128 ^ i)else numL (i+1) (n+(c%128)*128 ^ i) r
theorem numL_err:∀{b:List Int} {i:Nat} {n:Int} {r:List Int} {e v:Int},numL i n b=(r,e,v)→e≠0→v=0∧(e=4∨e=5)
 |[],i,n,r,e,v,h,he=>by
  unfold numL at h
  simp only [Prod.mk.injEq]at h
  omega
 |c::b,i,n,r,e,v,h,he=>by
  unfold numL at h
  split at h
  ·simp only [Prod.mk.injEq]at h;omega
  ·split at h
   ·simp only [Prod.mk.injEq]at h;omega
   ·exact numL_err h he
theorem numL_is:∀{b:List Int} {i:Nat} {n:Int} {r:List Int} {v:Int},(∀c∈b,0≤c∧c≤255)→i≤8→numL i n b=(r,0,v) →
  ∃m:Nat,v=n+m*128 ^ i∧b=sevensL m++r∧(0<i→0<m)∧m<128 ^ (8-i)
 |[],i,n,r,v,hb,hi,h=>by
  unfold numL at h
  simp only [Prod.mk.injEq]at h
  omega
 |c::b,i,n,r,v,hb,hi,h=>by
  have hc:=hb c (by simp)
  unfold numL at h
  split at h
  ·simp only [Prod.mk.injEq]at h;omega
  ·rename_i h1
   have hi8:i<8:=by omega
   have hpow:(128:Nat) ^ (8-i)=128*128 ^ (8-(i+1)):=by
    have:8-i=(8-(i+1))+1:=by omega
    rw [this,Nat.pow_succ,Nat.mul_comm]
   have hpos:0<(128:Nat) ^ (8-(i+1)):=Nat.pow_pos (by decide)
   split at h
   ·rename_i h2
    simp only [Prod.mk.injEq]at h
    obtain⟨rfl,-,rfl⟩:=h
    refine⟨c.toNat,by rw [Int.toNat_of_nonneg hc.1],?_,fun hi0=>by omega,by rw [hpow];omega⟩
    rw [sevens_low (by omega),Int.toNat_of_nonneg hc.1];rfl
   ·rename_i h2
    obtain⟨m,rfl,rfl,h3,h4⟩:=numL_is (fun x hx=>hb x (by simp [hx])) (by omega) h
    have h3:=h3 (by omega)
    refine⟨(c%128).toNat+128*m,?_,?_,fun _=>by omega,by rw [hpow];omega⟩
    ·have e1:(((c%128).toNat+128*m:Nat):Int)=c%128+128*(m:Int):=by omega
     rw [e1,Int.add_mul,Int.pow_succ,Int.mul_comm (128:Int) (m:Int),Int.mul_assoc,Int.mul_comm (128:Int) (128 ^ i)];omega
    ·have e1:((c%128).toNat+128*m)%128=(c%128).toNat:=by omega
     have e2:((c%128).toNat+128*m)/128=m:=by omega
     rw [sevens_high (n:=(c%128).toNat+128*m) (by omega),e1,e2,List.cons_append]
     congr 1
     omega
theorem numL_of:∀(m:Nat) {i:Nat} {n:Int} {r:List Int},i≤7→(0<i→0<m)→m<128 ^ (8-i)→numL i n (sevensL m++r)=(r,0,n+m*128 ^ i):=by
 intro m
 induction m using Nat.strongRecOn with
 |_ m ih=>
  intro i n r hi h0 h1
  have hpow:(128:Nat) ^ (8-i)=128*128 ^ (8-(i+1)):=by
   have:8-i=(8-(i+1))+1:=by omega
   rw [this,Nat.pow_succ,Nat.mul_comm]
  by_cases hm:m<128
  ·rw [sevens_low hm,List.singleton_append]
   unfold numL
   rw [if_neg (by omega),if_pos (by omega)]
  ·rw [sevens_high hm,List.cons_append]
   unfold numL
   rw [if_neg (by omega),if_neg (by omega)]
   have h2:m/128<128 ^ (8-(i+1)):=by
    rw [hpow]at h1
    rw [Nat.div_lt_iff_lt_mul (by decide),Nat.mul_comm];exact h1
   by_cases hi7:i=7
   ·subst hi7
    simp at h2
    omega
   ·rw [ih (m/128) (by omega) (by omega) (fun _=>by omega) h2]
    simp only [Prod.mk.injEq,true_and]
    have e1:(128+(m%128:Nat):Int)%128=(m%128:Nat):=by omega
    have e2:(m:Int)=(m%128:Nat)+128*(m/128:Nat):=by omega
    rw [e1,e2,Int.add_mul,Int.pow_succ,Int.mul_comm (128:Int) ((m/128:Nat):Int),Int.mul_assoc,Int.mul_comm (128:Int) (128 ^ i)]
    omega
theorem nums_str {xs:List Int} (h:AllBytes xs):nums (strOfNums xs)=xs:=by
 unfold nums strOfNums
 simp only [List.map_map]
 refine(List.map_congr_left fun c hc=>?_).trans (List.map_id xs)
 have:=h c hc
 simp only [Function.comp,UInt8.toNat_ofNat',id]
 omega
theorem str_nums (s:ByteArray):strOfNums (nums s)=s:=by
 unfold nums strOfNums
 simp only [List.map_map]
 have:(s.data.toList.map ((fun n:Int=>UInt8.ofNat n.toNat)∘fun b:UInt8=>(b.toNat:Int)))=s.data.toList:=
  (List.map_congr_left fun c _=>by simp [Function.comp]).trans (List.map_id _)
 rw [this]
theorem numL_suffix:∀{b:List Int} {i:Nat} {n:Int},∃p,b=p++(numL i n b).1
 |[],i,n=>⟨[],rfl⟩
 |c::b,i,n=>by
  unfold numL
  split
  ·exact⟨[c],rfl⟩
  ·split
   ·exact⟨[c],rfl⟩
   ·obtain⟨p,hp⟩:=@numL_suffix b (i+1) (n+(c%128)*128 ^ i)
    exact⟨c::p,by rw [List.cons_append,←hp]⟩
structure Rd where
 b:List Int
 e:Int
def Rd.num (r:Rd):Rd×Int:=if r.e=0 then(⟨(numL 0 0 r.b).1,(numL 0 0 r.b).2.1⟩,(numL 0 0 r.b).2.2) else(r,0)
def Rd.wrong (r:Rd) (e:Int):Rd:=if r.e=0 then⟨r.b,e⟩else r
def sgnI (n:Int):Int:=if n%2=1 then -((n+1)/2)else n/2
def Rd.sgn (r:Rd):Rd×Int:=(r.num.1,sgnI r.num.2)
def Rd.cnt (r:Rd) (most:Int):Rd×Int:=if most<r.num.2 then(r.num.1.wrong 1,0)else r.num
theorem num_stop {r:Rd} (h:r.e≠0):r.num=(r,0):=by unfold Rd.num;rw [if_neg h]
theorem num_suffix (r:Rd):∃p,r.b=p++r.num.1.b:=by
 unfold Rd.num
 split
 ·exact numL_suffix
 ·exact⟨[],rfl⟩
theorem num_bytes {r:Rd} (h:AllBytes r.b):AllBytes r.num.1.b:=by
 obtain⟨p,hp⟩:=num_suffix r
 intro c hc
 exact h c (by rw [hp];simp [hc])
theorem num_ok {r:Rd} (hb:AllBytes r.b) (h:r.num.1.e=0):r.e=0∧∃m:Nat,r.num.2=m∧r.b=sevensL m++r.num.1.b∧m<72057594037927936:=by
 by_cases he:r.e=0
 ·refine⟨he,?_⟩
  unfold Rd.num at h ⊢
  rw [if_pos he]at h ⊢
  simp only at h ⊢
  obtain⟨m,h1,h2,-,h4⟩:=numL_is (i:=0) (n:=0) (r:=(numL 0 0 r.b).1) (v:=(numL 0 0 r.b).2.2) hb (by decide) (Prod.ext rfl (Prod.ext h rfl))
  exact⟨m,by simpa using h1,h2,by simpa using h4⟩
 ·rw [num_stop he]at h;exact absurd h he
theorem num_fail {r:Rd} (h:r.num.1.e≠0):r.num.2=0:=by
 unfold Rd.num at h ⊢
 split
 ·rename_i he
  rw [if_pos he]at h
  exact(numL_err (r:=(numL 0 0 r.b).1) (e:=(numL 0 0 r.b).2.1) rfl h).1
 ·rfl
theorem num_range {r:Rd} (hb:AllBytes r.b):0≤r.num.2∧r.num.2<72057594037927936:=by
 by_cases h:r.num.1.e=0
 ·obtain⟨-,m,h1,-,h2⟩:=num_ok hb h
  omega
 ·rw [num_fail h];decide
theorem num_back {m:Nat} {t:List Int} (h:m<72057594037927936):(Rd.mk (sevensL m++t) 0).num=(⟨t,0⟩,(m:Int)):=by
 have:=numL_of m (i:=0) (n:=0) (r:=t) (by decide) (fun h=>absurd h (by decide)) (by simpa using h)
 unfold Rd.num
 rw [if_pos rfl]
 simp only [this]
 simp
theorem sgn_zigs {m:Nat}:zigsL (sgnI m)=sevensL m:=by
 unfold zigsL sgnI
 split
 ·rename_i h;rw [if_pos (by omega)];congr 1;omega
 ·rename_i h;rw [if_neg (by omega)];congr 1;omega
theorem sgn_ok {r:Rd} (hb:AllBytes r.b) (h:r.sgn.1.e=0):r.e=0∧r.b=zigsL r.sgn.2++r.sgn.1.b:=by
 obtain⟨h1,m,h2,h3,-⟩:=num_ok hb h
 refine⟨h1,?_⟩
 show r.b=zigsL (sgnI r.num.2)++r.num.1.b
 rw [h2,sgn_zigs];exact h3
theorem sgn_back {v:Int} {t:List Int} (h1 : -18014398509481984<v) (h2:v<18014398509481984):(Rd.mk (zigsL v++t) 0).sgn=(⟨t,0⟩,v):=by
 have key:∀m:Nat,m<72057594037927936→zigsL v=sevensL m→sgnI m=v→(Rd.mk (zigsL v++t) 0).sgn=(⟨t,0⟩,v):=fun m hm e1 e2=>by
  unfold Rd.sgn
  rw [e1,num_back hm]
  simp only [e2]
 unfold zigsL at key
 by_cases h:v<0
 ·exact key (-2*v-1).toNat (by omega) (if_pos h) (by unfold sgnI;rw [if_pos (by omega)];omega)
 ·exact key (2*v).toNat (by omega) (if_neg h) (by unfold sgnI;rw [if_neg (by omega)];omega)
theorem wrong_e {r:Rd} {e:Int} (he:e≠0):(r.wrong e).e≠0:=by
 unfold Rd.wrong;split
 ·exact he
 ·assumption
theorem wrong_b {r:Rd} {e:Int}:(r.wrong e).b=r.b:=by unfold Rd.wrong;split <;> rfl
theorem cnt_ok {r:Rd} {most:Int} (hb:AllBytes r.b) (h:(r.cnt most).1.e=0):r.e=0∧∃m:Nat,(r.cnt most).2=m∧r.b=sevensL m++(r.cnt most).1.b∧(m:Int)≤most:=by
 unfold Rd.cnt at h ⊢
 split
 ·rename_i h1;rw [if_pos h1]at h;exact absurd h (wrong_e (by decide))
 ·rename_i h1
  rw [if_neg h1]at h
  obtain⟨h2,m,h3,h4,-⟩:=num_ok hb h
  exact⟨h2,m,h3,h4,by omega⟩
theorem cnt_bytes {r:Rd} {most:Int} (h:AllBytes r.b):AllBytes (r.cnt most).1.b:=by
 unfold Rd.cnt
 split
 ·rw [wrong_b];exact num_bytes h
 ·exact num_bytes h
theorem cnt_range {r:Rd} {most:Int} (hm:0≤most) (h:AllBytes r.b):0≤(r.cnt most).2∧(r.cnt most).2≤most:=by
 have:=num_range h
 unfold Rd.cnt
 split
 ·exact⟨Int.le_refl _,hm⟩
 ·exact⟨this.1,by omega⟩
theorem cnt_back {m:Nat} {t:List Int} {most:Int} (h:m<72057594037927936) (hm:(m:Int)≤most):(Rd.mk (sevensL m++t) 0).cnt most=(⟨t,0⟩,(m:Int)):=by
 unfold Rd.cnt
 rw [num_back h,if_neg (by simp only;omega)]
def namesD:Nat→Rd→List ByteArray→Rd×List ByteArray
 |0,r,ns=>(r,ns)
 |k+1,r,ns=>if r.e≠0 then(r,ns) else
  if (r.cnt 10).1.e=0∧(r.cnt 10).2≤(r.cnt 10).1.b.length then namesD k ⟨(r.cnt 10).1.b.drop (r.cnt 10).2.toNat,0⟩ (ns++[strOfNums ((r.cnt 10).1.b.take (r.cnt 10).2.toNat)])
  else(if (r.cnt 10).1.e=0 then⟨(r.cnt 10).1.b,5⟩ else(r.cnt 10).1,ns)
theorem namesD_stop {k:Nat} {r:Rd} {ns:List ByteArray} (h:r.e≠0):namesD k r ns=(r,ns):=by
 cases k with
 |zero=>rfl
 |succ k=>unfold namesD;rw [if_pos h]
theorem namesD_ok:∀{k:Nat} {r:Rd} {ns:List ByteArray},AllBytes r.b→(namesD k r ns).1.e=0→r.e=0∧∃xs:List ByteArray,(namesD k r ns).2=ns++xs∧xs.length=k∧r.b=namesL xs++(namesD k r ns).1.b
 |0,r,ns,_,h=>⟨h,[],by simp [namesD],rfl,by simp [namesD,namesL]⟩
 |k+1,r,ns,hb,h=>by
  by_cases he:r.e=0
  ·refine⟨he,?_⟩
   by_cases hc:(r.cnt 10).1.e=0∧(r.cnt 10).2≤(r.cnt 10).1.b.length
   ·have eq:namesD (k+1) r ns=namesD k ⟨(r.cnt 10).1.b.drop (r.cnt 10).2.toNat,0⟩ (ns++[strOfNums ((r.cnt 10).1.b.take (r.cnt 10).2.toNat)]):=by
     rw [namesD,if_neg (not_not_intro he),if_pos hc]
    rw [eq]at h ⊢
    have hb1:=cnt_bytes (most:=10) hb
    obtain⟨-,m,h1,h2,-⟩:=cnt_ok hb hc.1
    have hb2:AllBytes ((r.cnt 10).1.b.drop (r.cnt 10).2.toNat):=fun c hcc=>hb1 c (List.mem_of_mem_drop hcc)
    obtain⟨-,xs,h3,h4,h5⟩:=namesD_ok hb2 h
    refine⟨strOfNums ((r.cnt 10).1.b.take (r.cnt 10).2.toNat)::xs,by rw [h3];simp,by simp [h4],?_⟩
    have hl:(strOfNums ((r.cnt 10).1.b.take (r.cnt 10).2.toNat)).size=m:=by
     rw [strOfNums_size,List.length_take,h1]
     have:=hc.2;omega
    have e1:namesL (strOfNums ((r.cnt 10).1.b.take (r.cnt 10).2.toNat)::xs)=sevensL m++(r.cnt 10).1.b.take (r.cnt 10).2.toNat++namesL xs:=by
     unfold namesL
     rw [List.flatMap_cons,hl,nums_str fun c hcc=>hb1 c (List.mem_of_mem_take hcc)]
    rw [e1,h2,List.append_assoc,List.append_assoc,←h5,List.take_append_drop]
   ·have eq:namesD (k+1) r ns=(if (r.cnt 10).1.e=0 then⟨(r.cnt 10).1.b,5⟩ else(r.cnt 10).1,ns):=by
     rw [namesD,if_neg (not_not_intro he),if_neg hc]
    rw [eq]at h
    simp only at h
    split at h
    ·cases h
    ·rename_i h1;exact absurd h h1
  ·rw [namesD_stop he]at h;exact absurd h he
theorem namesD_back:∀{xs:List ByteArray} {t:List Int} {ns:List ByteArray},(∀s∈xs,s.size≤10)→namesD xs.length ⟨namesL xs++t,0⟩ ns=(⟨t,0⟩,ns++xs)
 |[],t,ns,_=>by simp [namesD,namesL]
 |s::xs,t,ns,h=>by
  have hs:=h s (by simp)
  have e1:namesL (s::xs)++t=sevensL s.size++(nums s++(namesL xs++t)):=by simp [namesL]
  have hc:(Rd.mk (namesL (s::xs)++t) 0).cnt 10=(⟨nums s++(namesL xs++t),0⟩,(s.size:Int)):=by
   rw [e1];exact cnt_back (by omega) (by omega)
  rw [List.length_cons,namesD,if_neg (by simp),hc,if_pos ⟨rfl,by simp [nums_length];omega⟩]
  simp only [Int.toNat_natCast]
  have e2:(nums s++(namesL xs++t)).drop s.size=namesL xs++t:=by
   rw [←nums_length s];exact List.drop_left
  have e3:(nums s++(namesL xs++t)).take s.size=nums s:=by
   rw [←nums_length s];exact List.take_left
  rw [e2,e3,str_nums,namesD_back fun x hx=>h x (by simp [hx])]
  simp
theorem namesD_bytes:∀{k:Nat} {r:Rd} {ns:List ByteArray},AllBytes r.b→AllBytes (namesD k r ns).1.b
 |0,r,ns,h=>h
 |k+1,r,ns,h=>by
  have hb1:=cnt_bytes (most:=10) h
  unfold namesD
  split
  ·exact h
  ·split
   ·exact namesD_bytes fun c hc=>hb1 c (List.mem_of_mem_drop hc)
   ·show AllBytes (if _ then _ else _:Rd).b
    split <;> exact hb1
def keyL (l:List Ent):Int:=match l.getLast? with|none=>0|some e=>e.key
theorem keyL_snoc (l:List Ent) (x:Ent):keyL (l++[x])=x.key:=by simp [keyL]
def entD (r:Rd) (key:Int):Rd×Ent:=
 (r.num.1.num.1.sgn.1.sgn.1.sgn.1.sgn.1,⟨key+r.num.2,⟨r.num.1.num.2,r.num.1.num.1.sgn.2,r.num.1.num.1.sgn.1.sgn.2,r.num.1.num.1.sgn.1.sgn.1.sgn.2,(key+r.num.2)%1048576,r.num.1.num.1.sgn.1.sgn.1.sgn.1.sgn.2⟩⟩)
def entBad (l:List Ent) (x:Ent):Prop:=1099511627776≤x.key∨x.is.c=0∨(l≠[]∧x.key≤keyL l)
instance (l:List Ent) (x:Ent):Decidable (entBad l x):=by unfold entBad;infer_instance
def entW (r:Rd) (l:List Ent):Rd:=if (entD r (keyL l)).1.e=0∧entBad l (entD r (keyL l)).2 then⟨(entD r (keyL l)).1.b,7⟩ else(entD r (keyL l)).1
def entsD:Nat→Rd→List Ent→Rd×List Ent
 |0,r,l=>(r,l)
 |k+1,r,l=>if r.e≠0 then(r,l)else entsD k (entW r l) (l++[(entD r (keyL l)).2])
theorem entsD_stop {k:Nat} {r:Rd} {l:List Ent} (h:r.e≠0):entsD k r l=(r,l):=by
 cases k with
 |zero=>rfl
 |succ k=>unfold entsD;rw [if_pos h]
theorem entD_ok {r:Rd} {key:Int} (hb:AllBytes r.b) (h:(entD r key).1.e=0):r.e=0∧key≤(entD r key).2.key∧r.b=entL key (entD r key).2++(entD r key).1.b∧(entD r key).2.is.t=(entD r key).2.key%1048576∧0≤(entD r key).2.is.c:=by
 have b1:=num_bytes hb
 have b2:=num_bytes b1
 have b3:AllBytes r.num.1.num.1.sgn.1.b:=num_bytes b2
 have b4:AllBytes r.num.1.num.1.sgn.1.sgn.1.b:=num_bytes b3
 have b5:AllBytes r.num.1.num.1.sgn.1.sgn.1.sgn.1.b:=num_bytes b4
 obtain⟨e6,h6⟩:=sgn_ok b5 h
 obtain⟨e5,h5⟩:=sgn_ok b4 e6
 obtain⟨e4,h4⟩:=sgn_ok b3 e5
 obtain⟨e3,h3⟩:=sgn_ok b2 e4
 obtain⟨e2,c,hc,h2,-⟩:=num_ok b1 e3
 obtain⟨e1,d,hd,h1,-⟩:=num_ok hb e2
 refine⟨e1,?_,?_,rfl,?_⟩
 ·show key≤key+r.num.2;omega
 ·rw [h1,h2,h3,h4,h5,h6]
  unfold entL
  show _=sevensL (key+r.num.2-key).toNat++sevensL (r.num.1.num.2).toNat++_++_++_++_++_
  have e1:(key+r.num.2-key).toNat=d:=by omega
  have e2:(r.num.1.num.2).toNat=c:=by omega
  rw [e1,e2]
  simp only [List.append_assoc]
  rfl
 ·show 0≤r.num.1.num.2;omega
theorem entD_bytes {r:Rd} {key:Int} (hb:AllBytes r.b):AllBytes (entD r key).1.b:=
 num_bytes (num_bytes (num_bytes (num_bytes (num_bytes (num_bytes hb)))))
theorem entW_bytes {r:Rd} {l:List Ent} (hb:AllBytes r.b):AllBytes (entW r l).b:=by
 unfold entW;split <;> exact entD_bytes hb
theorem entsL_cons (last:Int) (e:Ent) (l:List Ent):entsL last (e::l)=entL last e++entsL e.key l:=rfl
def EntsRead (l xs:List Ent):Prop:=(∀e∈xs,0≤e.key∧e.key<1099511627776∧0<e.is.c∧e.is.t=e.key%1048576)∧Rising xs∧(l≠[]→∀e∈xs,keyL l<e.key)
theorem entsD_ok:∀{k:Nat} {r:Rd} {l:List Ent},AllBytes r.b→0≤keyL l→(entsD k r l).1.e=0→r.e=0∧∃xs:List Ent,(entsD k r l).2=l++xs∧xs.length=k∧r.b=entsL (keyL l) xs++(entsD k r l).1.b∧EntsRead l xs
 |0,r,l,_,_,h=>⟨h,[],by simp [entsD],rfl,by simp [entsD,entsL],fun e he=>(by cases he),List.Pairwise.nil,fun _ e he=>(by cases he)⟩
 |k+1,r,l,hb,hk,h=>by
  by_cases he:r.e=0
  ·refine⟨he,?_⟩
   have eq:entsD (k+1) r l=entsD k (entW r l) (l++[(entD r (keyL l)).2]):=by rw [entsD,if_neg (not_not_intro he)]
   rw [eq]at h ⊢
   have hb1:=entW_bytes (l:=l) hb
   by_cases hw:(entD r (keyL l)).1.e=0∧entBad l (entD r (keyL l)).2
   ·have:(entW r l).e≠0:=by unfold entW;rw [if_pos hw];show (7:Int)≠0;decide
    rw [entsD_stop this]at h
    exact absurd h this
   ·have ew:entW r l=(entD r (keyL l)).1:=by unfold entW;rw [if_neg hw]
    by_cases h0:(entD r (keyL l)).1.e=0
    ·obtain⟨-,d1,d2,d3,d4⟩:=entD_ok hb h0
     obtain⟨-,xs,h3,h4,h5,h6⟩:=entsD_ok hb1 (by rw [keyL_snoc];omega) h
     have hnb:¬entBad l (entD r (keyL l)).2:=fun hh=>hw ⟨h0,hh⟩
     unfold EntsRead at h6
     rw [keyL_snoc]at h5 h6
     unfold entBad at hnb
     refine⟨(entD r (keyL l)).2::xs,by rw [h3];simp,by simp [h4],?_,?_,?_,?_⟩
     ·rw [entsL_cons,List.append_assoc,←h5,ew];exact d2
     ·intro e hee
      rcases List.mem_cons.1 hee with rfl|hee
      ·exact⟨by omega,by omega,by omega,d3⟩
      ·exact h6.1 e hee
     ·exact List.pairwise_cons.2 ⟨fun e hee=>h6.2.2 (by simp) e hee,h6.2.1⟩
     ·intro hl e hee
      have h7:keyL l<(entD r (keyL l)).2.key:=by
       refine Int.not_le.1 fun hle=>hnb (.inr (.inr ⟨hl,hle⟩))
      rcases List.mem_cons.1 hee with rfl|hee
      ·exact h7
      ·have:=h6.2.2 (by simp) e hee;omega
    ·rw [entsD_stop (by rw [ew];exact h0)]at h
     rw [ew]at h
     exact absurd h h0
  ·rw [entsD_stop he]at h;exact absurd h he
def EntFit (e:Ent):Prop:=0≤e.key∧e.key<1099511627776∧0<e.is.c∧e.is.c<72057594037927936∧e.is.t=e.key%1048576∧(-18014398509481984<e.is.s∧e.is.s<18014398509481984)∧(-18014398509481984<e.is.mi∧e.is.mi<18014398509481984)∧(-18014398509481984<e.is.ma∧e.is.ma<18014398509481984)∧(-18014398509481984<e.is.l∧e.is.l<18014398509481984)
theorem entD_back {key:Int} {e:Ent} {t:List Int} (h:EntFit e) (hk:key≤e.key) (h0:0≤key):entD ⟨entL key e++t,0⟩ key=(⟨t,0⟩,e):=by
 obtain⟨k1,k2,c1,c2,ht,s,mi,ma,la⟩:=h
 have e0:entL key e++t=sevensL (e.key-key).toNat++(sevensL e.is.c.toNat++(zigsL e.is.s++(zigsL e.is.mi++(zigsL e.is.ma++(zigsL e.is.l++t))))):=by
  unfold entL;simp only [List.append_assoc]
 have n1:=num_back (m:=(e.key-key).toNat) (t:=sevensL e.is.c.toNat++(zigsL e.is.s++(zigsL e.is.mi++(zigsL e.is.ma++(zigsL e.is.l++t))))) (by omega)
 have n2:=num_back (m:=e.is.c.toNat) (t:=zigsL e.is.s++(zigsL e.is.mi++(zigsL e.is.ma++(zigsL e.is.l++t)))) (by omega)
 have n3:=sgn_back (v:=e.is.s) (t:=zigsL e.is.mi++(zigsL e.is.ma++(zigsL e.is.l++t))) s.1 s.2
 have n4:=sgn_back (v:=e.is.mi) (t:=zigsL e.is.ma++(zigsL e.is.l++t)) mi.1 mi.2
 have n5:=sgn_back (v:=e.is.ma) (t:=zigsL e.is.l++t) ma.1 ma.2
 have n6:=sgn_back (v:=e.is.l) (t:=t) la.1 la.2
 rw [e0]
 unfold entD
 rw [n1]
 simp only
 rw [n2]
 simp only
 rw [n3]
 simp only
 rw [n4]
 simp only
 rw [n5]
 simp only
 rw [n6]
 simp only
 have k3:key+((e.key-key).toNat:Int)=e.key:=by omega
 have k4:((e.is.c.toNat:Nat):Int)=e.is.c:=by omega
 rw [k3,k4,←ht]
theorem entsD_back:∀{xs:List Ent} {l:List Ent} {t:List Int},0≤keyL l→(∀e∈xs,EntFit e)→Rising xs→(∀e∈xs,keyL l≤e.key)→(l≠[]→∀e∈xs,keyL l<e.key)→entsD xs.length ⟨entsL (keyL l) xs++t,0⟩ l=(⟨t,0⟩,l++xs)
 |[],l,t,_,_,_,_,_=>by simp [entsD,entsL]
 |e::xs,l,t,h0,hf,hr,hk,hl=>by
  have hc:=List.pairwise_cons.1 hr
  have he:=hf e (by simp)
  have eb:entD ⟨entsL (keyL l) (e::xs)++t,0⟩ (keyL l)=(⟨entsL e.key xs++t,0⟩,e):=by
   rw [entsL_cons,List.append_assoc]
   exact entD_back he (hk e (by simp)) h0
  rw [List.length_cons,entsD,if_neg (by simp)]
  have ew:entW ⟨entsL (keyL l) (e::xs)++t,0⟩ l=⟨entsL e.key xs++t,0⟩:=by
   unfold entW
   rw [eb]
   refine if_neg fun hh=>?_
   have hb:=hh.2
   unfold entBad at hb
   simp only at hb
   obtain⟨k1,k2,c1,-⟩:=he
   rcases hb with hb|hb|⟨hb1,hb2⟩
   ·omega
   ·omega
   ·have:=hl hb1 e (by simp);omega
  rw [ew,eb]
  simp only
  have:=entsD_back (xs:=xs) (l:=l++[e]) (t:=t) (by rw [keyL_snoc];exact he.1) (fun x hx=>hf x (by simp [hx])) hc.2 (fun x hx=>by rw [keyL_snoc];exact Int.le_of_lt (hc.1 x hx)) (fun _ x hx=>by rw [keyL_snoc];exact hc.1 x hx)
  rw [keyL_snoc]at this
  rw [this]
  simp
def bytesM (ns:List ByteArray) (fl:Int) (l:List Ent):List Int:=[119,110]++sevensL ns.length++namesL ns++sevensL fl.toNat++sevensL l.length++entsL 0 l
theorem bytesL_eq (b:Ba) (l:List Ent):bytesL b l=bytesM b.names b.floor l:=rfl
def bodyN (b:List Int):Rd×List ByteArray:=namesD ((Rd.mk b 0).cnt 16).2.toNat ((Rd.mk b 0).cnt 16).1 []
def bodyC (b:List Int):Rd×Int:=(bodyN b).1.num.1.cnt 10000
def bodyE (b:List Int):Rd×List Ent:=entsD (bodyC b).2.toNat (bodyC b).1 []
def bodyR (b:List Int):Rd:=if (bodyE b).1.e=0∧0<(bodyE b).1.b.length then⟨(bodyE b).1.b,4⟩ else(bodyE b).1
theorem body_ok {b:List Int} (hb:AllBytes b) (h:(bodyR b).e=0) :
  [119,110]++b=bytesM (bodyN b).2 (bodyN b).1.num.2 (bodyE b).2∧(bodyN b).2.length≤16∧(bodyE b).2.length≤10000∧EntsRead [] (bodyE b).2∧0≤(bodyN b).1.num.2∧(bodyN b).1.num.2<72057594037927936:=by
 have hnil:(bodyE b).1.e=0∧(bodyE b).1.b=[]:=by
  unfold bodyR at h
  split at h
  ·cases h
  ·rename_i hn
   refine⟨h,?_⟩
   cases hh:(bodyE b).1.b with
   |nil=>rfl
   |cons c l=>exact absurd ⟨h,by rw [hh];simp⟩ hn
 have b1:AllBytes ((Rd.mk b 0).cnt 16).1.b:=cnt_bytes hb
 have b2:AllBytes (bodyN b).1.b:=namesD_bytes b1
 have b3:AllBytes (bodyN b).1.num.1.b:=num_bytes b2
 have b4:AllBytes (bodyC b).1.b:=cnt_bytes b3
 obtain⟨e4,xs,h41,h42,h43,h44⟩:=entsD_ok (l:=[]) b4 (Int.le_refl _) hnil.1
 obtain⟨e3,c,h31,h32,h33⟩:=cnt_ok b3 e4
 obtain⟨e2,f,h21,h22,h23⟩:=num_ok b2 e3
 obtain⟨e1,ys,h11,h12,h13⟩:=namesD_ok b1 e2
 obtain⟨-,n,h01,h02,h03⟩:=cnt_ok (r:=Rd.mk b 0) hb e1
 have g1:(bodyN b).2=ys:=by have:(bodyN b).2=[]++ys:=h11;simpa using this
 have g2:(bodyE b).2=xs:=by have:(bodyE b).2=[]++xs:=h41;simpa using this
 have g3:ys.length=n:=by rw [h12,h01];simp
 have g4:xs.length=c:=by rw [h42];show (bodyC b).2.toNat=c;rw [show (bodyC b).2=(c:Int)from h31];simp
 refine⟨?_,by rw [g1];omega,by rw [g2];omega,by rw [g2];exact h44,by omega,by omega⟩
 rw [g1,g2]
 unfold bytesM
 have hf:((bodyN b).1.num.2).toNat=f:=by omega
 rw [hf,g3,g4]
 have q0:b=sevensL n++((Rd.mk b 0).cnt 16).1.b:=h02
 have q1:((Rd.mk b 0).cnt 16).1.b=namesL ys++(bodyN b).1.b:=h13
 have q2:(bodyN b).1.num.1.b=sevensL c++(bodyC b).1.b:=h32
 have q3:(bodyC b).1.b=entsL 0 xs++(bodyE b).1.b:=h43
 have q:b=sevensL n++(namesL ys++(sevensL f++(sevensL c++(entsL 0 xs++[])))):=by
  rw [←hnil.2,←q3,←q2,←h22,←q1];exact q0
 refine(congrArg (fun x=>[119,110]++x) q).trans ?_
 simp only [List.append_assoc,List.append_nil]
theorem body_back {ns:List ByteArray} {fl:Int} {l:List Ent} (t:List Int) (h1:ns.length≤16) (h2:∀s∈ns,s.size≤10) (h3:0≤fl) (h4:fl<72057594037927936) (h5:l.length≤10000) (h6:∀e∈l,EntFit e) (h7:Rising l) {b:List Int} (hb:[119,110]++b=bytesM ns fl l++t) :
  (bodyN b).2=ns∧(bodyN b).1.num.2=fl∧(bodyE b).2=l∧(bodyE b).1=⟨t,0⟩:=by
 have hb':b=sevensL ns.length++(namesL ns++(sevensL fl.toNat++(sevensL l.length++(entsL 0 l++t)))):=by
  unfold bytesM at hb
  simp only [List.append_assoc,List.cons_append,List.nil_append,List.cons.injEq,true_and]at hb
  exact hb
 subst hb'
 have q1:=cnt_back (m:=ns.length) (t:=namesL ns++(sevensL fl.toNat++(sevensL l.length++(entsL 0 l++t)))) (most:=16) (by omega) (by omega)
 have q2:=namesD_back (xs:=ns) (t:=sevensL fl.toNat++(sevensL l.length++(entsL 0 l++t))) (ns:=[]) h2
 have g1:bodyN (sevensL ns.length++(namesL ns++(sevensL fl.toNat++(sevensL l.length++(entsL 0 l++t)))))=(⟨sevensL fl.toNat++(sevensL l.length++(entsL 0 l++t)),0⟩,ns):=by
  unfold bodyN
  rw [q1]
  simp only [Int.toNat_natCast]
  rw [q2];simp
 have q3:=num_back (m:=fl.toNat) (t:=sevensL l.length++(entsL 0 l++t)) (by omega)
 have q4:=cnt_back (m:=l.length) (t:=entsL 0 l++t) (most:=10000) (by omega) (by omega)
 have g2:bodyC (sevensL ns.length++(namesL ns++(sevensL fl.toNat++(sevensL l.length++(entsL 0 l++t)))))=(⟨entsL 0 l++t,0⟩,(l.length:Int)):=by
  unfold bodyC
  rw [g1]
  simp only
  rw [q3]
  simp only
  rw [q4]
 have q5:=entsD_back (xs:=l) (l:=[]) (t:=t) (Int.le_refl _) h6 h7 (fun e he=>(h6 e he).1) (fun h=>absurd rfl h)
 have g3:bodyE (sevensL ns.length++(namesL ns++(sevensL fl.toNat++(sevensL l.length++(entsL 0 l++t)))))=(⟨t,0⟩,l):=by
  unfold bodyE
  rw [g2]
  simp only [Int.toNat_natCast]
  have:entsL (keyL []) l=entsL 0 l:=rfl
  rw [this]at q5
  rw [q5];simp
 refine⟨by rw [g1],?_,by rw [g3],by rw [g3]⟩
 rw [g1]
 simp only
 rw [q3]
 simp only
 omega
end Go.Proofs.YtnjfkcimboidnaaDoor

/- Whole files: what is refused, and what comes back. Plain. -/
namespace Go.Proofs.YtnjfkcimboidnaaDoor
def bodyOf (bs:List Int):List Int:=(bs.take (bs.length-4)).drop 2
def decE (bs:List Int):Int:=
 if 200000<bs.length then 1 else if bs.length<6 then 5 else if bs.take 2≠[119,110]then 4 else if sealL (bs.take (bs.length-4))≠bs.drop (bs.length-4)then 9 else(bodyR (bodyOf bs)).e
theorem body_bytes {bs:List Int} (h:AllBytes bs):AllBytes (bodyOf bs):=fun c hc=>h c (List.mem_of_mem_take (List.mem_of_mem_drop hc))
theorem body_is {bs:List Int} (h6:¬bs.length<6) (h2:bs.take 2=[119,110]):[119,110]++bodyOf bs=bs.take (bs.length-4):=by
 unfold bodyOf
 have e:(bs.take (bs.length-4)).take 2=[119,110]:=by
  rw [List.take_take,Nat.min_eq_left (by omega)];exact h2
 rw [←e]
 exact List.take_append_drop 2 _
theorem dec_ok {bs:List Int} (hb:AllBytes bs) (h:decE bs=0) :
  bs=bytesM (bodyN (bodyOf bs)).2 (bodyN (bodyOf bs)).1.num.2 (bodyE (bodyOf bs)).2++sealL (bytesM (bodyN (bodyOf bs)).2 (bodyN (bodyOf bs)).1.num.2 (bodyE (bodyOf bs)).2) ∧
  (bodyN (bodyOf bs)).2.length≤16∧(bodyE (bodyOf bs)).2.length≤10000∧EntsRead [] (bodyE (bodyOf bs)).2∧0≤(bodyN (bodyOf bs)).1.num.2∧(bodyN (bodyOf bs)).1.num.2<72057594037927936∧bs.length≤200000:=by
 unfold decE at h
 split at h
 ·cases h
 rename_i h1
 split at h
 ·cases h
 rename_i h2
 split at h
 ·cases h
 rename_i h3
 split at h
 ·cases h
 rename_i h4
 have h3:bs.take 2=[119,110]:=Decidable.not_not.1 h3
 have h4:sealL (bs.take (bs.length-4))=bs.drop (bs.length-4):=Decidable.not_not.1 h4
 obtain⟨g1,g2,g3,g4,g5,g6⟩:=body_ok (body_bytes hb) h
 refine⟨?_,g2,g3,g4,g5,g6,by omega⟩
 rw [←g1,body_is h2 h3,h4]
 exact(List.take_append_drop _ _).symm
theorem seal_len (b:List Int):(sealL b).length=4:=rfl
theorem bytesM_len (ns:List ByteArray) (fl:Int) (l:List Ent):5≤(bytesM ns fl l).length:=by
 have h1:=sevens_pos ns.length
 have h2:=sevens_pos fl.toNat
 have h3:=sevens_pos l.length
 unfold bytesM
 simp only [List.length_append,List.length_cons,List.length_nil]
 omega
theorem bytesM_two (ns:List ByteArray) (fl:Int) (l:List Ent) (t:List Int):(bytesM ns fl l++t).take 2=[119,110]:=rfl
section
variable {ns:List ByteArray} {fl:Int} {l:List Ent}
theorem dec_back (h1:ns.length≤16) (h2:∀s∈ns,s.size≤10) (h3:0≤fl) (h4:fl<72057594037927936) (h5:l.length≤10000) (h6:∀e∈l,EntFit e) (h7:Rising l)
  {bs:List Int} (hbs:bs=bytesM ns fl l++sealL (bytesM ns fl l)) (hl:bs.length≤200000) :
  decE bs=0∧(bodyN (bodyOf bs)).2=ns∧(bodyN (bodyOf bs)).1.num.2=fl∧(bodyE (bodyOf bs)).2=l:=by
 have hlen:bs.length=(bytesM ns fl l).length+4:=by rw [hbs,List.length_append,seal_len]
 have hml:=bytesM_len ns fl l
 have ht:bs.take (bs.length-4)=bytesM ns fl l:=by
  rw [hlen,Nat.add_sub_cancel,hbs];exact List.take_left
 have hd:bs.drop (bs.length-4)=sealL (bytesM ns fl l):=by
  rw [hlen,Nat.add_sub_cancel];rw (config:={occs:= .pos [1]}) [hbs];exact List.drop_left
 have h2':bs.take 2=[119,110]:=by rw [hbs];exact bytesM_two ns fl l _
 have hbo:=body_is (bs:=bs) (by omega) h2'
 rw [ht]at hbo
 obtain⟨g1,g2,g3,g4⟩:=body_back [] h1 h2 h3 h4 h5 h6 h7 (b:=bodyOf bs) (by rw [List.append_nil];exact hbo)
 refine⟨?_,g1,g2,g3⟩
 unfold decE
 rw [if_neg (by omega),if_neg (by omega),if_neg (not_not_intro h2'),if_neg (not_not_intro (by rw [ht,hd]))]
 unfold bodyR
 rw [g4]
 rfl
theorem dec_more (h1:ns.length≤16) (h2:∀s∈ns,s.size≤10) (h3:0≤fl) (h4:fl<72057594037927936) (h5:l.length≤10000) (h6:∀e∈l,EntFit e) (h7:Rising l) (c:Int) :
  decE (bytesM ns fl l++sealL (bytesM ns fl l)++[c])≠0:=by
 obtain⟨bs,hbs⟩:∃bs,bytesM ns fl l++sealL (bytesM ns fl l)++[c]=bs:=⟨_,rfl⟩
 rw [hbs]
 obtain⟨M,hM⟩:∃M,bytesM ns fl l=M:=⟨_,rfl⟩
 have hml:=bytesM_len ns fl l
 rw [hM]at hbs hml
 have hb1:bs=(M++[(sealXY M).2/256])++[(sealXY M).2%256,(sealXY M).1/256,(sealXY M).1%256,c]:=by
  rw [←hbs];simp [sealL]
 have hlen:bs.length=(M++[(sealXY M).2/256]).length+4:=by rw [hb1];simp
 have ht:bs.take (bs.length-4)=M++[(sealXY M).2/256]:=by
  rw [hlen,Nat.add_sub_cancel,hb1];exact List.take_left
 have h2':bs.take 2=[119,110]:=by rw [←hbs,←hM,List.append_assoc];exact bytesM_two ns fl l _
 have hl1:(M++[(sealXY M).2/256]).length=M.length+1:=by simp
 have hbo:=body_is (bs:=bs) (by omega) h2'
 rw [ht,←hM]at hbo
 obtain⟨g1,g2,g3,g4⟩:=body_back [(sealXY (bytesM ns fl l)).2/256] h1 h2 h3 h4 h5 h6 h7 (b:=bodyOf bs) hbo
 unfold decE
 split
 ·decide
 split
 ·decide
 split
 ·decide
 split
 ·decide
 unfold bodyR
 rw [g4,if_pos ⟨rfl,by simp⟩]
 show (4:Int)≠0
 decide
theorem seal_sum:∀(bs:List Int) (p:Int×Int),0≤p.1→p.1<65521→(bs.foldl sealStep p).1=(p.1+bs.sum)%65521
 |[],p,h0,h1=>by simp;omega
 |c::bs,p,h0,h1=>by
  rw [List.foldl_cons,seal_sum bs _ (by unfold sealStep;simp only;omega) (by unfold sealStep;simp only;omega),List.sum_cons]
  unfold sealStep
  simp only
  omega
theorem sealXY_sum (bs:List Int):(sealXY bs).1=(1+bs.sum)%65521:=seal_sum bs (1,0) (by decide) (by decide)
theorem sum_set:∀{bs:List Int} {j:Nat} {c:Int} (h:j<bs.length),(bs.set j c).sum=bs.sum-bs[j]+c
 |b::bs,0,c,_=>by simp;omega
 |b::bs,j+1,c,h=>by
  have:=sum_set (bs:=bs) (j:=j) (c:=c) (by simpa using h)
  simp only [List.set_cons_succ,List.sum_cons,List.getElem_cons_succ]
  omega
theorem seal_inj {a b:List Int} (h:sealL a=sealL b):(sealXY a).1=(sealXY b).1:=by
 unfold sealL at h
 simp only [List.cons.injEq,and_true]at h
 omega
theorem dec_other {bs:List Int} (hb:AllBytes bs) (h6:6≤bs.length) (hs:sealL (bs.take (bs.length-4))=bs.drop (bs.length-4)) {j:Nat} {c:Int} (hj:j<bs.length) (hc:0≤c∧c≤255) (hne:c≠bs[j]):decE (bs.set j c)≠0:=by
 unfold decE
 rw [List.length_set]
 split
 ·decide
 split
 ·decide
 split
 ·decide
 rw [if_pos]
 ·decide
 have hbj:=hb bs[j] (List.getElem_mem hj)
 by_cases hk:j<bs.length-4
 ·have e1:(bs.set j c).take (bs.length-4)=(bs.take (bs.length-4)).set j c:=by rw [List.take_set]
  have e2:(bs.set j c).drop (bs.length-4)=bs.drop (bs.length-4):=by rw [List.drop_set_of_lt hk]
  rw [e1,e2,←hs]
  intro h
  have h1:=seal_inj h
  have hjl:j<(bs.take (bs.length-4)).length:=by rw [List.length_take];omega
  rw [sealXY_sum,sealXY_sum,sum_set hjl,List.getElem_take]at h1
  omega
 ·have e1:(bs.set j c).take (bs.length-4)=bs.take (bs.length-4):=by rw [List.take_set_of_le (by omega)]
  have e2:(bs.set j c).drop (bs.length-4)=(bs.drop (bs.length-4)).set (j-(bs.length-4)) c:=by rw [List.drop_set,if_neg hk]
  rw [e1,e2,hs]
  intro h
  have hjl:j-(bs.length-4)<(bs.drop (bs.length-4)).length:=by rw [List.length_drop];omega
  have h1:=congrArg (fun x=>x[j-(bs.length-4)]?) h
  simp only [List.getElem?_set_self hjl,List.getElem?_eq_getElem hjl,List.getElem_drop,Option.some.injEq]at h1
  have h2:bs.length-4+(j-(bs.length-4))=j:=by omega
  simp only [h2]at h1
  exact hne h1.symm
end
end Go.Proofs.YtnjfkcimboidnaaDoor

/- A reader of bytes in memory: (*reader).wrong, number, signed, count. -/
namespace Go.Proofs.YtnjfkcimboidnaaDoor
open Go.RowKit
structure RdAt (w:World) (rb:Nat) (v:Value) (r:Rd):Prop where
 box:w.heap[rb]?=some (.cells #[v, .int .i64 r.e] 90)
 sl:ByteSl w v r.b
 ok:AllBytes r.b
 form:∃b o c,v = .slice (some ⟨b,o,none⟩) r.b.length c∧b<rb
theorem RdAt.low {w:World} {rb:Nat} {v:Value} {r:Rd} (h:RdAt w rb v r):∀a n c,v = .slice (some a) n c→a.block<rb:=by
 obtain⟨b,o,c,rfl,hb⟩:=h.form
 intro a n c e
 injection e with e
 injection e with e
 subst e
 exact hb
theorem RdAt.lt {w:World} {rb:Nat} {v:Value} {r:Rd} (h:RdAt w rb v r):rb<w.heap.size:=(Array.getElem?_eq_some_iff.1 h.box).1
abbrev TurnR (rb:Nat) (w w':World):Prop:=Turn (fun b=>b=rb) w w'
theorem sl_ne {w:World} {rb b off:Nat} {v:Value} {e:Int} {xs:List Int} {k:Nat} (hbox:w.heap[rb]?=some (.cells #[v, .int .i64 e] 90)) (hv:∃ao n c,v = .slice ao n c) (hk:k<xs.length)
  (h:∀i x,xs[i]?=some x→∀j u,(enB x)[j]?=some u→w.cell? ⟨b,off+i*1+j,none⟩=some u):b≠rb:=by
 rintro rfl
 have h0:=byteSl_cell h hk
 obtain⟨ao,n,c,rfl⟩:=hv
 simp only [World.cell?,hbox]at h0
 obtain⟨q,hq⟩:∃q,off+k=q:=⟨_,rfl⟩
 rw [hq]at h0
 match q with
 |0=>simp at h0
 |1=>simp at h0
 |q+2=>simp at h0
theorem sl_turn {w w':World} {rb:Nat} {v:Value} {e:Int} {xs:List Int} (hbox:w.heap[rb]?=some (.cells #[v, .int .i64 e] 90)) (hs:ByteSl w v xs) (hT:TurnR rb w w'):ByteSl w' v xs:=by
 obtain⟨ao,cap,rfl,h1,h2,h3,h4,h5⟩:=hs
 refine⟨ao,cap,rfl,h1,h2,h3,h4,fun h0=>?_⟩
 obtain⟨b,off,rfl,hb,hc⟩:=h5 h0
 have hne:=sl_ne hbox ⟨_,_,_,rfl⟩ h0 hc
 exact⟨b,off,rfl,Nat.lt_of_lt_of_le hb hT.size,fun i x hx j u hu=>(hT.cell hb hne _).trans (hc i x hx j u hu)⟩
theorem sl_drop {w:World} {b off cap m:Nat} {xs:List Int} (h:ByteSl w (.slice (some ⟨b,off,none⟩) xs.length cap) xs) (hm:m≤xs.length) (o:Nat) (ho:m<cap→o=off+m):ByteSl w (.slice (some ⟨b,o,none⟩) (xs.length-m) (cap-m)) (xs.drop m):=by
 obtain⟨ao,cap',hv,h1,h2,h3,h4,h5⟩:=h
 injection hv with hv1 _ hv3
 subst hv3
 refine⟨_,_,by rw [List.length_drop],by rw [List.length_drop];omega,by omega,by rw [List.length_drop];omega,by simp,fun h0=>?_⟩
 rw [List.length_drop]at h0
 obtain rfl:=ho (by omega)
 obtain⟨b',off',hb,hlt,hc⟩:=h5 (by omega)
 rw [←hv1]at hb
 injection hb with hb;injection hb with e1 e2
 subst e1 e2
 refine⟨b,off+m,rfl,hlt,fun k x hk j u hu=>?_⟩
 rw [List.getElem?_drop]at hk
 have:=hc (m+k) x hk j u hu
 rw [←this];congr 2;omega
theorem sl_take {w:World} {ao:Option Addr} {cap m:Nat} {xs:List Int} (h:ByteSl w (.slice ao xs.length cap) xs) (hm:m≤xs.length):ByteSl w (.slice ao m cap) (xs.take m):=by
 obtain⟨ao',cap',hv,h1,h2,h3,h4,h5⟩:=h
 injection hv with hv1 _ hv3
 subst hv3 hv1
 refine⟨_,_,by rw [List.length_take,Nat.min_eq_left hm],by rw [List.length_take,Nat.min_eq_left hm];omega,by omega,by rw [List.length_take,Nat.min_eq_left hm];omega,h4,fun h0=>?_⟩
 rw [List.length_take,Nat.min_eq_left hm]at h0
 obtain⟨b,off,rfl,hlt,hc⟩:=h5 (by omega)
 refine⟨b,off,rfl,hlt,fun k x hk j u hu=>hc k x ?_ j u hu⟩
 rw [List.getElem?_take]at hk
 split at hk
 ·exact hk
 ·cases hk
theorem RdAt.cells {w:World} {rb:Nat} {v:Value} {r:Rd} (h:RdAt w rb v r):w.cell? ⟨rb,0,none⟩=some v∧w.cell? ⟨rb,1,none⟩=some (.int .i64 r.e)∧∀o,w.frozen? ⟨rb,o,none⟩=false:=by
 have h1:=h.box
 simp [World.cell?,World.frozen?,h1]
theorem RdAt.turn {w w':World} {rb:Nat} {v:Value} {r:Rd} (h:RdAt w rb v r) (hT:TurnR rb w w') (hb:w'.heap[rb]?=w.heap[rb]?):RdAt w' rb v r:=⟨hb.trans h.box,sl_turn h.box h.sl hT,h.ok,h.form⟩
theorem RdAt.low_sl {w w':World} {rb:Nat} {v:Value} {xs:List Int} (hs:ByteSl w v xs) (hlow:∀a n c,v = .slice (some a) n c→a.block<rb) (hb:Below (rb+1) w w') (_hr:rb<w.heap.size):ByteSl w' v xs:=by
 obtain⟨ao,cap,rfl,h1,h2,h3,h4,h5⟩:=hs
 refine⟨ao,cap,rfl,h1,h2,h3,h4,fun h0=>?_⟩
 obtain⟨b,off,rfl,hb1,hc⟩:=h5 h0
 have hl:=hlow _ _ _ rfl
 simp only at hl
 exact⟨b,off,rfl,Nat.lt_of_lt_of_le hb1 hb.size,fun i x hx j u hu=>(hb.cell (p:=⟨b,off+i*1+j,none⟩) (by show b<rb+1;omega)).trans (hc i x hx j u hu)⟩
theorem RdAt.later {w w':World} {rb:Nat} {v:Value} {r:Rd} (h:RdAt w rb v r) (hb:Below (rb+1) w w'):RdAt w' rb v r:=
 ⟨(hb.block _ (Nat.lt_succ_self _)).trans h.box,RdAt.low_sl h.sl h.low hb h.lt,h.ok,h.form⟩
theorem RdAt.setE {w:World} {rb:Nat} {v:Value} {r:Rd} (h:RdAt w rb v r) (e:Int):TurnR rb w (w.setCell ⟨rb,1,none⟩ (.int .i64 e))∧RdAt (w.setCell ⟨rb,1,none⟩ (.int .i64 e)) rb v ⟨r.b,e⟩:=by
 have hT:TurnR rb w (w.setCell ⟨rb,1,none⟩ (.int .i64 e)):=Turn.setCell (X:=fun b=>b=rb) (Turn.refl _ w) (.inl (show rb=rb from rfl)) _
 exact⟨hT,heap_setCell_same h.box,sl_turn h.box h.sl hT,h.ok,h.form⟩
theorem RdAt.setB {w:World} {rb:Nat} {v v':Value} {r:Rd} {b:List Int} (h:RdAt w rb v r) (hs:ByteSl w v' b) (hform:∃bk o c,v' = .slice (some ⟨bk,o,none⟩) b.length c∧bk<rb) (hb:AllBytes b):TurnR rb w (w.setCell ⟨rb,0,none⟩ v')∧RdAt (w.setCell ⟨rb,0,none⟩ v') rb v' ⟨b,r.e⟩:=by
 have hT:TurnR rb w (w.setCell ⟨rb,0,none⟩ v'):=Turn.setCell (X:=fun b=>b=rb) (Turn.refl _ w) (.inl (show rb=rb from rfl)) _
 refine⟨hT,heap_setCell_same h.box,?_,hb,hform⟩
 ·obtain⟨ao,cap,rfl,h1,h2,h3,h4,h5⟩:=hs
  refine⟨ao,cap,rfl,h1,h2,h3,h4,fun h0=>?_⟩
  obtain⟨b,off,rfl,hb,hc⟩:=h5 h0
  exact⟨b,off,rfl,Nat.lt_of_lt_of_le hb hT.size,fun i x hx j u hu=>(hT.cell hb (by obtain⟨b',o',c',e,hlt⟩:=hform;injection e with e;injection e with e;injection e with e;subst e;exact Nat.ne_of_lt hlt) _).trans (hc i x hx j u hu)⟩
set_option maxRecDepth 100000 in
theorem wrong_any {w:World} {rb:Nat} {v:Value} {r:Rd} {e:Int} (h:RdAt w rb v r):Calls Tryd.prog 41 #[.pointer (some ⟨rb,0,none⟩), .int .i64 e] w fun x w'=>x = .returned (.tuple #[])∧TurnR rb w w'∧RdAt w' rb v (r.wrong e):=by
 obtain⟨c0,c1,cf⟩:=h.cells
 have HS:=Lib.hid (h.setE e)
 have HR:=Lib.hid h
 by_cases he:r.e=0
 ·have HW:=Lib.hid (show r.wrong e=⟨r.b,e⟩ by unfold Rd.wrong;rw [if_pos he])
  rw [he]at c1
  clear h he
  go_enter Tryd.func41,Tryd.ntmps41
  go_wp2_with fail
  go_end0
  exact⟨rfl,HS.out.1,by rw [HW.out];exact HS.out.2⟩
 ·have HW:=Lib.hid (show r.wrong e=r by unfold Rd.wrong;rw [if_neg he])
  have hd:(r.e == 0)=false:=by simpa using he
  clear h he
  go_enter Tryd.func41,Tryd.ntmps41
  go_wp2_with fail
  go_end0
  exact⟨rfl,Turn.refl _ _,by rw [HW.out];exact HR.out⟩
end Go.Proofs.YtnjfkcimboidnaaDoor

/- A reader of bytes: the number that is next. -/
namespace Go.Proofs.YtnjfkcimboidnaaDoor
open Go.RowKit
theorem num_go {r:Rd} (h:r.e=0) {b:List Int} {e v:Int} (hn:numL 0 0 r.b=(b,e,v)):r.num=(⟨b,e⟩,v):=by unfold Rd.num;rw [if_pos h,hn]
theorem numL_nil (i:Nat) (n:Int):numL i n []=([],5,0):=by unfold numL;rfl
theorem numL_bad {i:Nat} {n c:Int} {b:List Int} (h:i=8∨(0<i∧c=0)):numL i n (c::b)=(b,4,0):=by unfold numL;rw [if_pos h]
theorem numL_end {i:Nat} {n c:Int} {b:List Int} (h:¬(i=8∨(0<i∧c=0))) (hc:c<128):numL i n (c::b)=(b,0,n+c*128 ^ i):=by unfold numL;rw [if_neg h,if_pos hc]
theorem numL_on {i:Nat} {n c:Int} {b:List Int} (h:¬(i=8∨(0<i∧c=0))) (hc:¬c<128):numL i n (c::b)=numL (i+1) (n+c%128*128 ^ i) b:=by
 rw [numL,if_neg h,if_neg hc]
set_option maxRecDepth 100000 in
set_option maxHeartbeats 4000000 in
theorem number_rd {w:World} {rb:Nat} {v:Value} {r:Rd} (h:RdAt w rb v r):Calls Tryd.prog 42 #[.pointer (some ⟨rb,0,none⟩)] w fun x w'=>x = .returned (.int .i64 r.num.2)∧TurnR rb w w'∧∃v',RdAt w' rb v' r.num.1:=by
 have HR:=Lib.hid h
 by_cases he:r.e=0
 ·go_enter Tryd.func42,Tryd.ntmps42
  go_wp2_with fail
  go_loopg [3,4] 9 (fun g nv iv wr=>∃(k:Nat) (n:Int) (v:Value) (b:List Int),k≤8∧g=9-k∧iv = .int .i64 k∧nv = .int .i64 n∧Hid (0≤n∧n<128 ^ k)∧Hid (TurnR rb w wr∧RdAt wr rb v ⟨b,0⟩∧numL 0 0 r.b=numL k n b))
  case atStart=>exact⟨0,0,v,r.b,by omega,rfl,rfl,rfl,Lib.hid (by decide),Lib.hid ⟨Turn.refl _ _,(by have:=HR.out;obtain⟨rb',re⟩:=r;simp only at he;subst he;exact this),rfl⟩⟩
  case round=>
   clear h
   obtain⟨k,n,v1,b,hk,rfl,rfl,rfl,HN,HA⟩:=hrel
   obtain⟨ao,cap,rfl,s1,s2,s3,s4,s5⟩:=HA.out.2.1.sl
   obtain⟨c0,c1,cf⟩:wr.cell? ⟨rb,0,none⟩=some (.slice ao b.length cap)∧wr.cell? ⟨rb,1,none⟩=some (.int .i64 0)∧∀o,wr.frozen? ⟨rb,o,none⟩=false:=HA.out.2.1.cells
   rcases b with _|⟨c,b⟩
   ·have HW:=Lib.hid (wrong_any (e:=5) HA.out.2.1)
    have HG:=Lib.hid (num_go he (HA.out.2.2.trans (numL_nil k n)))
    have hT0:=Lib.hid HA.out.1
    clear HA HN HR s5 he
    have hl:([]:List Int).length=0:=rfl
    rw [hl]at c0 HW
    go_wp2_with (go_at_call 41;(with_reducible refine HW.out.mono ?_);rintro e w1 ⟨rfl,hT,hR⟩)
    go_ret
    exact⟨by rw [HG.out];rfl,hT0.out.trans hT,_,by rw [HG.out];exact hR⟩
   ·obtain⟨ab,aoff,rfl,abb,ac⟩:=s5 (by simp)
    have e0:=byteSl_cell (k:=0) ac (by simp)
    simp only [Nat.add_zero,List.getElem_cons_zero]at e0
    have hcb:=HA.out.2.1.ok c (by simp)
    have hix:=fun w'=>idx_bytes (ab:=ab) (aoff:=aoff) (n:=(c::b).length) (cap:=cap) (show (0:Int)=((0:Nat):Int) by rfl) (by simp) w'
    have hlen:(c::b).length=b.length+1:=by simp
    rw [hlen]at c0 s1 hix
    have hl0:¬((b.length:Int)+1=0):=by omega
    obtain⟨o,hsel,ho⟩:∃o,(if cap=1 then some (⟨ab,aoff,none⟩:Addr)else some ⟨ab,aoff+1,none⟩)=some ⟨ab,o,none⟩∧(1<cap→o=aoff+1):=by
     by_cases h1:cap=1
     ·exact⟨aoff,if_pos h1,fun h=>by omega⟩
     ·exact⟨aoff+1,if_neg h1,fun _=>rfl⟩
    have hne:ab<rb:=HA.out.2.1.low _ _ _ rfl
    have hsl:ByteSl wr (.slice (some ⟨ab,o,none⟩) b.length (cap-1)) b:=by
     have:=sl_drop (m:=1) (by have:=HA.out.2.1.sl;exact this) (by simp) o ho
     rw [hlen]at this
     exact this
    have HB:=Lib.hid (HA.out.2.1.setB hsl ⟨_,_,_,rfl,hne⟩ (fun x hx=>HA.out.2.1.ok x (by simp [hx])))
    clear ac s5 hne hsl ho
    go_upto_region 9 with (fail)
    obtain⟨W8,hW8⟩:∃W8,W8=wr.setCell ⟨rb,0,none⟩ (.slice (some ⟨ab,o,none⟩) b.length (cap-1)):=⟨_,rfl⟩
    rw [←hW8]at HB ⊢
    obtain⟨d0,d1,df⟩:W8.cell? ⟨rb,0,none⟩=some (.slice (some ⟨ab,o,none⟩) b.length (cap-1))∧W8.cell? ⟨rb,1,none⟩=some (.int .i64 0)∧∀o,W8.frozen? ⟨rb,o,none⟩=false:=HB.out.2.cells
    have HL:=Lib.hid HA.out.2.2
    have HT:=Lib.hid (HA.out.1.trans HB.out.1)
    have HB:=Lib.hid HB.out.2
    have HE:=Lib.hid he
    clear hW8 HA c0 c1 cf s1 s2 s3 s4 hix hsel e0 abb hlen hl0 he HR
    by_cases hbad:k=8∨(0<k∧c=0)
    ·have HG:=Lib.hid (num_go HE.out (HL.out.trans (numL_bad hbad)))
     have HW:=Lib.hid (wrong_any (e:=4) HB.out)
     clear HL HN HB HE
     by_cases h8:k=8
     ·subst h8
      clear hbad
      go_wp2_with (go_at_call 41;(with_reducible refine HW.out.mono ?_);rintro e w1 ⟨rfl,hT,hR⟩)
      go_ret
      exact⟨by rw [HG.out];rfl,HT.out.trans hT,_,by rw [HG.out];exact hR⟩
     ·have hc0:c=0:=by omega
      have e8:((k:Int) == 8)=false:=by simp;omega
      have ek:(0:Int)<(k:Int):=by omega
      subst hc0
      clear hbad h8
      go_wp2_with (go_at_call 41;(with_reducible refine HW.out.mono ?_);rintro e w1 ⟨rfl,hT,hR⟩)
      go_ret
      exact⟨by rw [HG.out];rfl,HT.out.trans hT,_,by rw [HG.out];exact hR⟩
    ·have h8:k<8:=by omega
     have e8:((k:Int) == 8)=false:=by simp;omega
     have hand:=i64_and127 c
     have hpk:(128:Int) ^ k=2 ^ (7*k):=by rw [Int.pow_mul];rfl
     have hp0:(0:Int)<2 ^ (7*k):=Int.pow_pos (by decide)
     have hp1:(2:Int) ^ (7*k)≤562949953421312:=by
      have h1:(2:Nat) ^ (7*k)≤2 ^ 49:=Nat.pow_le_pow_right (by decide) (by omega)
      have h2:((2 ^ (7*k):Nat):Int)≤((2 ^ 49:Nat):Int):=Int.ofNat_le.2 h1
      simpa using h2
     have hm0:0≤c%128*2 ^ (7*k):=Int.mul_nonneg (by omega) (by omega)
     have hm1:c%128*2 ^ (7*k)≤127*562949953421312:=Int.mul_le_mul (by omega) hp1 (by omega) (by decide)
     have hsh:wrap64 (c%128*2 ^ (7*k))=c%128*2 ^ (7*k):=IntWalk.wrap64_in _ (by omega)
     have hor:bits .or .i64 n (c%128*2 ^ (7*k))=n+c%128*128 ^ k:=by
      have hn:=HN.out
      rw [hpk]at hn ⊢
      rw [bits_join_low .i64 63 (by decide) (fun n h0 h1=>IntWalk.i64_in _ (by omega)) (7*k) n (c%128*2 ^ (7*k)) hn.1 hn.2 (by omega) hm0 (Int.mul_emod_left _ _) (by omega)]
     have HR:=Lib.hid (show 0≤n+c%128*128 ^ k∧n+c%128*128 ^ k<128 ^ (k+1) by
      have hn:=HN.out
      rw [Int.pow_succ,hpk]at *
      have:=Int.mul_le_mul_of_nonneg_right (show c%128≤127 by omega) (Int.le_of_lt hp0)
      omega)
     have hq:¬(0<(k:Int)∧c=0):=by omega
     clear hpk hp0 hp1 hm0 hm1 HN
     obtain⟨N,hN⟩:∃N,n+c%128*128 ^ k=N:=⟨_,rfl⟩
     rw [hN]at hor HR
     by_cases hc:c<128
     ·have HG:=Lib.hid (num_go HE.out (HL.out.trans (numL_end hbad hc)))
      have hcc:c*128 ^ k=c%128*128 ^ k:=by congr 1;omega
      rw [hcc,hN]at HG
      clear hcc hN HL HE
      by_cases hk0:(0:Int)<(k:Int)
      ·have hc0:(c == 0)=false:=by simp;omega
       clear hbad hq
       go_wp2_with fail
       go_ret
       exact⟨by rw [HG.out];rfl,HT.out,_,by rw [HG.out];exact HB.out⟩
      ·obtain rfl:k=0:=by omega
       have hk1:((0:Nat):Int)=0:=rfl
       have hor0:bits .or .i64 n (c%128)=N:=by simpa using hor
       rw [hk1]at e8 ⊢
       clear hbad hq hk0 hk1 e8
       go_wp2_with fail
       go_ret
       exact⟨by rw [HG.out];rfl,HT.out,_,by rw [HG.out];exact HB.out⟩
     ·have HL:=Lib.hid (HL.out.trans (numL_on hbad hc))
      rw [hN]at HL
      have hc1:decide (c<128)=false:=decide_eq_false hc
      clear hN HE
      by_cases hk0:(0:Int)<(k:Int)
      ·have hc0:(c == 0)=false:=by simp;omega
       clear hbad hq hc
       go_wp2_with fail
       go_roundg (9-(k+1))
       case measure=>omega
       case rel=>exact⟨k+1,N,_,b,by omega,rfl,by go_num,rfl,HR,Lib.hid ⟨HT.out,HB.out,HL.out⟩⟩
      ·obtain rfl:k=0:=by omega
       have hk1:((0:Nat):Int)=0:=rfl
       have hor0:bits .or .i64 n (c%128)=N:=by simpa using hor
       rw [hk1]at e8 ⊢
       clear hbad hq hk0 hc hk1 e8
       go_wp2_with fail
       go_roundg (9-(0+1))
       case measure=>omega
       case rel=>exact⟨0+1,N,_,b,by omega,rfl,by go_num,rfl,HR,Lib.hid ⟨HT.out,HB.out,HL.out⟩⟩
 ·have HG:=Lib.hid (num_stop he)
  obtain⟨c0,c1,cf⟩:=h.cells
  have hd:(r.e == 0)=false:=by simpa using he
  clear h he
  go_enter Tryd.func42,Tryd.ntmps42
  go_wp2_with fail
  go_loopg [3,4] 1 (fun g nv iv wr=>g=1∧iv = .int .i64 0∧nv = .int .i64 0∧wr=w)
  case atStart=>exact⟨rfl,rfl,rfl,rfl⟩
  case round=>
   obtain⟨rfl,rfl,rfl,hwr⟩:=hrel
   obtain rfl:=hwr.symm
   go_wp2_with fail
   go_ret
   exact⟨by rw [HG.out];rfl,Turn.refl _ _,_,by rw [HG.out];exact HR.out⟩
end Go.Proofs.YtnjfkcimboidnaaDoor

/- A reader of bytes: signed numbers, counts. -/
namespace Go.Proofs.YtnjfkcimboidnaaDoor
open Go.RowKit
theorem i64_and1 (n:Int):bits .and .i64 n 1=n%2:=by
 have h1:(BitVec.ofInt 64 1).toNat=2 ^ 1-1:=by decide
 have key:(BitVec.ofInt 64 n &&& BitVec.ofInt 64 1).toNat=(n%((2 ^ 64:Nat):Int)).toNat%2 ^ 1:=by
  rw [BitVec.toNat_and,BitVec.toNat_ofInt,h1,Nat.and_two_pow_sub_one_eq_mod]
 show IntKind.i64.wrap ((BitVec.ofInt 64 n &&& BitVec.ofInt 64 1).toNat:Nat)=n%2
 rw [key,IntKind.wrap_i64]
 omega
set_option maxRecDepth 100000 in
theorem signed_rd {w:World} {rb:Nat} {v:Value} {r:Rd} (h:RdAt w rb v r):Calls Tryd.prog 43 #[.pointer (some ⟨rb,0,none⟩)] w fun x w'=>x = .returned (.int .i64 r.sgn.2)∧TurnR rb w w'∧∃v',RdAt w' rb v' r.sgn.1:=by
 have HN:=Lib.hid (number_rd h)
 have hr:=num_range h.ok
 have HS1:=Lib.hid (show r.sgn.1=r.num.1 from rfl)
 have HS2:=Lib.hid (show r.sgn.2=sgnI r.num.2 from rfl)
 obtain⟨n,hn⟩:∃n,r.num.2=n:=⟨_,rfl⟩
 rw [hn]at HN hr HS2
 have ha:=i64_and1 n
 clear h hn
 by_cases ho:n%2=1
 ·have HV:=Lib.hid (show (-(n+1)).tdiv 2=sgnI n by
   unfold sgnI
   rw [if_pos ho,Int.neg_tdiv,Int.tdiv_eq_ediv_of_nonneg (by omega)])
  have hw1:IntKind.i64.wrap (n+1)=n+1:=IntWalk.i64_in _ (by omega)
  have hw2:IntKind.i64.wrap (-(n+1)) = -(n+1):=IntWalk.i64_in _ (by omega)
  obtain⟨V,hV⟩:∃V,(-(n+1)).tdiv 2=V:=⟨_,rfl⟩
  have hw3:IntKind.i64.wrap V=V:=by rw [←hV,HV.out];unfold sgnI;rw [if_pos ho];exact IntWalk.i64_in _ (by omega)
  rw [hV]at HV
  rw [ho]at ha
  clear ho
  go_enter Tryd.func43,Tryd.ntmps43
  go_wp2_with (go_at_call 42;(with_reducible refine HN.out.mono ?_);rintro e w1 ⟨rfl,hT,v1,hR⟩)
  go_ret
  exact⟨ret_int (by rw [HS2.out,←HV.out]),hT,v1,by rw [HS1.out];exact hR⟩
 ·have hev:(n%2 == 1)=false:=by simpa using ho
  have HV:=Lib.hid (show n.tdiv 2=sgnI n by
   unfold sgnI
   rw [if_neg ho,Int.tdiv_eq_ediv_of_nonneg (by omega)])
  obtain⟨V,hV⟩:∃V,n.tdiv 2=V:=⟨_,rfl⟩
  have hw3:IntKind.i64.wrap V=V:=by rw [←hV,HV.out];unfold sgnI;rw [if_neg ho];exact IntWalk.i64_in _ (by omega)
  rw [hV]at HV
  clear ho
  go_enter Tryd.func43,Tryd.ntmps43
  go_wp2_with (go_at_call 42;(with_reducible refine HN.out.mono ?_);rintro e w1 ⟨rfl,hT,v1,hR⟩)
  go_ret
  exact⟨ret_int (by rw [HS2.out,←HV.out]),hT,v1,by rw [HS1.out];exact hR⟩
set_option maxRecDepth 100000 in
theorem count_rd {w:World} {rb:Nat} {v:Value} {r:Rd} {most:Int} (h:RdAt w rb v r):Calls Tryd.prog 40 #[.pointer (some ⟨rb,0,none⟩), .int .i64 most] w fun x w'=>x = .returned (.int .i64 (r.cnt most).2)∧TurnR rb w w'∧∃v',RdAt w' rb v' (r.cnt most).1:=by
 have HN:=Lib.hid (number_rd h)
 by_cases hm:most<r.num.2
 ·have HC:=Lib.hid (show r.cnt most=(r.num.1.wrong 1,0)from if_pos hm)
  obtain⟨n,hn⟩:∃n,r.num.2=n:=⟨_,rfl⟩
  rw [hn]at HN hm
  clear h hn
  go_enter Tryd.func40,Tryd.ntmps40
  go_wp2_with (first|(go_at_call 42;(with_reducible refine HN.out.mono ?_);rintro e w1 ⟨rfl,hT,v1,hR⟩)|(go_at_call 41;(with_reducible refine(wrong_any hR).mono ?_);rintro e w2 ⟨rfl,hT2,hR2⟩))
  go_ret
  exact⟨ret_int (by rw [HC.out]),hT.trans hT2,v1,by rw [HC.out];exact hR2⟩
 ·have HC:=Lib.hid (show r.cnt most=r.num from if_neg hm)
  have hd:decide (most<r.num.2)=false:=decide_eq_false hm
  obtain⟨n,hn⟩:∃n,r.num.2=n:=⟨_,rfl⟩
  have HNN:=Lib.hid hn
  rw [hn]at HN hd
  clear h hn hm
  go_enter Tryd.func40,Tryd.ntmps40
  go_wp2_with (go_at_call 42;(with_reducible refine HN.out.mono ?_);rintro e w1 ⟨rfl,hT,v1,hR⟩)
  go_ret
  exact⟨ret_int (by rw [HC.out,HNN.out]),hT,v1,by rw [HC.out];exact hR⟩
end Go.Proofs.YtnjfkcimboidnaaDoor
