/- Texts of mine that come as one: Plain Data Bag Vis All Get RiseP HeightP NodeP WithP AllP SearchP GetP MergedP BaseP Gen Open GenLaid. -/
import Derived.ProofKit
import Derived.SizedLaws
import Derived.Below
import Derived.Carry
import Derived.Test.YtnjfkcimboidnaaDoorRows
import Derived.Lib.SmallJoins
import Derived.Test.YtnjfkcimboidnaaDoorTie
import Derived.LaidMore
import Derived.MakeChecks
import Derived.OpenShut
import Derived.Stop.Joined
import Derived.SevenTiedAt
import Derived.Handed
import Derived.LaidHandle
/- Plain mathematics: what the functions compute, on lists and integers. No program in sight. -/
namespace Go.Proofs.YtnjfkcimboidnaaDoor
structure Roll where
 c:Int
 s:Int
 mi:Int
 ma:Int
 t:Int
 l:Int
 deriving DecidableEq,Inhabited
def within (n most:Int):Bool:=decide (-most≤n) && decide (n≤most)
def inR (n low high:Int):Bool:=decide (low≤n) && decide (n≤high)
def Roll.zero:Roll:=⟨0,0,0,0,0,0⟩
def Roll.ranged (r:Roll):Prop:=0≤r.c∧r.c≤1073741824∧-1125899906842624≤r.s∧r.s≤1125899906842624∧-1000000≤r.mi∧r.mi≤1000000∧-1000000≤r.ma∧r.ma≤1000000 ∧
 -1000000≤r.l∧r.l≤1000000∧0≤r.t∧r.t≤1048575
instance (r:Roll):Decidable r.ranged:=by unfold Roll.ranged;infer_instance
def Roll.formed (r:Roll):Prop:=r.mi≤r.l∧r.l≤r.ma∧r.c*r.mi≤r.s∧r.s≤r.c*r.ma
instance (r:Roll):Decidable r.formed:=by unfold Roll.formed;infer_instance
def rollCheck (r:Roll):Int:=if r.ranged then(if r.c=0 then(if r=Roll.zero then 0 else 4)else if r.formed then 0 else 4)else 2
def rollOf (time value:Int):Roll×Int:=if 0≤time∧time≤1048575∧-1000000≤value∧value≤1000000 then(⟨1,value,value,value,time,value⟩,0) else(Roll.zero,2)
def Roll.join (a b:Roll):Roll:=
 if b.c=0 then a else if a.c=0 then b else
 {c:=a.c+b.c,s:=a.s+b.s,mi:=min a.mi b.mi,ma:=max a.ma b.ma,
  t:=if a.t<b.t∨(a.t=b.t∧a.l<b.l)then b.t else a.t,l:=if a.t<b.t∨(a.t=b.t∧a.l<b.l)then b.l else a.l }
def rollMerge (a b:Roll):Roll×Int:=
 if rollCheck a≠0 then(Roll.zero,rollCheck a)else if rollCheck b≠0 then(Roll.zero,rollCheck b) else
 if a.c=0∨b.c=0 then(a.join b,0) else
 if a.c+b.c>1073741824∨within (a.s+b.s) 1125899906842624=false then(Roll.zero,1) else(a.join b,0)
theorem within_true {n m:Int}:within n m=true↔-m≤n∧n≤m:=by simp [within]
theorem within_false {n m:Int}:within n m=false↔n < -m∨m<n:=by simp [within];omega
theorem rc2 {r:Roll} (h:¬r.ranged):rollCheck r=2:=by simp [rollCheck,h]
theorem rc0z {r:Roll} (h:r=Roll.zero):rollCheck r=0:=by subst h;decide
theorem rc4z {r:Roll} (h:r.ranged) (hc:r.c=0) (hz:r≠Roll.zero):rollCheck r=4:=by simp [rollCheck,h,hc,hz]
theorem rc0 {r:Roll} (h:r.ranged) (hc:r.c≠0) (hf:r.formed):rollCheck r=0:=by simp [rollCheck,h,hc,hf]
theorem rc4 {r:Roll} (h:r.ranged) (hc:r.c≠0) (hf:¬r.formed):rollCheck r=4:=by simp [rollCheck,h,hc,hf]
theorem mul_range {c m:Int} (h0:0≤c) (h1:c≤1073741824) (h2 : -1000000≤m) (h3:m≤1000000) : -1073741824000000≤c*m∧c*m≤1073741824000000:=by
 have a1:c*m≤c*1000000:=Int.mul_le_mul_of_nonneg_left h3 h0
 have a2:c*(-1000000)≤c*m:=Int.mul_le_mul_of_nonneg_left h2 h0
 omega
end Go.Proofs.YtnjfkcimboidnaaDoor

/- Plain data: entries, nodes, trees; what is known of points, coming together without a limit. No program in sight. -/
namespace Go.Proofs.YtnjfkcimboidnaaDoor
structure Ent where
 key:Int
 is:Roll
 deriving DecidableEq,Inhabited
structure Nd where
 leaf:Bool
 ents:List Ent
 keys:List Int
 kids:List Int
 buf:List Ent
 deriving DecidableEq,Inhabited
structure Tr where
 nodes:List Nd
 root:Int
 deriving DecidableEq,Inhabited
def Roll.Good (r:Roll):Prop:=0<r.c∧-1000000≤r.mi∧r.mi≤1000000∧-1000000≤r.ma∧r.ma≤1000000∧-1000000≤r.l∧r.l≤1000000∧0≤r.t∧r.t≤1048575 ∧
 r.mi≤r.l∧r.l≤r.ma∧r.c*r.mi≤r.s∧r.s≤r.c*r.ma
def Roll.Fine (r:Roll):Prop:=r=Roll.zero∨r.Good
theorem good_sum {r:Roll} (h:r.Good) (hc:r.c≤1073741824) : -1125899906842624≤r.s∧r.s≤1125899906842624:=by
 obtain⟨h0,h1,h2,h3,h4,h5,h6,h7,h8,h9,h10,h11,h12⟩:=h
 have a1:=mul_range (c:=r.c) (m:=r.mi) (by omega) hc h1 h2
 have a2:=mul_range (c:=r.c) (m:=r.ma) (by omega) hc h3 h4
 omega
theorem check_good {r:Roll} (h:r.Good) (hc:r.c≤1073741824):rollCheck r=0:=by
 have hs:=good_sum h hc
 obtain⟨h0,h1,h2,h3,h4,h5,h6,h7,h8,h9,h10,h11,h12⟩:=h
 exact rc0 (by unfold Roll.ranged;omega) (by omega) (by unfold Roll.formed;omega)
theorem good_check {r:Roll} (h:rollCheck r=0) (hc:r.c≠0):r.Good∧r.c≤1073741824:=by
 unfold rollCheck at h
 split at h
 ·rename_i hr
  split at h
  ·rename_i hf
   unfold Roll.ranged at hr;unfold Roll.formed at hf
   unfold Roll.Good
   omega
  ·cases h
 ·cases h
theorem check_nothing {r:Roll} (h:rollCheck r=0) (hc:r.c=0):r=Roll.zero:=by
 unfold rollCheck at h
 split at h
 ·split at h
  ·assumption
  ·cases h
 ·cases h
theorem check_iff (r:Roll):rollCheck r=0↔r.Fine∧r.c≤1073741824:=by
 constructor
 ·intro h
  by_cases hc:r.c=0
  ·exact⟨.inl (check_nothing h hc),by omega⟩
  ·have:=good_check h hc;exact⟨.inr this.1,this.2⟩
 ·rintro⟨rfl|h,hc⟩
  ·decide
  ·exact check_good h hc
theorem Roll.Fine.pos {r:Roll} (h:r.Fine):0≤r.c:=by
 rcases h with rfl|h
 ·decide
 ·have:=h.1;omega
theorem Roll.Fine.good {r:Roll} (h:r.Fine) (hc:r.c≠0):r.Good:=by
 rcases h with rfl|h
 ·exact absurd rfl hc
 ·exact h
theorem fine_zero:Roll.zero.Fine:= .inl rfl
theorem Roll.Fine.zero {r:Roll} (h:r.Fine) (hc:r.c=0):r=Roll.zero:=by
 rcases h with rfl|h
 ·rfl
 ·have:=h.1;omega
theorem join_zero (a:Roll):a.join Roll.zero=a:=by simp [Roll.join,Roll.zero]
theorem zero_join {a:Roll} (h:a.Fine):Roll.zero.join a=a:=by
 rcases h with rfl|h
 ·decide
 ·have:=h.1
  simp only [Roll.join]
  rw [if_neg (by omega),if_pos (by rfl)]
theorem join_c (a b:Roll):(a.join b).c=a.c+b.c:=by
 unfold Roll.join
 split
 ·omega
 ·split
  ·omega
  ·rfl
theorem join_good {a b:Roll} (ha:a.Good) (hb:b.Good):(a.join b).Good:=by
 obtain⟨h0,h1,h2,h3,h4,h5,h6,h7,h8,h9,h10,h11,h12⟩:=ha
 obtain⟨g0,g1,g2,g3,g4,g5,g6,g7,g8,g9,g10,g11,g12⟩:=hb
 unfold Roll.join
 rw [if_neg (by omega),if_neg (by omega)]
 have l1:(a.c+b.c)*min a.mi b.mi≤a.s+b.s:=by
  have e1:a.c*min a.mi b.mi≤a.c*a.mi:=Int.mul_le_mul_of_nonneg_left (by omega) (by omega)
  have e2:b.c*min a.mi b.mi≤b.c*b.mi:=Int.mul_le_mul_of_nonneg_left (by omega) (by omega)
  rw [Int.add_mul];omega
 have l2:a.s+b.s≤(a.c+b.c)*max a.ma b.ma:=by
  have e1:a.c*a.ma≤a.c*max a.ma b.ma:=Int.mul_le_mul_of_nonneg_left (by omega) (by omega)
  have e2:b.c*b.ma≤b.c*max a.ma b.ma:=Int.mul_le_mul_of_nonneg_left (by omega) (by omega)
  rw [Int.add_mul];omega
 unfold Roll.Good
 simp only
 refine⟨by omega,by omega,by omega,by omega,by omega,?_,?_,?_,?_,?_,?_,l1,l2⟩ <;> split <;> omega
theorem join_fine {a b:Roll} (ha:a.Fine) (hb:b.Fine):(a.join b).Fine:=by
 rcases hb with rfl|hb
 ·rw [join_zero];exact ha
 ·rcases ha with rfl|ha
  ·rw [zero_join (.inr hb)];exact .inr hb
  ·exact .inr (join_good ha hb)
theorem join_eq {a b:Roll} (ha:a.c≠0) (hb:b.c≠0):a.join b=⟨a.c+b.c,a.s+b.s,min a.mi b.mi,max a.ma b.ma,if a.t<b.t∨(a.t=b.t∧a.l<b.l)then b.t else a.t,if a.t<b.t∨(a.t=b.t∧a.l<b.l)then b.l else a.l⟩:=by
 unfold Roll.join;rw [if_neg hb,if_neg ha]
theorem roll_ext {a b:Roll} (h1:a.c=b.c) (h2:a.s=b.s) (h3:a.mi=b.mi) (h4:a.ma=b.ma) (h5:a.t=b.t) (h6:a.l=b.l):a=b:=by
 cases a;cases b;simp_all
theorem join_comm {a b:Roll} (ha:a.Fine) (hb:b.Fine):a.join b=b.join a:=by
 rcases hb with rfl|hb
 ·rw [join_zero,zero_join ha]
 ·rcases ha with rfl|ha
  ·rw [join_zero,zero_join (.inr hb)]
  ·have:=ha.1;have:=hb.1
   rw [join_eq (by omega) (by omega),join_eq (by omega) (by omega)]
   refine roll_ext ?_ ?_ ?_ ?_ ?_ ?_ <;> simp only
   ·omega
   ·omega
   ·omega
   ·omega
   ·split <;> split <;> omega
   ·split <;> split <;> omega
theorem join_assoc {a b c:Roll} (ha:a.Fine) (hb:b.Fine) (hc:c.Fine):(a.join b).join c=a.join (b.join c):=by
 rcases hc with rfl|hc
 ·rw [join_zero,join_zero]
 ·rcases hb with rfl|hb
  ·rw [join_zero,zero_join (.inr hc)]
  ·rcases ha with rfl|ha
   ·rw [zero_join (.inr hb),zero_join (.inr (join_good hb hc))]
   ·have:=ha.1;have:=hb.1;have:=hc.1
    have e1:(a.join b).c≠0:=by rw [join_c];omega
    have e2:(b.join c).c≠0:=by rw [join_c];omega
    have f1:a.join b=⟨a.c+b.c,a.s+b.s,min a.mi b.mi,max a.ma b.ma,if a.t<b.t∨(a.t=b.t∧a.l<b.l)then b.t else a.t,if a.t<b.t∨(a.t=b.t∧a.l<b.l)then b.l else a.l⟩:=by
     unfold Roll.join;rw [if_neg (by omega),if_neg (by omega)]
    have f2:b.join c=⟨b.c+c.c,b.s+c.s,min b.mi c.mi,max b.ma c.ma,if b.t<c.t∨(b.t=c.t∧b.l<c.l)then c.t else b.t,if b.t<c.t∨(b.t=c.t∧b.l<c.l)then c.l else b.l⟩:=by
     unfold Roll.join;rw [if_neg (by omega),if_neg (by omega)]
    have g1:∀x:Roll,x.c≠0→x.join c=⟨x.c+c.c,x.s+c.s,min x.mi c.mi,max x.ma c.ma,if x.t<c.t∨(x.t=c.t∧x.l<c.l)then c.t else x.t,if x.t<c.t∨(x.t=c.t∧x.l<c.l)then c.l else x.l⟩:=fun x hx=>by
     unfold Roll.join;rw [if_neg (by omega),if_neg hx]
    have g2:∀x:Roll,x.c≠0→a.join x=⟨a.c+x.c,a.s+x.s,min a.mi x.mi,max a.ma x.ma,if a.t<x.t∨(a.t=x.t∧a.l<x.l)then x.t else a.t,if a.t<x.t∨(a.t=x.t∧a.l<x.l)then x.l else a.l⟩:=fun x hx=>by
     unfold Roll.join;rw [if_neg hx,if_neg (by omega)]
    rw [g1 _ e1,g2 _ e2,f1,f2]
    simp only
    refine roll_ext ?_ ?_ ?_ ?_ ?_ ?_ <;> simp only
    ·omega
    ·omega
    ·omega
    ·omega
    ·by_cases p:a.t<b.t∨(a.t=b.t∧a.l<b.l) <;> by_cases q:b.t<c.t∨(b.t=c.t∧b.l<c.l) <;> simp only [p,q,if_true,if_false] <;> split <;> (try split) <;> omega
    ·by_cases p:a.t<b.t∨(a.t=b.t∧a.l<b.l) <;> by_cases q:b.t<c.t∨(b.t=c.t∧b.l<c.l) <;> simp only [p,q,if_true,if_false] <;> split <;> (try split) <;> omega
theorem merge_fine {a b:Roll} (ha:rollCheck a=0) (hb:rollCheck b=0):rollMerge a b=if a.c+b.c≤1073741824 then(a.join b,0) else(Roll.zero,1):=by
 obtain⟨fa,ca⟩:=(check_iff a).1 ha
 obtain⟨fb,cb⟩:=(check_iff b).1 hb
 have pa:=fa.pos
 have pb:=fb.pos
 unfold rollMerge
 rw [if_neg (by simp [ha]),if_neg (by simp [hb])]
 by_cases h0:a.c=0∨b.c=0
 ·rw [if_pos h0,if_pos (by omega)]
 ·rw [if_neg h0]
  by_cases h1:a.c+b.c≤1073741824
  ·rw [if_pos h1]
   have hg:=join_good (fa.good (by omega)) (fb.good (by omega))
   have hc:=join_c a b
   have hs:=good_sum hg (by omega)
   have es:(a.join b).s=a.s+b.s:=by unfold Roll.join;rw [if_neg (by omega),if_neg (by omega)]
   rw [es]at hs
   rw [if_neg]
   simp [within]
   omega
  ·rw [if_neg h1,if_pos (.inl (by omega))]
theorem merge_ok {a b:Roll} (ha:rollCheck a=0) (hb:rollCheck b=0) (hc:a.c+b.c≤1073741824):rollMerge a b=(a.join b,0)∧rollCheck (a.join b)=0:=by
 obtain⟨fa,ca⟩:=(check_iff a).1 ha
 obtain⟨fb,cb⟩:=(check_iff b).1 hb
 refine⟨by rw [merge_fine ha hb,if_pos hc],(check_iff _).2 ⟨join_fine fa fb,by rw [join_c a b];exact hc⟩⟩
end Go.Proofs.YtnjfkcimboidnaaDoor

/- Entries that come together at their keys: in whatever order, as much is known. No program in sight. -/
namespace Go.Proofs.YtnjfkcimboidnaaDoor
def Fines (l:List Ent):Prop:=∀e∈l,e.is.Fine
def Goods (l:List Ent):Prop:=∀e∈l,e.is.Good
def Checked (l:List Ent):Prop:=∀e∈l,e.is.c≠0∧rollCheck e.is=0
def Rising (l:List Ent):Prop:=l.Pairwise fun a b=>a.key<b.key
theorem Goods.fines {l:List Ent} (h:Goods l):Fines l:=fun e he=> .inr (h e he)
theorem Checked.goods {l:List Ent} (h:Checked l):Goods l:=fun e he=>(good_check (h e he).2 (h e he).1).1
theorem Fines.cons {e:Ent} {l:List Ent} (h:Fines (e::l)):e.is.Fine∧Fines l:=⟨h e (by simp),fun x hx=>h x (by simp [hx])⟩
theorem Goods.cons {e:Ent} {l:List Ent} (h:Goods (e::l)):e.is.Good∧Goods l:=⟨h e (by simp),fun x hx=>h x (by simp [hx])⟩
def look:List Ent→Int→Roll
 |[],_=>Roll.zero
 |e::l,k=>if e.key=k then e.is.join (look l k)else look l k
theorem look_fine {l:List Ent} (h:Fines l) (k:Int):(look l k).Fine:=by
 induction l with
 |nil=>exact fine_zero
 |cons e l ih=>
  have:=h.cons
  unfold look
  split
  ·exact join_fine this.1 (ih this.2)
  ·exact ih this.2
theorem look_append {a b:List Ent} (ha:Fines a) (hb:Fines b) (k:Int):look (a++b) k=(look a k).join (look b k):=by
 induction a with
 |nil=>simp only [List.nil_append,look];rw [zero_join (look_fine hb k)]
 |cons e l ih=>
  have:=ha.cons
  simp only [List.cons_append,look]
  split
  ·rw [ih this.2,join_assoc this.1 (look_fine this.2 k) (look_fine hb k)]
  ·exact ih this.2
theorem look_none {l:List Ent} {k:Int} (h:∀e∈l,e.key≠k):look l k=Roll.zero:=by
 induction l with
 |nil=>rfl
 |cons e l ih=>
  unfold look
  rw [if_neg (h e (by simp))]
  exact ih fun x hx=>h x (by simp [hx])
theorem look_perm {a b:List Ent} (h:a.Perm b) (ha:Fines a) (k:Int):look a k=look b k:=by
 induction h with
 |nil=>rfl
 |cons x _ ih=>simp only [look];rw [ih ha.cons.2]
 |swap x y l=>
  have h1:=ha.cons
  have h2:=h1.2.cons
  simp only [look]
  split <;> split
  ·rw [←join_assoc h1.1 h2.1 (look_fine h2.2 k),←join_assoc h2.1 h1.1 (look_fine h2.2 k),join_comm h1.1 h2.1]
  ·rfl
  ·rfl
  ·rfl
 |trans p _ ih1 ih2=>
  rw [ih1 ha,ih2 fun e he=>ha e (p.mem_iff.2 he)]
theorem look_good {l:List Ent} (h:Goods l) {k:Int} (hk:∃e∈l,e.key=k):(look l k).Good:=by
 obtain⟨e,he,hk⟩:=hk
 have hf:=look_fine h.fines k
 refine hf.good ?_
 induction l with
 |nil=>cases he
 |cons x l ih=>
  have hc:=h.cons
  have hf2:=(look_fine hc.2.fines k)
  have p1:=hf2.pos
  unfold look
  by_cases hx:x.key=k
  ·rw [if_pos hx,join_c];have:=hc.1.1;omega
  ·rw [if_neg hx]
   rcases List.mem_cons.1 he with rfl|he
   ·exact absurd hk hx
   ·exact ih hc.2 he hf2
theorem look_rising {l:List Ent} {e:Ent} (h:Rising l) (he:e∈l):look l e.key=e.is:=by
 induction l with
 |nil=>cases he
 |cons x l ih=>
  have hp:=List.pairwise_cons.1 h
  unfold look
  rcases List.mem_cons.1 he with rfl|he
  ·rw [if_pos rfl,look_none (fun y hy=>by have:=hp.1 y hy;omega),join_zero]
  ·rw [if_neg (by have:=hp.1 e he;omega)];exact ih hp.2 he
theorem look_ext:∀{a b:List Ent},Rising a→Rising b→Goods a→Goods b→(∀k,look a k=look b k)→a=b
 |[],[],_,_,_,_,_=>rfl
 |[],e::l,_,hb,_,gb,h=>by
  have:=look_good gb (k:=e.key) ⟨e,by simp,rfl⟩
  rw [←h e.key]at this
  exact absurd this.1 (by simp [look,Roll.zero])
 |e::l,[],ha,_,ga,_,h=>by
  have:=look_good ga (k:=e.key) ⟨e,by simp,rfl⟩
  rw [h e.key]at this
  exact absurd this.1 (by simp [look,Roll.zero])
 |e::l,f::m,ha,hb,ga,gb,h=>by
  have pa:=List.pairwise_cons.1 ha
  have pb:=List.pairwise_cons.1 hb
  have mem:∀{x:Ent} {c d:List Ent},x∈c→Goods c→(∀k,look c k=look d k)→∃y∈d,y.key=x.key:=by
   intro x c d hx gc hcd
   by_cases hd:∃y∈d,y.key=x.key
   ·exact hd
   ·have e1:look d x.key=Roll.zero:=look_none fun y hy hk=>hd ⟨y,hy,hk⟩
    have e2:=look_good gc (k:=x.key) ⟨x,hx,rfl⟩
    rw [hcd,e1]at e2
    exact absurd e2.1 (by decide)
  have hk:e.key=f.key:=by
   obtain⟨y,hy,e1⟩:=mem (x:=e) (by simp) ga h
   obtain⟨z,hz,e2⟩:=mem (x:=f) (by simp) gb fun k=>(h k).symm
   rcases List.mem_cons.1 hy with rfl|hy
   ·exact e1.symm
   ·rcases List.mem_cons.1 hz with rfl|hz
    ·exact e2
    ·have:=pb.1 y hy;have:=pa.1 z hz;omega
  have he:e.is=f.is:=by
   have e1:=look_rising ha (e:=e) (by simp)
   have e2:=look_rising hb (e:=f) (by simp)
   rw [h e.key,hk,e2]at e1
   exact e1.symm
  have hef:e=f:=by cases e;cases f;simp_all
  subst hef
  congr 1
  refine look_ext pa.2 pb.2 ga.cons.2 gb.cons.2 fun k=>?_
  by_cases hk':e.key=k
  ·rw [look_none (fun y hy=>by have:=pa.1 y hy;omega),look_none (fun y hy=>by have:=pb.1 y hy;omega)]
  ·have:=h k
   simpa [look,hk'] using this
def ins:List Ent→Ent→List Ent
 |[],x=>[x]
 |e::l,x=>if e.key<x.key then e::ins l x else if e.key=x.key then⟨x.key,e.is.join x.is⟩::l else x::e::l
def insC:List Ent→Ent→Option (List Ent)
 |[],x=>some [x]
 |e::l,x=>if e.key<x.key then(insC l x).map (e::·)else if e.key=x.key then(if e.is.c+x.is.c≤1073741824 then some (⟨x.key,e.is.join x.is⟩::l)else none)else some (x::e::l)
theorem ins_keys {l:List Ent} {x y:Ent} (h:y∈ins l x):y.key=x.key∨∃e∈l,e.key=y.key:=by
 induction l with
 |nil=>simp [ins]at h;exact .inl (by rw [h])
 |cons e l ih=>
  unfold ins at h
  split at h
  ·rcases List.mem_cons.1 h with rfl|h
   ·exact .inr ⟨y,by simp,rfl⟩
   ·rcases ih h with h|⟨z,hz,hk⟩
    ·exact .inl h
    ·exact .inr ⟨z,by simp [hz],hk⟩
  ·split at h
   ·rcases List.mem_cons.1 h with rfl|h
    ·exact .inl rfl
    ·exact .inr ⟨y,by simp [h],rfl⟩
   ·rcases List.mem_cons.1 h with rfl|h
    ·exact .inl rfl
    ·exact .inr ⟨y,h,rfl⟩
theorem ins_rising {l:List Ent} {x:Ent} (h:Rising l):Rising (ins l x):=by
 induction l with
 |nil=>simp [ins,Rising]
 |cons e l ih=>
  have hp:=List.pairwise_cons.1 h
  unfold ins
  split
  ·refine List.pairwise_cons.2 ⟨fun y hy=>?_,ih hp.2⟩
   rcases ins_keys hy with h|⟨z,hz,hk⟩
   ·omega
   ·have:=hp.1 z hz;omega
  ·split
   ·exact List.pairwise_cons.2 ⟨fun y hy=>by have:=hp.1 y hy;simp only;omega,hp.2⟩
   ·refine List.pairwise_cons.2 ⟨fun y hy=>?_,h⟩
    rcases List.mem_cons.1 hy with rfl|hy
    ·omega
    ·have:=hp.1 y hy;omega
theorem ins_goods {l:List Ent} {x:Ent} (h:Goods l) (hx:x.is.Good):Goods (ins l x):=by
 induction l with
 |nil=>intro e he;simp [ins]at he;rw [he];exact hx
 |cons e l ih=>
  have hc:=h.cons
  unfold ins
  split
  ·intro y hy
   rcases List.mem_cons.1 hy with rfl|hy
   ·exact hc.1
   ·exact ih hc.2 y hy
  ·split
   ·intro y hy
    rcases List.mem_cons.1 hy with rfl|hy
    ·exact join_good hc.1 hx
    ·exact hc.2 y hy
   ·intro y hy
    rcases List.mem_cons.1 hy with rfl|hy
    ·exact hx
    ·exact h y hy
theorem look_ins {l:List Ent} {x:Ent} (h:Fines l) (hx:x.is.Fine) (k:Int):look (ins l x) k=if x.key=k then(look l k).join x.is else look l k:=by
 induction l with
 |nil=>
  simp only [ins,look]
  split
  ·rw [join_zero,zero_join hx]
  ·rfl
 |cons e l ih=>
  have hc:=h.cons
  have hf:=look_fine hc.2 k
  unfold ins
  split
  ·unfold look
   rw [ih hc.2]
   by_cases h1:e.key=k
   ·rw [if_pos h1,if_pos h1,if_neg (by omega),if_neg (by omega)]
   ·rw [if_neg h1,if_neg h1]
  ·split
   ·simp only [look]
    by_cases h1:x.key=k
    ·rw [if_pos h1,if_pos h1,if_pos (by omega),join_assoc hc.1 hx hf,join_assoc hc.1 hf hx,join_comm hx hf]
    ·rw [if_neg h1,if_neg h1,if_neg (by omega)]
   ·simp only [look]
    by_cases h1:x.key=k
    ·rw [if_pos h1,if_pos h1,if_neg (by omega),join_comm hx hf]
    ·rw [if_neg h1,if_neg h1]
theorem insC_eq {l:List Ent} {x:Ent} (h:Rising l) (hx:x.is.c≤1073741824):insC l x=if (look l x.key).c+x.is.c≤1073741824 then some (ins l x)else none:=by
 induction l with
 |nil=>
  have:(look [] x.key).c+x.is.c≤1073741824:=by simpa [look,Roll.zero] using hx
  rw [if_pos this];rfl
 |cons e l ih=>
  have hp:=List.pairwise_cons.1 h
  by_cases h1:e.key<x.key
  ·have e1:look (e::l) x.key=look l x.key:=by show (if e.key=x.key then _ else _)=_;rw [if_neg (by omega)]
   have e2:ins (e::l) x=e::ins l x:=by show (if e.key<x.key then _ else _)=_;rw [if_pos h1]
   have e3:insC (e::l) x=(insC l x).map (e::·):=by show (if e.key<x.key then _ else _)=_;rw [if_pos h1]
   rw [e1,e2,e3,ih hp.2]
   by_cases h2:(look l x.key).c+x.is.c≤1073741824
   ·rw [if_pos h2,if_pos h2];rfl
   ·rw [if_neg h2,if_neg h2];rfl
  ·have hl:look l x.key=Roll.zero:=look_none fun y hy=>by have:=hp.1 y hy;omega
   by_cases h2:e.key=x.key
   ·have e1:look (e::l) x.key=e.is:=by show (if e.key=x.key then _ else _)=_;rw [if_pos h2,hl,join_zero]
    have e2:ins (e::l) x=⟨x.key,e.is.join x.is⟩::l:=by show (if e.key<x.key then _ else if e.key=x.key then _ else _)=_;rw [if_neg h1,if_pos h2]
    have e3:insC (e::l) x=if e.is.c+x.is.c≤1073741824 then some (⟨x.key,e.is.join x.is⟩::l)else none:=by show (if e.key<x.key then _ else if e.key=x.key then _ else _)=_;rw [if_neg h1,if_pos h2]
    rw [e1,e2,e3]
   ·have e1:look (e::l) x.key=Roll.zero:=by show (if e.key=x.key then _ else _)=_;rw [if_neg h2,hl]
    have e2:ins (e::l) x=x::e::l:=by show (if e.key<x.key then _ else if e.key=x.key then _ else _)=_;rw [if_neg h1,if_neg h2]
    have e3:insC (e::l) x=some (x::e::l):=by show (if e.key<x.key then _ else if e.key=x.key then _ else _)=_;rw [if_neg h1,if_neg h2]
    rw [e1,e2,e3,if_pos (by simpa [Roll.zero] using hx)]
def bag (l:List Ent):List Ent:=l.foldl ins []
def bagC (l:List Ent):Option (List Ent):=l.foldlM insC []
def Small (l:List Ent):Prop:=∀k,(look l k).c≤1073741824
theorem foldl_ins {l m:List Ent} (hm:Rising m∧Goods m) (hl:Goods l):Rising (l.foldl ins m)∧Goods (l.foldl ins m)∧∀k,look (l.foldl ins m) k=(look m k).join (look l k):=by
 induction l generalizing m with
 |nil=>exact⟨hm.1,hm.2,fun k=>by simp [look,join_zero]⟩
 |cons x l ih=>
  have hc:=hl.cons
  obtain⟨a,b,c⟩:=ih ⟨ins_rising hm.1,ins_goods hm.2 hc.1⟩ hc.2
  refine⟨a,b,fun k=>?_⟩
  simp only [List.foldl_cons]
  rw [c,look_ins hm.2.fines (.inr hc.1)]
  simp only [look]
  by_cases h:x.key=k
  ·rw [if_pos h,if_pos h,join_assoc (look_fine hm.2.fines k) (.inr hc.1) (look_fine hc.2.fines k)]
  ·rw [if_neg h,if_neg h]
theorem bag_rising {l:List Ent} (hl:Goods l):Rising (bag l):=(foldl_ins (m:=[]) ⟨List.Pairwise.nil,fun _ h=>by cases h⟩ hl).1
theorem bag_goods {l:List Ent} (hl:Goods l):Goods (bag l):=(foldl_ins (m:=[]) ⟨List.Pairwise.nil,fun _ h=>by cases h⟩ hl).2.1
theorem look_bag {l:List Ent} (hl:Goods l) (k:Int):look (bag l) k=look l k:=by
 have:=(foldl_ins (m:=[]) ⟨List.Pairwise.nil,fun _ h=>by cases h⟩ hl).2.2 k
 simp only [look]at this
 unfold bag;rw [this,zero_join (look_fine hl.fines k)]
theorem bag_perm {a b:List Ent} (h:a.Perm b) (ha:Goods a):bag a=bag b:=by
 have hb:Goods b:=fun e he=>ha e (h.mem_iff.2 he)
 refine look_ext (bag_rising ha) (bag_rising hb) (bag_goods ha) (bag_goods hb) fun k=>?_
 rw [look_bag ha,look_bag hb,look_perm h ha.fines]
theorem bag_self {l:List Ent} (hr:Rising l) (hl:Goods l):bag l=l:=
 look_ext (bag_rising hl) hr (bag_goods hl) hl fun k=>look_bag hl k
theorem look_le {a b:List Ent} (ha:Fines a) (hb:Fines b) (k:Int):(look a k).c≤(look (a++b) k).c:=by
 rw [look_append ha hb,join_c];have:=(look_fine hb k).pos;omega
theorem goods_append {a b:List Ent}:Goods (a++b)↔Goods a∧Goods b:=
 ⟨fun h=>⟨fun e he=>h e (by simp [he]),fun e he=>h e (by simp [he])⟩,fun h e he=>by rcases List.mem_append.1 he with he|he;exact h.1 e he;exact h.2 e he⟩
theorem Checked.cons {x:Ent} {l:List Ent} (h:Checked (x::l)):(x.is.c≠0∧rollCheck x.is=0)∧Checked l:=⟨h x (by simp),fun y hy=>h y (by simp [hy])⟩
theorem Checked.le {l:List Ent} (h:Checked l):∀e∈l,e.is.c≤1073741824:=fun e he=>(good_check (h e he).2 (h e he).1).2
open Classical in
theorem foldlM_insC {l m:List Ent} (hm:Rising m) (gm:Goods m) (hl:Checked l) (hs:Small m) :
  l.foldlM insC m=if Small (m++l)then some (l.foldl ins m)else none:=by
 induction l generalizing m with
 |nil=>rw [List.foldlM_nil,if_pos (by simpa using hs)];rfl
 |cons x l ih=>
  have hc:=hl.goods.cons
  have e1:look (m++x::l)=look ((ins m x)++l):=by
   funext k
   rw [look_append gm.fines hl.goods.fines,look_append (ins_goods gm hc.1).fines hc.2.fines,look_ins gm.fines (.inr hc.1)]
   simp only [look]
   by_cases h:x.key=k
   ·rw [if_pos h,if_pos h,join_assoc (look_fine gm.fines k) (.inr hc.1) (look_fine hc.2.fines k)]
   ·rw [if_neg h,if_neg h]
  have e2:Small (m++x::l)↔Small ((ins m x)++l):=by unfold Small;rw [e1]
  have hle:∀k,(look (ins m x) k).c≤(look (m++x::l) k).c:=fun k=>by rw [e1];exact look_le (ins_goods gm hc.1).fines hc.2.fines k
  have hlx:=look_ins gm.fines (.inr hc.1:x.is.Fine)
  rw [List.foldlM_cons,insC_eq hm (hl.le x (by simp))]
  by_cases h1:(look m x.key).c+x.is.c≤1073741824
  ·rw [if_pos h1]
   have hs':Small (ins m x):=fun k=>by
    rw [hlx]
    split
    ·rename_i h;subst h;rw [join_c];exact h1
    ·exact hs k
   show List.foldlM insC (ins m x) l=_
   rw [ih (ins_rising hm) (ins_goods gm hc.1) hl.cons.2 hs']
   by_cases h2:Small (m++x::l)
   ·rw [if_pos (e2.1 h2),if_pos h2];rfl
   ·rw [if_neg (fun h=>h2 (e2.2 h)),if_neg h2]
  ·rw [if_neg h1,if_neg]
   ·rfl
   ·intro h
    have:=hle x.key
    rw [hlx,if_pos rfl,join_c]at this
    have:=h x.key
    omega
open Classical in
theorem bagC_eq {l:List Ent} (hl:Checked l):bagC l=if Small l then some (bag l)else none:=by
 have:=foldlM_insC (m:=[]) List.Pairwise.nil (fun _ h=>by cases h) hl (fun k=>by simp [look,Roll.zero])
 simpa [bagC,bag] using this
theorem small_perm {a b:List Ent} (h:a.Perm b) (ha:Fines a):Small a↔Small b:=by
 unfold Small;constructor <;> intro hs k
 ·rw [←look_perm h ha];exact hs k
 ·rw [look_perm h ha];exact hs k
theorem bagC_perm {a b:List Ent} (h:a.Perm b) (ha:Checked a):bagC a=bagC b:=by
 have hb:Checked b:=fun e he=>ha e (h.mem_iff.2 he)
 rw [bagC_eq ha,bagC_eq hb,bag_perm h ha.goods]
 by_cases hs:Small a
 ·rw [if_pos hs,if_pos ((small_perm h ha.goods.fines).1 hs)]
 ·rw [if_neg hs,if_neg (fun h'=>hs ((small_perm h ha.goods.fines).2 h'))]
theorem bag_checked {l:List Ent} (hl:Goods l) (hs:Small l):Checked (bag l):=fun e he=>by
 have hg:=bag_goods hl e he
 refine⟨by have:=hg.1;omega,check_good hg ?_⟩
 rw [←look_rising (bag_rising hl) he,look_bag hl];exact hs _
theorem ins_checked {l:List Ent} {x:Ent} (hr:Rising l) (hl:Checked l) (hx:x.is.Good) (hc:(look l x.key).c+x.is.c≤1073741824):Checked (ins l x):=fun e he=>by
 have hg:=ins_goods hl.goods hx e he
 refine⟨by have:=hg.1;omega,check_good hg ?_⟩
 rw [←look_rising (ins_rising hr) he,look_ins hl.goods.fines (.inr hx)]
 split
 ·rename_i h;rw [←h,join_c];exact hc
 ·rename_i h
  by_cases hm:∃y∈l,y.key=e.key
  ·obtain⟨y,hy,hk⟩:=hm
   rw [←hk,look_rising hr hy];exact hl.le y hy
  ·rw [look_none fun y hy hk=>hm ⟨y,hy,hk⟩];decide
end Go.Proofs.YtnjfkcimboidnaaDoor

/- Which trees may be: what the program's check and the document's compute, and that they are one. No program in sight. -/
namespace Go.Proofs.YtnjfkcimboidnaaDoor
def EntsOk (l:List Ent) (lo hi:Int):Prop:=Checked l∧(∀e∈l,lo≤e.key∧e.key<hi)∧Rising l
def Tr.at? (t:Tr) (n:Int):Option Nd:=if 0≤n then t.nodes[n.toNat]? else none
def LeafOk (t:Tr) (n:Int) (x:Nd) (lo hi:Int):Prop:=x.keys=[]∧x.kids=[]∧x.buf=[]∧x.ents.length≤6∧(x.ents≠[]∨n=t.root)∧EntsOk x.ents lo hi
def InnOk (x:Nd) (lo hi:Int):Prop:=x.ents=[]∧2≤x.kids.length∧x.kids.length≤4∧x.keys.length+1=x.kids.length∧x.buf.length≤8∧EntsOk x.buf lo hi
def Nd.from (x:Nd) (lo:Int) (i:Nat):Int:=if i=0 then lo else x.keys.getD (i-1) 0
def Nd.upto (x:Nd) (hi:Int) (i:Nat):Int:=if i<x.keys.length then x.keys.getD i 0 else hi
open Classical in
def visKids (go:Int→Int→Int→Option (List Int×Nat)) (x:Nd) (lo hi:Int):List Int→Nat→Option (List Int×Nat)
 |[],_=>some ([],0)
 |k::ks,i=>
  if x.from lo i<x.upto hi i∧lo≤x.from lo i∧x.upto hi i≤hi then
   match go k (x.from lo i) (x.upto hi i),visKids go x lo hi ks (i+1) with
   |some (l,h),some (l',h')=>if h'=0∨h'=h then some (l++l',h)else none
   |_,_=>none
  else none
open Classical in
noncomputable def vis (t:Tr):Nat→Int→Int→Int→Option (List Int×Nat)
 |0,_,_,_=>none
 |f+1,n,lo,hi=>
  match t.at? n with
  |none=>none
  |some x=>
   if ¬lo<hi then none
   else if x.leaf=true then(if LeafOk t n x lo hi then some ([n],1)else none)
   else if InnOk x lo hi then(visKids (fun k a b=>vis t f k a b) x lo hi x.kids 0).map fun p=>(n::p.1,p.2+1)
   else none
open Classical in
def kidsS {σ:Type} (go:Int→Int→Int→σ→Option σ) (x:Nd) (lo hi:Int):List Int→Nat→σ→Option σ
 |[],_,s=>some s
 |k::ks,i,s=>
  if x.from lo i<x.upto hi i∧lo≤x.from lo i∧x.upto hi i≤hi then
   match go k (x.from lo i) (x.upto hi i) s with
   |none=>none
   |some s'=>kidsS go x lo hi ks (i+1) s'
  else none
open Classical in
noncomputable def nodeS (t:Tr):Nat→Int→Int→Int→List Int×Int→Option (List Int×Int)
 |0,_,_,_,_=>none
 |f+1,n,lo,hi,s=>
  match t.at? n with
  |none=>none
  |some x=>
   if n∈s.1 then none
   else if x.leaf=true then(if (s.2=0∨s.2=12-(f:Int))∧LeafOk t n x lo hi then some (n::s.1,12-(f:Int))else none)
   else if InnOk x lo hi then kidsS (fun k a b s=>nodeS t f k a b s) x lo hi x.kids 0 (n::s.1,s.2)
   else none
theorem visKids_pos {go:Int→Int→Int→Option (List Int×Nat)} {x:Nd} {lo hi:Int} (hgo:∀k a b l h,go k a b=some (l,h)→1≤h) :
  ∀{ks:List Int} {i:Nat} {l:List Int} {h:Nat},visKids go x lo hi ks i=some (l,h)→ks=[]∨1≤h
 |[],_,_,_,_=> .inl rfl
 |k::ks,i,l,h,hv=>by
  unfold visKids at hv
  split at hv
  ·split at hv
   ·rename_i l1 h1 l2 h2 e1 e2
    split at hv
    ·simp only [Option.some.injEq,Prod.mk.injEq]at hv
     exact .inr (hv.2▸hgo _ _ _ _ _ e1)
    ·cases hv
   ·cases hv
  ·cases hv
theorem vis_pos {t:Tr} {f:Nat} {n lo hi:Int} {l:List Int} {h:Nat} (hv:vis t f n lo hi=some (l,h)):1≤h:=by
 cases f with
 |zero=>cases hv
 |succ f=>
  unfold vis at hv
  split at hv
  ·cases hv
  ·split at hv
   ·cases hv
   ·split at hv
    ·split at hv
     ·simp only [Option.some.injEq,Prod.mk.injEq]at hv;omega
     ·cases hv
    ·split at hv
     ·obtain⟨p,_,hp⟩:=Option.map_eq_some_iff.1 hv
      simp only [Prod.mk.injEq]at hp;omega
     ·cases hv
theorem vis_lt {t:Tr} {f:Nat} {n lo hi:Int} {l:List Int} {h:Nat} (hv:vis t f n lo hi=some (l,h)):lo<hi:=by
 cases f with
 |zero=>cases hv
 |succ f=>
  unfold vis at hv
  split at hv
  ·cases hv
  ·split at hv
   ·cases hv
   ·rename_i h;exact Classical.not_not.1 h
def apart (l S:List Int):Prop:=l.Nodup∧∀x∈l,x∉S
theorem apart_append {l l' S:List Int}:apart (l++l') S↔apart l S∧apart l' (l.reverse++S):=by
 unfold apart
 rw [List.nodup_append]
 constructor
 ·rintro⟨⟨h1,h2,h3⟩,h4⟩
  refine⟨⟨h1,fun x hx=>h4 x (by simp [hx])⟩,h2,fun x hx hh=>?_⟩
  rcases List.mem_append.1 hh with hh|hh
  ·exact h3 x (by simpa using hh) x hx rfl
  ·exact h4 x (by simp [hx]) hh
 ·rintro⟨⟨h1,h2⟩,h3,h4⟩
  refine⟨⟨h1,h3,fun a ha b hb hab=>?_⟩,fun x hx=>?_⟩
  ·subst hab;exact h4 a hb (by simp [ha])
  ·rcases List.mem_append.1 hx with hx|hx
   ·exact h2 x hx
   ·exact fun hh=>h4 x hx (by simp [hh])
theorem apart_cons {n:Int} {l S:List Int}:apart (n::l) S↔n∉S∧apart l (n::S):=by
 have:=apart_append (l:=[n]) (l':=l) (S:=S)
 simp only [List.singleton_append,List.reverse_singleton]at this
 rw [this]
 simp [apart]
theorem apart_nil (S:List Int):apart [] S:=by simp [apart]
open Classical in
theorem kidsS_vis {go:Int→Int→Int→List Int×Int→Option (List Int×Int)} {gv:Int→Int→Int→Option (List Int×Nat)} {x:Nd} {lo hi d:Int} (hd:0≤d)
  (hpos:∀k a b l h,gv k a b=some (l,h)→1≤h)
  (hgo:∀k a b S D,a<b→go k a b (S,D)=match gv k a b with|none=>none|some (l,h)=>if apart l S∧(D=0∨D=d+h)then some (l.reverse++S,d+h)else none) :
  ∀(ks:List Int) (i:Nat) (S:List Int) (D:Int),kidsS go x lo hi ks i (S,D)=match visKids gv x lo hi ks i with
   |none=>none
   |some (l,h)=>if apart l S∧(h=0∨D=0∨D=d+h)then some (l.reverse++S,if h=0 then D else d+h)else none:=by
 intro ks
 induction ks with
 |nil=>intro i S D;simp [kidsS,visKids,apart_nil]
 |cons k ks ih=>
  intro i S D
  unfold kidsS visKids
  by_cases hc:x.from lo i<x.upto hi i∧lo≤x.from lo i∧x.upto hi i≤hi
  ·rw [if_pos hc,if_pos hc,hgo _ _ _ _ _ hc.1]
   cases hg:gv k (x.from lo i) (x.upto hi i) with
   |none=>rfl
   |some p=>
    obtain⟨l,h⟩:=p
    have hp:=hpos _ _ _ _ _ hg
    simp only
    by_cases h1:apart l S∧(D=0∨D=d+h)
    ·rw [if_pos h1]
     simp only
     rw [ih]
     cases hk:visKids gv x lo hi ks (i+1) with
     |none=>rfl
     |some q=>
      obtain⟨l',h'⟩:=q
      simp only
      by_cases h2:h'=0∨h'=h
      ·rw [if_pos h2]
       simp only
       by_cases h3:apart l' (l.reverse++S)
       ·have c1:apart l' (l.reverse++S)∧(h'=0∨d+(h:Int)=0∨d+(h:Int)=d+h'):=⟨h3,by omega⟩
        have c2:apart (l++l') S∧(h=0∨D=0∨D=d+h):=⟨apart_append.2 ⟨h1.1,h3⟩,by omega⟩
        rw [if_pos c1,if_pos c2,List.reverse_append,List.append_assoc]
        congr 2
        by_cases h0:h'=0
        ·rw [if_pos h0,if_neg (by omega)]
        ·rw [if_neg h0,if_neg (by omega)];omega
       ·rw [if_neg (fun h=>h3 h.1),if_neg (fun h=>h3 (apart_append.1 h.1).2)]
      ·rw [if_neg h2]
       have c1:¬(apart l' (l.reverse++S)∧(h'=0∨d+(h:Int)=0∨d+(h:Int)=d+h')):=fun h=>by omega
       rw [if_neg c1]
    ·rw [if_neg h1]
     cases hk:visKids gv x lo hi ks (i+1) with
     |none=>rfl
     |some q=>
      obtain⟨l',h'⟩:=q
      simp only
      by_cases h2:h'=0∨h'=h
      ·rw [if_pos h2]
       have c2:¬(apart (l++l') S∧(h=0∨D=0∨D=d+h)):=fun hh=>h1 ⟨(apart_append.1 hh.1).1,by omega⟩
       show none=ite _ _ _
       rw [if_neg c2]
      ·rw [if_neg h2]
  ·rw [if_neg hc,if_neg hc]
open Classical in
theorem nodeS_vis {t:Tr}:∀(f:Nat) (n lo hi:Int) (S:List Int) (D:Int),f≤12→lo<hi→nodeS t f n lo hi (S,D)=match vis t f n lo hi with
   |none=>none
   |some (l,h)=>if apart l S∧(D=0∨D=12-f+h)then some (l.reverse++S,12-f+h)else none:=by
 intro f
 induction f with
 |zero=>intro n lo hi S D _ _;rfl
 |succ f ih=>
  intro n lo hi S D hf hlt
  unfold nodeS vis
  cases hx:t.at? n with
  |none=>rfl
  |some x=>
   simp only
   rw [if_neg (not_not_intro hlt)]
   by_cases hl:x.leaf=true
   ·rw [if_pos hl,if_pos hl]
    by_cases hok:LeafOk t n x lo hi
    ·rw [if_pos hok]
     simp only [apart,List.nodup_cons,List.not_mem_nil,not_false_eq_true,List.nodup_nil,and_self,List.mem_singleton,forall_eq,true_and,hok,and_true]
     by_cases hn:n∈S
     ·rw [if_pos hn,if_neg (fun h=>h.1 hn)]
     ·rw [if_neg hn]
      by_cases hD:D=0∨D=12-(f:Int)
      ·rw [if_pos hD,if_pos ⟨hn,by omega⟩];simp;omega
      ·rw [if_neg hD,if_neg (fun h=>hD (by omega))]
    ·rw [if_neg hok]
     simp only [hok,and_false,if_false]
     split <;> rfl
   ·rw [if_neg hl,if_neg hl]
    by_cases hok:InnOk x lo hi
    ·rw [if_pos hok,if_pos hok,kidsS_vis (gv:=fun k a b=>vis t f k a b) (d:=12-f) (by omega) (fun k a b l h hv=>vis_pos hv) (fun k a b S D hab=>ih k a b S D (by omega) hab)]
     cases hk:visKids (fun k a b=>vis t f k a b) x lo hi x.kids 0 with
     |none=>simp
     |some q=>
      obtain⟨l,h⟩:=q
      have hp:1≤h:=by
       rcases visKids_pos (fun k a b l h hv=>vis_pos hv) hk with h0|h0
       ·have:=hok.2.1;rw [h0]at this;simp at this
       ·exact h0
      simp only [Option.map_some,apart_cons,List.reverse_cons,List.append_assoc,List.singleton_append]
      by_cases hn:n∈S
      ·rw [if_pos hn,if_neg (fun h=>h.1.1 hn)]
      ·rw [if_neg hn]
       by_cases ha:apart l (n::S)∧(D=0∨D=12-(f:Int)+h)
       ·have c1:apart l (n::S)∧(h=0∨D=0∨D=12-(f:Int)+h):=⟨ha.1, .inr ha.2⟩
        have c2:(n∉S∧apart l (n::S))∧(D=0∨D=12-((f+1:Nat):Int)+((h+1:Nat):Int)):=⟨⟨hn,ha.1⟩,by omega⟩
        rw [if_pos c1,if_pos c2,if_neg (by omega)]
        congr 2;omega
       ·have c1:¬(apart l (n::S)∧(h=0∨D=0∨D=12-(f:Int)+h)):=fun h'=>ha ⟨h'.1,by omega⟩
        have c2:¬((n∉S∧apart l (n::S))∧(D=0∨D=12-((f+1:Nat):Int)+((h+1:Nat):Int))):=fun h'=>ha ⟨h'.1.2,by omega⟩
        rw [if_neg c1,if_neg c2]
    ·rw [if_neg hok,if_neg hok]
     simp
def ValidT (t:Tr):Prop:=∃l h,vis t 12 t.root 0 1099511627776=some (l,h)∧l.Nodup∧l.length=t.nodes.length
open Classical in
noncomputable def treeFault (t:Tr):Int:=if 2000<t.nodes.length then 1 else if ValidT t then 0 else 7
theorem visKids_mem {go:Int→Int→Int→Option (List Int×Nat)} {x:Nd} {lo hi:Int} {P:Int→Prop} (hgo:∀k a b l h,go k a b=some (l,h)→∀y∈l,P y) :
  ∀{ks:List Int} {i:Nat} {l:List Int} {h:Nat},visKids go x lo hi ks i=some (l,h)→∀y∈l,P y
 |[],_,l,_,hv=>by simp [visKids]at hv;intro y hy;rw [hv.1]at hy;cases hy
 |k::ks,i,l,h,hv=>by
  unfold visKids at hv
  split at hv
  ·split at hv
   ·rename_i l1 h1 l2 h2 e1 e2
    split at hv
    ·simp only [Option.some.injEq,Prod.mk.injEq]at hv
     rw [←hv.1]
     intro y hy
     rcases List.mem_append.1 hy with hy|hy
     ·exact hgo _ _ _ _ _ e1 y hy
     ·exact visKids_mem hgo e2 y hy
    ·cases hv
   ·cases hv
  ·cases hv
theorem at?_range {t:Tr} {n:Int} {x:Nd} (h:t.at? n=some x):0≤n∧n<t.nodes.length:=by
 unfold Tr.at? at h
 split at h
 ·rename_i h0
  have:=(List.getElem?_eq_some_iff.1 h).1
  omega
 ·cases h
theorem vis_mem {t:Tr}:∀{f:Nat} {n lo hi:Int} {l:List Int} {h:Nat},vis t f n lo hi=some (l,h)→∀y∈l,0≤y∧y<t.nodes.length:=by
 intro f
 induction f with
 |zero=>intro n lo hi l h hv;cases hv
 |succ f ih=>
  intro n lo hi l h hv
  unfold vis at hv
  split at hv
  ·cases hv
  ·rename_i x hx
   have hr:=at?_range hx
   split at hv
   ·cases hv
   ·split at hv
    ·split at hv
     ·simp only [Option.some.injEq,Prod.mk.injEq]at hv
      rw [←hv.1];simp;exact hr
     ·cases hv
    ·split at hv
     ·obtain⟨p,hp,he⟩:=Option.map_eq_some_iff.1 hv
      simp only [Prod.mk.injEq]at he
      rw [←he.1]
      intro y hy
      rcases List.mem_cons.1 hy with rfl|hy
      ·exact hr
      ·exact visKids_mem (P:=fun y=>0≤y∧y<t.nodes.length) (fun k a b l h hv=>ih hv) hp y hy
     ·cases hv
theorem nodup_length {α:Type} [DecidableEq α]:∀{l m:List α},l.Nodup→(∀y∈l,y∈m)→l.length≤m.length
 |[],_,_,_=>by simp
 |a::l,m,h,hs=>by
  have hn:=List.nodup_cons.1 h
  have ha:=hs a (by simp)
  have:=nodup_length (l:=l) (m:=m.erase a) hn.2 (fun y hy=>(List.mem_erase_of_ne (by rintro rfl;exact hn.1 hy)).2 (hs y (by simp [hy])))
  rw [List.length_erase_of_mem ha]at this
  have:=List.length_pos_of_mem ha
  simp only [List.length_cons];omega
theorem nodup_full {α:Type} [DecidableEq α] {l m:List α} (h:l.Nodup) (hs:∀y∈l,y∈m) (hl:m.length≤l.length):∀y∈m,y∈l:=fun y hy=>by
 by_cases hyl:y∈l
 ·exact hyl
 ·have:=nodup_length (l:=y::l) (m:=m) (List.nodup_cons.2 ⟨hyl,h⟩) (fun z hz=>by rcases List.mem_cons.1 hz with rfl|hz;exact hy;exact hs z hz)
  simp only [List.length_cons]at this;omega
def ups (n:Nat):List Int:=(List.range n).map (fun i:Nat=>(i:Int))
theorem ups_mem {n:Nat} {y:Int}:y∈ups n↔0≤y∧y<(n:Int):=by
 unfold ups
 rw [List.mem_map]
 constructor
 ·rintro⟨a,ha,rfl⟩;have:=List.mem_range.1 ha;omega
 ·intro h;exact⟨y.toNat,List.mem_range.2 (by omega),by omega⟩
theorem ups_length (n:Nat):(ups n).length=n:=by simp [ups]
theorem ups_nodup (n:Nat):(ups n).Nodup:=by
 unfold ups
 exact List.pairwise_map.2 (List.Pairwise.imp (fun hab e=>hab (Int.ofNat.inj e)) List.nodup_range)
theorem nodup_le {l:List Int} {n:Nat} (h:l.Nodup) (hr:∀y∈l,0≤y∧y<(n:Int)):l.length≤n:=by
 have:=nodup_length (m:=ups n) h (fun y hy=>ups_mem.2 (hr y hy))
 rwa [ups_length]at this
theorem nodup_all {l:List Int} {n:Nat} (h:l.Nodup) (hr:∀y∈l,0≤y∧y<(n:Int)):l.length=n↔∀i:Nat,i<n→(i:Int)∈l:=by
 constructor
 ·intro hl i hi
  exact nodup_full (m:=ups n) h (fun y hy=>ups_mem.2 (hr y hy)) (by rw [ups_length,hl];exact Nat.le_refl _) i (ups_mem.2 (by omega))
 ·intro hall
  have h1:=nodup_le h hr
  have h2:=nodup_length (l:=ups n) (m:=l) (ups_nodup n) (fun y hy=>by
   have:=ups_mem.1 hy
   have h3:=hall y.toNat (by omega)
   have h4:((y.toNat:Nat):Int)=y:=by omega
   rwa [h4]at h3)
  rw [ups_length]at h2
  omega
noncomputable def checkS (t:Tr):Int:=if 2000<t.nodes.length then 1 else match nodeS t 12 t.root 0 1099511627776 ([],0) with|none=>7|some (S,_)=>if S.length=t.nodes.length then 0 else 7
theorem apart_empty {l:List Int}:apart l []↔l.Nodup:=by simp [apart]
open Classical in
theorem checkS_eq (t:Tr):checkS t=treeFault t:=by
 unfold checkS treeFault
 split
 ·rfl
 ·rw [nodeS_vis 12 _ _ _ _ _ (by omega) (by omega)]
  cases hv:vis t 12 t.root 0 1099511627776 with
  |none=>
   rw [if_neg]
   rintro⟨l,h,e,_⟩
   rw [hv]at e;cases e
  |some p=>
   obtain⟨l,h⟩:=p
   simp only [apart_empty]
   by_cases hn:l.Nodup
   ·rw [if_pos ⟨hn, .inl trivial⟩]
    simp only [List.append_nil,List.length_reverse]
    by_cases hl:l.length=t.nodes.length
    ·rw [if_pos hl,if_pos ⟨l,h,hv,hn,hl⟩]
    ·rw [if_neg hl,if_neg]
     rintro⟨l',h',e,_,hl'⟩
     rw [hv]at e;simp only [Option.some.injEq,Prod.mk.injEq]at e
     rw [e.1]at hl;exact hl hl'
   ·rw [if_neg (fun h=>hn h.1),if_neg]
    rintro⟨l',h',e,hn',_⟩
    rw [hv]at e;simp only [Option.some.injEq,Prod.mk.injEq]at e
    rw [e.1]at hn;exact hn hn'
end Go.Proofs.YtnjfkcimboidnaaDoor

/- What a tree knows: the program's walk over its kids and the document's over all its nodes come to one. No program in sight. -/
namespace Go.Proofs.YtnjfkcimboidnaaDoor
def inRange (lo hi:Int) (e:Ent):Bool:=decide (lo≤e.key) && decide (e.key<hi)
def Tr.all (t:Tr):List Ent:=t.nodes.flatMap fun x=>x.ents++x.buf
def allR (t:Tr) (lo hi:Int):Option (List Ent):=bagC (t.all.filter (inRange lo hi))
def goesTo (x:Nd) (lo hi:Int) (i:Nat):Bool:=(decide (i=0) || decide (x.keys.getD (i-1) 0<hi)) && (decide (i=x.keys.length) || decide (lo<x.keys.getD i 0))
def kidsL (go:Int→List Ent) (x:Nd) (lo hi:Int):List Int→Nat→List Ent
 |[],_=>[]
 |k::ks,i=>(if goesTo x lo hi i then go k else [])++kidsL go x lo hi ks (i+1)
def walkL (t:Tr) (lo hi:Int):Nat→Int→List Ent
 |0,_=>[]
 |f+1,n=>
  match t.at? n with
  |none=>[]
  |some x=>(x.buf++x.ents).filter (inRange lo hi)++kidsL (fun k=>walkL t lo hi f k) x lo hi x.kids 0
def Tr.of (t:Tr) (n:Int):List Ent:=match t.at? n with|none=>[]|some x=>x.ents++x.buf
theorem filter_out {l:List Ent} {lo hi:Int} (h:∀e∈l,e.key<lo∨hi≤e.key):l.filter (inRange lo hi)=[]:=by
 rw [List.filter_eq_nil_iff]
 intro e he
 have:=h e he
 simp [inRange];omega
theorem kidsL_perm {t:Tr} {x:Nd} {a b lo hi:Int} {go:Int→List Ent} {gv:Int→Int→Int→Option (List Int×Nat)}
  (hgo:∀k a b l h,gv k a b=some (l,h)→(go k).Perm ((l.flatMap t.of).filter (inRange lo hi))∧∀e∈l.flatMap t.of,a≤e.key∧e.key<b) :
  ∀(ks:List Int) (i:Nat) (l:List Int) (h:Nat),i+ks.length≤x.keys.length+1→visKids gv x a b ks i=some (l,h) →
   (kidsL go x lo hi ks i).Perm ((l.flatMap t.of).filter (inRange lo hi))∧∀e∈l.flatMap t.of,a≤e.key∧e.key<b:=by
 intro ks
 induction ks with
 |nil=>intro i l h _ hv;simp [visKids]at hv;simp [kidsL,hv.1]
 |cons k ks ih=>
  intro i l h hi0 hv
  simp only [List.length_cons]at hi0
  unfold visKids at hv
  split at hv
  ·rename_i hc
   split at hv
   ·rename_i l1 h1 l2 h2 e1 e2
    split at hv
    ·simp only [Option.some.injEq,Prod.mk.injEq]at hv
     obtain⟨rfl,-⟩:=hv
     obtain⟨p1,q1⟩:=hgo _ _ _ _ _ e1
     obtain⟨p2,q2⟩:=ih (i+1) l2 h2 (by omega) e2
     rw [List.flatMap_append,List.filter_append]
     refine⟨?_,fun e he=>?_⟩
     ·unfold kidsL
      refine List.Perm.append ?_ p2
      by_cases hg:goesTo x lo hi i=true
      ·rw [if_pos hg];exact p1
      ·rw [if_neg hg]
       rw [filter_out]
       intro e he
       have hr:=q1 e he
       simp only [goesTo,Bool.and_eq_true,Bool.or_eq_true,decide_eq_true_eq]at hg
       by_cases g1:i=0∨x.keys.getD (i-1) 0<hi
       ·left
        have g2:¬(i=x.keys.length∨lo<x.keys.getD i 0):=fun h=>hg ⟨g1,h⟩
        simp only [Nd.upto]at hr
        rw [if_pos (by omega)]at hr;omega
       ·right
        simp only [Nd.from]at hr
        rw [if_neg (by omega)]at hr;omega
     ·rcases List.mem_append.1 he with he|he
      ·have:=q1 e he;omega
      ·exact q2 e he
    ·cases hv
   ·cases hv
  ·cases hv
theorem walkL_perm {t:Tr} {lo hi:Int}:∀(f:Nat) (n a b:Int) (l:List Int) (h:Nat),vis t f n a b=some (l,h) →
  (walkL t lo hi f n).Perm ((l.flatMap t.of).filter (inRange lo hi))∧(∀e∈l.flatMap t.of,a≤e.key∧e.key<b):=by
 intro f
 induction f with
 |zero=>intro n a b l h hv;cases hv
 |succ f ih=>
  intro n a b l h hv
  unfold vis at hv
  unfold walkL
  cases hx:t.at? n with
  |none=>rw [hx]at hv;cases hv
  |some x=>
   rw [hx]at hv
   simp only at hv ⊢
   have hof:t.of n=x.ents++x.buf:=by unfold Tr.of;rw [hx]
   split at hv
   ·cases hv
   ·split at hv
    ·split at hv
     ·rename_i hok
      simp only [Option.some.injEq,Prod.mk.injEq]at hv
      obtain⟨rfl,-⟩:=hv
      obtain⟨k1,k2,k3,k4,k5,k6⟩:=hok
      simp only [List.flatMap_cons,List.flatMap_nil,List.append_nil,hof,k2,k3,kidsL,List.nil_append]
      exact⟨List.Perm.refl _,k6.2.1⟩
     ·cases hv
    ·split at hv
     ·rename_i hok
      obtain⟨p,hp,he⟩:=Option.map_eq_some_iff.1 hv
      simp only [Prod.mk.injEq]at he
      obtain⟨rfl,-⟩:=he
      obtain⟨k1,k2,k3,k4,k5,k6⟩:=hok
      obtain⟨q1,q2⟩:=kidsL_perm (t:=t) (lo:=lo) (hi:=hi) (go:=fun k=>walkL t lo hi f k) (fun k a b l h hv=>ih k a b l h hv) x.kids 0 p.1 p.2 (by omega) hp
      simp only [List.flatMap_cons,hof,k1,List.nil_append,List.append_nil,List.filter_append]
      refine⟨List.Perm.append_left _ q1,fun e he=>?_⟩
      rcases List.mem_append.1 he with he|he
      ·exact k6.2.1 e he
      ·exact q2 e he
     ·cases hv
theorem flat_range {α:Type} (f:Nd→List α) (g:Nat→List α):∀(xs:List Nd) (s:Nat),(∀j x,xs[j]?=some x→g (s+j)=f x)→(List.range' s xs.length).flatMap g=xs.flatMap f
 |[],s,_=>rfl
 |x::xs,s,h=>by
  rw [List.length_cons,List.range'_succ,List.flatMap_cons,List.flatMap_cons,flat_range f g xs (s+1) (fun j y hy=>by rw [show s+1+j=s+(j+1)from by omega];exact h (j+1) y (by simpa using hy))]
  rw [show g s=f x from by simpa using h 0 x rfl]
theorem flat_ups (t:Tr):(ups t.nodes.length).flatMap t.of=t.all:=by
 unfold ups Tr.all
 rw [List.flatMap_map,List.range_eq_range']
 refine flat_range _ _ t.nodes 0 fun j x hx=>?_
 simp [Tr.of,Tr.at?,hx]
theorem perm_ups {l:List Int} {n:Nat} (h:l.Nodup) (hr:∀y∈l,0≤y∧y<(n:Int)) (hl:l.length=n):l.Perm (ups n):=by
 refine(List.perm_ext_iff_of_nodup h (ups_nodup n)).2 fun a=>⟨fun ha=>ups_mem.2 (hr a ha),fun ha=>?_⟩
 exact nodup_full (m:=ups n) h (fun y hy=>ups_mem.2 (hr y hy)) (by rw [ups_length,hl];exact Nat.le_refl _) a ha
theorem valid_perm {t:Tr} {l:List Int} {h f:Nat} {a b:Int} (hv:vis t f t.root a b=some (l,h)) (hn:l.Nodup) (hl:l.length=t.nodes.length):(l.flatMap t.of).Perm t.all:=by
 rw [←flat_ups]
 exact List.Perm.flatMap_right _ (perm_ups hn (vis_mem hv) hl)
theorem visKids_checked {t:Tr} {x:Nd} {a b:Int} {gv:Int→Int→Int→Option (List Int×Nat)} (hgo:∀k a b l h,gv k a b=some (l,h)→Checked (l.flatMap t.of)) :
  ∀(ks:List Int) (i:Nat) (l:List Int) (h:Nat),visKids gv x a b ks i=some (l,h)→Checked (l.flatMap t.of)
 |[],_,l,_,hv=>by simp [visKids]at hv;rw [hv.1];intro e he;simp at he
 |k::ks,i,l,h,hv=>by
  unfold visKids at hv
  split at hv
  ·split at hv
   ·rename_i l1 h1 l2 h2 e1 e2
    split at hv
    ·simp only [Option.some.injEq,Prod.mk.injEq]at hv
     rw [←hv.1,List.flatMap_append]
     intro e he
     rcases List.mem_append.1 he with he|he
     ·exact hgo _ _ _ _ _ e1 e he
     ·exact visKids_checked hgo ks (i+1) l2 h2 e2 e he
    ·cases hv
   ·cases hv
  ·cases hv
theorem vis_checked {t:Tr}:∀(f:Nat) (n a b:Int) (l:List Int) (h:Nat),vis t f n a b=some (l,h)→Checked (l.flatMap t.of):=by
 intro f
 induction f with
 |zero=>intro n a b l h hv;cases hv
 |succ f ih=>
  intro n a b l h hv
  unfold vis at hv
  cases hx:t.at? n with
  |none=>rw [hx]at hv;cases hv
  |some x=>
   rw [hx]at hv
   simp only at hv
   have hof:t.of n=x.ents++x.buf:=by unfold Tr.of;rw [hx]
   split at hv
   ·cases hv
   ·split at hv
    ·split at hv
     ·rename_i hok
      simp only [Option.some.injEq,Prod.mk.injEq]at hv
      obtain⟨rfl,-⟩:=hv
      obtain⟨k1,k2,k3,k4,k5,k6⟩:=hok
      simp only [List.flatMap_cons,List.flatMap_nil,List.append_nil,hof,k3]
      exact k6.1
     ·cases hv
    ·split at hv
     ·rename_i hok
      obtain⟨p,hp,he⟩:=Option.map_eq_some_iff.1 hv
      simp only [Prod.mk.injEq]at he
      obtain⟨rfl,-⟩:=he
      obtain⟨k1,k2,k3,k4,k5,k6⟩:=hok
      simp only [List.flatMap_cons,hof,k1,List.nil_append]
      intro e he
      rcases List.mem_append.1 he with he|he
      ·exact k6.1 e he
      ·exact visKids_checked (fun k a b l h hv=>ih k a b l h hv) x.kids 0 p.1 p.2 hp e he
     ·cases hv
theorem valid_checked {t:Tr} (hv:ValidT t):Checked t.all:=by
 obtain⟨l,h,e,hn,hl⟩:=hv
 intro x hx
 exact vis_checked _ _ _ _ _ _ e x ((valid_perm e hn hl).mem_iff.2 hx)
theorem valid_range {t:Tr} (hv:ValidT t):∀e∈t.all,0≤e.key∧e.key<1099511627776:=by
 obtain⟨l,h,e,hn,hl⟩:=hv
 intro x hx
 exact(walkL_perm (lo:=0) (hi:=0) _ _ _ _ _ _ e).2 x ((valid_perm e hn hl).mem_iff.2 hx)
theorem checked_filter {l:List Ent} {p:Ent→Bool} (h:Checked l):Checked (l.filter p):=fun e he=>h e (List.mem_filter.1 he).1
theorem all_eq {t:Tr} (hv:ValidT t) (lo hi:Int):bagC (walkL t lo hi 12 t.root)=allR t lo hi:=by
 have hc:=valid_checked hv
 obtain⟨l,h,e,hn,hl⟩:=hv
 have hp:=(walkL_perm (lo:=lo) (hi:=hi) _ _ _ _ _ _ e).1
 have hq:=(valid_perm e hn hl).filter (inRange lo hi)
 exact bagC_perm (hp.trans hq) (fun x hx=>checked_filter hc x ((hp.trans hq).mem_iff.1 hx))
end Go.Proofs.YtnjfkcimboidnaaDoor

/- What a tree knows at a key: the program's way down and the document's look at all come to one. No program in sight. -/
namespace Go.Proofs.YtnjfkcimboidnaaDoor
def kidIx (keys:List Int) (key:Int):Nat:=(keys.takeWhile fun k=>decide (k≤key)).length
theorem kidIx_le (keys:List Int) (key:Int):kidIx keys key≤keys.length:=by
 unfold kidIx
 have:=List.takeWhile_prefix (fun k=>decide (k≤key)) (l:=keys)
 exact this.length_le
theorem kidIx_lo {keys:List Int} {key:Int} {j:Nat} (h:j<kidIx keys key):keys.getD j 0≤key:=by
 unfold kidIx at h
 have hp:=List.takeWhile_prefix (fun k=>decide (k≤key)) (l:=keys)
 have hl:j<keys.length:=Nat.lt_of_lt_of_le h hp.length_le
 have e:(keys.takeWhile fun k=>decide (k≤key))[j]=keys[j]:=hp.getElem h
 have hm:(keys.takeWhile fun k=>decide (k≤key))[j]∈keys.takeWhile fun k=>decide (k≤key):=List.getElem_mem h
 have:=List.all_eq_true.1 (List.all_takeWhile (p:=fun k=>decide (k≤key)) (l:=keys)) _ hm
 simp only [decide_eq_true_eq]at this
 rw [List.getD_eq_getElem?_getD,List.getElem?_eq_getElem hl,Option.getD_some,←e];exact this
theorem kidIx_hi {keys:List Int} {key:Int} (h:kidIx keys key<keys.length):key<keys.getD (kidIx keys key) 0:=by
 induction keys with
 |nil=>simp at h
 |cons k ks ih=>
  unfold kidIx at h ⊢
  by_cases hk:k≤key
  ·have e:((k::ks).takeWhile fun k=>decide (k≤key)).length=kidIx ks key+1:=by simp [kidIx,hk]
   rw [e]at h ⊢
   simp only [List.length_cons]at h
   simp only [List.getD_cons_succ]
   exact ih (by omega)
  ·have e:((k::ks).takeWhile fun k=>decide (k≤key)).length=0:=by simp [hk]
   rw [e]
   simp;omega
def pathL (t:Tr) (key:Int):Nat→Int→List Ent
 |0,_=>[]
 |f+1,n=>
  match t.at? n with
  |none=>[]
  |some x=>if x.leaf=true then x.ents.filter (fun e=>decide (e.key=key))else x.buf.filter (fun e=>decide (e.key=key))++pathL t key f (x.kids.getD (kidIx x.keys key) 0)
theorem filter_key {l:List Ent} {key:Int} (h:∀e∈l,e.key≠key):l.filter (fun e=>decide (e.key=key))=[]:=by
 rw [List.filter_eq_nil_iff];intro e he;simpa using h e he
theorem visKids_path {t:Tr} {x:Nd} {a b key:Int} {gv:Int→Int→Int→Option (List Int×Nat)}
  (hgo:∀k a b l h,gv k a b=some (l,h)→∀e∈l.flatMap t.of,a≤e.key∧e.key<b) :
  ∀(ks:List Int) (i:Nat) (l:List Int) (h:Nat),i+ks.length=x.keys.length+1→visKids gv x a b ks i=some (l,h) →
   (i≤kidIx x.keys key→∃l' h',gv (ks.getD (kidIx x.keys key-i) 0) (x.from a (kidIx x.keys key)) (x.upto b (kidIx x.keys key))=some (l',h') ∧
    (l.flatMap t.of).filter (fun e=>decide (e.key=key))=(l'.flatMap t.of).filter (fun e=>decide (e.key=key))) ∧
   (kidIx x.keys key<i→(ks=[]∨key<x.from a i)→(l.flatMap t.of).filter (fun e=>decide (e.key=key))=[]):=by
 intro ks
 have hle:=kidIx_le x.keys key
 induction ks with
 |nil=>
  intro i l h hi hv
  simp [visKids]at hv
  refine⟨fun h'=>by simp at hi;omega,fun _ _=>by rw [hv.1];rfl⟩
 |cons k ks ih=>
  intro i l h hi0 hv
  simp only [List.length_cons]at hi0
  unfold visKids at hv
  split at hv
  ·rename_i hc
   split at hv
   ·rename_i l1 h1 l2 h2 e1 e2
    split at hv
    ·simp only [Option.some.injEq,Prod.mk.injEq]at hv
     obtain⟨rfl,-⟩:=hv
     have q1:=hgo _ _ _ _ _ e1
     obtain⟨p2,q2⟩:=ih (i+1) l2 h2 (by omega) e2
     rw [List.flatMap_append,List.filter_append]
     have hup:ks=[]∨x.from a (i+1)=x.upto b i:=by
      by_cases hk:ks=[]
      ·exact .inl hk
      ·right
       have:0<ks.length:=List.length_pos_iff.2 hk
       simp only [Nd.from,Nd.upto,Nat.add_sub_cancel]
       rw [if_neg (by omega),if_pos (by omega)]
     refine⟨fun hi=>?_,fun hi hk=>?_⟩
     ·by_cases heq:i=kidIx x.keys key
      ·refine⟨l1,h1,by rw [←heq];simpa using e1,?_⟩
       have hkey:ks=[]∨key<x.from a (i+1):=by
        rcases hup with h|h
        ·exact .inl h
        ·by_cases hks:ks=[]
         ·exact .inl hks
         ·right
          have:0<ks.length:=List.length_pos_iff.2 hks
          have:=kidIx_hi (keys:=x.keys) (key:=key) (by omega)
          rw [h];simp only [Nd.upto];rw [if_pos (by omega),heq];exact this
       rw [q2 (by omega) hkey,List.append_nil]
      ·have hlt:i<kidIx x.keys key:=by omega
       obtain⟨l',h',g1,g2⟩:=p2 (by omega)
       refine⟨l',h',?_,?_⟩
       ·rw [show kidIx x.keys key-i=(kidIx x.keys key-(i+1))+1 from by omega,List.getD_cons_succ];exact g1
       ·rw [g2,filter_key,List.nil_append]
        intro e he
        have hr:=q1 e he
        have:=kidIx_lo (keys:=x.keys) (key:=key) hlt
        simp only [Nd.upto]at hr
        rw [if_pos (by omega)]at hr;omega
     ·have hka:key<x.from a i:=by rcases hk with h|h;cases h;exact h
      have hkn:ks=[]∨key<x.from a (i+1):=by
       rcases hup with h|h
       ·exact .inl h
       ·right;rw [h];omega
      rw [q2 (by omega) hkn,List.append_nil,filter_key]
      intro e he
      have hr:=q1 e he
      omega
    ·cases hv
   ·cases hv
  ·cases hv
theorem vis_inner {t:Tr} {f:Nat} {n a b:Int} {l:List Int} {h:Nat} {x:Nd} (hv:vis t (f+1) n a b=some (l,h)) (hx:t.at? n=some x) :
  a<b∧((x.leaf=true∧LeafOk t n x a b∧l=[n]∧h=1)∨(x.leaf=false∧InnOk x a b∧∃l' h',visKids (fun k a b=>vis t f k a b) x a b x.kids 0=some (l',h')∧l=n::l'∧h=h'+1)):=by
 have hlt:=vis_lt hv
 refine⟨hlt,?_⟩
 unfold vis at hv
 rw [hx]at hv
 simp only at hv
 rw [if_neg (not_not_intro hlt)]at hv
 split at hv
 ·rename_i hl
  split at hv
  ·rename_i hok
   simp only [Option.some.injEq,Prod.mk.injEq]at hv
   exact .inl ⟨hl,hok,hv.1.symm,hv.2.symm⟩
  ·cases hv
 ·rename_i hl
  split at hv
  ·rename_i hok
   obtain⟨p,hp,he⟩:=Option.map_eq_some_iff.1 hv
   simp only [Prod.mk.injEq]at he
   exact .inr ⟨by simpa using hl,hok,p.1,p.2,hp,he.1.symm,he.2.symm⟩
  ·cases hv
theorem vis_at {t:Tr} {f:Nat} {n a b:Int} {l:List Int} {h:Nat} (hv:vis t (f+1) n a b=some (l,h)):∃x,t.at? n=some x:=by
 unfold vis at hv
 split at hv
 ·cases hv
 ·exact⟨_,‹_›⟩
theorem vis_range {t:Tr} {f:Nat} {n a b:Int} {l:List Int} {h:Nat} (hv:vis t f n a b=some (l,h)):∀e∈l.flatMap t.of,a≤e.key∧e.key<b:=
 (walkL_perm (lo:=0) (hi:=0) _ _ _ _ _ _ hv).2
theorem vis_kid {t:Tr} {f:Nat} {n a b key:Int} {l:List Int} {h:Nat} {x:Nd} (hv:vis t (f+1) n a b=some (l,h)) (hx:t.at? n=some x) (hl:x.leaf=false) (ha:a≤key) (hb:key<b) :
  kidIx x.keys key<x.kids.length∧∃a' b' l' h',vis t f (x.kids.getD (kidIx x.keys key) 0) a' b'=some (l',h')∧a'≤key∧key<b' ∧
   (l.flatMap t.of).filter (fun e=>decide (e.key=key))=x.buf.filter (fun e=>decide (e.key=key))++(l'.flatMap t.of).filter (fun e=>decide (e.key=key)):=by
 obtain⟨hlt,⟨h1,_⟩|⟨_,hok,l1,h1,hk,rfl,rfl⟩⟩:=vis_inner hv hx
 ·rw [hl]at h1;cases h1
 ·obtain⟨k1,k2,k3,k4,k5,k6⟩:=hok
  have hle:=kidIx_le x.keys key
  obtain⟨l',h',g1,g2⟩:=(visKids_path (t:=t) (key:=key) (fun k a b l h hv=>vis_range hv) x.kids 0 l1 h1 (by omega) hk).1 (Nat.zero_le _)
  refine⟨by omega,_,_,l',h',by simpa using g1,?_,?_,?_⟩
  ·unfold Nd.from
   split
   ·exact ha
   ·exact kidIx_lo (by omega)
  ·unfold Nd.upto
   split
   ·rename_i h;exact kidIx_hi h
   ·exact hb
  ·have hof:t.of n=x.ents++x.buf:=by unfold Tr.of;rw [hx]
   rw [List.flatMap_cons,List.filter_append,hof,k1,List.nil_append,g2]
theorem pathL_eq {t:Tr} {key:Int}:∀(f:Nat) (n a b:Int) (l:List Int) (h:Nat),vis t f n a b=some (l,h)→a≤key→key<b →
  pathL t key f n=(l.flatMap t.of).filter (fun e=>decide (e.key=key)):=by
 intro f
 induction f with
 |zero=>intro n a b l h hv;cases hv
 |succ f ih=>
  intro n a b l h hv ha hb
  obtain⟨x,hx⟩:=vis_at hv
  have hof:t.of n=x.ents++x.buf:=by unfold Tr.of;rw [hx]
  unfold pathL
  rw [hx]
  simp only
  cases hl:x.leaf with
  |true=>
   obtain⟨_,⟨_,hok,rfl,_⟩|⟨h1,_⟩⟩:=vis_inner hv hx
   ·rw [if_pos rfl];simp [hof,hok.2.2.1]
   ·rw [hl]at h1;cases h1
  |false=>
   rw [if_neg (by simp)]
   obtain⟨_,a',b',l',h',g1,g2,g3,g4⟩:=vis_kid hv hx hl ha hb
   rw [g4,ih _ _ _ _ _ g1 g2 g3]
def rollsC (r:Roll) (l:List Ent):Option Roll:=l.foldlM (fun r e=>if r.c+e.is.c≤1073741824 then some (r.join e.is)else none) r
theorem look_key {l:List Ent} {key:Int}:look (l.filter (fun e=>decide (e.key=key))) key=look l key:=by
 induction l with
 |nil=>rfl
 |cons e l ih=>
  by_cases h:e.key=key
  ·rw [List.filter_cons_of_pos (by simpa using h)]
   show (if e.key=key then _ else _)=(if e.key=key then _ else _)
   rw [if_pos h,if_pos h,ih]
  ·rw [List.filter_cons_of_neg (by simpa using h),ih]
   show _=(if e.key=key then _ else _)
   rw [if_neg h]
theorem rollsC_eq {l:List Ent} {r:Roll} {key:Int} (hk:∀e∈l,e.key=key) (hl:Goods l) (hr:r.Fine) (hc:r.c≤1073741824) :
  rollsC r l=if r.c+(look l key).c≤1073741824 then some (r.join (look l key))else none:=by
 unfold rollsC
 induction l generalizing r with
 |nil=>
  have h1:r.c+(look [] key).c≤1073741824:=by simpa [look,Roll.zero] using hc
  rw [List.foldlM_nil,if_pos h1]
  show some r=some (r.join Roll.zero)
  rw [join_zero]
 |cons e l ih=>
  have hg:=hl.cons
  have hf:=look_fine hg.2.fines key
  have hp:=hf.pos
  have e1:look (e::l) key=e.is.join (look l key):=by show (if e.key=key then _ else _)=_;rw [if_pos (hk e (by simp))]
  rw [List.foldlM_cons,e1]
  by_cases h1:r.c+e.is.c≤1073741824
  ·rw [if_pos h1]
   show List.foldlM _ (r.join e.is) l=_
   rw [ih (fun x hx=>hk x (by simp [hx])) hg.2 (join_fine hr (.inr hg.1)) (by rw [join_c];exact h1),join_c,join_c,join_assoc hr (.inr hg.1) hf,Int.add_assoc]
  ·rw [if_neg h1,join_c,if_neg (by omega)];rfl
def getA (t:Tr) (key:Int):Roll×Int:=if (look t.all key).c≤1073741824 then(look t.all key,0) else(Roll.zero,1)
def getS (t:Tr) (key:Int):Roll×Int:=match rollsC Roll.zero (pathL t key 12 t.root) with|some r=>(r,0)|none=>(Roll.zero,1)
def getR (t:Tr) (key:Int):Roll×Int:=match allR t key (key+1) with|none=>(Roll.zero,1)|some []=>(Roll.zero,0)|some (e::_)=>(e.is,0)
theorem getS_eq {t:Tr} (hv:ValidT t) {key:Int} (h0:0≤key) (h1:key<1099511627776):getS t key=getA t key:=by
 have hc:=valid_checked hv
 obtain⟨l,h,e,hn,hl⟩:=hv
 have hp:=valid_perm e hn hl
 have hg:Goods (l.flatMap t.of):=fun x hx=>hc.goods x (hp.mem_iff.1 hx)
 unfold getS getA
 rw [pathL_eq 12 _ _ _ _ _ e h0 h1,rollsC_eq (key:=key) (fun x hx=>by simpa using (List.mem_filter.1 hx).2) (fun x hx=>hg x (List.mem_filter.1 hx).1) fine_zero (by decide),look_key,look_perm hp hg.fines,zero_join (look_fine hc.goods.fines _)]
 have:Roll.zero.c=0:=rfl
 rw [this,Int.zero_add]
 by_cases hs:(look t.all key).c≤1073741824
 ·rw [if_pos hs,if_pos hs]
 ·rw [if_neg hs,if_neg hs]
theorem inRange_key (key:Int):inRange key (key+1)=fun e=>decide (e.key=key):=by
 funext e
 simp only [inRange]
 by_cases h:e.key=key
 ·simp [h];omega
 ·have:¬(key≤e.key∧e.key<key+1):=by omega
  simp only [h,decide_false]
  rw [←Bool.decide_and,decide_eq_false this]
theorem rising_one {l:List Ent} {key:Int} (hr:Rising l) (hk:∀e∈l,e.key=key):l=[]∨∃e,l=[e]:=by
 match l with
 |[]=>exact .inl rfl
 |[e]=>exact .inr ⟨e,rfl⟩
 |e::f::l=>
  have:=(List.pairwise_cons.1 hr).1 f (by simp)
  have:=hk e (by simp);have:=hk f (by simp)
  omega
theorem getR_eq {t:Tr} (hv:ValidT t) (key:Int):getR t key=getA t key:=by
 have hc:=valid_checked hv
 unfold getR getA allR
 rw [inRange_key]
 obtain⟨m,hm⟩:∃m,m=t.all.filter (fun e=>decide (e.key=key)):=⟨_,rfl⟩
 have hcm:Checked m:=by rw [hm];exact checked_filter hc
 have hkm:∀e∈m,e.key=key:=fun e he=>by rw [hm]at he;simpa using (List.mem_filter.1 he).2
 have hlm:look m key=look t.all key:=by rw [hm,look_key]
 have hbk:∀e∈bag m,e.key=key:=fun e he=>by
  by_cases h:e.key=key
  ·exact h
  ·have h1:=look_rising (bag_rising hcm.goods) he
   rw [look_bag hcm.goods,look_none (fun y hy hk=>h (by rw [←hk];exact hkm y hy))]at h1
   have:=(bag_goods hcm.goods e he).1
   rw [←h1]at this;exact absurd this (by decide)
 rw [←hm,bagC_eq hcm,←hlm]
 by_cases hs:Small m
 ·rw [if_pos hs,if_pos (hs key)]
  rcases rising_one (bag_rising hcm.goods) hbk with h|⟨e,h⟩
  ·rw [h,←look_bag hcm.goods,h];rfl
  ·rw [h]
   have h1:=look_rising (bag_rising hcm.goods) (e:=e) (by rw [h];simp)
   rw [look_bag hcm.goods,hbk e (by rw [h];simp)]at h1
   simp only [h1]
 ·rw [if_neg hs,if_neg]
  intro h
  refine hs fun k=>?_
  by_cases hk:k=key
  ·rw [hk];exact h
  ·rw [look_none (fun e he=>by rw [hkm e he];exact fun h=>hk h.symm)];decide
end Go.Proofs.YtnjfkcimboidnaaDoor

/- Entries that may be: the step of the loops that look at them. No program in sight. -/
namespace Go.Proofs.YtnjfkcimboidnaaDoor
instance (l:List Ent) (lo hi:Int):Decidable (EntsOk l lo hi):=by unfold EntsOk Checked Rising;infer_instance
def entsB (l:List Ent) (lo hi:Int):Bool:=decide (EntsOk l lo hi)
theorem entsB_true {l:List Ent} {lo hi:Int}:entsB l lo hi=true↔EntsOk l lo hi:=by simp [entsB]
theorem entsB_false {l:List Ent} {lo hi:Int}:entsB l lo hi=false↔¬EntsOk l lo hi:=by simp [entsB]
theorem entsOk_nil (lo hi:Int):EntsOk [] lo hi:=⟨by simp [Checked],by simp,List.Pairwise.nil⟩
theorem entsOk_step {l:List Ent} {lo hi:Int} {k:Nat} (hk:k<l.length) (h:EntsOk (l.take k) lo hi) (h1:lo≤l[k].key) (h2:l[k].key<hi) (h3:∀hk0:0<k,l[k-1].key<l[k].key) (h4:l[k].is.c≠0) (h5:rollCheck l[k].is=0) :
  EntsOk (l.take (k+1)) lo hi:=by
 rw [List.take_succ_eq_append_getElem hk]
 refine⟨fun e he=>?_,fun e he=>?_,?_⟩
 ·rcases List.mem_append.1 he with he|he
  ·exact h.1 e he
  ·obtain rfl:=List.mem_singleton.1 he;exact⟨h4,h5⟩
 ·rcases List.mem_append.1 he with he|he
  ·exact h.2.1 e he
  ·obtain rfl:=List.mem_singleton.1 he;exact⟨h1,h2⟩
 ·refine List.pairwise_append.2 ⟨h.2.2,List.pairwise_singleton _ _,fun a ha b hb=>?_⟩
  obtain rfl:=List.mem_singleton.1 hb
  obtain⟨i,hi',rfl⟩:=List.getElem_of_mem ha
  simp only [List.length_take]at hi'
  rw [List.getElem_take]
  have hk0:0<k:=by omega
  have:=h3 hk0
  by_cases hik:i=k-1
  ·subst hik;exact this
  ·have hp:=List.pairwise_iff_getElem.1 h.2.2 i (k-1) (by simp;omega) (by simp;omega) (by omega)
   rw [List.getElem_take,List.getElem_take]at hp
   omega
theorem entsOk_at {l:List Ent} {lo hi:Int} (h:EntsOk l lo hi) {k:Nat} (hk:k<l.length):lo≤l[k].key∧l[k].key<hi∧l[k].is.c≠0∧rollCheck l[k].is=0∧(∀hk0:0<k,l[k-1].key<l[k].key):=by
 have hm:l[k]∈l:=List.getElem_mem hk
 exact⟨(h.2.1 _ hm).1,(h.2.1 _ hm).2,(h.1 _ hm).1,(h.1 _ hm).2,fun hk0=>List.pairwise_iff_getElem.1 h.2.2 (k-1) k (by omega) hk (by omega)⟩
theorem entsOk_full {l:List Ent} {lo hi:Int} {k:Nat} (hk:l.length≤k) (h:EntsOk (l.take k) lo hi):EntsOk l lo hi:=by rwa [List.take_of_length_le hk]at h
end Go.Proofs.YtnjfkcimboidnaaDoor

/- The document's height: plain steps. No program in sight. -/
namespace Go.Proofs.YtnjfkcimboidnaaDoor
theorem leafOk_iff {t:Tr} {n:Int} {x:Nd} {lo hi:Int}:LeafOk t n x lo hi↔x.keys.length+x.kids.length+x.buf.length=0∧x.ents.length≤6∧(x.ents.length=0→n=t.root)∧entsB x.ents lo hi=true:=by
 unfold LeafOk
 rw [entsB_true,←List.length_eq_zero_iff,←List.length_eq_zero_iff,←List.length_eq_zero_iff,ne_eq,←List.length_eq_zero_iff]
 constructor
 ·rintro⟨a,b,c,d,e,f⟩
  exact⟨by omega,d,fun h=>by rcases e with e|e;exact absurd h e;exact e,f⟩
 ·rintro⟨a,b,c,d⟩
  exact⟨by omega,by omega,by omega,b,by by_cases h:x.ents.length=0;exact .inr (c h);exact .inl h,d⟩
theorem innOk_iff {x:Nd} {lo hi:Int}:InnOk x lo hi↔x.ents.length=0∧2≤x.kids.length∧x.kids.length≤4∧x.keys.length+1=x.kids.length∧x.buf.length≤8∧entsB x.buf lo hi=true:=by
 unfold InnOk
 rw [entsB_true,←List.length_eq_zero_iff]
end Go.Proofs.YtnjfkcimboidnaaDoor

/- The program's walker: plain steps. No program in sight. -/
namespace Go.Proofs.YtnjfkcimboidnaaDoor
theorem nodeS_none {t:Tr} {f:Nat} {n lo hi:Int} {s:List Int×Int} (h:t.at? n=none):nodeS t (f+1) n lo hi s=none:=by rw [nodeS,h]
theorem nodeS_seen {t:Tr} {f:Nat} {n lo hi:Int} {s:List Int×Int} {x:Nd} (h:t.at? n=some x) (hs:n∈s.1):nodeS t (f+1) n lo hi s=none:=by rw [nodeS,h];simp only;rw [if_pos hs]
theorem nodeS_leaf {t:Tr} {f:Nat} {n lo hi:Int} {s:List Int×Int} {x:Nd} (h:t.at? n=some x) (hs:n∉s.1) (hl:x.leaf=true) (hd:s.2=0∨s.2=12-(f:Int)) (hok:LeafOk t n x lo hi) :
  nodeS t (f+1) n lo hi s=some (n::s.1,12-(f:Int)):=by
 rw [nodeS,h];simp only;rw [if_neg hs,if_pos hl,if_pos ⟨hd,hok⟩]
theorem nodeS_noleaf {t:Tr} {f:Nat} {n lo hi:Int} {s:List Int×Int} {x:Nd} (h:t.at? n=some x) (hl:x.leaf=true) (hok:¬((s.2=0∨s.2=12-(f:Int))∧LeafOk t n x lo hi)):nodeS t (f+1) n lo hi s=none:=by
 rw [nodeS,h];simp only;rw [if_pos hl,if_neg hok];simp
theorem nodeS_inner {t:Tr} {f:Nat} {n lo hi:Int} {s:List Int×Int} {x:Nd} (h:t.at? n=some x) (hs:n∉s.1) (hl:x.leaf=false) (hok:InnOk x lo hi) :
  nodeS t (f+1) n lo hi s=kidsS (fun k a b s=>nodeS t f k a b s) x lo hi x.kids 0 (n::s.1,s.2):=by
 rw [nodeS,h];simp only;rw [if_neg hs,if_neg (by simp [hl]),if_pos hok]
theorem nodeS_noinner {t:Tr} {f:Nat} {n lo hi:Int} {s:List Int×Int} {x:Nd} (h:t.at? n=some x) (hl:x.leaf=false) (hok:¬InnOk x lo hi):nodeS t (f+1) n lo hi s=none:=by
 rw [nodeS,h];simp [hl,hok]
theorem kidsS_step {σ:Type} {go:Int→Int→Int→σ→Option σ} {x:Nd} {lo hi:Int} {i:Nat} {s:σ} (hi':i<x.kids.length) :
  kidsS go x lo hi (x.kids.drop i) i s=if x.from lo i<x.upto hi i∧lo≤x.from lo i∧x.upto hi i≤hi then
   match go x.kids[i] (x.from lo i) (x.upto hi i) s with
   |none=>none
   |some s'=>kidsS go x lo hi (x.kids.drop (i+1)) (i+1) s'
  else none:=by
 rw [List.drop_eq_getElem_cons hi']
 rfl
theorem kidsS_end {σ:Type} {go:Int→Int→Int→σ→Option σ} {x:Nd} {lo hi:Int} {i:Nat} {s:σ} (hi':x.kids.length≤i):kidsS go x lo hi (x.kids.drop i) i s=some s:=by
 rw [List.drop_eq_nil_of_le hi'];rfl
def SOk (t:Tr) (S:List Int):Prop:=S.Nodup∧∀y∈S,0≤y∧y<(t.nodes.length:Int)
theorem SOk.le {t:Tr} {S:List Int} (h:SOk t S):S.length≤t.nodes.length:=nodup_le h.1 h.2
theorem SOk.cons {t:Tr} {S:List Int} {n:Int} {x:Nd} (h:SOk t S) (hn:n∉S) (hx:t.at? n=some x):SOk t (n::S):=
 ⟨List.nodup_cons.2 ⟨hn,h.1⟩,fun y hy=>by rcases List.mem_cons.1 hy with rfl|hy;exact at?_range hx;exact h.2 y hy⟩
theorem nodeS_ok {t:Tr}:∀(f:Nat) (n lo hi:Int) (s s':List Int×Int),SOk t s.1→nodeS t f n lo hi s=some s'→SOk t s'.1:=by
 intro f
 induction f with
 |zero=>intro n lo hi s s' _ h;cases h
 |succ f ih=>
  intro n lo hi s s' hs h
  rw [nodeS]at h
  split at h
  ·cases h
  ·rename_i x hx
   split at h
   ·cases h
   ·rename_i hn
    split at h
    ·split at h
     ·simp only [Option.some.injEq]at h;rw [←h];exact hs.cons hn hx
     ·cases h
    ·split at h
     ·have:∀(ks:List Int) (i:Nat) (s s':List Int×Int),SOk t s.1→kidsS (fun k a b s=>nodeS t f k a b s) x lo hi ks i s=some s'→SOk t s'.1:=by
       intro ks
       induction ks with
       |nil=>intro i s s' hs h;simp only [kidsS,Option.some.injEq]at h;rw [←h];exact hs
       |cons k ks ihk=>
        intro i s s' hs h
        unfold kidsS at h
        split at h
        ·split at h
         ·cases h
         ·rename_i s1 e
          exact ihk (i+1) s1 s' (ih _ _ _ _ _ hs e) h
        ·cases h
      exact this _ _ _ _ (hs.cons hn hx) h
     ·cases h
end Go.Proofs.YtnjfkcimboidnaaDoor

/- Entries with one more: the step of the loop that looks for its place. No program in sight. -/
namespace Go.Proofs.YtnjfkcimboidnaaDoor
theorem insC_length {xs:List Ent} {x:Ent} {l:List Ent} (h:insC xs x=some l):l.length≤xs.length+1:=by
 induction xs generalizing l with
 |nil=>simp only [insC,Option.some.injEq]at h;rw [←h];simp
 |cons e xs ih=>
  unfold insC at h
  split at h
  ·obtain⟨m,hm,rfl⟩:=Option.map_eq_some_iff.1 h
   have:=ih hm
   simp only [List.length_cons];omega
  ·split at h
   ·split at h
    ·simp only [Option.some.injEq]at h;rw [←h];simp
    ·cases h
   ·simp only [Option.some.injEq]at h;rw [←h];simp
end Go.Proofs.YtnjfkcimboidnaaDoor

/- All entries of a tree that may be, one by one: plain steps. No program in sight. -/
namespace Go.Proofs.YtnjfkcimboidnaaDoor
theorem treeFault_ok {t:Tr} (h:treeFault t=0):t.nodes.length≤2000∧ValidT t:=by
 unfold treeFault at h
 split at h
 ·cases h
 ·split at h
  ·exact⟨by omega,‹_›⟩
  ·cases h
theorem treeFault_of {t:Tr} (h:t.nodes.length≤2000) (hv:ValidT t):treeFault t=0:=by
 unfold treeFault;rw [if_neg (by omega),if_pos hv]
theorem vis_small {t:Tr}:∀{f:Nat} {n lo hi:Int} {l:List Int} {h:Nat},vis t f n lo hi=some (l,h)→∀y∈l,(t.of y).length≤14:=by
 intro f
 induction f with
 |zero=>intro n lo hi l h hv;cases hv
 |succ f ih=>
  intro n lo hi l h hv y hy
  obtain⟨x,hx⟩:=vis_at hv
  have hof:t.of n=x.ents++x.buf:=by unfold Tr.of;rw [hx]
  obtain⟨_,⟨_,hok,rfl,_⟩|⟨_,hok,l',h',hk,rfl,_⟩⟩:=vis_inner hv hx
  ·obtain rfl:=List.mem_singleton.1 hy
   rw [hof,List.length_append,hok.2.2.1];have:=hok.2.2.2.1;simp;omega
  ·rcases List.mem_cons.1 hy with rfl|hy
   ·rw [hof,List.length_append,hok.1];have:=hok.2.2.2.2.1;simp;omega
   ·exact visKids_mem (P:=fun y=>(t.of y).length≤14) (fun k a b l h hv=>ih hv) hk y hy
theorem flat_len {α β:Type} {f:α→List β} {m:Nat}:∀{l:List α},(∀y∈l,(f y).length≤m)→(l.flatMap f).length≤m*l.length
 |[],_=>by simp
 |a::l,h=>by
  have h1:=h a (by simp)
  have h2:=flat_len (l:=l) fun y hy=>h y (by simp [hy])
  rw [List.flatMap_cons,List.length_append,List.length_cons,Nat.mul_add];omega
theorem valid_len {t:Tr} (h:ValidT t):t.all.length≤14*t.nodes.length:=by
 obtain⟨l,hh,e,hn,hl⟩:=h
 rw [←(valid_perm e hn hl).length_eq,←hl]
 exact flat_len (vis_small e)
theorem bagC_snoc (l:List Ent) (y:Ent):bagC (l++[y])=(bagC l).bind fun es=>insC es y:=by
 unfold bagC;rw [List.foldlM_append]
 cases h:List.foldlM insC [] l with
 |none=>rfl
 |some es=>simp [List.foldlM_cons]
theorem bagC_none {l m:List Ent} (h:bagC l=none):bagC (l++m)=none:=by
 unfold bagC at h ⊢;rw [List.foldlM_append,h];rfl
theorem ins_length (l:List Ent) (x:Ent):(ins l x).length≤l.length+1:=by
 induction l with
 |nil=>simp [ins]
 |cons e l ih=>
  unfold ins
  split
  ·simp only [List.length_cons];omega
  ·split
   ·simp
   ·simp
theorem foldl_ins_length:∀(l m:List Ent),(l.foldl ins m).length≤m.length+l.length
 |[],m=>by simp
 |x::l,m=>by
  rw [List.foldl_cons,List.length_cons]
  have:=foldl_ins_length l (ins m x);have:=ins_length m x;omega
theorem bagC_some {l es:List Ent} (hl:Checked l) (h:bagC l=some es):es=bag l∧Small l∧Checked es∧es.length≤l.length∧Rising es:=by
 rw [bagC_eq hl]at h
 split at h
 ·rename_i hs
  simp only [Option.some.injEq]at h
  subst h
  refine⟨rfl,hs,bag_checked hl.goods hs,?_,bag_rising hl.goods⟩
  have:=foldl_ins_length l [];simpa [bag] using this
 ·cases h
def Nd.all (x:Nd):List Ent:=x.ents++x.buf
end Go.Proofs.YtnjfkcimboidnaaDoor

/- Where a key stands among rising ones: plain laws. No program in sight. -/
namespace Go.Proofs.YtnjfkcimboidnaaDoor
theorem takeWhile_len {α:Type} {p:α→Bool}:∀{l:List α} {k:Nat},k≤l.length→(∀t (ht:t<l.length),t<k→p l[t]=true)→(∀ht:k<l.length,p l[k]=false)→(l.takeWhile p).length=k
 |[],k,hk,_,_=>by simp at hk;simp [hk]
 |a::l,0,_,_,h2=>by
  have:=h2 (by simp)
  simp only [List.getElem_cons_zero]at this
  simp [this]
 |a::l,k+1,hk,h1,h2=>by
  have h0:=h1 0 (by simp) (by omega)
  simp only [List.getElem_cons_zero]at h0
  rw [List.takeWhile_cons_of_pos h0,List.length_cons,takeWhile_len (k:=k) (by simpa using hk) (fun t ht htk=>h1 (t+1) (by simpa using ht) (by omega)) (fun ht=>h2 (by simpa using ht))]
def posI (zs:List Int) (x:Int):Nat:=(zs.takeWhile fun z=>decide (z<x)).length
def posE (es:List Ent) (x:Int):Nat:=(es.takeWhile fun e=>decide (e.key<x)).length
def hasE (es:List Ent) (x:Int):Bool:=es.any fun e=>decide (e.key=x)
theorem posI_eq {zs:List Int} {x:Int} {k:Nat} (hk:k≤zs.length) (h1:∀t (ht:t<zs.length),t<k→zs[t]<x) (h2:∀t (ht:t<zs.length),k≤t→x≤zs[t]):posI zs x=k:=
 takeWhile_len hk (fun t ht htk=>by simpa using h1 t ht htk) (fun ht=>by simpa using h2 k ht (Nat.le_refl _))
theorem hasI_eq {zs:List Int} {x:Int} {k:Nat} (hs:zs.Pairwise (·<·)) (h1:∀t (ht:t<zs.length),t<k→zs[t]<x) (h2:∀t (ht:t<zs.length),k≤t→x≤zs[t]):decide (x∈zs)=if h:k<zs.length then decide (zs[k]=x)else false:=by
 by_cases hk:k<zs.length
 ·rw [dif_pos hk,decide_eq_decide]
  constructor
  ·intro hm
   obtain⟨t,ht,rfl⟩:=List.getElem_of_mem hm
   by_cases h:t<k
   ·have:=h1 t ht h;omega
   ·by_cases h':t=k
    ·subst h';rfl
    ·have:=List.pairwise_iff_getElem.1 hs k t hk ht (by omega)
     have:=h2 k hk (Nat.le_refl _);omega
  ·intro h;rw [←h];exact List.getElem_mem hk
 ·rw [dif_neg hk,decide_eq_false]
  intro hm
  obtain⟨t,ht,rfl⟩:=List.getElem_of_mem hm
  have:=h1 t ht (by omega);omega
theorem posE_eq {es:List Ent} {x:Int} {k:Nat} (hk:k≤es.length) (h1:∀t (ht:t<es.length),t<k→es[t].key<x) (h2:∀t (ht:t<es.length),k≤t→x≤es[t].key):posE es x=k:=
 takeWhile_len hk (fun t ht htk=>by simpa using h1 t ht htk) (fun ht=>by simpa using h2 k ht (Nat.le_refl _))
theorem hasE_eq {es:List Ent} {x:Int} {k:Nat} (hs:Rising es) (h1:∀t (ht:t<es.length),t<k→es[t].key<x) (h2:∀t (ht:t<es.length),k≤t→x≤es[t].key):hasE es x=if h:k<es.length then decide (es[k].key=x)else false:=by
 by_cases hk:k<es.length
 ·rw [dif_pos hk]
  unfold hasE
  rw [Bool.eq_iff_iff,List.any_eq_true,decide_eq_true_eq]
  constructor
  ·rintro⟨e,he,hm⟩
   have hm:=of_decide_eq_true hm
   obtain⟨t,ht,rfl⟩:=List.getElem_of_mem he
   by_cases h:t<k
   ·have:=h1 t ht h;omega
   ·by_cases h':t=k
    ·subst h';exact hm
    ·have:=List.pairwise_iff_getElem.1 hs k t hk ht (by omega)
     have:=h2 k hk (Nat.le_refl _);omega
  ·intro h;exact⟨es[k],List.getElem_mem hk,by simpa using h⟩
 ·rw [dif_neg hk]
  unfold hasE
  rw [List.any_eq_false]
  intro e he
  obtain⟨t,ht,rfl⟩:=List.getElem_of_mem he
  have:=h1 t ht (by omega);simp;omega
theorem kidIx_pos {keys:List Int} {x:Int} (hs:keys.Pairwise (·<·)):kidIx keys x=posI keys x+if x∈keys then 1 else 0:=by
 induction keys with
 |nil=>rfl
 |cons k ks ih=>
  have hp:=List.pairwise_cons.1 hs
  have ih:=ih hp.2
  unfold kidIx posI at *
  by_cases h1:k<x
  ·have h2:k≤x:=by omega
   rw [List.takeWhile_cons_of_pos (by simpa using h2),List.takeWhile_cons_of_pos (by simpa using h1),List.length_cons,List.length_cons,ih]
   have:(x∈k::ks)↔x∈ks:=by rw [List.mem_cons];exact⟨fun h=>h.resolve_left (by omega), .inr⟩
   by_cases h:x∈ks
   ·rw [if_pos h,if_pos (this.2 h)]
   ·rw [if_neg h,if_neg (fun h'=>h (this.1 h'))]
  ·rw [List.takeWhile_cons_of_neg (p:=fun z=>decide (z<x)) (by simpa using h1)]
   by_cases h2:k=x
   ·subst h2
    rw [List.takeWhile_cons_of_pos (by simp),List.length_cons,if_pos (by simp)]
    cases ks with
    |nil=>rfl
    |cons y ys=>
     have:=hp.1 y (by simp)
     rw [List.takeWhile_cons_of_neg (by simp;omega)]
   ·have hn:¬x∈k::ks:=fun hm=>by
     rcases List.mem_cons.1 hm with h|h
     ·exact h2 h.symm
     ·have:=hp.1 x h;omega
    rw [List.takeWhile_cons_of_neg (by simp;omega),if_neg hn];rfl
theorem visKids_bounds {go:Int→Int→Int→Option (List Int×Nat)} {x:Nd} {a b:Int}:∀{ks:List Int} {i:Nat} {l:List Int} {h:Nat},visKids go x a b ks i=some (l,h)→∀j,j<ks.length→x.from a (i+j)<x.upto b (i+j)∧a≤x.from a (i+j)∧x.upto b (i+j)≤b
 |[],_,_,_,_=>fun j hj=>by simp at hj
 |k::ks,i,l,h,hv=>by
  unfold visKids at hv
  split at hv
  ·rename_i hc
   split at hv
   ·rename_i l1 h1 l2 h2 e1 e2
    intro j hj
    cases j with
    |zero=>exact hc
    |succ j=>
     have:=visKids_bounds e2 j (by simpa using hj)
     rwa [show i+1+j=i+(j+1)from by omega]at this
   ·cases hv
  ·cases hv
theorem vis_keys {t:Tr} {f:Nat} {n a b:Int} {l:List Int} {h:Nat} {x:Nd} (hv:vis t (f+1) n a b=some (l,h)) (hx:t.at? n=some x) (hl:x.leaf=false):x.keys.Pairwise (·<·)∧∀k∈x.keys,a≤k∧k≤b:=by
 obtain⟨_,⟨h1,_⟩|⟨_,hok,l',h',hk,rfl,_⟩⟩:=vis_inner hv hx
 ·rw [hl]at h1;cases h1
 ·have hb:=visKids_bounds hk
  have hkl:=hok.2.2.2.1
  have g:∀j (hj:j<x.keys.length),x.upto b (0+j)=x.keys[j]∧x.from a (0+(j+1))=x.keys[j]:=fun j hj=>by
   simp [Nd.upto,Nd.from,hj]
  refine⟨List.pairwise_iff_getElem.2 fun i j hi hj hij=>?_,fun k hk=>?_⟩
  ·have step:∀m (hm:m+1<x.keys.length),x.keys[m]<x.keys[m+1]:=fun m hm=>by
    have h1:=(hb (m+1) (by omega)).1
    rw [(g m (by omega)).2,(g (m+1) hm).1]at h1
    exact h1
   obtain⟨d,rfl⟩:∃d,j=i+1+d:=⟨j-i-1,by omega⟩
   clear hij
   induction d with
   |zero=>exact step i hj
   |succ d ih=>
    exact Int.lt_trans (ih (by omega) step) (step (i+1+d) (by omega))
  ·obtain⟨j,hj,rfl⟩:=List.getElem_of_mem hk
   have h1:=hb j (by omega)
   rw [(g j hj).1]at h1
   omega
end Go.Proofs.YtnjfkcimboidnaaDoor

/- The way down for a key: plain steps. No program in sight. -/
namespace Go.Proofs.YtnjfkcimboidnaaDoor
theorem hasE_true {L:List Ent} {key:Int} (hs:Rising L) (h:hasE L key=true):∃(i:Nat) (hi:i<L.length),posE L key=i∧L[i].key=key∧L.filter (fun e=>decide (e.key=key))=[L[i]]:=by
 unfold hasE at h
 obtain⟨e,he,hk⟩:=List.any_eq_true.1 h
 have hk:=of_decide_eq_true hk
 obtain⟨i,hi,rfl⟩:=List.getElem_of_mem he
 have hp:=List.pairwise_iff_getElem.1 hs
 have h1:∀t (ht:t<L.length),t<i→L[t].key<key:=fun t ht hti=>by rw [←hk];exact hp t i ht hi hti
 have h2:∀t (ht:t<L.length),i<t→key<L[t].key:=fun t ht hti=>by rw [←hk];exact hp i t hi ht hti
 refine⟨i,hi,posE_eq (by omega) h1 (fun t ht hti=>?_),hk,?_⟩
 ·by_cases hit:i=t
  ·subst hit;omega
  ·have:=h2 t ht (by omega);omega
 ·conv=>lhs;rw [←List.take_append_drop i L,List.drop_eq_getElem_cons hi]
  rw [List.filter_append,List.filter_cons_of_pos (by simpa using hk),filter_key (fun e he=>?_),filter_key (fun e he=>?_),List.nil_append]
  ·obtain⟨t,ht,rfl⟩:=List.getElem_of_mem he
   rw [List.length_drop]at ht
   rw [List.getElem_drop]
   have:=h2 (i+1+t) (by omega) (by omega);omega
  ·obtain⟨t,ht,rfl⟩:=List.getElem_of_mem he
   rw [List.length_take]at ht
   rw [List.getElem_take]
   have:=h1 t (by omega) (by omega);omega
theorem hasE_false {L:List Ent} {key:Int} (h:hasE L key=false):L.filter (fun e=>decide (e.key=key))=[]:=by
 unfold hasE at h
 rw [List.filter_eq_nil_iff]
 intro e he
 have:=List.any_eq_false.1 h e he
 simpa using this
def Nd.own (x:Nd):List Ent:=if x.leaf=true then x.ents else x.buf
def GetRel (t:Tr) (key:Int) (r:Roll) (path:List Ent):Prop:=rollCheck r=0∧getS t key=match rollsC r path with|some r=>(r,0)|none=>(Roll.zero,1)
theorem get_node {t:Tr} {key:Int} (hf:treeFault t=0) {f:Nat} {n a b:Int} {l:List Int} {h:Nat} {x:Nd} (hv:vis t (f+1) n a b=some (l,h)) (hx:t.at? n=some x) (ha:a≤key) (hb:key<b) :
  Rising x.own∧Checked x.own∧(∀e∈x.own,0≤e.key∧e.key<1099511627776) ∧
  pathL t key (f+1) n=x.own.filter (fun e=>decide (e.key=key))++(if x.leaf=true then []else pathL t key f (x.kids.getD (kidIx x.keys key) 0)) ∧
  (x.leaf=false→x.keys.Pairwise (·<·)∧kidIx x.keys key<x.kids.length∧∃f' a' b' l' h',f=f'+1∧vis t (f'+1) (x.kids.getD (kidIx x.keys key) 0) a' b'=some (l',h')∧a'≤key∧key<b'):=by
 obtain⟨hn,hvt⟩:=treeFault_ok hf
 have hxm:x∈t.nodes:=by
  unfold Tr.at? at hx
  split at hx
  ·exact List.mem_of_getElem? hx
  ·cases hx
 have hrange:∀e∈x.own,0≤e.key∧e.key<1099511627776:=fun e he=>valid_range hvt e (by
  unfold Tr.all
  refine List.mem_flatMap.2 ⟨x,hxm,?_⟩
  unfold Nd.own at he;split at he <;> simp [he])
 have hpath:pathL t key (f+1) n=x.own.filter (fun e=>decide (e.key=key))++(if x.leaf=true then []else pathL t key f (x.kids.getD (kidIx x.keys key) 0)):=by
  conv=>lhs;unfold pathL
  rw [hx]
  simp only [Nd.own]
  cases hl:x.leaf <;> simp
 obtain⟨_,⟨hl,hok,_⟩|⟨hl,hok,_⟩⟩:=vis_inner hv hx
 ·have ho:x.own=x.ents:=by simp [Nd.own,hl]
  exact⟨by rw [ho];exact hok.2.2.2.2.2.2.2,by rw [ho];exact hok.2.2.2.2.2.1,hrange,hpath,fun h=>by rw [hl]at h;cases h⟩
 ·have ho:x.own=x.buf:=by simp [Nd.own,hl]
  refine⟨by rw [ho];exact hok.2.2.2.2.2.2.2,by rw [ho];exact hok.2.2.2.2.2.1,hrange,hpath,fun _=>⟨(vis_keys hv hx hl).1,?_⟩⟩
  obtain⟨h1,a',b',l',h',h2,h3,h4,_⟩:=vis_kid hv hx hl ha hb
  refine⟨h1,?_⟩
  cases f with
  |zero=>cases h2
  |succ f'=>exact⟨f',a',b',l',h',rfl,h2,h3,h4⟩
theorem getRel_skip {t:Tr} {key:Int} {r:Roll} {L path:List Ent} (hh:hasE L key=false) (h:GetRel t key r (L.filter (fun e=>decide (e.key=key))++path)):GetRel t key r path:=by
 rw [hasE_false hh,List.nil_append]at h;exact h
theorem getRel_take {t:Tr} {key:Int} {r:Roll} {L path:List Ent} {i:Nat} {hi:i<L.length} (hc:rollCheck L[i].is=0) (hfl:L.filter (fun e=>decide (e.key=key))=[L[i]]) (h:GetRel t key r (L.filter (fun e=>decide (e.key=key))++path)) :
  (r.c+L[i].is.c≤1073741824→rollMerge r L[i].is=(r.join L[i].is,0)∧GetRel t key (r.join L[i].is) path)∧(¬r.c+L[i].is.c≤1073741824→rollMerge r L[i].is=(Roll.zero,1)∧getS t key=(Roll.zero,1)):=by
 obtain⟨h1,h2⟩:=h
 rw [hfl]at h2
 have e:rollsC r ([L[i]]++path)=if r.c+L[i].is.c≤1073741824 then rollsC (r.join L[i].is) path else none:=by
  unfold rollsC
  rw [List.singleton_append,List.foldlM_cons]
  split <;> rfl
 rw [e]at h2
 refine⟨fun hle=>?_,fun hle=>?_⟩
 ·obtain⟨m1,m2⟩:=merge_ok h1 hc hle
  rw [if_pos hle]at h2
  exact⟨m1,m2,h2⟩
 ·rw [if_neg hle]at h2
  exact⟨(merge_fine h1 hc).trans (if_neg hle),h2⟩
theorem getRel_end {t:Tr} {key:Int} {r:Roll} (h:GetRel t key r []):getS t key=(r,0):=h.2
theorem getRel_start {t:Tr} {key:Int}:GetRel t key Roll.zero (pathL t key 12 t.root):=⟨by decide,rfl⟩
end Go.Proofs.YtnjfkcimboidnaaDoor

/- An entry comes to rising ones: where it goes. No program in sight. -/
namespace Go.Proofs.YtnjfkcimboidnaaDoor
theorem insC_skip {x:Ent}:∀{es:List Ent} {k:Nat},k≤es.length→(∀t (ht:t<es.length),t<k→es[t].key<x.key)→insC es x=(insC (es.drop k) x).map (fun l=>es.take k++l)
 |es,0,_,_=>by simp
 |[],k+1,hk,_=>by simp at hk
 |e::es,k+1,hk,h=>by
  have h0:=h 0 (by simp) (by omega)
  simp only [List.getElem_cons_zero]at h0
  have ih:=insC_skip (es:=es) (k:=k) (by simpa using hk) (fun t ht htk=>h (t+1) (by simpa using ht) (by omega))
  show (if e.key<x.key then _ else _:Option (List Ent))=_
  rw [if_pos h0,ih,List.drop_succ_cons,List.take_succ_cons]
  cases insC (es.drop k) x <;> rfl
theorem takeWhile_stop {α:Type} {p:α→Bool}:∀{l:List α} {k:Nat} (_:(l.takeWhile p).length=k) (h:k<l.length),p l[k]=false
 |[],k,_,h=>by simp at h
 |a::l,k,hk,h=>by
  by_cases hp:p a=true
  ·rw [List.takeWhile_cons_of_pos hp,List.length_cons]at hk
   obtain⟨j,rfl⟩:∃j,k=j+1:=⟨k-1,by omega⟩
   exact takeWhile_stop (l:=l) (k:=j) (by omega) (by simpa using h)
  ·rw [List.takeWhile_cons_of_neg hp,List.length_nil]at hk
   subst hk
   simpa using hp
theorem posE_spec {es:List Ent} {key:Int} (_hs:Rising es):posE es key≤es.length∧(∀t (ht:t<es.length),t<posE es key→es[t].key<key)∧(∀ht:posE es key<es.length,key≤es[posE es key].key):=by
 unfold posE
 have hp:=List.takeWhile_prefix (fun e:Ent=>decide (e.key<key)) (l:=es)
 refine⟨hp.length_le,fun t ht htk=>?_,fun ht=>?_⟩
 ·have e:(es.takeWhile fun e=>decide (e.key<key))[t]=es[t]:=hp.getElem htk
  have:=List.all_eq_true.1 (List.all_takeWhile (p:=fun e:Ent=>decide (e.key<key)) (l:=es)) _ (List.getElem_mem htk)
  rw [e]at this;simpa using this
 ·have:=takeWhile_stop (p:=fun e:Ent=>decide (e.key<key)) (l:=es) rfl ht
  have:=of_decide_eq_false this
  omega
theorem insC_new {es:List Ent} {x:Ent} (hs:Rising es) (hh:hasE es x.key=false):insC es x=some (es.take (posE es x.key)++x::es.drop (posE es x.key)):=by
 obtain⟨p1,p2,p3⟩:=posE_spec (key:=x.key) hs
 rw [insC_skip p1 p2]
 by_cases h:posE es x.key<es.length
 ·have h3:=p3 h
  have hne:es[posE es x.key].key≠x.key:=fun e=>by
   have:=List.any_eq_false.1 hh es[posE es x.key] (List.getElem_mem h)
   simp [e]at this
  rw [List.drop_eq_getElem_cons h]
  show (if _<x.key then _ else if _=x.key then _ else _:Option (List Ent)).map _=_
  rw [if_neg (by omega),if_neg hne];rfl
 ·rw [List.drop_eq_nil_of_le (by omega)];rfl
theorem insC_old {es:List Ent} {x:Ent} {i:Nat} (hi:i<es.length) (hs:Rising es) (hp:posE es x.key=i) (hk:es[i].key=x.key) :
  insC es x=if es[i].is.c+x.is.c≤1073741824 then some (es.set i ⟨x.key,es[i].is.join x.is⟩)else none:=by
 obtain⟨p1,p2,p3⟩:=posE_spec (key:=x.key) hs
 rw [hp]at p1 p2
 rw [insC_skip p1 p2,List.drop_eq_getElem_cons hi]
 show (if _<x.key then _ else if _=x.key then _ else _:Option (List Ent)).map _=_
 rw [if_neg (by omega),if_pos hk]
 split
 ·rw [List.set_eq_take_append_cons_drop,if_pos hi];rfl
 ·rfl
end Go.Proofs.YtnjfkcimboidnaaDoor

/- Which bases may be: what the document computes. No program in sight. -/
namespace Go.Proofs.YtnjfkcimboidnaaDoor
def PGood (P:List Ent):Prop:=Checked P∧(∀e∈P,0≤e.key∧e.key<1099511627776)∧P.length≤50000
theorem PGood.left {P Q:List Ent} (h:PGood (P++Q)):PGood P:=
 ⟨fun e he=>h.1 e (by simp [he]),fun e he=>h.2.1 e (by simp [he]),by have:=h.2.2;rw [List.length_append]at this;omega⟩
theorem bag_keys {l:List Ent}:∀{m:List Ent} {e:Ent},e∈l.foldl ins m→∃y,(y∈l∨y∈m)∧y.key=e.key:=by
 induction l with
 |nil=>intro m e he;exact⟨e, .inr he,rfl⟩
 |cons x l ih=>
  intro m e he
  rw [List.foldl_cons]at he
  obtain⟨y,hy|hy,hk⟩:=ih he
  ·exact⟨y, .inl (by simp [hy]),hk⟩
  ·rcases ins_keys hy with h|⟨z,hz,h⟩
   ·exact⟨x, .inl (by simp),by omega⟩
   ·exact⟨z, .inr hz,by omega⟩
theorem pgood_some {P es:List Ent} (hP:PGood P) (h:bagC P=some es):Rising es∧(∀e∈es,rollCheck e.is=0)∧(∀e∈es,0≤e.key∧e.key<1099511627776)∧es.length≤50000:=by
 obtain⟨h1,h2,h3,h4,h5⟩:=bagC_some hP.1 h
 refine⟨h5,fun e he=>(h3 e he).2,fun e he=>?_,by have:=hP.2.2;omega⟩
 rw [h1]at he
 obtain⟨y,hy|hy,hk⟩:=bag_keys he
 ·have:=hP.2.1 y hy;omega
 ·cases hy
noncomputable def allT (t:Tr):Option (List Ent):=if treeFault t=0 then allR t 0 1099511627776 else none
theorem all_good {t:Tr} (h:treeFault t=0) (lo hi:Int):PGood (t.all.filter (inRange lo hi)):=by
 obtain⟨h1,h2⟩:=treeFault_ok h
 refine⟨checked_filter (valid_checked h2),fun e he=>valid_range h2 e (List.mem_filter.1 he).1,?_⟩
 have h3:=valid_len h2
 have h4:=List.length_filter_le (inRange lo hi) t.all
 omega
theorem pgood_bag {P es:List Ent} (hP:PGood P) (h:bagC P=some es):PGood es:=by
 obtain⟨_,_,g3,g4⟩:=pgood_some hP h
 obtain⟨_,_,h3,_,_⟩:=bagC_some hP.1 h
 exact⟨h3,g3,g4⟩
theorem allR_good {t:Tr} {lo hi:Int} {l:List Ent} (hf:treeFault t=0) (h:allR t lo hi=some l):Rising l∧PGood l:=
 ⟨(pgood_some (all_good hf lo hi) h).1,pgood_bag (all_good hf lo hi) h⟩
theorem allT_good {t:Tr} {l:List Ent} (h:allT t=some l):Rising l∧PGood l:=by
 unfold allT at h
 split at h
 ·rename_i hf;exact allR_good hf h
 ·cases h
def bucket (size:Int) (e:Ent):Ent:=⟨e.key-e.key%1048576%size,e.is⟩
def rolledR (l:List Ent) (size:Int):Option (List Ent):=bagC (l.map (bucket size))
theorem mod_le {m s:Int} (h:0≤m) (hs:0<s):m%s≤m:=by
 rw [Int.emod_def]
 have:=Int.mul_nonneg (Int.le_of_lt hs) (Int.ediv_nonneg h (Int.le_of_lt hs))
 omega
theorem bucket_range {size:Int} (hs:0<size) {e:Ent} (h:0≤e.key∧e.key<1099511627776):0≤(bucket size e).key∧(bucket size e).key<1099511627776:=by
 have h1:=Int.emod_nonneg e.key (show (1048576:Int)≠0 by decide)
 have h2:=Int.emod_nonneg (e.key%1048576) (show size≠0 by omega)
 have h3:e.key%1048576%size≤e.key%1048576:=mod_le h1 hs
 have h4:e.key%1048576≤e.key:=by omega
 show 0≤e.key-e.key%1048576%size∧e.key-e.key%1048576%size<1099511627776
 omega
theorem bucket_good {size:Int} (hs:0<size) {l:List Ent} (h:PGood l):PGood (l.map (bucket size)):=by
 refine⟨fun e he=>?_,fun e he=>?_,by rw [List.length_map];exact h.2.2⟩
 ·obtain⟨y,hy,rfl⟩:=List.mem_map.1 he;exact h.1 y hy
 ·obtain⟨y,hy,rfl⟩:=List.mem_map.1 he;exact bucket_range hs (h.2.1 y hy)
structure Ba where
 names:List ByteArray
 t0:Tr
 t1:Tr
 t2:Tr
 floor:Int
def bookOk (b:Ba) (e:Ent):Bool:=decide (e.key/1048576<b.names.length) && decide (b.floor≤e.key%1048576) && decide (e.is.t=e.key%1048576)
noncomputable def bookR (b:Ba):Option (List Ent):=match allT b.t0 with|none=>none|some l=>if l.all (bookOk b)then some l else none
theorem bookR_some {b:Ba} {l:List Ent} (h:bookR b=some l):allT b.t0=some l∧l.all (bookOk b)=true:=by
 unfold bookR at h
 cases ht:allT b.t0 with
 |none=>rw [ht]at h;cases h
 |some m=>
  rw [ht]at h
  simp only at h
  split at h
  ·rename_i hb;simp only [Option.some.injEq]at h;subst h;exact⟨rfl,hb⟩
  ·cases h
noncomputable def treeOk (l:List Ent) (t:Tr) (size:Int):Bool:=match rolledR l size,allT t with|some a,some c=>decide (a=c)|_,_=>false
def Ba.tree (b:Ba) (k:Nat):Tr:=if k=0 then b.t0 else if k=1 then b.t1 else b.t2
def szOf (k:Nat):Int:=if k=0 then 1 else if k=1 then 60 else 3600
theorem szOf_pos (k:Nat):0<szOf k:=by unfold szOf;split;decide;split <;> decide
end Go.Proofs.YtnjfkcimboidnaaDoor

/- A law's row out of its contract, whatever its parameters: the call returns true and leaves all that was there as it was. No condition. -/
namespace Go.Proofs.YtnjfkcimboidnaaDoor
open Go.ChangeShapes Go.WideShapes Go.ChangeAt Go.RowKit
theorem trodAll_below {H:Type} {enc:TypeId×Value→H} {P:Program} (hl:laidOutB P=true) {W W':World} (hb:Below W.heap.size W W') :
  ∀{ts:List TypeId} {vs:List Value} {ds:List (DataW H)} {ps:List MemPlace},(∀t∈ts,P.readableRec t=true∧t<P.types.size) →
   DataW.TrodAll enc P W 0 (fun _=>true) true ts vs ds ps→(∀x∈ps,x.block<W.heap.size) →
   DataW.TrodAll enc P W' 0 (fun b=>decide (b<W.heap.size)) true ts vs ds ps:=by
 intro ts
 induction ts with
 |nil=>intro vs ds ps _ h _;obtain⟨rfl,rfl,rfl⟩:=trodAll_nil h;exact trodAll_mk0
 |cons t ts ih=>
  intro vs ds ps ht h hlt
  obtain⟨v,vs',d,ds',p,q,rfl,rfl,rfl,h1,h2⟩:=trodAll_cons h
  refine⟨p,q,Below.trod hl (ht t (by simp)).1 (ht t (by simp)).2 h1 hb (fun x hx=>hlt x (by simp [hx])),?_,rfl⟩
  exact ih (fun t' ht'=>ht t' (by simp [ht'])) h2 (fun x hx=>hlt x (by simp [hx]))
end Go.Proofs.YtnjfkcimboidnaaDoor

/- Arguments read as data: what their cells hold. -/
namespace Go.Proofs.YtnjfkcimboidnaaDoor
open Go.ChangeShapes Go.WideShapes Go.ChangeAt Go.RowKit
theorem Tryd.own:ownKnob Tryd.prog.godebug=none:=by kernel_rfl
theorem Tryd.laidOut:laidOutB Tryd.prog=true:=by kernel_rfl
theorem Tryd.cellsInt:Tryd.prog.cellsOf 3=1:=by kernel_rfl
section
variable {H:Type} {enc:TypeId×Value→H} {w:World} {base:Nat} {sp:Nat→Bool} {held:Bool}
theorem take_one {α:Type} {cs:List α} {i:Nat} {v:α} (h:(cs.drop i).take 1=[v]):cs[i]?=some v:=by
 have:=congrArg (fun l=>l[0]?) h
 simpa [List.getElem?_take] using this
theorem wf_int {n:Int} (hw:(Lit.int .i64 n).wf=true) : -9223372036854775808≤n∧n≤9223372036854775807:=by
 simpa [Lit.wf,IntKind.min,IntKind.max,IntKind.signed,IntKind.bits] using hw
theorem read_int_at {fuel:Nat} {cs:List Value} {i:Nat} {x:DataW H×List MemPlace} (h:DataW.trod enc Tryd.prog w base sp held fuel 3 ((cs.drop i).take (Tryd.prog.cellsOf 3))=some x) :
  ∃n,cs[i]?=some (.int .i64 n)∧-9223372036854775808≤n∧n≤9223372036854775807:=by
 obtain⟨n,e,_,hw⟩:=DataW.trod_int Tryd.underlying3 h
 rw [Tryd.cellsInt]at e
 exact⟨n,take_one e,wf_int hw⟩
def Roll.cells (r:Roll):List Value:=[.int .i64 r.c, .int .i64 r.s, .int .i64 r.mi, .int .i64 r.ma, .int .i64 r.t, .int .i64 r.l]
set_option maxRecDepth 100000 in
theorem open_int' {r:Reach} {b0:Nat} {v:Value} {d:DataW H} {p:List MemPlace} (hv:Value.okWide Tryd.prog w r b0 3 v) (h:DataW.Trod enc Tryd.prog w base sp held 3 v d p) :
  ∃n,v = .int .i64 n∧-9223372036854775808≤n∧n≤9223372036854775807:=by
 obtain⟨n,rfl,_,_,hw⟩:=open_int Tryd.underlying3 hv h
 exact⟨n,rfl,wf_int hw⟩
end
end Go.Proofs.YtnjfkcimboidnaaDoor

/- A law's row out of its contract, where the row lists a package-level variable with what it holds; the table base.sizes. -/
namespace Go.Proofs.YtnjfkcimboidnaaDoor
open Go.ChangeShapes Go.WideShapes Go.ChangeAt Go.RowKit
theorem lifted_of_laid {H:Type} {enc:TypeId×Value→H} {C:Go.Checked} {os:Os} {f:FuncId} {fn:Func} {s:ChangeSpec} {tb:TypeId} {L:List (String×DataW Unit)}
  (own:ownKnob C.prog.godebug=none) (started:os.Started) (noInit:C.prog.inits.idxOf? f=none) (hfn:C.prog.funcs[f]?=some fn)
  (witness:∃(w:World) (tape:Tape) (i:Input),w.os=os∧(w.forCall tape i).Shaped C.prog∧i.vars=[]∧Input.okWide C.prog (w.forCall tape i) .any w.heap.size f i ∧
   ((s.pre enc C.prog fn [] false (w.forCall tape i).memory i.args∧laidMetH C.prog L (w.forCall tape i).memory)∧sizedMet enc C.prog fn (OpenSpec.ofChange s) false (w.forCall tape i).memory i.args)∧({}:Assume).holds C.prog (lone (Frame.enter C.prog f i.args .normal) [] (w.forCall tape i)))
  (hl:laidOutB C.prog=true) (hread:∀t∈fn.params.toList,C.prog.readableRec t=true∧t<C.prog.types.size)
  (hvars:s.vars=[]) (hres:fn.resultTypes=#[tb]) (htb:C.prog.underlying tb=some .bool)
  (hspec:∀ds:List (DataW H),ds.length=fn.params.size→s.fn H (ds++[])={ results:=[.lit (.bool true)],args:=ds })
  (contract:∀(W:World) (base:Nat) (args:Array Value) (ds:List (DataW H)) (ps:List MemPlace),
   (∀(j:Nat) t v,fn.params[j]?=some t→args[j]?=some v→Value.okWide C.prog W .any base t v) →
   DataW.TrodAll enc C.prog W 0 (fun _=>true) true fn.params.toList args.toList ds ps →
   (∀x∈ps,x.block<W.heap.size) →
   (DataW.weightsEach C.prog fn.params.toList ds).all (·≤reachBytes)=true→laidMetH C.prog L W →
   Calls C.prog f args W fun e W'=>e = .returned (.bool true)∧Below W.heap.size W W') :
  ReturnsInHanded {} C os f .any (fun w args=>(s.pre enc C.prog fn [] false w args∧laidMetH C.prog L w)∧sizedMet enc C.prog fn (OpenSpec.ofChange s) false w args) (s.post enc C.prog fn false true false false):=by
 refine returnsInHanded_of_change_and (C:=C) (X:=fun w _=>laidMetH C.prog L w) (fun _ _ _ hh h=>h.of_heap hh) own started noInit hfn witness ?_
 intro W base args ds gs before hval hW _ hsz hL _
 have hW':=hW
 obtain⟨p,q,hA,hV,rfl,hfz,hnd⟩:=hW
 rw [hvars]at hV
 obtain⟨rfl,rfl⟩:=trodVars_none hV
 have hlt:∀x∈p,x.block<W.heap.size:=fun x hx=>hW'.lt x (by simp [hx])
 have hvt:s.plain.varTypes C.prog=[]:=by simp [ChangeSpec.plain,DataSpec.varTypes,hvars]
 rw [hvt]at hsz
 simp only [List.append_nil]at hsz
 refine(contract W base args ds p hval hA hlt hsz hL).mono fun e W' ⟨he,hb⟩=>?_
 subst he
 have hlen:ds.length=fn.params.size:=by
  have:∀{ts:List TypeId} {vs:List Value} {ds:List (DataW H)} {ps:List MemPlace},DataW.TrodAll enc C.prog W 0 (fun _=>true) true ts vs ds ps→ds.length=ts.length:=by
   intro ts
   induction ts with
   |nil=>intro vs ds ps h;obtain⟨rfl,rfl,rfl⟩:=trodAll_nil h;rfl
   |cons t ts ih=>
    intro vs ds ps h
    obtain⟨v,vs',d,ds',p,q,rfl,rfl,rfl,h1,h2⟩:=trodAll_cons h
    simp [ih h2]
  simpa using this hA
 refine⟨_,rfl,ds,[],p++[],[],p,[],hW',?_,?_,?_,hb.frame _,fun h=>by cases h⟩
 ·rw [hspec ds hlen,hres]
  exact trodAll_mk1 (shut_bool htb true)
 ·rw [hspec ds hlen]
  exact trodAll_below hl hb hread hA hlt
 ·rw [hspec ds hlen,hvars]
  rfl
structure SizesAt (w:World):Prop where
 lt:0<w.heap.size
 c0:w.cell? ⟨0,0,none⟩=some (.int .i64 1)
 c1:w.cell? ⟨0,1,none⟩=some (.int .i64 60)
 c2:w.cell? ⟨0,2,none⟩=some (.int .i64 3600)
theorem SizesAt.below {w w':World} (h:SizesAt w) (hb:Below w.heap.size w w'):SizesAt w':=
 ⟨Nat.lt_of_lt_of_le h.lt hb.size,(hb.cell (p:=⟨_,_,none⟩) h.lt).trans h.c0,(hb.cell (p:=⟨_,_,none⟩) h.lt).trans h.c1,(hb.cell (p:=⟨_,_,none⟩) h.lt).trans h.c2⟩
theorem idx_sizes0 (w:World):(Instr.index 107 (.agg #[.int .i64 1, .int .i64 60, .int .i64 3600]) (.int .i64 0)).run Tryd.prog w = .ok (.int .i64 1) w:=by
 unfold Instr.index
 simp [go_sem]
theorem idx_sizes1 (w:World):(Instr.index 107 (.agg #[.int .i64 1, .int .i64 60, .int .i64 3600]) (.int .i64 1)).run Tryd.prog w = .ok (.int .i64 60) w:=by
 unfold Instr.index
 simp [go_sem]
theorem idx_sizes2 (w:World):(Instr.index 107 (.agg #[.int .i64 1, .int .i64 60, .int .i64 3600]) (.int .i64 2)).run Tryd.prog w = .ok (.int .i64 3600) w:=by
 unfold Instr.index
 simp [go_sem]
abbrev laidL : List (String × DataW Unit) := [("winnower/base.sizes", Rows.laid_winnower_base_sizes)]
theorem Tryd.gSizes : Tryd.prog.globalNamed "winnower/base.sizes" = some 0 := by kernel_rfl
theorem Tryd.tSizes:(Tryd.prog.globals[0]?).map (·.type)=some 107:=by kernel_rfl
theorem Tryd.cellsSizes:Tryd.prog.cellsOf 107=3:=by kernel_rfl
theorem sizes_of_laid {W:World} (h:laidMetH Tryd.prog laidL W):SizesAt W:=by
 rw [MakeChecks.laidMetH_plain _ _ _ (by kernel_rfl)]at h
 obtain⟨ps,⟨g0,t0,cs0,f0,p0,q0,hg0,ht0,hv0,hd0,_,_⟩,_⟩:=h
 obtain rfl:=Option.some.inj (Tryd.gSizes.symm.trans hg0)
 obtain rfl:=Option.some.inj (Tryd.tSizes.symm.trans ht0)
 obtain⟨xs,m1,rfl,hx1,hlen,hn3,hel⟩:=DataW.trod_array Tryd.underlying107 hd0
 rw [Tryd.cellsSizes]at hlen
 simp only [Prod.mk.injEq]at hx1
 have cells:∀(i:Nat) (n:Int),i<3→(xs.map (·.1))[i]?=some (.lit (.int .i64 n))→cs0[i]?=some (.int .i64 n):=by
  intro i n hi hn
  have hi':i<xs.length:=by omega
  have h1:=hel i hi
  rw [List.getElem?_eq_getElem hi']at h1
  obtain⟨k,e1,e2,_⟩:=DataW.trod_int Tryd.underlying3 h1
  rw [Tryd.cellsInt,Nat.mul_one]at e1
  have h2:=take_one e1
  rw [List.getElem?_map,List.getElem?_eq_getElem hi']at hn
  simp only [Option.map_some,Option.some.injEq]at hn
  have e3:=congrArg (·.1) e2
  simp only at e3
  rw [hn]at e3
  obtain rfl:k=n:=by simpa using e3.symm
  simpa using h2
 have hm:xs.map (·.1)=[.lit (.int .i64 1), .lit (.int .i64 60), .lit (.int .i64 3600)]:=(DataW.agg.inj (show DataW.agg [.lit (.int .i64 1), .lit (.int .i64 60), .lit (.int .i64 3600)]=DataW.agg (xs.map (·.1))from hx1.1)).symm
 have hc:∀(i:Nat) (n:Int),i<3→(xs.map (·.1))[i]?=some (.lit (.int .i64 n))→W.cell? ⟨0,i,none⟩=some (.int .i64 n):=fun i n hi hn=>
  (World.var?_cell Tryd.gSizes hv0 i).trans (cells i n hi hn)
 have c0:=hc 0 1 (by omega) (by rw [hm];rfl)
 refine⟨?_,c0,hc 1 60 (by omega) (by rw [hm];rfl),hc 2 3600 (by omega) (by rw [hm];rfl)⟩
 by_cases hb:0<W.heap.size
 ·exact hb
 ·simp [World.cell?,Array.getElem?_eq_none (Nat.le_of_not_lt hb)]at c0
theorem door_met (os:Os) (args:Array Value):laidMetH Tryd.prog laidL ((World.doorLaid Tryd.prog 14 os).forCall (fun _ _=>0) ⟨#[],args,[]⟩).memory:=
 laidMetH_of_parts3 (fuel:=8) (laidMet_of_run' 8 (by kernel_rfl) (by kernel_rfl)) (by kernel_rfl) (by kernel_rfl)
end Go.Proofs.YtnjfkcimboidnaaDoor
