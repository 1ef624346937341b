import Derived.Test.YtmljjfhgciaceaaDoorHd
import Derived.Test.YtmljjfhgciaceaaDoorEG
namespace Go.Proofs.YtmljjfhgciaceaaDoor
theorem acQ (k:Nat):∀(x:St) (l:List Ac),sy x (l.take k)=(sy x l).take k:=by
 induction k with
 |zero=>intro x l;rw [List.take_zero,List.take_zero];rfl
 |succ k ih=>
  intro x l
  cases l with
  |nil=>rfl
  |cons a l=>rw [List.take_succ_cons,sy,sy,List.take_succ_cons,ih]
theorem acr:∀{l:List Ac} {x:St} {q:An},q∈sy x l->∃j,j<l.length/\∃a,q=kX (gK x (l.take j)) a
 |[],_,_,h=>by cases h
 |b::l,x,q,h=>by
  rw [sy]at h
  rcases fk.1 h with rfl|h
  ·exact⟨0,bj,b,rfl⟩
  ·obtain⟨j,hj,a,ha⟩:=acr h
   exact⟨j+1,by rw [gp];omega,a,ha⟩
theorem acR (L:List aC) (s p a z:Int):(QO L s p a z).length<=L.length:=by
 unfold QO
 rw [oJ]
 have h1:=sH (xA p a z) (oG (L.map (bucket s)))
 have h2:=@E8 (L.map (bucket s)) []
 rw [oJ]at h2
 have h3:(oG (L.map (bucket s))).length<=([]:List aC).length+L.length:=h2
 simp only [List.length_nil]at h3
 omega
theorem acX (x:St) (a:Ac):(kX x a).rows.length<=x.m.L.length:=by
 unfold kX
 split
 ·exact jd _
 ·split
  ·show (x.m.rows a.s a.sz a.t a.z).length<=_
   unfold Mo.rows
   split
   ·exact acR ..
   ·exact jd _
  ·split
   ·exact jd _
   ·split
    ·exact jd _
    ·split <;> exact jd _
theorem adz {l:List Ac} (h:∀j,j<=l.length->(gK St.zero (l.take j)).m.Ok j) (hl:l.length<=500):∀q∈sy St.zero l,q.rows.length<=1000000:=fun q hq=>by
 obtain⟨j,hj,a,rfl⟩:=acr hq
 have h1:=acX (gK St.zero (l.take j)) a
 have h2:=(h j af).len
 omega
end Go.Proofs.YtmljjfhgciaceaaDoor
