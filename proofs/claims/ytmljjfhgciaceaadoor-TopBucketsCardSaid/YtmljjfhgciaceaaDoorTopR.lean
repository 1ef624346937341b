import Derived.Test.YtmljjfhgciaceaaDoorHd
import Derived.Test.YtmljjfhgciaceaaDoorEG
namespace Go.Proofs.YtmljjfhgciaceaaDoor
theorem C4:∀{l:List Ac} {x:St} {q:An},q∈lZ x l->∃j,j<l.length/\∃a,q=iq (iC x (l.take j)) a
 |[],_,_,h=>by cases h
 |b::l,x,q,h=>by
  rw [lZ]at h
  rcases fc.1 h with rfl|h
  ·exact⟨0,bq,b,rfl⟩
  ·obtain⟨j,hj,a,ha⟩:=C4 h
   exact⟨j+1,by rw [fR];omega,a,ha⟩
theorem Jp (L:List aA) (s p a z:Int):(qo L s p a z).length<=L.length:=by
 unfold qo
 rw [nA]
 have h1:=tO (kr p a z) (jJ (L.map (bucket s)))
 have h2:=@uZ (L.map (bucket s)) []
 rw [nA]at h2
 have h3:(jJ (L.map (bucket s))).length<=([]:List aA).length+L.length:=h2
 simp only [List.length_nil]at h3
 omega
theorem Kz (x:St) (a:Ac):(iq x a).rows.length<=x.m.L.length:=by
 unfold iq
 split
 ·exact iN _
 ·split
  ·show (x.m.rows a.s a.sz a.t a.z).length<=_
   unfold Mo.rows
   split
   ·exact Jp ..
   ·exact iN _
  ·split
   ·exact iN _
   ·split
    ·exact iN _
    ·split <;> exact iN _
theorem Qk {l:List Ac} (h:∀j,j<=l.length->(iC St.zero (l.take j)).m.Ok j) (hl:l.length<=500):∀q∈lZ St.zero l,q.rows.length<=1000000:=fun q hq=>by
 obtain⟨j,hj,a,rfl⟩:=C4 hq
 have h1:=Kz (iC St.zero (l.take j)) a
 have h2:=(h j af).len
 omega
end Go.Proofs.YtmljjfhgciaceaaDoor
