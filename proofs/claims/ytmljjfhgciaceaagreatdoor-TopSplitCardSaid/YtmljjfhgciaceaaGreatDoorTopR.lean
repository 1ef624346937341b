import Derived.Test.YtmljjfhgciaceaaGreatDoorHd
import Derived.Test.YtmljjfhgciaceaaGreatDoorEG
namespace Go.Proofs.YtmljjfhgciaceaaGreatDoor
theorem C9:∀{l:List Ac} {x:St} {q:An},q∈lu x l->∃j,j<l.length/\∃a,q=iN (iL x (l.take j)) a
 |[],_,_,h=>by cases h
 |b::l,x,q,h=>by
  rw [lu]at h
  rcases eZ.1 h with rfl|h
  ·exact⟨0,bt,b,rfl⟩
  ·obtain⟨j,hj,a,ha⟩:=C9 h
   exact⟨j+1,by rw [fR];omega,a,ha⟩
theorem Jt (L:List aA) (s p a z:Int):(Ix L s p a z).length<=L.length:=by
 unfold Ix
 rw [po]
 have h1:=tQ (uD p a z) (mo (L.map (bucket s)))
 have h2:=@zU (L.map (bucket s)) []
 rw [po]at h2
 have h3:(mo (L.map (bucket s))).length<=([]:List aA).length+L.length:=h2
 simp only [List.length_nil]at h3
 omega
theorem KC (x:St) (a:Ac):(iN x a).rows.length<=x.m.L.length:=by
 unfold iN
 split
 ·exact jf _
 ·split
  ·show (x.m.rows a.s a.sz a.t a.z).length<=_
   unfold Mo.rows
   split
   ·exact Jt ..
   ·exact jf _
  ·split
   ·exact jf _
   ·split
    ·exact jf _
    ·split <;> exact jf _
theorem Qq {l:List Ac} (h:∀j,j<=l.length->(iL St.zero (l.take j)).m.Ok j) (hl:l.length<=500):∀q∈lu St.zero l,q.rows.length<=1000000:=fun q hq=>by
 obtain⟨j,hj,a,rfl⟩:=C9 hq
 have h1:=KC (iL St.zero (l.take j)) a
 have h2:=(h j af).len
 omega
end Go.Proofs.YtmljjfhgciaceaaGreatDoor
