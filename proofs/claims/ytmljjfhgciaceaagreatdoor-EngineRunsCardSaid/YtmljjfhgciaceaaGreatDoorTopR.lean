import Derived.Test.YtmljjfhgciaceaaGreatDoorHd
import Derived.Test.YtmljjfhgciaceaaGreatDoorCz
import Derived.Test.YtmljjfhgciaceaaGreatDoorEG
namespace Go.Proofs.YtmljjfhgciaceaaGreatDoor
theorem Hk:∀{l:List Ac} {x:St} {q:An},q∈tV x l->∃j,j<l.length/\∃a,q=gH (oh x (l.take j)) a
 |[],_,_,h=>by cases h
 |b::l,x,q,h=>by
  rw [tV]at h;rcases fy.1 h with rfl|h
  ·exact⟨0,bh,b,rfl⟩
  ·obtain⟨j,hj,a,ha⟩:=Hk h;exact⟨j+1,by rw [gD];omega,a,ha⟩
theorem Ot (L:List aH) (s p a z:Int):(Nb L s p a z).length<=L:=by
 unfold Nb;rw [oX];have h1:=ub (im p a z) (pH (L.map (bucket s)));have h2:=@Dj (L.map (bucket s)) [];rw [oX]at h2;have h3:(pH (L.map (bucket s))).length<=([]:List aH).length+L.length:=h2;simp only [List.length_nil]at h3;omega
theorem Fj (x:St) (a:Ac):(gH x a).rows.length<=x.m.L:=by
 unfold gH
 split
 ·exact eY _
 ·split
  ·show (x.m.rows a.s a.sz a.t a.z).length<=_;unfold Mo.rows
   split
   ·exact Ot ..
   ·exact eY _
  ·split
   ·exact eY _
   ·split
    ·exact eY _
    ·split <;> exact eY _
theorem VB {l:List Ac} (h:∀j,j<=l.length->(oh St.zero (l.take j)).m.Ok j) (hl:l.length<=500):∀q∈tV St.zero l,q.rows.length<=1000000:=fun q hq=>by
 obtain⟨j,hj,a,rfl⟩:=Hk hq;have h1:=Fj (oh St.zero (l.take j)) a;have h2:=(h j ai).len;omega
end Go.Proofs.YtmljjfhgciaceaaGreatDoor
