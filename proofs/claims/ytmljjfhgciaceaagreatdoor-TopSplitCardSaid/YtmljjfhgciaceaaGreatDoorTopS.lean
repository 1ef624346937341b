import Derived.Test.YtmljjfhgciaceaaGreatDoorHd
import Derived.Test.YtmljjfhgciaceaaGreatDoorEG
namespace Go.Proofs.YtmljjfhgciaceaaGreatDoor
def qP (s:ByteArray) (x y z:Int):List Ac:=[⟨1,s,11999,0,0,0⟩,⟨3,s,x,y,0,0⟩,⟨3,s,y+1,z+1,0,0⟩,⟨3,s,x,z+1,0,0⟩]
theorem De {L:List aA} (h:aW L) (p a z:Int):(eT L p a z).iq/\(eT L p a z).c<=fB L:=by
 unfold eT
 refine⟨cg fun e he=> .inr (h e (ju.1 he).1),?_⟩
 rw [Bi]
 exact rC h _
theorem zH {r:av} (h:r.iq) (hc:r.c<=1073741824):aj r=0:=by
 rcases h with h|h
 ·rw [h];decide
 ·exact nu h hc
theorem Jl {l:List Ac} {s:ByteArray} {x y z:Int} (hg:∀a∈l,tU a) (hs:s∈iG) (h0:0<=x) (h1:x<=y) (h2:y<=z) (h3:z<12000) {N:Nat} (hN:N<=500) (hok:(iL St.zero (l++[⟨1,s,11999,0,0,0⟩])).m.Ok N) :
  ∃A P Q,lu St.zero (l++qP s x y z)=lu St.zero l++[A,⟨0,P,[]⟩,⟨0,Q,[]⟩,⟨0,P.join Q,[]⟩]/\bL P Q=(P.join Q,0):=by
 have ht:=(mh.run (x:=St.zero) (l:=l) ⟨mh.zero,mh.zero⟩ hg).1
 have e0:(iL St.zero l).m.jN s 11999 0=0:=ht.takes hs (by have:=ht.f1;omega) aY aY aY
 have e1:iL St.zero (l++[⟨1,s,11999,0,0,0⟩])=⟨(iL St.zero l).m.add s 11999 0,(iL St.zero l).s⟩:=by
  rw [vN];unfold fD;rw [ar rfl,ar e0]
 rw [e1]at hok
 obtain⟨S,hS⟩:=bC ((⟨(iL St.zero l).m.add s 11999 0,(iL St.zero l).s⟩:St))
 have hm:(iL St.zero l).m.add s 11999 0=S.m:=by rw [<-hS]
 have hin:s∈S.m.ns:=by
  rw [<-hm]
  show s∈dA (iL St.zero l).m.ns s
  exact fV.2 (.inr rfl)
 have hok:S.m.Ok N:=by rw [<-hm];exact hok
 have hpl:=eU.2 hin
 have aav:S.m.um s=0:=ai af
 have hgs:aW S.m.L:=hok.fit.good.1.bP
 have ha:∀a b,cO a b->iN S ⟨3,s,a,b,0,0⟩=⟨0,eT S.m.L (aG S.m.ns s) a (b+1),[]⟩:=fun a b hr=>by
  have er:S.m.pH s a b=0:=by unfold Mo.pH;rw [aav,ai aY,ai (iM hr)]
  unfold iN
  rw [ai (show ¬(3:Int)=1 by decide),ai (show ¬(3:Int)=2 by decide),ar rfl]
  show (⟨S.m.pH s a b,S.m.KU s a b,[]⟩:An)=_
  unfold Mo.KU
  rw [er,ar rfl]
 have q:∀a b,fD S ⟨3,s,a,b,0,0⟩=S:=fun a b=>NQ (.inr rfl)
 obtain⟨f1,c1⟩:=De hgs (aG S.m.ns s) x (y+1)
 obtain⟨f2,c2⟩:=De hgs (aG S.m.ns s) (y+1) (z+1+1)
 have hc:=hok.fB
 have hsp:=tu (l:=S.m.L) hgs.dD (p:=aG S.m.ns s) (lo:=x) (mid:=y+1) (hi:=z+1+1) af af
 refine⟨iN (iL St.zero l) ⟨1,s,11999,0,0,0⟩,eT S.m.L (aG S.m.ns s) x (y+1),eT S.m.L (aG S.m.ns s) (y+1) (z+1+1),?_,(oU (zH f1 af) (zH f2 af) af).1⟩
 rw [qT]
 congr 1
 have e2:fD (iL St.zero l) ⟨1,s,11999,0,0,0⟩=S:=by rw [<-hS,<-e1,vN]
 unfold qP
 rw [lu,e2,lu,q,lu,q,lu,ha _ _ ⟨af,af,af⟩,ha _ _ ⟨af,af,af⟩,ha _ _ ⟨af,af,af⟩,hsp]
 rfl
end Go.Proofs.YtmljjfhgciaceaaGreatDoor
