import Derived.Test.YtmljjfhgciaceaaDoorHd
import Derived.Test.YtmljjfhgciaceaaDoorEG
namespace Go.Proofs.YtmljjfhgciaceaaDoor
theorem Jq {R:List aA} (hg:aT R) (hc:(aN R).c<=1073741824) {j:Nat} (hj:j<R.length):bG (aN (R.take j)) R[j].is=(aN (R.take (j+1)),0):=by
 have h1:=mB hg.dm j
 have h2:=mB hg.dm (j+1)
 have h3:=uB hg.dm hj
 have h4:(aN (R.take (j+1))).c=(aN (R.take j)).c+R[j].is.c:=by rw [h3,dC]
 have h5:=hg _ (fO hj)
 have h6:=h5.1
 have hf:(aN (R.take j)).iu:=cg fun e he=> .inr (hg e (wH he))
 have h7:aj (aN (R.take j))=0:=by
  rcases hf with h|h
  ·rw [h];decide
  ·exact lA h af
 have h8:0<=(aN (R.take j)).c:=by
  rcases hf with h|h
  ·rw [h];decide
  ·have:=h.1;omega
 rw [h3]
 exact(o8 h7 (lA h5 af) af).1
theorem C6 {L:List aA} (h:aT L) (s p a z:Int):aT (qo L s p a z):=fun e he=>by
 obtain⟨x,hx,rfl⟩:=lI.1 he
 have hb:aT (L.map (bucket s)):=fun e he=>by obtain⟨y,hy,rfl⟩:=lI.1 he;exact h y hy
 exact dh hb x (js.1 hx).1
def EN (s:ByteArray) (t:Int):List Ac:=[⟨1,s,t,0,0,0⟩,⟨2,s,0,1048575,1,0⟩,⟨2,s,0,1048575,60,0⟩,⟨2,s,0,1048575,3600,0⟩,⟨3,s,0,1048575,0,0⟩]
structure Bkt (l:List Ac) (s:ByteArray) (t:Int) (R:Nat->List aA) (T:au) (A:An):Prop where
 run:lZ St.zero (l++EN s t)=lZ St.zero l++[A,⟨0,au.zero,R 0⟩,⟨0,au.zero,R 1⟩,⟨0,au.zero,R 2⟩,⟨0,T,[]⟩]
 bJ:∀k,k<3->aT (R k)
 all:∀k,k<3->aN (R k)=T
 few:T.c<=1073741824
 VQ:(R 1).length<=(R 0).length
 VP:(R 2).length<=(R 1).length
theorem EI {l:List Ac} {s:ByteArray} {t:Int} (hg:∀a∈l,tS a) (hs:s∈iH) (h0:7200<=t) (h1:t<14400) {N:Nat} (hN:N<=500) (hok:(iC St.zero (l++[⟨1,s,t,0,0,0⟩])).m.Ok N):∃R T A,Bkt l s t R T A:=by
 have ht:=(lM.run (x:=St.zero) (l:=l) ⟨lM.zero,lM.zero⟩ hg).1
 have e0:(iC St.zero l).m.jL s t 0=0:=ht.takes hs (by have:=ht.f1;omega) af aW aW
 have e1:iC St.zero (l++[⟨1,s,t,0,0,0⟩])=⟨(iC St.zero l).m.add s t 0,(iC St.zero l).s⟩:=by
  rw [vL];unfold fB;rw [ar rfl,ar e0]
 have hT:lM ((iC St.zero l).m.add s t 0):=ht.add hs af h1
 rw [e1]at hok
 obtain⟨S,hS⟩:=bw ((⟨(iC St.zero l).m.add s t 0,(iC St.zero l).s⟩:St))
 have hm:(iC St.zero l).m.add s t 0=S.m:=by rw [<-hS]
 have hin:s∈S.m.ns:=by
  rw [<-hm]
  show s∈dB (iC St.zero l).m.ns s
  exact fV.2 (.inr rfl)
 rw [hm]at hT
 have hok:S.m.Ok N:=by rw [<-hm];exact hok
 have hpl:=eU.2 hin
 have Wk:S.m.uj s=0:=ai af
 have hro:cO 0 1048575:=⟨aW,aW,aW⟩
 have hr:∀n,(n=1\/n=60\/n=3600)->iq S ⟨2,s,0,1048575,n,0⟩=⟨0,au.zero,qo S.m.L n (aG S.m.ns s) 0 1048575⟩:=fun n hn=>by
  have er:S.m.ey s n 0 1048575=0:=by unfold Mo.ey;rw [Wk,ai aW,ai af,ai (iF hro)]
  unfold iq
  rw [ai (show ¬(2:Int)=1 by decide),ar rfl]
  show (⟨S.m.ey s n 0 1048575,au.zero,S.m.rows s n 0 1048575⟩:An)=_
  unfold Mo.rows
  rw [er,ar rfl]
 have ha:iq S ⟨3,s,0,1048575,0,0⟩=⟨0,eF S.m.L (aG S.m.ns s) 0 1048576,[]⟩:=by
  have er:S.m.pJ s 0 1048575=0:=by unfold Mo.pJ;rw [Wk,ai aW,ai (iF hro)]
  unfold iq
  rw [ai (show ¬(3:Int)=1 by decide),ai (show ¬(3:Int)=2 by decide),ar rfl]
  show (⟨S.m.pJ s 0 1048575,S.m.KP s 0 1048575,[]⟩:An)=_
  unfold Mo.KP
  rw [er,ar rfl];rfl
 have q:∀n,fB S ⟨2,s,0,1048575,n,0⟩=S:=fun n=>NN (.inl rfl)
 have YV:aT S.m.L:=hok.fit.good.1.bJ
 have hsz:∀k,k<3->aR k=1\/aR k=60\/aR k=3600:=fun k _=>Le k
 refine⟨fun k=>qo S.m.L (aR k) (aG S.m.ns s) 0 1048575,eF S.m.L (aG S.m.ns s) 0 1048576,iq (iC St.zero l) ⟨1,s,t,0,0,0⟩,?_,fun k _=>C6 YV _ _ _ _,fun k hk=>?_,?_,?_,?_⟩
 ·rw [qN]
  congr 1
  have e2:fB (iC St.zero l) ⟨1,s,t,0,0,0⟩=S:=by rw [<-hS,<-e1,vL]
  unfold EN
  rw [lZ,e2,lZ,q,lZ,q,lZ,q,lZ,hr 1 (.inl rfl),hr 60 (.inr (.inl rfl)),hr 3600 (.inr (.inr rfl)),ha]
  rfl
 ·exact Lr hok.fit hT.early hk _
 ·have e3:(eF S.m.L (aG S.m.ns s) 0 1048576).c<=fA S.m.L:=by
   unfold eF
   rw [A9]
   exact ru YV _
  have:=hok.fA
  omega
 ·exact yE YV (.inl ⟨rfl,rfl⟩) _
 ·exact yE YV (.inr ⟨rfl,rfl⟩) _
end Go.Proofs.YtmljjfhgciaceaaDoor
