/- Texts of mine that come as one: ExpP ExpA Exp ExpK ExpG ExpAny. -/
import Derived.Test.YtmljjfhgciaceaaDoorHd
import Derived.Test.YtmljjfhgciaceaaDoorAQ
import Derived.Test.YtmljjfhgciaceaaDoorMerged
import Derived.Test.YtmljjfhgciaceaaDoorIG
import Derived.Test.YtmljjfhgciaceaaDoorSP
import Derived.Test.YtmljjfhgciaceaaDoorPG
import Derived.Test.YtmljjfhgciaceaaDoorBK
import Derived.Test.YtmljjfhgciaceaaDoorPC
import Derived.Test.YtmljjfhgciaceaaDoorKG
import Derived.Test.YtmljjfhgciaceaaDoorOG
import Derived.Test.YtmljjfhgciaceaaDoorSO
namespace Go.Proofs.YtmljjfhgciaceaaDoor
section
variable {b:Ba} {time:Int}
noncomputable def nL (b:Ba) (time:Int):Int:=
 if aQ b=false then 7 else if ¬(0<=time/\time<=1048575)then 2 else if time%3600≠0 then 4 else if time<b.floor then 8 else 0
def bM (time:Int) (e:aA):Bool:=decide (time<=e.key%1048576)
noncomputable def qZ (b:Ba) (time:Int):List aA:=match bW b with|none=>[]|some l=>l.filter (bM time)
theorem Cm (h:nL b time=0):aQ b=true/\0<=time/\time<=1048575/\time%3600=0/\b.floor<=time:=by
 unfold nL at h
 split at h
 ·omega
 rename_i h1
 split at h
 ·omega
 rename_i h2
 split at h
 ·omega
 rename_i h3
 split at h
 ·omega
 exact⟨by simpa using h1,af,af,by simpa using h3,af⟩
theorem Hi {s:Int} (hs:0<s) (e:aA):(bucket s e).key%1048576=e.key%1048576-e.key%1048576%s:=by
 show (e.key-e.key%1048576%s)%1048576=_
 have h1:=Int.emod_nonneg (e.key%1048576) (show s≠0 by omega)
 have h2:=mod_le (m:=e.key%1048576) (s:=s) af hs
 generalize e.key%1048576%s=x at h1 h2 ⊢
 omega
theorem Bz (k:Nat) (h3:time%3600=0) (_h0:0<=time) (e:aA) (_he:0<=e.key):bM time (bucket (aR k) e)=bM time e:=by
 unfold bM
 rw [decide_eq_decide,Hi (gJ k)]
 have hm:0<=e.key%1048576:=af
 generalize e.key%1048576=t at hm ⊢
 unfold aR
 by_cases hk:k=0
 ·rw [ar hk];omega
 ·rw [ai hk]
  by_cases hk1:k=1
  ·rw [ar hk1];omega
  ·rw [ai hk1];omega
theorem Bj {l:List aA} (h:nL b time=0) (hl:bW b=some l) (k:Nat) (hk:k<3) :
  ∃m,allT (b.tree k)=some m/\bU (l.filter (bM time)) (aR k)=some (m.filter (bM time))/\aV (m.filter (bM time))/\Checked (m.filter (bM time))/\(m.filter (bM time)).length<=(l.filter (bM time)).length:=by
 obtain⟨hm,h0,h1,h3,hf⟩:=Cm h
 obtain⟨l',hl',hr,hg,ht⟩:=iW hm
 obtain rfl:l'=l:=dw (hl'.symm.trans hl)
 obtain⟨m,g1,g2⟩:=ht k hk
 have hc:=fM (aR k) hg.1
 unfold bU at g1
 have e1:=rq hc g1 fun q=>decide (time<=q%1048576)
 have e2:(l'.map (bucket (aR k))).filter (fun e=>decide (time<=e.key%1048576))=(l'.filter (bM time)).map (bucket (aR k)):=by
  rw [List.filter_map]
  congr 1
  exact List.filter_congr fun e he=>Bz k h3 h0 e (hg.2.1 e he).1
 rw [e2]at e1
 have YS:m.filter (fun e=>decide (time<=e.key%1048576))=m.filter (bM time):=rfl
 rw [YS]at e1
 obtain⟨mr,mg⟩:=fI g2
 refine⟨m,g2,e1,mr.filter _,fun e he=>mg.1 e (js.1 he).1,?_⟩
 have hc2:Checked ((l'.filter (bM time)).map (bucket (aR k))):=fM _ fun e he=>hg.1 e (js.1 he).1
 obtain⟨-,-,-,h4,-⟩:=fT hc2 e1
 rwa [nA]at h4
theorem TQ {T:Nat->Tr} (h:nL b time=0) (hT:∀k,k<3->∀m,allT (b.tree k)=some m->allT (T k)=some (m.filter (bM time))) :
  aQ ⟨b.names,T 0,T 1,T 2,time⟩=true/\bW ⟨b.names,T 0,T 1,T 2,time⟩=some (qZ b time):=by
 obtain⟨hm,h0,h1,h3,hf⟩:=Cm h
 obtain⟨l,hl,hr,hg,ht⟩:=iW hm
 have hB:=dJ hm
 obtain⟨KS,hl2⟩:=lC hl
 have hL:qZ b time=l.filter (bM time):=by unfold qZ;rw [hl]
 have ha0:allT (T 0)=some (qZ b time):=by rw [hL];exact hT 0 aW l KS
 have uK:bW ⟨b.names,T 0,T 1,T 2,time⟩=some (qZ b time):=by
  refine uX ha0 (pA.2 fun e he=>?_)
  rw [hL]at he
  obtain⟨h4,h5⟩:=js.1 he
  have h6:=pA.1 hl2 e h4
  unfold jm at h6 ⊢
  unfold bM at h5
  simp only [Bool.and_eq_true,sk]at h5 h6 ⊢
  exact⟨⟨h6.1.1,h5⟩,h6.2⟩
 refine⟨jS ⟨hB.n16,h0,h1,h3,fun i=>hB.names i,_,uK,fun k hk=>?_⟩,uK⟩
 have hk3:k=0\/k=1\/k=2:=af
 obtain⟨m,g1,g2,-⟩:=Bj h hl k hk
 have g3:=hT k hk m g1
 unfold fL
 rw [hL,g2]
 rcases hk3 with rfl|rfl|rfl
 ·show (match some _,allT (T 0) with|some a,some c=>decide (a=c)|_,_=>false)=true
  rw [g3];simp
 ·show (match some _,allT (T 1) with|some a,some c=>decide (a=c)|_,_=>false)=true
  rw [g3];simp
 ·show (match some _,allT (T 2) with|some a,some c=>decide (a=c)|_,_=>false)=true
  rw [g3];simp
end
open Go.RowKit
section
set_option maxRecDepth 100000
set_option maxHeartbeats 2000000
variable {time:Int} {l es:List aA} {tb B g cap n i:Nat} {w:World}
abbrev XO (tb:Nat):Value:= .func (.func 106) #[] #[.pointer (some ⟨tb,0,none⟩)]
theorem Ja (e:aA):decide (e.key%1048576<time) = !bM time e:=by
 unfold bM
 by_cases h:time<=e.key%1048576
 ·simp [h]
 ·simp [h];omega
theorem Er {e:aA} (hk:0<=e.key) (ht:w.cell? ⟨tb,0,none⟩=some (.int .i64 time)) (DZ:tb<w.heap.size) :
  Calls Tryd.prog 106 #[.agg #[.int .i64 e.key, .int .i64 e.is.c, .int .i64 e.is.s, .int .i64 e.is.mi, .int .i64 e.is.ma, .int .i64 e.is.t, .int .i64 e.is.l], .pointer (some ⟨tb,0,none⟩)] w fun r w'=>r = .returned (.bool (!bM time e))/\ah w w':=by
 obtain⟨M,hM⟩:=bw (e.key%1048576)
 have m1:e.key.tmod 1048576=M:=by rw [xO hk];exact hM
 have m4:IntKind.i64.wrap M=M:=IntWalk.i64_in _ af
 have HY:=hdd (show decide (M<time) = !bM time e by rw [<-hM];exact Ja e)
 clear hM
 go_enter Tryd.func106,Tryd.ntmps106
 go_wp2
 go_ret
 exact⟨by simp;exact HY.out,ag⟩
def kC (time:Int) (l:List aA):Int:=if l.all (bM time)then -1 else(l.findIdx (fun c=>!bM time c):Nat)
theorem sJ (h:l.all (bM time)=true):kC time l = -1:=by simp [kC,h]
theorem xp {k:Nat} (hk:k<l.length) (ha:(l.take k).all (bM time)=true) (hb:bM time l[k]=false):kC time l=k:=by
 have hn:l.all (bM time)=false:=by
  rw [Bool.eq_false_iff];intro h
  have:=pA.1 h l[k] (fO hk)
  rw [hb]at this;cases this
 have:l.findIdx (fun c=>!bM time c)=k:=by
  rw [List.findIdx_eq hk]
  refine⟨by simp [hb],fun j hj=>?_⟩
  have:=pA.1 ha l[j] (by rw [List.mem_take_iff_getElem];exact⟨j,af,rfl⟩)
  simp [this]
 simp [kC,hn,this]
theorem zB (time:Int) (l:List aA):(kC time l = -1/\l.filter (bM time)=l)\/∃k:Nat,∃hk:k<l.length,kC time l=k/\(l.take k).filter (bM time)=l.take k/\bM time l[k]=false:=by
 cases h:l.all (bM time)
 ·have h0:∃x∈l,(!bM time x)=true:=by
   simp only [List.all_eq_false]at h
   obtain⟨x,hx,h2⟩:=h
   exact⟨x,hx,by simpa using h2⟩
  have hk:l.findIdx (fun c=>!bM time c)<l.length:=List.findIdx_lt_length_of_exists h0
  have ha:(l.take (l.findIdx (fun c=>!bM time c))).all (bM time)=true:=by
   refine pA.2 fun x hx=>?_
   obtain⟨j,hj,rfl⟩:=List.mem_take_iff_getElem.1 hx
   have:=List.not_of_lt_findIdx (p:=fun c=>!bM time c) (xs:=l) (i:=j) af
   simpa using this
  have hb:bM time (l[l.findIdx (fun c=>!bM time c)])=false:=by
   have:=List.findIdx_getElem (p:=fun c=>!bM time c) (xs:=l) (w:=hk)
   simpa using this
  exact .inr ⟨_,hk,xp hk ha hb,List.filter_eq_self.2 fun x hx=>pA.1 ha x hx,hb⟩
 ·exact .inl ⟨sJ h,List.filter_eq_self.2 fun x hx=>pA.1 h x hx⟩
theorem BW {v:Value} {xs:List aA} (ha:eQ w v xs) (hq:∀e∈xs,0<=e.key) (ht:w.cell? ⟨tb,0,none⟩=some (.int .i64 time)) (DZ:tb<w.heap.size) :
  Calls Tryd.prog 121 #[v,XO tb] w fun e w'=>e = .returned (.int .i64 (kC time xs))/\ah w w':=by
 have hxl:=ha.len aW
 obtain⟨ao,ca,rfl,a1,a2,a3,a4,a5⟩:=ha
 have HK:=hdd fun(e:aA) (h:0<=e.key) W (hb:ah w W)=>Er (w:=W) h ((hb.cell (p:=⟨tb,0,none⟩) DZ).trans ht) (mE DZ hb.size)
 clear ht DZ
 go_enter Tryd.func121,Tryd.ntmps121
 go_wp2_with fail
 go_loopg [5,8] xs.length (fun g _ i wr=>∃k:Nat,k<=xs.length/\g=xs.length-k/\i = .int .i64 k/\Hid ((xs.take k).all (bM time)=true)/\ah w wr)
 case atStart=>exact⟨0,iN _,rfl,rfl,hdd bq,aJ _ _⟩
 case round=>
  obtain⟨k,hk,rfl,rfl,HE,hb⟩:=hrel
  by_cases hlt:k<xs.length
  ·obtain⟨ab,aY,rfl,xD,ac⟩:=a5 af
   obtain⟨c0,c1,c2,c3,c4,c5,c6⟩:=bR hb xD ac hlt
   have hzb:=hb.size
   have agE:ab<wr.heap.size:=af
   have kS:=fun w'=>dD (ab:=ab) (aY:=aY) (n:=xs.length) (cap:=ca) (show (k:Int)=((k:Nat):Int) by rfl) hlt w'
   clear ac a5
   have q0:=hq _ (fO hlt)
   obtain⟨c,hc⟩:=bw (xs[k])
   rw [hc]at c0 c1 c2 c3 c4 c5 c6 q0
   have EC:=hdd hc
   have HC:=hdd (HK.out c q0 wr hb)
   clear hc
   obtain⟨Y,hY⟩:=bw (bM time c)
   have HY:=hdd hY
   rw [hY]at HC
   clear hY
   cases Y
   ·have HF:=hdd (show kC time xs=k from xp hlt HE.out (by rw [EC.out];exact HY.out))
    go_wp2_with (go_at_call 106;(with_reducible refine HC.out.mono ?_);rintro e w1 ⟨rfl,hb1⟩)
    go_ret
    exact⟨ia HF.out.symm,Below.trans' hb hb1 hzb⟩
   ·go_wp2_with (go_at_call 106;(with_reducible refine HC.out.mono ?_);rintro e w1 ⟨rfl,hb1⟩)
    go_roundg (xs.length-(k+1))
    case measure=>omega
    case rel=>exact⟨k+1,af,rfl,by go_num,hdd (by rw [mn hlt,List.all_append,HE.out,EC.out];simp [HY.out]),Below.trans' hb hb1 hzb⟩
  ·have HF:=hdd (show kC time xs = -1 from sJ (by have:=HE.out;rwa [kJ af]at this))
   go_wp2
   go_ret
   exact⟨ia HF.out.symm,hb⟩
theorem Ej {x:aA}:∀{es:List aA} {i:Nat} (_:i<es.length),(es.set i x).flatMap bj =
  ((((((((es.flatMap bj).set (i*7) (.int .i64 x.key)).set (i*7+1) (.int .i64 x.is.c)).set (i*7+2) (.int .i64 x.is.s)).set (i*7+3) (.int .i64 x.is.mi)).set (i*7+4) (.int .i64 x.is.ma)).set (i*7+5) (.int .i64 x.is.t)).set (i*7+6) (.int .i64 x.is.l))
 |[],i,hi=>by simp at hi
 |e::es,0,_=>rfl
 |e::es,i+1,hi=>by
  have ih:=Ej (x:=x) (es:=es) (i:=i) (by simpa using hi)
  simp only [List.set_cons_succ,gG]
  have e0:(bj e++es.flatMap bj).set ((i+1)*7) (.int .i64 x.key)=bj e++(es.flatMap bj).set (i*7) (.int .i64 x.key):=fH e _ i 0 _
  rw [e0,fH,fH,fH,fH,fH,fH,ih]
theorem av.place {x:aA} (h:av B w (.slice (some ⟨g,0,none⟩) n cap) es) (hn:n=es.length) (hi:i<es.length) :
  av B (((((((w.setCell ⟨g,i*7,none⟩ (.int .i64 x.key)).setCell ⟨g,i*7+1,none⟩ (.int .i64 x.is.c)).setCell ⟨g,i*7+2,none⟩ (.int .i64 x.is.s)).setCell ⟨g,i*7+3,none⟩ (.int .i64 x.is.mi)).setCell ⟨g,i*7+4,none⟩ (.int .i64 x.is.ma)).setCell ⟨g,i*7+5,none⟩ (.int .i64 x.is.t)).setCell ⟨g,i*7+6,none⟩ (.int .i64 x.is.l)) (.slice (some ⟨g,0,none⟩) n cap) (es.set i x):=by
 subst hn
 refine⟨?_⟩
 rw [Ej hi,zQ]
 exact(World.ownsRow.stored (World.ownsRow.stored (World.ownsRow.stored (World.ownsRow.stored (World.ownsRow.stored (World.ownsRow.stored (World.ownsRow.stored h.row _ _).1 _ _).1 _ _).1 _ _).1 _ _).1 _ _).1 _ _).1
theorem I9 (n:Nat):∀v∈(Builtin.zeroCells (#[.int .i64 0, .int .i64 0, .int .i64 0, .int .i64 0, .int .i64 0, .int .i64 0, .int .i64 0]:Array Value) n).toList,v.oneCell'=true:=by
 intro v hv
 simp only [Builtin.zeroCells,Array.toList_map,lI]at hv
 obtain⟨k,-,rfl⟩:=hv
 have h7:k%7<7:=Nat.mod_lt _ aW
 show ((#[.int .i64 0, .int .i64 0, .int .i64 0, .int .i64 0, .int .i64 0, .int .i64 0, .int .i64 0]:Array Value)[k%7]!).oneCell'=true
 generalize k%7=m at h7
 obtain rfl|rfl|rfl|rfl|rfl|rfl|rfl:m=0\/m=1\/m=2\/m=3\/m=4\/m=5\/m=6:=af
 all_goals rfl
theorem zw:∀(i:Nat),(es.take i).flatMap bj=(es.flatMap bj).take (i*7):=by
 induction es with
 |nil=>intro i;simp
 |cons e es ih=>
  intro i
  cases i with
  |zero=>rfl
  |succ i=>
   rw [List.take_succ_cons,gG,gG,ih,show (i+1)*7=7+i*7 from by omega]
   rw [List.take_append,kJ (show (bj e).length<=7+i*7 by rw [dg];omega),dg,show 7+i*7-7=i*7 from by omega]
theorem He {c:Nat} (h:av B w (.slice (some ⟨g,0,none⟩) es.length cap) es) (hi:i<es.length) :
  ∃w',(∀ty,(Builtin.clear_ #[63] ty #[.slice (some ⟨g,i*7,none⟩) (es.length-i) c]).run Tryd.prog w = .ok (.tuple #[]) w')/\av B w' (.slice (some ⟨g,0,none⟩) i cap) (es.take i)/\∀C W,Below C W w->C<=B->Below C W w':=by
 obtain⟨hl,⟨h1,h0⟩|⟨g',cap',cur,h1,hB,hg,h2,h3,h4,h5⟩⟩:=h.row
 ·cases h1
 ·injection h1 with e1 _ e3
  injection e1 with e1;injection e1 with e1 _
  subst e1 e3
  obtain⟨Z,hZ⟩:=bw ((Builtin.zeroCells (#[.int .i64 0, .int .i64 0, .int .i64 0, .int .i64 0, .int .i64 0, .int .i64 0, .int .i64 0]:Array Value) (es.length-i)).toList)
  have Rg:Z.length=(es.length-i)*7:=by rw [<-hZ,Array.length_toList,size_zeroCells];rfl
  have hst:=run_storeCells_at Tryd.prog g (i*7) 96 Z 0 cur w hg (by rw [Rg];omega) (by rw [<-hZ];exact I9 _)
  obtain⟨cs,hcs⟩:=bw ((List.take (i*7+0) cur.toList++Z++List.drop (i*7+0+Z.length) cur.toList).toArray)
  rw [hcs]at hst
  have hcl:cs.size=cur.size:=by rw [<-hcs];simp;omega
  have hct:cs.toList.take (i*7)=(es.take i).flatMap bj:=by
   rw [<-hcs]
   simp only [Nat.add_zero,jn]
   rw [zR (by simp;omega),kJ (by simp;omega),zw,<-h5,List.take_take,Nat.min_eq_left af]
  have hun:=Tryd.underlying63
  refine⟨w.setRow g cs,fun ty=>?_,⟨by rw [zw,fw,hl,fw];omega, .inr ⟨g,cap,cs,?_,hB,setRow_heap w g cur cs _ _ hg,by rw [fw];omega,h3,by rw [hcl];exact h4,?_⟩⟩,fun C W hb hC=>⟨hb.os,hb.tape,hb.output,?_,fun k hk=>(setRow_other w g k cs af).trans (hb.block k hk)⟩⟩
  ·have hzv:(zeroValue 96).run Tryd.prog w = .ok (.agg #[.int .i64 0, .int .i64 0, .int .i64 0, .int .i64 0, .int .i64 0, .int .i64 0, .int .i64 0]) w:=cy
   obtain⟨m,hm⟩:∃m,es.length-i=m+1:=⟨es.length-i-1,af⟩
   rw [hm]at hZ ⊢
   have hzc:(Value.agg #[.int .i64 0, .int .i64 0, .int .i64 0, .int .i64 0, .int .i64 0, .int .i64 0, .int .i64 0]).cells=#[.int .i64 0, .int .i64 0, .int .i64 0, .int .i64 0, .int .i64 0, .int .i64 0, .int .i64 0]:=rfl
   simp [Builtin.clear_,hun,hzv,hzc,hZ,hst,underlying]
  ·rw [fw,Nat.min_eq_left af]
  ·rw [fw,Nat.min_eq_left af];exact hct
  ·have hs:(w.setRow g cs).heap.size=w.heap.size:=by simp [World.setRow]
   rw [hs];exact hb.size
theorem JC (h:av B w (.slice (some ⟨g,0,none⟩) n cap) es) (hl:es.length<=100000) (hi:i<es.length) :
  ∃v0 v1 v2 v3 v4 v5 v6:Value,w.cell? ⟨g,i*7,none⟩=some v0/\w.cell? ⟨g,i*7+1,none⟩=some v1/\w.cell? ⟨g,i*7+2,none⟩=some v2/\w.cell? ⟨g,i*7+3,none⟩=some v3/\w.cell? ⟨g,i*7+4,none⟩=some v4/\w.cell? ⟨g,i*7+5,none⟩=some v5/\w.cell? ⟨g,i*7+6,none⟩=some v6/\∀o,w.frozen? ⟨g,o,none⟩=false:=by
 obtain⟨_,_,hv,-,-,-,-,h5⟩:=h.at af
 injection hv with hv1 hv2 hv3
 obtain⟨eb,bZ,lR,rW,nH⟩:=h5 af
 rw [<-hv1]at lR
 injection lR with lR;injection lR with e1 e2
 subst e1 e2
 obtain⟨c0,c1,c2,c3,c4,c5,c6⟩:=bR (aJ _ _) rW nH hi
 simp only [iM]at c0 c1 c2 c3 c4 c5 c6
 obtain⟨hrl,⟨p1,-⟩|⟨g',cap',cur',p1,-,pg,-,p3,p4,-⟩⟩:=h.row
 ·cases p1
 injection p1 with e1
 injection e1 with e1;injection e1 with e1
 subst e1
 exact⟨_,_,_,_,_,_,_,c0,c1,c2,c3,c4,c5,c6,fun o=>by simp [World.frozen?,pg]⟩
theorem tE {v:Value} (h:av B w v es) (hl:es.length<=100000) (hq:∀e∈es,0<=e.key) (ht:w.cell? ⟨tb,0,none⟩=some (.int .i64 time)) (DZ:tb<B) (hB:B<=w.heap.size) :
  Calls Tryd.prog 105 #[v,XO tb] w fun e w'=>∃v',e = .returned v'/\Below B w w'/\av B w' v' (es.filter (bM time)):=by
 obtain⟨so,sc,rfl⟩:=h.isSlice
 have CN:=hdd (BW (h.at af) hq ht af)
 rcases zB time es with ⟨hf,hfl⟩|⟨k,hk,hf,hft,hko⟩
 ·rw [hf]at CN
  have HO:=hdd (aM h hfl)
  clear h hq ht hf hfl
  go_enter Tryd.func105,Tryd.ntmps105
  go_wp2_with (go_at_call 121;(with_reducible refine CN.out.mono ?_);rintro e w1 ⟨rfl,hb1⟩)
  go_ret
  exact⟨_,rfl,hb1.mono hB,by rw [HO.out.2];exact HO.out.1.below hb1 aI⟩
 ·rw [hf]at CN
  obtain⟨hl0,⟨h1,h0⟩|⟨g,cap,cur,h1,hBg,hg,h2,h3,h4,h5⟩⟩:=h.row
  ·omega
  injection h1 with e1 _ e3
  subst e1 e3
  have Va:g<w.heap.size:=(h.lt g rfl).2
  have hnk:¬((k:Int) = -1):=af
  have hw1:IntKind.i64.wrap ((k:Int)+1)=(k:Int)+1:=IntWalk.i64_in _ af
  have HH:=hdd (aM h (aM hft hko))
  have HK:=hdd fun(e:aA) (h:0<=e.key) W (hb:Below B w W)=>Er (w:=W) h ((hb.cell (p:=⟨tb,0,none⟩) DZ).trans ht) (by have:=hb.size;omega)
  have HQ:=hdd hq
  clear h hq ht hf hft hko hl0 hg h3 h4 h5
  go_enter Tryd.func105,Tryd.ntmps105
  go_wp2_with (go_at_call 121;(with_reducible refine CN.out.mono ?_);rintro e w1 ⟨rfl,hb1⟩)
  go_loopg [5,6] (es.length-(k+1)) (fun n a c wr=>∃i j:Nat,i<j/\j<=es.length/\n=es.length-j/\a = .int .i64 i/\c = .int .i64 j/\Hid (Below B w wr/\∃es',es'.length=es.length/\av B wr (.slice (some ⟨g,0,none⟩) es.length sc) es'/\es'.take i=(es.take j).filter (bM time)/\es'.drop j=es.drop j))
  case atStart=>
   refine⟨k,k+1,af,af,rfl,rfl,by go_num,hdd ⟨hb1.mono hB,es,rfl,HH.out.1.below hb1 aI,?_,rfl⟩⟩
   rw [mn hk,sw,HH.out.2.1]
   simp [HH.out.2.2]
  case round=>
   obtain⟨i,j,hij,hj,rfl,rfl,rfl,HR⟩:=hrel
   by_cases hlt:j<es.length
   ·obtain⟨hbr,es',hlen,ho,UY,hdr⟩:=HR.out
    have hlt':j<es'.length:=af
    have hej:es'[j]=es[j]:=by
     have:=congrArg (fun l=>l[0]?) hdr
     simp only [List.getElem?_drop,Nat.add_zero]at this
     rw [oL hlt',oL hlt]at this
     exact dw this
    obtain⟨hrl,⟨p1,-⟩|⟨g',cap',cur',p1,-,pg,-,p3,p4,-⟩⟩:=ho.row
    ·cases p1
    injection p1 with e1 e2 e3
    injection e1 with e1;injection e1 with e1
    subst e1 e3
    clear e2
    have hgr:g<wr.heap.size:=(ho.lt g rfl).2
    obtain⟨_,_,hv,-,-,-,-,p5⟩:=ho.at af
    injection hv with hv1 hv2 hv3
    subst hv3
    clear hv2
    obtain⟨eb,bZ,lR,rW,nH⟩:=p5 af
    rw [<-hv1]at lR
    injection lR with lR;injection lR with e1 e2
    subst e1 e2
    obtain⟨c0,c1,c2,c3,c4,c5,c6⟩:=bR (aJ _ _) rW nH hlt'
    have q0:=HQ.out _ (fO hlt)
    have hfj:(es.take (j+1)).filter (bM time)=(es.take j).filter (bM time)++if bM time es[j]then [es[j]]else []:=by
     rw [mn hlt,sw]
     by_cases hy:bM time es[j]=true <;> simp [hy]
    rw [hej]at c0 c1 c2 c3 c4 c5 c6
    obtain⟨c,hc⟩:=bw (es[j])
    rw [hc]at c0 c1 c2 c3 c4 c5 c6 q0 hfj
    have hcj:es'.drop j=c::es.drop (j+1):=by rw [hdr,vg hlt,hc]
    have WV:es'.drop (j+1)=es.drop (j+1):=by
     have:=congrArg List.tail hcj
     simpa using this
    obtain⟨W1,hW1⟩:=bQ (wr.alloc (.cells #[.int .i64 c.key, .int .i64 c.is.c, .int .i64 c.is.s, .int .i64 c.is.mi, .int .i64 c.is.ma, .int .i64 c.is.t, .int .i64 c.is.l] 96))
    have hb2:ah wr W1:=by rw [hW1];exact ag
    have hz2:W1.heap.size=wr.heap.size+1:=by rw [hW1];simp
    have k1:W1.heap[wr.heap.size]?=some (.cells #[.int .i64 c.key, .int .i64 c.is.c, .int .i64 c.is.s, .int .i64 c.is.mi, .int .i64 c.is.ma, .int .i64 c.is.t, .int .i64 c.is.l] 96):=by rw [hW1];exact aq _ _ rfl
    have GJ:Below B w W1:=Below.trans' hbr hb2 af
    have HX:=hdd fun w' (hb:ah W1 w')=>(by
     have b0:w'.heap[wr.heap.size]?=_:=(hb.block _ af).trans k1
     simp [World.cell?,b0]:w'.cell? ⟨wr.heap.size,0,none⟩=some (.int .i64 c.key)/\w'.cell? ⟨wr.heap.size,1,none⟩=some (.int .i64 c.is.c)/\w'.cell? ⟨wr.heap.size,2,none⟩=some (.int .i64 c.is.s)/\w'.cell? ⟨wr.heap.size,3,none⟩=some (.int .i64 c.is.mi)/\w'.cell? ⟨wr.heap.size,4,none⟩=some (.int .i64 c.is.ma)/\w'.cell? ⟨wr.heap.size,5,none⟩=some (.int .i64 c.is.t)/\w'.cell? ⟨wr.heap.size,6,none⟩=some (.int .i64 c.is.l))
    have HC:=hdd (HK.out c q0 W1 GJ)
    have HO:=hdd (ho.below hb2 aI)
    have HF:=hdd (aM hfj (aM hlen (aM UY (aM hcj WV))))
    have kS:=fun w'=>dD (ab:=g) (aY:=0) (n:=es.length) (cap:=sc) (show (j:Int)=((j:Nat):Int) by rfl) hlt w'
    have JX:=fun w'=>dD (ab:=g) (aY:=0) (n:=es.length) (cap:=sc) (show (i:Int)=((i:Nat):Int) by rfl) (show i<es.length by omega) w'
    have hwi:IntKind.i64.wrap ((i:Int)+1)=(i:Int)+1:=IntWalk.i64_in _ af
    have hwj:IntKind.i64.wrap ((j:Int)+1)=(j:Int)+1:=IntWalk.i64_in _ af
    obtain⟨q1,q2,q3,q4,q5,q6,q7⟩:=HX.out W1 (aJ _ _)
    simp only [iM]at c0 c1 c2 c3 c4 c5 c6 kS JX
    clear nH p5 hv1 hej hc hfj hlen UY hcj hdr WV ho pg p4 hrl hlt'
    go_upto_region 8 with (fail)
    rw [<-hW1]
    clear hW1 k1
    obtain⟨Y,hY⟩:=bw (bM time c)
    have HY:=hdd hY
    rw [hY]at HC
    clear hY
    cases Y
    ·go_wp2_with (go_at_call 106;(with_reducible refine HC.out.mono ?_);rintro e w3 ⟨rfl,hb3⟩)
     go_roundg (es.length-(j+1))
     case measure=>omega
     case rel=>
      obtain⟨f1,f2,f3,f4,f5⟩:=HF.out
      exact⟨i,j+1,af,af,rfl,rfl,by go_num,hdd ⟨Below.trans' GJ hb3 af,es',f2,HO.out.below hb3 aI,by rw [f1,HY.out,f3];simp,f5⟩⟩
    ·go_wp2_with (go_at_call 106;(with_reducible refine HC.out.mono ?_);rintro e w3 ⟨rfl,hb3⟩;clear q1 q2 q3 q4 q5 q6 q7;obtain⟨q1,q2,q3,q4,q5,q6,q7⟩:=HX.out w3 hb3;obtain⟨v0,v1,v2,v3,v4,v5,v6,z0,z1,z2,z3,z4,z5,z6,zf⟩:=JC (HO.out.below hb3 aI) (by rw [HF.out.2.1];omega) (show i<es'.length by rw [HF.out.2.1];omega))
     go_roundg (es.length-(j+1))
     case measure=>omega
     case rel=>
      obtain⟨f1,f2,f3,f4,f5⟩:=HF.out
      have hp:=(HO.out.below hb3 aI).place (x:=c) f2.symm (show i<es'.length by omega)
      refine⟨i+1,j+1,af,af,rfl,by go_num,by go_num,hdd ⟨?_,es'.set i c,by rw [zQ];exact f2,hp,?_,?_⟩⟩
      ·have:=Below.trans' GJ hb3 af
       exact ag
      ·rw [f1,HY.out,<-f3,mn (by rw [zQ];omega),List.take_set_of_le aI];simp
      ·rw [List.drop_set_of_lt af];exact f5
   ·obtain rfl:j=es.length:=af
    obtain⟨hbr,es',hlen,ho,UY,hdr⟩:=HR.out
    rw [List.take_length]at UY
    rw [<-hlen]at ho
    obtain⟨w2,g1,g2,g3⟩:=He (c:=sc-i) ho (show i<es'.length by omega)
    rw [hlen]at g1
    rw [UY]at g2
    have N7:=hdd (aM g2 (g3 B w hbr aI))
    clear ho UY hdr hlen g2 g3
    have hne:¬(sc=i):=af
    go_wp2_with (simp only [g1])
    go_ret
    exact⟨_,rfl,N7.out.2,N7.out.1⟩
end
section
set_option maxRecDepth 100000
set_option maxHeartbeats 4000000
variable {time:Int} {w w1:World}
structure mH (w:World) (cs:Array Value) (time:Int) (w':World):Prop where
 below:ah w w'
 size:w.heap.size+3<=w'.heap.size
 box:w'.heap[w.heap.size]?=some (.cells cs 35)
 tm:w'.heap[w.heap.size+1]?=some (.cells #[.int .i64 time] 3)
 res:w'.heap[w.heap.size+2]?=some (.cells cN 35)
theorem mH.start {W0:World} {cs:Array Value} (hW0:W0=((w.alloc (.cells cs 35)).alloc (.cells #[.int .i64 time] 3)).alloc (.cells cN 35)):mH w cs time W0:=by
 refine⟨by rw [hW0];exact ag,by rw [hW0];simp,?_,?_,?_⟩
 ·rw [hW0,lJ _ _ _ (by simp;omega),lJ _ _ _ bq];exact aq _ _ rfl
 ·rw [hW0,lJ _ _ _ bq];exact aq _ _ bq
 ·rw [hW0];exact aq _ _ bq
theorem mH.later {cs:Array Value} {w2:World} {B:Nat} (h:mH w cs time w1) (hb:Below B w1 w2) (hB:w.heap.size+3<=B):mH w cs time w2:=
 ⟨⟨hb.os.trans h.below.os,hb.tape.trans h.below.tape,hb.output.trans h.below.output,gT h.below.size hb.size,fun k hk=>(hb.block k af).trans (h.below.block k hk)⟩,by have:=hb.size;have:=h.size;omega,
  (hb.block _ af).trans h.box,(hb.block _ af).trans h.tm,(hb.block _ af).trans h.res⟩
theorem mH.all {v0 v1 v2 v3 v4 v5 v6 v7:Value} (h:mH w #[v0,v1,v2,v3,v4,v5,v6,v7] time w1) :
  w1.cell? ⟨w.heap.size,0,none⟩=some v0/\w1.cell? ⟨w.heap.size,1,none⟩=some v1/\w1.cell? ⟨w.heap.size,2,none⟩=some v2/\w1.cell? ⟨w.heap.size,3,none⟩=some v3/\w1.cell? ⟨w.heap.size,4,none⟩=some v4/\w1.cell? ⟨w.heap.size,5,none⟩=some v5/\w1.cell? ⟨w.heap.size,6,none⟩=some v6/\w1.cell? ⟨w.heap.size,7,none⟩=some v7/\w1.cell? ⟨w.heap.size+1,0,none⟩=some (.int .i64 time):=by
 have h1:=h.box
 have h2:=h.tm
 simp [World.cell?,h1,h2]
theorem mH.zs {cs:Array Value} (h:mH w cs time w1) :
  w1.cell? ⟨w.heap.size+2,0,none⟩=some (.slice none 0 0)/\w1.cell? ⟨w.heap.size+2,1,none⟩=some (.slice none 0 0)/\w1.cell? ⟨w.heap.size+2,2,none⟩=some (.int .i64 0)/\w1.cell? ⟨w.heap.size+2,3,none⟩=some (.slice none 0 0)/\w1.cell? ⟨w.heap.size+2,4,none⟩=some (.int .i64 0)/\w1.cell? ⟨w.heap.size+2,5,none⟩=some (.slice none 0 0)/\w1.cell? ⟨w.heap.size+2,6,none⟩=some (.int .i64 0)/\w1.cell? ⟨w.heap.size+2,7,none⟩=some (.int .i64 0)/\∀o,w1.frozen? ⟨w.heap.size+2,o,none⟩=false:=by
 have h1:=h.res
 simp [World.cell?,World.frozen?,h1]
theorem Cl (h:0<=time) (h2:time<=1048575):time.tmod 3600=time%3600/\IntKind.i64.wrap (time%3600)=time%3600:=⟨xO h,IntWalk.i64_in _ (by have:=h2;omega)⟩
theorem uM {sa:Option Addr} {sc:Nat} {g0:Option Addr} {l0 p0:Nat} {g1:Option Addr} {l1 p1:Nat} {g2:Option Addr} {l2 p2:Nat} {b:Ba} (h:bN w (.agg (aH sa b.names.length sc g0 l0 p0 g1 l1 p1 g2 l2 p2 b)) b)
  (hst:∀s∈b.names,s.size<=140737488351232) (hsz:bS w) {E:Int} (hE:(aQ b=false/\E=7)\/(aQ b=true/\time<0/\E=2)\/(aQ b=true/\0<=time/\1048575<time/\E=2)\/(aQ b=true/\0<=time/\time<=1048575/\time%3600≠0/\E=4)\/(aQ b=true/\0<=time/\time<=1048575/\time%3600=0/\time<b.floor/\E=8)) :
  Calls Tryd.prog 85 #[.agg (aH sa b.names.length sc g0 l0 p0 g1 l1 p1 g2 l2 p2 b), .int .i64 time] w fun x w'=>ah w w'/\x = .returned (.tuple #[dH, .int .i64 E]):=by
 obtain⟨W0,hW0⟩:=bQ (((w.alloc (.cells (aH sa b.names.length sc g0 l0 p0 g1 l1 p1 g2 l2 p2 b) 35)).alloc (.cells #[.int .i64 time] 3)).alloc (.cells cN 35))
 have h0:=mH.start hW0
 have tW:=hdd h0
 have z0:=h0.size
 have iB:=hdd (fG (h.below h0.below) hst (hsz.below h0.below))
 have HE:=hdd hE
 have sy:=hdd hsz
 obtain⟨y0,y1,y2,y3,y4,y5,y6,y7,ym⟩:=h0.all
 clear h hst hsz h0 hE
 go_enter Tryd.func85,Tryd.ntmps85
 go_upto_region 1 with (fail)
 rw [<-hW0]
 clear hW0
 rcases HE.out with ⟨hm,rfl⟩|⟨hm,ht,rfl⟩|⟨hm,ht0,ht,rfl⟩|⟨hm,ht0,ht,hr,rfl⟩|⟨hm,ht0,ht,hr,hf,rfl⟩ <;> clear HE
 ·rw [cS hm]at iB
  clear hm
  go_wp2_with (go_at_call 31;(with_reducible refine iB.out.mono ?_);rintro e w1 ⟨rfl,hb1⟩;have gw:=hdd (tW.out.later hb1 z0);have z1:=gw.out.size;clear y0 y1 y2 y3 y4 y5 y6 y7 ym;obtain⟨y0,y1,y2,y3,y4,y5,y6,y7,ym⟩:=gw.out.all;obtain⟨r0,r1,r2,r3,r4,r5,r6,r7,rf⟩:=gw.out.zs;clear hb1)
  have di:=gw.out.below
  exact bodyPost_ret (v:= .tuple #[dH, .int .i64 7]) (by simp [results,Tryd.results85,go_sem, *]) rfl ⟨ag,rfl⟩
 ·rw [dW hm]at iB
  clear hm
  go_wp2_with (go_at_call 31;(with_reducible refine iB.out.mono ?_);rintro e w1 ⟨rfl,hb1⟩;have gw:=hdd (tW.out.later hb1 z0);have z1:=gw.out.size;clear y0 y1 y2 y3 y4 y5 y6 y7 ym;obtain⟨y0,y1,y2,y3,y4,y5,y6,y7,ym⟩:=gw.out.all;obtain⟨r0,r1,r2,r3,r4,r5,r6,r7,rf⟩:=gw.out.zs;clear hb1)
  have di:=gw.out.below
  exact bodyPost_ret (v:= .tuple #[dH, .int .i64 2]) (by simp [results,Tryd.results85,go_sem, *]) rfl ⟨ag,rfl⟩
 ·rw [dW hm]at iB
  have hd0:decide (time<0)=false:=by simp;omega
  have hd1:decide (1048575<time)=true:=by simp;omega
  clear hm
  go_wp2_with (go_at_call 31;(with_reducible refine iB.out.mono ?_);rintro e w1 ⟨rfl,hb1⟩;have gw:=hdd (tW.out.later hb1 z0);have z1:=gw.out.size;clear y0 y1 y2 y3 y4 y5 y6 y7 ym;obtain⟨y0,y1,y2,y3,y4,y5,y6,y7,ym⟩:=gw.out.all;obtain⟨r0,r1,r2,r3,r4,r5,r6,r7,rf⟩:=gw.out.zs;clear hb1)
  have di:=gw.out.below
  exact bodyPost_ret (v:= .tuple #[dH, .int .i64 2]) (by simp [results,Tryd.results85,go_sem, *]) rfl ⟨ag,rfl⟩
 ·rw [dW hm]at iB
  have hd0:decide (time<0)=false:=by simp;omega
  have hd1:decide (1048575<time)=false:=by simp;omega
  obtain⟨m1,m2⟩:=Cl ht0 ht
  have hd2:(time%3600 != 0)=true:=by simp [hr]
  clear hm hr
  go_wp2_with (go_at_call 31;(with_reducible refine iB.out.mono ?_);rintro e w1 ⟨rfl,hb1⟩;have gw:=hdd (tW.out.later hb1 z0);have z1:=gw.out.size;clear y0 y1 y2 y3 y4 y5 y6 y7 ym;obtain⟨y0,y1,y2,y3,y4,y5,y6,y7,ym⟩:=gw.out.all;obtain⟨r0,r1,r2,r3,r4,r5,r6,r7,rf⟩:=gw.out.zs;have hs:=sy.out.below gw.out.below;have ZP:=hs.c2;have ZO:=hs.lt;clear hs;clear hb1)
  have di:=gw.out.below
  exact bodyPost_ret (v:= .tuple #[dH, .int .i64 4]) (by simp [results,Tryd.results85,go_sem, *]) rfl ⟨ag,rfl⟩
 ·rw [dW hm]at iB
  have hd0:decide (time<0)=false:=by simp;omega
  have hd1:decide (1048575<time)=false:=by simp;omega
  obtain⟨m1,m2⟩:=Cl ht0 ht
  have hd3:decide (time<b.floor)=true:=by simp [hf]
  clear hm hf
  go_wp2_with (go_at_call 31;(with_reducible refine iB.out.mono ?_);rintro e w1 ⟨rfl,hb1⟩;have gw:=hdd (tW.out.later hb1 z0);have z1:=gw.out.size;clear y0 y1 y2 y3 y4 y5 y6 y7 ym;obtain⟨y0,y1,y2,y3,y4,y5,y6,y7,ym⟩:=gw.out.all;obtain⟨r0,r1,r2,r3,r4,r5,r6,r7,rf⟩:=gw.out.zs;have hs:=sy.out.below gw.out.below;have ZP:=hs.c2;have ZO:=hs.lt;clear hs;clear hb1)
  have di:=gw.out.below
  exact bodyPost_ret (v:= .tuple #[dH, .int .i64 8]) (by simp [results,Tryd.results85,go_sem, *]) rfl ⟨ag,rfl⟩
end
section
variable {rt:Int} {B n c:Nat} {so:Option Addr} {t':Tr} {w w':World}
structure Kp (lo ob:Nat) (w w':World):Prop where
 size:w.heap.size<=w'.heap.size
 block:∀q,lo<=q->q≠ob->q<w.heap.size->w'.heap[q]?=w.heap[q]?
theorem Kp.refl (lo ob:Nat) (w:World):Kp lo ob w w:=⟨kK _,fun _ _ _ _=>rfl⟩
theorem Kp.trans {lo ob:Nat} {w1 w2:World} (h:Kp lo ob w w1) (h':Kp lo ob w1 w2):Kp lo ob w w2:=
 ⟨gT h.size h'.size,fun q ho hq hl=>(h'.block q ho hq (mE hl h.size)).trans (h.block q ho hq hl)⟩
theorem Kp.of {lo ob:Nat} (h:Below B w w') (hB:w.heap.size<=B):Kp lo ob w w':=⟨h.size,fun q _ _ hl=>h.block q af⟩
theorem Kp.set {lo ob o:Nat} (h:Kp lo ob w w') (u:Value):Kp lo ob w (w'.setCell ⟨ob,o,none⟩ u):=
 ⟨by simp only [ay];exact h.size,fun q ho hq hl=>(heap_setCell_other _ ⟨ob,_,none⟩ q _ hq).trans (h.block q ho hq hl)⟩
theorem Kp.low {lo ob o:Nat} (h:Kp lo ob w w') (hc:c<lo) (u:Value):Kp lo ob w (w'.setCell ⟨c,o,none⟩ u):=
 ⟨by simp only [ay];exact h.size,fun q ho hq hl=>(heap_setCell_other _ ⟨c,_,none⟩ q _ (by show q≠c;omega)).trans (h.block q ho hq hl)⟩
theorem Kp.keep {lo ob:Nat} (h:Kp lo ob w w') (hB:ob<B) (hl:lo<=B):aP B w w':=⟨h.size,fun q hq hs=>h.block q af af hs⟩
noncomputable def wh (b:Ba) (time:Int) (k:Nat):List aA:=match allT (b.tree k) with|none=>[]|some m=>m.filter (bM time)
structure qi (w:World) (cs:Array Value) (b:Ba) (time:Int) (ob k:Nat) (sn:Option Addr) (sc:Nat) (g0:Option Addr) (l0 p0:Nat) (r0:Int) (g1:Option Addr) (l1 p1:Nat) (r1:Int) (g2:Option Addr) (l2 p2:Nat) (r2:Int) (T:Nat->Tr) (wr:World):Prop where
 at':mH w cs time wr
 lo:w.heap.size+3<=ob
 out:wr.heap[ob]?=some (.cells #[.slice sn b.names.length sc, .slice g0 l0 p0, .int .i64 r0, .slice g1 l1 p1, .int .i64 r1, .slice g2 l2 p2, .int .i64 r2, .int .i64 time] 35)
 names:∀w'',Kp (w.heap.size+3) ob wr w''->jM w'' (.slice sn b.names.length sc) b.names
 t0:0<k->Made (wh b time 0) (T 0)/\∀w'',Kp (w.heap.size+3) ob wr w''->bL w'' (.agg #[.slice g0 l0 p0, .int .i64 r0]) (T 0)
 t1:1<k->Made (wh b time 1) (T 1)/\∀w'',Kp (w.heap.size+3) ob wr w''->bL w'' (.agg #[.slice g1 l1 p1, .int .i64 r1]) (T 1)
 t2:2<k->Made (wh b time 2) (T 2)/\∀w'',Kp (w.heap.size+3) ob wr w''->bL w'' (.agg #[.slice g2 l2 p2, .int .i64 r2]) (T 2)
variable {w:World} {cs:Array Value} {b:Ba} {time:Int} {ob k:Nat} {sn:Option Addr} {sc:Nat} {g0:Option Addr} {l0 p0:Nat} {r0:Int} {g1:Option Addr} {l1 p1:Nat} {r1:Int} {g2:Option Addr} {l2 p2:Nat} {r2:Int} {T:Nat->Tr} {wr wx:World}
theorem qi.lt (h:qi w cs b time ob k sn sc g0 l0 p0 r0 g1 l1 p1 r1 g2 l2 p2 r2 T wr):ob<wr.heap.size:=(eW.1 h.out).1
theorem qi.later (h:qi w cs b time ob k sn sc g0 l0 p0 r0 g1 l1 p1 r1 g2 l2 p2 r2 T wr) (hb:ah wr wx):qi w cs b time ob k sn sc g0 l0 p0 r0 g1 l1 p1 r1 g2 l2 p2 r2 T wx:=by
 have hk:=Kp.of (lo:=w.heap.size+3) (ob:=ob) hb aI
 exact⟨h.at'.later hb h.at'.size,h.lo,(hb.block _ h.lt).trans h.out,fun w'' hw=>h.names w'' (hk.trans hw),fun hh=>⟨(h.t0 hh).1,fun w'' hw=>(h.t0 hh).2 w'' (hk.trans hw)⟩,fun hh=>⟨(h.t1 hh).1,fun w'' hw=>(h.t1 hh).2 w'' (hk.trans hw)⟩,fun hh=>⟨(h.t2 hh).1,fun w'' hw=>(h.t2 hh).2 w'' (hk.trans hw)⟩⟩
theorem qi.cells (h:qi w cs b time ob k sn sc g0 l0 p0 r0 g1 l1 p1 r1 g2 l2 p2 r2 T wr) :
  wr.cell? ⟨ob,0,none⟩=some (.slice sn b.names.length sc)/\wr.cell? ⟨ob,1,none⟩=some (.slice g0 l0 p0)/\wr.cell? ⟨ob,2,none⟩=some (.int .i64 r0)/\wr.cell? ⟨ob,3,none⟩=some (.slice g1 l1 p1)/\wr.cell? ⟨ob,4,none⟩=some (.int .i64 r1)/\wr.cell? ⟨ob,5,none⟩=some (.slice g2 l2 p2)/\wr.cell? ⟨ob,6,none⟩=some (.int .i64 r2)/\wr.cell? ⟨ob,7,none⟩=some (.int .i64 time)/\∀o,wr.frozen? ⟨ob,o,none⟩=false:=by
 have h1:=h.out
 simp [World.cell?,World.frozen?,h1]
theorem mH.put {o:Nat} (h:mH w cs time wx) (oN:w.heap.size+3<=ob) (u:Value):mH w cs time (wx.setCell ⟨ob,o,none⟩ u):=
 ⟨h.below.setCell (by show w.heap.size<=ob;omega) _,by simp only [ay];exact h.size,(heap_setCell_other _ ⟨ob,_,none⟩ _ _ (by show w.heap.size≠ob;omega)).trans h.box,(heap_setCell_other _ ⟨ob,_,none⟩ _ _ (by show w.heap.size+1≠ob;omega)).trans h.tm,(heap_setCell_other _ ⟨ob,_,none⟩ _ _ (by show w.heap.size+2≠ob;omega)).trans h.res⟩
theorem qi.step0 (h:qi w cs b time ob 0 sn sc g0 l0 p0 r0 g1 l1 p1 r1 g2 l2 p2 r2 T wr) (hb:ah wr wx) (hB:ob<B)
  (htr:∀w'',aP B wx w''->bL w'' (.agg #[.slice so n c, .int .i64 rt]) t') (hm:Made (wh b time 0) t') :
  qi w cs b time ob 1 sn sc so n c rt g1 l1 p1 r1 g2 l2 p2 r2 (fun j=>if j=0 then t' else T j) ((wx.setCell ⟨ob,1,none⟩ (.slice so n c)).setCell ⟨ob,2,none⟩ (.int .i64 rt)):=by
 have hx:=h.later hb
 have hk:Kp (w.heap.size+3) ob wx ((wx.setCell ⟨ob,1,none⟩ (.slice so n c)).setCell ⟨ob,2,none⟩ (.int .i64 rt)):=((Kp.refl _ _ _).set _).set _
 refine⟨(hx.at'.put h.lo _).put h.lo _,h.lo,?_,fun w'' hw=>hx.names w'' (hk.trans hw),fun _=>⟨by rw [ar rfl];exact hm,fun w'' hw=>by rw [ar rfl];exact htr w'' ((hk.trans hw).keep hB (by have:=h.lo;omega))⟩,fun hh=>absurd hh aW,fun hh=>absurd hh aW⟩
 have:=heap_setCell_same (off:=2) (v:= .int .i64 rt) (heap_setCell_same (off:=1) (v:= .slice so n c) hx.out)
 simpa using this
theorem qi.CU (h:qi w cs b time ob 1 sn sc g0 l0 p0 r0 g1 l1 p1 r1 g2 l2 p2 r2 T wr) (hb:ah wr wx) (hB:ob<B)
  (htr:∀w'',aP B wx w''->bL w'' (.agg #[.slice so n c, .int .i64 rt]) t') (hm:Made (wh b time 1) t') :
  qi w cs b time ob 2 sn sc g0 l0 p0 r0 so n c rt g2 l2 p2 r2 (fun j=>if j=1 then t' else T j) ((wx.setCell ⟨ob,3,none⟩ (.slice so n c)).setCell ⟨ob,4,none⟩ (.int .i64 rt)):=by
 have hx:=h.later hb
 have hk:Kp (w.heap.size+3) ob wx ((wx.setCell ⟨ob,3,none⟩ (.slice so n c)).setCell ⟨ob,4,none⟩ (.int .i64 rt)):=((Kp.refl _ _ _).set _).set _
 refine⟨(hx.at'.put h.lo _).put h.lo _,h.lo,?_,fun w'' hw=>hx.names w'' (hk.trans hw),fun _=>?_,fun _=>⟨by rw [ar rfl];exact hm,fun w'' hw=>by rw [ar rfl];exact htr w'' ((hk.trans hw).keep hB (by have:=h.lo;omega))⟩,fun hh=>absurd hh aW⟩
 ·have:=heap_setCell_same (off:=4) (v:= .int .i64 rt) (heap_setCell_same (off:=3) (v:= .slice so n c) hx.out)
  simpa using this
 ·rw [ai aW]
  obtain⟨q1,q2⟩:=hx.t0 aW
  exact⟨q1,fun w'' hw=>q2 w'' (hk.trans hw)⟩
theorem qi.CT (h:qi w cs b time ob 2 sn sc g0 l0 p0 r0 g1 l1 p1 r1 g2 l2 p2 r2 T wr) (hb:ah wr wx) (hB:ob<B)
  (htr:∀w'',aP B wx w''->bL w'' (.agg #[.slice so n c, .int .i64 rt]) t') (hm:Made (wh b time 2) t') :
  qi w cs b time ob 3 sn sc g0 l0 p0 r0 g1 l1 p1 r1 so n c rt (fun j=>if j=2 then t' else T j) ((wx.setCell ⟨ob,5,none⟩ (.slice so n c)).setCell ⟨ob,6,none⟩ (.int .i64 rt)):=by
 have hx:=h.later hb
 have hk:Kp (w.heap.size+3) ob wx ((wx.setCell ⟨ob,5,none⟩ (.slice so n c)).setCell ⟨ob,6,none⟩ (.int .i64 rt)):=((Kp.refl _ _ _).set _).set _
 refine⟨(hx.at'.put h.lo _).put h.lo _,h.lo,?_,fun w'' hw=>hx.names w'' (hk.trans hw),fun _=>?_,fun _=>?_,fun _=>⟨by rw [ar rfl];exact hm,fun w'' hw=>by rw [ar rfl];exact htr w'' ((hk.trans hw).keep hB (by have:=h.lo;omega))⟩⟩
 ·have:=heap_setCell_same (off:=6) (v:= .int .i64 rt) (heap_setCell_same (off:=5) (v:= .slice so n c) hx.out)
  simpa using this
 ·rw [ai aW]
  obtain⟨q1,q2⟩:=hx.t0 aW
  exact⟨q1,fun w'' hw=>q2 w'' (hk.trans hw)⟩
 ·rw [ai aW]
  obtain⟨q1,q2⟩:=hx.t1 aW
  exact⟨q1,fun w'' hw=>q2 w'' (hk.trans hw)⟩
theorem uL {l:List aA} (h:nL b time=0) (hl:bW b=some l) (k:Nat) (hk:k<3) :
  ∃m,ax (b.tree k)=0/\kH (b.tree k) 0 1099511627776=some m/\wh b time k=m.filter (bM time)/\(∀e∈m,0<=e.key)/\m.length<=50000/\(wh b time k).length<=(qZ b time).length/\iJ none (wh b time k)=0:=by
 obtain⟨m,g1,g2,g3,g4,g5⟩:=Bj h hl k hk
 have hm:wh b time k=m.filter (bM time):=by unfold wh;rw [g1]
 have hL:qZ b time=l.filter (bM time):=by unfold qZ;rw [hl]
 obtain⟨mr,mg⟩:=fI g1
 have ha:ax (b.tree k)=0/\kH (b.tree k) 0 1099511627776=some m:=by
  unfold allT at g1
  split at g1
  ·rename_i hf;exact⟨hf,g1⟩
  ·cases g1
 refine⟨m,ha.1,ha.2,hm,fun e he=>(mg.2.1 e he).1,mg.2.2,by rw [hm,hL];exact g5,?_⟩
 rw [hm]
 have hz:∀(q:List aA) (p:Option Int),aV q->Checked q->(∀e∈q,0<=e.key/\e.key<1099511627776)->(∀e∈q,∀x,p=some x->x<e.key)->iJ p q=0:=by
  intro q
  induction q with
  |nil=>intro p _ _ _ _;rfl
  |cons e q ih=>
   intro p hr hc hk hp
   have hc0:=hc e (List.mem_cons_self ..)
   have ie:=hk e (List.mem_cons_self ..)
   show (if ∃k,p=some k/\e.key<=k then(8:Int)else if e.key<0\/1099511627776<=e.key\/e.is.c=0 then 2 else if aj e.is≠0 then aj e.is else iJ (some e.key) q)=0
   rw [ai (fun⟨x,h1,h2⟩=>by have:=hp e (List.mem_cons_self ..) x h1;omega),ai (by have:=hc0.1;omega),ai (by have:=hc0.2;omega)]
   refine ih _ (List.Pairwise.of_cons hr) (fun y hy=>hc y (List.mem_cons_of_mem _ hy)) (fun y hy=>hk y (List.mem_cons_of_mem _ hy)) fun y hy x hx=>?_
   obtain rfl:=dw hx
   exact(rz.1 hr).1 y hy
 exact hz _ _ g3 g4 (fun e he=>mg.2.1 e (js.1 he).1) (fun e _ x hx=>by cases hx)
end
section
set_option maxRecDepth 100000
set_option maxHeartbeats 4000000
variable {b:Ba} {time rt:Int} {l:List aA} {B n c sc:Nat} {so:Option Addr} {w' w:World}
def Om (b:Ba) (time:Int) (B:Nat) (x:Ending) (w':World):Prop:=
 (x = .returned (.tuple #[dH, .int .i64 1])/\2900<(qZ b time).length) \/
 (∃b' sa sc g0 l0 p0 g1 l1 p1 g2 l2 p2,x = .returned (.tuple #[.agg (aH sa b'.names.length sc g0 l0 p0 g1 l1 p1 g2 l2 p2 b'), .int .i64 0])/\(∀w'',aP B w' w''->bN w'' (.agg (aH sa b'.names.length sc g0 l0 p0 g1 l1 p1 g2 l2 p2 b')) b')/\b'.names=b.names/\b'.floor=time/\aQ b'=true/\bW b'=some (qZ b time)/\∀k,k<3->nE (b'.tree k)<=3+(qZ b time).length)
theorem tj {E2:Int} (h:Cx B l w' so n c rt E2) (h0:E2≠0) (hz:iJ none l=0) (hl:l.length<=(qZ b time).length):E2=1/\so=none/\n=0/\c=0/\rt=0/\2900<(qZ b time).length:=by
 rcases h with ⟨-,h1,h2,h3,h4,h5|⟨h5,h6⟩⟩|⟨h1,-⟩
 ·exact absurd (h5.trans hz) h0
 ·exact⟨h5,h2,h1,h3,h4,af⟩
 ·exact absurd h1 h0
theorem vO (h:Cx B l w' so n c rt 0):∃t,(∀w'',aP B w' w''->bL w'' (.agg #[.slice so n c, .int .i64 rt]) t)/\Made l t:=by
 rcases h with ⟨h1,-⟩|⟨-,-,h1⟩
 ·exact absurd rfl h1
 ·exact h1
theorem JS {g0 g1 g2:Option Addr} {l0 p0 l1 p1 l2 p2:Nat} {r0 r1 r2:Int} (w:World):(Instr.index 33 (.agg #[.slice g0 l0 p0, .int .i64 r0, .slice g1 l1 p1, .int .i64 r1, .slice g2 l2 p2, .int .i64 r2]) (.int .i64 0)).run Tryd.prog w = .ok (.agg #[.slice g0 l0 p0, .int .i64 r0]) w:=cy
theorem JR {g0 g1 g2:Option Addr} {l0 p0 l1 p1 l2 p2:Nat} {r0 r1 r2:Int} (w:World):(Instr.index 33 (.agg #[.slice g0 l0 p0, .int .i64 r0, .slice g1 l1 p1, .int .i64 r1, .slice g2 l2 p2, .int .i64 r2]) (.int .i64 1)).run Tryd.prog w = .ok (.agg #[.slice g1 l1 p1, .int .i64 r1]) w:=cy
theorem JQ {g0 g1 g2:Option Addr} {l0 p0 l1 p1 l2 p2:Nat} {r0 r1 r2:Int} (w:World):(Instr.index 33 (.agg #[.slice g0 l0 p0, .int .i64 r0, .slice g1 l1 p1, .int .i64 r1, .slice g2 l2 p2, .int .i64 r2]) (.int .i64 2)).run Tryd.prog w = .ok (.agg #[.slice g2 l2 p2, .int .i64 r2]) w:=cy
theorem zC {cs:Array Value} {wx:World} {ob:Nat} {sn:Option Addr} (hA:mH w cs time wx) (ho:wx.ownsRow B 9 1 (.slice sn b.names.length sc) b.names.length (b.names.flatMap jg)) (oN:wx.heap[ob]?=some (.cells cN 35))
  (hlo:w.heap.size+3<=ob) (hBl:w.heap.size+3<=B) (hne:∀g,(Value.slice sn b.names.length sc).ownBlock=some g->g≠ob) (hnl:b.names.length<=16) (T:Nat->Tr) :
  qi w cs b time ob 0 sn sc none 0 0 0 none 0 0 0 none 0 0 0 T ((((((((wx.setCell ⟨ob,0,none⟩ (.slice sn b.names.length sc)).setCell ⟨ob,1,none⟩ (.slice none 0 0)).setCell ⟨ob,2,none⟩ (.int .i64 0)).setCell ⟨ob,3,none⟩ (.slice none 0 0)).setCell ⟨ob,4,none⟩ (.int .i64 0)).setCell ⟨ob,5,none⟩ (.slice none 0 0)).setCell ⟨ob,6,none⟩ (.int .i64 0)).setCell ⟨ob,7,none⟩ (.int .i64 time)):=by
 have hk:Kp (w.heap.size+3) ob wx ((((((((wx.setCell ⟨ob,0,none⟩ (.slice sn b.names.length sc)).setCell ⟨ob,1,none⟩ (.slice none 0 0)).setCell ⟨ob,2,none⟩ (.int .i64 0)).setCell ⟨ob,3,none⟩ (.slice none 0 0)).setCell ⟨ob,4,none⟩ (.int .i64 0)).setCell ⟨ob,5,none⟩ (.slice none 0 0)).setCell ⟨ob,6,none⟩ (.int .i64 0)).setCell ⟨ob,7,none⟩ (.int .i64 time)):=
  ((((((((Kp.refl _ _ _).set _).set _).set _).set _).set _).set _).set _).set _
 refine⟨(((((((hA.put hlo _).put hlo _).put hlo _).put hlo _).put hlo _).put hlo _).put hlo _).put hlo _,hlo,jd oN,fun w'' hw=>dN.owned kD (bX ho fun g hg=>(hk.trans hw).block g (by have:=(ho.lt g hg).1;omega) (hne g hg) (ho.lt g hg).2) rfl af,fun hh=>absurd hh aW,fun hh=>absurd hh aW,fun hh=>absurd hh aW⟩
theorem TR {sa:Option Addr} {g0:Option Addr} {l0 p0:Nat} {g1:Option Addr} {l1 p1:Nat} {g2:Option Addr} {l2 p2:Nat} (h:bN w (.agg (aH sa b.names.length sc g0 l0 p0 g1 l1 p1 g2 l2 p2 b)) b)
  (hst:∀s∈b.names,s.size<=140737488351232) (hsz:bS w) (hF:nL b time=0) :
  Calls Tryd.prog 85 #[.agg (aH sa b.names.length sc g0 l0 p0 g1 l1 p1 g2 l2 p2 b), .int .i64 time] w fun x w'=>ah w w'/\Om b time w.heap.size x w':=by
 obtain⟨W0,hW0⟩:=bQ (((w.alloc (.cells (aH sa b.names.length sc g0 l0 p0 g1 l1 p1 g2 l2 p2 b) 35)).alloc (.cells #[.int .i64 time] 3)).alloc (.cells cN 35))
 have h0:=mH.start hW0
 have tW:=hdd h0
 have z0:=h0.size
 have iB:=hdd (fG (h.below h0.below) hst (hsz.below h0.below))
 have HF:=hdd hF
 obtain⟨hm,ht0,ht,hr,hf⟩:=Cm hF
 rw [dW hm]at iB
 have hd0:decide (time<0)=false:=by simp;omega
 have hd1:decide (1048575<time)=false:=by simp;omega
 obtain⟨m1,m2⟩:=Cl ht0 ht
 have hd3:decide (time<b.floor)=false:=by simp;omega
 obtain⟨l,hl⟩:∃l,bW b=some l:=by obtain⟨l,hl,-⟩:=iW hm;exact⟨l,hl⟩
 have HL:=hdd hl
 have Qe:b.names.length<=16:=(dJ hm).n16
 have sy:=hdd hsz
 obtain⟨_,_,_,_,_,_,_,_,_,_,_,hv,hnl,jk,T0,T1,T2⟩:=h.open
 injection hv with hv
 simp only [aH,Array.mk.injEq,List.cons.injEq,Value.slice.injEq,and_true]at hv
 obtain⟨⟨rfl,-,rfl⟩,⟨rfl,rfl,rfl⟩,-,⟨rfl,rfl,rfl⟩,-,rfl,rfl,rfl⟩:=hv
 have zW:=hdd fun W (hb:ah w W)=>uR (jk.below hb aI)
 have KZ:=hdd fun W (hb:ah w W)=>iK (lo:=0) (hi:=1099511627776) (T0 W hb)
 have N1:=hdd fun W (hb:ah w W)=>iK (lo:=0) (hi:=1099511627776) (T1 W hb)
 have rD:=hdd fun W (hb:ah w W)=>iK (lo:=0) (hi:=1099511627776) (T2 W hb)
 obtain⟨y0,y1,y2,y3,y4,y5,y6,y7,ym⟩:=h0.all
 have YS:∀(fn:Fn) (first cap:Array Value) (w:World),(Instr.makeFunc fn first cap).run Tryd.prog w = .ok (.func fn first cap) w:=fun _ _ _ _=>rfl
 clear h hst hsz h0 hF hm hf hl T0 T1 T2 jk
 go_enter Tryd.func85,Tryd.ntmps85
 go_upto_region 1 with (fail)
 rw [<-hW0]
 clear hW0
 go_upto_region 10 with (go_at_call 31;(with_reducible refine iB.out.mono ?_);rintro e w1 ⟨rfl,hb1⟩;have gw:=hdd (tW.out.later hb1 z0);have z1:=gw.out.size;clear y0 y1 y2 y3 y4 y5 y6 y7 ym;obtain⟨y0,y1,y2,y3,y4,y5,y6,y7,ym⟩:=gw.out.all;obtain⟨r0,r1,r2,r3,r4,r5,r6,r7,rf⟩:=gw.out.zs;have hs:=sy.out.below gw.out.below;have ZP:=hs.c2;have ZO:=hs.lt;clear hs;clear hb1)
 clear ZP ZO hr m1 m2 hd0 hd1 hd3 r0 r1 r2 r3 r4 r5 r6 r7 rf
 go_cut [7] (fun p wx=>∃(ob:Nat) (sn:Option Addr) (sF:Nat),p = .pointer (some ⟨ob,0,none⟩)/\Hid (qi w (aH sa b.names.length sc g0 l0 p0 g1 l1 p1 g2 l2 p2 b) b time ob 0 sn sF none 0 0 0 none 0 0 0 none 0 0 0 (fun j=>b.tree j) wx))
 case first=>
  have HD:=hdd (gw.out.later (B:=w1.heap.size) (w2:=w1.drew) (Below.drew (aJ _ _)) z1)
  refine fJ (mF.of [(0,1),(1,0),(3,0)] (.fork 2 5 (mF.of [(4,1),(5,2),(6,3)] .nil) (mF.of [(2,2),(4,1),(6,3)] .nil))) 6
   (fun W=>W.cell? ⟨w.heap.size,0,none⟩=some (.slice sa b.names.length sc)/\W.cell? ⟨w.heap.size+1,0,none⟩=some (.int .i64 time)) cy cy ⟨y0,ym⟩ ?_
  simp only [mF.of]
  (repeat first|refine bP ?_|refine bO ?_)
  refine iz rfl rfl rfl rfl (fun K hK=>?_) (fun K hK=>?_)
  ·go_simp
   (with_reducible refine(zW.out w1.drew (HD.out.below)).mono ?_)
   rintro e w2 ⟨nv,rfl,hown,hb2⟩
   obtain⟨sn,sF,rfl⟩:=dI hown
   go_simp
   have hzz:w1.drew.heap.size=w1.heap.size:=rfl
   have hs2:=hb2.size
   refine hK _ _ ⟨(hb2.cell (p:=⟨w.heap.size,0,none⟩) (by show w.heap.size<_;omega)).trans y0,(hb2.cell (p:=⟨w.heap.size+1,0,none⟩) (by show w.heap.size+1<_;omega)).trans ym⟩ ?_
   clear hK K
   have Oa:=hdd hown
   have mv:=hdd hb2
   obtain⟨W3,hW3⟩:=bQ (w2.alloc (.cells cN 35))
   have hb3:ah w2 W3:=by rw [hW3];exact ag
   have k3:W3.heap[w2.heap.size]?=some (.cells cN 35):=by rw [hW3];exact aq _ _ rfl
   have Rq:=hdd ((HD.out.later hb2 af).later hb3 af)
   have wO:=hdd hb3
   have Vq:=hdd k3
   clear hown hb2 hb3
   (repeat first|refine bP ?_|refine bO ?_)
   refine bz rfl rfl (fun K hK=>?_)
   go_simp
   rw [<-hW3]
   obtain⟨c0,c1,c2,c3,c4,c5,c6,c7,cf⟩:W3.cell? ⟨w2.heap.size,0,none⟩=some (.slice none 0 0)/\W3.cell? ⟨w2.heap.size,1,none⟩=some (.slice none 0 0)/\W3.cell? ⟨w2.heap.size,2,none⟩=some (.int .i64 0)/\W3.cell? ⟨w2.heap.size,3,none⟩=some (.slice none 0 0)/\W3.cell? ⟨w2.heap.size,4,none⟩=some (.int .i64 0)/\W3.cell? ⟨w2.heap.size,5,none⟩=some (.slice none 0 0)/\W3.cell? ⟨w2.heap.size,6,none⟩=some (.int .i64 0)/\W3.cell? ⟨w2.heap.size,7,none⟩=some (.int .i64 0)/\∀o,W3.frozen? ⟨w2.heap.size,o,none⟩=false:=by simp [World.cell?,World.frozen?,k3]
   obtain⟨Jb,-,-,-,-,-,-,-,QK⟩:=Rq.out.all
   refine hK _ _ ⟨Jb,QK⟩ ?_
   clear hK K hW3 k3 Jb QK
   refine dK rfl rfl (fun K hK=>?_)
   go_simp
   refine hK _ _ ?_
   clear hK K
   refine eY ?_
   go_wp2_with fail
   go_meet
   exact⟨w2.heap.size,sn,sF,rfl,hdd (zC Rq.out (gp Oa.out wO.out) Vq.out af af (fun g hg e=>by have:=(Oa.out.lt g hg).2;omega) Qe _)⟩
  ·go_simp
   obtain⟨W2,hW2⟩:=bQ ((w1.alloc (.cells cN 35)).drew)
   have hb2:ah w1 W2:=by rw [hW2];exact ag
   have k2:W2.heap[w1.heap.size]?=some (.cells cN 35):=by rw [hW2];exact aq _ _ rfl
   have hz2:W2.heap.size=w1.heap.size+1:=by rw [hW2];simp
   have hx2:=gw.out.later hb2 z1
   have HX2:=hdd hx2
   have Oh:=hdd k2
   rw [<-hW2]
   obtain⟨Jb,-,-,-,-,-,-,-,QK⟩:=hx2.all
   refine hK _ _ ⟨Jb,QK⟩ ?_
   clear hK K hW2 k2 hx2
   refine bz rfl rfl (fun K hK=>?_)
   go_simp
   (with_reducible refine(zW.out W2 (HX2.out.below)).mono ?_)
   rintro e w3 ⟨nv,rfl,hown,hb3⟩
   obtain⟨sn,sF,rfl⟩:=dI hown
   go_simp
   have hs3:=hb3.size
   have hx3:=HX2.out.later hb3 af
   have Rq:=hdd hx3
   have k3:=(hb3.block _ af).trans Oh.out
   have Vq:=hdd k3
   have Vn:=hdd hown
   clear Jb QK
   obtain⟨Jb,-,-,-,-,-,-,-,QK⟩:=hx3.all
   obtain⟨c0,c1,c2,c3,c4,c5,c6,c7,cf⟩:w3.cell? ⟨w1.heap.size,0,none⟩=some (.slice none 0 0)/\w3.cell? ⟨w1.heap.size,1,none⟩=some (.slice none 0 0)/\w3.cell? ⟨w1.heap.size,2,none⟩=some (.int .i64 0)/\w3.cell? ⟨w1.heap.size,3,none⟩=some (.slice none 0 0)/\w3.cell? ⟨w1.heap.size,4,none⟩=some (.int .i64 0)/\w3.cell? ⟨w1.heap.size,5,none⟩=some (.slice none 0 0)/\w3.cell? ⟨w1.heap.size,6,none⟩=some (.int .i64 0)/\w3.cell? ⟨w1.heap.size,7,none⟩=some (.int .i64 0)/\∀o,w3.frozen? ⟨w1.heap.size,o,none⟩=false:=by simp [World.cell?,World.frozen?,k3]
   refine hK _ _ ⟨Jb,QK⟩ ?_
   clear hK K hown hb3 hx3 k3 Jb QK
   (repeat first|refine bP ?_|refine bO ?_)
   refine dK rfl rfl (fun K hK=>?_)
   go_simp
   refine hK _ _ ?_
   clear hK K
   refine eY ?_
   go_wp2_with fail
   go_meet
   exact⟨w1.heap.size,sn,sF,rfl,hdd (zC Rq.out Vn.out Vq.out af af (fun g hg e=>by have:=(Vn.out.lt g hg).1;omega) Qe _)⟩
 case rest=>
  obtain⟨ob,sn,sF,rfl,HA0⟩:=hcut
  have hx:=HA0.out
  obtain⟨y0,y1,y2,y3,y4,y5,y6,y7,ym⟩:=hx.at'.all
  clear hx gw tW iB zW sy
  go_upto_region 12 with (fail)
  clear y0 y1 y2 y3 y4 y5 y6 y7 ym
  go_loopg [46] 3 (fun g i wr=>∃k,k<=3/\g=3-k/\i = .int .i64 k/\Hid (∃h0 m0 n0 r0 h1 m1 n1 r1 h2 m2 n2 r2 T,qi w (aH sa b.names.length sc g0 l0 p0 g1 l1 p1 g2 l2 p2 b) b time ob k sn sF h0 m0 n0 r0 h1 m1 n1 r1 h2 m2 n2 r2 T wr))
  case atStart=>exact⟨0,af,rfl,rfl,hdd ⟨_,_,_,_,_,_,_,_,_,_,_,_,_,HA0.out⟩⟩
  case round=>
   clear HA0
   obtain⟨k,hk,rfl,rfl,HR⟩:=hrel
   obtain⟨h0,m0,n0,r0,h1,m1,n1,r1,h2,m2,n2,r2,T,hA⟩:=HR.out
   by_cases hlt:k<3
   ·obtain rfl|rfl|rfl:k=0\/k=1\/k=2:=af
    ·obtain⟨m,t1,t2,t3,t4,t5,t6,t7⟩:=uL HF.out HL.out 0 aW
     have HA:=hdd hA
     obtain⟨MU,MT,MS,MR,MQ,MP,MO,MN,WW⟩:=hA.cells
     have UW:=hA.at'.size
     have hlo:=hA.lo
     have hol:=hA.lt
     obtain⟨W1,hW1⟩:=bQ (wr.alloc (.cells #[.slice g0 l0 p0, .int .i64 b.t0.root] 32))
     have hb1:ah wr W1:=by rw [hW1];exact ag
     have k1:W1.heap[wr.heap.size]?=some (.cells #[.slice g0 l0 p0, .int .i64 b.t0.root] 32):=by rw [hW1];exact aq _ _ rfl
     have hz1:W1.heap.size=wr.heap.size+1:=by rw [hW1];simp
     have rF:=hdd (hA.later hb1)
     obtain⟨c0,c1⟩:W1.cell? ⟨wr.heap.size,0,none⟩=some (.slice g0 l0 p0)/\W1.cell? ⟨wr.heap.size,1,none⟩=some (.int .i64 b.t0.root):=by simp [World.cell?,k1]
     have fe:=hdd (KZ.out W1 rF.out.at'.below)
     have rC:=hdd (aM t1 (aM t2 (aM t3 (aM t4 (aM t5 (aM t6 t7))))))
     have hit:=@JS g0 g1 g2 l0 p0 l1 p1 l2 p2 b.t0.root b.t1.root b.t2.root
     clear hA t1 t2 t3 t4 t5 t6 t7
     go_upto_region 14 with (fail)
     rw [<-hW1]
     clear hW1 k1
     go_upto_region 15 with ((go_at_call 55;(with_reducible refine fe.out.mono ?_);rintro e w2 ⟨hb2,-,hok⟩;have hok:=hok rC.out.1;rw [show kH b.t0 0 1099511627776=some m from rC.out.2.1]at hok;obtain⟨v2,rfl,Ao⟩:=hok;obtain⟨su,sd,rfl⟩:=Ao.isSlice;have Yu:=hdd (rF.out.later hb2);have hz2:=hb2.size;have Oa:=hdd Ao;have mv:=hdd hb2;clear hb2 Ao))
     go_upto_region 18 with ((go_at_call 105;(with_reducible refine(tE (time:=time) (tb:=w.heap.size+1) Oa.out (by have:=rC.out.2.2.2.2.1;omega) rC.out.2.2.2.1 (by have h:=Yu.out.at'.tm;simp [World.cell?,h]) af hz2).mono ?_);rintro e w3 ⟨v3,rfl,hb3,kY⟩;obtain⟨sv,se,rfl⟩:=kY.isSlice))
     have hfl:(m.filter (bM time)).length<=50000:=gT (tO _ _) rC.out.2.2.2.2.1
     have N9:=hdd (mM (kY.at af))
     have wO:=hdd (mv.out.trans hb3)
     have Yt:=hdd (rF.out.later wO.out)
     have hz3:=hb3.size
     have Bw:=hdd (aM rC.out.2.2.1 (aM rC.out.2.2.2.2.2.1 rC.out.2.2.2.2.2.2))
     obtain⟨L,hL⟩:=bw (m.filter (bM time))
     rw [hL]at Bw N9 kY hfl ⊢
     clear hL kY hb3 Oa rC mv c0 c1 MU MT MS MR MQ MP MO MN WW
     go_upto_region 19 with ((go_at_call 107;(with_reducible refine N9.out.mono ?_);rintro e w4 ⟨hb4,so,n,c,rt,E2,rfl,hof⟩;have RJ:=hdd (Yt.out.later hb4);have pC:=hdd hof;have Aa:=hdd (Below.trans' hb1 (Below.trans' wO.out hb4 af) af);obtain⟨x0,x1,x2,x3,x4,x5,x6,x7,xf⟩:=RJ.out.cells;clear hb4 hof))
     clear x0 x1 x2 x3 x4 x5 x6 x7 xf
     by_cases h0:E2=0
     ·subst h0
      go_wp2_with fail
      go_roundg (3-(0+1))
      case measure=>omega
      case rel=>
       obtain⟨t',q1,q2⟩:=vO pC.out
       rw [<-Bw.out.1]at q2
       exact⟨0+1,af,rfl,by go_num,hdd ⟨_,_,_,_,_,_,_,_,_,_,_,_,_,HA.out.step0 Aa.out af q1 q2⟩⟩
     ·have d2:(E2 != 0)=true:=by simp [h0]
      obtain⟨rfl,rfl,rfl,rfl,rfl,pd⟩:=tj (b:=b) (time:=time) pC.out h0 (by rw [<-Bw.out.1];exact Bw.out.2.2) (by rw [<-Bw.out.1];exact Bw.out.2.1)
      have Od:=hdd pd
      have Rv:=hdd ((RJ.out.at'.put hlo (o:=1) (.slice none 0 0)).put hlo (o:=2) (.int .i64 0))
      obtain⟨RY,RX,RV,RU,RT,RS,RQ,RP,RO⟩:=Rv.out.zs
      clear pd h0
      generalize (w4.setCell ⟨ob,1,none⟩ (.slice none 0 0)).setCell ⟨ob,2,none⟩ (.int .i64 0)=WZ at *
      go_wp2_with fail
      have di:=Rv.out.below
      exact bodyPost_ret (v:= .tuple #[dH, .int .i64 1]) (by simp [results,Tryd.results85,go_sem, *]) rfl ⟨ag, .inl ⟨rfl,Od.out⟩⟩
    ·obtain⟨m,t1,t2,t3,t4,t5,t6,t7⟩:=uL HF.out HL.out 1 aW
     have HA:=hdd hA
     obtain⟨MU,MT,MS,MR,MQ,MP,MO,MN,WW⟩:=hA.cells
     have UW:=hA.at'.size
     have hlo:=hA.lo
     have hol:=hA.lt
     obtain⟨W1,hW1⟩:=bQ (wr.alloc (.cells #[.slice g1 l1 p1, .int .i64 b.t1.root] 32))
     have hb1:ah wr W1:=by rw [hW1];exact ag
     have k1:W1.heap[wr.heap.size]?=some (.cells #[.slice g1 l1 p1, .int .i64 b.t1.root] 32):=by rw [hW1];exact aq _ _ rfl
     have hz1:W1.heap.size=wr.heap.size+1:=by rw [hW1];simp
     have rF:=hdd (hA.later hb1)
     obtain⟨c0,c1⟩:W1.cell? ⟨wr.heap.size,0,none⟩=some (.slice g1 l1 p1)/\W1.cell? ⟨wr.heap.size,1,none⟩=some (.int .i64 b.t1.root):=by simp [World.cell?,k1]
     have fe:=hdd (N1.out W1 rF.out.at'.below)
     have rC:=hdd (aM t1 (aM t2 (aM t3 (aM t4 (aM t5 (aM t6 t7))))))
     have hit:=@JR g0 g1 g2 l0 p0 l1 p1 l2 p2 b.t0.root b.t1.root b.t2.root
     clear hA t1 t2 t3 t4 t5 t6 t7
     go_upto_region 14 with (fail)
     rw [<-hW1]
     clear hW1 k1
     go_upto_region 15 with ((go_at_call 55;(with_reducible refine fe.out.mono ?_);rintro e w2 ⟨hb2,-,hok⟩;have hok:=hok rC.out.1;rw [show kH b.t1 0 1099511627776=some m from rC.out.2.1]at hok;obtain⟨v2,rfl,Ao⟩:=hok;obtain⟨su,sd,rfl⟩:=Ao.isSlice;have Yu:=hdd (rF.out.later hb2);have hz2:=hb2.size;have Oa:=hdd Ao;have mv:=hdd hb2;clear hb2 Ao))
     go_upto_region 18 with ((go_at_call 105;(with_reducible refine(tE (time:=time) (tb:=w.heap.size+1) Oa.out (by have:=rC.out.2.2.2.2.1;omega) rC.out.2.2.2.1 (by have h:=Yu.out.at'.tm;simp [World.cell?,h]) af hz2).mono ?_);rintro e w3 ⟨v3,rfl,hb3,kY⟩;obtain⟨sv,se,rfl⟩:=kY.isSlice))
     have hfl:(m.filter (bM time)).length<=50000:=gT (tO _ _) rC.out.2.2.2.2.1
     have N9:=hdd (mM (kY.at af))
     have wO:=hdd (mv.out.trans hb3)
     have Yt:=hdd (rF.out.later wO.out)
     have hz3:=hb3.size
     have Bw:=hdd (aM rC.out.2.2.1 (aM rC.out.2.2.2.2.2.1 rC.out.2.2.2.2.2.2))
     obtain⟨L,hL⟩:=bw (m.filter (bM time))
     rw [hL]at Bw N9 kY hfl ⊢
     clear hL kY hb3 Oa rC mv c0 c1 MU MT MS MR MQ MP MO MN WW
     go_upto_region 19 with ((go_at_call 107;(with_reducible refine N9.out.mono ?_);rintro e w4 ⟨hb4,so,n,c,rt,E2,rfl,hof⟩;have RJ:=hdd (Yt.out.later hb4);have pC:=hdd hof;have Aa:=hdd (Below.trans' hb1 (Below.trans' wO.out hb4 af) af);obtain⟨x0,x1,x2,x3,x4,x5,x6,x7,xf⟩:=RJ.out.cells;clear hb4 hof))
     clear x0 x1 x2 x3 x4 x5 x6 x7 xf
     by_cases h0:E2=0
     ·subst h0
      go_wp2_with fail
      go_roundg (3-(1+1))
      case measure=>omega
      case rel=>
       obtain⟨t',q1,q2⟩:=vO pC.out
       rw [<-Bw.out.1]at q2
       exact⟨1+1,af,rfl,by go_num,hdd ⟨_,_,_,_,_,_,_,_,_,_,_,_,_,HA.out.CU Aa.out af q1 q2⟩⟩
     ·have d2:(E2 != 0)=true:=by simp [h0]
      obtain⟨rfl,rfl,rfl,rfl,rfl,pd⟩:=tj (b:=b) (time:=time) pC.out h0 (by rw [<-Bw.out.1];exact Bw.out.2.2) (by rw [<-Bw.out.1];exact Bw.out.2.1)
      have Od:=hdd pd
      have Rv:=hdd ((RJ.out.at'.put hlo (o:=3) (.slice none 0 0)).put hlo (o:=4) (.int .i64 0))
      obtain⟨RY,RX,RV,RU,RT,RS,RQ,RP,RO⟩:=Rv.out.zs
      clear pd h0
      generalize (w4.setCell ⟨ob,3,none⟩ (.slice none 0 0)).setCell ⟨ob,4,none⟩ (.int .i64 0)=WZ at *
      go_wp2_with fail
      have di:=Rv.out.below
      exact bodyPost_ret (v:= .tuple #[dH, .int .i64 1]) (by simp [results,Tryd.results85,go_sem, *]) rfl ⟨ag, .inl ⟨rfl,Od.out⟩⟩
    ·obtain⟨m,t1,t2,t3,t4,t5,t6,t7⟩:=uL HF.out HL.out 2 aW
     have HA:=hdd hA
     obtain⟨MU,MT,MS,MR,MQ,MP,MO,MN,WW⟩:=hA.cells
     have UW:=hA.at'.size
     have hlo:=hA.lo
     have hol:=hA.lt
     obtain⟨W1,hW1⟩:=bQ (wr.alloc (.cells #[.slice g2 l2 p2, .int .i64 b.t2.root] 32))
     have hb1:ah wr W1:=by rw [hW1];exact ag
     have k1:W1.heap[wr.heap.size]?=some (.cells #[.slice g2 l2 p2, .int .i64 b.t2.root] 32):=by rw [hW1];exact aq _ _ rfl
     have hz1:W1.heap.size=wr.heap.size+1:=by rw [hW1];simp
     have rF:=hdd (hA.later hb1)
     obtain⟨c0,c1⟩:W1.cell? ⟨wr.heap.size,0,none⟩=some (.slice g2 l2 p2)/\W1.cell? ⟨wr.heap.size,1,none⟩=some (.int .i64 b.t2.root):=by simp [World.cell?,k1]
     have fe:=hdd (rD.out W1 rF.out.at'.below)
     have rC:=hdd (aM t1 (aM t2 (aM t3 (aM t4 (aM t5 (aM t6 t7))))))
     have hit:=@JQ g0 g1 g2 l0 p0 l1 p1 l2 p2 b.t0.root b.t1.root b.t2.root
     clear hA t1 t2 t3 t4 t5 t6 t7
     go_upto_region 14 with (fail)
     rw [<-hW1]
     clear hW1 k1
     go_upto_region 15 with ((go_at_call 55;(with_reducible refine fe.out.mono ?_);rintro e w2 ⟨hb2,-,hok⟩;have hok:=hok rC.out.1;rw [show kH b.t2 0 1099511627776=some m from rC.out.2.1]at hok;obtain⟨v2,rfl,Ao⟩:=hok;obtain⟨su,sd,rfl⟩:=Ao.isSlice;have Yu:=hdd (rF.out.later hb2);have hz2:=hb2.size;have Oa:=hdd Ao;have mv:=hdd hb2;clear hb2 Ao))
     go_upto_region 18 with ((go_at_call 105;(with_reducible refine(tE (time:=time) (tb:=w.heap.size+1) Oa.out (by have:=rC.out.2.2.2.2.1;omega) rC.out.2.2.2.1 (by have h:=Yu.out.at'.tm;simp [World.cell?,h]) af hz2).mono ?_);rintro e w3 ⟨v3,rfl,hb3,kY⟩;obtain⟨sv,se,rfl⟩:=kY.isSlice))
     have hfl:(m.filter (bM time)).length<=50000:=gT (tO _ _) rC.out.2.2.2.2.1
     have N9:=hdd (mM (kY.at af))
     have wO:=hdd (mv.out.trans hb3)
     have Yt:=hdd (rF.out.later wO.out)
     have hz3:=hb3.size
     have Bw:=hdd (aM rC.out.2.2.1 (aM rC.out.2.2.2.2.2.1 rC.out.2.2.2.2.2.2))
     obtain⟨L,hL⟩:=bw (m.filter (bM time))
     rw [hL]at Bw N9 kY hfl ⊢
     clear hL kY hb3 Oa rC mv c0 c1 MU MT MS MR MQ MP MO MN WW
     go_upto_region 19 with ((go_at_call 107;(with_reducible refine N9.out.mono ?_);rintro e w4 ⟨hb4,so,n,c,rt,E2,rfl,hof⟩;have RJ:=hdd (Yt.out.later hb4);have pC:=hdd hof;have Aa:=hdd (Below.trans' hb1 (Below.trans' wO.out hb4 af) af);obtain⟨x0,x1,x2,x3,x4,x5,x6,x7,xf⟩:=RJ.out.cells;clear hb4 hof))
     clear x0 x1 x2 x3 x4 x5 x6 x7 xf
     by_cases h0:E2=0
     ·subst h0
      go_wp2_with fail
      go_roundg (3-(2+1))
      case measure=>omega
      case rel=>
       obtain⟨t',q1,q2⟩:=vO pC.out
       rw [<-Bw.out.1]at q2
       exact⟨2+1,af,rfl,by go_num,hdd ⟨_,_,_,_,_,_,_,_,_,_,_,_,_,HA.out.CT Aa.out af q1 q2⟩⟩
     ·have d2:(E2 != 0)=true:=by simp [h0]
      obtain⟨rfl,rfl,rfl,rfl,rfl,pd⟩:=tj (b:=b) (time:=time) pC.out h0 (by rw [<-Bw.out.1];exact Bw.out.2.2) (by rw [<-Bw.out.1];exact Bw.out.2.1)
      have Od:=hdd pd
      have Rv:=hdd ((RJ.out.at'.put hlo (o:=5) (.slice none 0 0)).put hlo (o:=6) (.int .i64 0))
      obtain⟨RY,RX,RV,RU,RT,RS,RQ,RP,RO⟩:=Rv.out.zs
      clear pd h0
      generalize (w4.setCell ⟨ob,5,none⟩ (.slice none 0 0)).setCell ⟨ob,6,none⟩ (.int .i64 0)=WZ at *
      go_wp2_with fail
      have di:=Rv.out.below
      exact bodyPost_ret (v:= .tuple #[dH, .int .i64 1]) (by simp [results,Tryd.results85,go_sem, *]) rfl ⟨ag, .inl ⟨rfl,Od.out⟩⟩
   ·obtain rfl:k=3:=af
    have HA:=hdd hA
    obtain⟨d0,d1,d2,d3,d4,d5,d6,d7,df⟩:=hA.cells
    obtain⟨RY,RX,RV,RU,RT,RS,RQ,RP,RO⟩:=hA.at'.zs
    have rt:∀{so:Option Addr} {n c:Nat} {r:Int} {t:Tr},bL wr (.agg #[.slice so n c, .int .i64 r]) t->r=t.root:=fun {so n c r t} h=>by
     obtain⟨nv,e,-⟩:=h
     have e:=congrArg (fun v=>match v with | .agg a=>a[1]?|_=>none) e
     simpa using e
    obtain⟨q0,u0⟩:=hA.t0 aW
    obtain⟨q1,u1⟩:=hA.t1 aW
    obtain⟨q2,u2⟩:=hA.t2 aW
    have e0:=rt (u0 wr (Kp.refl _ _ _))
    have e1:=rt (u1 wr (Kp.refl _ _ _))
    have e2:=rt (u2 wr (Kp.refl _ _ _))
    subst e0 e1 e2
    have nd:∀{w'':World} {so:Option Addr} {n c:Nat} {t:Tr},bL w'' (.agg #[.slice so n c, .int .i64 t.root]) t->bu w'' (.slice so n c) t.nodes:=fun {w'' so n c t} h=>by
     obtain⟨nv,e,hn⟩:=h
     have e:=congrArg (fun v=>match v with | .agg a=>a[0]?|_=>none) e
     simp at e
     rw [e];exact hn
    have HB:=hdd (show ∀w'',Kp (w.heap.size+3) ob wr w''->bN w'' (.agg (aH sn b.names.length sF h0 m0 n0 h1 m1 n1 h2 m2 n2 ⟨b.names,T 0,T 1,T 2,time⟩)) ⟨b.names,T 0,T 1,T 2,time⟩from fun w'' hk=>⟨_,_,_,_,rfl,HA.out.names w'' hk,nd (u0 w'' hk),nd (u1 w'' hk),nd (u2 w'' hk)⟩)
    have HI:=hdd (TQ (T:=T) HF.out (fun k hk m hm=>by
     have hx:wh b time k=m.filter (bM time):=by unfold wh;rw [hm]
     obtain rfl|rfl|rfl:k=0\/k=1\/k=2:=af
     ·rw [<-hx];exact q0.knows
     ·rw [<-hx];exact q1.knows
     ·rw [<-hx];exact q2.knows))
    have HW:=hdd (show ∀k,k<3->nE ((⟨b.names,T 0,T 1,T 2,time⟩:Ba).tree k)<=3+(qZ b time).length from fun k hk=>by
     obtain⟨m,-,-,-,-,-,hlen,-⟩:=uL HF.out HL.out k hk
     obtain rfl|rfl|rfl:k=0\/k=1\/k=2:=af
     ·have:=q0.2.2.2.2.2;show nE (T 0)<=_;omega
     ·have:=q1.2.2.2.2.2;show nE (T 1)<=_;omega
     ·have:=q2.2.2.2.2.2;show nE (T 2)<=_;omega)
    clear rt nd hA q0 q1 q2 u0 u1 u2
    go_wp2_with fail
    have di:=HA.out.at'.below
    refine bodyPost_ret (v:= .tuple #[.agg #[.slice sn b.names.length sF, .slice h0 m0 n0, .int .i64 (T 0).root, .slice h1 m1 n1, .int .i64 (T 1).root, .slice h2 m2 n2, .int .i64 (T 2).root, .int .i64 time], .int .i64 0]) (by simp [results,Tryd.results85,go_sem, *]) rfl ⟨ag, .inr ⟨⟨b.names,T 0,T 1,T 2,time⟩,sn,sF,h0,m0,n0,h1,m1,n1,h2,m2,n2,rfl,fun w'' hw=>HB.out _ (Kp.trans ?_ ⟨hw.size,fun q ho _ hl=>hw.block q af hl⟩),rfl,rfl,HI.out.1,HI.out.2,HW.out⟩⟩
    repeat (first|with_reducible exact Kp.refl _ _ _|with_reducible refine Kp.low ?_ af _)
end
theorem rp {v:Value} {b:Ba} {time:Int} {w:World} (h:bN w v b) (hst:∀s∈b.names,s.size<=140737488351232) (hsz:bS w) :
  Calls Tryd.prog 85 #[v, .int .i64 time] w fun x w'=>ah w w' /\
   ((nL b time≠0/\x = .returned (.tuple #[dH, .int .i64 (nL b time)]))\/(nL b time=0/\Om b time w.heap.size x w')):=by
 obtain⟨sa,sc,g0,l0,p0,g1,l1,p1,g2,l2,p2,rfl,-⟩:=h.open
 have er:∀{k:Int},nL b time=k->k≠0->Calls Tryd.prog 85 #[.agg (aH sa b.names.length sc g0 l0 p0 g1 l1 p1 g2 l2 p2 b), .int .i64 time] w (fun x w'=>ah w w'/\x = .returned (.tuple #[dH, .int .i64 k])) ->
   Calls Tryd.prog 85 #[.agg (aH sa b.names.length sc g0 l0 p0 g1 l1 p1 g2 l2 p2 b), .int .i64 time] w (fun x w'=>ah w w'/\((nL b time≠0/\x = .returned (.tuple #[dH, .int .i64 (nL b time)]))\/(nL b time=0/\Om b time w.heap.size x w'))):=fun {k} e hk hc=>by
  subst e
  exact hc.mono fun x w' ⟨h1,h2⟩=>⟨h1, .inl ⟨hk,h2⟩⟩
 by_cases hm:aQ b=true
 ·by_cases h1:time<0
  ·exact er (by unfold nL;rw [ai (by simp [hm]),ar af]) aW (uM h hst hsz (.inr (.inl ⟨hm,h1,rfl⟩)))
  ·by_cases h2:1048575<time
   ·exact er (by unfold nL;rw [ai (by simp [hm]),ar af]) aW (uM h hst hsz (.inr (.inr (.inl ⟨hm,af,h2,rfl⟩))))
   ·by_cases h3:time%3600=0
    ·by_cases h4:time<b.floor
     ·exact er (by unfold nL;rw [ai (by simp [hm]),ai af,ai af,ar h4]) aW (uM h hst hsz (.inr (.inr (.inr (.inr ⟨hm,af,af,h3,h4,rfl⟩)))))
     ·have h0:nL b time=0:=by unfold nL;rw [ai (by simp [hm]),ai af,ai af,ai h4]
      exact(TR h hst hsz h0).mono fun x w' ⟨h1,h2⟩=>⟨h1, .inr ⟨h0,h2⟩⟩
    ·exact er (by unfold nL;rw [ai (by simp [hm]),ai af,ar h3]) aW (uM h hst hsz (.inr (.inr (.inr (.inl ⟨hm,af,af,h3,rfl⟩)))))
 ·have hm:aQ b=false:=by simpa using hm
  exact er (by unfold nL;rw [ar hm]) aW (uM h hst hsz (.inl ⟨hm,rfl⟩))
end Go.Proofs.YtmljjfhgciaceaaDoor
