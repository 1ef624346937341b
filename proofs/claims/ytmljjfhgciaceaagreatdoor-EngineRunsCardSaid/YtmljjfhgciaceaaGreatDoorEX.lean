/- Lemmas of the proof. -/
import Derived.Test.YtmljjfhgciaceaaGreatDoorHd
import Derived.Test.YtmljjfhgciaceaaGreatDoorAQ
import Derived.Test.YtmljjfhgciaceaaGreatDoorCz
import Derived.Test.YtmljjfhgciaceaaGreatDoorMerged
import Derived.Test.YtmljjfhgciaceaaGreatDoorIG
import Derived.Test.YtmljjfhgciaceaaGreatDoorSP
import Derived.Test.YtmljjfhgciaceaaGreatDoorKG
import Derived.Test.YtmljjfhgciaceaaGreatDoorPG
import Derived.Test.YtmljjfhgciaceaaGreatDoorBK
import Derived.Test.YtmljjfhgciaceaaGreatDoorPC
import Derived.Test.YtmljjfhgciaceaaGreatDoorOG
import Derived.Test.YtmljjfhgciaceaaGreatDoorSO
set_option maxRecDepth 100000
set_option maxHeartbeats 4000000
namespace Go.Proofs.YtmljjfhgciaceaaGreatDoor
open Go.RowKit
section
variable {b:Ba} {time:Int}
noncomputable def kU (b:Ba) (time:Int):Int:=
 if aS b=false then 7 else if ¬(0<=time/\time<=1048575)then 2 else if time%3600≠0 then 4 else if time<b.floor then 8 else 0
def bX (time:Int) (e:aH):Bool:=decide (time<=e.key%1048576)
noncomputable def sj (b:Ba) (time:Int):List aH:=match cx b with|none=>[]|some l=>l.filter (bX time)
theorem Ge (h:kU b time=0):aS b=true/\0<=time/\time<=1048575/\time%3600=0/\b.floor<=time:=by
 unfold kU at h
 split at h
 ·omega
 rename_i h1
 split at h
 ·omega
 rename_i h2
 split at h
 ·omega
 rename_i h3
 split at h
 ·omega
 exact⟨by simpa using h1,ai,ai,by simpa using h3,ai⟩
theorem My {s:Int} (hs:0<s) (e:aH):(bucket s e).key%1048576=e.key%1048576-e.key%1048576%s:=by
 show (e.key-e.key%1048576%s)%1048576=_;have h1:=Int.emod_nonneg (e.key%1048576) (show s≠0 by omega);have h2:=mod_le (m:=e.key%1048576) (s:=s) ai hs;generalize e.key%1048576%s=x at h1 h2 ⊢;omega
theorem Fp (k:Nat) (h3:time%3600=0) (_h0:0<=time) (e:aH) (_he:0<=e.key):bX time (bucket (bp k) e)=bX time e:=by
 unfold bX;rw [decide_eq_decide,My (eB k)];have hm:0<=e.key%1048576:=ai;generalize e.key%1048576=t at hm ⊢;unfold bp;by_cases hk:k=0
 ·rw [aw hk];omega
 ·rw [ar hk];by_cases hk1:k=1
  ·rw [aw hk1];omega
  ·rw [ar hk1];omega
theorem E8 {l:List aH} (h:kU b time=0) (hl:cx b=some l) (k:Nat) (hk:k<3) :
  ∃m,allT (b.tree k)=some m/\bw (l.filter (bX time)) (bp k)=some (m.filter (bX time))/\aY (m.filter (bX time))/\Checked (m.filter (bX time))/\(m.filter (bX time)).length<=(l.filter (bX time)).length:=by
 obtain⟨hm,h0,h1,h3,hf⟩:=Ge h;obtain⟨l',hl',hr,hg,ht⟩:=fJ hm;obtain rfl:l'=l:=dh (hl'.symm.trans hl);obtain⟨m,g1,g2⟩:=ht k hk;have hc:=ia (bp k) hg.1;unfold bw at g1;have e1:=uN hc g1 fun q=>decide (time<=q%1048576);have e2:(l'.map (bucket (bp k))).filter (fun e=>decide (time<=e.key%1048576))=(l'.filter (bX time)).map (bucket (bp k)):=by
  rw [List.filter_map]
  congr 1
  exact List.filter_congr fun e he=>Fp k h3 h0 e (hg.2.1 e he).1
 rw [e2]at e1;have hmf:m.filter (fun e=>decide (time<=e.key%1048576))=m.filter (bX time):=rfl;rw [hmf]at e1;obtain⟨mr,mg⟩:=fg g2;refine⟨m,g2,e1,mr.filter _,fun e he=>mg.1 e (nt.1 he).1,?_⟩;have hc2:Checked ((l'.filter (bX time)).map (bucket (bp k))):=ia _ fun e he=>hg.1 e (nt.1 he).1;obtain⟨-,-,-,h4,-⟩:=fL hc2 e1
 rwa [oX]at h4
theorem Y8 {T:Nat->Tr} (h:kU b time=0) (hT:∀k,k<3->∀m,allT (b.tree k)=some m->allT (T k)=some (m.filter (bX time))) :
  aS ⟨b.names,T 0,T 1,T 2,time⟩=true/\cx ⟨b.names,T 0,T 1,T 2,time⟩=some (sj b time):=by
 obtain⟨hm,h0,h1,h3,hf⟩:=Ge h;obtain⟨l,hl,hr,hg,ht⟩:=fJ hm;have hB:=dJ hm;obtain⟨RJ,hl2⟩:=lM hl;have hL:sj b time=l.filter (bX time):=by unfold sj;rw [hl]
 have ha0:allT (T 0)=some (sj b time):=by rw [hL];exact hT 0 bY l RJ
 have yF:cx ⟨b.names,T 0,T 1,T 2,time⟩=some (sj b time):=by
  refine vV ha0 (rH.2 fun e he=>?_);rw [hL]at he;obtain⟨h4,h5⟩:=nt.1 he;have h6:=rH.1 hl2 e h4;unfold iu at h6 ⊢;unfold bX at h5;simp only [Bool.and_eq_true,Du]at h5 h6 ⊢;exact⟨⟨h6.1.1,h5⟩,h6.2⟩
 refine⟨lZ ⟨hB.n16,h0,h1,h3,fun i=>hB.names i,_,yF,fun k hk=>?_⟩,yF⟩;have hk3:k=0\/k=1\/k=2:=ai;obtain⟨m,g1,g2,-⟩:=E8 h hl k hk;have g3:=hT k hk m g1;unfold kK;rw [hL,g2];rcases hk3 with rfl|rfl|rfl
 ·show (match some _,allT (T 0) with|some a,some c=>decide (a=c)|_,_=>false)=true;rw [g3];simp
 ·show (match some _,allT (T 1) with|some a,some c=>decide (a=c)|_,_=>false)=true;rw [g3];simp
 ·show (match some _,allT (T 2) with|some a,some c=>decide (a=c)|_,_=>false)=true;rw [g3];simp
end
section
variable {time:Int} {l es:List aH} {tb B g cap n i:Nat} {w:World}
abbrev ad1 (tb:Nat):Value:= .func (.func 78) #[] #[.pointer (some (tb,0))]
theorem N8 (e:aH):decide (e.key%1048576<time) = !bX time e:=by
 unfold bX;by_cases h:time<=e.key%1048576
 ·simp [h]
 ·simp [h];omega
theorem Ju {e:aH} (hk:0<=e.key) (ht:w.cell? (tb,0)=some (af time)) (IY:tb<w) :
  Calls Tryz.prog 78 #[.agg #[af e.key,af e.is.c,af e.is.s,af e.is.mi,af e.is.ma,af e.is.t,af e.is.l], .pointer (some (tb,0))] w fun r w'=>r = .returned (.bool (!bX time e))/\aq w w':=by
 obtain⟨M,hM⟩:=bG (e.key%1048576);have m1:e.key.tmod 1048576=M:=by rw [tJ hk];exact hM
 have m4:IntKind.i64.wrap M=M:=bI _ ai;have HY:=ag (show decide (M<time) = !bX time e by rw [<-hM];exact N8 e);clear hM;go_enter Tryz.func78,Tryz.ntmps78;go_wp2;go_ret;exact⟨by simp;exact HY,aj⟩
def mR (time:Int) (l:List aH):Int:=if l.all (bX time)then -1 else(l.findIdx (fun c=>!bX time c):Nat)
theorem wL (h:l.all (bX time)=true):mR time l = -1:=by simp [mR,h]
theorem Az {k:Nat} (hk:k<l) (ha:(l.take k).all (bX time)=true) (hb:bX time l[k]=false):mR time l=k:=by
 have hn:l.all (bX time)=false:=by
  rw [Bool.eq_false_iff];intro h;have:=rH.1 h l[k] (eZ hk);rw [hb]at this;cases this
 have:l.findIdx (fun c=>!bX time c)=k:=by
  rw [List.findIdx_eq hk];refine⟨by simp [hb],fun j hj=>?_⟩;have:=rH.1 ha l[j] (by rw [List.mem_take_iff_getElem];exact⟨j,ai,rfl⟩);simp [this]
 simp [mR,hn,this]
theorem C3 (time:Int) (l:List aH):(mR time l = -1/\l.filter (bX time)=l)\/∃k:Nat,∃hk:k<l,mR time l=k/\(l.take k).filter (bX time)=l.take k/\bX time l[k]=false:=by
 cases h:l.all (bX time)
 ·have h0:∃x∈l,(!bX time x)=true:=by
   simp only [List.all_eq_false]at h;obtain⟨x,hx,h2⟩:=h;exact⟨x,hx,by simpa using h2⟩
  have hk:l.findIdx (fun c=>!bX time c)<l:=List.findIdx_lt_length_of_exists h0;have ha:(l.take (l.findIdx (fun c=>!bX time c))).all (bX time)=true:=by
   refine rH.2 fun x hx=>?_;obtain⟨j,hj,rfl⟩:=List.mem_take_iff_getElem.1 hx;have:=List.not_of_lt_findIdx (p:=fun c=>!bX time c) (xs:=l) (i:=j) ai;simpa using this
  have hb:bX time (l[l.findIdx (fun c=>!bX time c)])=false:=by
   have:=List.findIdx_getElem (p:=fun c=>!bX time c) (xs:=l) (w:=hk);simpa using this
  exact .inr ⟨_,hk,Az hk ha hb,List.filter_eq_self.2 fun x hx=>rH.1 ha x hx,hb⟩
 ·exact .inl ⟨wL h,List.filter_eq_self.2 fun x hx=>rH.1 h x hx⟩
theorem FR {v:Value} {xs:List aH} (ha:cX w v xs) (hq:∀e∈xs,0<=e.key) (ht:w.cell? (tb,0)=some (af time)) (IY:tb<w) :
  Calls Tryz.prog 112 #[v,ad1 tb] w fun e w'=>e = .returned (af (mR time xs))/\aq w w':=by
 have hxl:=ha.len bY;obtain⟨ao,ca,rfl,a1,a2,a3,a4,a5⟩:=ha;have HK:=ag fun(e:aH) (h:0<=e.key) W (hb:aq w W)=>Ju (w:=W) h ((hb.cell (p:=(tb,0)) IY).trans ht) (oI IY hb.size);clear ht IY;go_enter Tryz.func112,Tryz.ntmps112;go_wp2_with fail
 go_loopg [5,8] xs (fun g _ i wr=>∃k:Nat,k<=xs/\g=xs-k/\i=af k/\Hid ((xs.take k).all (bX time)=true)/\aq w wr)
 case atStart=>exact⟨0,eY _,rfl,rfl,ag bh,aW _ _⟩
 case round=>
  obtain⟨k,hk,rfl,rfl,HE,hb⟩:=hrel;by_cases hlt:k<xs
  ·obtain⟨ab,aR,rfl,qy,ac⟩:=a5 ai;obtain⟨c0,c1,c2,c3,c4,c5,c6⟩:=br hb qy ac hlt;have hzb:=hb.size;have amG:ab<wr:=ai;have jA:=fun w'=>cN (ab:=ab) (aR:=aR) (n:=xs.length) (cap:=ca) (show (k:Int)=((k:Nat):Int) by rfl) hlt w';clear ac a5;have q0:=hq _ (eZ hlt);obtain⟨c,hc⟩:=bG (xs[k]);rw [hc]at c0 c1 c2 c3 c4 c5 c6 q0;have EC:=ag hc;have HC:=ag (HK c q0 wr hb);clear hc;obtain⟨Y,hY⟩:=bG (bX time c);have HY:=ag hY;rw [hY]at HC;clear hY
   cases Y
   ·have HF:=ag (show mR time xs=k from Az hlt HE.out (by rw [EC];exact HY));go_wp2_with (go_at_call 78;(with_reducible refine HC.out.mono ?_);rintro e w1 ⟨rfl,hb1⟩);go_ret;exact⟨ij HF.symm,aF hb hb1 hzb⟩
   ·go_wp2_with (go_at_call 78;(with_reducible refine HC.out.mono ?_);rintro e w1 ⟨rfl,hb1⟩);go_roundg (xs-(k+1))
    case measure=>omega
    case rel=>exact⟨k+1,ai,rfl,by go_num,ag (by rw [ja hlt,List.all_append,HE.out,EC];simp [HY.out]),aF hb hb1 hzb⟩
  ·have HF:=ag (show mR time xs = -1 from wL (by have:=HE.out;rwa [iM ai]at this));go_wp2;go_ret;exact⟨ij HF.symm,hb⟩
theorem Jl {x:aH}:∀{es:List aH} {i:Nat} (_:i<es),(es.set i x).flatMap bu =
  ((((((((es.flatMap bu).set (i*7) (af x.key)).set (i*7+1) (af x.is.c)).set (i*7+2) (af x.is.s)).set (i*7+3) (af x.is.mi)).set (i*7+4) (af x.is.ma)).set (i*7+5) (af x.is.t)).set (i*7+6) (af x.is.l))
 |[],i,hi=>by simp at hi
 |e::es,0,_=>rfl
 |e::es,i+1,hi=>by
  have ih:=Jl (x:=x) (es:=es) (i:=i) (by simpa using hi);simp only [List.set_cons_succ,fO];have e0:(bu e++es.flatMap bu).set ((i+1)*7) (af x.key)=bu e++(es.flatMap bu).set (i*7) (af x.key):=gT e _ i 0 _;rw [e0,gT,gT,gT,gT,gT,gT,ih]
theorem ay.place {x:aH} (h:ay B w (ah g n cap) es) (hn:n=es) (hi:i<es) :
  ay B (((((((w.setCell (g,i*7) (af x.key)).setCell (g,i*7+1) (af x.is.c)).setCell (g,i*7+2) (af x.is.s)).setCell (g,i*7+3) (af x.is.mi)).setCell (g,i*7+4) (af x.is.ma)).setCell (g,i*7+5) (af x.is.t)).setCell (g,i*7+6) (af x.is.l)) (ah g n cap) (es.set i x):=by
 subst hn;refine⟨?_⟩;rw [Jl hi,xx];exact(yV (yV (yV (yV (yV (yV (yV h.row _ _).1 _ _).1 _ _).1 _ _).1 _ _).1 _ _).1 _ _).1
theorem N7 (n:Nat):∀v∈(Builtin.zeroCells (#[af 0,af 0,af 0,af 0,af 0,af 0,af 0]:Array Value) n).toList,v.oneCell'=true:=by
 intro v hv;simp only [Builtin.zeroCells,Array.toList_map,ua]at hv;obtain⟨k,-,rfl⟩:=hv;have h7:k%7<7:=Nat.mod_lt _ bY;show ((#[af 0,af 0,af 0,af 0,af 0,af 0,af 0]:Array Value)[k%7]!).oneCell'=true;generalize k%7=m at h7;obtain rfl|rfl|rfl|rfl|rfl|rfl|rfl:m=0\/m=1\/m=2\/m=3\/m=4\/m=5\/m=6:=ai
 all_goals rfl
theorem CY:∀(i:Nat),(es.take i).flatMap bu=(es.flatMap bu).take (i*7):=by
 induction es with
 |nil=>intro i;simp
 |cons e es ih=>
  intro i
  cases i with
  |zero=>rfl
  |succ i=>
   rw [List.take_succ_cons,fO,fO,ih,show (i+1)*7=7+i*7 from by omega];rw [List.take_append,iM (show (bu e).length<=7+i*7 by rw [cO];omega),cO,show 7+i*7-7=i*7 from by omega]
theorem Ms {c:Nat} (h:ay B w (ah g es cap) es) (hi:i<es) :
  ∃w',(∀ty,(Builtin.clear_ #[35] ty #[ah (some (g,i*7)) (es-i) c]).run Tryz.prog w = .ok (.tuple #[]) w')/\ay B w' (ah g i cap) (es.take i)/\∀C W,Below C W w->C<=B->Below C W w':=by
 obtain⟨hl,⟨h1,h0⟩|⟨g',cap',cur,h1,hB,hg,h2,h3,h4,h5⟩⟩:=h.row
 ·cases h1
 ·injection h1 with e1 _ e3;injection e1 with e1;injection e1 with e1 _;subst e1 e3;obtain⟨Z,hZ⟩:=bG ((Builtin.zeroCells (#[af 0,af 0,af 0,af 0,af 0,af 0,af 0]:Array Value) (es-i)).toList);have WR:Z=(es.length-i)*7:=by rw [<-hZ,Array.length_toList,size_zeroCells];rfl
  have hst:=run_storeCells_at Tryz.prog g (i*7) 107 Z 0 cur w hg (by rw [WR];omega) (by rw [<-hZ];exact N7 _);obtain⟨cs,hcs⟩:=bG ((List.take (i*7+0) cur.toList++Z++List.drop (i*7+0+Z) cur.toList).toArray);rw [hcs]at hst;have hcl:cs.size=cur.size:=by rw [<-hcs];simp;omega
  have hct:cs.toList.take (i*7)=(es.take i).flatMap bu:=by
   rw [<-hcs];simp only [Nat.add_zero,iT];rw [Dv fk,iM fk,CY,<-h5,List.take_take,Nat.min_eq_left ai]
  have hun:=Tryz.underlying35;refine⟨w.setRow g cs,fun ty=>?_,⟨by rw [CY,gh,hl,gh];omega, .inr ⟨g,cap,cs,?_,hB,setRow_heap w g cur cs _ _ hg,by rw [gh];omega,h3,by rw [hcl];exact h4,?_⟩⟩,fun C W hb hC=>⟨hb.os,hb.tape,hb.output,?_,fun k hk=>(setRow_other w g k cs ai).trans (hb.block k hk)⟩⟩
  ·have hzv:(zeroValue 107).run Tryz.prog w = .ok (.agg #[af 0,af 0,af 0,af 0,af 0,af 0,af 0]) w:=cV;obtain⟨m,hm⟩:∃m,es-i=m+1:=⟨es.length-i-1,ai⟩;rw [hm]at hZ ⊢;have hzc:(Value.agg #[af 0,af 0,af 0,af 0,af 0,af 0,af 0]).cells=#[af 0,af 0,af 0,af 0,af 0,af 0,af 0]:=rfl;simp [Builtin.clear_,hun,hzv,hzc,hZ,hst,underlying]
  ·rw [gh,Nat.min_eq_left ai]
  ·rw [gh,Nat.min_eq_left ai];exact hct
  ·have hs:(w.setRow g cs).heap.size=w:=by simp [World.setRow]
   rw [hs];exact hb.size
theorem OC (h:ay B w (ah g n cap) es) (hl:es.length<=100000) (hi:i<es) :
  ∃v0 v1 v2 v3 v4 v5 v6:Value,w.cell? (g,i*7)=some v0/\w.cell? (g,i*7+1)=some v1/\w.cell? (g,i*7+2)=some v2/\w.cell? (g,i*7+3)=some v3/\w.cell? (g,i*7+4)=some v4/\w.cell? (g,i*7+5)=some v5/\w.cell? (g,i*7+6)=some v6/\∀o,w.frozen? ⟨g,o,none⟩=false:=by
 obtain⟨_,_,hv,-,-,-,-,h5⟩:=h.at ai;injection hv with hv1 hv2 hv3;obtain⟨eb,cM,ll,pq,jF⟩:=h5 ai;rw [<-hv1]at ll;injection ll with ll;injection ll with e1 e2;subst e1 e2;obtain⟨c0,c1,c2,c3,c4,c5,c6⟩:=br (aW _ _) pq jF hi;simp only [iR]at c0 c1 c2 c3 c4 c5 c6;obtain⟨hrl,⟨p1,-⟩|⟨g',cap',cur',p1,-,pg,-,p3,p4,-⟩⟩:=h.row
 ·cases p1
 injection p1 with e1;injection e1 with e1;injection e1 with e1;subst e1;exact⟨_,_,_,_,_,_,_,c0,c1,c2,c3,c4,c5,c6,fun o=>by simp [World.frozen?,pg]⟩
theorem Mn {v:Value} (h:ay B w v es) (hl:es.length<=100000) (hq:∀e∈es,0<=e.key) (ht:w.cell? (tb,0)=some (af time)) (IY:tb<B) (hB:B<=w) :
  Calls Tryz.prog 77 #[v,ad1 tb] w fun e w'=>∃v',e = .returned v'/\Below B w w'/\ay B w' v' (es.filter (bX time)):=by
 obtain⟨so,sc,rfl⟩:=h.isSlice;have DC:=ag (FR (h.at ai) hq ht ai);rcases C3 time es with ⟨hf,hfl⟩|⟨k,hk,hf,hft,hko⟩
 ·rw [hf]at DC;have HO:=ag (aJ h hfl);clear h hq ht hf hfl;go_enter Tryz.func77,Tryz.ntmps77;go_wp2_with (go_at_call 112;(with_reducible refine DC.out.mono ?_);rintro e w1 ⟨rfl,hb1⟩);go_ret;exact⟨_,rfl,hb1.mono hB,by rw [HO.2];exact HO.1.below hb1 aO⟩
 ·rw [hf]at DC;obtain⟨hl0,⟨h1,h0⟩|⟨g,cap,cur,h1,hBg,hg,h2,h3,h4,h5⟩⟩:=h.row
  ·omega
  injection h1 with e1 _ e3;subst e1 e3;have hgz:g<w:=(h.lt g rfl).2;have hnk:¬((k:Int) = -1):=ai;have hw1:IntKind.i64.wrap ((k:Int)+1)=(k:Int)+1:=bI _ ai;have HH:=ag (aJ h (aJ hft hko));have HK:=ag fun(e:aH) (h:0<=e.key) W (hb:Below B w W)=>Ju (w:=W) h ((hb.cell (p:=(tb,0)) IY).trans ht) (by have:=hb.size;omega);have HQ:=ag hq;clear h hq ht hf hft hko hl0 hg h3 h4 h5;go_enter Tryz.func77,Tryz.ntmps77;go_wp2_with (go_at_call 112;(with_reducible refine DC.out.mono ?_);rintro e w1 ⟨rfl,hb1⟩)
  go_loopg [5,6] (es.length-(k+1)) (fun n a c wr=>∃i j:Nat,i<j/\j<=es.length/\n=es.length-j/\a = .int .i64 i/\c = .int .i64 j/\Hid (Below B w wr/\∃es',es'.length=es.length/\ay B wr (.slice (some ⟨g,0,none⟩) es.length sc) es'/\es'.take i=(es.take j).filter (bX time)/\es'.drop j=es.drop j))
  case atStart=>
   refine⟨k,k+1,ai,ai,rfl,rfl,by go_num,ag ⟨hb1.mono hB,es,rfl,HH.1.below hb1 aO,?_,rfl⟩⟩;rw [ja hk,qH,HH.2.1];simp [HH.out.2.2]
  case round=>
   obtain⟨i,j,hij,hj,rfl,rfl,rfl,HR⟩:=hrel;by_cases hlt:j<es
   ·obtain⟨hbr,es',hlen,ho,hta,hdr⟩:=HR.out;have hlt':j<es'.length:=ai;have hej:es'[j]=es[j]:=by
     have:=congrArg (fun l=>l[0]?) hdr;simp only [List.getElem?_drop,Nat.add_zero]at this;rw [oZ hlt',oZ hlt]at this;exact dh this
    obtain⟨hrl,⟨p1,-⟩|⟨g',cap',cur',p1,-,pg,-,p3,p4,-⟩⟩:=ho.row
    ·cases p1
    injection p1 with e1 e2 e3;injection e1 with e1;injection e1 with e1;subst e1 e3;clear e2;have hgr:g<wr:=(ho.lt g rfl).2;obtain⟨_,_,hv,-,-,-,-,p5⟩:=ho.at ai;injection hv with hv1 hv2 hv3;subst hv3;clear hv2;obtain⟨eb,cM,ll,pq,jF⟩:=p5 ai;rw [<-hv1]at ll;injection ll with ll;injection ll with e1 e2;subst e1 e2;obtain⟨c0,c1,c2,c3,c4,c5,c6⟩:=br (aW _ _) pq jF hlt';have q0:=HQ _ (eZ hlt);have TF:(es.take (j+1)).filter (bX time)=(es.take j).filter (bX time)++if bX time es[j]then [es[j]]else []:=by
     rw [ja hlt,qH];by_cases hy:bX time es[j]=true <;> simp [hy]
    rw [hej]at c0 c1 c2 c3 c4 c5 c6;obtain⟨c,hc⟩:=bG (es[j]);rw [hc]at c0 c1 c2 c3 c4 c5 c6 q0 TF;have hcj:es'.drop j=c::es.drop (j+1):=(by rw [hdr,qI hlt,hc]);have acb:es'.drop (j+1)=es.drop (j+1):=by
     have:=congrArg List.tail hcj;simpa using this
    obtain⟨W1,hW1⟩:=cd (wr.alloc (.cells #[af c.key,af c.is.c,af c.is.s,af c.is.mi,af c.is.ma,af c.is.t,af c.is.l] 107));have hb2:aq wr W1:=(by rw [hW1];exact aj);have hz2:W1=wr.heap.size+1:=(by rw [hW1];simp);have k1:W1.heap[wr.heap.size]?=some (.cells #[af c.key,af c.is.c,af c.is.s,af c.is.mi,af c.is.ma,af c.is.t,af c.is.l] 107):=(by rw [hW1];exact au _ _ rfl);have YK:Below B w W1:=aF hbr hb2 ai;have HX:=ag fun w' (hb:aq W1 w')=>(by
     have b0:w'.heap[wr.heap.size]?=_:=(hb.block _ ai).trans k1;simp [World.cell?,b0]:(w',wr.heap.size,0,c.key)/\(w',wr.heap.size,1,c.is.c)/\(w',wr.heap.size,2,c.is.s)/\(w',wr.heap.size,3,c.is.mi)/\(w',wr.heap.size,4,c.is.ma)/\(w',wr.heap.size,5,c.is.t)/\(w',wr.heap.size,6,c.is.l))
    have HC:=ag (HK c q0 W1 YK);have HO:=ag (ho.below hb2 aO);have HF:=ag (aJ TF (aJ hlen (aJ hta (aJ hcj acb))));have jA:=fun w'=>cN (ab:=g) (aR:=0) (n:=es.length) (cap:=sc) (show (j:Int)=((j:Nat):Int) by rfl) hlt w';have I7:=fun w'=>cN (ab:=g) (aR:=0) (n:=es.length) (cap:=sc) (show (i:Int)=((i:Nat):Int) by rfl) (show i<es by omega) w';have hwi:IntKind.i64.wrap ((i:Int)+1)=(i:Int)+1:=bI _ ai;have hwj:IntKind.i64.wrap ((j:Int)+1)=(j:Int)+1:=bI _ ai;obtain⟨q1,q2,q3,q4,q5,q6,q7⟩:=HX W1 (aW _ _);simp only [iR]at c0 c1 c2 c3 c4 c5 c6 jA I7;clear jF p5 hv1 hej hc TF hlen hta hcj hdr acb ho pg p4 hrl hlt';go_upto_region 8 with (fail);rw [<-hW1];clear hW1 k1;obtain⟨Y,hY⟩:=bG (bX time c);have HY:=ag hY;rw [hY]at HC;clear hY
    cases Y
    ·go_wp2_with (go_at_call 78;(with_reducible refine HC.out.mono ?_);rintro e w3 ⟨rfl,hb3⟩);go_roundg (es-(j+1))
     case measure=>omega
     case rel=>
      obtain⟨f1,f2,f3,f4,f5⟩:=HF.out;exact⟨i,j+1,ai,ai,rfl,rfl,by go_num,ag ⟨aF YK hb3 ai,es',f2,HO.below hb3 aO,by rw [f1,HY,f3];simp,f5⟩⟩
    ·go_wp2_with (go_at_call 78;(with_reducible refine HC.out.mono ?_);rintro e w3 ⟨rfl,hb3⟩;clear q1 q2 q3 q4 q5 q6 q7;obtain⟨q1,q2,q3,q4,q5,q6,q7⟩:=HX w3 hb3;obtain⟨v0,v1,v2,v3,v4,v5,v6,z0,z1,z2,z3,z4,z5,z6,zf⟩:=OC (HO.below hb3 aO) (by rw [HF.2.1];omega) (show i<es' by rw [HF.2.1];omega));go_roundg (es-(j+1))
     case measure=>omega
     case rel=>
      obtain⟨f1,f2,f3,f4,f5⟩:=HF.out;have hp:=(HO.below hb3 aO).place (x:=c) f2.symm (show i<es' by omega);refine⟨i+1,j+1,ai,ai,rfl,by go_num,by go_num,ag ⟨?_,es'.set i c,by rw [xx];exact f2,hp,?_,?_⟩⟩
      ·have:=aF YK hb3 ai;exact aj
      ·rw [f1,HY,<-f3,ja (by rw [xx];omega),List.take_set_of_le aO];simp
      ·rw [List.drop_set_of_lt ai];exact f5
   ·obtain rfl:j=es:=ai;obtain⟨hbr,es',hlen,ho,hta,hdr⟩:=HR.out;rw [List.take_length]at hta;rw [<-hlen]at ho;obtain⟨w2,g1,g2,g3⟩:=Ms (c:=sc-i) ho (show i<es'.length by omega);rw [hlen]at g1;rw [hta]at g2;have Tc:=ag (aJ g2 (g3 B w hbr aO));clear ho hta hdr hlen g2 g3;have hne:¬(sc=i):=ai;go_wp2_with (simp only [g1]);go_ret;exact⟨_,rfl,Tc.2,Tc.1⟩
end
section
variable {time:Int} {w w1:World}
structure px (w:World) (cs:Array Value) (time:Int) (w':World):Prop where
 below:aq w w'
 size:w+3<=w'.heap.size
 box:w'.heap[w.heap.size]?=some (.cells cs 30)
 tm:w'.heap[w.heap.size+1]?=some (.cells #[af time] 3)
 res:w'.heap[w.heap.size+2]?=some (.cells cz 30)
theorem px.start {W0:World} {cs:Array Value} (hW0:W0=((w.alloc (.cells cs 30)).alloc (.cells #[af time] 3)).alloc (.cells cz 30)):px w cs time W0:=by
 refine⟨by rw [hW0];exact aj,by rw [hW0];simp,?_,?_,?_⟩
 ·rw [hW0,gy _ _ _ fk,gy _ _ _ bh];exact au _ _ rfl
 ·rw [hW0,gy _ _ _ bh];exact au _ _ bh
 ·rw [hW0];exact au _ _ bh
theorem px.later {cs:Array Value} {w2:World} {B:Nat} (h:px w cs time w1) (hb:Below B w1 w2) (hB:w+3<=B):px w cs time w2:=
 ⟨⟨hb.os.trans h.below.os,hb.tape.trans h.below.tape,hb.output.trans h.below.output,fZ h.below.size hb.size,fun k hk=>(hb.block k ai).trans (h.below.block k hk)⟩,by have:=hb.size;have:=h.size;omega,
  (hb.block _ ai).trans h.box,(hb.block _ ai).trans h.tm,(hb.block _ ai).trans h.res⟩
theorem px.all {v0 v1 v2 v3 v4 v5 v6 v7:Value} (h:px w #[v0,v1,v2,v3,v4,v5,v6,v7] time w1) :
  w1.cell? (w,0)=some v0/\w1.cell? (w,1)=some v1/\w1.cell? (w,2)=some v2/\w1.cell? (w,3)=some v3/\w1.cell? (w,4)=some v4/\w1.cell? (w,5)=some v5/\w1.cell? (w,6)=some v6/\w1.cell? (w,7)=some v7/\(w1,w.heap.size+1,0,time):=by
 have h1:=h.box;have h2:=h.tm;simp [World.cell?,h1,h2]
theorem px.zs {cs:Array Value} (h:px w cs time w1) :
  w1.cell? (w,2,0)=some (az 0 0)/\w1.cell? (w,2,1)=some (az 0 0)/\(w1,w.heap.size+2,2)/\w1.cell? (w,2,3)=some (az 0 0)/\(w1,w.heap.size+2,4)/\w1.cell? (w,2,5)=some (az 0 0)/\(w1,w.heap.size+2,6)/\(w1,w.heap.size+2,7)/\∀o,w1.frozen? ⟨w.heap.size+2,o,none⟩=false:=by
 have h1:=h.res;simp [World.cell?,World.frozen?,h1]
theorem Gc (h:0<=time) (h2:time<=1048575):time.tmod 3600=time%3600/\IntKind.i64.wrap (time%3600)=time%3600:=⟨tJ h,bI _ (by have:=h2;omega)⟩
theorem yI {sa:Option Addr} {sc:Nat} {g0:Option Addr} {l0 p0:Nat} {g1:Option Addr} {l1 p1:Nat} {g2:Option Addr} {l2 p2:Nat} {b:Ba} (h:bR w (.agg (aL sa b.names sc g0 l0 p0 g1 l1 p1 g2 l2 p2 b)) b)
  (hst:∀s∈b.names,s.size<=140737488351232) (hsz:cI w) {E:Int} (hE:(aS b=false/\E=7)\/(aS b=true/\time<0/\E=2)\/(aS b=true/\0<=time/\1048575<time/\E=2)\/(aS b=true/\0<=time/\time<=1048575/\time%3600≠0/\E=4)\/(aS b=true/\0<=time/\time<=1048575/\time%3600=0/\time<b.floor/\E=8)) :
  Calls Tryz.prog 38 #[.agg (aL sa b.names sc g0 l0 p0 g1 l1 p1 g2 l2 p2 b),af time] w fun x w'=>aq w w'/\x = .returned (.tuple #[ey,af E]):=by
 obtain⟨W0,hW0⟩:=cd (((w.alloc (.cells (aL sa b.names sc g0 l0 p0 g1 l1 p1 g2 l2 p2 b) 30)).alloc (.cells #[af time] 3)).alloc (.cells cz 30));have h0:=px.start hW0;have uX:=ag h0;have z0:=h0.size;have jD:=ag (gP (h.below h0.below) hst (hsz.below h0.below));have HE:=ag hE;have ry:=ag hsz;obtain⟨y0,y1,y2,y3,y4,y5,y6,y7,ym⟩:=h0.all;clear h hst hsz h0 hE;go_enter Tryz.func38,Tryz.ntmps38;go_upto_region 1 with (fail);rw [<-hW0];clear hW0;rcases HE.out with ⟨hm,rfl⟩|⟨hm,ht,rfl⟩|⟨hm,ht0,ht,rfl⟩|⟨hm,ht0,ht,hr,rfl⟩|⟨hm,ht0,ht,hr,hf,rfl⟩ <;> clear HE
 ·rw [iA hm]at jD;clear hm;go_wp2_with (go_at_call 66;(with_reducible refine jD.out.mono ?_);rintro e w1 ⟨rfl,hb1⟩;have iN:=ag (uX.later hb1 z0);have z1:=iN.size;clear y0 y1 y2 y3 y4 y5 y6 y7 ym;obtain⟨y0,y1,y2,y3,y4,y5,y6,y7,ym⟩:=iN.all;obtain⟨r0,r1,r2,r3,r4,r5,r6,r7,rf⟩:=iN.zs;clear hb1);have cT:=iN.below;exact bW (v:= .tuple #[ey,af 7]) (by simp [results,Tryz.results38,go_sem, *]) rfl ⟨aj,rfl⟩
 ·rw [eU hm]at jD;clear hm;go_wp2_with (go_at_call 66;(with_reducible refine jD.out.mono ?_);rintro e w1 ⟨rfl,hb1⟩;have iN:=ag (uX.later hb1 z0);have z1:=iN.size;clear y0 y1 y2 y3 y4 y5 y6 y7 ym;obtain⟨y0,y1,y2,y3,y4,y5,y6,y7,ym⟩:=iN.all;obtain⟨r0,r1,r2,r3,r4,r5,r6,r7,rf⟩:=iN.zs;clear hb1);have cT:=iN.below;exact bW (v:= .tuple #[ey,af 2]) (by simp [results,Tryz.results38,go_sem, *]) rfl ⟨aj,rfl⟩
 ·rw [eU hm]at jD;have hd0:decide (time<0)=false:=by simp;omega
  have hd1:decide (1048575<time)=true:=by simp;omega
  clear hm;go_wp2_with (go_at_call 66;(with_reducible refine jD.out.mono ?_);rintro e w1 ⟨rfl,hb1⟩;have iN:=ag (uX.later hb1 z0);have z1:=iN.size;clear y0 y1 y2 y3 y4 y5 y6 y7 ym;obtain⟨y0,y1,y2,y3,y4,y5,y6,y7,ym⟩:=iN.all;obtain⟨r0,r1,r2,r3,r4,r5,r6,r7,rf⟩:=iN.zs;clear hb1);have cT:=iN.below;exact bW (v:= .tuple #[ey,af 2]) (by simp [results,Tryz.results38,go_sem, *]) rfl ⟨aj,rfl⟩
 ·rw [eU hm]at jD;have hd0:decide (time<0)=false:=by simp;omega
  have hd1:decide (1048575<time)=false:=by simp;omega
  obtain⟨m1,m2⟩:=Gc ht0 ht;have hd2:(time%3600 != 0)=true:=by simp [hr]
  clear hm hr;go_wp2_with (go_at_call 66;(with_reducible refine jD.out.mono ?_);rintro e w1 ⟨rfl,hb1⟩;have iN:=ag (uX.later hb1 z0);have z1:=iN.size;clear y0 y1 y2 y3 y4 y5 y6 y7 ym;obtain⟨y0,y1,y2,y3,y4,y5,y6,y7,ym⟩:=iN.all;obtain⟨r0,r1,r2,r3,r4,r5,r6,r7,rf⟩:=iN.zs;have hs:=ry.below iN.below;have sz0:=hs.c2;have szl:=hs.lt;clear hs;clear hb1);have cT:=iN.below;exact bW (v:= .tuple #[ey,af 4]) (by simp [results,Tryz.results38,go_sem, *]) rfl ⟨aj,rfl⟩
 ·rw [eU hm]at jD;have hd0:decide (time<0)=false:=by simp;omega
  have hd1:decide (1048575<time)=false:=by simp;omega
  obtain⟨m1,m2⟩:=Gc ht0 ht;have hd3:decide (time<b.floor)=true:=by simp [hf]
  clear hm hf;go_wp2_with (go_at_call 66;(with_reducible refine jD.out.mono ?_);rintro e w1 ⟨rfl,hb1⟩;have iN:=ag (uX.later hb1 z0);have z1:=iN.size;clear y0 y1 y2 y3 y4 y5 y6 y7 ym;obtain⟨y0,y1,y2,y3,y4,y5,y6,y7,ym⟩:=iN.all;obtain⟨r0,r1,r2,r3,r4,r5,r6,r7,rf⟩:=iN.zs;have hs:=ry.below iN.below;have sz0:=hs.c2;have szl:=hs.lt;clear hs;clear hb1);have cT:=iN.below;exact bW (v:= .tuple #[ey,af 8]) (by simp [results,Tryz.results38,go_sem, *]) rfl ⟨aj,rfl⟩
end
section
variable {w w':World}
structure Kp (lo ob:Nat) (w w':World):Prop where
 size:w<=w'.heap.size
 block:∀q,lo<=q->q≠ob->q<w.heap.size->w'.heap[q]?=w.heap[q]?
theorem Kp.refl (lo ob:Nat) (w:World):Kp lo ob w w:=⟨nu _,fun _ _ _ _=>rfl⟩
theorem Kp.trans {lo ob:Nat} {w1 w2:World} (h:Kp lo ob w w1) (h':Kp lo ob w1 w2):Kp lo ob w w2:=
 ⟨fZ h.size h'.size,fun q ho hq hl=>(h'.block q ho hq (oI hl h.size)).trans (h.block q ho hq hl)⟩
theorem Kp.of {lo ob B:Nat} (h:Below B w w') (hB:w<=B):Kp lo ob w w':=⟨h.size,fun q _ _ hl=>h.block q ai⟩
theorem Kp.set {lo ob o:Nat} (h:Kp lo ob w w') (u:Value):Kp lo ob w (w'.setCell (ob,o) u):=
 ⟨by simp only [aG];exact h.size,fun q ho hq hl=>(cH _ ⟨ob,_,none⟩ q _ hq).trans (h.block q ho hq hl)⟩
theorem Kp.low {lo ob c o:Nat} (h:Kp lo ob w w') (hc:c<lo) (u:Value):Kp lo ob w (w'.setCell (c,o) u):=
 ⟨by simp only [aG];exact h.size,fun q ho hq hl=>(cH _ ⟨c,_,none⟩ q _ (by show q≠c;omega)).trans (h.block q ho hq hl)⟩
theorem Kp.keep {lo ob B:Nat} (h:Kp lo ob w w') (hB:ob<B) (hl:lo<=B):aQ B w w':=⟨h.size,fun q hq hs=>h.block q ai ai hs⟩
noncomputable def Gd (b:Ba) (time:Int) (k:Nat):List aH:=match allT (b.tree k) with|none=>[]|some m=>m.filter (bX time)
structure vd (w:World) (cs:Array Value) (b:Ba) (time:Int) (ob k:Nat) (sn:Option Addr) (sc:Nat) (g:Nat->Option Addr) (n c:Nat->Nat) (r:Nat->Int) (T:Nat->Tr) (wr:World):Prop where
 at':px w cs time wr
 lo:w+3<=ob
 out:wr.heap[ob]?=some (.cells #[ah sn b.names sc,ah (g 0) (n 0) (c 0),af (r 0),ah (g 1) (n 1) (c 1),af (r 1),ah (g 2) (n 2) (c 2),af (r 2),af time] 30)
 names:∀w'',Kp (w+3) ob wr w''->fX w'' (ah sn b.names sc) b.names
 tr:∀j,j<k->Made (Gd b time j) (T j)/\∀w'',Kp (w+3) ob wr w''->di w'' (.agg #[ah (g j) (n j) (c j),af (r j)]) (T j)
variable {w:World} {cs:Array Value} {b:Ba} {time:Int} {ob k:Nat} {sn:Option Addr} {sc:Nat} {g:Nat->Option Addr} {n c:Nat->Nat} {r:Nat->Int} {T:Nat->Tr} {wr wx:World}
theorem vd.lt (h:vd w cs b time ob k sn sc g n c r T wr):ob<wr:=(eJ.1 h.out).1
theorem vd.later (h:vd w cs b time ob k sn sc g n c r T wr) (hb:aq wr wx):vd w cs b time ob k sn sc g n c r T wx:=by
 have hk:=Kp.of (lo:=w.heap.size+3) (ob:=ob) hb aO;exact⟨h.at'.later hb h.at'.size,h.lo,(hb.block _ h.lt).trans h.out,fun w'' hw=>h.names w'' (hk.trans hw),fun j hj=>⟨(h.tr j hj).1,fun w'' hw=>(h.tr j hj).2 w'' (hk.trans hw)⟩⟩
theorem vd.cells (h:vd w cs b time ob k sn sc g n c r T wr) :
  wr.cell? (ob,0)=some (ah sn b.names sc)/\wr.cell? (ob,1)=some (ah (g 0) (n 0) (c 0))/\(wr,ob,2,r 0)/\wr.cell? (ob,3)=some (ah (g 1) (n 1) (c 1))/\(wr,ob,4,r 1)/\wr.cell? (ob,5)=some (ah (g 2) (n 2) (c 2))/\(wr,ob,6,r 2)/\(wr,ob,7,time)/\∀o,wr.frozen? ⟨ob,o,none⟩=false:=by
 have h1:=h.out;simp [World.cell?,World.frozen?,h1]
theorem vd.at (h:vd w cs b time ob k sn sc g n c r T wr) (hk:k<3):(∃u,wr.cell? (ob,1+k*2)=some u)/\(∃u,wr.cell? (ob,1+k*2+1)=some u)/\∀o,wr.frozen? ⟨ob,o,none⟩=false:=by
 have h1:=h.out;obtain rfl|rfl|rfl:k=0\/k=1\/k=2:=ai
 all_goals simp [World.cell?,World.frozen?,h1]
theorem px.put {o:Nat} (h:px w cs time wx) (ni:w+3<=ob) (u:Value):px w cs time (wx.setCell (ob,o) u):=
 ⟨h.below.setCell (by show w<=ob;omega) _,by simp only [aG];exact h.size,(cH _ ⟨ob,_,none⟩ _ _ (by show w≠ob;omega)).trans h.box,(cH _ ⟨ob,_,none⟩ _ _ (by show w+1≠ob;omega)).trans h.tm,(cH _ ⟨ob,_,none⟩ _ _ (by show w+2≠ob;omega)).trans h.res⟩
theorem vd.step {B:Nat} {so:Option Addr} {nn cc:Nat} {rt:Int} {t':Tr} (h:vd w cs b time ob k sn sc g n c r T wr) (hk3:k<3) (hb:aq wr wx) (hB:ob<B)
  (htr:∀w'',aQ B wx w''->di w'' (.agg #[ah so nn cc,af rt]) t') (hm:Made (Gd b time k) t') :
  vd w cs b time ob (k+1) sn sc (upd g k so) (upd n k nn) (upd c k cc) (upd r k rt) (upd T k t') ((wx.setCell (ob,1+k*2) (ah so nn cc)).setCell (ob,1+k*2+1) (af rt)):=by
 have hx:=h.later hb;have hk:Kp (w+3) ob wx ((wx.setCell (ob,1+k*2) (ah so nn cc)).setCell (ob,1+k*2+1) (af rt)):=((Kp.refl _ _ _).set _).set _;refine⟨(hx.at'.put h.lo _).put h.lo _,h.lo,?_,fun w'' hw=>hx.names w'' (hk.trans hw),fun j hj=>?_⟩
 ·have h1:=aM (off:=1+k*2+1) (v:=af rt) (aM (off:=1+k*2) (v:=ah so nn cc) hx.out);rw [h1];obtain rfl|rfl|rfl:k=0\/k=1\/k=2:=ai
  all_goals simp [upd]
 ·by_cases hjk:j=k
  ·subst hjk;rw [iq,iq,iq,iq,iq];exact⟨hm,fun w'' hw=>htr w'' ((hk.trans hw).keep hB (by have:=h.lo;omega))⟩
  ·rw [upd_ne _ _ hjk,upd_ne _ _ hjk,upd_ne _ _ hjk,upd_ne _ _ hjk,upd_ne _ _ hjk];obtain⟨q1,q2⟩:=hx.tr j ai;exact⟨q1,fun w'' hw=>q2 w'' (hk.trans hw)⟩
theorem vd.base (h:vd w cs b time ob 3 sn sc g n c r T wr):r 0=(T 0).root/\r 1=(T 1).root/\r 2=(T 2).root/\∀w'',Kp (w+3) ob wr w''->bR w'' (.agg (aL sn b.names sc (g 0) (n 0) (c 0) (g 1) (n 1) (c 1) (g 2) (n 2) (c 2) ⟨b.names,T 0,T 1,T 2,time⟩)) ⟨b.names,T 0,T 1,T 2,time⟩:=by
 have key:∀j,j<3->∀w'',Kp (w+3) ob wr w''->r j=(T j).root/\bn w'' (ah (g j) (n j) (c j)) (T j).nodes:=fun j hj w'' hw=>by
  obtain⟨nv,e,hn⟩:=(h.tr j hj).2 w'' hw;simp only [Value.agg.injEq,Array.mk.injEq,List.cons.injEq,Value.int.injEq,and_true,true_and]at e;exact⟨e.2,e.1▸hn⟩
 have k0:=key 0 bY;have k1:=key 1 bY;have k2:=key 2 bY;exact⟨(k0 wr (Kp.refl _ _ _)).1,(k1 wr (Kp.refl _ _ _)).1,(k2 wr (Kp.refl _ _ _)).1,fun w'' hw=>⟨_,_,_,_,rfl,h.names w'' hw,(k0 w'' hw).2,(k1 w'' hw).2,(k2 w'' hw).2⟩⟩
theorem Js {l:List aH} (h:kU b time=0) (hl:cx b=some l) (k:Nat) (hk:k<3) :
  ∃m,aC (b.tree k)=0/\mz (b.tree k) 0 1099511627776=some m/\Gd b time k=m.filter (bX time)/\(∀e∈m,0<=e.key)/\m.length<=50000/\(Gd b time k).length<=(sj b time).length/\jM none (Gd b time k)=0:=by
 obtain⟨m,g1,g2,g3,g4,g5⟩:=E8 h hl k hk;have hm:Gd b time k=m.filter (bX time):=by unfold Gd;rw [g1]
 have hL:sj b time=l.filter (bX time):=by unfold sj;rw [hl]
 obtain⟨mr,mg⟩:=fg g1;have ha:aC (b.tree k)=0/\mz (b.tree k) 0 1099511627776=some m:=by
  unfold allT at g1
  split at g1
  ·rename_i hf;exact⟨hf,g1⟩
  ·cases g1
 refine⟨m,ha.1,ha.2,hm,fun e he=>(mg.2.1 e he).1,mg.2.2,by rw [hm,hL];exact g5,?_⟩;rw [hm];have hz:∀(q:List aH) (p:Option Int),aY q->Checked q->(∀e∈q,0<=e.key/\e.key<1099511627776)->(∀e∈q,∀x,p=some x->x<e.key)->jM p q=0:=by
  intro q
  induction q with
  |nil=>intro p _ _ _ _;rfl
  |cons e q ih=>
   intro p hr hc hk hp;have hc0:=hc e (List.mem_cons_self ..);have iy:=hk e (List.mem_cons_self ..);show (if ∃k,p=some k/\e.key<=k then(8:Int)else if e.key<0\/1099511627776<=e.key\/e.is.c=0 then 2 else if av e.is≠0 then av e.is else jM (some e.key) q)=0;rw [ar (fun⟨x,h1,h2⟩=>by have:=hp e (List.mem_cons_self ..) x h1;omega),ar (by have:=hc0.1;omega),ar (by have:=hc0.2;omega)];refine ih _ (List.Pairwise.of_cons hr) (fun y hy=>hc y (List.mem_cons_of_mem _ hy)) (fun y hy=>hk y (List.mem_cons_of_mem _ hy)) fun y hy x hx=>?_;obtain rfl:=dh hx;exact(tZ.1 hr).1 y hy
 exact hz _ _ g3 g4 (fun e he=>mg.2.1 e (nt.1 he).1) (fun e _ x hx=>by cases hx)
end
section
variable {b:Ba} {time rt:Int} {l:List aH} {B n c sc:Nat} {so:Option Addr} {w' w:World}
def Tq (b:Ba) (time:Int) (B:Nat) (x:Ending) (w':World):Prop:=
 (x = .returned (.tuple #[ey,af 1])/\2900<(sj b time).length) \/
 (∃b' sa sc g0 l0 p0 g1 l1 p1 g2 l2 p2,x = .returned (.tuple #[.agg (aL sa b'.names sc g0 l0 p0 g1 l1 p1 g2 l2 p2 b'),af 0])/\(∀w'',aQ B w' w''->bR w'' (.agg (aL sa b'.names sc g0 l0 p0 g1 l1 p1 g2 l2 p2 b')) b')/\b'.names=b.names/\b'.floor=time/\aS b'=true/\cx b'=some (sj b time)/\∀k,k<3->qE (b'.tree k)<=3+(sj b time).length)
theorem La {E2:Int} (h:Gu B l w' so n c rt E2) (h0:E2≠0) (hz:jM none l=0) (hl:l<=(sj b time).length):E2=1/\so=none/\n=0/\c=0/\rt=0/\2900<(sj b time).length:=by
 rcases h with ⟨-,h1,h2,h3,h4,h5|⟨h5,h6⟩⟩|⟨h1,-⟩
 ·exact absurd (h5.trans hz) h0
 ·exact⟨h5,h2,h1,h3,h4,ai⟩
 ·exact absurd h1 h0
theorem OG (h:Gu B l w' so n c rt 0):∃t,(∀w'',aQ B w' w''->di w'' (.agg #[ah so n c,af rt]) t)/\Made l t:=by
 rcases h with ⟨h1,-⟩|⟨-,-,h1⟩
 ·exact absurd rfl h1
 ·exact h1
theorem Rk {g0 g1 g2:Option Addr} {l0 p0 l1 p1 l2 p2:Nat} {r0 r1 r2:Int} (k:Nat) (hk:k<3) (w:World):(Instr.index 28 (.agg #[ah g0 l0 p0,af r0,ah g1 l1 p1,af r1,ah g2 l2 p2,af r2]) (af k)).run Tryz.prog w = .ok (.agg #[ah (ny g0 g1 g2 k) (ny l0 l1 l2 k) (ny p0 p1 p2 k),af (ny r0 r1 r2 k)]) w:=by
 obtain rfl|rfl|rfl:k=0\/k=1\/k=2:=ai
 all_goals kernel_rfl
theorem C4 {cs:Array Value} {wx:World} {ob:Nat} {sn:Option Addr} (hA:px w cs time wx) (ho:wx.ownsRow B 9 1 (ah sn b.names sc) b.names (b.names.flatMap jN)) (ni:wx.heap[ob]?=some (.cells cz 30))
  (hlo:w+3<=ob) (hBl:w+3<=B) (hne:∀g,(ah sn b.names sc).ownBlock=some g->g≠ob) (hnl:b.names.length<=16) (T:Nat->Tr) :
  vd w cs b time ob 0 sn sc (fun _=>none) (fun _=>0) (fun _=>0) (fun _=>0) T ((((((((wx.setCell (ob,0) (ah sn b.names sc)).setCell (ob,1) (az 0 0)).setCell (ob,2) (af 0)).setCell (ob,3) (az 0 0)).setCell (ob,4) (af 0)).setCell (ob,5) (az 0 0)).setCell (ob,6) (af 0)).setCell (ob,7) (af time)):=by
 have hk:Kp (w+3) ob wx ((((((((wx.setCell (ob,0) (ah sn b.names sc)).setCell (ob,1) (az 0 0)).setCell (ob,2) (af 0)).setCell (ob,3) (az 0 0)).setCell (ob,4) (af 0)).setCell (ob,5) (az 0 0)).setCell (ob,6) (af 0)).setCell (ob,7) (af time)):=
  ((((((((Kp.refl _ _ _).set _).set _).set _).set _).set _).set _).set _).set _
 refine⟨(((((((hA.put hlo _).put hlo _).put hlo _).put hlo _).put hlo _).put hlo _).put hlo _).put hlo _,hlo,kr ni,fun w'' hw=>ct.owned dD (bJ ho fun g hg=>(hk.trans hw).block g (by have:=(ho.lt g hg).1;omega) (hne g hg) (ho.lt g hg).2) rfl ai,fun j hj=>ai⟩
theorem Y9 {sa:Option Addr} {g0:Option Addr} {l0 p0:Nat} {g1:Option Addr} {l1 p1:Nat} {g2:Option Addr} {l2 p2:Nat} (h:bR w (.agg (aL sa b.names sc g0 l0 p0 g1 l1 p1 g2 l2 p2 b)) b)
  (hst:∀s∈b.names,s.size<=140737488351232) (hsz:cI w) (hF:kU b time=0) :
  Calls Tryz.prog 38 #[.agg (aL sa b.names sc g0 l0 p0 g1 l1 p1 g2 l2 p2 b),af time] w fun x w'=>aq w w'/\Tq b time w x w':=by
 obtain⟨W0,hW0⟩:=cd (((w.alloc (.cells (aL sa b.names sc g0 l0 p0 g1 l1 p1 g2 l2 p2 b) 30)).alloc (.cells #[af time] 3)).alloc (.cells cz 30));have h0:=px.start hW0;have uX:=ag h0;have z0:=h0.size;have jD:=ag (gP (h.below h0.below) hst (hsz.below h0.below));have HF:=ag hF;obtain⟨hm,ht0,ht,hr,hf⟩:=Ge hF;rw [eU hm]at jD;have hd0:decide (time<0)=false:=by simp;omega
 have hd1:decide (1048575<time)=false:=by simp;omega
 obtain⟨m1,m2⟩:=Gc ht0 ht;have hd3:decide (time<b.floor)=false:=by simp;omega
 obtain⟨l,hl⟩:∃l,cx b=some l:=by obtain⟨l,hl,-⟩:=fJ hm;exact⟨l,hl⟩
 have HL:=ag hl;have Kq:b.names.length<=16:=(dJ hm).n16;have ry:=ag hsz;obtain⟨_,_,_,_,_,_,_,_,_,_,_,hv,hnl,dE,T0,T1,T2⟩:=h.open;injection hv with hv;simp only [aL,Array.mk.injEq,List.cons.injEq,Value.slice.injEq,and_true]at hv;obtain⟨⟨rfl,-,rfl⟩,⟨rfl,rfl,rfl⟩,-,⟨rfl,rfl,rfl⟩,-,rfl,rfl,rfl⟩:=hv;have N3:=ag fun W (hb:aq w W)=>yN (dE.below hb aO);have HT:=ag fun(k:Nat) (hk:k<3) W (hb:aq w W)=>lq (lo:=0) (hi:=1099511627776) (show di W (.agg #[ah (ny g0 g1 g2 k) (ny l0 l1 l2 k) (ny p0 p1 p2 k),af (ny b.t0.root b.t1.root b.t2.root k)]) (b.tree k)from by
  obtain rfl|rfl|rfl:k=0\/k=1\/k=2:=ai
  ·exact T0 W hb
  ·exact T1 W hb
  ·exact T2 W hb)
 obtain⟨y0,y1,y2,y3,y4,y5,y6,y7,ym⟩:=h0.all;have hmf:∀(fn:Fn) (first cap:Array Value) (w:World),(Instr.makeFunc fn first cap).run Tryz.prog w = .ok (.func fn first cap) w:=fun _ _ _ _=>rfl;clear h hst hsz h0 hF hm hf hl T0 T1 T2 dE;go_enter Tryz.func38,Tryz.ntmps38;go_upto_region 1 with (fail);rw [<-hW0];clear hW0;go_upto_region 10 with (go_at_call 66;(with_reducible refine jD.out.mono ?_);rintro e w1 ⟨rfl,hb1⟩;have iN:=ag (uX.later hb1 z0);have z1:=iN.size;clear y0 y1 y2 y3 y4 y5 y6 y7 ym;obtain⟨y0,y1,y2,y3,y4,y5,y6,y7,ym⟩:=iN.all;obtain⟨r0,r1,r2,r3,r4,r5,r6,r7,rf⟩:=iN.zs;have hs:=ry.below iN.below;have sz0:=hs.c2;have szl:=hs.lt;clear hs;clear hb1);clear sz0 szl hr m1 m2 hd0 hd1 hd3 r0 r1 r2 r3 r4 r5 r6 r7 rf;go_cut [7] (fun p wx=>∃(ob:Nat) (sn:Option Addr) (wF:Nat),p = .pointer (some (ob,0))/\Hid (vd w (aL sa b.names sc g0 l0 p0 g1 l1 p1 g2 l2 p2 b) b time ob 0 sn wF (fun _=>none) (fun _=>0) (fun _=>0) (fun _=>0) (fun j=>b.tree j) wx))
 case first=>
  have HD:=ag (iN.later (B:=w1.heap.size) (w2:=w1.drew) (Below.drew (aW _ _)) z1);refine jR (tK.of [(0,1),(1,0),(3,0)] (.fork 2 5 (tK.of [(4,1),(5,2),(6,3)] .nil) (tK.of [(2,2),(4,1),(6,3)] .nil))) 6
   (fun W=>W.cell? ⟨w.heap.size,0,none⟩=some (.slice sa b.names.length sc)/\W.cell? ⟨w.heap.size+1,0,none⟩=some (.int .i64 time)) cV cV ⟨y0,ym⟩ ?_
  simp only [tK.of]
  (repeat first|refine gZ ?_|refine gY ?_)
  refine rZ rfl rfl rfl rfl (fun K hK=>?_) (fun K hK=>?_)
  ·go_simp
   (with_reducible refine(N3.out w1.drew (HD.out.below)).mono ?_)
   rintro e w2 ⟨nv,rfl,hown,hb2⟩;obtain⟨sn,wF,rfl⟩:=aU hown;go_simp;have hzz:w1.drew=w1.heap.size:=rfl;have hs2:=hb2.size;refine hK _ _ ⟨(hb2.cell (p:=⟨w.heap.size,0,none⟩) (by show w.heap.size<_;omega)).trans y0,(hb2.cell (p:=⟨w.heap.size+1,0,none⟩) (by show w.heap.size+1<_;omega)).trans ym⟩ ?_;clear hK K;have ZL:=ag hown;have oL:=ag hb2;obtain⟨W3,hW3⟩:=cd (w2.alloc (.cells cz 30));have hb3:aq w2 W3:=by rw [hW3];exact aj
   have k3:W3.heap[w2.heap.size]?=some (.cells cz 30):=by rw [hW3];exact au _ _ rfl
   have Xc:=ag ((HD.later hb2 ai).later hb3 ai);have sL:=ag hb3;have Ug:=ag k3;clear hown hb2 hb3
   (repeat first|refine gZ ?_|refine gY ?_)
   refine gq rfl rfl (fun K hK=>?_);go_simp;rw [<-hW3];obtain⟨c0,c1,c2,c3,c4,c5,c6,c7,cf⟩:W3.cell? (w2,0)=some (az 0 0)/\W3.cell? (w2,1)=some (az 0 0)/\(W3,w2.heap.size,2)/\W3.cell? (w2,3)=some (az 0 0)/\(W3,w2.heap.size,4)/\W3.cell? (w2,5)=some (az 0 0)/\(W3,w2.heap.size,6)/\(W3,w2.heap.size,7)/\∀o,W3.frozen? ⟨w2.heap.size,o,none⟩=false:=by simp [World.cell?,World.frozen?,k3]
   obtain⟨Um,-,-,-,-,-,-,-,We⟩:=Xc.all;refine hK _ _ ⟨Um,We⟩ ?_;clear hK K hW3 k3 Um We;refine jC rfl rfl (fun K hK=>?_);go_simp;refine hK _ _ ?_;clear hK K;refine kT ?_;go_wp2_with fail;go_meet;exact⟨w2.heap.size,sn,wF,rfl,ag (C4 Xc (cL ZL sL) Ug ai ai (fun g hg e=>by have:=(ZL.lt g hg).2;omega) Kq _)⟩
  ·go_simp;obtain⟨W2,hW2⟩:=cd ((w1.alloc (.cells cz 30)).drew);have hb2:aq w1 W2:=by rw [hW2];exact aj
   have k2:W2.heap[w1.heap.size]?=some (.cells cz 30):=by rw [hW2];exact au _ _ rfl
   have hz2:W2=w1.heap.size+1:=by rw [hW2];simp
   have hx2:=iN.later hb2 z1;have HX2:=ag hx2;have Tj:=ag k2;rw [<-hW2];obtain⟨Um,-,-,-,-,-,-,-,We⟩:=hx2.all;refine hK _ _ ⟨Um,We⟩ ?_;clear hK K hW2 k2 hx2;refine gq rfl rfl (fun K hK=>?_);go_simp
   (with_reducible refine(N3.out W2 (HX2.out.below)).mono ?_)
   rintro e w3 ⟨nv,rfl,hown,hb3⟩;obtain⟨sn,wF,rfl⟩:=aU hown;go_simp;have hs3:=hb3.size;have hx3:=HX2.later hb3 ai;have Xc:=ag hx3;have k3:=(hb3.block _ ai).trans Tj;have Ug:=ag k3;have HO3:=ag hown;clear Um We;obtain⟨Um,-,-,-,-,-,-,-,We⟩:=hx3.all;obtain⟨c0,c1,c2,c3,c4,c5,c6,c7,cf⟩:w3.cell? (w1,0)=some (az 0 0)/\w3.cell? (w1,1)=some (az 0 0)/\(w3,w1.heap.size,2)/\w3.cell? (w1,3)=some (az 0 0)/\(w3,w1.heap.size,4)/\w3.cell? (w1,5)=some (az 0 0)/\(w3,w1.heap.size,6)/\(w3,w1.heap.size,7)/\∀o,w3.frozen? ⟨w1.heap.size,o,none⟩=false:=by simp [World.cell?,World.frozen?,k3]
   refine hK _ _ ⟨Um,We⟩ ?_;clear hK K hown hb3 hx3 k3 Um We
   (repeat first|refine gZ ?_|refine gY ?_)
   refine jC rfl rfl (fun K hK=>?_);go_simp;refine hK _ _ ?_;clear hK K;refine kT ?_;go_wp2_with fail;go_meet;exact⟨w1.heap.size,sn,wF,rfl,ag (C4 Xc HO3 Ug ai ai (fun g hg e=>by have:=(HO3.lt g hg).1;omega) Kq _)⟩
 case rest=>
  obtain⟨ob,sn,wF,rfl,HA0⟩:=hcut;have hx:=HA0.out;obtain⟨y0,y1,y2,y3,y4,y5,y6,y7,ym⟩:=hx.at'.all;clear hx iN uX jD N3 ry;go_upto_region 12 with (fail);clear y0 y1 y2 y3 y4 y5 y6 y7 ym
  go_loopg [46] 3 (fun g i wr=>∃k,k<=3/\g=3-k/\i=af k/\Hid (∃g n c r T,vd w (aL sa b.names sc g0 l0 p0 g1 l1 p1 g2 l2 p2 b) b time ob k sn wF g n c r T wr))
  case atStart=>exact⟨0,ai,rfl,rfl,ag ⟨_,_,_,_,_,HA0.out⟩⟩
  case round=>
   clear HA0;obtain⟨k,hk,rfl,rfl,HR⟩:=hrel;obtain⟨g,n,c,r,T,hA⟩:=HR.out;by_cases hlt:k<3
   ·have tz:(k:Int)<3:=ai;have hHT:=HT k hlt;have hit:=@Rk g0 g1 g2 l0 p0 l1 p1 l2 p2 b.t0.root b.t1.root b.t2.root k hlt;obtain⟨G,hG⟩:=bG (ny g0 g1 g2 k);obtain⟨LN,hLN⟩:=bG (ny l0 l1 l2 k);obtain⟨CP,hCP⟩:=bG (ny p0 p1 p2 k);obtain⟨RT,hRT⟩:=bG (ny b.t0.root b.t1.root b.t2.root k);rw [hG,hLN,hCP,hRT]at hit hHT;clear hG hLN hCP hRT;obtain⟨m,t1,t2,t3,t4,t5,t6,t7⟩:=Js HF HL k hlt;have HA:=ag hA;have Z9:=hA.at'.size;have hlo:=hA.lo;have hol:=hA.lt;obtain⟨W1,hW1⟩:=cd (wr.alloc (.cells #[ah G LN CP,af RT] 27));have hb1:aq wr W1:=(by rw [hW1];exact aj);have k1:W1.heap[wr.heap.size]?=some (.cells #[ah G LN CP,af RT] 27):=(by rw [hW1];exact au _ _ rfl);have hz1:W1=wr.heap.size+1:=(by rw [hW1];simp);have qD:=ag (hA.later hb1);obtain⟨c0,c1⟩:W1.cell? (wr,0)=some (ah G LN CP)/\(W1,wr.heap.size,1,RT):=(by simp [World.cell?,k1]);have gV:=ag (hHT W1 qD.at'.below);have MK:=ag (aJ t1 (aJ t2 (aJ t3 (aJ t4 (aJ t5 (aJ t6 t7))))));clear hA hHT t1 t2 t3 t4 t5 t6 t7;go_upto_region 14 with (fail);rw [<-hW1];clear hW1 k1;go_upto_region 15 with ((go_at_call 74;(with_reducible refine gV.out.mono ?_);rintro e w2 ⟨hb2,-,hok⟩;have hok:=hok MK.1;rw [show mz (b.tree k) 0 1099511627776=some m from MK.2.1]at hok;obtain⟨v2,rfl,I4⟩:=hok;obtain⟨su,sd,rfl⟩:=I4.isSlice;have HA2:=ag (qD.later hb2);have hz2:=hb2.size;have ZL:=ag I4;have oL:=ag hb2;clear hb2 I4));go_upto_region 18 with ((go_at_call 77;(with_reducible refine(Mn (time:=time) (tb:=w.heap.size+1) ZL.out (by have:=MK.out.2.2.2.2.1;omega) MK.out.2.2.2.1 (by have h:=HA2.out.at'.tm;simp [World.cell?,h]) ai hz2).mono ?_);rintro e w3 ⟨v3,rfl,hb3,mC⟩;obtain⟨sv,se,rfl⟩:=mC.isSlice));have hfl:(m.filter (bX time)).length<=50000:=fZ (ub _ _) MK.2.2.2.2.1;have Ub:=ag (xL (mC.at ai));have sL:=ag (oL.trans hb3);have HA3:=ag (qD.later sL);have hz3:=hb3.size;have Ue:=ag (aJ MK.2.2.1 (aJ MK.2.2.2.2.2.1 MK.2.2.2.2.2.2));obtain⟨L,hL⟩:=bG (m.filter (bX time));rw [hL]at Ue Ub mC hfl ⊢;clear hL mC hb3 ZL MK oL c0 c1;go_upto_region 19 with ((go_at_call 79;(with_reducible refine Ub.out.mono ?_);rintro e w4 ⟨hb4,so,nn,cc,rt,E2,rfl,hof⟩;have HA4:=ag (HA3.later hb4);have qK:=ag hof;have BH:=ag (aF hb1 (aF sL hb4 ai) ai);obtain⟨⟨u1,x1⟩,⟨u2,x2⟩,xf⟩:=HA4.at hlt;clear hb4 hof));clear x1 x2 xf;by_cases h0:E2=0
    ·subst h0;go_wp2_with fail;go_roundg (3-(k+1))
     case measure=>omega
     case rel=>
      obtain⟨t',q1,q2⟩:=OG qK;rw [<-Ue.1]at q2;exact⟨k+1,ai,rfl,by go_num,ag ⟨_,_,_,_,_,HA.step hlt BH ai q1 q2⟩⟩
    ·have d2:(E2 != 0)=true:=(by simp [h0]);obtain⟨rfl,rfl,rfl,rfl,rfl,CN⟩:=La (b:=b) (time:=time) qK h0 (by rw [<-Ue.1];exact Ue.2.2) (by rw [<-Ue.1];exact Ue.2.1);have Tg:=ag CN;have HPZ:=ag ((HA4.at'.put hlo (o:=1+k*2) (az 0 0)).put hlo (o:=1+k*2+1) (af 0));obtain⟨z0',z1',z2',z3',z4',z5',z6',z7',zf'⟩:=HPZ.zs;clear CN h0;generalize (w4.setCell (ob,1+k*2) (az 0 0)).setCell (ob,1+k*2+1) (af 0)=WZ at *;go_wp2_with fail;have cT:=HPZ.below;exact bW (v:= .tuple #[ey,af 1]) (by simp [results,Tryz.results38,go_sem, *]) rfl ⟨aj, .inl ⟨rfl,Tg⟩⟩
   ·obtain rfl:k=3:=ai;have HA:=ag hA;obtain⟨d0,d1,d2,d3,d4,d5,d6,d7,df⟩:=hA.cells;obtain⟨z0',z1',z2',z3',z4',z5',z6',z7',zf'⟩:=hA.at'.zs;obtain⟨e0,e1,e2,hB⟩:=hA.base;rw [e0]at d2;rw [e1]at d4;rw [e2]at d6;have HB:=ag hB;have HQ:=ag fun j hj=>(hA.tr j hj).1;have HI:=ag (Y8 (T:=T) HF (fun k hk m hm=>by
     have hx:Gd b time k=m.filter (bX time):=(by unfold Gd;rw [hm]);rw [<-hx];have:=HQ k hk;obtain rfl|rfl|rfl:k=0\/k=1\/k=2:=ai
     all_goals exact this.knows))
    have HW:=ag (show ∀k,k<3->qE ((⟨b.names,T 0,T 1,T 2,time⟩:Ba).tree k)<=3+(sj b time).length from fun k hk=>by
     obtain⟨m,-,-,-,-,-,hlen,-⟩:=Js HF HL k hk;have:=(HQ k hk).2.2.2.2.2;obtain rfl|rfl|rfl:k=0\/k=1\/k=2:=ai
     ·show qE (T 0)<=_;omega
     ·show qE (T 1)<=_;omega
     ·show qE (T 2)<=_;omega)
    clear hA hB e0 e1 e2;go_wp2_with fail;have cT:=HA.at'.below;refine bW (v:= .tuple #[.agg #[ah sn b.names wF,ah (g 0) (n 0) (c 0),af (T 0).root,ah (g 1) (n 1) (c 1),af (T 1).root,ah (g 2) (n 2) (c 2),af (T 2).root,af time],af 0]) (by simp [results,Tryz.results38,go_sem, *]) rfl ⟨aj, .inr ⟨⟨b.names,T 0,T 1,T 2,time⟩,sn,wF,g 0,n 0,c 0,g 1,n 1,c 1,g 2,n 2,c 2,rfl,fun w'' hw=>HB _ (Kp.trans ?_ ⟨hw.size,fun q ho _ hl=>hw.block q ai hl⟩),rfl,rfl,HI.1,HI.2,HW⟩⟩
    repeat (first|with_reducible exact Kp.refl _ _ _|with_reducible refine Kp.low ?_ ai _)
end
theorem uM {v:Value} {b:Ba} {time:Int} {w:World} (h:bR w v b) (hst:∀s∈b.names,s.size<=140737488351232) (hsz:cI w) :
  Calls Tryz.prog 38 #[v,af time] w fun x w'=>aq w w' /\
   ((kU b time≠0/\x = .returned (.tuple #[ey,af (kU b time)]))\/(kU b time=0/\Tq b time w x w')):=by
 obtain⟨sa,sc,g0,l0,p0,g1,l1,p1,g2,l2,p2,rfl,-⟩:=h.open;have er:∀{k:Int},kU b time=k->k≠0->Calls Tryz.prog 38 #[.agg (aL sa b.names sc g0 l0 p0 g1 l1 p1 g2 l2 p2 b),af time] w (fun x w'=>aq w w'/\x = .returned (.tuple #[ey,af k])) ->
   Calls Tryz.prog 38 #[.agg (aL sa b.names sc g0 l0 p0 g1 l1 p1 g2 l2 p2 b),af time] w (fun x w'=>aq w w'/\((kU b time≠0/\x = .returned (.tuple #[ey,af (kU b time)]))\/(kU b time=0/\Tq b time w x w'))):=fun {k} e hk hc=>by
  subst e;exact hc.mono fun x w' ⟨h1,h2⟩=>⟨h1, .inl ⟨hk,h2⟩⟩
 by_cases hm:aS b=true
 ·by_cases h1:time<0
  ·exact er (by unfold kU;rw [ar (by simp [hm]),aw ai]) bY (yI h hst hsz (.inr (.inl ⟨hm,h1,rfl⟩)))
  ·by_cases h2:1048575<time
   ·exact er (by unfold kU;rw [ar (by simp [hm]),aw ai]) bY (yI h hst hsz (.inr (.inr (.inl ⟨hm,ai,h2,rfl⟩))))
   ·by_cases h3:time%3600=0
    ·by_cases h4:time<b.floor
     ·exact er (by unfold kU;rw [ar (by simp [hm]),ar ai,ar ai,aw h4]) bY (yI h hst hsz (.inr (.inr (.inr (.inr ⟨hm,ai,ai,h3,h4,rfl⟩)))))
     ·have h0:kU b time=0:=(by unfold kU;rw [ar (by simp [hm]),ar ai,ar ai,ar h4]);exact(Y9 h hst hsz h0).mono fun x w' ⟨h1,h2⟩=>⟨h1, .inr ⟨h0,h2⟩⟩
    ·exact er (by unfold kU;rw [ar (by simp [hm]),ar ai,aw h3]) bY (yI h hst hsz (.inr (.inr (.inr (.inl ⟨hm,ai,ai,h3,rfl⟩)))))
 ·have hm:aS b=false:=by simpa using hm
  exact er (by unfold kU;rw [aw hm]) bY (yI h hst hsz (.inl ⟨hm,rfl⟩))
end Go.Proofs.YtmljjfhgciaceaaGreatDoor
