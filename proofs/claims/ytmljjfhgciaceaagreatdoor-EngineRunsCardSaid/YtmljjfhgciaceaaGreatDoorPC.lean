/- Lemmas of the proof. -/
import Derived.Test.YtmljjfhgciaceaaGreatDoorHd
import Derived.Test.YtmljjfhgciaceaaGreatDoorCz
import Derived.Test.YtmljjfhgciaceaaGreatDoorPA
import Derived.Test.YtmljjfhgciaceaaGreatDoorMerged
import Derived.StillTailTactics
import Derived.Deep.CutBlock
import Derived.BigQuiet
import Derived.Deep.QuietTactic
import Derived.Test.YtmljjfhgciaceaaGreatDoorPS
import Derived.Test.YtmljjfhgciaceaaGreatDoorBK
set_option maxRecDepth 100000
set_option maxHeartbeats 4000000
namespace Go.Proofs.YtmljjfhgciaceaaGreatDoor
open Go.RowKit
section
variable {es l:List aH}
theorem JM {size:Int} (hs:size=1\/size=60\/size=3600) {a b:aH} (h:a.key<b.key) (_h0:0<=a.key):(bucket size a).key<=(bucket size b).key:=by
 show a.key-a.key%1048576%size<=b.key-b.key%1048576%size;have h1:=Int.emod_nonneg (a.key%1048576) (show size≠0 by omega);have h2:=mod_le (Int.emod_nonneg b.key (show (1048576:Int)≠0 by decide)) (show 0<size by omega);by_cases hq:a.key/1048576<b.key/1048576
 ·omega
 ·rcases hs with rfl|rfl|rfl <;> omega
theorem CC {x:aH}:∀{es:List aH},(∀e∈es,e.key<x.key)->gJ es x=some (es++[x])
 |[],_=>rfl
 |e::es,h=>by
  have h1:=h e bh;show (if e.key<x.key then _ else _)=_;rw [aw h1,CC (es:=es) fun y hy=>h y (by simp [hy])];rfl
theorem EM (hs:aY es) {j:Nat} (hj:es=j+1) {x:Int} (hx:es[j].key=x):jr es x=j:=
 Bp ai (fun t ht htj=>by have:=sI.1 hs t j ht ai htj;omega) (fun t ht hjt=>by
  obtain rfl:t=j:=ai;omega)
theorem Am {size:Int} (hs:size=1\/size=60\/size=3600) (hr:aY l) (hg:dX l) {k:Nat} (hk:k<l) (h:ft ((l.take k).map (bucket size))=some es):∀e∈es,e.key<=(bucket size l[k]).key:=by
 intro e he;have hs0:0<size:=ai;have hP:dX ((l.take k).map (bucket size)):=by
  have:=eF hs0 hg;rw [<-rG k l,sH]at this;exact this.left
 obtain⟨h1,-⟩:=fL hP.1 h;rw [h1]at he;obtain⟨y,hy|hy,hyk⟩:=Di he
 ·obtain⟨z,hz,rfl⟩:=ua.1 hy;obtain⟨i,hi,rfl⟩:=nr hz;have hi':i<k:=by rw [gh]at hi;omega
  rw [zW]at hyk;have h2:=sI.1 hr i k ai hk hi';have h3:=JM hs h2 (hg.2.1 _ (eZ _)).1;omega
 ·cases hy
theorem sY {size:Int} {k:Nat} (hk:k<l) (h:ft ((l.take k).map (bucket size))=some es):ft ((l.take (k+1)).map (bucket size))=gJ es (bucket size l[k]):=by
 rw [ja hk,sH,List.map_cons,List.map_nil,sF,h];rfl
theorem xR {size:Int} {k:Nat} (h:ft ((l.take k).map (bucket size))=none):bw l size=none:=by
 unfold bw
 conv=>lhs;rw [<-rG k l,sH]
 exact vW h
def VI (B:Nat) (w:World) (r:Option (List aH)) (e:Ending) (w':World):Prop:=
 Below B w w'/\(match r with|none=>e = .returned (.tuple #[az 0 0,af 1])|some l=>∃v',e = .returned (.tuple #[v',af 0])/\ay B w' v' l)
theorem Ea {v:Value} {size:Int} {w:World} (h:cX w v l) (hg:dX l) (hrise:aY l) (hs:size=1\/size=60\/size=3600) :
  Calls Tryz.prog 103 #[v,af size] w (VI w w (bw l size)):=by
 obtain⟨ao,cap,rfl⟩:=h.isSlice;have HE:=ag h;have HG:=ag hg;have HRI:=ag hrise;have HS:=ag hs;have hs1:0<size:=ai;have hs2:size<=3600:=ai;have hlen:l.length<=50000:=hg.2.2;clear h hg hrise hs;go_enter Tryz.func103,Tryz.ntmps103;go_wp2_with fail
 go_loopg [6,15] l (fun g out i wr=>∃(k:Nat) (es:List aH),k<=l/\g=l-k/\i=af k/\ay w wr out es/\Hid (ft ((l.take k).map (bucket size))=some es)/\aq w wr)
 case atStart=>exact⟨0,[],eY _,rfl,rfl,ay.nil _ _,ag rfl,aW _ _⟩
 case round=>
  obtain⟨k,es,hk,rfl,rfl,hown,HR,hb⟩:=hrel;obtain⟨so,sc,rfl⟩:=hown.isSlice;have hsz:=hb.size;by_cases hlt:k<l
  ·obtain⟨_,_,hv,-,-,-,-,h5⟩:=HE.out;injection hv with hv1 _ hv3;subst hv1 hv3;obtain⟨eb,cM,ll,pq,jF⟩:=h5 ai;subst ll;obtain⟨y0,y1,y2,y3,y4,y5,y6⟩:=br hb pq jF hlt;obtain⟨y,hy⟩:=bG (l[k]);rw [hy]at y0 y1 y2 y3 y4 y5 y6;have wG:y∈l:=by rw [<-hy];exact eZ hlt
   have kI:=ag (sY (size:=size) hlt HR.out);have N1:=ag (Am HS HRI HG hlt HR.out);rw [hy]at kI N1;have NY:=ag (HG.1 y wG).2;obtain⟨iy,hk1⟩:=HG.2.1 y wG;have hbr:=pG hs1 (HG.2.1 y wG);obtain⟨M,hM⟩:=bG (y.key%1048576);obtain⟨Q,hQ⟩:=bG (y.key/1048576);obtain⟨R,hR⟩:=bG (M%size);obtain⟨D,hD⟩:=bG (M/size);have Jd:0<=M/\M<1048576:=ai;have hQ0:0<=Q/\Q<1048576:=ai;have hR0:0<=R/\R<size:=by rw [<-hR];exact⟨Int.emod_nonneg _ ai,Int.emod_lt_of_pos _ hs1⟩
   have hDS:D*size=M-R:=by rw [<-hD,<-hR,Int.emod_def,Int.mul_comm];omega
   have hD0:0<=D/\D<=M:=by rw [<-hD];exact⟨Int.ediv_nonneg Jd.1 ai,Int.ediv_le_self _ Jd.1⟩
   have m1:y.key.tmod 1048576=M:=by rw [tJ iy];exact hM
   have m2:y.key.tdiv 1048576=Q:=by rw [Dw iy];exact hQ
   have m3:M.tdiv size=D:=by rw [Dw Jd.1];exact hD
   have m4:IntKind.i64.wrap M=M:=bI _ ai;have m5:IntKind.i64.wrap Q=Q:=bI _ ai;have m6:IntKind.i64.wrap D=D:=bI _ ai;have m7:IntKind.i64.wrap (Q*1048576)=Q*1048576:=bI _ ai;have hbk:bucket size y=⟨y.key-R,y.is⟩:=by simp [bucket,hM,hR]
   rw [hbk]at kI N1 hbr;obtain⟨P,hP⟩:=bG (y.key-R);rw [hP]at kI N1 hbr;obtain⟨T,hT⟩:=bG (D*size);have m8:IntKind.i64.wrap (D*size)=T:=by rw [hT];exact bI _ ai
   have m9:IntKind.i64.wrap (Q*1048576+T)=P:=by
    have:Q*1048576+T=P:=ai;rw [this];exact bI _ (by have:=hbr.1;have:=hbr.2;simp only at *;omega)
   have DU:=ag (eF hs1 HG);obtain⟨g1,g2,g3,g4⟩:=qc (P:=(l.take k).map (bucket size)) (by have:=DU.out;rw [<-rG k l,sH]at this;exact this.left) HR.out;have TU:=ag g1;have jD:=ag g2;have jA:=fun w'=>cN (ab:=eb) (aR:=cM) (n:=l.length) (cap:=cap) (show (k:Int)=((k:Nat):Int) by rfl) hlt w';have hwz:eb<wr:=ai;have hs0:(size == 0)=false:=by simp;omega
   have hes:es.length<=1000000:=ai;obtain⟨W1,hW1⟩:=cd (wr.alloc (.cells #[af y.key,af y.is.c,af y.is.s,af y.is.mi,af y.is.ma,af y.is.t,af y.is.l] 107));have hb1:aq wr W1:=by rw [hW1];exact aj
   have hz1:W1=wr.heap.size+1:=by rw [hW1];simp
   have k1:W1.heap[wr.heap.size]?=some (.cells #[af y.key,af y.is.c,af y.is.s,af y.is.mi,af y.is.ma,af y.is.t,af y.is.l] 107):=by rw [hW1];exact au _ _ rfl
   have HX:=ag fun w' (hb:aq W1 w')=>(by
    have b0:w'.heap[wr.heap.size]?=_:=(hb.block _ ai).trans k1;simp [World.cell?,b0]:(w',wr.heap.size,0,y.key)/\(w',wr.heap.size,1,y.is.c)/\(w',wr.heap.size,2,y.is.s)/\(w',wr.heap.size,3,y.is.mi)/\(w',wr.heap.size,4,y.is.ma)/\(w',wr.heap.size,5,y.is.t)/\(w',wr.heap.size,6,y.is.l))
   have xh:aq w W1:=aF hb hb1 hsz;clear jF h5 hy wG hbr hM hR hQ hD Jd hR0 hQ0 hD0 hbk g1 g2 g3 g4 hT hDS hP;go_upto_region 5 with (fail);rw [<-hW1];clear hW1 k1 y0 y1 y2 y3 y4 y5 y6 jA;obtain⟨x0,-,-,-,-,-,-⟩:=HX W1 (aW _ _);go_cut [9] (fun p wx=>p=af P/\aq W1 wx)
   case first=>
    go_quiet (fail);go_wp2;go_meet;exact⟨rfl,aj⟩
   case rest=>
    obtain⟨rfl,hbc⟩:=hcut
    rename World=>w9
    obtain⟨x0,x1,x2,x3,x4,x5,x6⟩:=HX _ hbc;clear m1 m2 m3 m4 m5 m6 m7 m8 m9 hs0;have cT:=aF xh hbc (by have:=hb1.size;omega);have hzc:=hbc.size;have yo:ay w w9 (ah so es sc) es:=(hown.below hb1 aO).below hbc aO;have Qc:=N1.out;obtain h0|⟨j,hj⟩:es.length=0\/∃j,es.length=j+1:=by cases h:es.length;exact .inl rfl;exact .inr ⟨_,rfl⟩
    ·obtain rfl:=yX h0;have HN:=ag (show ft ((l.take (k+1)).map (bucket size))=some [⟨P,y.is⟩]from kI);clear Qc h0;go_wp2_with ((at_builtin;refine cg rfl (.tmp 45) (.tmp 50) rfl w _ [] rfl jY ⟨_,0,none⟩ ⟨P,y.is⟩ rfl (fun j u h=>ik h) hes dI ?_;intro v3 w3 qd hg3;have hb3:=hg3 w w aj aO));go_roundg (l-(k+1))
     case measure=>omega
     case rel=>exact⟨k+1,_,ai,rfl,by go_num,qd,HN,hb3⟩
    ·have n1:IntKind.i64.wrap ((es.length:Int)-1)=(j:Int):=(by rw [hj];rw [show (((j+1:Nat):Int)-1)=(j:Int) by omega];exact bI _ ai);have n2:decide ((j:Int)<0)=false:=bh;have hjl:j<es:=ai;obtain⟨hl,⟨h0,h0'⟩|⟨g,cap',cur,hv,hBg,hg,-⟩⟩:=id yo.row
     ·omega
     injection hv with hv1 _ hv3;subst hv1 hv3;have Pg:g<w9:=(yo.lt g rfl).2;obtain⟨_,_,hv,-,-,-,-,h5⟩:=yo.at ai;injection hv with hv1 _ hv3;subst hv3;obtain⟨eb2,Sq,ll,YB,Pj⟩:=h5 ai;rw [<-hv1]at ll;obtain⟨rfl,rfl⟩:g=eb2/\0=Sq:=(by injection ll with ll;injection ll with a1 a2;exact⟨a1,a2⟩);obtain⟨z0,z1,z2,z3,z4,z5,z6⟩:=br (aW _ _) YB Pj hjl;simp only [iR]at z0 z1 z2 z3 z4 z5 z6;have I6:=fun w'=>cN (ab:=g) (aR:=0) (n:=es.length) (cap:=sc) (show (j:Int)=((j:Nat):Int) by rfl) hjl w';simp only [iR]at I6;obtain⟨z,hz⟩:=bG (es[j]);rw [hz]at z0 z1 z2 z3 z4 z5 z6;by_cases hkk:z.key=P
     ·have HI:=ag (kI.trans (CB hjl TU (EM TU hj (by rw [hz];exact hkk)) (by rw [hz];exact hkk)));have Uk:=ag (jD _ (eZ hjl));have ZR:=ag (show es[j].key=P by rw [hz];exact hkk);rw [hz]at HI Uk;have e3:(z.key != P)=false:=(by simp [hkk]);obtain⟨u,hu⟩:=bG (z.is);rw [hu]at z1 z2 z3 z4 z5 z6 HI Uk;obtain⟨J,E,CW⟩:∃J E,bF u y.is=(J,E):=⟨_,_,rfl⟩;have ze:=ag CW;have HM:=ag fun w'=>(by have:=lT u y.is w';rw [CW]at this;exact this :
       Calls Tryz.prog 15 #[.agg #[af u.c,af u.s,af u.mi,af u.ma,af u.t,af u.l], .agg #[af y.is.c,af y.is.s,af y.is.mi,af y.is.ma,af y.is.t,af y.is.l]] w' fun e' w5=>e' = .returned (.tuple #[.agg #[af J.c,af J.s,af J.mi,af J.ma,af J.t,af J.l],af E])/\aq w' w5)
      have O1:wr<w9.heap.size:=ai;have HS9:=ag fun w' (hb:aq w9 w')=>(by
       have gc:∀b o,b<w9.heap.size->w'.cell? ⟨b,o,none⟩=w9.cell? ⟨b,o,none⟩:=fun b o h=>hb.cell (p:=⟨b,o,none⟩) h;rw [gc _ _ O1,gc _ _ O1,gc _ _ O1,gc _ _ O1,gc _ _ O1,gc _ _ O1,gc _ _ Pg,gc _ _ Pg,gc _ _ Pg,gc _ _ Pg,gc _ _ Pg,gc _ _ Pg];exact⟨x1,x2,x3,x4,x5,x6,z1,z2,z3,z4,z5,z6⟩:(w',wr.heap.size,1,y.is.c)/\(w',wr.heap.size,2,y.is.s)/\(w',wr.heap.size,3,y.is.mi)/\(w',wr.heap.size,4,y.is.ma)/\(w',wr.heap.size,5,y.is.t)/\(w',wr.heap.size,6,y.is.l)/\(w',g,j*7+1,u.c)/\(w',g,j*7+2,u.s)/\(w',g,j*7+3,u.mi)/\(w',g,j*7+4,u.ma)/\(w',g,j*7+5,u.t)/\(w',g,j*7+6,u.l))
      have b0:aq w9 w9.drew:=(aW _ _).drew;have hs0:=HS9 _ b0;clear Pj h5 CW hz hu ll hv1 hl Qc HX hkk hj;go_upto_region 9 with (fail);clear x0 x1 x2 x3 x4 x5 x6 z0 z1 z2 z3 z4 z5 z6 n1 n2 e3;go_cut [11,12] (fun p c wx=>∃g2:Nat,p = .pointer (some (g2,0))/\c=af E/\wx.heap[g2]?=some (.cells #[af J.c,af J.s,af J.mi,af J.ma,af J.t,af J.l] 39)/\w9<=g2/\aq w9 wx)
      case first=>
       go_region_held3 (fun w'=>(w',wr.heap.size,1,y.is.c)/\(w',wr.heap.size,2,y.is.s)/\(w',wr.heap.size,3,y.is.mi)/\(w',wr.heap.size,4,y.is.ma)/\(w',wr.heap.size,5,y.is.t)/\(w',wr.heap.size,6,y.is.l)/\(w',g,j*7+1,u.c)/\(w',g,j*7+2,u.s)/\(w',g,j*7+3,u.mi)/\(w',g,j*7+4,u.ma)/\(w',g,j*7+5,u.t)/\(w',g,j*7+6,u.l))
        (first|with_reducible exact hs0|(with_reducible refine HS9.out _ ?_;exact aj))
        (first
         |(go_at_call 15;(with_reducible refine(HM.out _).mono ?_);rintro e' w5 ⟨rfl,BE⟩;guard_hyp BE:Below w9.drew.heap.size w9.drew w5;have cy:aq w9 w5:=aF (show aq w9 _ from aj) BE dI;have LH:=cy.size)
         |(go_at_call 15;(with_reducible refine(HM.out _).mono ?_);rintro e' w5 ⟨rfl,BE⟩;obtain⟨q5,r0,r1,r2,r3,r4,r5,rf⟩:=vg BE;have cy:aq w9 w5:=aF (show aq w9 _ from aj) BE dI;have LH:=cy.size))
       all_goals
        go_wp2_with fail;go_meet;refine⟨_,rfl,rfl,?_,?_,?_⟩
        ·first
         |with_reducible exact au _ _ rfl
         |with_reducible exact jB q5
        ·(first|omega|(simp;done)|(simp;omega))
        ·exact aj
      case rest=>
       obtain⟨g2,rfl,rfl,hg2,hgg,GU⟩:=hcut;have Wz:ay w wc (ah g es sc) es:=yo.below GU aO;have ah5:aq w wc:=aF cT GU ai;have hzd:=GU.size;obtain⟨j0,j1,j2,j3,j4,j5,-⟩:=cJ hg2;obtain⟨-,-,-,-,-,-,o1,o2,o3,o4,o5,o6⟩:=HS9 _ GU;have zl:∀o,wc.frozen? ⟨g,o,none⟩=false:=World.ownsRow.frozenAt Wz.row;clear hs0 b0 hown yo GU hg2;by_cases hcc:u.c+y.is.c<=1073741824
       ·obtain⟨rfl,rfl⟩:=Prod.mk.inj (ze.symm.trans (qh Uk NY hcc).1);have HI':=ag (HI.trans (aw hcc));generalize u.join y.is=J at *;have Gx:=ag (Wz.set (y:=J) hjl);rw [ZR]at Gx;clear hcc ze HM HI;go_wp2;go_roundg (l-(k+1))
        case measure=>omega
        case rel=>exact⟨k+1,_,ai,rfl,by go_num,Gx,HI',oF⟩
       ·obtain⟨rfl,rfl⟩:=Prod.mk.inj (ze.symm.trans ((iL Uk NY).trans (ar hcc)));have HN:=ag (xR (l:=l) (size:=size) (k:=k+1) (HI.trans (ar hcc)));clear hcc ze HM HI;go_wp2
        go_ret2
        rw [HN];exact⟨ah5,rfl⟩
     ·have e3:(z.key != P)=true:=(by simp [hkk]);have HN:=ag (show ft ((l.take (k+1)).map (bucket size))=some (es++[⟨P,y.is⟩])from kI.trans (CC fun e he=>by
       have h1:=Qc _ (eZ hjl);rw [hz]at h1;obtain⟨t,ht,rfl⟩:=nr he;by_cases htj:t=j
       ·subst htj;rw [hz];show z.key<P;have:z.key<=P:=h1;omega
       ·have h2:=sI.1 TU t j ht hjl ai;rw [hz]at h2;show _<P;have:z.key<=P:=h1;omega))
      clear Pj h5 hz ll hv1 hl Qc HX hkk hj;go_wp2_with ((at_builtin;refine cg rfl (.tmp 45) (.tmp 50) rfl w _ es rfl jY ⟨_,0,none⟩ ⟨P,y.is⟩ rfl (fun j u h=>ik h) hes dI ?_;intro v3 w3 qd hg3;have hb3:=hg3 w w aj aO));go_roundg (l-(k+1))
      case measure=>omega
      case rel=>exact⟨k+1,_,ai,rfl,by go_num,qd,HN,hb3⟩
  ·have HN:=ag (show bw l size=some es by
    have:=HR.out;rw [iM ai]at this;exact this)
   go_wp2
   go_ret2
   rw [HN];exact⟨hb,_,rfl,hown⟩
end
section
variable {b:Ba}
theorem UT {l:List aH} {k:Nat} (hl:cx b=some l) (hk:k<3) (h:kK l (b.tree k) (bp k)=false):aS b=false:=
 eu fun hB=>by
  obtain⟨l',e,ht⟩:=hB.trees;rw [hl]at e;simp only [iJ]at e;subst e;rw [ht k hk]at h;cases h
noncomputable def mS (b:Ba):Int:=if aS b=true then 0 else 7
theorem iA (h:aS b=false):mS b=7:=by simp [mS,h]
theorem eU (h:aS b=true):mS b=0:=by simp [mS,h]
theorem gP {v:Value} {w:World} (h:bR w v b) (hst:∀s∈b.names,s.size<=140737488351232) (hsz:cI w) :
  Calls Tryz.prog 66 #[v] w fun e w'=>e = .returned (af (mS b))/\aq w w':=by
 obtain⟨sa,sc,g0,l0,p0,g1,l1,p1,g2,l2,p2,rfl,hn,dE,T0,T1,T2⟩:=h.open;obtain⟨W0,hW0⟩:=cd (w.alloc (.cells (aL sa b.names sc g0 l0 p0 g1 l1 p1 g2 l2 p2 b) 30));have hb0:aq w W0:=by rw [hW0];exact aj
 have hz0:W0=w.heap.size+1:=by rw [hW0];simp
 have k0:W0.heap[w.heap.size]?=some (.cells (aL sa b.names sc g0 l0 p0 g1 l1 p1 g2 l2 p2 b) 30):=by rw [hW0];exact au _ _ rfl
 have HX:=ag fun w' (hb:aq W0 w')=>(by
  have b0:w'.heap[w.heap.size]?=_:=(hb.block _ ai).trans k0;simp [World.cell?,b0] :
  w'.cell? (w,0)=some (ah sa b.names sc)/\w'.cell? (w,1)=some (ah g0 l0 p0)/\(w',w.heap.size,2,b.t0.root)/\w'.cell? (w,3)=some (ah g1 l1 p1)/\(w',w.heap.size,4,b.t1.root)/\w'.cell? (w,5)=some (ah g2 l2 p2)/\(w',w.heap.size,6,b.t2.root)/\(w',w.heap.size,7,b.floor))
 have HB:=ag fun w' (hb:aq W0 w')=>(aF hb0 hb hb0.size:aq w w');have Qg:=ag fun w' (hb:aq W0 w')=>(lq (lo:=0) (hi:=1099511627776) (T0 w' (HB w' hb))).mono fun e w' hp=>kG.allT hp;have S9:=ag fun w' (hb:aq W0 w')=>(lq (lo:=0) (hi:=1099511627776) (T1 w' (HB w' hb))).mono fun e w' hp=>kG.allT hp;have uW:=ag fun w' (hb:aq W0 w')=>(lq (lo:=0) (hi:=1099511627776) (T2 w' (HB w' hb))).mono fun e w' hp=>kG.allT hp;have VZ:=ag h;have VM:=ag dE;have HST:=ag hst;have ry:=ag fun w' (hb:aq W0 w')=>(hsz.below (HB w' hb):cI w');obtain⟨x0,x1,x2,x3,x4,x5,x6,x7⟩:=HX W0 (aW _ _);obtain⟨-,s0,s1,s2⟩:=ry W0 (aW _ _);clear T0 T1 T2 h dE hst hsz;go_enter Tryz.func66,Tryz.ntmps66;go_upto_region 1 with (fail);rw [<-hW0];clear hW0 k0;by_cases i1:b.names.length<=16
 ·have e1:decide ((16:Int)<(b.names.length:Int))=false:=by simp;omega
  have Xi:=ag i1;by_cases i2:0<=b.floor
  ·have e2:decide (b.floor<0)=false:=by simp;omega
   have ZW:=ag i2;by_cases XU:b.floor<=1048575
   ·have e2':decide (1048575<b.floor)=false:=(by simp;omega);have aih:=ag XU;obtain⟨R,hR⟩:=bG (b.floor%3600);have m1:b.floor.tmod 3600=R:=(by rw [tJ i2];exact hR);have m2:IntKind.i64.wrap R=R:=bI _ ai;have HR:=ag hR;by_cases i3:R=0
    ·have e3:(R != 0)=false:=(by simp [i3]);have HI3:=ag (HR.trans i3);clear i1 i2 XU i3 hR;go_upto_region 4 with (fail);clear x0 x1 x2 x3 x4 x5 x6 x7 s0 s1 s2 m1 m2 e1 e2 e2' e3
     go_loopg [38] b.names (fun g i wr=>∃k:Nat,k<=b.names/\g=b.names-k/\i=af k/\Hid (∀j,j<k->Dy b j)/\aq W0 wr)
     case atStart=>exact⟨0,eY _,rfl,rfl,ag (fun j hj=>ai),aW _ _⟩
     case round=>
      obtain⟨k,hk,rfl,rfl,vZ,hb⟩:=hrel;obtain⟨x0,x1,x2,x3,x4,x5,x6,x7⟩:=HX _ hb;by_cases hlt:k<b.names
      ·obtain⟨_,_,va,hcap,-,-,-,a5⟩:=VM.out;obtain⟨ab,aR,ha,qy,ac⟩:=a5 ai;injection va with Xv _ Xu;subst Xv Xu ha;have e0:=nE (HB _ hb) qy ac hlt;obtain⟨s,hs⟩:=bG (b.names[k]);rw [hs]at e0;have HS:=ag hs;have jA:=fun w'=>qV (ab:=ab) (aR:=aR) (n:=b.names.length) (cap:=sc) (show (k:Int)=((k:Nat):Int) by rfl) hlt w';have P5:=ag fun w'=>xX s w' (HST s (by rw [<-hs];exact eZ hlt));have HCO:=ag fun w' (hb:aq W0 w')=>Bf (s:=s) (fX.take (VM.below (HB w' hb) aO) (Nat.le_of_lt hlt));have hks:(k:Int)<=(sc:Int):=ai;have iy:(0:Int)<=(k:Int):=ai;have am6:k<=sc:=ai;clear hs a5 ac
       cases pR:dt s with
       |false=>
        have mB:=ag (iA (eu fun h:kj b=>by have:=(h.names k hlt).1;rw [HS,pR]at this;cases this));rw [pR]at P5;clear pR;go_wp2_with ((go_at_call 67;(with_reducible refine(P5.out _).mono ?_);rintro e w2 ⟨rfl,hb2⟩));go_ret;rw [mB];exact⟨rfl,HB _ (aF hb hb2 hb.size)⟩
       |true=>
        have ZM:=ag pR;rw [pR]at P5;clear pR;have HPC:=ag (iE (b.names.take k) s);obtain⟨p,hp⟩:=bG (bt (b.names.take k) s);rw [hp]at HCO HPC;clear hp;by_cases hp0:0<=p
        ·have Wx:decide (0<=p)=true:=(by simp [hp0]);have mB:=ag (iA (eu fun h:kj b=>by
          rcases HPC.out with ⟨j,hj,_,hjs,_⟩|⟨h1,_⟩
          ·have hjk:j<k:=(by rw [gh]at hj;omega);rw [zW]at hjs;exact(h.names k hlt).2 j hjk (by rw [HS];exact hjs)
          ·omega))
         rw [Wx]at HCO;clear hp0 Wx;go_wp2_with (first|(go_at_call 67;(with_reducible refine(P5.out _).mono ?_);rintro e w2 ⟨rfl,hb2⟩;have hb3:=aF hb hb2 hb.size;obtain⟨x0,-⟩:=HX _ hb3)|(go_at_call 101;(with_reducible refine(HCO.out _ hb3).mono ?_);rintro e w4 ⟨rfl,hb4⟩;have cy:=aF hb3 hb4 hb3.size));go_ret;rw [mB];exact⟨rfl,HB _ cy⟩
        ·have Wx:decide (0<=p)=false:=(by simp;omega);have Te:=ag (show ∀j,j<k+1->Dy b j from fun j hj=>by
          by_cases hjk:j=k
          ·subst hjk;intro h;refine⟨by rw [HS];exact ZM,fun m hm=>?_⟩;rcases HPC.out with ⟨q,_,h1,_⟩|⟨_,h2⟩
           ·omega
           ·have:=h2 m (by rw [gh];omega);rw [zW]at this;rw [HS];exact this
          ·exact vZ.out j ai)
         rw [Wx]at HCO;clear hp0 Wx;go_wp2_with (first|(go_at_call 67;(with_reducible refine(P5.out _).mono ?_);rintro e w2 ⟨rfl,hb2⟩;have hb3:=aF hb hb2 hb.size;obtain⟨x0,-⟩:=HX _ hb3)|(go_at_call 101;(with_reducible refine(HCO.out _ hb3).mono ?_);rintro e w4 ⟨rfl,hb4⟩;have cy:=aF hb3 hb4 hb3.size));go_roundg (b.names-(k+1))
         case measure=>omega
         case rel=>exact⟨k+1,ai,rfl,by go_num,Te,cy⟩
      ·have ai7:=ag (show BF b from fun i hi=>vZ.out i ai hi);have HPO:=ag (K6 (VZ.below (HB _ hb)));have hbz:=hb.size
       cases hbk:cx b with
       |none=>
        have mB:=ag (iA (eu fun h:kj b=>by obtain⟨l,e,_⟩:=h.trees;rw [hbk]at e;cases e));rw [hbk]at HPO;clear hbk;go_wp2_with ((go_at_call 102;(with_reducible refine HPO.out.mono ?_);rintro e w5 ⟨cy,rfl⟩;have lI:=aF hb cy hb.size));go_ret;rw [mB];exact⟨rfl,HB _ lI⟩
       |some l=>
        have Tn:=ag hbk;have Th:=ag (fI hbk);have hll:l.length<=50000:=(fI hbk).2.2.2;rw [hbk]at HPO;clear hbk;go_upto_region 12 with ((go_at_call 102;(with_reducible refine HPO.out.mono ?_);rintro e w5 ⟨cy,v5,rfl,fY⟩;have lI:=aF hb cy hb.size;obtain⟨s5,c5,rfl⟩:=fY.isSlice;obtain⟨-,z0,z1,z2⟩:=ry _ lI));clear x0 x1 x2 x3 x4 x5 x6 x7;have vQ:=lI.size;go_wp2_with fail;clear z0 z1 z2
        go_loopg [63] 3 (fun g i wr=>∃k:Nat,k<=3/\g=3-k/\i=af k/\Hid (∀j,j<k->kK l (b.tree j) (bp j)=true)/\aq w5 wr)
        case atStart=>exact⟨0,ai,rfl,rfl,ag (fun j hj=>ai),aW _ _⟩
        case round=>
         obtain⟨k,hk,rfl,rfl,rJ,hbr⟩:=hrel;have hbk:=aF lI hbr vQ;by_cases tz:k<3
         ·obtain⟨K,hK⟩:=cd (k);have rM:=ag fun w' (hb:aq w5 w')=>Ea (size:=bp k) ((fY.below hb aO).at ai) Th.2 Th.1 (by unfold bp;split;exact .inl rfl;split;exact .inr (.inl rfl);exact .inr (.inr rfl));have mB:=ag fun hT=>iA (UT Tn (k:=k) tz hT);have Bh:=ag fun(hT:kK l (b.tree k) (bp k)=true)=>(fun j hj=>by
           by_cases hjk:j=k
           ·subst hjk;exact hT
           ·exact rJ.out j ai:∀j,j<k+1->kK l (b.tree j) (bp j)=true)
          rcases hro:bw l (bp k)with _|a
          all_goals rcases hal:allT (b.tree k)with _|c
          all_goals first|(have HT:=BP (t:=b.tree k) hro)|(have HT:=BO (l:=l) (z:=bp k) hal)|(have Kv:=ag (aJ (vH (eF (eB k) Th.2) hro).2.2 (fg hal).2.2.2);rcases hac:decide (a=c);all_goals have HT:=(qP hro hal).trans hac)
          all_goals
           first|(have HN:=ag (mB HT))|(have HN:=ag (Bh HT))
           rw [hro]at rM;clear hro HT mB Bh;obtain rfl|rfl|rfl:k=0\/k=1\/k=2:=ai
           all_goals
            first|(have GI:=Qg;rw [show allT b.t0=_ from hal]at GI;rw [show bp 0=1 from rfl]at rM;have ou:=CF)|(have GI:=S9;rw [show allT b.t1=_ from hal]at GI;rw [show bp 1=60 from rfl]at rM;have ou:=CE)|(have GI:=uW;rw [show allT b.t2=_ from hal]at GI;rw [show bp 2=3600 from rfl]at rM;have ou:=CD)
            clear hal;go_wp2_with (first|(go_at_call 103;(with_reducible refine(rM.out _ hbr).mono ?_);(first|(rintro e wq ⟨hbq,rfl⟩)|(rintro e wq ⟨hbq,vq,rfl,hoq⟩;obtain⟨sQ,cQ,rfl⟩:=hoq.isSlice));have LY:=aF hbr hbq hbr.size;have R5:=aF lI LY vQ;obtain⟨x0,x1,x2,x3,x4,x5,x6,x7⟩:=HX _ R5)|(go_at_call 74;(with_reducible refine(GI.out _ R5).mono ?_);(first|(rintro e wa ⟨wJ,E,hE,rfl⟩)|(rintro e wa ⟨wJ,va,rfl,Ya⟩;obtain⟨sA,cA,rfl⟩:=Ya.isSlice));have CU:=aF LY wJ LY.size;have acm:=aF lI CU vQ)|(go_at_call 104;have tM:=El ((hoq.below wJ aO).at (by have:=Kv.1;omega)) (Ya.at (by have:=Kv.2;omega));rw [hac]at tM;(with_reducible refine tM.mono ?_);rintro e ws ⟨rfl,hbs⟩;have CU:=aF CU hbs CU.size;have acm:=aF lI CU vQ))
            first
             |go_ret
              rw [HN];exact⟨rfl,HB _ acm⟩
             |go_roundg (3-(K+1))
              case measure=>omega
              case rel=>exact⟨K+1,ai,rfl,by subst hK;go_num,by subst hK;exact HN,CU⟩
         ·obtain rfl:k=3:=ai;have xE:=ag (eU (lZ ⟨Xi,ZW,aih,HI3,ai7,l,Tn,rJ.out⟩));go_wp2;go_ret;rw [xE];exact⟨rfl,HB _ hbk⟩
    ·have e3:(R != 0)=true:=(by simp [i3]);have mB:=ag (iA (eu fun h:kj b=>i3 (HR.symm.trans h.Sp)));clear i1 i2 XU i3 hR;go_wp2;go_ret;rw [mB];exact⟨rfl,hb0⟩
   ·have e2':decide (1048575<b.floor)=true:=(by simp;omega);have mB:=ag (iA (eu fun h:kj b=>XU h.TN));clear i1 i2 XU;go_wp2;go_ret;rw [mB];exact⟨rfl,hb0⟩
  ·have e2:decide (b.floor<0)=true:=by simp;omega
   have mB:=ag (iA (eu fun h:kj b=>i2 h.fl0));clear i1 i2;go_wp2;go_ret;rw [mB];exact⟨rfl,hb0⟩
 ·have e1:decide ((16:Int)<(b.names.length:Int))=true:=by simp;omega
  have mB:=ag (iA (eu fun h:kj b=>i1 h.n16));clear i1;go_wp2;go_ret;rw [mB];exact⟨rfl,hb0⟩
end
end Go.Proofs.YtmljjfhgciaceaaGreatDoor
