/- Texts of mine that come as one: ProRol ProCheck. -/
import Derived.Test.YtmljjfhgciaceaaGreatDoorHd
import Derived.Test.YtmljjfhgciaceaaGreatDoorPA
import Derived.Test.YtmljjfhgciaceaaGreatDoorMerged
import Derived.StillTailTactics
import Derived.Deep.CutBlock
import Derived.BigQuiet
import Derived.Deep.QuietTactic
import Derived.Test.YtmljjfhgciaceaaGreatDoorPS
import Derived.Test.YtmljjfhgciaceaaGreatDoorBK
namespace Go.Proofs.YtmljjfhgciaceaaGreatDoor
open Go.RowKit
section
set_option maxRecDepth 100000
set_option maxHeartbeats 1000000
variable {es l:List aA} {k:Nat}
theorem EM {size:Int} (hs:size=1\/size=60\/size=3600) {a b:aA} (h:a.key<b.key) (_h0:0<=a.key):(bucket size a).key<=(bucket size b).key:=by
 show a.key-a.key%1048576%size<=b.key-b.key%1048576%size
 have h1:=Int.emod_nonneg (a.key%1048576) (show size≠0 by omega)
 have h2:=mod_le (Int.emod_nonneg b.key (show (1048576:Int)≠0 by decide)) (show 0<size by omega)
 by_cases hq:a.key/1048576<b.key/1048576
 ·omega
 ·rcases hs with rfl|rfl|rfl <;> omega
theorem zg {x:aA}:∀{es:List aA},(∀e∈es,e.key<x.key)->jJ es x=some (es++[x])
 |[],_=>rfl
 |e::es,h=>by
  have h1:=h e bt
  show (if e.key<x.key then _ else _)=_
  rw [ar h1,zg (es:=es) fun y hy=>h y (by simp [hy])];rfl
theorem A8 (hs:aX es) {j:Nat} (hj:es.length=j+1) {x:Int} (hx:es[j].key=x):ic es x=j:=
 xX af (fun t ht Wk=>by have:=px.1 hs t j ht af Wk;omega) (fun t ht hjt=>by
  obtain rfl:t=j:=af
  omega)
theorem xa {size:Int} (hs:size=1\/size=60\/size=3600) (hr:aX l) (hg:dY l) (hk:k<l.length) (h:fo ((l.take k).map (bucket size))=some es):∀e∈es,e.key<=(bucket size l[k]).key:=by
 intro e he
 have hs0:0<size:=af
 have hP:dY ((l.take k).map (bucket size)):=by
  have:=eA hs0 hg;rw [<-wL k l,wJ]at this;exact this.left
 obtain⟨h1,-⟩:=fT hP.1 h
 rw [h1]at he
 obtain⟨y,hy|hy,hyk⟩:=zS he
 ·obtain⟨z,hz,rfl⟩:=pn.1 hy
  obtain⟨i,hi,rfl⟩:=kS hz
  have hi':i<k:=by rw [fx]at hi;omega
  rw [wH]at hyk
  have h2:=px.1 hr i k af hk hi'
  have h3:=EM hs h2 (hg.2.1 _ (gj _)).1
  omega
 ·cases hy
theorem pK {size:Int} (hk:k<l.length) (h:fo ((l.take k).map (bucket size))=some es):fo ((l.take (k+1)).map (bucket size))=jJ es (bucket size l[k]):=by
 rw [mf hk,wJ,List.map_cons,List.map_nil,Bz,h];rfl
theorem uo {size:Int} (h:fo ((l.take k).map (bucket size))=none):bV l size=none:=by
 unfold bV
 conv=>lhs;rw [<-wL k l,wJ]
 exact BA h
def Qx (B:Nat) (w:World) (r:Option (List aA)) (e:Ending) (w':World):Prop:=
 Below B w w'/\(match r with|none=>e = .returned (.tuple #[.slice none 0 0, .int .i64 1])|some l=>∃v',e = .returned (.tuple #[v', .int .i64 0])/\au B w' v' l)
theorem oh {v:Value} {size:Int} {w:World} (h:ft w v l) (hg:dY l) (hrise:aX l) (hs:size=1\/size=60\/size=3600) :
  Calls Tryz.prog 103 #[v, .int .i64 size] w (Qx w.heap.size w (bV l size)):=by
 obtain⟨ao,cap,rfl⟩:=h.isSlice
 have HE:=hdd h
 have HG:=hdd hg
 have HRI:=hdd hrise
 have HS:=hdd hs
 have hs1:0<size:=af
 have hs2:size<=3600:=af
 have hlen:l.length<=50000:=hg.2.2
 clear h hg hrise hs
 go_enter Tryz.func103,Tryz.ntmps103
 go_wp2_with fail
 go_loopg [6,15] l.length (fun g out i wr=>∃(k:Nat) (es:List aA),k<=l.length/\g=l.length-k/\i = .int .i64 k/\au w.heap.size wr out es/\Hid (fo ((l.take k).map (bucket size))=some es)/\ah w wr)
 case atStart=>exact⟨0,[],jf _,rfl,rfl,au.nil _ _,hdd rfl,aL _ _⟩
 case round=>
  obtain⟨k,es,hk,rfl,rfl,hown,HR,hb⟩:=hrel
  obtain⟨so,sc,rfl⟩:=hown.isSlice
  have hsz:=hb.size
  by_cases hlt:k<l.length
  ·obtain⟨_,_,hv,-,-,-,-,h5⟩:=HE.out
   injection hv with hv1 _ hv3
   subst hv1 hv3
   obtain⟨eb,aH,lQ,r8,nD⟩:=h5 af
   subst lQ
   obtain⟨y0,y1,y2,y3,y4,y5,y6⟩:=bT hb r8 nD hlt
   obtain⟨y,hy⟩:=bC (l[k])
   rw [hy]at y0 y1 y2 y3 y4 y5 y6
   have CN:y∈l:=by rw [<-hy];exact gj hlt
   have rJ:=hdd (pK (size:=size) hlt HR.out)
   have Ja:=hdd (xa HS.out HRI.out HG.out hlt HR.out)
   rw [hy]at rJ Ja
   have N0:=hdd (HG.out.1 y CN).2
   obtain⟨ie,hk1⟩:=HG.out.2.1 y CN
   have hbr:=pZ hs1 (HG.out.2.1 y CN)
   obtain⟨M,hM⟩:=bC (y.key%1048576)
   obtain⟨Q,hQ⟩:=bC (y.key/1048576)
   obtain⟨R,hR⟩:=bC (M%size)
   obtain⟨D,hD⟩:=bC (M/size)
   have K3:0<=M/\M<1048576:=af
   have Vl:0<=Q/\Q<1048576:=af
   have hR0:0<=R/\R<size:=by rw [<-hR];exact⟨Int.emod_nonneg _ af,Int.emod_lt_of_pos _ hs1⟩
   have hDS:D*size=M-R:=by rw [<-hD,<-hR,Int.emod_def,Int.mul_comm];omega
   have hD0:0<=D/\D<=M:=by rw [<-hD];exact⟨Int.ediv_nonneg K3.1 af,Int.ediv_le_self _ K3.1⟩
   have m1:y.key.tmod 1048576=M:=by rw [xR ie];exact hM
   have m2:y.key.tdiv 1048576=Q:=by rw [AO ie];exact hQ
   have m3:M.tdiv size=D:=by rw [AO K3.1];exact hD
   have m4:IntKind.i64.wrap M=M:=IntWalk.i64_in _ af
   have m5:IntKind.i64.wrap Q=Q:=IntWalk.i64_in _ af
   have m6:IntKind.i64.wrap D=D:=IntWalk.i64_in _ af
   have m7:IntKind.i64.wrap (Q*1048576)=Q*1048576:=IntWalk.i64_in _ af
   have hbk:bucket size y=⟨y.key-R,y.is⟩:=by simp [bucket,hM,hR]
   rw [hbk]at rJ Ja hbr
   obtain⟨P,hP⟩:=bC (y.key-R)
   rw [hP]at rJ Ja hbr
   obtain⟨T,hT⟩:=bC (D*size)
   have m8:IntKind.i64.wrap (D*size)=T:=by rw [hT];exact IntWalk.i64_in _ af
   have m9:IntKind.i64.wrap (Q*1048576+T)=P:=by
    have:Q*1048576+T=P:=af
    rw [this];exact IntWalk.i64_in _ (by have:=hbr.1;have:=hbr.2;simp only at *;omega)
   have Ia:=hdd (eA hs1 HG.out)
   obtain⟨g1,g2,g3,g4⟩:=pM (P:=(l.take k).map (bucket size)) (by have:=Ia.out;rw [<-wL k l,wJ]at this;exact this.left) HR.out
   have OS:=hdd g1
   have iC:=hdd g2
   have lA:=fun w'=>dC (ab:=eb) (bp:=aH) (n:=l.length) (cap:=cap) (show (k:Int)=((k:Nat):Int) by rfl) hlt w'
   have hwz:eb<wr.heap.size:=af
   have hs0:(size == 0)=false:=by simp;omega
   have hes:es.length<=1000000:=af
   obtain⟨W1,hW1⟩:=bR (wr.alloc (.cells #[.int .i64 y.key, .int .i64 y.is.c, .int .i64 y.is.s, .int .i64 y.is.mi, .int .i64 y.is.ma, .int .i64 y.is.t, .int .i64 y.is.l] 107))
   have hb1:ah wr W1:=by rw [hW1];exact ag
   have hz1:W1.heap.size=wr.heap.size+1:=by rw [hW1];simp
   have k1:W1.heap[wr.heap.size]?=some (.cells #[.int .i64 y.key, .int .i64 y.is.c, .int .i64 y.is.s, .int .i64 y.is.mi, .int .i64 y.is.ma, .int .i64 y.is.t, .int .i64 y.is.l] 107):=by rw [hW1];exact aq _ _ rfl
   have HX:=hdd fun w' (hb:ah W1 w')=>(by
    have b0:w'.heap[wr.heap.size]?=_:=(hb.block _ af).trans k1
    simp [World.cell?,b0]:w'.cell? ⟨wr.heap.size,0,none⟩=some (.int .i64 y.key)/\w'.cell? ⟨wr.heap.size,1,none⟩=some (.int .i64 y.is.c)/\w'.cell? ⟨wr.heap.size,2,none⟩=some (.int .i64 y.is.s)/\w'.cell? ⟨wr.heap.size,3,none⟩=some (.int .i64 y.is.mi)/\w'.cell? ⟨wr.heap.size,4,none⟩=some (.int .i64 y.is.ma)/\w'.cell? ⟨wr.heap.size,5,none⟩=some (.int .i64 y.is.t)/\w'.cell? ⟨wr.heap.size,6,none⟩=some (.int .i64 y.is.l))
   have Eb:ah w W1:=Below.trans' hb hb1 hsz
   clear nD h5 hy CN hbr hM hR hQ hD K3 hR0 Vl hD0 hbk g1 g2 g3 g4 hT hDS hP
   go_upto_region 5 with (fail)
   rw [<-hW1]
   clear hW1 k1 y0 y1 y2 y3 y4 y5 y6 lA
   obtain⟨x0,-,-,-,-,-,-⟩:=HX.out W1 (aL _ _)
   go_cut [9] (fun p wx=>p = .int .i64 P/\ah W1 wx)
   case first=>
    go_quiet (fail)
    go_wp2
    go_meet
    exact⟨rfl,ag⟩
   case rest=>
    obtain⟨rfl,hbc⟩:=hcut
    rename World=>w9
    obtain⟨x0,x1,x2,x3,x4,x5,x6⟩:=HX.out _ hbc
    clear m1 m2 m3 m4 m5 m6 m7 m8 m9 hs0
    have dh:=Below.trans' Eb hbc (by have:=hb1.size;omega)
    have hzc:=hbc.size
    have uF:au w.heap.size w9 (.slice so es.length sc) es:=(hown.below hb1 aI).below hbc aI
    have Rc:=Ja.out
    obtain h0|⟨j,hj⟩:es.length=0\/∃j,es.length=j+1:=by cases h:es.length;exact .inl rfl;exact .inr ⟨_,rfl⟩
    ·obtain rfl:=xQ h0
     have HN:=hdd (show fo ((l.take (k+1)).map (bucket size))=some [⟨P,y.is⟩]from rJ.out)
     clear Rc h0
     go_wp2_with ((at_builtin;refine fe rfl (.tmp 45) (.tmp 50) rfl w.heap.size _ [] rfl (by repeat (first|assumption|with_reducible refine au.alloc ?_ _|with_reducible refine au.drewN ?_ _|with_reducible refine au.drew ?_)) ⟨_,0,none⟩ ⟨P,y.is⟩ rfl (fun j u h=>mP h) hes (by first|omega|(simp;done)|(simp;omega)|(simp [aN];done)|(simp [aN];omega)) ?_;intro v3 w3 uu hg3;have hb3:=hg3 w.heap.size w ag aI))
     go_roundg (l.length-(k+1))
     case measure=>omega
     case rel=>exact⟨k+1,_,af,rfl,by go_num,uu,HN,hb3⟩
    ·have n1:IntKind.i64.wrap ((es.length:Int)-1)=(j:Int):=by rw [hj];rw [show (((j+1:Nat):Int)-1)=(j:Int) by omega];exact IntWalk.i64_in _ af
     have n2:decide ((j:Int)<0)=false:=bt
     have hjl:j<es.length:=af
     obtain⟨hl,⟨h0,h0'⟩|⟨g,cap',cur,hv,hBg,hg,-⟩⟩:=id uF.row
     ·omega
     injection hv with hv1 _ hv3
     subst hv1 hv3
     have J0:g<w9.heap.size:=(uF.lt g rfl).2
     obtain⟨_,_,hv,-,-,-,-,h5⟩:=uF.at af
     injection hv with hv1 _ hv3
     subst hv3
     obtain⟨eb2,Nk,lQ,Tq,J1⟩:=h5 af
     rw [<-hv1]at lQ
     obtain⟨rfl,rfl⟩:g=eb2/\0=Nk:=by injection lQ with lQ;injection lQ with a1 a2;exact⟨a1,a2⟩
     obtain⟨z0,z1,z2,z3,z4,z5,z6⟩:=bT (aL _ _) Tq J1 hjl
     simp only [iX]at z0 z1 z2 z3 z4 z5 z6
     have GG:=fun w'=>dC (ab:=g) (bp:=0) (n:=es.length) (cap:=sc) (show (j:Int)=((j:Nat):Int) by rfl) hjl w'
     simp only [iX]at GG
     obtain⟨z,hz⟩:=bC (es[j])
     rw [hz]at z0 z1 z2 z3 z4 z5 z6
     by_cases hkk:z.key=P
     ·have HI:=hdd (rJ.out.trans (ze hjl OS.out (A8 OS.out hj (by rw [hz];exact hkk)) (by rw [hz];exact hkk)))
      have O4:=hdd (iC.out _ (gj hjl))
      have BI:=hdd (show es[j].key=P by rw [hz];exact hkk)
      rw [hz]at HI O4
      have e3:(z.key != P)=false:=by simp [hkk]
      obtain⟨u,hu⟩:=bC (z.is)
      rw [hu]at z1 z2 z3 z4 z5 z6 HI O4
      obtain⟨J,E,GR⟩:∃J E,bL u y.is=(J,E):=⟨_,_,rfl⟩
      have CI:=hdd GR
      have HM:=hdd fun w'=>(by have:=jb u y.is w';rw [GR]at this;exact this :
       Calls Tryz.prog 15 #[.agg #[.int .i64 u.c, .int .i64 u.s, .int .i64 u.mi, .int .i64 u.ma, .int .i64 u.t, .int .i64 u.l], .agg #[.int .i64 y.is.c, .int .i64 y.is.s, .int .i64 y.is.mi, .int .i64 y.is.ma, .int .i64 y.is.t, .int .i64 y.is.l]] w' fun e' w5=>e' = .returned (.tuple #[.agg #[.int .i64 J.c, .int .i64 J.s, .int .i64 J.mi, .int .i64 J.ma, .int .i64 J.t, .int .i64 J.l], .int .i64 E])/\ah w' w5)
      have JX:wr.heap.size<w9.heap.size:=af
      have HS9:=hdd fun w' (hb:ah w9 w')=>(by
       have gc:∀b o,b<w9.heap.size->w'.cell? ⟨b,o,none⟩=w9.cell? ⟨b,o,none⟩:=fun b o h=>hb.cell (p:=⟨b,o,none⟩) h
       rw [gc _ _ JX,gc _ _ JX,gc _ _ JX,gc _ _ JX,gc _ _ JX,gc _ _ JX,gc _ _ J0,gc _ _ J0,gc _ _ J0,gc _ _ J0,gc _ _ J0,gc _ _ J0]
       exact⟨x1,x2,x3,x4,x5,x6,z1,z2,z3,z4,z5,z6⟩:w'.cell? ⟨wr.heap.size,1,none⟩=some (.int .i64 y.is.c)/\w'.cell? ⟨wr.heap.size,2,none⟩=some (.int .i64 y.is.s)/\w'.cell? ⟨wr.heap.size,3,none⟩=some (.int .i64 y.is.mi)/\w'.cell? ⟨wr.heap.size,4,none⟩=some (.int .i64 y.is.ma)/\w'.cell? ⟨wr.heap.size,5,none⟩=some (.int .i64 y.is.t)/\w'.cell? ⟨wr.heap.size,6,none⟩=some (.int .i64 y.is.l)/\w'.cell? ⟨g,j*7+1,none⟩=some (.int .i64 u.c)/\w'.cell? ⟨g,j*7+2,none⟩=some (.int .i64 u.s)/\w'.cell? ⟨g,j*7+3,none⟩=some (.int .i64 u.mi)/\w'.cell? ⟨g,j*7+4,none⟩=some (.int .i64 u.ma)/\w'.cell? ⟨g,j*7+5,none⟩=some (.int .i64 u.t)/\w'.cell? ⟨g,j*7+6,none⟩=some (.int .i64 u.l))
      have b0:ah w9 w9.drew:=(aL _ _).drew
      have hs0:=HS9.out _ b0
      clear J1 h5 GR hz hu lQ hv1 hl Rc HX hkk hj
      go_upto_region 9 with (fail)
      clear x0 x1 x2 x3 x4 x5 x6 z0 z1 z2 z3 z4 z5 z6 n1 n2 e3
      go_cut [11,12] (fun p c wx=>∃g2:Nat,p = .pointer (some ⟨g2,0,none⟩)/\c = .int .i64 E/\wx.heap[g2]?=some (.cells #[.int .i64 J.c, .int .i64 J.s, .int .i64 J.mi, .int .i64 J.ma, .int .i64 J.t, .int .i64 J.l] 39)/\w9.heap.size<=g2/\ah w9 wx)
      case first=>
       go_region_held3 (fun w'=>w'.cell? ⟨wr.heap.size,1,none⟩=some (.int .i64 y.is.c)/\w'.cell? ⟨wr.heap.size,2,none⟩=some (.int .i64 y.is.s)/\w'.cell? ⟨wr.heap.size,3,none⟩=some (.int .i64 y.is.mi)/\w'.cell? ⟨wr.heap.size,4,none⟩=some (.int .i64 y.is.ma)/\w'.cell? ⟨wr.heap.size,5,none⟩=some (.int .i64 y.is.t)/\w'.cell? ⟨wr.heap.size,6,none⟩=some (.int .i64 y.is.l)/\w'.cell? ⟨g,j*7+1,none⟩=some (.int .i64 u.c)/\w'.cell? ⟨g,j*7+2,none⟩=some (.int .i64 u.s)/\w'.cell? ⟨g,j*7+3,none⟩=some (.int .i64 u.mi)/\w'.cell? ⟨g,j*7+4,none⟩=some (.int .i64 u.ma)/\w'.cell? ⟨g,j*7+5,none⟩=some (.int .i64 u.t)/\w'.cell? ⟨g,j*7+6,none⟩=some (.int .i64 u.l))
        (first|with_reducible exact hs0|(with_reducible refine HS9.out _ ?_;exact ag))
        (first
         |(go_at_call 15;(with_reducible refine(HM.out _).mono ?_);rintro e' w5 ⟨rfl,BE⟩;guard_hyp BE:Below w9.drew.heap.size w9.drew w5;have cz:ah w9 w5:=Below.trans' (show ah w9 _ from ag) BE (by first|omega|(simp;done)|(simp;omega)|(simp [aN];done)|(simp [aN];omega));have Mx:=cz.size)
         |(go_at_call 15;(with_reducible refine(HM.out _).mono ?_);rintro e' w5 ⟨rfl,BE⟩;obtain⟨q5,r0,r1,r2,r3,r4,r5,rf⟩:=vH BE;have cz:ah w9 w5:=Below.trans' (show ah w9 _ from ag) BE (by first|omega|(simp;done)|(simp;omega)|(simp [aN];done)|(simp [aN];omega));have Mx:=cz.size))
       all_goals
        go_wp2_with fail
        go_meet
        refine⟨_,rfl,rfl,?_,?_,?_⟩
        ·first
         |with_reducible exact aq _ _ rfl
         |with_reducible exact jR q5
        ·(first|omega|(simp;done)|(simp;omega))
        ·exact ag
      case rest=>
       obtain⟨g2,rfl,rfl,hg2,hgg,Xi⟩:=hcut
       have Q4:au w.heap.size wc (.slice (some ⟨g,0,none⟩) es.length sc) es:=uF.below Xi aI
       have abt:ah w wc:=Below.trans' dh Xi af
       have hzd:=Xi.size
       obtain⟨j0,j1,j2,j3,j4,j5,-⟩:=cI hg2
       obtain⟨-,-,-,-,-,-,o1,o2,o3,o4,o5,o6⟩:=HS9.out _ Xi
       have yi:∀o,wc.frozen? ⟨g,o,none⟩=false:=World.ownsRow.frozenAt Q4.row
       clear hs0 b0 hown uF Xi hg2
       by_cases hcc:u.c+y.is.c<=1073741824
       ·obtain⟨rfl,rfl⟩:=Prod.mk.inj (CI.out.symm.trans (oU O4.out N0.out hcc).1)
        have Yp:=hdd (HI.out.trans (ar hcc))
        generalize u.join y.is=J at *
        have CF:=hdd (Q4.set (y:=J) hjl)
        rw [BI.out]at CF
        clear hcc CI HM HI
        go_wp2
        go_roundg (l.length-(k+1))
        case measure=>omega
        case rel=>exact⟨k+1,_,af,rfl,by go_num,CF.out,Yp,(by repeat (first|with_reducible exact aL _ _|with_reducible assumption|with_reducible refine cC ?_ _|with_reducible refine Below.drew ?_|with_reducible refine Below.alloc ?_ (by first|omega|(simp;done)|(simp;omega)) _|with_reducible refine Below.setCell ?_ (by first|omega|(simp;done)|(simp;omega)) _))⟩
       ·obtain⟨rfl,rfl⟩:=Prod.mk.inj (CI.out.symm.trans ((iP O4.out N0.out).trans (ai hcc)))
        have HN:=hdd (uo (l:=l) (size:=size) (k:=k+1) (HI.out.trans (ai hcc)))
        clear hcc CI HM HI
        go_wp2
        go_ret2
        rw [HN.out]
        exact⟨abt,rfl⟩
     ·have e3:(z.key != P)=true:=by simp [hkk]
      have HN:=hdd (show fo ((l.take (k+1)).map (bucket size))=some (es++[⟨P,y.is⟩])from rJ.out.trans (zg fun e he=>by
       have h1:=Rc _ (gj hjl)
       rw [hz]at h1
       obtain⟨t,ht,rfl⟩:=kS he
       by_cases Wk:t=j
       ·subst Wk;rw [hz];show z.key<P;have:z.key<=P:=h1;omega
       ·have h2:=px.1 OS.out t j ht hjl af
        rw [hz]at h2;show _<P;have:z.key<=P:=h1;omega))
      clear J1 h5 hz lQ hv1 hl Rc HX hkk hj
      go_wp2_with ((at_builtin;refine fe rfl (.tmp 45) (.tmp 50) rfl w.heap.size _ es rfl (by repeat (first|assumption|with_reducible refine au.alloc ?_ _|with_reducible refine au.drewN ?_ _|with_reducible refine au.drew ?_)) ⟨_,0,none⟩ ⟨P,y.is⟩ rfl (fun j u h=>mP h) hes (by first|omega|(simp;done)|(simp;omega)|(simp [aN];done)|(simp [aN];omega)) ?_;intro v3 w3 uu hg3;have hb3:=hg3 w.heap.size w ag aI))
      go_roundg (l.length-(k+1))
      case measure=>omega
      case rel=>exact⟨k+1,_,af,rfl,by go_num,uu,HN,hb3⟩
  ·have HN:=hdd (show bV l size=some es by
    have:=HR.out
    rw [kI af]at this
    exact this)
   go_wp2
   go_ret2
   rw [HN.out]
   exact⟨hb,_,rfl,hown⟩
end
section
set_option maxRecDepth 100000
set_option maxHeartbeats 4000000
variable {b:Ba}
theorem mM {l:List aA} {k:Nat} (hl:bX b=some l) (hk:k<3) (h:fL l (b.tree k) (aS k)=false):aR b=false:=
 il fun hB=>by
  obtain⟨l',e,ht⟩:=hB.trees
  rw [hl]at e
  simp only [iE]at e
  subst e
  rw [ht k hk]at h;cases h
noncomputable def kE (b:Ba):Int:=if aR b=true then 0 else 7
theorem cS (h:aR b=false):kE b=7:=by simp [kE,h]
theorem dW (h:aR b=true):kE b=0:=by simp [kE,h]
theorem fH {v:Value} {w:World} (h:bQ w v b) (hst:∀s∈b.names,s.size<=140737488351232) (hsz:bS w) :
  Calls Tryz.prog 66 #[v] w fun e w'=>e = .returned (.int .i64 (kE b))/\ah w w':=by
 obtain⟨sa,sc,g0,l0,p0,g1,l1,p1,g2,l2,p2,rfl,hn,jk,T0,T1,T2⟩:=h.open
 obtain⟨W0,hW0⟩:=bR (w.alloc (.cells (aJ sa b.names.length sc g0 l0 p0 g1 l1 p1 g2 l2 p2 b) 30))
 have hb0:ah w W0:=by rw [hW0];exact ag
 have hz0:W0.heap.size=w.heap.size+1:=by rw [hW0];simp
 have k0:W0.heap[w.heap.size]?=some (.cells (aJ sa b.names.length sc g0 l0 p0 g1 l1 p1 g2 l2 p2 b) 30):=by rw [hW0];exact aq _ _ rfl
 have HX:=hdd fun w' (hb:ah W0 w')=>(by
  have b0:w'.heap[w.heap.size]?=_:=(hb.block _ af).trans k0
  simp [World.cell?,b0] :
  w'.cell? ⟨w.heap.size,0,none⟩=some (.slice sa b.names.length sc)/\w'.cell? ⟨w.heap.size,1,none⟩=some (.slice g0 l0 p0)/\w'.cell? ⟨w.heap.size,2,none⟩=some (.int .i64 b.t0.root)/\w'.cell? ⟨w.heap.size,3,none⟩=some (.slice g1 l1 p1)/\w'.cell? ⟨w.heap.size,4,none⟩=some (.int .i64 b.t1.root)/\w'.cell? ⟨w.heap.size,5,none⟩=some (.slice g2 l2 p2)/\w'.cell? ⟨w.heap.size,6,none⟩=some (.int .i64 b.t2.root)/\w'.cell? ⟨w.heap.size,7,none⟩=some (.int .i64 b.floor))
 have HB:=hdd fun w' (hb:ah W0 w')=>(Below.trans' hb0 hb hb0.size:ah w w')
 have K4:=hdd fun w' (hb:ah W0 w')=>(iJ (lo:=0) (hi:=1099511627776) (T0 w' (HB.out w' hb))).mono fun e w' hp=>nX.allT hp
 have N4:=hdd fun w' (hb:ah W0 w')=>(iJ (lo:=0) (hi:=1099511627776) (T1 w' (HB.out w' hb))).mono fun e w' hp=>nX.allT hp
 have rI:=hdd fun w' (hb:ah W0 w')=>(iJ (lo:=0) (hi:=1099511627776) (T2 w' (HB.out w' hb))).mono fun e w' hp=>nX.allT hp
 have KP:=hdd h
 have X4:=hdd jk
 have HST:=hdd hst
 have sI:=hdd fun w' (hb:ah W0 w')=>(hsz.below (HB.out w' hb):bS w')
 obtain⟨x0,x1,x2,x3,x4,x5,x6,x7⟩:=HX.out W0 (aL _ _)
 obtain⟨-,s0,s1,s2⟩:=sI.out W0 (aL _ _)
 clear T0 T1 T2 h jk hst hsz
 go_enter Tryz.func66,Tryz.ntmps66
 go_upto_region 1 with (fail)
 rw [<-hW0]
 clear hW0 k0
 by_cases i1:b.names.length<=16
 ·have e1:decide ((16:Int)<(b.names.length:Int))=false:=by simp;omega
  have RQ:=hdd i1
  by_cases i2:0<=b.floor
  ·have e2:decide (b.floor<0)=false:=by simp;omega
   have VB:=hdd i2
   by_cases U3:b.floor<=1048575
   ·have e2':decide (1048575<b.floor)=false:=by simp;omega
    have acG:=hdd U3
    obtain⟨R,hR⟩:=bC (b.floor%3600)
    have m1:b.floor.tmod 3600=R:=by rw [xR i2];exact hR
    have m2:IntKind.i64.wrap R=R:=IntWalk.i64_in _ af
    have HR:=hdd hR
    by_cases i3:R=0
    ·have e3:(R != 0)=false:=by simp [i3]
     have HI3:=hdd (HR.out.trans i3)
     clear i1 i2 U3 i3 hR
     go_upto_region 4 with (fail)
     clear x0 x1 x2 x3 x4 x5 x6 x7 s0 s1 s2 m1 m2 e1 e2 e2' e3
     go_loopg [38] b.names.length (fun g i wr=>∃k:Nat,k<=b.names.length/\g=b.names.length-k/\i = .int .i64 k/\Hid (∀j,j<k->Hv b j)/\ah W0 wr)
     case atStart=>exact⟨0,jf _,rfl,rfl,hdd (fun j hj=>af),aL _ _⟩
     case round=>
      obtain⟨k,hk,rfl,rfl,xE,hb⟩:=hrel
      obtain⟨x0,x1,x2,x3,x4,x5,x6,x7⟩:=HX.out _ hb
      by_cases hlt:k<b.names.length
      ·obtain⟨_,_,va,hcap,-,-,-,a5⟩:=X4.out
       obtain⟨ab,bp,ha,xD,ac⟩:=a5 af
       injection va with ZQ _ ZP
       subst ZQ ZP ha
       have e0:=vI (HB.out _ hb) xD ac hlt
       obtain⟨s,hs⟩:=bC (b.names[k])
       rw [hs]at e0
       have HS:=hdd hs
       have lA:=fun w'=>Ch (ab:=ab) (bp:=bp) (n:=b.names.length) (cap:=sc) (show (k:Int)=((k:Nat):Int) by rfl) hlt w'
       have RP:=hdd fun w'=>ux s w' (HST.out s (by rw [<-hs];exact gj hlt))
       have Yx:=hdd fun w' (hb:ah W0 w')=>xO (s:=s) (jO.take (X4.out.below (HB.out w' hb) aI) (Nat.le_of_lt hlt))
       have hks:(k:Int)<=(sc:Int):=af
       have ie:(0:Int)<=(k:Int):=af
       have agf:k<=sc:=af
       clear hs a5 ac
       cases yg:dG s with
       |false=>
        have nH:=hdd (cS (il fun h:nA b=>by have:=(h.names k hlt).1;rw [HS.out,yg]at this;cases this))
        rw [yg]at RP
        clear yg
        go_wp2_with ((go_at_call 67;(with_reducible refine(RP.out _).mono ?_);rintro e w2 ⟨rfl,hb2⟩))
        go_ret
        rw [nH.out]
        exact⟨rfl,HB.out _ (Below.trans' hb hb2 hb.size)⟩
       |true=>
        have acs:=hdd yg
        rw [yg]at RP
        clear yg
        have Vv:=hdd (eY (b.names.take k) s)
        obtain⟨p,hp⟩:=bC (aG (b.names.take k) s)
        rw [hp]at Yx Vv
        clear hp
        by_cases hp0:0<=p
        ·have Q0:decide (0<=p)=true:=by simp [hp0]
         have nH:=hdd (cS (il fun h:nA b=>by
          rcases Vv.out with ⟨j,hj,_,hjs,_⟩|⟨h1,_⟩
          ·have hjk:j<k:=by rw [fx]at hj;omega
           rw [wH]at hjs
           exact(h.names k hlt).2 j hjk (by rw [HS.out];exact hjs)
          ·omega))
         rw [Q0]at Yx
         clear hp0 Q0
         go_wp2_with (first|(go_at_call 67;(with_reducible refine(RP.out _).mono ?_);rintro e w2 ⟨rfl,hb2⟩;have hb3:=Below.trans' hb hb2 hb.size;obtain⟨x0,-⟩:=HX.out _ hb3)|(go_at_call 101;(with_reducible refine(Yx.out _ hb3).mono ?_);rintro e w4 ⟨rfl,hb4⟩;have cz:=Below.trans' hb3 hb4 hb3.size))
         go_ret
         rw [nH.out]
         exact⟨rfl,HB.out _ cz⟩
        ·have Q0:decide (0<=p)=false:=by simp;omega
         have acv:=hdd (show ∀j,j<k+1->Hv b j from fun j hj=>by
          by_cases hjk:j=k
          ·subst hjk
           intro h
           refine⟨by rw [HS.out];exact acs.out,fun m hm=>?_⟩
           rcases Vv.out with ⟨q,_,h1,_⟩|⟨_,h2⟩
           ·omega
           ·have:=h2 m (by rw [fx];omega)
            rw [wH]at this
            rw [HS.out];exact this
          ·exact xE.out j af)
         rw [Q0]at Yx
         clear hp0 Q0
         go_wp2_with (first|(go_at_call 67;(with_reducible refine(RP.out _).mono ?_);rintro e w2 ⟨rfl,hb2⟩;have hb3:=Below.trans' hb hb2 hb.size;obtain⟨x0,-⟩:=HX.out _ hb3)|(go_at_call 101;(with_reducible refine(Yx.out _ hb3).mono ?_);rintro e w4 ⟨rfl,hb4⟩;have cz:=Below.trans' hb3 hb4 hb3.size))
         go_roundg (b.names.length-(k+1))
         case measure=>omega
         case rel=>exact⟨k+1,af,rfl,by go_num,acv,cz⟩
      ·have acu:=hdd (show CE b from fun i hi=>xE.out i af hi)
       have Zv:=hdd (FU (KP.out.below (HB.out _ hb)))
       have hbz:=hb.size
       cases hbk:bX b with
       |none=>
        have nH:=hdd (cS (il fun h:nA b=>by obtain⟨l,e,_⟩:=h.trees;rw [hbk]at e;cases e))
        rw [hbk]at Zv
        clear hbk
        go_wp2_with ((go_at_call 102;(with_reducible refine Zv.out.mono ?_);rintro e w5 ⟨cz,rfl⟩;have fA:=Below.trans' hb cz hb.size))
        go_ret
        rw [nH.out]
        exact⟨rfl,HB.out _ fA⟩
       |some l=>
        have O6:=hdd hbk
        have QC:=hdd (gw hbk)
        have hll:l.length<=50000:=(gw hbk).2.2.2
        rw [hbk]at Zv
        clear hbk
        go_upto_region 12 with ((go_at_call 102;(with_reducible refine Zv.out.mono ?_);rintro e w5 ⟨cz,v5,rfl,iD⟩;have fA:=Below.trans' hb cz hb.size;obtain⟨s5,c5,rfl⟩:=iD.isSlice;obtain⟨-,z0,z1,z2⟩:=sI.out _ fA))
        clear x0 x1 x2 x3 x4 x5 x6 x7
        have kO:=fA.size
        go_wp2_with fail
        clear z0 z1 z2
        go_loopg [63] 3 (fun g i wr=>∃k:Nat,k<=3/\g=3-k/\i = .int .i64 k/\Hid (∀j,j<k->fL l (b.tree j) (aS j)=true)/\ah w5 wr)
        case atStart=>exact⟨0,af,rfl,rfl,hdd (fun j hj=>af),aL _ _⟩
        case round=>
         obtain⟨k,hk,rfl,rfl,H2,hbr⟩:=hrel
         have hbk:=Below.trans' fA hbr kO
         by_cases GD:k<3
         ·obtain rfl|rfl|rfl:k=0\/k=1\/k=2:=af
          ·have nW:=hdd fun w' (hb:ah w5 w')=>oh (size:=1) ((iD.below hb aI).at af) QC.out.2 QC.out.1 aY
           have rK:=hdd fun w' (hb:ah W0 w')=>K4.out w' hb
           have kX:=zj
           cases hro:bV l 1 with
           |none=>
            have nH:=hdd (cS (mM O6.out (k:=0) aY (sX hro)))
            rw [hro]at nW
            clear hro
            cases hal:allT b.t0 with
            |none=>
             rw [hal]at rK
             clear hal
             go_wp2_with (first|(go_at_call 103;(with_reducible refine(nW.out _ hbr).mono ?_);rintro e wq ⟨uL,rfl⟩;have dS:=Below.trans' hbr uL hbr.size;have fZ:=Below.trans' fA dS kO;obtain⟨x0,x1,x2,x3,x4,x5,x6,x7⟩:=HX.out _ fZ)|(go_at_call 74;(with_reducible refine(rK.out _ fZ).mono ?_);rintro e wa ⟨kY,E,hE,rfl⟩;have gN:=Below.trans' dS kY dS.size;have nt:=Below.trans' fA gN kO))
             go_ret
             rw [nH.out]
             exact⟨rfl,HB.out _ nt⟩
            |some c=>
             rw [hal]at rK
             clear hal
             go_wp2_with (first|(go_at_call 103;(with_reducible refine(nW.out _ hbr).mono ?_);rintro e wq ⟨uL,rfl⟩;have dS:=Below.trans' hbr uL hbr.size;have fZ:=Below.trans' fA dS kO;obtain⟨x0,x1,x2,x3,x4,x5,x6,x7⟩:=HX.out _ fZ)|(go_at_call 74;(with_reducible refine(rK.out _ fZ).mono ?_);rintro e wa ⟨kY,va,rfl,zq⟩;have gN:=Below.trans' dS kY dS.size;have nt:=Below.trans' fA gN kO;obtain⟨sA,cA,rfl⟩:=zq.isSlice))
             go_ret
             rw [nH.out]
             exact⟨rfl,HB.out _ nt⟩
           |some a=>
            have RG:=hdd (oM (eA (size:=1) aY QC.out.2) hro)
            rw [hro]at nW
            cases hal:allT b.t0 with
            |none=>
             have nH:=hdd (cS (mM O6.out (k:=0) aY (show fL l b.t0 1=false from sW hal)))
             rw [hal]at rK
             clear hal hro
             go_wp2_with (first|(go_at_call 103;(with_reducible refine(nW.out _ hbr).mono ?_);rintro e wq ⟨uL,vq,rfl,zo⟩;have dS:=Below.trans' hbr uL hbr.size;have fZ:=Below.trans' fA dS kO;obtain⟨x0,x1,x2,x3,x4,x5,x6,x7⟩:=HX.out _ fZ;obtain⟨sQ,cQ,rfl⟩:=zo.isSlice)|(go_at_call 74;(with_reducible refine(rK.out _ fZ).mono ?_);rintro e wa ⟨kY,E,hE,rfl⟩;have gN:=Below.trans' dS kY dS.size;have nt:=Below.trans' fA gN kO))
             go_ret
             rw [nH.out]
             exact⟨rfl,HB.out _ nt⟩
            |some c=>
             have BG:=hdd (show fL l (b.tree 0) (aS 0)=decide (a=c)from lU hro hal)
             have Ae:=hdd (fJ hal)
             rw [hal]at rK
             clear hal hro
             cases Fb:decide (a=c) with
             |false=>
              have nH:=hdd (cS (mM O6.out (k:=0) aY (BG.out.trans Fb)))
              go_wp2_with (first|(go_at_call 103;(with_reducible refine(nW.out _ hbr).mono ?_);rintro e wq ⟨uL,vq,rfl,zo⟩;have dS:=Below.trans' hbr uL hbr.size;have fZ:=Below.trans' fA dS kO;obtain⟨x0,x1,x2,x3,x4,x5,x6,x7⟩:=HX.out _ fZ;obtain⟨sQ,cQ,rfl⟩:=zo.isSlice)|(go_at_call 74;(with_reducible refine(rK.out _ fZ).mono ?_);rintro e wa ⟨kY,va,rfl,zq⟩;have gN:=Below.trans' dS kY dS.size;have nt:=Below.trans' fA gN kO;obtain⟨sA,cA,rfl⟩:=zq.isSlice;have qH:=hdd (iB ((zo.below kY aI).at (by have:=RG.out.2.2;omega)) (zq.at (by have:=Ae.out.2.2.2;omega))))|(go_at_call 104;rw [Fb]at qH;(with_reducible refine qH.out.mono ?_);rintro e ws ⟨rfl,hbs⟩;have uK:=Below.trans' gN hbs gN.size;have Ec:=Below.trans' fA uK kO))
              go_ret
              rw [nH.out]
              exact⟨rfl,HB.out _ Ec⟩
             |true=>
              have Ah:=hdd (show ∀j,j<0+1->fL l (b.tree j) (aS j)=true from fun j hj=>by
               by_cases hjk:j=0
               ·subst hjk;exact BG.out.trans Fb
               ·exact H2.out j af)
              go_wp2_with (first|(go_at_call 103;(with_reducible refine(nW.out _ hbr).mono ?_);rintro e wq ⟨uL,vq,rfl,zo⟩;have dS:=Below.trans' hbr uL hbr.size;have fZ:=Below.trans' fA dS kO;obtain⟨x0,x1,x2,x3,x4,x5,x6,x7⟩:=HX.out _ fZ;obtain⟨sQ,cQ,rfl⟩:=zo.isSlice)|(go_at_call 74;(with_reducible refine(rK.out _ fZ).mono ?_);rintro e wa ⟨kY,va,rfl,zq⟩;have gN:=Below.trans' dS kY dS.size;have nt:=Below.trans' fA gN kO;obtain⟨sA,cA,rfl⟩:=zq.isSlice;have qH:=hdd (iB ((zo.below kY aI).at (by have:=RG.out.2.2;omega)) (zq.at (by have:=Ae.out.2.2.2;omega))))|(go_at_call 104;rw [Fb]at qH;(with_reducible refine qH.out.mono ?_);rintro e ws ⟨rfl,hbs⟩;have uK:=Below.trans' gN hbs gN.size;have Ec:=Below.trans' fA uK kO))
              go_roundg (3-(0+1))
              case measure=>omega
              case rel=>exact⟨0+1,af,rfl,by go_num,Ah,uK⟩
          ·have nW:=hdd fun w' (hb:ah w5 w')=>oh (size:=60) ((iD.below hb aI).at af) QC.out.2 QC.out.1 aY
           have rK:=hdd fun w' (hb:ah W0 w')=>N4.out w' hb
           have kX:=zi
           cases hro:bV l 60 with
           |none=>
            have nH:=hdd (cS (mM O6.out (k:=1) aY (sX hro)))
            rw [hro]at nW
            clear hro
            cases hal:allT b.t1 with
            |none=>
             rw [hal]at rK
             clear hal
             go_wp2_with (first|(go_at_call 103;(with_reducible refine(nW.out _ hbr).mono ?_);rintro e wq ⟨uL,rfl⟩;have dS:=Below.trans' hbr uL hbr.size;have fZ:=Below.trans' fA dS kO;obtain⟨x0,x1,x2,x3,x4,x5,x6,x7⟩:=HX.out _ fZ)|(go_at_call 74;(with_reducible refine(rK.out _ fZ).mono ?_);rintro e wa ⟨kY,E,hE,rfl⟩;have gN:=Below.trans' dS kY dS.size;have nt:=Below.trans' fA gN kO))
             go_ret
             rw [nH.out]
             exact⟨rfl,HB.out _ nt⟩
            |some c=>
             rw [hal]at rK
             clear hal
             go_wp2_with (first|(go_at_call 103;(with_reducible refine(nW.out _ hbr).mono ?_);rintro e wq ⟨uL,rfl⟩;have dS:=Below.trans' hbr uL hbr.size;have fZ:=Below.trans' fA dS kO;obtain⟨x0,x1,x2,x3,x4,x5,x6,x7⟩:=HX.out _ fZ)|(go_at_call 74;(with_reducible refine(rK.out _ fZ).mono ?_);rintro e wa ⟨kY,va,rfl,zq⟩;have gN:=Below.trans' dS kY dS.size;have nt:=Below.trans' fA gN kO;obtain⟨sA,cA,rfl⟩:=zq.isSlice))
             go_ret
             rw [nH.out]
             exact⟨rfl,HB.out _ nt⟩
           |some a=>
            have RG:=hdd (oM (eA (size:=60) aY QC.out.2) hro)
            rw [hro]at nW
            cases hal:allT b.t1 with
            |none=>
             have nH:=hdd (cS (mM O6.out (k:=1) aY (show fL l b.t1 60=false from sW hal)))
             rw [hal]at rK
             clear hal hro
             go_wp2_with (first|(go_at_call 103;(with_reducible refine(nW.out _ hbr).mono ?_);rintro e wq ⟨uL,vq,rfl,zo⟩;have dS:=Below.trans' hbr uL hbr.size;have fZ:=Below.trans' fA dS kO;obtain⟨x0,x1,x2,x3,x4,x5,x6,x7⟩:=HX.out _ fZ;obtain⟨sQ,cQ,rfl⟩:=zo.isSlice)|(go_at_call 74;(with_reducible refine(rK.out _ fZ).mono ?_);rintro e wa ⟨kY,E,hE,rfl⟩;have gN:=Below.trans' dS kY dS.size;have nt:=Below.trans' fA gN kO))
             go_ret
             rw [nH.out]
             exact⟨rfl,HB.out _ nt⟩
            |some c=>
             have BG:=hdd (show fL l (b.tree 1) (aS 1)=decide (a=c)from lU hro hal)
             have Ae:=hdd (fJ hal)
             rw [hal]at rK
             clear hal hro
             cases Fb:decide (a=c) with
             |false=>
              have nH:=hdd (cS (mM O6.out (k:=1) aY (BG.out.trans Fb)))
              go_wp2_with (first|(go_at_call 103;(with_reducible refine(nW.out _ hbr).mono ?_);rintro e wq ⟨uL,vq,rfl,zo⟩;have dS:=Below.trans' hbr uL hbr.size;have fZ:=Below.trans' fA dS kO;obtain⟨x0,x1,x2,x3,x4,x5,x6,x7⟩:=HX.out _ fZ;obtain⟨sQ,cQ,rfl⟩:=zo.isSlice)|(go_at_call 74;(with_reducible refine(rK.out _ fZ).mono ?_);rintro e wa ⟨kY,va,rfl,zq⟩;have gN:=Below.trans' dS kY dS.size;have nt:=Below.trans' fA gN kO;obtain⟨sA,cA,rfl⟩:=zq.isSlice;have qH:=hdd (iB ((zo.below kY aI).at (by have:=RG.out.2.2;omega)) (zq.at (by have:=Ae.out.2.2.2;omega))))|(go_at_call 104;rw [Fb]at qH;(with_reducible refine qH.out.mono ?_);rintro e ws ⟨rfl,hbs⟩;have uK:=Below.trans' gN hbs gN.size;have Ec:=Below.trans' fA uK kO))
              go_ret
              rw [nH.out]
              exact⟨rfl,HB.out _ Ec⟩
             |true=>
              have Ah:=hdd (show ∀j,j<1+1->fL l (b.tree j) (aS j)=true from fun j hj=>by
               by_cases hjk:j=1
               ·subst hjk;exact BG.out.trans Fb
               ·exact H2.out j af)
              go_wp2_with (first|(go_at_call 103;(with_reducible refine(nW.out _ hbr).mono ?_);rintro e wq ⟨uL,vq,rfl,zo⟩;have dS:=Below.trans' hbr uL hbr.size;have fZ:=Below.trans' fA dS kO;obtain⟨x0,x1,x2,x3,x4,x5,x6,x7⟩:=HX.out _ fZ;obtain⟨sQ,cQ,rfl⟩:=zo.isSlice)|(go_at_call 74;(with_reducible refine(rK.out _ fZ).mono ?_);rintro e wa ⟨kY,va,rfl,zq⟩;have gN:=Below.trans' dS kY dS.size;have nt:=Below.trans' fA gN kO;obtain⟨sA,cA,rfl⟩:=zq.isSlice;have qH:=hdd (iB ((zo.below kY aI).at (by have:=RG.out.2.2;omega)) (zq.at (by have:=Ae.out.2.2.2;omega))))|(go_at_call 104;rw [Fb]at qH;(with_reducible refine qH.out.mono ?_);rintro e ws ⟨rfl,hbs⟩;have uK:=Below.trans' gN hbs gN.size;have Ec:=Below.trans' fA uK kO))
              go_roundg (3-(1+1))
              case measure=>omega
              case rel=>exact⟨1+1,af,rfl,by go_num,Ah,uK⟩
          ·have nW:=hdd fun w' (hb:ah w5 w')=>oh (size:=3600) ((iD.below hb aI).at af) QC.out.2 QC.out.1 aY
           have rK:=hdd fun w' (hb:ah W0 w')=>rI.out w' hb
           have kX:=zh
           cases hro:bV l 3600 with
           |none=>
            have nH:=hdd (cS (mM O6.out (k:=2) aY (sX hro)))
            rw [hro]at nW
            clear hro
            cases hal:allT b.t2 with
            |none=>
             rw [hal]at rK
             clear hal
             go_wp2_with (first|(go_at_call 103;(with_reducible refine(nW.out _ hbr).mono ?_);rintro e wq ⟨uL,rfl⟩;have dS:=Below.trans' hbr uL hbr.size;have fZ:=Below.trans' fA dS kO;obtain⟨x0,x1,x2,x3,x4,x5,x6,x7⟩:=HX.out _ fZ)|(go_at_call 74;(with_reducible refine(rK.out _ fZ).mono ?_);rintro e wa ⟨kY,E,hE,rfl⟩;have gN:=Below.trans' dS kY dS.size;have nt:=Below.trans' fA gN kO))
             go_ret
             rw [nH.out]
             exact⟨rfl,HB.out _ nt⟩
            |some c=>
             rw [hal]at rK
             clear hal
             go_wp2_with (first|(go_at_call 103;(with_reducible refine(nW.out _ hbr).mono ?_);rintro e wq ⟨uL,rfl⟩;have dS:=Below.trans' hbr uL hbr.size;have fZ:=Below.trans' fA dS kO;obtain⟨x0,x1,x2,x3,x4,x5,x6,x7⟩:=HX.out _ fZ)|(go_at_call 74;(with_reducible refine(rK.out _ fZ).mono ?_);rintro e wa ⟨kY,va,rfl,zq⟩;have gN:=Below.trans' dS kY dS.size;have nt:=Below.trans' fA gN kO;obtain⟨sA,cA,rfl⟩:=zq.isSlice))
             go_ret
             rw [nH.out]
             exact⟨rfl,HB.out _ nt⟩
           |some a=>
            have RG:=hdd (oM (eA (size:=3600) aY QC.out.2) hro)
            rw [hro]at nW
            cases hal:allT b.t2 with
            |none=>
             have nH:=hdd (cS (mM O6.out (k:=2) aY (show fL l b.t2 3600=false from sW hal)))
             rw [hal]at rK
             clear hal hro
             go_wp2_with (first|(go_at_call 103;(with_reducible refine(nW.out _ hbr).mono ?_);rintro e wq ⟨uL,vq,rfl,zo⟩;have dS:=Below.trans' hbr uL hbr.size;have fZ:=Below.trans' fA dS kO;obtain⟨x0,x1,x2,x3,x4,x5,x6,x7⟩:=HX.out _ fZ;obtain⟨sQ,cQ,rfl⟩:=zo.isSlice)|(go_at_call 74;(with_reducible refine(rK.out _ fZ).mono ?_);rintro e wa ⟨kY,E,hE,rfl⟩;have gN:=Below.trans' dS kY dS.size;have nt:=Below.trans' fA gN kO))
             go_ret
             rw [nH.out]
             exact⟨rfl,HB.out _ nt⟩
            |some c=>
             have BG:=hdd (show fL l (b.tree 2) (aS 2)=decide (a=c)from lU hro hal)
             have Ae:=hdd (fJ hal)
             rw [hal]at rK
             clear hal hro
             cases Fb:decide (a=c) with
             |false=>
              have nH:=hdd (cS (mM O6.out (k:=2) aY (BG.out.trans Fb)))
              go_wp2_with (first|(go_at_call 103;(with_reducible refine(nW.out _ hbr).mono ?_);rintro e wq ⟨uL,vq,rfl,zo⟩;have dS:=Below.trans' hbr uL hbr.size;have fZ:=Below.trans' fA dS kO;obtain⟨x0,x1,x2,x3,x4,x5,x6,x7⟩:=HX.out _ fZ;obtain⟨sQ,cQ,rfl⟩:=zo.isSlice)|(go_at_call 74;(with_reducible refine(rK.out _ fZ).mono ?_);rintro e wa ⟨kY,va,rfl,zq⟩;have gN:=Below.trans' dS kY dS.size;have nt:=Below.trans' fA gN kO;obtain⟨sA,cA,rfl⟩:=zq.isSlice;have qH:=hdd (iB ((zo.below kY aI).at (by have:=RG.out.2.2;omega)) (zq.at (by have:=Ae.out.2.2.2;omega))))|(go_at_call 104;rw [Fb]at qH;(with_reducible refine qH.out.mono ?_);rintro e ws ⟨rfl,hbs⟩;have uK:=Below.trans' gN hbs gN.size;have Ec:=Below.trans' fA uK kO))
              go_ret
              rw [nH.out]
              exact⟨rfl,HB.out _ Ec⟩
             |true=>
              have Ah:=hdd (show ∀j,j<2+1->fL l (b.tree j) (aS j)=true from fun j hj=>by
               by_cases hjk:j=2
               ·subst hjk;exact BG.out.trans Fb
               ·exact H2.out j af)
              go_wp2_with (first|(go_at_call 103;(with_reducible refine(nW.out _ hbr).mono ?_);rintro e wq ⟨uL,vq,rfl,zo⟩;have dS:=Below.trans' hbr uL hbr.size;have fZ:=Below.trans' fA dS kO;obtain⟨x0,x1,x2,x3,x4,x5,x6,x7⟩:=HX.out _ fZ;obtain⟨sQ,cQ,rfl⟩:=zo.isSlice)|(go_at_call 74;(with_reducible refine(rK.out _ fZ).mono ?_);rintro e wa ⟨kY,va,rfl,zq⟩;have gN:=Below.trans' dS kY dS.size;have nt:=Below.trans' fA gN kO;obtain⟨sA,cA,rfl⟩:=zq.isSlice;have qH:=hdd (iB ((zo.below kY aI).at (by have:=RG.out.2.2;omega)) (zq.at (by have:=Ae.out.2.2.2;omega))))|(go_at_call 104;rw [Fb]at qH;(with_reducible refine qH.out.mono ?_);rintro e ws ⟨rfl,hbs⟩;have uK:=Below.trans' gN hbs gN.size;have Ec:=Below.trans' fA uK kO))
              go_roundg (3-(2+1))
              case measure=>omega
              case rel=>exact⟨2+1,af,rfl,by go_num,Ah,uK⟩
         ·obtain rfl:k=3:=af
          have Hy:=hdd (dW (jV ⟨RQ.out,VB.out,acG.out,HI3.out,acu.out,l,O6.out,H2.out⟩))
          go_wp2
          go_ret
          rw [Hy.out]
          exact⟨rfl,HB.out _ hbk⟩
    ·have e3:(R != 0)=true:=by simp [i3]
     have nH:=hdd (cS (il fun h:nA b=>i3 (HR.out.symm.trans h.fl2)))
     clear i1 i2 U3 i3 hR
     go_wp2
     go_ret
     rw [nH.out]
     exact⟨rfl,hb0⟩
   ·have e2':decide (1048575<b.floor)=true:=by simp;omega
    have nH:=hdd (cS (il fun h:nA b=>U3 h.XR))
    clear i1 i2 U3
    go_wp2
    go_ret
    rw [nH.out]
    exact⟨rfl,hb0⟩
  ·have e2:decide (b.floor<0)=true:=by simp;omega
   have nH:=hdd (cS (il fun h:nA b=>i2 h.Zh))
   clear i1 i2
   go_wp2
   go_ret
   rw [nH.out]
   exact⟨rfl,hb0⟩
 ·have e1:decide ((16:Int)<(b.names.length:Int))=true:=by simp;omega
  have nH:=hdd (cS (il fun h:nA b=>i1 h.n16))
  clear i1
  go_wp2
  go_ret
  rw [nH.out]
  exact⟨rfl,hb0⟩
end
end Go.Proofs.YtmljjfhgciaceaaGreatDoor
