/- Texts of mine that come as one: ProRol ProCheck. -/
import Derived.Test.YtmljjfhgciaceaaDoorHd
import Derived.Test.YtmljjfhgciaceaaDoorPA
import Derived.Test.YtmljjfhgciaceaaDoorMerged
import Derived.StillTailTactics
import Derived.Deep.CutBlock
import Derived.BigQuiet
import Derived.Deep.QuietTactic
import Derived.Test.YtmljjfhgciaceaaDoorPS
import Derived.Test.YtmljjfhgciaceaaDoorBK
namespace Go.Proofs.YtmljjfhgciaceaaDoor
open Go.RowKit
section
set_option maxRecDepth 100000
set_option maxHeartbeats 1000000
variable {es l:List aC} {k:Nat}
theorem E5 {size:Int} (hs:size=1\/size=60\/size=3600) {a b:aC} (h:a.key<b.key) (_h0:0<=a.key):(bucket size a).key<=(bucket size b).key:=by
 show a.key-a.key%1048576%size<=b.key-b.key%1048576%size
 have h1:=Int.emod_nonneg (a.key%1048576) (show size≠0 by omega)
 have h2:=mod_le (Int.emod_nonneg b.key (show (1048576:Int)≠0 by decide)) (show 0<size by omega)
 by_cases hq:a.key/1048576<b.key/1048576
 ·omega
 ·rcases hs with rfl|rfl|rfl <;> omega
theorem zx {x:aC}:∀{es:List aC},(∀e∈es,e.key<x.key)->jI es x=some (es++[x])
 |[],_=>rfl
 |e::es,h=>by
  have h1:=h e bj
  show (if e.key<x.key then _ else _)=_
  rw [ar h1,zx (es:=es) fun y hy=>h y (by simp [hy])];rfl
theorem Bv (hs:aT es) {j:Nat} (hj:es.length=j+1) {x:Int} (hx:es[j].key=x):ia es x=j:=
 yw af (fun t ht V7=>by have:=py.1 hs t j ht af V7;omega) (fun t ht hjt=>by
  obtain rfl:t=j:=af
  omega)
theorem xt {size:Int} (hs:size=1\/size=60\/size=3600) (hr:aT l) (hg:dX l) (hk:k<l.length) (h:fe ((l.take k).map (bucket size))=some es):∀e∈es,e.key<=(bucket size l[k]).key:=by
 intro e he
 have hs0:0<size:=af
 have hP:dX ((l.take k).map (bucket size)):=by
  have:=eu hs0 hg;rw [<-wL k l,Ap]at this;exact this.left
 obtain⟨h1,-⟩:=fR hP.1 h
 rw [h1]at he
 obtain⟨y,hy|hy,hyk⟩:=Al he
 ·obtain⟨z,hz,rfl⟩:=wN.1 hy
  obtain⟨i,hi,rfl⟩:=adU hz
  have hi':i<k:=by rw [eP]at hi;omega
  rw [wI]at hyk
  have h2:=py.1 hr i k af hk hi'
  have h3:=E5 hs h2 (hg.2.1 _ (fP _)).1
  omega
 ·cases hy
theorem pJ {size:Int} (hk:k<l.length) (h:fe ((l.take k).map (bucket size))=some es):fe ((l.take (k+1)).map (bucket size))=jI es (bucket size l[k]):=by
 rw [kK hk,Ap,List.map_cons,List.map_nil,BW,h];rfl
theorem uk {size:Int} (h:fe ((l.take k).map (bucket size))=none):bW l size=none:=by
 unfold bW
 conv=>lhs;rw [<-wL k l,Ap]
 exact BX h
def Qr (B:Nat) (w:World) (r:Option (List aC)) (e:Ending) (w':World):Prop:=
 Below B w w'/\(match r with|none=>e = .returned (.tuple #[.slice none 0 0, .int .i64 1])|some l=>∃v',e = .returned (.tuple #[v', .int .i64 0])/\au B w' v' l)
theorem ou {v:Value} {size:Int} {w:World} (h:fu w v l) (hg:dX l) (hrise:aT l) (hs:size=1\/size=60\/size=3600) :
  Calls Tryd.prog 61 #[v, .int .i64 size] w (Qr w.heap.size w (bW l size)):=by
 obtain⟨ao,cap,rfl⟩:=h.isSlice
 have HE:=hdd h
 have HG:=hdd hg
 have HRI:=hdd hrise
 have HS:=hdd hs
 have hs1:0<size:=af
 have hs2:size<=3600:=af
 have hlen:l.length<=50000:=hg.2.2
 clear h hg hrise hs
 go_enter Tryd.func61,Tryd.ntmps61
 go_wp2_with fail
 go_loopg [6,15] l.length (fun g out i wr=>∃(k:Nat) (es:List aC),k<=l.length/\g=l.length-k/\i = .int .i64 k/\au w.heap.size wr out es/\Hid (fe ((l.take k).map (bucket size))=some es)/\ah w wr)
 case atStart=>exact⟨0,[],jd _,rfl,rfl,au.nil _ _,hdd rfl,aI _ _⟩
 case round=>
  obtain⟨k,es,hk,rfl,rfl,hown,HR,hb⟩:=hrel
  obtain⟨so,sc,rfl⟩:=hown.isSlice
  have hsz:=hb.size
  by_cases hlt:k<l.length
  ·obtain⟨_,_,hv,-,-,-,-,h5⟩:=HE.out
   injection hv with hv1 _ hv3
   subst hv1 hv3
   obtain⟨eb,eB,lA,si,nE⟩:=h5 af
   subst lA
   obtain⟨y0,y1,y2,y3,y4,y5,y6⟩:=bU hb si nE hlt
   obtain⟨y,hy⟩:=bt (l[k])
   rw [hy]at y0 y1 y2 y3 y4 y5 y6
   have C7:y∈l:=by rw [<-hy];exact fP hlt
   have rL:=hdd (pJ (size:=size) hlt HR.out)
   have Jj:=hdd (xt HS.out HRI.out HG.out hlt HR.out)
   rw [hy]at rL Jj
   have NY:=hdd (HG.out.1 y C7).2
   obtain⟨im,hk1⟩:=HG.out.2.1 y C7
   have hbr:=pZ hs1 (HG.out.2.1 y C7)
   obtain⟨M,hM⟩:=bt (y.key%1048576)
   obtain⟨Q,hQ⟩:=bt (y.key/1048576)
   obtain⟨R,hR⟩:=bt (M%size)
   obtain⟨D,hD⟩:=bt (M/size)
   have Lb:0<=M/\M<1048576:=af
   have Vc:0<=Q/\Q<1048576:=af
   have hR0:0<=R/\R<size:=by rw [<-hR];exact⟨Int.emod_nonneg _ af,Int.emod_lt_of_pos _ hs1⟩
   have hDS:D*size=M-R:=by rw [<-hD,<-hR,Int.emod_def,Int.mul_comm];omega
   have hD0:0<=D/\D<=M:=by rw [<-hD];exact⟨Int.ediv_nonneg Lb.1 af,Int.ediv_le_self _ Lb.1⟩
   have m1:y.key.tmod 1048576=M:=by rw [yj im];exact hM
   have m2:y.key.tdiv 1048576=Q:=by rw [Bf im];exact hQ
   have m3:M.tdiv size=D:=by rw [Bf Lb.1];exact hD
   have m4:IntKind.i64.wrap M=M:=IntWalk.i64_in _ af
   have m5:IntKind.i64.wrap Q=Q:=IntWalk.i64_in _ af
   have m6:IntKind.i64.wrap D=D:=IntWalk.i64_in _ af
   have m7:IntKind.i64.wrap (Q*1048576)=Q*1048576:=IntWalk.i64_in _ af
   have hbk:bucket size y=⟨y.key-R,y.is⟩:=by simp [bucket,hM,hR]
   rw [hbk]at rL Jj hbr
   obtain⟨P,hP⟩:=bt (y.key-R)
   rw [hP]at rL Jj hbr
   obtain⟨T,hT⟩:=bt (D*size)
   have m8:IntKind.i64.wrap (D*size)=T:=by rw [hT];exact IntWalk.i64_in _ af
   have m9:IntKind.i64.wrap (Q*1048576+T)=P:=by
    have:Q*1048576+T=P:=af
    rw [this];exact IntWalk.i64_in _ (by have:=hbr.1;have:=hbr.2;simp only at *;omega)
   have Im:=hdd (eu hs1 HG.out)
   obtain⟨g1,g2,g3,g4⟩:=pL (P:=(l.take k).map (bucket size)) (by have:=Im.out;rw [<-wL k l,Ap]at this;exact this.left) HR.out
   have OM:=hdd g1
   have iq:=hdd g2
   have jS:=fun w'=>dw (ab:=eb) (aV:=eB) (n:=l.length) (cap:=cap) (show (k:Int)=((k:Nat):Int) by rfl) hlt w'
   have hwz:eb<wr.heap.size:=af
   have hs0:(size == 0)=false:=by simp;omega
   have hes:es.length<=1000000:=af
   obtain⟨W1,hW1⟩:=bP (wr.alloc (.cells #[.int .i64 y.key, .int .i64 y.is.c, .int .i64 y.is.s, .int .i64 y.is.mi, .int .i64 y.is.ma, .int .i64 y.is.t, .int .i64 y.is.l] 96))
   have hb1:ah wr W1:=by rw [hW1];exact ag
   have hz1:W1.heap.size=wr.heap.size+1:=by rw [hW1];simp
   have k1:W1.heap[wr.heap.size]?=some (.cells #[.int .i64 y.key, .int .i64 y.is.c, .int .i64 y.is.s, .int .i64 y.is.mi, .int .i64 y.is.ma, .int .i64 y.is.t, .int .i64 y.is.l] 96):=by rw [hW1];exact aj _ _ rfl
   have HX:=hdd fun w' (hb:ah W1 w')=>(by
    have b0:w'.heap[wr.heap.size]?=_:=(hb.block _ af).trans k1
    simp [World.cell?,b0]:w'.cell? ⟨wr.heap.size,0,none⟩=some (.int .i64 y.key)/\w'.cell? ⟨wr.heap.size,1,none⟩=some (.int .i64 y.is.c)/\w'.cell? ⟨wr.heap.size,2,none⟩=some (.int .i64 y.is.s)/\w'.cell? ⟨wr.heap.size,3,none⟩=some (.int .i64 y.is.mi)/\w'.cell? ⟨wr.heap.size,4,none⟩=some (.int .i64 y.is.ma)/\w'.cell? ⟨wr.heap.size,5,none⟩=some (.int .i64 y.is.t)/\w'.cell? ⟨wr.heap.size,6,none⟩=some (.int .i64 y.is.l))
   have Et:ah w W1:=Below.trans' hb hb1 hsz
   clear nE h5 hy C7 hbr hM hR hQ hD Lb hR0 Vc hD0 hbk g1 g2 g3 g4 hT hDS hP
   go_upto_region 5 with (fail)
   rw [<-hW1]
   clear hW1 k1 y0 y1 y2 y3 y4 y5 y6 jS
   obtain⟨x0,-,-,-,-,-,-⟩:=HX.out W1 (aI _ _)
   go_cut [9] (fun p wx=>p = .int .i64 P/\ah W1 wx)
   case first=>
    go_quiet (fail)
    go_wp2
    go_meet
    exact⟨rfl,ag⟩
   case rest=>
    obtain⟨rfl,hbc⟩:=hcut
    rename World=>w9
    obtain⟨x0,x1,x2,x3,x4,x5,x6⟩:=HX.out _ hbc
    clear m1 m2 m3 m4 m5 m6 m7 m8 m9 hs0
    have cZ:=Below.trans' Et hbc (by have:=hb1.size;omega)
    have Z9:=hbc.size
    have uC:au w.heap.size w9 (.slice so es.length sc) es:=(hown.below hb1 aH).below hbc aH
    have Ra:=Jj.out
    obtain h0|⟨j,hj⟩:es.length=0\/∃j,es.length=j+1:=by cases h:es.length;exact .inl rfl;exact .inr ⟨_,rfl⟩
    ·obtain rfl:=wO h0
     have HN:=hdd (show fe ((l.take (k+1)).map (bucket size))=some [⟨P,y.is⟩]from rL.out)
     clear Ra h0
     go_wp2_with ((at_builtin;refine eW rfl (.tmp 45) (.tmp 50) rfl w.heap.size _ [] rfl (by repeat (first|assumption|with_reducible refine au.alloc ?_ _|with_reducible refine au.drewN ?_ _|with_reducible refine au.drew ?_)) ⟨_,0,none⟩ ⟨P,y.is⟩ rfl (fun j u h=>mO h) hes (by first|omega|(simp;done)|(simp;omega)|(simp [aJ];done)|(simp [aJ];omega)) ?_;intro v3 w3 uq hg3;have hb3:=hg3 w.heap.size w ag aH))
     go_roundg (l.length-(k+1))
     case measure=>omega
     case rel=>exact⟨k+1,_,af,rfl,by go_num,uq,HN,hb3⟩
    ·have n1:IntKind.i64.wrap ((es.length:Int)-1)=(j:Int):=by rw [hj];rw [show (((j+1:Nat):Int)-1)=(j:Int) by omega];exact IntWalk.i64_in _ af
     have n2:decide ((j:Int)<0)=false:=bj
     have hjl:j<es.length:=af
     obtain⟨hl,⟨h0,h0'⟩|⟨g,cap',cur,hv,hBg,hg,-⟩⟩:=id uC.row
     ·omega
     injection hv with hv1 _ hv3
     subst hv1 hv3
     have J6:g<w9.heap.size:=(uC.lt g rfl).2
     obtain⟨_,_,hv,-,-,-,-,h5⟩:=uC.at af
     injection hv with hv1 _ hv3
     subst hv3
     obtain⟨eb2,Nn,lA,Tg,J7⟩:=h5 af
     rw [<-hv1]at lA
     obtain⟨rfl,rfl⟩:g=eb2/\0=Nn:=by injection lA with lA;injection lA with a1 a2;exact⟨a1,a2⟩
     obtain⟨z0,z1,z2,z3,z4,z5,z6⟩:=bU (aI _ _) Tg J7 hjl
     simp only [iW]at z0 z1 z2 z3 z4 z5 z6
     have GY:=fun w'=>dw (ab:=g) (aV:=0) (n:=es.length) (cap:=sc) (show (j:Int)=((j:Nat):Int) by rfl) hjl w'
     simp only [iW]at GY
     obtain⟨z,hz⟩:=bt (es[j])
     rw [hz]at z0 z1 z2 z3 z4 z5 z6
     by_cases hkk:z.key=P
     ·have HI:=hdd (rL.out.trans (zw hjl OM.out (Bv OM.out hj (by rw [hz];exact hkk)) (by rw [hz];exact hkk)))
      have OZ:=hdd (iq.out _ (fP hjl))
      have Cb:=hdd (show es[j].key=P by rw [hz];exact hkk)
      rw [hz]at HI OZ
      have e3:(z.key != P)=false:=by simp [hkk]
      obtain⟨u,hu⟩:=bt (z.is)
      rw [hu]at z1 z2 z3 z4 z5 z6 HI OZ
      obtain⟨J,E,G8⟩:∃J E,bH u y.is=(J,E):=⟨_,_,rfl⟩
      have C2:=hdd G8
      have HM:=hdd fun w'=>(by have:=jQ u y.is w';rw [G8]at this;exact this :
       Calls Tryd.prog 18 #[.agg #[.int .i64 u.c, .int .i64 u.s, .int .i64 u.mi, .int .i64 u.ma, .int .i64 u.t, .int .i64 u.l], .agg #[.int .i64 y.is.c, .int .i64 y.is.s, .int .i64 y.is.mi, .int .i64 y.is.ma, .int .i64 y.is.t, .int .i64 y.is.l]] w' fun e' w5=>e' = .returned (.tuple #[.agg #[.int .i64 J.c, .int .i64 J.s, .int .i64 J.mi, .int .i64 J.ma, .int .i64 J.t, .int .i64 J.l], .int .i64 E])/\ah w' w5)
      have J4:wr.heap.size<w9.heap.size:=af
      have HS9:=hdd fun w' (hb:ah w9 w')=>(by
       have gc:∀b o,b<w9.heap.size->w'.cell? ⟨b,o,none⟩=w9.cell? ⟨b,o,none⟩:=fun b o h=>hb.cell (p:=⟨b,o,none⟩) h
       rw [gc _ _ J4,gc _ _ J4,gc _ _ J4,gc _ _ J4,gc _ _ J4,gc _ _ J4,gc _ _ J6,gc _ _ J6,gc _ _ J6,gc _ _ J6,gc _ _ J6,gc _ _ J6]
       exact⟨x1,x2,x3,x4,x5,x6,z1,z2,z3,z4,z5,z6⟩:w'.cell? ⟨wr.heap.size,1,none⟩=some (.int .i64 y.is.c)/\w'.cell? ⟨wr.heap.size,2,none⟩=some (.int .i64 y.is.s)/\w'.cell? ⟨wr.heap.size,3,none⟩=some (.int .i64 y.is.mi)/\w'.cell? ⟨wr.heap.size,4,none⟩=some (.int .i64 y.is.ma)/\w'.cell? ⟨wr.heap.size,5,none⟩=some (.int .i64 y.is.t)/\w'.cell? ⟨wr.heap.size,6,none⟩=some (.int .i64 y.is.l)/\w'.cell? ⟨g,j*7+1,none⟩=some (.int .i64 u.c)/\w'.cell? ⟨g,j*7+2,none⟩=some (.int .i64 u.s)/\w'.cell? ⟨g,j*7+3,none⟩=some (.int .i64 u.mi)/\w'.cell? ⟨g,j*7+4,none⟩=some (.int .i64 u.ma)/\w'.cell? ⟨g,j*7+5,none⟩=some (.int .i64 u.t)/\w'.cell? ⟨g,j*7+6,none⟩=some (.int .i64 u.l))
      have b0:ah w9 w9.drew:=(aI _ _).drew
      have hs0:=HS9.out _ b0
      clear J7 h5 G8 hz hu lA hv1 hl Ra HX hkk hj
      go_upto_region 9 with (fail)
      clear x0 x1 x2 x3 x4 x5 x6 z0 z1 z2 z3 z4 z5 z6 n1 n2 e3
      go_cut [11,12] (fun p c wx=>∃g2:Nat,p = .pointer (some ⟨g2,0,none⟩)/\c = .int .i64 E/\wx.heap[g2]?=some (.cells #[.int .i64 J.c, .int .i64 J.s, .int .i64 J.mi, .int .i64 J.ma, .int .i64 J.t, .int .i64 J.l] 42)/\w9.heap.size<=g2/\ah w9 wx)
      case first=>
       go_region_held3 (fun w'=>w'.cell? ⟨wr.heap.size,1,none⟩=some (.int .i64 y.is.c)/\w'.cell? ⟨wr.heap.size,2,none⟩=some (.int .i64 y.is.s)/\w'.cell? ⟨wr.heap.size,3,none⟩=some (.int .i64 y.is.mi)/\w'.cell? ⟨wr.heap.size,4,none⟩=some (.int .i64 y.is.ma)/\w'.cell? ⟨wr.heap.size,5,none⟩=some (.int .i64 y.is.t)/\w'.cell? ⟨wr.heap.size,6,none⟩=some (.int .i64 y.is.l)/\w'.cell? ⟨g,j*7+1,none⟩=some (.int .i64 u.c)/\w'.cell? ⟨g,j*7+2,none⟩=some (.int .i64 u.s)/\w'.cell? ⟨g,j*7+3,none⟩=some (.int .i64 u.mi)/\w'.cell? ⟨g,j*7+4,none⟩=some (.int .i64 u.ma)/\w'.cell? ⟨g,j*7+5,none⟩=some (.int .i64 u.t)/\w'.cell? ⟨g,j*7+6,none⟩=some (.int .i64 u.l))
        (first|with_reducible exact hs0|(with_reducible refine HS9.out _ ?_;exact ag))
        (first
         |(go_at_call 18;(with_reducible refine(HM.out _).mono ?_);rintro e' w5 ⟨rfl,BE⟩;guard_hyp BE:Below w9.drew.heap.size w9.drew w5;have cu:ah w9 w5:=Below.trans' (show ah w9 _ from ag) BE (by first|omega|(simp;done)|(simp;omega)|(simp [aJ];done)|(simp [aJ];omega));have MC:=cu.size)
         |(go_at_call 18;(with_reducible refine(HM.out _).mono ?_);rintro e' w5 ⟨rfl,BE⟩;obtain⟨q5,r0,r1,r2,r3,r4,r5,rf⟩:=vI BE;have cu:ah w9 w5:=Below.trans' (show ah w9 _ from ag) BE (by first|omega|(simp;done)|(simp;omega)|(simp [aJ];done)|(simp [aJ];omega));have MC:=cu.size))
       all_goals
        go_wp2_with fail
        go_meet
        refine⟨_,rfl,rfl,?_,?_,?_⟩
        ·first
         |with_reducible exact aj _ _ rfl
         |with_reducible exact jT q5
        ·(first|omega|(simp;done)|(simp;omega))
        ·exact ag
      case rest=>
       obtain⟨g2,rfl,rfl,hg2,hgg,WS⟩:=hcut
       have QZ:au w.heap.size wc (.slice (some ⟨g,0,none⟩) es.length sc) es:=uC.below WS aH
       have abh:ah w wc:=Below.trans' cZ WS af
       have hzd:=WS.size
       obtain⟨j0,j1,j2,j3,j4,j5,-⟩:=cF hg2
       obtain⟨-,-,-,-,-,-,o1,o2,o3,o4,o5,o6⟩:=HS9.out _ WS
       have yD:∀o,wc.frozen? ⟨g,o,none⟩=false:=World.ownsRow.frozenAt QZ.row
       clear hs0 b0 hown uC WS hg2
       by_cases hcc:u.c+y.is.c<=1073741824
       ·obtain⟨rfl,rfl⟩:=Prod.mk.inj (C2.out.symm.trans (qU OZ.out NY.out hcc).1)
        have Yb:=hdd (HI.out.trans (ar hcc))
        generalize u.join y.is=J at *
        have CY:=hdd (QZ.set (y:=J) hjl)
        rw [Cb.out]at CY
        clear hcc C2 HM HI
        go_wp2
        go_roundg (l.length-(k+1))
        case measure=>omega
        case rel=>exact⟨k+1,_,af,rfl,by go_num,CY.out,Yb,(by repeat (first|with_reducible exact aI _ _|with_reducible assumption|with_reducible refine cJ ?_ _|with_reducible refine Below.drew ?_|with_reducible refine Below.alloc ?_ (by first|omega|(simp;done)|(simp;omega)) _|with_reducible refine Below.setCell ?_ (by first|omega|(simp;done)|(simp;omega)) _))⟩
       ·obtain⟨rfl,rfl⟩:=Prod.mk.inj (C2.out.symm.trans ((iO OZ.out NY.out).trans (ai hcc)))
        have HN:=hdd (uk (l:=l) (size:=size) (k:=k+1) (HI.out.trans (ai hcc)))
        clear hcc C2 HM HI
        go_wp2
        go_ret2
        rw [HN.out]
        exact⟨abh,rfl⟩
     ·have e3:(z.key != P)=true:=by simp [hkk]
      have HN:=hdd (show fe ((l.take (k+1)).map (bucket size))=some (es++[⟨P,y.is⟩])from rL.out.trans (zx fun e he=>by
       have h1:=Ra _ (fP hjl)
       rw [hz]at h1
       obtain⟨t,ht,rfl⟩:=adU he
       by_cases V7:t=j
       ·subst V7;rw [hz];show z.key<P;have:z.key<=P:=h1;omega
       ·have h2:=py.1 OM.out t j ht hjl af
        rw [hz]at h2;show _<P;have:z.key<=P:=h1;omega))
      clear J7 h5 hz lA hv1 hl Ra HX hkk hj
      go_wp2_with ((at_builtin;refine eW rfl (.tmp 45) (.tmp 50) rfl w.heap.size _ es rfl (by repeat (first|assumption|with_reducible refine au.alloc ?_ _|with_reducible refine au.drewN ?_ _|with_reducible refine au.drew ?_)) ⟨_,0,none⟩ ⟨P,y.is⟩ rfl (fun j u h=>mO h) hes (by first|omega|(simp;done)|(simp;omega)|(simp [aJ];done)|(simp [aJ];omega)) ?_;intro v3 w3 uq hg3;have hb3:=hg3 w.heap.size w ag aH))
      go_roundg (l.length-(k+1))
      case measure=>omega
      case rel=>exact⟨k+1,_,af,rfl,by go_num,uq,HN,hb3⟩
  ·have HN:=hdd (show bW l size=some es by
    have:=HR.out
    rw [lI af]at this
    exact this)
   go_wp2
   go_ret2
   rw [HN.out]
   exact⟨hb,_,rfl,hown⟩
end
section
set_option maxRecDepth 100000
set_option maxHeartbeats 4000000
variable {b:Ba}
theorem mJ {l:List aC} {k:Nat} (hl:bY b=some l) (hk:k<3) (h:fE l (b.tree k) (aQ k)=false):aO b=false:=
 ij fun hB=>by
  obtain⟨l',e,ht⟩:=hB.trees
  rw [hl]at e
  simp only [iw]at e
  subst e
  rw [ht k hk]at h;cases h
noncomputable def jL (b:Ba):Int:=if aO b=true then 0 else 7
theorem cN (h:aO b=false):jL b=7:=by simp [jL,h]
theorem dG (h:aO b=true):jL b=0:=by simp [jL,h]
theorem eO {v:Value} {w:World} (h:bO w v b) (hst:∀s∈b.names,s.size<=140737488351232) (hsz:bL w) :
  Calls Tryd.prog 31 #[v] w fun e w'=>e = .returned (.int .i64 (jL b))/\ah w w':=by
 obtain⟨sa,sc,g0,l0,p0,g1,l1,p1,g2,l2,p2,rfl,hn,jl,T0,T1,T2⟩:=h.open
 obtain⟨W0,hW0⟩:=bP (w.alloc (.cells (aG sa b.names.length sc g0 l0 p0 g1 l1 p1 g2 l2 p2 b) 35))
 have hb0:ah w W0:=by rw [hW0];exact ag
 have hz0:W0.heap.size=w.heap.size+1:=by rw [hW0];simp
 have k0:W0.heap[w.heap.size]?=some (.cells (aG sa b.names.length sc g0 l0 p0 g1 l1 p1 g2 l2 p2 b) 35):=by rw [hW0];exact aj _ _ rfl
 have HX:=hdd fun w' (hb:ah W0 w')=>(by
  have b0:w'.heap[w.heap.size]?=_:=(hb.block _ af).trans k0
  simp [World.cell?,b0] :
  w'.cell? ⟨w.heap.size,0,none⟩=some (.slice sa b.names.length sc)/\w'.cell? ⟨w.heap.size,1,none⟩=some (.slice g0 l0 p0)/\w'.cell? ⟨w.heap.size,2,none⟩=some (.int .i64 b.t0.root)/\w'.cell? ⟨w.heap.size,3,none⟩=some (.slice g1 l1 p1)/\w'.cell? ⟨w.heap.size,4,none⟩=some (.int .i64 b.t1.root)/\w'.cell? ⟨w.heap.size,5,none⟩=some (.slice g2 l2 p2)/\w'.cell? ⟨w.heap.size,6,none⟩=some (.int .i64 b.t2.root)/\w'.cell? ⟨w.heap.size,7,none⟩=some (.int .i64 b.floor))
 have HB:=hdd fun w' (hb:ah W0 w')=>(Below.trans' hb0 hb hb0.size:ah w w')
 have Lc:=hdd fun w' (hb:ah W0 w')=>(iH (lo:=0) (hi:=1099511627776) (T0 w' (HB.out w' hb))).mono fun e w' hp=>nZ.allT hp
 have ym:=hdd fun w' (hb:ah W0 w')=>(iH (lo:=0) (hi:=1099511627776) (T1 w' (HB.out w' hb))).mono fun e w' hp=>nZ.allT hp
 have bf:=hdd fun w' (hb:ah W0 w')=>(iH (lo:=0) (hi:=1099511627776) (T2 w' (HB.out w' hb))).mono fun e w' hp=>nZ.allT hp
 have K3:=hdd h
 have XL:=hdd jl
 have HST:=hdd hst
 have nN:=hdd fun w' (hb:ah W0 w')=>(hsz.below (HB.out w' hb):bL w')
 obtain⟨x0,x1,x2,x3,x4,x5,x6,x7⟩:=HX.out W0 (aI _ _)
 obtain⟨-,s0,s1,s2⟩:=nN.out W0 (aI _ _)
 clear T0 T1 T2 h jl hst hsz
 go_enter Tryd.func31,Tryd.ntmps31
 go_upto_region 1 with (fail)
 rw [<-hW0]
 clear hW0 k0
 by_cases i1:b.names.length<=16
 ·have e1:decide ((16:Int)<(b.names.length:Int))=false:=by simp;omega
  have RH:=hdd i1
  by_cases i2:0<=b.floor
  ·have e2:decide (b.floor<0)=false:=by simp;omega
   have Vs:=hdd i2
   by_cases UU:b.floor<=1048575
   ·have e2':decide (1048575<b.floor)=false:=by simp;omega
    have acv:=hdd UU
    obtain⟨R,hR⟩:=bt (b.floor%3600)
    have m1:b.floor.tmod 3600=R:=by rw [yj i2];exact hR
    have m2:IntKind.i64.wrap R=R:=IntWalk.i64_in _ af
    have HR:=hdd hR
    by_cases i3:R=0
    ·have e3:(R != 0)=false:=by simp [i3]
     have HI3:=hdd (HR.out.trans i3)
     clear i1 i2 UU i3 hR
     go_upto_region 4 with (fail)
     clear x0 x1 x2 x3 x4 x5 x6 x7 s0 s1 s2 m1 m2 e1 e2 e2' e3
     go_loopg [38] b.names.length (fun g i wr=>∃k:Nat,k<=b.names.length/\g=b.names.length-k/\i = .int .i64 k/\Hid (∀j,j<k->H9 b j)/\ah W0 wr)
     case atStart=>exact⟨0,jd _,rfl,rfl,hdd (fun j hj=>af),aI _ _⟩
     case round=>
      obtain⟨k,hk,rfl,rfl,xR,hb⟩:=hrel
      obtain⟨x0,x1,x2,x3,x4,x5,x6,x7⟩:=HX.out _ hb
      by_cases hlt:k<b.names.length
      ·obtain⟨_,_,va,hcap,-,-,-,a5⟩:=XL.out
       obtain⟨ab,aV,ha,sO,ac⟩:=a5 af
       injection va with ZF _ ZE
       subst ZF ZE ha
       have e0:=vL (HB.out _ hb) sO ac hlt
       obtain⟨s,hs⟩:=bt (b.names[k])
       rw [hs]at e0
       have HS:=hdd hs
       have jS:=fun w'=>CA (ab:=ab) (aV:=aV) (n:=b.names.length) (cap:=sc) (show (k:Int)=((k:Nat):Int) by rfl) hlt w'
       have RG:=hdd fun w'=>uv s w' (HST.out s (by rw [<-hs];exact fP hlt))
       have Yj:=hdd fun w' (hb:ah W0 w')=>yh (s:=s) (jN.take (XL.out.below (HB.out w' hb) aH) (Nat.le_of_lt hlt))
       have hks:(k:Int)<=(sc:Int):=af
       have im:(0:Int)<=(k:Int):=af
       have ag8:k<=sc:=af
       clear hs a5 ac
       cases yB:dL s with
       |false=>
        have nI:=hdd (cN (ij fun h:nB b=>by have:=(h.names k hlt).1;rw [HS.out,yB]at this;cases this))
        rw [yB]at RG
        clear yB
        go_wp2_with ((go_at_call 39;(with_reducible refine(RG.out _).mono ?_);rintro e w2 ⟨rfl,hb2⟩))
        go_ret
        rw [nI.out]
        exact⟨rfl,HB.out _ (Below.trans' hb hb2 hb.size)⟩
       |true=>
        have acf:=hdd yB
        rw [yB]at RG
        clear yB
        have HPC:=hdd (fW (b.names.take k) s)
        obtain⟨p,hp⟩:=bt (aS (b.names.take k) s)
        rw [hp]at Yj HPC
        clear hp
        by_cases hp0:0<=p
        ·have QW:decide (0<=p)=true:=by simp [hp0]
         have nI:=hdd (cN (ij fun h:nB b=>by
          rcases HPC.out with ⟨j,hj,_,hjs,_⟩|⟨h1,_⟩
          ·have hjk:j<k:=by rw [eP]at hj;omega
           rw [wI]at hjs
           exact(h.names k hlt).2 j hjk (by rw [HS.out];exact hjs)
          ·omega))
         rw [QW]at Yj
         clear hp0 QW
         go_wp2_with (first|(go_at_call 39;(with_reducible refine(RG.out _).mono ?_);rintro e w2 ⟨rfl,hb2⟩;have hb3:=Below.trans' hb hb2 hb.size;obtain⟨x0,-⟩:=HX.out _ hb3)|(go_at_call 59;(with_reducible refine(Yj.out _ hb3).mono ?_);rintro e w4 ⟨rfl,hb4⟩;have cu:=Below.trans' hb3 hb4 hb3.size))
         go_ret
         rw [nI.out]
         exact⟨rfl,HB.out _ cu⟩
        ·have QW:decide (0<=p)=false:=by simp;omega
         have ach:=hdd (show ∀j,j<k+1->H9 b j from fun j hj=>by
          by_cases hjk:j=k
          ·subst hjk
           intro h
           refine⟨by rw [HS.out];exact acf.out,fun m hm=>?_⟩
           rcases HPC.out with ⟨q,_,h1,_⟩|⟨_,h2⟩
           ·omega
           ·have:=h2 m (by rw [eP];omega)
            rw [wI]at this
            rw [HS.out];exact this
          ·exact xR.out j af)
         rw [QW]at Yj
         clear hp0 QW
         go_wp2_with (first|(go_at_call 39;(with_reducible refine(RG.out _).mono ?_);rintro e w2 ⟨rfl,hb2⟩;have hb3:=Below.trans' hb hb2 hb.size;obtain⟨x0,-⟩:=HX.out _ hb3)|(go_at_call 59;(with_reducible refine(Yj.out _ hb3).mono ?_);rintro e w4 ⟨rfl,hb4⟩;have cu:=Below.trans' hb3 hb4 hb3.size))
         go_roundg (b.names.length-(k+1))
         case measure=>omega
         case rel=>exact⟨k+1,af,rfl,by go_num,ach,cu⟩
      ·have acg:=hdd (show CX b from fun i hi=>xR.out i af hi)
       have Zj:=hdd (Gd (K3.out.below (HB.out _ hb)))
       have hbz:=hb.size
       cases hbk:bY b with
       |none=>
        have nI:=hdd (cN (ij fun h:nB b=>by obtain⟨l,e,_⟩:=h.trees;rw [hbk]at e;cases e))
        rw [hbk]at Zj
        clear hbk
        go_wp2_with ((go_at_call 60;(with_reducible refine Zj.out.mono ?_);rintro e w5 ⟨cu,rfl⟩;have eK:=Below.trans' hb cu hb.size))
        go_ret
        rw [nI.out]
        exact⟨rfl,HB.out _ eK⟩
       |some l=>
        have O1:=hdd hbk
        have Qw:=hdd (gw hbk)
        have hll:l.length<=50000:=(gw hbk).2.2.2
        rw [hbk]at Zj
        clear hbk
        go_upto_region 12 with ((go_at_call 60;(with_reducible refine Zj.out.mono ?_);rintro e w5 ⟨cu,v5,rfl,iD⟩;have eK:=Below.trans' hb cu hb.size;obtain⟨s5,c5,rfl⟩:=iD.isSlice;obtain⟨-,z0,z1,z2⟩:=nN.out _ eK))
        clear x0 x1 x2 x3 x4 x5 x6 x7
        have kQ:=eK.size
        go_wp2_with fail
        clear z0 z1 z2
        go_loopg [63] 3 (fun g i wr=>∃k:Nat,k<=3/\g=3-k/\i = .int .i64 k/\Hid (∀j,j<k->fE l (b.tree j) (aQ j)=true)/\ah w5 wr)
        case atStart=>exact⟨0,af,rfl,rfl,hdd (fun j hj=>af),aI _ _⟩
        case round=>
         obtain⟨k,hk,rfl,rfl,Ie,hbr⟩:=hrel
         have hbk:=Below.trans' eK hbr kQ
         by_cases zJ:k<3
         ·obtain rfl|rfl|rfl:k=0\/k=1\/k=2:=af
          ·have nY:=hdd fun w' (hb:ah w5 w')=>ou (size:=1) ((iD.below hb aH).at af) Qw.out.2 Qw.out.1 aW
           have rM:=hdd fun w' (hb:ah W0 w')=>Lc.out w' hb
           have kZ:=zB
           cases hro:bW l 1 with
           |none=>
            have nI:=hdd (cN (mJ O1.out (k:=0) aW (sZ hro)))
            rw [hro]at nY
            clear hro
            cases hal:allT b.t0 with
            |none=>
             rw [hal]at rM
             clear hal
             go_wp2_with (first|(go_at_call 61;(with_reducible refine(nY.out _ hbr).mono ?_);rintro e wq ⟨uI,rfl⟩;have dS:=Below.trans' hbr uI hbr.size;have fZ:=Below.trans' eK dS kQ;obtain⟨x0,x1,x2,x3,x4,x5,x6,x7⟩:=HX.out _ fZ)|(go_at_call 55;(with_reducible refine(rM.out _ fZ).mono ?_);rintro e wa ⟨je,E,hE,rfl⟩;have gN:=Below.trans' dS je dS.size;have nt:=Below.trans' eK gN kQ))
             go_ret
             rw [nI.out]
             exact⟨rfl,HB.out _ nt⟩
            |some c=>
             rw [hal]at rM
             clear hal
             go_wp2_with (first|(go_at_call 61;(with_reducible refine(nY.out _ hbr).mono ?_);rintro e wq ⟨uI,rfl⟩;have dS:=Below.trans' hbr uI hbr.size;have fZ:=Below.trans' eK dS kQ;obtain⟨x0,x1,x2,x3,x4,x5,x6,x7⟩:=HX.out _ fZ)|(go_at_call 55;(with_reducible refine(rM.out _ fZ).mono ?_);rintro e wa ⟨je,va,rfl,zH⟩;have gN:=Below.trans' dS je dS.size;have nt:=Below.trans' eK gN kQ;obtain⟨sA,cA,rfl⟩:=zH.isSlice))
             go_ret
             rw [nI.out]
             exact⟨rfl,HB.out _ nt⟩
           |some a=>
            have Ld:=hdd (oV (eu (size:=1) aW Qw.out.2) hro)
            rw [hro]at nY
            cases hal:allT b.t0 with
            |none=>
             have nI:=hdd (cN (mJ O1.out (k:=0) aW (show fE l b.t0 1=false from sY hal)))
             rw [hal]at rM
             clear hal hro
             go_wp2_with (first|(go_at_call 61;(with_reducible refine(nY.out _ hbr).mono ?_);rintro e wq ⟨uI,vq,rfl,zG⟩;have dS:=Below.trans' hbr uI hbr.size;have fZ:=Below.trans' eK dS kQ;obtain⟨x0,x1,x2,x3,x4,x5,x6,x7⟩:=HX.out _ fZ;obtain⟨sQ,cQ,rfl⟩:=zG.isSlice)|(go_at_call 55;(with_reducible refine(rM.out _ fZ).mono ?_);rintro e wa ⟨je,E,hE,rfl⟩;have gN:=Below.trans' dS je dS.size;have nt:=Below.trans' eK gN kQ))
             go_ret
             rw [nI.out]
             exact⟨rfl,HB.out _ nt⟩
            |some c=>
             have sS:=hdd (show fE l (b.tree 0) (aQ 0)=decide (a=c)from lU hro hal)
             have yr:=hdd (fB hal)
             rw [hal]at rM
             clear hal hro
             cases Fz:decide (a=c) with
             |false=>
              have nI:=hdd (cN (mJ O1.out (k:=0) aW (sS.out.trans Fz)))
              go_wp2_with (first|(go_at_call 61;(with_reducible refine(nY.out _ hbr).mono ?_);rintro e wq ⟨uI,vq,rfl,zG⟩;have dS:=Below.trans' hbr uI hbr.size;have fZ:=Below.trans' eK dS kQ;obtain⟨x0,x1,x2,x3,x4,x5,x6,x7⟩:=HX.out _ fZ;obtain⟨sQ,cQ,rfl⟩:=zG.isSlice)|(go_at_call 55;(with_reducible refine(rM.out _ fZ).mono ?_);rintro e wa ⟨je,va,rfl,zH⟩;have gN:=Below.trans' dS je dS.size;have nt:=Below.trans' eK gN kQ;obtain⟨sA,cA,rfl⟩:=zH.isSlice;have qF:=hdd (iC ((zG.below je aH).at (by have:=Ld.out.2.2;omega)) (zH.at (by have:=yr.out.2.2.2;omega))))|(go_at_call 62;rw [Fz]at qF;(with_reducible refine qF.out.mono ?_);rintro e ws ⟨rfl,hbs⟩;have uH:=Below.trans' gN hbs gN.size;have Eu:=Below.trans' eK uH kQ))
              go_ret
              rw [nI.out]
              exact⟨rfl,HB.out _ Eu⟩
             |true=>
              have AE:=hdd (show ∀j,j<0+1->fE l (b.tree j) (aQ j)=true from fun j hj=>by
               by_cases hjk:j=0
               ·subst hjk;exact sS.out.trans Fz
               ·exact Ie.out j af)
              go_wp2_with (first|(go_at_call 61;(with_reducible refine(nY.out _ hbr).mono ?_);rintro e wq ⟨uI,vq,rfl,zG⟩;have dS:=Below.trans' hbr uI hbr.size;have fZ:=Below.trans' eK dS kQ;obtain⟨x0,x1,x2,x3,x4,x5,x6,x7⟩:=HX.out _ fZ;obtain⟨sQ,cQ,rfl⟩:=zG.isSlice)|(go_at_call 55;(with_reducible refine(rM.out _ fZ).mono ?_);rintro e wa ⟨je,va,rfl,zH⟩;have gN:=Below.trans' dS je dS.size;have nt:=Below.trans' eK gN kQ;obtain⟨sA,cA,rfl⟩:=zH.isSlice;have qF:=hdd (iC ((zG.below je aH).at (by have:=Ld.out.2.2;omega)) (zH.at (by have:=yr.out.2.2.2;omega))))|(go_at_call 62;rw [Fz]at qF;(with_reducible refine qF.out.mono ?_);rintro e ws ⟨rfl,hbs⟩;have uH:=Below.trans' gN hbs gN.size;have Eu:=Below.trans' eK uH kQ))
              go_roundg (3-(0+1))
              case measure=>omega
              case rel=>exact⟨0+1,af,rfl,by go_num,AE,uH⟩
          ·have nY:=hdd fun w' (hb:ah w5 w')=>ou (size:=60) ((iD.below hb aH).at af) Qw.out.2 Qw.out.1 aW
           have rM:=hdd fun w' (hb:ah W0 w')=>ym.out w' hb
           have kZ:=zA
           cases hro:bW l 60 with
           |none=>
            have nI:=hdd (cN (mJ O1.out (k:=1) aW (sZ hro)))
            rw [hro]at nY
            clear hro
            cases hal:allT b.t1 with
            |none=>
             rw [hal]at rM
             clear hal
             go_wp2_with (first|(go_at_call 61;(with_reducible refine(nY.out _ hbr).mono ?_);rintro e wq ⟨uI,rfl⟩;have dS:=Below.trans' hbr uI hbr.size;have fZ:=Below.trans' eK dS kQ;obtain⟨x0,x1,x2,x3,x4,x5,x6,x7⟩:=HX.out _ fZ)|(go_at_call 55;(with_reducible refine(rM.out _ fZ).mono ?_);rintro e wa ⟨je,E,hE,rfl⟩;have gN:=Below.trans' dS je dS.size;have nt:=Below.trans' eK gN kQ))
             go_ret
             rw [nI.out]
             exact⟨rfl,HB.out _ nt⟩
            |some c=>
             rw [hal]at rM
             clear hal
             go_wp2_with (first|(go_at_call 61;(with_reducible refine(nY.out _ hbr).mono ?_);rintro e wq ⟨uI,rfl⟩;have dS:=Below.trans' hbr uI hbr.size;have fZ:=Below.trans' eK dS kQ;obtain⟨x0,x1,x2,x3,x4,x5,x6,x7⟩:=HX.out _ fZ)|(go_at_call 55;(with_reducible refine(rM.out _ fZ).mono ?_);rintro e wa ⟨je,va,rfl,zH⟩;have gN:=Below.trans' dS je dS.size;have nt:=Below.trans' eK gN kQ;obtain⟨sA,cA,rfl⟩:=zH.isSlice))
             go_ret
             rw [nI.out]
             exact⟨rfl,HB.out _ nt⟩
           |some a=>
            have Ld:=hdd (oV (eu (size:=60) aW Qw.out.2) hro)
            rw [hro]at nY
            cases hal:allT b.t1 with
            |none=>
             have nI:=hdd (cN (mJ O1.out (k:=1) aW (show fE l b.t1 60=false from sY hal)))
             rw [hal]at rM
             clear hal hro
             go_wp2_with (first|(go_at_call 61;(with_reducible refine(nY.out _ hbr).mono ?_);rintro e wq ⟨uI,vq,rfl,zG⟩;have dS:=Below.trans' hbr uI hbr.size;have fZ:=Below.trans' eK dS kQ;obtain⟨x0,x1,x2,x3,x4,x5,x6,x7⟩:=HX.out _ fZ;obtain⟨sQ,cQ,rfl⟩:=zG.isSlice)|(go_at_call 55;(with_reducible refine(rM.out _ fZ).mono ?_);rintro e wa ⟨je,E,hE,rfl⟩;have gN:=Below.trans' dS je dS.size;have nt:=Below.trans' eK gN kQ))
             go_ret
             rw [nI.out]
             exact⟨rfl,HB.out _ nt⟩
            |some c=>
             have sS:=hdd (show fE l (b.tree 1) (aQ 1)=decide (a=c)from lU hro hal)
             have yr:=hdd (fB hal)
             rw [hal]at rM
             clear hal hro
             cases Fz:decide (a=c) with
             |false=>
              have nI:=hdd (cN (mJ O1.out (k:=1) aW (sS.out.trans Fz)))
              go_wp2_with (first|(go_at_call 61;(with_reducible refine(nY.out _ hbr).mono ?_);rintro e wq ⟨uI,vq,rfl,zG⟩;have dS:=Below.trans' hbr uI hbr.size;have fZ:=Below.trans' eK dS kQ;obtain⟨x0,x1,x2,x3,x4,x5,x6,x7⟩:=HX.out _ fZ;obtain⟨sQ,cQ,rfl⟩:=zG.isSlice)|(go_at_call 55;(with_reducible refine(rM.out _ fZ).mono ?_);rintro e wa ⟨je,va,rfl,zH⟩;have gN:=Below.trans' dS je dS.size;have nt:=Below.trans' eK gN kQ;obtain⟨sA,cA,rfl⟩:=zH.isSlice;have qF:=hdd (iC ((zG.below je aH).at (by have:=Ld.out.2.2;omega)) (zH.at (by have:=yr.out.2.2.2;omega))))|(go_at_call 62;rw [Fz]at qF;(with_reducible refine qF.out.mono ?_);rintro e ws ⟨rfl,hbs⟩;have uH:=Below.trans' gN hbs gN.size;have Eu:=Below.trans' eK uH kQ))
              go_ret
              rw [nI.out]
              exact⟨rfl,HB.out _ Eu⟩
             |true=>
              have AE:=hdd (show ∀j,j<1+1->fE l (b.tree j) (aQ j)=true from fun j hj=>by
               by_cases hjk:j=1
               ·subst hjk;exact sS.out.trans Fz
               ·exact Ie.out j af)
              go_wp2_with (first|(go_at_call 61;(with_reducible refine(nY.out _ hbr).mono ?_);rintro e wq ⟨uI,vq,rfl,zG⟩;have dS:=Below.trans' hbr uI hbr.size;have fZ:=Below.trans' eK dS kQ;obtain⟨x0,x1,x2,x3,x4,x5,x6,x7⟩:=HX.out _ fZ;obtain⟨sQ,cQ,rfl⟩:=zG.isSlice)|(go_at_call 55;(with_reducible refine(rM.out _ fZ).mono ?_);rintro e wa ⟨je,va,rfl,zH⟩;have gN:=Below.trans' dS je dS.size;have nt:=Below.trans' eK gN kQ;obtain⟨sA,cA,rfl⟩:=zH.isSlice;have qF:=hdd (iC ((zG.below je aH).at (by have:=Ld.out.2.2;omega)) (zH.at (by have:=yr.out.2.2.2;omega))))|(go_at_call 62;rw [Fz]at qF;(with_reducible refine qF.out.mono ?_);rintro e ws ⟨rfl,hbs⟩;have uH:=Below.trans' gN hbs gN.size;have Eu:=Below.trans' eK uH kQ))
              go_roundg (3-(1+1))
              case measure=>omega
              case rel=>exact⟨1+1,af,rfl,by go_num,AE,uH⟩
          ·have nY:=hdd fun w' (hb:ah w5 w')=>ou (size:=3600) ((iD.below hb aH).at af) Qw.out.2 Qw.out.1 aW
           have rM:=hdd fun w' (hb:ah W0 w')=>bf.out w' hb
           have kZ:=zy
           cases hro:bW l 3600 with
           |none=>
            have nI:=hdd (cN (mJ O1.out (k:=2) aW (sZ hro)))
            rw [hro]at nY
            clear hro
            cases hal:allT b.t2 with
            |none=>
             rw [hal]at rM
             clear hal
             go_wp2_with (first|(go_at_call 61;(with_reducible refine(nY.out _ hbr).mono ?_);rintro e wq ⟨uI,rfl⟩;have dS:=Below.trans' hbr uI hbr.size;have fZ:=Below.trans' eK dS kQ;obtain⟨x0,x1,x2,x3,x4,x5,x6,x7⟩:=HX.out _ fZ)|(go_at_call 55;(with_reducible refine(rM.out _ fZ).mono ?_);rintro e wa ⟨je,E,hE,rfl⟩;have gN:=Below.trans' dS je dS.size;have nt:=Below.trans' eK gN kQ))
             go_ret
             rw [nI.out]
             exact⟨rfl,HB.out _ nt⟩
            |some c=>
             rw [hal]at rM
             clear hal
             go_wp2_with (first|(go_at_call 61;(with_reducible refine(nY.out _ hbr).mono ?_);rintro e wq ⟨uI,rfl⟩;have dS:=Below.trans' hbr uI hbr.size;have fZ:=Below.trans' eK dS kQ;obtain⟨x0,x1,x2,x3,x4,x5,x6,x7⟩:=HX.out _ fZ)|(go_at_call 55;(with_reducible refine(rM.out _ fZ).mono ?_);rintro e wa ⟨je,va,rfl,zH⟩;have gN:=Below.trans' dS je dS.size;have nt:=Below.trans' eK gN kQ;obtain⟨sA,cA,rfl⟩:=zH.isSlice))
             go_ret
             rw [nI.out]
             exact⟨rfl,HB.out _ nt⟩
           |some a=>
            have Ld:=hdd (oV (eu (size:=3600) aW Qw.out.2) hro)
            rw [hro]at nY
            cases hal:allT b.t2 with
            |none=>
             have nI:=hdd (cN (mJ O1.out (k:=2) aW (show fE l b.t2 3600=false from sY hal)))
             rw [hal]at rM
             clear hal hro
             go_wp2_with (first|(go_at_call 61;(with_reducible refine(nY.out _ hbr).mono ?_);rintro e wq ⟨uI,vq,rfl,zG⟩;have dS:=Below.trans' hbr uI hbr.size;have fZ:=Below.trans' eK dS kQ;obtain⟨x0,x1,x2,x3,x4,x5,x6,x7⟩:=HX.out _ fZ;obtain⟨sQ,cQ,rfl⟩:=zG.isSlice)|(go_at_call 55;(with_reducible refine(rM.out _ fZ).mono ?_);rintro e wa ⟨je,E,hE,rfl⟩;have gN:=Below.trans' dS je dS.size;have nt:=Below.trans' eK gN kQ))
             go_ret
             rw [nI.out]
             exact⟨rfl,HB.out _ nt⟩
            |some c=>
             have sS:=hdd (show fE l (b.tree 2) (aQ 2)=decide (a=c)from lU hro hal)
             have yr:=hdd (fB hal)
             rw [hal]at rM
             clear hal hro
             cases Fz:decide (a=c) with
             |false=>
              have nI:=hdd (cN (mJ O1.out (k:=2) aW (sS.out.trans Fz)))
              go_wp2_with (first|(go_at_call 61;(with_reducible refine(nY.out _ hbr).mono ?_);rintro e wq ⟨uI,vq,rfl,zG⟩;have dS:=Below.trans' hbr uI hbr.size;have fZ:=Below.trans' eK dS kQ;obtain⟨x0,x1,x2,x3,x4,x5,x6,x7⟩:=HX.out _ fZ;obtain⟨sQ,cQ,rfl⟩:=zG.isSlice)|(go_at_call 55;(with_reducible refine(rM.out _ fZ).mono ?_);rintro e wa ⟨je,va,rfl,zH⟩;have gN:=Below.trans' dS je dS.size;have nt:=Below.trans' eK gN kQ;obtain⟨sA,cA,rfl⟩:=zH.isSlice;have qF:=hdd (iC ((zG.below je aH).at (by have:=Ld.out.2.2;omega)) (zH.at (by have:=yr.out.2.2.2;omega))))|(go_at_call 62;rw [Fz]at qF;(with_reducible refine qF.out.mono ?_);rintro e ws ⟨rfl,hbs⟩;have uH:=Below.trans' gN hbs gN.size;have Eu:=Below.trans' eK uH kQ))
              go_ret
              rw [nI.out]
              exact⟨rfl,HB.out _ Eu⟩
             |true=>
              have AE:=hdd (show ∀j,j<2+1->fE l (b.tree j) (aQ j)=true from fun j hj=>by
               by_cases hjk:j=2
               ·subst hjk;exact sS.out.trans Fz
               ·exact Ie.out j af)
              go_wp2_with (first|(go_at_call 61;(with_reducible refine(nY.out _ hbr).mono ?_);rintro e wq ⟨uI,vq,rfl,zG⟩;have dS:=Below.trans' hbr uI hbr.size;have fZ:=Below.trans' eK dS kQ;obtain⟨x0,x1,x2,x3,x4,x5,x6,x7⟩:=HX.out _ fZ;obtain⟨sQ,cQ,rfl⟩:=zG.isSlice)|(go_at_call 55;(with_reducible refine(rM.out _ fZ).mono ?_);rintro e wa ⟨je,va,rfl,zH⟩;have gN:=Below.trans' dS je dS.size;have nt:=Below.trans' eK gN kQ;obtain⟨sA,cA,rfl⟩:=zH.isSlice;have qF:=hdd (iC ((zG.below je aH).at (by have:=Ld.out.2.2;omega)) (zH.at (by have:=yr.out.2.2.2;omega))))|(go_at_call 62;rw [Fz]at qF;(with_reducible refine qF.out.mono ?_);rintro e ws ⟨rfl,hbs⟩;have uH:=Below.trans' gN hbs gN.size;have Eu:=Below.trans' eK uH kQ))
              go_roundg (3-(2+1))
              case measure=>omega
              case rel=>exact⟨2+1,af,rfl,by go_num,AE,uH⟩
         ·obtain rfl:k=3:=af
          have Ib:=hdd (dG (jX ⟨RH.out,Vs.out,acv.out,HI3.out,acg.out,l,O1.out,Ie.out⟩))
          go_wp2
          go_ret
          rw [Ib.out]
          exact⟨rfl,HB.out _ hbk⟩
    ·have e3:(R != 0)=true:=by simp [i3]
     have nI:=hdd (cN (ij fun h:nB b=>i3 (HR.out.symm.trans h.fl2)))
     clear i1 i2 UU i3 hR
     go_wp2
     go_ret
     rw [nI.out]
     exact⟨rfl,hb0⟩
   ·have e2':decide (1048575<b.floor)=true:=by simp;omega
    have nI:=hdd (cN (ij fun h:nB b=>UU h.XC))
    clear i1 i2 UU
    go_wp2
    go_ret
    rw [nI.out]
    exact⟨rfl,hb0⟩
  ·have e2:decide (b.floor<0)=true:=by simp;omega
   have nI:=hdd (cN (ij fun h:nB b=>i2 h.Y9))
   clear i1 i2
   go_wp2
   go_ret
   rw [nI.out]
   exact⟨rfl,hb0⟩
 ·have e1:decide ((16:Int)<(b.names.length:Int))=true:=by simp;omega
  have nI:=hdd (cN (ij fun h:nB b=>i1 h.n16))
  clear i1
  go_wp2
  go_ret
  rw [nI.out]
  exact⟨rfl,hb0⟩
end
end Go.Proofs.YtmljjfhgciaceaaDoor
