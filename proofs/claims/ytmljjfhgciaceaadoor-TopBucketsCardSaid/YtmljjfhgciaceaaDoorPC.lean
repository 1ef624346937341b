/- Texts of mine that come as one: ProRol ProCheck. -/
import Derived.Test.YtmljjfhgciaceaaDoorHd
import Derived.Test.YtmljjfhgciaceaaDoorPA
import Derived.Test.YtmljjfhgciaceaaDoorMerged
import Derived.StillTailTactics
import Derived.Deep.CutBlock
import Derived.BigQuiet
import Derived.Deep.QuietTactic
import Derived.Test.YtmljjfhgciaceaaDoorPS
import Derived.Test.YtmljjfhgciaceaaDoorBK
namespace Go.Proofs.YtmljjfhgciaceaaDoor
open Go.RowKit
section
set_option maxRecDepth 100000
set_option maxHeartbeats 1000000
variable {es l:List aA} {k:Nat}
theorem EJ {size:Int} (hs:size=1\/size=60\/size=3600) {a b:aA} (h:a.key<b.key) (_h0:0<=a.key):(bucket size a).key<=(bucket size b).key:=by
 show a.key-a.key%1048576%size<=b.key-b.key%1048576%size
 have h1:=Int.emod_nonneg (a.key%1048576) (show size≠0 by omega)
 have h2:=mod_le (Int.emod_nonneg b.key (show (1048576:Int)≠0 by decide)) (show 0<size by omega)
 by_cases hq:a.key/1048576<b.key/1048576
 ·omega
 ·rcases hs with rfl|rfl|rfl <;> omega
theorem yX {x:aA}:∀{es:List aA},(∀e∈es,e.key<x.key)->jG es x=some (es++[x])
 |[],_=>rfl
 |e::es,h=>by
  have h1:=h e bq
  show (if e.key<x.key then _ else _)=_
  rw [ar h1,yX (es:=es) fun y hy=>h y (by simp [hy])];rfl
theorem AW (hs:aV es) {j:Nat} (hj:es.length=j+1) {x:Int} (hx:es[j].key=x):ic es x=j:=
 xU af (fun t ht Wd=>by have:=pz.1 hs t j ht af Wd;omega) (fun t ht hjt=>by
  obtain rfl:t=j:=af
  omega)
theorem wZ {size:Int} (hs:size=1\/size=60\/size=3600) (hr:aV l) (hg:dY l) (hk:k<l.length) (h:ft ((l.take k).map (bucket size))=some es):∀e∈es,e.key<=(bucket size l[k]).key:=by
 intro e he
 have hs0:0<size:=af
 have hP:dY ((l.take k).map (bucket size)):=by
  have:=eB hs0 hg;rw [<-wG k l,tL]at this;exact this.left
 obtain⟨h1,-⟩:=fT hP.1 h
 rw [h1]at he
 obtain⟨y,hy|hy,hyk⟩:=zN he
 ·obtain⟨z,hz,rfl⟩:=lI.1 hy
  obtain⟨i,hi,rfl⟩:=kW hz
  have hi':i<k:=by rw [fw]at hi;omega
  rw [wC]at hyk
  have h2:=pz.1 hr i k af hk hi'
  have h3:=EJ hs h2 (hg.2.1 _ (fO _)).1
  omega
 ·cases hy
theorem pM {size:Int} (hk:k<l.length) (h:ft ((l.take k).map (bucket size))=some es):ft ((l.take (k+1)).map (bucket size))=jG es (bucket size l[k]):=by
 rw [mn hk,tL,List.map_cons,List.map_nil,Bq,h];rfl
theorem uk {size:Int} (h:ft ((l.take k).map (bucket size))=none):bU l size=none:=by
 unfold bU
 conv=>lhs;rw [<-wG k l,tL]
 exact Br h
def Qr (B:Nat) (w:World) (r:Option (List aA)) (e:Ending) (w':World):Prop:=
 Below B w w'/\(match r with|none=>e = .returned (.tuple #[.slice none 0 0, .int .i64 1])|some l=>∃v',e = .returned (.tuple #[v', .int .i64 0])/\av B w' v' l)
theorem ow {v:Value} {size:Int} {w:World} (h:eQ w v l) (hg:dY l) (hrise:aV l) (hs:size=1\/size=60\/size=3600) :
  Calls Tryd.prog 61 #[v, .int .i64 size] w (Qr w.heap.size w (bU l size)):=by
 obtain⟨ao,cap,rfl⟩:=h.isSlice
 have HE:=hdd h
 have HG:=hdd hg
 have HRI:=hdd hrise
 have HS:=hdd hs
 have hs1:0<size:=af
 have hs2:size<=3600:=af
 have hlen:l.length<=50000:=hg.2.2
 clear h hg hrise hs
 go_enter Tryd.func61,Tryd.ntmps61
 go_wp2_with fail
 go_loopg [6,15] l.length (fun g out i wr=>∃(k:Nat) (es:List aA),k<=l.length/\g=l.length-k/\i = .int .i64 k/\av w.heap.size wr out es/\Hid (ft ((l.take k).map (bucket size))=some es)/\ah w wr)
 case atStart=>exact⟨0,[],iN _,rfl,rfl,av.nil _ _,hdd rfl,aJ _ _⟩
 case round=>
  obtain⟨k,es,hk,rfl,rfl,hown,HR,hb⟩:=hrel
  obtain⟨so,sc,rfl⟩:=hown.isSlice
  have hsz:=hb.size
  by_cases hlt:k<l.length
  ·obtain⟨_,_,hv,-,-,-,-,h5⟩:=HE.out
   injection hv with hv1 _ hv3
   subst hv1 hv3
   obtain⟨eb,bZ,lR,rW,nH⟩:=h5 af
   subst lR
   obtain⟨y0,y1,y2,y3,y4,y5,y6⟩:=bR hb rW nH hlt
   obtain⟨y,hy⟩:=bw (l[k])
   rw [hy]at y0 y1 y2 y3 y4 y5 y6
   have CI:y∈l:=by rw [<-hy];exact fO hlt
   have rE:=hdd (pM (size:=size) hlt HR.out)
   have I8:=hdd (wZ HS.out HRI.out HG.out hlt HR.out)
   rw [hy]at rE I8
   have NY:=hdd (HG.out.1 y CI).2
   obtain⟨ie,hk1⟩:=HG.out.2.1 y CI
   have hbr:=pZ hs1 (HG.out.2.1 y CI)
   obtain⟨M,hM⟩:=bw (y.key%1048576)
   obtain⟨Q,hQ⟩:=bw (y.key/1048576)
   obtain⟨R,hR⟩:=bw (M%size)
   obtain⟨D,hD⟩:=bw (M/size)
   have KY:0<=M/\M<1048576:=af
   have Vb:0<=Q/\Q<1048576:=af
   have hR0:0<=R/\R<size:=by rw [<-hR];exact⟨Int.emod_nonneg _ af,Int.emod_lt_of_pos _ hs1⟩
   have hDS:D*size=M-R:=by rw [<-hD,<-hR,Int.emod_def,Int.mul_comm];omega
   have hD0:0<=D/\D<=M:=by rw [<-hD];exact⟨Int.ediv_nonneg KY.1 af,Int.ediv_le_self _ KY.1⟩
   have m1:y.key.tmod 1048576=M:=by rw [xO ie];exact hM
   have m2:y.key.tdiv 1048576=Q:=by rw [AB ie];exact hQ
   have m3:M.tdiv size=D:=by rw [AB KY.1];exact hD
   have m4:IntKind.i64.wrap M=M:=IntWalk.i64_in _ af
   have m5:IntKind.i64.wrap Q=Q:=IntWalk.i64_in _ af
   have m6:IntKind.i64.wrap D=D:=IntWalk.i64_in _ af
   have m7:IntKind.i64.wrap (Q*1048576)=Q*1048576:=IntWalk.i64_in _ af
   have hbk:bucket size y=⟨y.key-R,y.is⟩:=by simp [bucket,hM,hR]
   rw [hbk]at rE I8 hbr
   obtain⟨P,hP⟩:=bw (y.key-R)
   rw [hP]at rE I8 hbr
   obtain⟨T,hT⟩:=bw (D*size)
   have m8:IntKind.i64.wrap (D*size)=T:=by rw [hT];exact IntWalk.i64_in _ af
   have m9:IntKind.i64.wrap (Q*1048576+T)=P:=by
    have:Q*1048576+T=P:=af
    rw [this];exact IntWalk.i64_in _ (by have:=hbr.1;have:=hbr.2;simp only at *;omega)
   have H2:=hdd (eB hs1 HG.out)
   obtain⟨g1,g2,g3,g4⟩:=pO (P:=(l.take k).map (bucket size)) (by have:=H2.out;rw [<-wG k l,tL]at this;exact this.left) HR.out
   have OP:=hdd g1
   have iB:=hdd g2
   have kS:=fun w'=>dD (ab:=eb) (aY:=bZ) (n:=l.length) (cap:=cap) (show (k:Int)=((k:Nat):Int) by rfl) hlt w'
   have hwz:eb<wr.heap.size:=af
   have hs0:(size == 0)=false:=by simp;omega
   have hes:es.length<=1000000:=af
   obtain⟨W1,hW1⟩:=bQ (wr.alloc (.cells #[.int .i64 y.key, .int .i64 y.is.c, .int .i64 y.is.s, .int .i64 y.is.mi, .int .i64 y.is.ma, .int .i64 y.is.t, .int .i64 y.is.l] 96))
   have hb1:ah wr W1:=by rw [hW1];exact ag
   have hz1:W1.heap.size=wr.heap.size+1:=by rw [hW1];simp
   have k1:W1.heap[wr.heap.size]?=some (.cells #[.int .i64 y.key, .int .i64 y.is.c, .int .i64 y.is.s, .int .i64 y.is.mi, .int .i64 y.is.ma, .int .i64 y.is.t, .int .i64 y.is.l] 96):=by rw [hW1];exact aq _ _ rfl
   have HX:=hdd fun w' (hb:ah W1 w')=>(by
    have b0:w'.heap[wr.heap.size]?=_:=(hb.block _ af).trans k1
    simp [World.cell?,b0]:w'.cell? ⟨wr.heap.size,0,none⟩=some (.int .i64 y.key)/\w'.cell? ⟨wr.heap.size,1,none⟩=some (.int .i64 y.is.c)/\w'.cell? ⟨wr.heap.size,2,none⟩=some (.int .i64 y.is.s)/\w'.cell? ⟨wr.heap.size,3,none⟩=some (.int .i64 y.is.mi)/\w'.cell? ⟨wr.heap.size,4,none⟩=some (.int .i64 y.is.ma)/\w'.cell? ⟨wr.heap.size,5,none⟩=some (.int .i64 y.is.t)/\w'.cell? ⟨wr.heap.size,6,none⟩=some (.int .i64 y.is.l))
   have D8:ah w W1:=Below.trans' hb hb1 hsz
   clear nH h5 hy CI hbr hM hR hQ hD KY hR0 Vb hD0 hbk g1 g2 g3 g4 hT hDS hP
   go_upto_region 5 with (fail)
   rw [<-hW1]
   clear hW1 k1 y0 y1 y2 y3 y4 y5 y6 kS
   obtain⟨x0,-,-,-,-,-,-⟩:=HX.out W1 (aJ _ _)
   go_cut [9] (fun p wx=>p = .int .i64 P/\ah W1 wx)
   case first=>
    go_quiet (fail)
    go_wp2
    go_meet
    exact⟨rfl,ag⟩
   case rest=>
    obtain⟨rfl,hbc⟩:=hcut
    rename World=>w9
    obtain⟨x0,x1,x2,x3,x4,x5,x6⟩:=HX.out _ hbc
    clear m1 m2 m3 m4 m5 m6 m7 m8 m9 hs0
    have di:=Below.trans' D8 hbc (by have:=hb1.size;omega)
    have hzc:=hbc.size
    have uD:av w.heap.size w9 (.slice so es.length sc) es:=(hown.below hb1 aI).below hbc aI
    have Q4:=I8.out
    obtain h0|⟨j,hj⟩:es.length=0\/∃j,es.length=j+1:=by cases h:es.length;exact .inl rfl;exact .inr ⟨_,rfl⟩
    ·obtain rfl:=xN h0
     have HN:=hdd (show ft ((l.take (k+1)).map (bucket size))=some [⟨P,y.is⟩]from rE.out)
     clear Q4 h0
     go_wp2_with ((at_builtin;refine fg rfl (.tmp 45) (.tmp 50) rfl w.heap.size _ [] rfl (by repeat (first|assumption|with_reducible refine av.alloc ?_ _|with_reducible refine av.drewN ?_ _|with_reducible refine av.drew ?_)) ⟨_,0,none⟩ ⟨P,y.is⟩ rfl (fun j u h=>mR h) hes (by first|omega|(simp;done)|(simp;omega)|(simp [aL];done)|(simp [aL];omega)) ?_;intro v3 w3 uq hg3;have hb3:=hg3 w.heap.size w ag aI))
     go_roundg (l.length-(k+1))
     case measure=>omega
     case rel=>exact⟨k+1,_,af,rfl,by go_num,uq,HN,hb3⟩
    ·have n1:IntKind.i64.wrap ((es.length:Int)-1)=(j:Int):=by rw [hj];rw [show (((j+1:Nat):Int)-1)=(j:Int) by omega];exact IntWalk.i64_in _ af
     have n2:decide ((j:Int)<0)=false:=bq
     have hjl:j<es.length:=af
     obtain⟨hl,⟨h0,h0'⟩|⟨g,cap',cur,hv,hBg,hg,-⟩⟩:=id uD.row
     ·omega
     injection hv with hv1 _ hv3
     subst hv1 hv3
     have JY:g<w9.heap.size:=(uD.lt g rfl).2
     obtain⟨_,_,hv,-,-,-,-,h5⟩:=uD.at af
     injection hv with hv1 _ hv3
     subst hv3
     obtain⟨eb2,Ni,lR,Te,JZ⟩:=h5 af
     rw [<-hv1]at lR
     obtain⟨rfl,rfl⟩:g=eb2/\0=Ni:=by injection lR with lR;injection lR with a1 a2;exact⟨a1,a2⟩
     obtain⟨z0,z1,z2,z3,z4,z5,z6⟩:=bR (aJ _ _) Te JZ hjl
     simp only [iM]at z0 z1 z2 z3 z4 z5 z6
     have GC:=fun w'=>dD (ab:=g) (aY:=0) (n:=es.length) (cap:=sc) (show (j:Int)=((j:Nat):Int) by rfl) hjl w'
     simp only [iM]at GC
     obtain⟨z,hz⟩:=bw (es[j])
     rw [hz]at z0 z1 z2 z3 z4 z5 z6
     by_cases hkk:z.key=P
     ·have HI:=hdd (rE.out.trans (yV hjl OP.out (AW OP.out hj (by rw [hz];exact hkk)) (by rw [hz];exact hkk)))
      have O0:=hdd (iB.out _ (fO hjl))
      have Bx:=hdd (show es[j].key=P by rw [hz];exact hkk)
      rw [hz]at HI O0
      have e3:(z.key != P)=false:=by simp [hkk]
      obtain⟨u,hu⟩:=bw (z.is)
      rw [hu]at z1 z2 z3 z4 z5 z6 HI O0
      obtain⟨J,E,GM⟩:∃J E,bG u y.is=(J,E):=⟨_,_,rfl⟩
      have CC:=hdd GM
      have HM:=hdd fun w'=>(by have:=ja u y.is w';rw [GM]at this;exact this :
       Calls Tryd.prog 18 #[.agg #[.int .i64 u.c, .int .i64 u.s, .int .i64 u.mi, .int .i64 u.ma, .int .i64 u.t, .int .i64 u.l], .agg #[.int .i64 y.is.c, .int .i64 y.is.s, .int .i64 y.is.mi, .int .i64 y.is.ma, .int .i64 y.is.t, .int .i64 y.is.l]] w' fun e' w5=>e' = .returned (.tuple #[.agg #[.int .i64 J.c, .int .i64 J.s, .int .i64 J.mi, .int .i64 J.ma, .int .i64 J.t, .int .i64 J.l], .int .i64 E])/\ah w' w5)
      have JV:wr.heap.size<w9.heap.size:=af
      have HS9:=hdd fun w' (hb:ah w9 w')=>(by
       have gc:∀b o,b<w9.heap.size->w'.cell? ⟨b,o,none⟩=w9.cell? ⟨b,o,none⟩:=fun b o h=>hb.cell (p:=⟨b,o,none⟩) h
       rw [gc _ _ JV,gc _ _ JV,gc _ _ JV,gc _ _ JV,gc _ _ JV,gc _ _ JV,gc _ _ JY,gc _ _ JY,gc _ _ JY,gc _ _ JY,gc _ _ JY,gc _ _ JY]
       exact⟨x1,x2,x3,x4,x5,x6,z1,z2,z3,z4,z5,z6⟩:w'.cell? ⟨wr.heap.size,1,none⟩=some (.int .i64 y.is.c)/\w'.cell? ⟨wr.heap.size,2,none⟩=some (.int .i64 y.is.s)/\w'.cell? ⟨wr.heap.size,3,none⟩=some (.int .i64 y.is.mi)/\w'.cell? ⟨wr.heap.size,4,none⟩=some (.int .i64 y.is.ma)/\w'.cell? ⟨wr.heap.size,5,none⟩=some (.int .i64 y.is.t)/\w'.cell? ⟨wr.heap.size,6,none⟩=some (.int .i64 y.is.l)/\w'.cell? ⟨g,j*7+1,none⟩=some (.int .i64 u.c)/\w'.cell? ⟨g,j*7+2,none⟩=some (.int .i64 u.s)/\w'.cell? ⟨g,j*7+3,none⟩=some (.int .i64 u.mi)/\w'.cell? ⟨g,j*7+4,none⟩=some (.int .i64 u.ma)/\w'.cell? ⟨g,j*7+5,none⟩=some (.int .i64 u.t)/\w'.cell? ⟨g,j*7+6,none⟩=some (.int .i64 u.l))
      have b0:ah w9 w9.drew:=(aJ _ _).drew
      have hs0:=HS9.out _ b0
      clear JZ h5 GM hz hu lR hv1 hl Q4 HX hkk hj
      go_upto_region 9 with (fail)
      clear x0 x1 x2 x3 x4 x5 x6 z0 z1 z2 z3 z4 z5 z6 n1 n2 e3
      go_cut [11,12] (fun p c wx=>∃g2:Nat,p = .pointer (some ⟨g2,0,none⟩)/\c = .int .i64 E/\wx.heap[g2]?=some (.cells #[.int .i64 J.c, .int .i64 J.s, .int .i64 J.mi, .int .i64 J.ma, .int .i64 J.t, .int .i64 J.l] 42)/\w9.heap.size<=g2/\ah w9 wx)
      case first=>
       go_region_held3 (fun w'=>w'.cell? ⟨wr.heap.size,1,none⟩=some (.int .i64 y.is.c)/\w'.cell? ⟨wr.heap.size,2,none⟩=some (.int .i64 y.is.s)/\w'.cell? ⟨wr.heap.size,3,none⟩=some (.int .i64 y.is.mi)/\w'.cell? ⟨wr.heap.size,4,none⟩=some (.int .i64 y.is.ma)/\w'.cell? ⟨wr.heap.size,5,none⟩=some (.int .i64 y.is.t)/\w'.cell? ⟨wr.heap.size,6,none⟩=some (.int .i64 y.is.l)/\w'.cell? ⟨g,j*7+1,none⟩=some (.int .i64 u.c)/\w'.cell? ⟨g,j*7+2,none⟩=some (.int .i64 u.s)/\w'.cell? ⟨g,j*7+3,none⟩=some (.int .i64 u.mi)/\w'.cell? ⟨g,j*7+4,none⟩=some (.int .i64 u.ma)/\w'.cell? ⟨g,j*7+5,none⟩=some (.int .i64 u.t)/\w'.cell? ⟨g,j*7+6,none⟩=some (.int .i64 u.l))
        (first|with_reducible exact hs0|(with_reducible refine HS9.out _ ?_;exact ag))
        (first
         |(go_at_call 18;(with_reducible refine(HM.out _).mono ?_);rintro e' w5 ⟨rfl,BE⟩;guard_hyp BE:Below w9.drew.heap.size w9.drew w5;have cx:ah w9 w5:=Below.trans' (show ah w9 _ from ag) BE (by first|omega|(simp;done)|(simp;omega)|(simp [aL];done)|(simp [aL];omega));have Mv:=cx.size)
         |(go_at_call 18;(with_reducible refine(HM.out _).mono ?_);rintro e' w5 ⟨rfl,BE⟩;obtain⟨q5,r0,r1,r2,r3,r4,r5,rf⟩:=vF BE;have cx:ah w9 w5:=Below.trans' (show ah w9 _ from ag) BE (by first|omega|(simp;done)|(simp;omega)|(simp [aL];done)|(simp [aL];omega));have Mv:=cx.size))
       all_goals
        go_wp2_with fail
        go_meet
        refine⟨_,rfl,rfl,?_,?_,?_⟩
        ·first
         |with_reducible exact aq _ _ rfl
         |with_reducible exact jO q5
        ·(first|omega|(simp;done)|(simp;omega))
        ·exact ag
      case rest=>
       obtain⟨g2,rfl,rfl,hg2,hgg,Xe⟩:=hcut
       have QV:av w.heap.size wc (.slice (some ⟨g,0,none⟩) es.length sc) es:=uD.below Xe aI
       have abn:ah w wc:=Below.trans' di Xe af
       have hzd:=Xe.size
       obtain⟨j0,j1,j2,j3,j4,j5,-⟩:=cG hg2
       obtain⟨-,-,-,-,-,-,o1,o2,o3,o4,o5,o6⟩:=HS9.out _ Xe
       have ye:∀o,wc.frozen? ⟨g,o,none⟩=false:=World.ownsRow.frozenAt QV.row
       clear hs0 b0 hown uD Xe hg2
       by_cases hcc:u.c+y.is.c<=1073741824
       ·obtain⟨rfl,rfl⟩:=Prod.mk.inj (CC.out.symm.trans (o8 O0.out NY.out hcc).1)
        have Yk:=hdd (HI.out.trans (ar hcc))
        generalize u.join y.is=J at *
        have Cz:=hdd (QV.set (y:=J) hjl)
        rw [Bx.out]at Cz
        clear hcc CC HM HI
        go_wp2
        go_roundg (l.length-(k+1))
        case measure=>omega
        case rel=>exact⟨k+1,_,af,rfl,by go_num,Cz.out,Yk,(by repeat (first|with_reducible exact aJ _ _|with_reducible assumption|with_reducible refine cM ?_ _|with_reducible refine Below.drew ?_|with_reducible refine Below.alloc ?_ (by first|omega|(simp;done)|(simp;omega)) _|with_reducible refine Below.setCell ?_ (by first|omega|(simp;done)|(simp;omega)) _))⟩
       ·obtain⟨rfl,rfl⟩:=Prod.mk.inj (CC.out.symm.trans ((iP O0.out NY.out).trans (ai hcc)))
        have HN:=hdd (uk (l:=l) (size:=size) (k:=k+1) (HI.out.trans (ai hcc)))
        clear hcc CC HM HI
        go_wp2
        go_ret2
        rw [HN.out]
        exact⟨abn,rfl⟩
     ·have e3:(z.key != P)=true:=by simp [hkk]
      have HN:=hdd (show ft ((l.take (k+1)).map (bucket size))=some (es++[⟨P,y.is⟩])from rE.out.trans (yX fun e he=>by
       have h1:=Q4 _ (fO hjl)
       rw [hz]at h1
       obtain⟨t,ht,rfl⟩:=kW he
       by_cases Wd:t=j
       ·subst Wd;rw [hz];show z.key<P;have:z.key<=P:=h1;omega
       ·have h2:=pz.1 OP.out t j ht hjl af
        rw [hz]at h2;show _<P;have:z.key<=P:=h1;omega))
      clear JZ h5 hz lR hv1 hl Q4 HX hkk hj
      go_wp2_with ((at_builtin;refine fg rfl (.tmp 45) (.tmp 50) rfl w.heap.size _ es rfl (by repeat (first|assumption|with_reducible refine av.alloc ?_ _|with_reducible refine av.drewN ?_ _|with_reducible refine av.drew ?_)) ⟨_,0,none⟩ ⟨P,y.is⟩ rfl (fun j u h=>mR h) hes (by first|omega|(simp;done)|(simp;omega)|(simp [aL];done)|(simp [aL];omega)) ?_;intro v3 w3 uq hg3;have hb3:=hg3 w.heap.size w ag aI))
      go_roundg (l.length-(k+1))
      case measure=>omega
      case rel=>exact⟨k+1,_,af,rfl,by go_num,uq,HN,hb3⟩
  ·have HN:=hdd (show bU l size=some es by
    have:=HR.out
    rw [kJ af]at this
    exact this)
   go_wp2
   go_ret2
   rw [HN.out]
   exact⟨hb,_,rfl,hown⟩
end
section
set_option maxRecDepth 100000
set_option maxHeartbeats 4000000
variable {b:Ba}
theorem mP {l:List aA} {k:Nat} (hl:bW b=some l) (hk:k<3) (h:fL l (b.tree k) (aR k)=false):aQ b=false:=
 il fun hB=>by
  obtain⟨l',e,ht⟩:=hB.trees
  rw [hl]at e
  simp only [iE]at e
  subst e
  rw [ht k hk]at h;cases h
noncomputable def kF (b:Ba):Int:=if aQ b=true then 0 else 7
theorem cS (h:aQ b=false):kF b=7:=by simp [kF,h]
theorem dW (h:aQ b=true):kF b=0:=by simp [kF,h]
theorem fG {v:Value} {w:World} (h:bN w v b) (hst:∀s∈b.names,s.size<=140737488351232) (hsz:bS w) :
  Calls Tryd.prog 31 #[v] w fun e w'=>e = .returned (.int .i64 (kF b))/\ah w w':=by
 obtain⟨sa,sc,g0,l0,p0,g1,l1,p1,g2,l2,p2,rfl,hn,jk,T0,T1,T2⟩:=h.open
 obtain⟨W0,hW0⟩:=bQ (w.alloc (.cells (aH sa b.names.length sc g0 l0 p0 g1 l1 p1 g2 l2 p2 b) 35))
 have hb0:ah w W0:=by rw [hW0];exact ag
 have hz0:W0.heap.size=w.heap.size+1:=by rw [hW0];simp
 have k0:W0.heap[w.heap.size]?=some (.cells (aH sa b.names.length sc g0 l0 p0 g1 l1 p1 g2 l2 p2 b) 35):=by rw [hW0];exact aq _ _ rfl
 have HX:=hdd fun w' (hb:ah W0 w')=>(by
  have b0:w'.heap[w.heap.size]?=_:=(hb.block _ af).trans k0
  simp [World.cell?,b0] :
  w'.cell? ⟨w.heap.size,0,none⟩=some (.slice sa b.names.length sc)/\w'.cell? ⟨w.heap.size,1,none⟩=some (.slice g0 l0 p0)/\w'.cell? ⟨w.heap.size,2,none⟩=some (.int .i64 b.t0.root)/\w'.cell? ⟨w.heap.size,3,none⟩=some (.slice g1 l1 p1)/\w'.cell? ⟨w.heap.size,4,none⟩=some (.int .i64 b.t1.root)/\w'.cell? ⟨w.heap.size,5,none⟩=some (.slice g2 l2 p2)/\w'.cell? ⟨w.heap.size,6,none⟩=some (.int .i64 b.t2.root)/\w'.cell? ⟨w.heap.size,7,none⟩=some (.int .i64 b.floor))
 have HB:=hdd fun w' (hb:ah W0 w')=>(Below.trans' hb0 hb hb0.size:ah w w')
 have KZ:=hdd fun w' (hb:ah W0 w')=>(iK (lo:=0) (hi:=1099511627776) (T0 w' (HB.out w' hb))).mono fun e w' hp=>n9.allT hp
 have N1:=hdd fun w' (hb:ah W0 w')=>(iK (lo:=0) (hi:=1099511627776) (T1 w' (HB.out w' hb))).mono fun e w' hp=>n9.allT hp
 have rD:=hdd fun w' (hb:ah W0 w')=>(iK (lo:=0) (hi:=1099511627776) (T2 w' (HB.out w' hb))).mono fun e w' hp=>n9.allT hp
 have Oj:=hdd h
 have XY:=hdd jk
 have HST:=hdd hst
 have sy:=hdd fun w' (hb:ah W0 w')=>(hsz.below (HB.out w' hb):bS w')
 obtain⟨x0,x1,x2,x3,x4,x5,x6,x7⟩:=HX.out W0 (aJ _ _)
 obtain⟨-,s0,s1,s2⟩:=sy.out W0 (aJ _ _)
 clear T0 T1 T2 h jk hst hsz
 go_enter Tryd.func31,Tryd.ntmps31
 go_upto_region 1 with (fail)
 rw [<-hW0]
 clear hW0 k0
 by_cases i1:b.names.length<=16
 ·have e1:decide ((16:Int)<(b.names.length:Int))=false:=by simp;omega
  have RB:=hdd i1
  by_cases i2:0<=b.floor
  ·have e2:decide (b.floor<0)=false:=by simp;omega
   have Vr:=hdd i2
   by_cases UT:b.floor<=1048575
   ·have e2':decide (1048575<b.floor)=false:=by simp;omega
    have acy:=hdd UT
    obtain⟨R,hR⟩:=bw (b.floor%3600)
    have m1:b.floor.tmod 3600=R:=by rw [xO i2];exact hR
    have m2:IntKind.i64.wrap R=R:=IntWalk.i64_in _ af
    have HR:=hdd hR
    by_cases i3:R=0
    ·have e3:(R != 0)=false:=by simp [i3]
     have HI3:=hdd (HR.out.trans i3)
     clear i1 i2 UT i3 hR
     go_upto_region 4 with (fail)
     clear x0 x1 x2 x3 x4 x5 x6 x7 s0 s1 s2 m1 m2 e1 e2 e2' e3
     go_loopg [38] b.names.length (fun g i wr=>∃k:Nat,k<=b.names.length/\g=b.names.length-k/\i = .int .i64 k/\Hid (∀j,j<k->Hq b j)/\ah W0 wr)
     case atStart=>exact⟨0,iN _,rfl,rfl,hdd (fun j hj=>af),aJ _ _⟩
     case round=>
      obtain⟨k,hk,rfl,rfl,xE,hb⟩:=hrel
      obtain⟨x0,x1,x2,x3,x4,x5,x6,x7⟩:=HX.out _ hb
      by_cases hlt:k<b.names.length
      ·obtain⟨_,_,va,hcap,-,-,-,a5⟩:=XY.out
       obtain⟨ab,aY,ha,xD,ac⟩:=a5 af
       injection va with ZM _ ZL
       subst ZM ZL ha
       have e0:=vG (HB.out _ hb) xD ac hlt
       obtain⟨s,hs⟩:=bw (b.names[k])
       rw [hs]at e0
       have HS:=hdd hs
       have kS:=fun w'=>Ca (ab:=ab) (aY:=aY) (n:=b.names.length) (cap:=sc) (show (k:Int)=((k:Nat):Int) by rfl) hlt w'
       have RA:=hdd fun w'=>uv s w' (HST.out s (by rw [<-hs];exact fO hlt))
       have Yr:=hdd fun w' (hb:ah W0 w')=>xM (s:=s) (jM.take (XY.out.below (HB.out w' hb) aI) (Nat.le_of_lt hlt))
       have hks:(k:Int)<=(sc:Int):=af
       have ie:(0:Int)<=(k:Int):=af
       have ag5:k<=sc:=af
       clear hs a5 ac
       cases xY:dG s with
       |false=>
        have nK:=hdd (cS (il fun h:nD b=>by have:=(h.names k hlt).1;rw [HS.out,xY]at this;cases this))
        rw [xY]at RA
        clear xY
        go_wp2_with ((go_at_call 39;(with_reducible refine(RA.out _).mono ?_);rintro e w2 ⟨rfl,hb2⟩))
        go_ret
        rw [nK.out]
        exact⟨rfl,HB.out _ (Below.trans' hb hb2 hb.size)⟩
       |true=>
        have ack:=hdd xY
        rw [xY]at RA
        clear xY
        have HPC:=hdd (eX (b.names.take k) s)
        obtain⟨p,hp⟩:=bw (aG (b.names.take k) s)
        rw [hp]at Yr HPC
        clear hp
        by_cases hp0:0<=p
        ·have QT:decide (0<=p)=true:=by simp [hp0]
         have nK:=hdd (cS (il fun h:nD b=>by
          rcases HPC.out with ⟨j,hj,_,hjs,_⟩|⟨h1,_⟩
          ·have hjk:j<k:=by rw [fw]at hj;omega
           rw [wC]at hjs
           exact(h.names k hlt).2 j hjk (by rw [HS.out];exact hjs)
          ·omega))
         rw [QT]at Yr
         clear hp0 QT
         go_wp2_with (first|(go_at_call 39;(with_reducible refine(RA.out _).mono ?_);rintro e w2 ⟨rfl,hb2⟩;have hb3:=Below.trans' hb hb2 hb.size;obtain⟨x0,-⟩:=HX.out _ hb3)|(go_at_call 59;(with_reducible refine(Yr.out _ hb3).mono ?_);rintro e w4 ⟨rfl,hb4⟩;have cx:=Below.trans' hb3 hb4 hb3.size))
         go_ret
         rw [nK.out]
         exact⟨rfl,HB.out _ cx⟩
        ·have QT:decide (0<=p)=false:=by simp;omega
         have acn:=hdd (show ∀j,j<k+1->Hq b j from fun j hj=>by
          by_cases hjk:j=k
          ·subst hjk
           intro h
           refine⟨by rw [HS.out];exact ack.out,fun m hm=>?_⟩
           rcases HPC.out with ⟨q,_,h1,_⟩|⟨_,h2⟩
           ·omega
           ·have:=h2 m (by rw [fw];omega)
            rw [wC]at this
            rw [HS.out];exact this
          ·exact xE.out j af)
         rw [QT]at Yr
         clear hp0 QT
         go_wp2_with (first|(go_at_call 39;(with_reducible refine(RA.out _).mono ?_);rintro e w2 ⟨rfl,hb2⟩;have hb3:=Below.trans' hb hb2 hb.size;obtain⟨x0,-⟩:=HX.out _ hb3)|(go_at_call 59;(with_reducible refine(Yr.out _ hb3).mono ?_);rintro e w4 ⟨rfl,hb4⟩;have cx:=Below.trans' hb3 hb4 hb3.size))
         go_roundg (b.names.length-(k+1))
         case measure=>omega
         case rel=>exact⟨k+1,af,rfl,by go_num,acn,cx⟩
      ·have acm:=hdd (show Cy b from fun i hi=>xE.out i af hi)
       have Zp:=hdd (FQ (Oj.out.below (HB.out _ hb)))
       have hbz:=hb.size
       cases hbk:bW b with
       |none=>
        have nK:=hdd (cS (il fun h:nD b=>by obtain⟨l,e,_⟩:=h.trees;rw [hbk]at e;cases e))
        rw [hbk]at Zp
        clear hbk
        go_wp2_with ((go_at_call 60;(with_reducible refine Zp.out.mono ?_);rintro e w5 ⟨cx,rfl⟩;have fy:=Below.trans' hb cx hb.size))
        go_ret
        rw [nK.out]
        exact⟨rfl,HB.out _ fy⟩
       |some l=>
        have Fi:=hdd hbk
        have Qv:=hdd (gq hbk)
        have hll:l.length<=50000:=(gq hbk).2.2.2
        rw [hbk]at Zp
        clear hbk
        go_upto_region 12 with ((go_at_call 60;(with_reducible refine Zp.out.mono ?_);rintro e w5 ⟨cx,v5,rfl,iD⟩;have fy:=Below.trans' hb cx hb.size;obtain⟨s5,c5,rfl⟩:=iD.isSlice;obtain⟨-,z0,z1,z2⟩:=sy.out _ fy))
        clear x0 x1 x2 x3 x4 x5 x6 x7
        have kQ:=fy.size
        go_wp2_with fail
        clear z0 z1 z2
        go_loopg [63] 3 (fun g i wr=>∃k:Nat,k<=3/\g=3-k/\i = .int .i64 k/\Hid (∀j,j<k->fL l (b.tree j) (aR j)=true)/\ah w5 wr)
        case atStart=>exact⟨0,af,rfl,rfl,hdd (fun j hj=>af),aJ _ _⟩
        case round=>
         obtain⟨k,hk,rfl,rfl,Hu,hbr⟩:=hrel
         have hbk:=Below.trans' fy hbr kQ
         by_cases Cf:k<3
         ·obtain rfl|rfl|rfl:k=0\/k=1\/k=2:=af
          ·have n7:=hdd fun w' (hb:ah w5 w')=>ow (size:=1) ((iD.below hb aI).at af) Qv.out.2 Qv.out.1 aW
           have qh:=hdd fun w' (hb:ah W0 w')=>KZ.out w' hb
           have kT:=za
           cases hro:bU l 1 with
           |none=>
            have nK:=hdd (cS (mP Fi.out (k:=0) aW (sU hro)))
            rw [hro]at n7
            clear hro
            cases hal:allT b.t0 with
            |none=>
             rw [hal]at qh
             clear hal
             go_wp2_with (first|(go_at_call 61;(with_reducible refine(n7.out _ hbr).mono ?_);rintro e wq ⟨uJ,rfl⟩;have dU:=Below.trans' hbr uJ hbr.size;have fZ:=Below.trans' fy dU kQ;obtain⟨x0,x1,x2,x3,x4,x5,x6,x7⟩:=HX.out _ fZ)|(go_at_call 55;(with_reducible refine(qh.out _ fZ).mono ?_);rintro e wa ⟨ku,E,hE,rfl⟩;have gN:=Below.trans' dU ku dU.size;have ny:=Below.trans' fy gN kQ))
             go_ret
             rw [nK.out]
             exact⟨rfl,HB.out _ ny⟩
            |some c=>
             rw [hal]at qh
             clear hal
             go_wp2_with (first|(go_at_call 61;(with_reducible refine(n7.out _ hbr).mono ?_);rintro e wq ⟨uJ,rfl⟩;have dU:=Below.trans' hbr uJ hbr.size;have fZ:=Below.trans' fy dU kQ;obtain⟨x0,x1,x2,x3,x4,x5,x6,x7⟩:=HX.out _ fZ)|(go_at_call 55;(with_reducible refine(qh.out _ fZ).mono ?_);rintro e wa ⟨ku,va,rfl,zj⟩;have gN:=Below.trans' dU ku dU.size;have ny:=Below.trans' fy gN kQ;obtain⟨sA,cA,rfl⟩:=zj.isSlice))
             go_ret
             rw [nK.out]
             exact⟨rfl,HB.out _ ny⟩
           |some a=>
            have Rt:=hdd (oU (eB (size:=1) aW Qv.out.2) hro)
            rw [hro]at n7
            cases hal:allT b.t0 with
            |none=>
             have nK:=hdd (cS (mP Fi.out (k:=0) aW (show fL l b.t0 1=false from sS hal)))
             rw [hal]at qh
             clear hal hro
             go_wp2_with (first|(go_at_call 61;(with_reducible refine(n7.out _ hbr).mono ?_);rintro e wq ⟨uJ,vq,rfl,zi⟩;have dU:=Below.trans' hbr uJ hbr.size;have fZ:=Below.trans' fy dU kQ;obtain⟨x0,x1,x2,x3,x4,x5,x6,x7⟩:=HX.out _ fZ;obtain⟨sQ,cQ,rfl⟩:=zi.isSlice)|(go_at_call 55;(with_reducible refine(qh.out _ fZ).mono ?_);rintro e wa ⟨ku,E,hE,rfl⟩;have gN:=Below.trans' dU ku dU.size;have ny:=Below.trans' fy gN kQ))
             go_ret
             rw [nK.out]
             exact⟨rfl,HB.out _ ny⟩
            |some c=>
             have Bv:=hdd (show fL l (b.tree 0) (aR 0)=decide (a=c)from lV hro hal)
             have zW:=hdd (fI hal)
             rw [hal]at qh
             clear hal hro
             cases E9:decide (a=c) with
             |false=>
              have nK:=hdd (cS (mP Fi.out (k:=0) aW (Bv.out.trans E9)))
              go_wp2_with (first|(go_at_call 61;(with_reducible refine(n7.out _ hbr).mono ?_);rintro e wq ⟨uJ,vq,rfl,zi⟩;have dU:=Below.trans' hbr uJ hbr.size;have fZ:=Below.trans' fy dU kQ;obtain⟨x0,x1,x2,x3,x4,x5,x6,x7⟩:=HX.out _ fZ;obtain⟨sQ,cQ,rfl⟩:=zi.isSlice)|(go_at_call 55;(with_reducible refine(qh.out _ fZ).mono ?_);rintro e wa ⟨ku,va,rfl,zj⟩;have gN:=Below.trans' dU ku dU.size;have ny:=Below.trans' fy gN kQ;obtain⟨sA,cA,rfl⟩:=zj.isSlice;have qD:=hdd (iA ((zi.below ku aI).at (by have:=Rt.out.2.2;omega)) (zj.at (by have:=zW.out.2.2.2;omega))))|(go_at_call 62;rw [E9]at qD;(with_reducible refine qD.out.mono ?_);rintro e ws ⟨rfl,hbs⟩;have uI:=Below.trans' gN hbs gN.size;have D9:=Below.trans' fy uI kQ))
              go_ret
              rw [nK.out]
              exact⟨rfl,HB.out _ D9⟩
             |true=>
              have zZ:=hdd (show ∀j,j<0+1->fL l (b.tree j) (aR j)=true from fun j hj=>by
               by_cases hjk:j=0
               ·subst hjk;exact Bv.out.trans E9
               ·exact Hu.out j af)
              go_wp2_with (first|(go_at_call 61;(with_reducible refine(n7.out _ hbr).mono ?_);rintro e wq ⟨uJ,vq,rfl,zi⟩;have dU:=Below.trans' hbr uJ hbr.size;have fZ:=Below.trans' fy dU kQ;obtain⟨x0,x1,x2,x3,x4,x5,x6,x7⟩:=HX.out _ fZ;obtain⟨sQ,cQ,rfl⟩:=zi.isSlice)|(go_at_call 55;(with_reducible refine(qh.out _ fZ).mono ?_);rintro e wa ⟨ku,va,rfl,zj⟩;have gN:=Below.trans' dU ku dU.size;have ny:=Below.trans' fy gN kQ;obtain⟨sA,cA,rfl⟩:=zj.isSlice;have qD:=hdd (iA ((zi.below ku aI).at (by have:=Rt.out.2.2;omega)) (zj.at (by have:=zW.out.2.2.2;omega))))|(go_at_call 62;rw [E9]at qD;(with_reducible refine qD.out.mono ?_);rintro e ws ⟨rfl,hbs⟩;have uI:=Below.trans' gN hbs gN.size;have D9:=Below.trans' fy uI kQ))
              go_roundg (3-(0+1))
              case measure=>omega
              case rel=>exact⟨0+1,af,rfl,by go_num,zZ,uI⟩
          ·have n7:=hdd fun w' (hb:ah w5 w')=>ow (size:=60) ((iD.below hb aI).at af) Qv.out.2 Qv.out.1 aW
           have qh:=hdd fun w' (hb:ah W0 w')=>N1.out w' hb
           have kT:=yZ
           cases hro:bU l 60 with
           |none=>
            have nK:=hdd (cS (mP Fi.out (k:=1) aW (sU hro)))
            rw [hro]at n7
            clear hro
            cases hal:allT b.t1 with
            |none=>
             rw [hal]at qh
             clear hal
             go_wp2_with (first|(go_at_call 61;(with_reducible refine(n7.out _ hbr).mono ?_);rintro e wq ⟨uJ,rfl⟩;have dU:=Below.trans' hbr uJ hbr.size;have fZ:=Below.trans' fy dU kQ;obtain⟨x0,x1,x2,x3,x4,x5,x6,x7⟩:=HX.out _ fZ)|(go_at_call 55;(with_reducible refine(qh.out _ fZ).mono ?_);rintro e wa ⟨ku,E,hE,rfl⟩;have gN:=Below.trans' dU ku dU.size;have ny:=Below.trans' fy gN kQ))
             go_ret
             rw [nK.out]
             exact⟨rfl,HB.out _ ny⟩
            |some c=>
             rw [hal]at qh
             clear hal
             go_wp2_with (first|(go_at_call 61;(with_reducible refine(n7.out _ hbr).mono ?_);rintro e wq ⟨uJ,rfl⟩;have dU:=Below.trans' hbr uJ hbr.size;have fZ:=Below.trans' fy dU kQ;obtain⟨x0,x1,x2,x3,x4,x5,x6,x7⟩:=HX.out _ fZ)|(go_at_call 55;(with_reducible refine(qh.out _ fZ).mono ?_);rintro e wa ⟨ku,va,rfl,zj⟩;have gN:=Below.trans' dU ku dU.size;have ny:=Below.trans' fy gN kQ;obtain⟨sA,cA,rfl⟩:=zj.isSlice))
             go_ret
             rw [nK.out]
             exact⟨rfl,HB.out _ ny⟩
           |some a=>
            have Rt:=hdd (oU (eB (size:=60) aW Qv.out.2) hro)
            rw [hro]at n7
            cases hal:allT b.t1 with
            |none=>
             have nK:=hdd (cS (mP Fi.out (k:=1) aW (show fL l b.t1 60=false from sS hal)))
             rw [hal]at qh
             clear hal hro
             go_wp2_with (first|(go_at_call 61;(with_reducible refine(n7.out _ hbr).mono ?_);rintro e wq ⟨uJ,vq,rfl,zi⟩;have dU:=Below.trans' hbr uJ hbr.size;have fZ:=Below.trans' fy dU kQ;obtain⟨x0,x1,x2,x3,x4,x5,x6,x7⟩:=HX.out _ fZ;obtain⟨sQ,cQ,rfl⟩:=zi.isSlice)|(go_at_call 55;(with_reducible refine(qh.out _ fZ).mono ?_);rintro e wa ⟨ku,E,hE,rfl⟩;have gN:=Below.trans' dU ku dU.size;have ny:=Below.trans' fy gN kQ))
             go_ret
             rw [nK.out]
             exact⟨rfl,HB.out _ ny⟩
            |some c=>
             have Bv:=hdd (show fL l (b.tree 1) (aR 1)=decide (a=c)from lV hro hal)
             have zW:=hdd (fI hal)
             rw [hal]at qh
             clear hal hro
             cases E9:decide (a=c) with
             |false=>
              have nK:=hdd (cS (mP Fi.out (k:=1) aW (Bv.out.trans E9)))
              go_wp2_with (first|(go_at_call 61;(with_reducible refine(n7.out _ hbr).mono ?_);rintro e wq ⟨uJ,vq,rfl,zi⟩;have dU:=Below.trans' hbr uJ hbr.size;have fZ:=Below.trans' fy dU kQ;obtain⟨x0,x1,x2,x3,x4,x5,x6,x7⟩:=HX.out _ fZ;obtain⟨sQ,cQ,rfl⟩:=zi.isSlice)|(go_at_call 55;(with_reducible refine(qh.out _ fZ).mono ?_);rintro e wa ⟨ku,va,rfl,zj⟩;have gN:=Below.trans' dU ku dU.size;have ny:=Below.trans' fy gN kQ;obtain⟨sA,cA,rfl⟩:=zj.isSlice;have qD:=hdd (iA ((zi.below ku aI).at (by have:=Rt.out.2.2;omega)) (zj.at (by have:=zW.out.2.2.2;omega))))|(go_at_call 62;rw [E9]at qD;(with_reducible refine qD.out.mono ?_);rintro e ws ⟨rfl,hbs⟩;have uI:=Below.trans' gN hbs gN.size;have D9:=Below.trans' fy uI kQ))
              go_ret
              rw [nK.out]
              exact⟨rfl,HB.out _ D9⟩
             |true=>
              have zZ:=hdd (show ∀j,j<1+1->fL l (b.tree j) (aR j)=true from fun j hj=>by
               by_cases hjk:j=1
               ·subst hjk;exact Bv.out.trans E9
               ·exact Hu.out j af)
              go_wp2_with (first|(go_at_call 61;(with_reducible refine(n7.out _ hbr).mono ?_);rintro e wq ⟨uJ,vq,rfl,zi⟩;have dU:=Below.trans' hbr uJ hbr.size;have fZ:=Below.trans' fy dU kQ;obtain⟨x0,x1,x2,x3,x4,x5,x6,x7⟩:=HX.out _ fZ;obtain⟨sQ,cQ,rfl⟩:=zi.isSlice)|(go_at_call 55;(with_reducible refine(qh.out _ fZ).mono ?_);rintro e wa ⟨ku,va,rfl,zj⟩;have gN:=Below.trans' dU ku dU.size;have ny:=Below.trans' fy gN kQ;obtain⟨sA,cA,rfl⟩:=zj.isSlice;have qD:=hdd (iA ((zi.below ku aI).at (by have:=Rt.out.2.2;omega)) (zj.at (by have:=zW.out.2.2.2;omega))))|(go_at_call 62;rw [E9]at qD;(with_reducible refine qD.out.mono ?_);rintro e ws ⟨rfl,hbs⟩;have uI:=Below.trans' gN hbs gN.size;have D9:=Below.trans' fy uI kQ))
              go_roundg (3-(1+1))
              case measure=>omega
              case rel=>exact⟨1+1,af,rfl,by go_num,zZ,uI⟩
          ·have n7:=hdd fun w' (hb:ah w5 w')=>ow (size:=3600) ((iD.below hb aI).at af) Qv.out.2 Qv.out.1 aW
           have qh:=hdd fun w' (hb:ah W0 w')=>rD.out w' hb
           have kT:=yY
           cases hro:bU l 3600 with
           |none=>
            have nK:=hdd (cS (mP Fi.out (k:=2) aW (sU hro)))
            rw [hro]at n7
            clear hro
            cases hal:allT b.t2 with
            |none=>
             rw [hal]at qh
             clear hal
             go_wp2_with (first|(go_at_call 61;(with_reducible refine(n7.out _ hbr).mono ?_);rintro e wq ⟨uJ,rfl⟩;have dU:=Below.trans' hbr uJ hbr.size;have fZ:=Below.trans' fy dU kQ;obtain⟨x0,x1,x2,x3,x4,x5,x6,x7⟩:=HX.out _ fZ)|(go_at_call 55;(with_reducible refine(qh.out _ fZ).mono ?_);rintro e wa ⟨ku,E,hE,rfl⟩;have gN:=Below.trans' dU ku dU.size;have ny:=Below.trans' fy gN kQ))
             go_ret
             rw [nK.out]
             exact⟨rfl,HB.out _ ny⟩
            |some c=>
             rw [hal]at qh
             clear hal
             go_wp2_with (first|(go_at_call 61;(with_reducible refine(n7.out _ hbr).mono ?_);rintro e wq ⟨uJ,rfl⟩;have dU:=Below.trans' hbr uJ hbr.size;have fZ:=Below.trans' fy dU kQ;obtain⟨x0,x1,x2,x3,x4,x5,x6,x7⟩:=HX.out _ fZ)|(go_at_call 55;(with_reducible refine(qh.out _ fZ).mono ?_);rintro e wa ⟨ku,va,rfl,zj⟩;have gN:=Below.trans' dU ku dU.size;have ny:=Below.trans' fy gN kQ;obtain⟨sA,cA,rfl⟩:=zj.isSlice))
             go_ret
             rw [nK.out]
             exact⟨rfl,HB.out _ ny⟩
           |some a=>
            have Rt:=hdd (oU (eB (size:=3600) aW Qv.out.2) hro)
            rw [hro]at n7
            cases hal:allT b.t2 with
            |none=>
             have nK:=hdd (cS (mP Fi.out (k:=2) aW (show fL l b.t2 3600=false from sS hal)))
             rw [hal]at qh
             clear hal hro
             go_wp2_with (first|(go_at_call 61;(with_reducible refine(n7.out _ hbr).mono ?_);rintro e wq ⟨uJ,vq,rfl,zi⟩;have dU:=Below.trans' hbr uJ hbr.size;have fZ:=Below.trans' fy dU kQ;obtain⟨x0,x1,x2,x3,x4,x5,x6,x7⟩:=HX.out _ fZ;obtain⟨sQ,cQ,rfl⟩:=zi.isSlice)|(go_at_call 55;(with_reducible refine(qh.out _ fZ).mono ?_);rintro e wa ⟨ku,E,hE,rfl⟩;have gN:=Below.trans' dU ku dU.size;have ny:=Below.trans' fy gN kQ))
             go_ret
             rw [nK.out]
             exact⟨rfl,HB.out _ ny⟩
            |some c=>
             have Bv:=hdd (show fL l (b.tree 2) (aR 2)=decide (a=c)from lV hro hal)
             have zW:=hdd (fI hal)
             rw [hal]at qh
             clear hal hro
             cases E9:decide (a=c) with
             |false=>
              have nK:=hdd (cS (mP Fi.out (k:=2) aW (Bv.out.trans E9)))
              go_wp2_with (first|(go_at_call 61;(with_reducible refine(n7.out _ hbr).mono ?_);rintro e wq ⟨uJ,vq,rfl,zi⟩;have dU:=Below.trans' hbr uJ hbr.size;have fZ:=Below.trans' fy dU kQ;obtain⟨x0,x1,x2,x3,x4,x5,x6,x7⟩:=HX.out _ fZ;obtain⟨sQ,cQ,rfl⟩:=zi.isSlice)|(go_at_call 55;(with_reducible refine(qh.out _ fZ).mono ?_);rintro e wa ⟨ku,va,rfl,zj⟩;have gN:=Below.trans' dU ku dU.size;have ny:=Below.trans' fy gN kQ;obtain⟨sA,cA,rfl⟩:=zj.isSlice;have qD:=hdd (iA ((zi.below ku aI).at (by have:=Rt.out.2.2;omega)) (zj.at (by have:=zW.out.2.2.2;omega))))|(go_at_call 62;rw [E9]at qD;(with_reducible refine qD.out.mono ?_);rintro e ws ⟨rfl,hbs⟩;have uI:=Below.trans' gN hbs gN.size;have D9:=Below.trans' fy uI kQ))
              go_ret
              rw [nK.out]
              exact⟨rfl,HB.out _ D9⟩
             |true=>
              have zZ:=hdd (show ∀j,j<2+1->fL l (b.tree j) (aR j)=true from fun j hj=>by
               by_cases hjk:j=2
               ·subst hjk;exact Bv.out.trans E9
               ·exact Hu.out j af)
              go_wp2_with (first|(go_at_call 61;(with_reducible refine(n7.out _ hbr).mono ?_);rintro e wq ⟨uJ,vq,rfl,zi⟩;have dU:=Below.trans' hbr uJ hbr.size;have fZ:=Below.trans' fy dU kQ;obtain⟨x0,x1,x2,x3,x4,x5,x6,x7⟩:=HX.out _ fZ;obtain⟨sQ,cQ,rfl⟩:=zi.isSlice)|(go_at_call 55;(with_reducible refine(qh.out _ fZ).mono ?_);rintro e wa ⟨ku,va,rfl,zj⟩;have gN:=Below.trans' dU ku dU.size;have ny:=Below.trans' fy gN kQ;obtain⟨sA,cA,rfl⟩:=zj.isSlice;have qD:=hdd (iA ((zi.below ku aI).at (by have:=Rt.out.2.2;omega)) (zj.at (by have:=zW.out.2.2.2;omega))))|(go_at_call 62;rw [E9]at qD;(with_reducible refine qD.out.mono ?_);rintro e ws ⟨rfl,hbs⟩;have uI:=Below.trans' gN hbs gN.size;have D9:=Below.trans' fy uI kQ))
              go_roundg (3-(2+1))
              case measure=>omega
              case rel=>exact⟨2+1,af,rfl,by go_num,zZ,uI⟩
         ·obtain rfl:k=3:=af
          have Hs:=hdd (dW (jS ⟨RB.out,Vr.out,acy.out,HI3.out,acm.out,l,Fi.out,Hu.out⟩))
          go_wp2
          go_ret
          rw [Hs.out]
          exact⟨rfl,HB.out _ hbk⟩
    ·have e3:(R != 0)=true:=by simp [i3]
     have nK:=hdd (cS (il fun h:nD b=>i3 (HR.out.symm.trans h.fl2)))
     clear i1 i2 UT i3 hR
     go_wp2
     go_ret
     rw [nK.out]
     exact⟨rfl,hb0⟩
   ·have e2':decide (1048575<b.floor)=true:=by simp;omega
    have nK:=hdd (cS (il fun h:nD b=>UT h.XM))
    clear i1 i2 UT
    go_wp2
    go_ret
    rw [nK.out]
    exact⟨rfl,hb0⟩
  ·have e2:decide (b.floor<0)=true:=by simp;omega
   have nK:=hdd (cS (il fun h:nD b=>i2 h.Zb))
   clear i1 i2
   go_wp2
   go_ret
   rw [nK.out]
   exact⟨rfl,hb0⟩
 ·have e1:decide ((16:Int)<(b.names.length:Int))=true:=by simp;omega
  have nK:=hdd (cS (il fun h:nD b=>i1 h.n16))
  clear i1
  go_wp2
  go_ret
  rw [nK.out]
  exact⟨rfl,hb0⟩
end
end Go.Proofs.YtmljjfhgciaceaaDoor
