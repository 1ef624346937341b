/- Texts of mine that come as one: LawNew Of LawBaseNew. -/
import Derived.Test.YtmljjfhgciaceaaGreatDoorHd
import Derived.Test.YtmljjfhgciaceaaGreatDoorBK
import Derived.Test.YtmljjfhgciaceaaGreatDoorPG
import Derived.Test.YtmljjfhgciaceaaGreatDoorPU
namespace Go.Proofs.YtmljjfhgciaceaaGreatDoor
open Go.RowKit
section
set_option maxRecDepth 100000
set_option maxHeartbeats 1000000
def tC:Tr:=⟨[⟨true,[],[],[],[]⟩],0⟩
theorem L5:mH tC 12 0 0 1099511627776=some ([0],1):=by
 have h:tC.dm 0=some ⟨true,[],[],[],[]⟩:=rfl
 unfold mH
 rw [h]
 simp only
 rw [ai aY,ar trivial,ar ⟨rfl,rfl,rfl,aY, .inr rfl,tH _ _⟩]
theorem F7:ax tC=0:=ui aY ⟨[0],1,L5,bt,rfl⟩
theorem L6 (lo hi:Int):kG tC lo hi=some []:=rfl
theorem uh (w:World):Calls Tryz.prog 33 #[] w fun e w'=>∃g,e = .returned (.agg #[.slice (some ⟨g,0,none⟩) 1 1, .int .i64 0])/\w.heap.size<=g/\g<w'.heap.size/\w'.heap[g]?=some (.cells #[.bool true, .slice none 0 0, .slice none 0 0, .slice none 0 0, .slice none 0 0] 125)/\ah w w':=by
 go_enter Tryz.func33,Tryz.ntmps33
 go_wp2
 exact bodyPost_ret (v:= .agg #[.slice (some ⟨w.heap.size+1,0,none⟩) 1 1, .int .i64 0]) (by simp [results,Tryz.results33,go_sem]) rfl ⟨_,rfl,af,bt,by first|(with_reducible exact aq _ _ bt)|simp,ag⟩
theorem Dr {w:World} {g:Nat} {T:TypeId} (h:w.heap[g]?=some (.cells #[.bool true, .slice none 0 0, .slice none 0 0, .slice none 0 0, .slice none 0 0] T)):bz w (.slice (some ⟨g,0,none⟩) 1 1) tC.nodes:=by
 refine⟨[⟨true, .slice none 0 0, .slice none 0 0, .slice none 0 0, .slice none 0 0⟩],⟨_,_,rfl,aY,aY,aY,bt,fun _=>⟨g,0,rfl,(eP.1 h).1,fun i x hx j u hu=>?_⟩⟩,rfl,fun i r x hr hx=>?_⟩
 ·match i,hx with
  |0,hx=>
   simp only [List.getElem?_cons_zero,iE]at hx
   subst hx
   simp only [World.cell?,h]
   simpa [cM] using hu
 ·match i,hr,hx with
  |0,hr,hx=>
   simp only [tC,List.getElem?_cons_zero,iE]at hr hx
   subst hr hx
   exact⟨rfl,dN.nil _ _ _ _,dN.nil _ _ _ _,dN.nil _ _ _ _,dN.nil _ _ _ _⟩
end
section
set_option maxRecDepth 100000
set_option maxHeartbeats 4000000
variable {l:List aA} {k:Nat} {t:Tr} {w:World}
theorem Made.ji (h:Made (l.take k) t) (hk:k<l.length) (ho:¬∃p,kr l k=some p/\l[k].key<=p) :
  ji t l[k].key l[k].is=if l[k].key<0\/1099511627776<=l[k].key\/l[k].is.c=0 then 2 else if aj l[k].is≠0 then aj l[k].is else 0:=by
 unfold Go.Proofs.YtmljjfhgciaceaaGreatDoor.ji
 rw [ai (by simp [h.1])]
 by_cases h2:l[k].key<0\/1099511627776<=l[k].key\/l[k].is.c=0
 ·rw [ar h2,ar h2]
 ·rw [ai h2,ai h2]
  by_cases h3:aj l[k].is=0
  ·obtain⟨hz,-⟩:=h.put hk ho h2 h3
   have:=(cp h3 af).2
   have hle:(av.zero:av).c+l[k].is.c<=1073741824:=by show (0:Int)+_<=_;omega
   simp only [h3,hz,ne_eq,not_true_eq_false,if_false,ar hle]
  ·rw [ar h3,ar h3]
def Un (l:List aA) (w:World) (x:Ending) (w':World):Prop:=
 ah w w'/\((∃E,E≠0/\(E=iI none l\/(E=1/\2900<l.length))/\x = .returned (.tuple #[lS, .int .i64 E])) \/
  (iI none l=0/\∃t v,x = .returned (.tuple #[v, .int .i64 0])/\(∀w'',aQ (w.heap.size+1) w' w''->bN w'' v t)/\Made l t))
structure NW (w:World) (tb:Nat) (l:List aA) (k:Nat) (s:Option Addr) (n c:Nat) (t:Tr) (wr:World):Prop where
 below:ah w wr
 size:w.heap.size<tb
 lt:tb<wr.heap.size
 z0:wr.cell? ⟨w.heap.size,0,none⟩=some (.slice none 0 0)
 z1:wr.cell? ⟨w.heap.size,1,none⟩=some (.int .i64 0)
 zf:∀o,wr.frozen? ⟨w.heap.size,o,none⟩=false
 t0:wr.cell? ⟨tb,0,none⟩=some (.slice s n c)
 t1:wr.cell? ⟨tb,1,none⟩=some (.int .i64 t.root)
 tf:∀o,wr.frozen? ⟨tb,o,none⟩=false
 tree:∀w'',wr.heap.size<=w''.heap.size->(∀b,w.heap.size<b->b≠tb->b<wr.heap.size->w''.heap[b]?=wr.heap[b]?)->bN w'' (.agg #[.slice s n c, .int .i64 t.root]) t
 made:Made (l.take k) t
 aF:iI none l=iI (kr l k) (l.drop k)
theorem NW.later {tb:Nat} {s:Option Addr} {n c:Nat} {wr w':World} (h:NW w tb l k s n c t wr) (hb:ah wr w'):NW w tb l k s n c t w':=by
 have h1:=h.size
 have h2:=h.lt
 have k0:=nj hb (B:=w.heap.size) af
 have k1:=nj hb (B:=tb) h2
 exact⟨Below.trans' h.below hb h.below.size,h1,k1.1,(k0.2.1 _).trans h.z0,(k0.2.1 _).trans h.z1,fun o=>(k0.2.2 o).trans (h.zf o),(k1.2.1 _).trans h.t0,(k1.2.1 _).trans h.t1,fun o=>(k1.2.2 o).trans (h.tf o),fun w'' hs hk=>h.tree w'' (im hb.size hs) fun b b1 b2 b3=>(hk b b1 b2 (mR b3 hb.size)).trans (hb.block b b3),h.made,h.aF⟩
theorem Kc (h:iI none l=iI (kr l k) (l.drop k)) (hk:l.length<=k):iI none l=0:=by rw [h,AL hk];rfl
theorem Fs {v:Value} (h:ft w v l):Calls Tryz.prog 79 #[v] w (Un l w):=by
 have HE:=hdd h
 obtain⟨ao,cap,rfl,a1,a2,a3,a4,a5⟩:=h
 obtain⟨W0,hW0⟩:=bR (w.alloc (.cells #[.slice none 0 0, .int .i64 0] 27))
 have hb0:ah w W0:=by rw [hW0];exact ag
 have hz0:W0.heap.size=w.heap.size+1:=by rw [hW0];simp
 have k0:W0.heap[w.heap.size]?=some (.cells #[.slice none 0 0, .int .i64 0] 27):=by rw [hW0];exact aq _ _ rfl
 have HN:=hdd (uh W0)
 go_enter Tryz.func79,Tryz.ntmps79
 go_upto_region 1 with (fail)
 rw [<-hW0]
 clear hW0
 go_upto_region 2 with (go_at_call 33;(with_reducible refine HN.out.mono ?_);rintro e w1 ⟨g,rfl,hg1,hg2,hg,hb1⟩)
 obtain⟨W1,hW1⟩:=bR (w1.alloc (.cells #[.slice (some ⟨g,0,none⟩) 1 1, .int .i64 0] 27))
 have o8:ah w1 W1:=by rw [hW1];exact ag
 have k1:W1.heap[w1.heap.size]?=some (.cells #[.slice (some ⟨g,0,none⟩) 1 1, .int .i64 0] 27):=by rw [hW1];exact aq _ _ rfl
 have hs1:=hb1.size
 have hz1:W1.heap.size=w1.heap.size+1:=by rw [hW1];simp
 have YT:=(o8.block w.heap.size af).trans ((hb1.block w.heap.size af).trans k0)
 have HI:=hdd (show NW w w1.heap.size l 0 (some ⟨g,0,none⟩) 1 1 tC W1 from
  ⟨Below.trans' (Below.trans' hb0 hb1 hb0.size) o8 af,af,af,by simp [World.cell?,YT],by simp [World.cell?,YT],fun o=>by simp [World.frozen?,YT],by simp [World.cell?,k1],by show W1.cell? ⟨w1.heap.size,1,none⟩=some (Value.int .i64 0);simp [World.cell?,k1],fun o=>by simp [World.frozen?,k1],
   fun w'' hs hk=>⟨_,rfl,Dr ((hk g af af af).trans ((o8.block g hg2).trans hg))⟩,Dw,rfl⟩)
 rw [<-hW1]
 obtain⟨tb,D6⟩:=bC (w1.heap.size)
 rw [D6]at HI ⊢
 clear hW1 k1 hs1 hz1 YT k0 hb1 o8 hg hg1 hg2 hb0 D6
 go_wp2_with fail
 go_loopg [12] l.length (fun g i wr=>∃k:Nat,k<=l.length/\g=l.length-k/\i = .int .i64 k/\Hid (∃s n c t,NW w tb l k s n c t wr))
 case atStart=>exact⟨0,jf _,rfl,rfl,hdd ⟨_,_,_,_,HI.out⟩⟩
 case round=>
  clear HI
  obtain⟨k,hk,rfl,rfl,HR⟩:=hrel
  obtain⟨s,n,c,t,hA⟩:=HR.out
  by_cases hlt:k<l.length
  ·obtain⟨ab,bp,rfl,xD,ac⟩:=a5 af
   obtain⟨c0,c1,c2,c3,c4,c5,c6⟩:=bT hA.below xD ac hlt
   obtain⟨p,hp⟩:∃p:Int,∀ie:0<k,wr.cell? ⟨ab,bp+(k-1)*7,none⟩=some (.int .i64 p)/\kr l k=some p:=by
    by_cases ie:0<k
    ·obtain⟨q0,-⟩:=bT hA.below xD ac (show k-1<l.length by omega)
     refine⟨_,fun _=>⟨q0,?_⟩⟩
     unfold kr
     rw [ai af,oG af];rfl
    ·exact⟨0,fun h=>absurd h ie⟩
   have hbz:=hA.below.size
   have abz:ab<wr.heap.size:=af
   have hEA:=Nl hlt
   have hPE:=hA.made.ji hlt
   have hMP:=hA.made.put hlt
   obtain⟨e,he⟩:=bC (l[k])
   rw [he]at c0 c1 c2 c3 c4 c5 c6 hEA hPE hMP
   obtain⟨W5,oq⟩:=bR (wr.alloc (.cells #[.int .i64 e.key, .int .i64 e.is.c, .int .i64 e.is.s, .int .i64 e.is.mi, .int .i64 e.is.ma, .int .i64 e.is.t, .int .i64 e.is.l] 107))
   have qw:ah wr W5:=by rw [oq];exact(aL _ _).alloc aI _
   have n0:W5.heap[wr.heap.size]?=some (.cells #[.int .i64 e.key, .int .i64 e.is.c, .int .i64 e.is.s, .int .i64 e.is.mi, .int .i64 e.is.ma, .int .i64 e.is.t, .int .i64 e.is.l] 107):=by rw [oq];exact aq _ _ rfl
   have kO:W5.heap.size=wr.heap.size+1:=by rw [oq];simp
   have HA5:=hdd (hA.later qw)
   have qH:=hdd fun(W:World) (hb:ah W5 W)=>(by
    have b0:=(hb.block _ af).trans n0
    simp [World.cell?,b0]:W.cell? ⟨wr.heap.size,0,none⟩=some (.int .i64 e.key)/\W.cell? ⟨wr.heap.size,1,none⟩=some (.int .i64 e.is.c)/\W.cell? ⟨wr.heap.size,2,none⟩=some (.int .i64 e.is.s)/\W.cell? ⟨wr.heap.size,3,none⟩=some (.int .i64 e.is.mi)/\W.cell? ⟨wr.heap.size,4,none⟩=some (.int .i64 e.is.ma)/\W.cell? ⟨wr.heap.size,5,none⟩=some (.int .i64 e.is.t)/\W.cell? ⟨wr.heap.size,6,none⟩=some (.int .i64 e.is.l))
   have HEA:=hdd hEA
   have HPE:=hdd hPE
   have HMP:=hdd hMP
   have HP:=hdd fun(h:0<k)=>(qw.cell (p:=⟨ab,bp+(k-1)*7,none⟩) abz).trans (hp h).1
   have Og:=hdd (show (∃q,kr l k=some q/\e.key<=q)↔0<k/\e.key<=p from by
    by_cases ie:0<k
    ·rw [(hp ie).2];simp [ie]
    ·have:kr l k=none:=by unfold kr;rw [ar af]
     rw [this];simp;omega)
   have P6:=fun w'=>dC (ab:=ab) (bp:=bp) (n:=l.length) (cap:=cap) (show (k:Int)=((k:Nat):Int) by rfl) hlt w'
   clear hA ac a5 he hp hEA hPE hMP n0 qw
   go_upto_region 5 with (fail)
   rw [<-oq]
   clear oq c0 c1 c2 c3 c4 c5 c6 P6
   go_cut [29] (fun b wx=>∃B:Bool,(B=true↔0<k/\e.key<=p)/\b = .bool B/\ah W5 wx)
   case first=>
    obtain⟨s0,-⟩:=qH.out _ (aL _ _)
    by_cases g3:0<k
    ·have d3:decide ((0:Int)<k)=true:=by simpa using g3
     have q0:=HP.out g3
     have lA:=fun w=>dC (ab:=ab) (bp:=bp) (n:=l.length) (cap:=cap) (show (k:Int)-1=((k-1:Nat):Int) by omega) af w
     have hw1:IntKind.i64.wrap ((k:Int)-1)=(k:Int)-1:=IntWalk.i64_in _ af
     obtain⟨B,hB⟩:=bC (decide (e.key<=p))
     have HB:=hdd (show B=true↔0<k/\e.key<=p by rw [<-hB];simp [g3])
     go_quiet (fail)
     go_wp2
     go_meet
     exact⟨_,HB.out,rfl,ag⟩
    ·obtain rfl:k=0:=af
     go_quiet (fail)
     go_wp2
     go_meet
     exact⟨false,bt,rfl,ag⟩
   case rest=>
    obtain⟨B,hB,rfl,KY⟩:=hcut
    have HLB:=hdd (Og.out.trans hB.symm)
    have Ie:=hdd (HA5.out.later KY)
    have hax:=Ie.out
    obtain⟨s0,s1,s2,s3,s4,s5,s6⟩:=qH.out _ KY
    have Fl:=hdd KY
    have Uv:=hdd hax.aF
    have hzx:=KY.size
    obtain⟨x0,x1,x2,x3,x4,x5,x6,x7,x8,-,-,-⟩:=hax
    clear hB KY Og HP qH HR
    cases B with
    |true=>
     go_wp2_with fail
     have dh:=x0
     refine bodyPost_ret (v:= .tuple #[lS, .int .i64 8]) (by simp [results,Tryz.results79,go_sem, *]) rfl ⟨ag, .inl ⟨8,aY, .inl ?_,rfl⟩⟩
     rw [Uv.out,HEA.out,ar (HLB.out.2 bt)]
    |false=>
     have ho:¬∃q,kr l k=some q/\e.key<=q:=fun h=>by have:=HLB.out.1 h;cases this
     have Yd:=hdd (HPE.out ho)
     have UH:=hdd (HMP.out ho)
     have Yv:=hdd (show iI none l=if e.key<0\/1099511627776<=e.key\/e.is.c=0 then 2 else if aj e.is≠0 then aj e.is else iI (kr l (k+1)) (l.drop (k+1)) by rw [Uv.out,HEA.out,ai ho])
     have KL:=hdd (mI (key:=e.key) (r:=e.is) (Ie.out.tree _ aI fun _ _ _ _=>rfl) (fun h0=>by
      obtain⟨-,e1,e2,e3,e4,-⟩:=BX h0
      exact(UH.out af e4).2.1))
     clear ho HEA HPE HMP Uv
     go_upto_region 8 with ((go_at_call 70;(with_reducible refine KL.out.mono ?_);rintro x w6 ⟨jt,so,n6,c6,rt,E2,rfl,IK⟩))
     obtain⟨W7,jC⟩:=bR (w6.alloc (.cells #[.slice so n6 c6, .int .i64 rt] 27))
     have qG:ah w6 W7:=by rw [jC];exact ag
     have k7:W7.heap[w6.heap.size]?=some (.cells #[.slice so n6 c6, .int .i64 rt] 27):=by rw [jC];exact aq _ _ rfl
     have HPF:=hdd IK
     have CJ:=hdd qG
     have hx6:=jt.size
     have hx7:W7.heap.size=w6.heap.size+1:=by rw [jC];simp
     have HA7:=hdd (Ie.out.later (Below.trans' jt qG hx6))
     rw [<-jC]
     clear jC x0 x3 x4 x5 x6 x7 x8 s0 s1 s2 s3 s4 s5 s6 jt qG IK
     obtain⟨x0,-,x2,x3,x4,x5,x6,x7,x8,-,-,-⟩:=HA7.out
     by_cases h0:E2=0
     ·subst h0
      obtain⟨q0,q1⟩:W7.cell? ⟨w6.heap.size,0,none⟩=some (.slice so n6 c6)/\W7.cell? ⟨w6.heap.size,1,none⟩=some (.int .i64 rt):=by simp [World.cell?,k7]
      clear k7
      go_wp2_with fail
      go_roundg (l.length-(k+1))
      case measure=>omega
      case rel=>
       refine⟨k+1,af,rfl,by go_num,hdd ?_⟩
       rcases HPF.out with ⟨p1,p2⟩|⟨p1,t2,h2,l2,p2,p3,p4,⟨-,p5,rfl,p6⟩|⟨p5,-⟩⟩
       ·omega
       ·obtain⟨-,e1,e2,e3,e4,-⟩:=BX p1
        have hnb:¬(e.key<0\/1099511627776<=e.key\/e.is.c=0):=af
        obtain⟨-,-,m1,m2,m3⟩:=UH.out hnb e4
        obtain⟨m4,m5,m6⟩:=m3 t2 p3 p4
        have hen:iI none l=iI (kr l (k+1)) (l.drop (k+1)):=by rw [Yv.out,ai hnb,ai (by simp [e4])]
        have oI:∀b,b≠tb->((W7.setCell ⟨tb,0,none⟩ (.slice so n6 c6)).setCell ⟨tb,1,none⟩ (.int .i64 t2.root)).heap[b]?=W7.heap[b]?:=fun b hb=>
         (heap_setCell_other _ ⟨tb,_,none⟩ b _ hb).trans (heap_setCell_other _ ⟨tb,_,none⟩ b _ hb)
        have hsz:((W7.setCell ⟨tb,0,none⟩ (.slice so n6 c6)).setCell ⟨tb,1,none⟩ (.int .i64 t2.root)).heap.size=W7.heap.size:=by simp only [ay]
        have hwt:w.heap.size≠tb:=af
        refine⟨so,n6,c6,t2,⟨(x0.setCell (by show w.heap.size<=tb;omega) _).setCell (by show w.heap.size<=tb;omega) _,x1,by rw [hsz];exact x2,(World.cell?_of_block (a:=⟨w.heap.size,0,none⟩) (oI _ hwt)).trans x3,(World.cell?_of_block (a:=⟨w.heap.size,1,none⟩) (oI _ hwt)).trans x4,
         fun o=>(World.frozen?_of_block (a:=⟨w.heap.size,o,none⟩) (oI _ hwt)).trans (x5 o),jU aY (kF x6),kF (jU aY x7),fun o=>by simp [x8],fun w'' hs hk=>p6 w'' ⟨af,fun b b1 b2=>?_⟩,⟨p5,m4,m1,m2,m6,m5⟩,hen⟩⟩
        rw [hsz]at hk
        exact(hk b af af af).trans ((oI b af).trans (CJ.out.block b b2))
       ·omega
     ·have d2:(E2 != 0)=true:=by simp [h0]
      clear k7
      go_wp2_with fail
      refine bodyPost_ret (v:= .tuple #[lS, .int .i64 E2]) (by simp [results,Tryz.results79,go_sem, *]) rfl ⟨ag, .inl ⟨E2,h0,?_,rfl⟩⟩
      rcases HPF.out with ⟨p1,p2⟩|⟨p1,t2,h2,l2,p2,p3,p4,⟨p5,-⟩|⟨p5,p6⟩⟩
      ·left
       rw [p2,Yv.out,Yd.out]
       rw [Yd.out]at p1
       by_cases c1:e.key<0\/1099511627776<=e.key\/e.is.c=0
       ·rw [ar c1,ar c1]
       ·rw [ai c1]at p1 ⊢
        rw [ai c1]
        by_cases c2:aj e.is=0
        ·rw [ai (by simp [c2])]at p1;exact absurd rfl p1
        ·rw [ar c2,ar c2]
      ·exact absurd p5 h0
      ·right
       obtain⟨-,e1,e2,e3,e4,-⟩:=BX p1
       obtain⟨-,-,-,-,m3⟩:=UH.out af e4
       have:=(m3 t2 p3 p4).2.1
       have:=p2.grown p6
       rw [fx]at *
       exact⟨p5,af⟩
  ·have ZI:=hdd (Kc hA.aF af)
   have hm:=hA.made
   rw [kI af]at hm
   have HM:=hdd hm
   have HT:=hdd hA
   obtain⟨x0,x1,x2,x3,x4,x5,x6,x7,x8,-,-,-⟩:=hA
   clear hm
   go_wp2_with fail
   refine bodyPost_ret (v:= .tuple #[.agg #[.slice s n c, .int .i64 t.root], .int .i64 0]) (by simp [results,Tryz.results79,go_sem, *]) rfl ⟨ag, .inr ⟨ZI.out,t,_,rfl,?_,HM.out⟩⟩
   intro w'' hw
   refine HT.out.tree _ (im (by simp only [ay];omega) hw.1) fun b b1 b2 b3=>?_
   refine(hw.2 b af (by simp only [ay];omega)).trans ?_
   exact(heap_setCell_other _ ⟨w.heap.size,_,none⟩ b _ (by show b≠w.heap.size;omega)).trans (heap_setCell_other _ ⟨w.heap.size,_,none⟩ b _ (by show b≠w.heap.size;omega))
def CD (B:Nat) (l:List aA) (w':World) (so:Option Addr) (n c:Nat) (rt E2:Int):Prop:=
 (E2≠0/\n=0/\so=none/\c=0/\rt=0/\(E2=iI none l\/(E2=1/\2900<l.length)))\/(E2=0/\iI none l=0/\∃t,(∀w'',aQ B w' w''->bN w'' (.agg #[.slice so n c, .int .i64 rt]) t)/\Made l t)
theorem mJ {v:Value} (h:ft w v l):Calls Tryz.prog 79 #[v] w fun x w'=>ah w w'/\∃so n c rt E2,x = .returned (.tuple #[.agg #[.slice so n c, .int .i64 rt], .int .i64 E2])/\CD (w.heap.size+1) l w' so n c rt E2:=by
 refine(Fs h).mono ?_
 rintro x w' ⟨hb,⟨E,h1,h2,rfl⟩|⟨h1,t,v,rfl,h2,h3⟩⟩
 ·exact⟨hb,none,0,0,0,E,rfl, .inl ⟨h1,rfl,rfl,rfl,rfl,h2⟩⟩
 ·obtain⟨nv,rfl,hn⟩:=h2 w' (aQ.refl _ _)
  obtain⟨⟨ao,cap,rfl⟩,-⟩:=hn.len
  exact⟨hb,_,_,_,_,0,rfl, .inr ⟨rfl,h1,t,h2,h3⟩⟩
end
section
set_option maxRecDepth 100000
set_option maxHeartbeats 2000000
variable {M n c n0 c0 n1 c1 n2 c2:Nat} {s s0 s1 s2:Option Addr} {wr w:World}
def rG (M:Nat) (wr:World) (s:Option Addr) (n c:Nat):Prop:=∃g,s=some ⟨g,0,none⟩/\n=1/\c=1/\M<=g/\g<wr.heap.size/\wr.heap[g]?=some (.cells #[.bool true, .slice none 0 0, .slice none 0 0, .slice none 0 0, .slice none 0 0] 125)
theorem rG.block {w':World} (h:rG M wr s n c) (hz:wr.heap.size<=w'.heap.size) (hb:∀b,M<=b->b<wr.heap.size->w'.heap[b]?=wr.heap[b]?):rG M w' s n c:=by
 obtain⟨g,h1,h2,h3,h4,h5,h6⟩:=h
 exact⟨g,h1,h2,h3,h4,af,(hb g h4 h5).trans h6⟩
structure E0 (w:World) (s0:Option Addr) (n0 c0:Nat) (s1:Option Addr) (n1 c1:Nat) (s2:Option Addr) (n2 c2:Nat) (wr:World):Prop where
 below:ah w wr
 size:w.heap.size+2<=wr.heap.size
 res:wr.heap[w.heap.size]?=some (.cells #[.slice none 0 0, .slice none 0 0, .int .i64 0, .slice none 0 0, .int .i64 0, .slice none 0 0, .int .i64 0, .int .i64 0] 30)
 box:wr.heap[w.heap.size+1]?=some (.cells #[.slice none 0 0, .slice s0 n0 c0, .int .i64 0, .slice s1 n1 c1, .int .i64 0, .slice s2 n2 c2, .int .i64 0, .int .i64 0] 30)
theorem E0.step {w5:World} (h:E0 w s0 n0 c0 s1 n1 c1 s2 n2 c2 wr) (cz:ah wr w5) {o:Nat} {u v:Value} {cs:Array Value}
  (hcs:((#[.slice none 0 0, .slice s0 n0 c0, .int .i64 0, .slice s1 n1 c1, .int .i64 0, .slice s2 n2 c2, .int .i64 0, .int .i64 0]:Array Value).setIfInBounds o u).setIfInBounds (o+1) v=cs) :
  ah w ((w5.setCell ⟨w.heap.size+1,o,none⟩ u).setCell ⟨w.heap.size+1,o+1,none⟩ v)/\w.heap.size+2<=((w5.setCell ⟨w.heap.size+1,o,none⟩ u).setCell ⟨w.heap.size+1,o+1,none⟩ v).heap.size /\
   ((w5.setCell ⟨w.heap.size+1,o,none⟩ u).setCell ⟨w.heap.size+1,o+1,none⟩ v).heap[w.heap.size]?=some (.cells #[.slice none 0 0, .slice none 0 0, .int .i64 0, .slice none 0 0, .int .i64 0, .slice none 0 0, .int .i64 0, .int .i64 0] 30) /\
   ((w5.setCell ⟨w.heap.size+1,o,none⟩ u).setCell ⟨w.heap.size+1,o+1,none⟩ v).heap[w.heap.size+1]?=some (.cells cs 30) /\
   (∀b,w.heap.size+2<=b->((w5.setCell ⟨w.heap.size+1,o,none⟩ u).setCell ⟨w.heap.size+1,o+1,none⟩ v).heap[b]?=w5.heap[b]?):=by
 have hsz:=h.size
 have hs5:=cz.size
 have hb:ah w w5:=Below.trans' h.below cz h.below.size
 refine⟨(by repeat (first|with_reducible exact aL _ _|with_reducible assumption|with_reducible refine cC ?_ _|with_reducible refine Below.drew ?_|with_reducible refine Below.alloc ?_ (by first|omega|(simp;done)|(simp;omega)) _|with_reducible refine Below.setCell ?_ (by first|omega|(simp;done)|(simp;omega)) _)),by simp;omega,?_,?_,fun b hb=>?_⟩
 ·rw [qd _ _ _ _ (by show w.heap.size≠w.heap.size+1;omega),qd _ _ _ _ (by show w.heap.size≠w.heap.size+1;omega)]
  exact(cz.block _ af).trans h.res
 ·rw [<-hcs]
  exact heap_setCell_same (heap_setCell_same ((cz.block _ af).trans h.box))
 ·rw [qd _ _ _ _ (by show b≠w.heap.size+1;omega),qd _ _ _ _ (by show b≠w.heap.size+1;omega)]
theorem E0.cells (h:E0 w s0 n0 c0 s1 n1 c1 s2 n2 c2 wr):wr.cell? ⟨w.heap.size+1,0,none⟩=some (.slice none 0 0)/\wr.cell? ⟨w.heap.size+1,1,none⟩=some (.slice s0 n0 c0)/\wr.cell? ⟨w.heap.size+1,2,none⟩=some (.int .i64 0)/\wr.cell? ⟨w.heap.size+1,3,none⟩=some (.slice s1 n1 c1)/\wr.cell? ⟨w.heap.size+1,4,none⟩=some (.int .i64 0)/\wr.cell? ⟨w.heap.size+1,5,none⟩=some (.slice s2 n2 c2)/\wr.cell? ⟨w.heap.size+1,6,none⟩=some (.int .i64 0)/\wr.cell? ⟨w.heap.size+1,7,none⟩=some (.int .i64 0)/\∀o,wr.frozen? ⟨w.heap.size+1,o,none⟩=false:=by
 simp [World.cell?,World.frozen?,h.box]
theorem E0.FT (h:E0 w s0 n0 c0 s1 n1 c1 s2 n2 c2 wr):wr.cell? ⟨w.heap.size,0,none⟩=some (.slice none 0 0)/\wr.cell? ⟨w.heap.size,1,none⟩=some (.slice none 0 0)/\wr.cell? ⟨w.heap.size,2,none⟩=some (.int .i64 0)/\wr.cell? ⟨w.heap.size,3,none⟩=some (.slice none 0 0)/\wr.cell? ⟨w.heap.size,4,none⟩=some (.int .i64 0)/\wr.cell? ⟨w.heap.size,5,none⟩=some (.slice none 0 0)/\wr.cell? ⟨w.heap.size,6,none⟩=some (.int .i64 0)/\wr.cell? ⟨w.heap.size,7,none⟩=some (.int .i64 0)/\∀o,wr.frozen? ⟨w.heap.size,o,none⟩=false:=by
 simp [World.cell?,World.frozen?,h.res]
def kq:Ba:=⟨[],tC,tC,tC,0⟩
theorem rG.tree (h:rG M wr s n c):bz wr (.slice s n c) tC.nodes:=by
 obtain⟨g,rfl,rfl,rfl,_,_,h6⟩:=h
 exact Dr h6
theorem vd (w:World):Calls Tryz.prog 16 #[] w fun e w'=>(∃v',e = .returned v'/\∀w'',aQ (w.heap.size+2) w' w''->bQ w'' v' kq)/\ah w w':=by
 have HN:=hdd fun w'=>uh w'
 obtain⟨W0,hW0⟩:=bR ((w.alloc (.cells #[.slice none 0 0, .slice none 0 0, .int .i64 0, .slice none 0 0, .int .i64 0, .slice none 0 0, .int .i64 0, .int .i64 0] 30)).alloc (.cells #[.slice none 0 0, .slice none 0 0, .int .i64 0, .slice none 0 0, .int .i64 0, .slice none 0 0, .int .i64 0, .int .i64 0] 30))
 have HST:=hdd (show E0 w none 0 0 none 0 0 none 0 0 W0 by
  refine⟨by rw [hW0];exact(by repeat (first|with_reducible exact aL _ _|with_reducible assumption|with_reducible refine cC ?_ _|with_reducible refine Below.drew ?_|with_reducible refine Below.alloc ?_ (by first|omega|(simp;done)|(simp;omega)) _|with_reducible refine Below.setCell ?_ (by first|omega|(simp;done)|(simp;omega)) _)),by rw [hW0];simp,?_,?_⟩
  ·rw [hW0,lI _ _ _ bt];exact aq _ _ rfl
  ·rw [hW0];exact aq _ _ bt)
 go_enter Tryz.func16,Tryz.ntmps16
 go_upto_region 2 with (fail)
 rw [<-hW0]
 clear hW0
 go_wp2_with fail
 go_loopg [4] 3 (fun g i wr=>∃(k:Nat) (s0:Option Addr) (n0 c0:Nat) (s1:Option Addr) (n1 c1:Nat) (s2:Option Addr) (n2 c2:Nat),k<=3/\g=3-k/\i = .int .i64 k/\Hid (E0 w s0 n0 c0 s1 n1 c1 s2 n2 c2 wr/\(0<k->rG (w.heap.size+2) wr s0 n0 c0)/\(1<k->rG (w.heap.size+2) wr s1 n1 c1)/\(2<k->rG (w.heap.size+2) wr s2 n2 c2)))
 case atStart=>exact⟨0,_,_,_,_,_,_,_,_,_,af,rfl,rfl,hdd ⟨HST.out,fun h=>af,fun h=>af,fun h=>af⟩⟩
 case round=>
  clear HST
  obtain⟨k,s0,n0,c0,s1,n1,c1,s2,n2,c2,hk,rfl,rfl,HB⟩:=hrel
  obtain⟨b0,b1,b2,b3,b4,b5,b6,b7,bf⟩:=HB.out.1.cells
  have hsz:=HB.out.1.size
  have Yh:=hdd (show ∀(w5:World) (gg:Nat),ah wr w5->wr.heap.size<=gg->gg<w5.heap.size->w5.heap[gg]?=some (.cells #[.bool true, .slice none 0 0, .slice none 0 0, .slice none 0 0, .slice none 0 0] 125)->∀w6:World,w5.heap.size<=w6.heap.size->(∀b,w.heap.size+2<=b->w6.heap[b]?=w5.heap[b]?)->rG (w.heap.size+2) w6 (some ⟨gg,0,none⟩) 1 1
   from fun w5 gg _ h1 h2 h3 w6 hz hk=>⟨gg,rfl,rfl,rfl,af,af,(hk gg af).trans h3⟩)
  have HOLD:=hdd (show ∀w5:World,ah wr w5->∀w6:World,w5.heap.size<=w6.heap.size->(∀b,w.heap.size+2<=b->w6.heap[b]?=w5.heap[b]?)->∀s n c,rG (w.heap.size+2) wr s n c->rG (w.heap.size+2) w6 s n c
   from fun w5 cz w6 hz hk s n c h=>h.block (w':=w6) (by have:=cz.size;omega) (fun b h1 h2=>(hk b h1).trans (cz.block b h2)))
  by_cases hlt:k<3
  ·obtain rfl|rfl|rfl:k=0\/k=1\/k=2:=af
   ·go_wp2_with ((go_at_call 33;(with_reducible refine(HN.out _).mono ?_);rintro e w5 ⟨gg,rfl,hg1,hg2,hg3,cz⟩;obtain⟨PE,Sv,Su⟩:=nj cz (B:=w.heap.size+1) af))
    go_roundg 2
    case measure=>omega
    case rel=>
     obtain⟨q1,q2,q3,q4,q5⟩:=HB.out.1.step cz (o:=1) (u:= .slice (some ⟨gg,0,none⟩) 1 1) (v:= .int .i64 0) rfl
     have uE:w5.heap.size<=((w5.setCell ⟨w.heap.size+1,1,none⟩ (.slice (some ⟨gg,0,none⟩) 1 1)).setCell ⟨w.heap.size+1,1+1,none⟩ (.int .i64 0)).heap.size:=bt
     exact⟨1,_,_,_,_,_,_,_,_,_,af,rfl,by go_num,hdd ⟨⟨q1,q2,q3,by simpa using q4⟩,fun _=>Yh.out w5 gg cz hg1 hg2 hg3 _ uE q5,fun h=>af,fun h=>af⟩⟩
   ·go_wp2_with ((go_at_call 33;(with_reducible refine(HN.out _).mono ?_);rintro e w5 ⟨gg,rfl,hg1,hg2,hg3,cz⟩;obtain⟨PE,Sv,Su⟩:=nj cz (B:=w.heap.size+1) af))
    go_roundg 1
    case measure=>omega
    case rel=>
     obtain⟨q1,q2,q3,q4,q5⟩:=HB.out.1.step cz (o:=3) (u:= .slice (some ⟨gg,0,none⟩) 1 1) (v:= .int .i64 0) rfl
     have uE:w5.heap.size<=((w5.setCell ⟨w.heap.size+1,3,none⟩ (.slice (some ⟨gg,0,none⟩) 1 1)).setCell ⟨w.heap.size+1,3+1,none⟩ (.int .i64 0)).heap.size:=bt
     exact⟨2,_,_,_,_,_,_,_,_,_,af,rfl,by go_num,hdd ⟨⟨q1,q2,q3,by simpa using q4⟩,fun _=>HOLD.out w5 cz _ uE q5 _ _ _ (HB.out.2.1 af),fun _=>Yh.out w5 gg cz hg1 hg2 hg3 _ uE q5,fun h=>af⟩⟩
   ·go_wp2_with ((go_at_call 33;(with_reducible refine(HN.out _).mono ?_);rintro e w5 ⟨gg,rfl,hg1,hg2,hg3,cz⟩;obtain⟨PE,Sv,Su⟩:=nj cz (B:=w.heap.size+1) af))
    go_roundg 0
    case measure=>omega
    case rel=>
     obtain⟨q1,q2,q3,q4,q5⟩:=HB.out.1.step cz (o:=5) (u:= .slice (some ⟨gg,0,none⟩) 1 1) (v:= .int .i64 0) rfl
     have uE:w5.heap.size<=((w5.setCell ⟨w.heap.size+1,5,none⟩ (.slice (some ⟨gg,0,none⟩) 1 1)).setCell ⟨w.heap.size+1,5+1,none⟩ (.int .i64 0)).heap.size:=bt
     exact⟨3,_,_,_,_,_,_,_,_,_,af,rfl,by go_num,hdd ⟨⟨q1,q2,q3,by simpa using q4⟩,fun _=>HOLD.out w5 cz _ uE q5 _ _ _ (HB.out.2.1 af),fun _=>HOLD.out w5 cz _ uE q5 _ _ _ (HB.out.2.2.1 af),fun _=>Yh.out w5 gg cz hg1 hg2 hg3 _ uE q5⟩⟩
  ·obtain rfl:k=3:=af
   obtain⟨z0,z1,z2,z3,z4,z5,z6,z7,zf⟩:=HB.out.1.FT
   have dh:=HB.out.1.below
   have H8:=hdd (show ∀w'',wr.heap.size<=w''.heap.size->(∀b,w.heap.size+2<=b->b<wr.heap.size->w''.heap[b]?=wr.heap[b]?)->bQ w'' (.agg #[.slice none 0 0, .slice s0 n0 c0, .int .i64 0, .slice s1 n1 c1, .int .i64 0, .slice s2 n2 c2, .int .i64 0, .int .i64 0]) kq from fun w'' hz hk=>
    ⟨_,_,_,_,rfl,dN.nil _ _ _ _,((HB.out.2.1 af).block hz hk).tree,((HB.out.2.2.1 af).block hz hk).tree,((HB.out.2.2.2 af).block hz hk).tree⟩)
   go_wp2
   refine bodyPost_ret (v:= .agg #[.slice none 0 0, .slice s0 n0 c0, .int .i64 0, .slice s1 n1 c1, .int .i64 0, .slice s2 n2 c2, .int .i64 0, .int .i64 0]) (by simp [results,Tryz.results16,go_sem, *]) rfl ⟨⟨_,rfl,?_⟩,?_⟩
   ·intro w'' hK
    refine H8.out _ (im bt hK.size) fun b hb hb2=>(hK.block b hb (by simpa using hb2)).trans ?_
    repeat rw [qd _ _ _ _ (by show b≠w.heap.size;omega)]
   ·exact(by repeat (first|with_reducible exact aL _ _|with_reducible assumption|with_reducible refine cC ?_ _|with_reducible refine Below.drew ?_|with_reducible refine Below.alloc ?_ (by first|omega|(simp;done)|(simp;omega)) _|with_reducible refine Below.setCell ?_ (by first|omega|(simp;done)|(simp;omega)) _))
theorem yV:allT tC=some []:=by unfold allT;rw [ar F7];exact L6 _ _
theorem vU:bX kq=some []:=uZ (b:=kq) yV rfl
theorem Pz:Cy kq [] 0 []=true:=by
 have h:aR kq=true:=jV ⟨aY,aY,aY,aY,fun i h=>by simp [kq]at h,[],vU,fun k _=>by
  rw [lU (a:=[]) (c:=[]) rfl (by unfold Ba.tree;split;exact yV;split <;> exact yV)];rfl⟩
 exact(Ks (b:=kq) h rfl rfl vU).trans rfl
end
end Go.Proofs.YtmljjfhgciaceaaGreatDoor
