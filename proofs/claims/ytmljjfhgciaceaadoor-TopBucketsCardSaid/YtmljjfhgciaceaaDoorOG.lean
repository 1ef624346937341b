/- Texts of mine that come as one: LawNew Of LawBaseNew. -/
import Derived.Test.YtmljjfhgciaceaaDoorHd
import Derived.Test.YtmljjfhgciaceaaDoorBK
import Derived.Test.YtmljjfhgciaceaaDoorPG
import Derived.Test.YtmljjfhgciaceaaDoorPU
namespace Go.Proofs.YtmljjfhgciaceaaDoor
open Go.RowKit
section
set_option maxRecDepth 100000
set_option maxHeartbeats 1000000
def tu:Tr:=⟨[⟨true,[],[],[],[]⟩],0⟩
theorem L4:mK tu 12 0 0 1099511627776=some ([0],1):=by
 have h:tu.dn 0=some ⟨true,[],[],[],[]⟩:=rfl
 unfold mK
 rw [h]
 simp only
 rw [ai aW,ar trivial,ar ⟨rfl,rfl,rfl,aW, .inr rfl,tD _ _⟩]
theorem F4:ax tu=0:=uf aW ⟨[0],1,L4,bq,rfl⟩
theorem L5 (lo hi:Int):kH tu lo hi=some []:=rfl
theorem ud (w:World):Calls Tryd.prog 81 #[] w fun e w'=>∃g,e = .returned (.agg #[.slice (some ⟨g,0,none⟩) 1 1, .int .i64 0])/\w.heap.size<=g/\g<w'.heap.size/\w'.heap[g]?=some (.cells #[.bool true, .slice none 0 0, .slice none 0 0, .slice none 0 0, .slice none 0 0] 119)/\ah w w':=by
 go_enter Tryd.func81,Tryd.ntmps81
 go_wp2
 exact bodyPost_ret (v:= .agg #[.slice (some ⟨w.heap.size+1,0,none⟩) 1 1, .int .i64 0]) (by simp [results,Tryd.results81,go_sem]) rfl ⟨_,rfl,af,bq,by first|(with_reducible exact aq _ _ bq)|simp,ag⟩
theorem Dn {w:World} {g:Nat} {T:TypeId} (h:w.heap[g]?=some (.cells #[.bool true, .slice none 0 0, .slice none 0 0, .slice none 0 0, .slice none 0 0] T)):bu w (.slice (some ⟨g,0,none⟩) 1 1) tu.nodes:=by
 refine⟨[⟨true, .slice none 0 0, .slice none 0 0, .slice none 0 0, .slice none 0 0⟩],⟨_,_,rfl,aW,aW,aW,bq,fun _=>⟨g,0,rfl,(eW.1 h).1,fun i x hx j u hu=>?_⟩⟩,rfl,fun i r x hr hx=>?_⟩
 ·match i,hx with
  |0,hx=>
   simp only [List.getElem?_cons_zero,iE]at hx
   subst hx
   simp only [World.cell?,h]
   simpa [cL] using hu
 ·match i,hr,hx with
  |0,hr,hx=>
   simp only [tu,List.getElem?_cons_zero,iE]at hr hx
   subst hr hx
   exact⟨rfl,dN.nil _ _ _ _,dN.nil _ _ _ _,dN.nil _ _ _ _,dN.nil _ _ _ _⟩
end
section
set_option maxRecDepth 100000
set_option maxHeartbeats 4000000
variable {l:List aA} {k:Nat} {t:Tr} {w:World}
theorem Made.ji (h:Made (l.take k) t) (hk:k<l.length) (ho:¬∃p,kq l k=some p/\l[k].key<=p) :
  ji t l[k].key l[k].is=if l[k].key<0\/1099511627776<=l[k].key\/l[k].is.c=0 then 2 else if aj l[k].is≠0 then aj l[k].is else 0:=by
 unfold Go.Proofs.YtmljjfhgciaceaaDoor.ji
 rw [ai (by simp [h.1])]
 by_cases h2:l[k].key<0\/1099511627776<=l[k].key\/l[k].is.c=0
 ·rw [ar h2,ar h2]
 ·rw [ai h2,ai h2]
  by_cases h3:aj l[k].is=0
  ·obtain⟨hz,-⟩:=h.put hk ho h2 h3
   have:=(cj h3 af).2
   have hle:(au.zero:au).c+l[k].is.c<=1073741824:=by show (0:Int)+_<=_;omega
   simp only [h3,hz,ne_eq,not_true_eq_false,if_false,ar hle]
  ·rw [ar h3,ar h3]
def Ud (l:List aA) (w:World) (x:Ending) (w':World):Prop:=
 ah w w'/\((∃E,E≠0/\(E=iJ none l\/(E=1/\2900<l.length))/\x = .returned (.tuple #[lT, .int .i64 E])) \/
  (iJ none l=0/\∃t v,x = .returned (.tuple #[v, .int .i64 0])/\(∀w'',aP (w.heap.size+1) w' w''->bL w'' v t)/\Made l t))
structure NU (w:World) (tb:Nat) (l:List aA) (k:Nat) (s:Option Addr) (n c:Nat) (t:Tr) (wr:World):Prop where
 below:ah w wr
 size:w.heap.size<tb
 lt:tb<wr.heap.size
 z0:wr.cell? ⟨w.heap.size,0,none⟩=some (.slice none 0 0)
 z1:wr.cell? ⟨w.heap.size,1,none⟩=some (.int .i64 0)
 zf:∀o,wr.frozen? ⟨w.heap.size,o,none⟩=false
 t0:wr.cell? ⟨tb,0,none⟩=some (.slice s n c)
 t1:wr.cell? ⟨tb,1,none⟩=some (.int .i64 t.root)
 tf:∀o,wr.frozen? ⟨tb,o,none⟩=false
 tree:∀w'',wr.heap.size<=w''.heap.size->(∀b,w.heap.size<b->b≠tb->b<wr.heap.size->w''.heap[b]?=wr.heap[b]?)->bL w'' (.agg #[.slice s n c, .int .i64 t.root]) t
 made:Made (l.take k) t
 aF:iJ none l=iJ (kq l k) (l.drop k)
theorem NU.later {tb:Nat} {s:Option Addr} {n c:Nat} {wr w':World} (h:NU w tb l k s n c t wr) (hb:ah wr w'):NU w tb l k s n c t w':=by
 have h1:=h.size
 have h2:=h.lt
 have k0:=nr hb (B:=w.heap.size) af
 have k1:=nr hb (B:=tb) h2
 exact⟨Below.trans' h.below hb h.below.size,h1,k1.1,(k0.2.1 _).trans h.z0,(k0.2.1 _).trans h.z1,fun o=>(k0.2.2 o).trans (h.zf o),(k1.2.1 _).trans h.t0,(k1.2.1 _).trans h.t1,fun o=>(k1.2.2 o).trans (h.tf o),fun w'' hs hk=>h.tree w'' (gT hb.size hs) fun b b1 b2 b3=>(hk b b1 b2 (mE b3 hb.size)).trans (hb.block b b3),h.made,h.aF⟩
theorem Ka (h:iJ none l=iJ (kq l k) (l.drop k)) (hk:l.length<=k):iJ none l=0:=by rw [h,AA hk];rfl
theorem Fm {v:Value} (h:eQ w v l):Calls Tryd.prog 107 #[v] w (Ud l w):=by
 have HE:=hdd h
 obtain⟨ao,cap,rfl,a1,a2,a3,a4,a5⟩:=h
 obtain⟨W0,hW0⟩:=bQ (w.alloc (.cells #[.slice none 0 0, .int .i64 0] 32))
 have hb0:ah w W0:=by rw [hW0];exact ag
 have hz0:W0.heap.size=w.heap.size+1:=by rw [hW0];simp
 have k0:W0.heap[w.heap.size]?=some (.cells #[.slice none 0 0, .int .i64 0] 32):=by rw [hW0];exact aq _ _ rfl
 have HN:=hdd (ud W0)
 go_enter Tryd.func107,Tryd.ntmps107
 go_upto_region 1 with (fail)
 rw [<-hW0]
 clear hW0
 go_upto_region 2 with (go_at_call 81;(with_reducible refine HN.out.mono ?_);rintro e w1 ⟨g,rfl,hg1,hg2,hg,hb1⟩)
 obtain⟨W1,hW1⟩:=bQ (w1.alloc (.cells #[.slice (some ⟨g,0,none⟩) 1 1, .int .i64 0] 32))
 have pj:ah w1 W1:=by rw [hW1];exact ag
 have k1:W1.heap[w1.heap.size]?=some (.cells #[.slice (some ⟨g,0,none⟩) 1 1, .int .i64 0] 32):=by rw [hW1];exact aq _ _ rfl
 have hs1:=hb1.size
 have hz1:W1.heap.size=w1.heap.size+1:=by rw [hW1];simp
 have YL:=(pj.block w.heap.size af).trans ((hb1.block w.heap.size af).trans k0)
 have HI:=hdd (show NU w w1.heap.size l 0 (some ⟨g,0,none⟩) 1 1 tu W1 from
  ⟨Below.trans' (Below.trans' hb0 hb1 hb0.size) pj af,af,af,by simp [World.cell?,YL],by simp [World.cell?,YL],fun o=>by simp [World.frozen?,YL],by simp [World.cell?,k1],by show W1.cell? ⟨w1.heap.size,1,none⟩=some (Value.int .i64 0);simp [World.cell?,k1],fun o=>by simp [World.frozen?,k1],
   fun w'' hs hk=>⟨_,rfl,Dn ((hk g af af af).trans ((pj.block g hg2).trans hg))⟩,Dt,rfl⟩)
 rw [<-hW1]
 obtain⟨tb,DZ⟩:=bw (w1.heap.size)
 rw [DZ]at HI ⊢
 clear hW1 k1 hs1 hz1 YL k0 hb1 pj hg hg1 hg2 hb0 DZ
 go_wp2_with fail
 go_loopg [12] l.length (fun g i wr=>∃k:Nat,k<=l.length/\g=l.length-k/\i = .int .i64 k/\Hid (∃s n c t,NU w tb l k s n c t wr))
 case atStart=>exact⟨0,iN _,rfl,rfl,hdd ⟨_,_,_,_,HI.out⟩⟩
 case round=>
  clear HI
  obtain⟨k,hk,rfl,rfl,HR⟩:=hrel
  obtain⟨s,n,c,t,hA⟩:=HR.out
  by_cases hlt:k<l.length
  ·obtain⟨ab,aY,rfl,xD,ac⟩:=a5 af
   obtain⟨c0,c1,c2,c3,c4,c5,c6⟩:=bR hA.below xD ac hlt
   obtain⟨p,hp⟩:∃p:Int,∀ie:0<k,wr.cell? ⟨ab,aY+(k-1)*7,none⟩=some (.int .i64 p)/\kq l k=some p:=by
    by_cases ie:0<k
    ·obtain⟨q0,-⟩:=bR hA.below xD ac (show k-1<l.length by omega)
     refine⟨_,fun _=>⟨q0,?_⟩⟩
     unfold kq
     rw [ai af,oL af];rfl
    ·exact⟨0,fun h=>absurd h ie⟩
   have hbz:=hA.below.size
   have abu:ab<wr.heap.size:=af
   have hEA:=Nj hlt
   have hPE:=hA.made.ji hlt
   have hMP:=hA.made.put hlt
   obtain⟨e,he⟩:=bw (l[k])
   rw [he]at c0 c1 c2 c3 c4 c5 c6 hEA hPE hMP
   obtain⟨W5,oC⟩:=bQ (wr.alloc (.cells #[.int .i64 e.key, .int .i64 e.is.c, .int .i64 e.is.s, .int .i64 e.is.mi, .int .i64 e.is.ma, .int .i64 e.is.t, .int .i64 e.is.l] 96))
   have qy:ah wr W5:=by rw [oC];exact(aJ _ _).alloc aI _
   have n0:W5.heap[wr.heap.size]?=some (.cells #[.int .i64 e.key, .int .i64 e.is.c, .int .i64 e.is.s, .int .i64 e.is.mi, .int .i64 e.is.ma, .int .i64 e.is.t, .int .i64 e.is.l] 96):=by rw [oC];exact aq _ _ rfl
   have kQ:W5.heap.size=wr.heap.size+1:=by rw [oC];simp
   have HA5:=hdd (hA.later qy)
   have qD:=hdd fun(W:World) (hb:ah W5 W)=>(by
    have b0:=(hb.block _ af).trans n0
    simp [World.cell?,b0]:W.cell? ⟨wr.heap.size,0,none⟩=some (.int .i64 e.key)/\W.cell? ⟨wr.heap.size,1,none⟩=some (.int .i64 e.is.c)/\W.cell? ⟨wr.heap.size,2,none⟩=some (.int .i64 e.is.s)/\W.cell? ⟨wr.heap.size,3,none⟩=some (.int .i64 e.is.mi)/\W.cell? ⟨wr.heap.size,4,none⟩=some (.int .i64 e.is.ma)/\W.cell? ⟨wr.heap.size,5,none⟩=some (.int .i64 e.is.t)/\W.cell? ⟨wr.heap.size,6,none⟩=some (.int .i64 e.is.l))
   have HEA:=hdd hEA
   have HPE:=hdd hPE
   have HMP:=hdd hMP
   have HP:=hdd fun(h:0<k)=>(qy.cell (p:=⟨ab,aY+(k-1)*7,none⟩) abu).trans (hp h).1
   have Oe:=hdd (show (∃q,kq l k=some q/\e.key<=q)↔0<k/\e.key<=p from by
    by_cases ie:0<k
    ·rw [(hp ie).2];simp [ie]
    ·have:kq l k=none:=by unfold kq;rw [ar af]
     rw [this];simp;omega)
   have PX:=fun w'=>dD (ab:=ab) (aY:=aY) (n:=l.length) (cap:=cap) (show (k:Int)=((k:Nat):Int) by rfl) hlt w'
   clear hA ac a5 he hp hEA hPE hMP n0 qy
   go_upto_region 5 with (fail)
   rw [<-oC]
   clear oC c0 c1 c2 c3 c4 c5 c6 PX
   go_cut [29] (fun b wx=>∃B:Bool,(B=true↔0<k/\e.key<=p)/\b = .bool B/\ah W5 wx)
   case first=>
    obtain⟨s0,-⟩:=qD.out _ (aJ _ _)
    by_cases g3:0<k
    ·have d3:decide ((0:Int)<k)=true:=by simpa using g3
     have q0:=HP.out g3
     have kS:=fun w=>dD (ab:=ab) (aY:=aY) (n:=l.length) (cap:=cap) (show (k:Int)-1=((k-1:Nat):Int) by omega) af w
     have hw1:IntKind.i64.wrap ((k:Int)-1)=(k:Int)-1:=IntWalk.i64_in _ af
     obtain⟨B,hB⟩:=bw (decide (e.key<=p))
     have HB:=hdd (show B=true↔0<k/\e.key<=p by rw [<-hB];simp [g3])
     go_quiet (fail)
     go_wp2
     go_meet
     exact⟨_,HB.out,rfl,ag⟩
    ·obtain rfl:k=0:=af
     go_quiet (fail)
     go_wp2
     go_meet
     exact⟨false,bq,rfl,ag⟩
   case rest=>
    obtain⟨B,hB,rfl,KU⟩:=hcut
    have HLB:=hdd (Oe.out.trans hB.symm)
    have H7:=hdd (HA5.out.later KU)
    have hax:=H7.out
    obtain⟨s0,s1,s2,s3,s4,s5,s6⟩:=qD.out _ KU
    have QA:=hdd KU
    have Uj:=hdd hax.aF
    have hzx:=KU.size
    obtain⟨x0,x1,x2,x3,x4,x5,x6,x7,x8,-,-,-⟩:=hax
    clear hB KU Oe HP qD HR
    cases B with
    |true=>
     go_wp2_with fail
     have di:=x0
     refine bodyPost_ret (v:= .tuple #[lT, .int .i64 8]) (by simp [results,Tryd.results107,go_sem, *]) rfl ⟨ag, .inl ⟨8,aW, .inl ?_,rfl⟩⟩
     rw [Uj.out,HEA.out,ar (HLB.out.2 bq)]
    |false=>
     have ho:¬∃q,kq l k=some q/\e.key<=q:=fun h=>by have:=HLB.out.1 h;cases this
     have X9:=hdd (HPE.out ho)
     have Uw:=hdd (HMP.out ho)
     have Yp:=hdd (show iJ none l=if e.key<0\/1099511627776<=e.key\/e.is.c=0 then 2 else if aj e.is≠0 then aj e.is else iJ (kq l (k+1)) (l.drop (k+1)) by rw [Uj.out,HEA.out,ai ho])
     have KJ:=hdd (mL (key:=e.key) (r:=e.is) (H7.out.tree _ aI fun _ _ _ _=>rfl) (fun h0=>by
      obtain⟨-,e1,e2,e3,e4,-⟩:=BO h0
      exact(Uw.out af e4).2.1))
     clear ho HEA HPE HMP Uj
     go_upto_region 8 with ((go_at_call 42;(with_reducible refine KJ.out.mono ?_);rintro x w6 ⟨jY,so,n6,c6,rt,E2,rfl,ID⟩))
     obtain⟨W7,jz⟩:=bQ (w6.alloc (.cells #[.slice so n6 c6, .int .i64 rt] 32))
     have sI:ah w6 W7:=by rw [jz];exact ag
     have k7:W7.heap[w6.heap.size]?=some (.cells #[.slice so n6 c6, .int .i64 rt] 32):=by rw [jz];exact aq _ _ rfl
     have HPF:=hdd ID
     have CD:=hdd sI
     have hx6:=jY.size
     have hx7:W7.heap.size=w6.heap.size+1:=by rw [jz];simp
     have HA7:=hdd (H7.out.later (Below.trans' jY sI hx6))
     rw [<-jz]
     clear jz x0 x3 x4 x5 x6 x7 x8 s0 s1 s2 s3 s4 s5 s6 jY sI ID
     obtain⟨x0,-,x2,x3,x4,x5,x6,x7,x8,-,-,-⟩:=HA7.out
     by_cases h0:E2=0
     ·subst h0
      obtain⟨q0,q1⟩:W7.cell? ⟨w6.heap.size,0,none⟩=some (.slice so n6 c6)/\W7.cell? ⟨w6.heap.size,1,none⟩=some (.int .i64 rt):=by simp [World.cell?,k7]
      clear k7
      go_wp2_with fail
      go_roundg (l.length-(k+1))
      case measure=>omega
      case rel=>
       refine⟨k+1,af,rfl,by go_num,hdd ?_⟩
       rcases HPF.out with ⟨p1,p2⟩|⟨p1,t2,h2,l2,p2,p3,p4,⟨-,p5,rfl,p6⟩|⟨p5,-⟩⟩
       ·omega
       ·obtain⟨-,e1,e2,e3,e4,-⟩:=BO p1
        have hnb:¬(e.key<0\/1099511627776<=e.key\/e.is.c=0):=af
        obtain⟨-,-,m1,m2,m3⟩:=Uw.out hnb e4
        obtain⟨m4,m5,m6⟩:=m3 t2 p3 p4
        have hen:iJ none l=iJ (kq l (k+1)) (l.drop (k+1)):=by rw [Yp.out,ai hnb,ai (by simp [e4])]
        have oN:∀b,b≠tb->((W7.setCell ⟨tb,0,none⟩ (.slice so n6 c6)).setCell ⟨tb,1,none⟩ (.int .i64 t2.root)).heap[b]?=W7.heap[b]?:=fun b hb=>
         (heap_setCell_other _ ⟨tb,_,none⟩ b _ hb).trans (heap_setCell_other _ ⟨tb,_,none⟩ b _ hb)
        have hsz:((W7.setCell ⟨tb,0,none⟩ (.slice so n6 c6)).setCell ⟨tb,1,none⟩ (.int .i64 t2.root)).heap.size=W7.heap.size:=by simp only [ay]
        have hwt:w.heap.size≠tb:=af
        refine⟨so,n6,c6,t2,⟨(x0.setCell (by show w.heap.size<=tb;omega) _).setCell (by show w.heap.size<=tb;omega) _,x1,by rw [hsz];exact x2,(World.cell?_of_block (a:=⟨w.heap.size,0,none⟩) (oN _ hwt)).trans x3,(World.cell?_of_block (a:=⟨w.heap.size,1,none⟩) (oN _ hwt)).trans x4,
         fun o=>(World.frozen?_of_block (a:=⟨w.heap.size,o,none⟩) (oN _ hwt)).trans (x5 o),jR aW (kG x6),kG (jR aW x7),fun o=>by simp [x8],fun w'' hs hk=>p6 w'' ⟨af,fun b b1 b2=>?_⟩,⟨p5,m4,m1,m2,m6,m5⟩,hen⟩⟩
        rw [hsz]at hk
        exact(hk b af af af).trans ((oN b af).trans (CD.out.block b b2))
       ·omega
     ·have d2:(E2 != 0)=true:=by simp [h0]
      clear k7
      go_wp2_with fail
      refine bodyPost_ret (v:= .tuple #[lT, .int .i64 E2]) (by simp [results,Tryd.results107,go_sem, *]) rfl ⟨ag, .inl ⟨E2,h0,?_,rfl⟩⟩
      rcases HPF.out with ⟨p1,p2⟩|⟨p1,t2,h2,l2,p2,p3,p4,⟨p5,-⟩|⟨p5,p6⟩⟩
      ·left
       rw [p2,Yp.out,X9.out]
       rw [X9.out]at p1
       by_cases c1:e.key<0\/1099511627776<=e.key\/e.is.c=0
       ·rw [ar c1,ar c1]
       ·rw [ai c1]at p1 ⊢
        rw [ai c1]
        by_cases c2:aj e.is=0
        ·rw [ai (by simp [c2])]at p1;exact absurd rfl p1
        ·rw [ar c2,ar c2]
      ·exact absurd p5 h0
      ·right
       obtain⟨-,e1,e2,e3,e4,-⟩:=BO p1
       obtain⟨-,-,-,-,m3⟩:=Uw.out af e4
       have:=(m3 t2 p3 p4).2.1
       have:=p2.grown p6
       rw [fw]at *
       exact⟨p5,af⟩
  ·have ZB:=hdd (Ka hA.aF af)
   have hm:=hA.made
   rw [kJ af]at hm
   have HM:=hdd hm
   have HT:=hdd hA
   obtain⟨x0,x1,x2,x3,x4,x5,x6,x7,x8,-,-,-⟩:=hA
   clear hm
   go_wp2_with fail
   refine bodyPost_ret (v:= .tuple #[.agg #[.slice s n c, .int .i64 t.root], .int .i64 0]) (by simp [results,Tryd.results107,go_sem, *]) rfl ⟨ag, .inr ⟨ZB.out,t,_,rfl,?_,HM.out⟩⟩
   intro w'' hw
   refine HT.out.tree _ (gT (by simp only [ay];omega) hw.1) fun b b1 b2 b3=>?_
   refine(hw.2 b af (by simp only [ay];omega)).trans ?_
   exact(heap_setCell_other _ ⟨w.heap.size,_,none⟩ b _ (by show b≠w.heap.size;omega)).trans (heap_setCell_other _ ⟨w.heap.size,_,none⟩ b _ (by show b≠w.heap.size;omega))
def Cx (B:Nat) (l:List aA) (w':World) (so:Option Addr) (n c:Nat) (rt E2:Int):Prop:=
 (E2≠0/\n=0/\so=none/\c=0/\rt=0/\(E2=iJ none l\/(E2=1/\2900<l.length)))\/(E2=0/\iJ none l=0/\∃t,(∀w'',aP B w' w''->bL w'' (.agg #[.slice so n c, .int .i64 rt]) t)/\Made l t)
theorem mM {v:Value} (h:eQ w v l):Calls Tryd.prog 107 #[v] w fun x w'=>ah w w'/\∃so n c rt E2,x = .returned (.tuple #[.agg #[.slice so n c, .int .i64 rt], .int .i64 E2])/\Cx (w.heap.size+1) l w' so n c rt E2:=by
 refine(Fm h).mono ?_
 rintro x w' ⟨hb,⟨E,h1,h2,rfl⟩|⟨h1,t,v,rfl,h2,h3⟩⟩
 ·exact⟨hb,none,0,0,0,E,rfl, .inl ⟨h1,rfl,rfl,rfl,rfl,h2⟩⟩
 ·obtain⟨nv,rfl,hn⟩:=h2 w' (aP.refl _ _)
  obtain⟨⟨ao,cap,rfl⟩,-⟩:=hn.len
  exact⟨hb,_,_,_,_,0,rfl, .inr ⟨rfl,h1,t,h2,h3⟩⟩
end
section
set_option maxRecDepth 100000
set_option maxHeartbeats 2000000
variable {M n c n0 c0 n1 c1 n2 c2:Nat} {s s0 s1 s2:Option Addr} {wr w:World}
def rB (M:Nat) (wr:World) (s:Option Addr) (n c:Nat):Prop:=∃g,s=some ⟨g,0,none⟩/\n=1/\c=1/\M<=g/\g<wr.heap.size/\wr.heap[g]?=some (.cells #[.bool true, .slice none 0 0, .slice none 0 0, .slice none 0 0, .slice none 0 0] 119)
theorem rB.block {w':World} (h:rB M wr s n c) (hz:wr.heap.size<=w'.heap.size) (hb:∀b,M<=b->b<wr.heap.size->w'.heap[b]?=wr.heap[b]?):rB M w' s n c:=by
 obtain⟨g,h1,h2,h3,h4,h5,h6⟩:=h
 exact⟨g,h1,h2,h3,h4,af,(hb g h4 h5).trans h6⟩
structure EY (w:World) (s0:Option Addr) (n0 c0:Nat) (s1:Option Addr) (n1 c1:Nat) (s2:Option Addr) (n2 c2:Nat) (wr:World):Prop where
 below:ah w wr
 size:w.heap.size+2<=wr.heap.size
 res:wr.heap[w.heap.size]?=some (.cells #[.slice none 0 0, .slice none 0 0, .int .i64 0, .slice none 0 0, .int .i64 0, .slice none 0 0, .int .i64 0, .int .i64 0] 35)
 box:wr.heap[w.heap.size+1]?=some (.cells #[.slice none 0 0, .slice s0 n0 c0, .int .i64 0, .slice s1 n1 c1, .int .i64 0, .slice s2 n2 c2, .int .i64 0, .int .i64 0] 35)
theorem EY.step {w5:World} (h:EY w s0 n0 c0 s1 n1 c1 s2 n2 c2 wr) (cx:ah wr w5) {o:Nat} {u v:Value} {cs:Array Value}
  (hcs:((#[.slice none 0 0, .slice s0 n0 c0, .int .i64 0, .slice s1 n1 c1, .int .i64 0, .slice s2 n2 c2, .int .i64 0, .int .i64 0]:Array Value).setIfInBounds o u).setIfInBounds (o+1) v=cs) :
  ah w ((w5.setCell ⟨w.heap.size+1,o,none⟩ u).setCell ⟨w.heap.size+1,o+1,none⟩ v)/\w.heap.size+2<=((w5.setCell ⟨w.heap.size+1,o,none⟩ u).setCell ⟨w.heap.size+1,o+1,none⟩ v).heap.size /\
   ((w5.setCell ⟨w.heap.size+1,o,none⟩ u).setCell ⟨w.heap.size+1,o+1,none⟩ v).heap[w.heap.size]?=some (.cells #[.slice none 0 0, .slice none 0 0, .int .i64 0, .slice none 0 0, .int .i64 0, .slice none 0 0, .int .i64 0, .int .i64 0] 35) /\
   ((w5.setCell ⟨w.heap.size+1,o,none⟩ u).setCell ⟨w.heap.size+1,o+1,none⟩ v).heap[w.heap.size+1]?=some (.cells cs 35) /\
   (∀b,w.heap.size+2<=b->((w5.setCell ⟨w.heap.size+1,o,none⟩ u).setCell ⟨w.heap.size+1,o+1,none⟩ v).heap[b]?=w5.heap[b]?):=by
 have hsz:=h.size
 have hs5:=cx.size
 have hb:ah w w5:=Below.trans' h.below cx h.below.size
 refine⟨(by repeat (first|with_reducible exact aJ _ _|with_reducible assumption|with_reducible refine cM ?_ _|with_reducible refine Below.drew ?_|with_reducible refine Below.alloc ?_ (by first|omega|(simp;done)|(simp;omega)) _|with_reducible refine Below.setCell ?_ (by first|omega|(simp;done)|(simp;omega)) _)),by simp;omega,?_,?_,fun b hb=>?_⟩
 ·rw [qc _ _ _ _ (by show w.heap.size≠w.heap.size+1;omega),qc _ _ _ _ (by show w.heap.size≠w.heap.size+1;omega)]
  exact(cx.block _ af).trans h.res
 ·rw [<-hcs]
  exact heap_setCell_same (heap_setCell_same ((cx.block _ af).trans h.box))
 ·rw [qc _ _ _ _ (by show b≠w.heap.size+1;omega),qc _ _ _ _ (by show b≠w.heap.size+1;omega)]
theorem EY.cells (h:EY w s0 n0 c0 s1 n1 c1 s2 n2 c2 wr):wr.cell? ⟨w.heap.size+1,0,none⟩=some (.slice none 0 0)/\wr.cell? ⟨w.heap.size+1,1,none⟩=some (.slice s0 n0 c0)/\wr.cell? ⟨w.heap.size+1,2,none⟩=some (.int .i64 0)/\wr.cell? ⟨w.heap.size+1,3,none⟩=some (.slice s1 n1 c1)/\wr.cell? ⟨w.heap.size+1,4,none⟩=some (.int .i64 0)/\wr.cell? ⟨w.heap.size+1,5,none⟩=some (.slice s2 n2 c2)/\wr.cell? ⟨w.heap.size+1,6,none⟩=some (.int .i64 0)/\wr.cell? ⟨w.heap.size+1,7,none⟩=some (.int .i64 0)/\∀o,wr.frozen? ⟨w.heap.size+1,o,none⟩=false:=by
 simp [World.cell?,World.frozen?,h.box]
theorem EY.FP (h:EY w s0 n0 c0 s1 n1 c1 s2 n2 c2 wr):wr.cell? ⟨w.heap.size,0,none⟩=some (.slice none 0 0)/\wr.cell? ⟨w.heap.size,1,none⟩=some (.slice none 0 0)/\wr.cell? ⟨w.heap.size,2,none⟩=some (.int .i64 0)/\wr.cell? ⟨w.heap.size,3,none⟩=some (.slice none 0 0)/\wr.cell? ⟨w.heap.size,4,none⟩=some (.int .i64 0)/\wr.cell? ⟨w.heap.size,5,none⟩=some (.slice none 0 0)/\wr.cell? ⟨w.heap.size,6,none⟩=some (.int .i64 0)/\wr.cell? ⟨w.heap.size,7,none⟩=some (.int .i64 0)/\∀o,wr.frozen? ⟨w.heap.size,o,none⟩=false:=by
 simp [World.cell?,World.frozen?,h.res]
def ko:Ba:=⟨[],tu,tu,tu,0⟩
theorem rB.tree (h:rB M wr s n c):bu wr (.slice s n c) tu.nodes:=by
 obtain⟨g,rfl,rfl,rfl,_,_,h6⟩:=h
 exact Dn h6
theorem uY (w:World):Calls Tryd.prog 53 #[] w fun e w'=>(∃v',e = .returned v'/\∀w'',aP (w.heap.size+2) w' w''->bN w'' v' ko)/\ah w w':=by
 have HN:=hdd fun w'=>ud w'
 obtain⟨W0,hW0⟩:=bQ ((w.alloc (.cells #[.slice none 0 0, .slice none 0 0, .int .i64 0, .slice none 0 0, .int .i64 0, .slice none 0 0, .int .i64 0, .int .i64 0] 35)).alloc (.cells #[.slice none 0 0, .slice none 0 0, .int .i64 0, .slice none 0 0, .int .i64 0, .slice none 0 0, .int .i64 0, .int .i64 0] 35))
 have HST:=hdd (show EY w none 0 0 none 0 0 none 0 0 W0 by
  refine⟨by rw [hW0];exact(by repeat (first|with_reducible exact aJ _ _|with_reducible assumption|with_reducible refine cM ?_ _|with_reducible refine Below.drew ?_|with_reducible refine Below.alloc ?_ (by first|omega|(simp;done)|(simp;omega)) _|with_reducible refine Below.setCell ?_ (by first|omega|(simp;done)|(simp;omega)) _)),by rw [hW0];simp,?_,?_⟩
  ·rw [hW0,lJ _ _ _ bq];exact aq _ _ rfl
  ·rw [hW0];exact aq _ _ bq)
 go_enter Tryd.func53,Tryd.ntmps53
 go_upto_region 2 with (fail)
 rw [<-hW0]
 clear hW0
 go_wp2_with fail
 go_loopg [4] 3 (fun g i wr=>∃(k:Nat) (s0:Option Addr) (n0 c0:Nat) (s1:Option Addr) (n1 c1:Nat) (s2:Option Addr) (n2 c2:Nat),k<=3/\g=3-k/\i = .int .i64 k/\Hid (EY w s0 n0 c0 s1 n1 c1 s2 n2 c2 wr/\(0<k->rB (w.heap.size+2) wr s0 n0 c0)/\(1<k->rB (w.heap.size+2) wr s1 n1 c1)/\(2<k->rB (w.heap.size+2) wr s2 n2 c2)))
 case atStart=>exact⟨0,_,_,_,_,_,_,_,_,_,af,rfl,rfl,hdd ⟨HST.out,fun h=>af,fun h=>af,fun h=>af⟩⟩
 case round=>
  clear HST
  obtain⟨k,s0,n0,c0,s1,n1,c1,s2,n2,c2,hk,rfl,rfl,HB⟩:=hrel
  obtain⟨b0,b1,b2,b3,b4,b5,b6,b7,bf⟩:=HB.out.1.cells
  have hsz:=HB.out.1.size
  have Yd:=hdd (show ∀(w5:World) (gg:Nat),ah wr w5->wr.heap.size<=gg->gg<w5.heap.size->w5.heap[gg]?=some (.cells #[.bool true, .slice none 0 0, .slice none 0 0, .slice none 0 0, .slice none 0 0] 119)->∀w6:World,w5.heap.size<=w6.heap.size->(∀b,w.heap.size+2<=b->w6.heap[b]?=w5.heap[b]?)->rB (w.heap.size+2) w6 (some ⟨gg,0,none⟩) 1 1
   from fun w5 gg _ h1 h2 h3 w6 hz hk=>⟨gg,rfl,rfl,rfl,af,af,(hk gg af).trans h3⟩)
  have HOLD:=hdd (show ∀w5:World,ah wr w5->∀w6:World,w5.heap.size<=w6.heap.size->(∀b,w.heap.size+2<=b->w6.heap[b]?=w5.heap[b]?)->∀s n c,rB (w.heap.size+2) wr s n c->rB (w.heap.size+2) w6 s n c
   from fun w5 cx w6 hz hk s n c h=>h.block (w':=w6) (by have:=cx.size;omega) (fun b h1 h2=>(hk b h1).trans (cx.block b h2)))
  by_cases hlt:k<3
  ·obtain rfl|rfl|rfl:k=0\/k=1\/k=2:=af
   ·go_wp2_with ((go_at_call 81;(with_reducible refine(HN.out _).mono ?_);rintro e w5 ⟨gg,rfl,hg1,hg2,hg3,cx⟩;obtain⟨PB,Sj,Si⟩:=nr cx (B:=w.heap.size+1) af))
    go_roundg 2
    case measure=>omega
    case rel=>
     obtain⟨q1,q2,q3,q4,q5⟩:=HB.out.1.step cx (o:=1) (u:= .slice (some ⟨gg,0,none⟩) 1 1) (v:= .int .i64 0) rfl
     have uC:w5.heap.size<=((w5.setCell ⟨w.heap.size+1,1,none⟩ (.slice (some ⟨gg,0,none⟩) 1 1)).setCell ⟨w.heap.size+1,1+1,none⟩ (.int .i64 0)).heap.size:=bq
     exact⟨1,_,_,_,_,_,_,_,_,_,af,rfl,by go_num,hdd ⟨⟨q1,q2,q3,by simpa using q4⟩,fun _=>Yd.out w5 gg cx hg1 hg2 hg3 _ uC q5,fun h=>af,fun h=>af⟩⟩
   ·go_wp2_with ((go_at_call 81;(with_reducible refine(HN.out _).mono ?_);rintro e w5 ⟨gg,rfl,hg1,hg2,hg3,cx⟩;obtain⟨PB,Sj,Si⟩:=nr cx (B:=w.heap.size+1) af))
    go_roundg 1
    case measure=>omega
    case rel=>
     obtain⟨q1,q2,q3,q4,q5⟩:=HB.out.1.step cx (o:=3) (u:= .slice (some ⟨gg,0,none⟩) 1 1) (v:= .int .i64 0) rfl
     have uC:w5.heap.size<=((w5.setCell ⟨w.heap.size+1,3,none⟩ (.slice (some ⟨gg,0,none⟩) 1 1)).setCell ⟨w.heap.size+1,3+1,none⟩ (.int .i64 0)).heap.size:=bq
     exact⟨2,_,_,_,_,_,_,_,_,_,af,rfl,by go_num,hdd ⟨⟨q1,q2,q3,by simpa using q4⟩,fun _=>HOLD.out w5 cx _ uC q5 _ _ _ (HB.out.2.1 af),fun _=>Yd.out w5 gg cx hg1 hg2 hg3 _ uC q5,fun h=>af⟩⟩
   ·go_wp2_with ((go_at_call 81;(with_reducible refine(HN.out _).mono ?_);rintro e w5 ⟨gg,rfl,hg1,hg2,hg3,cx⟩;obtain⟨PB,Sj,Si⟩:=nr cx (B:=w.heap.size+1) af))
    go_roundg 0
    case measure=>omega
    case rel=>
     obtain⟨q1,q2,q3,q4,q5⟩:=HB.out.1.step cx (o:=5) (u:= .slice (some ⟨gg,0,none⟩) 1 1) (v:= .int .i64 0) rfl
     have uC:w5.heap.size<=((w5.setCell ⟨w.heap.size+1,5,none⟩ (.slice (some ⟨gg,0,none⟩) 1 1)).setCell ⟨w.heap.size+1,5+1,none⟩ (.int .i64 0)).heap.size:=bq
     exact⟨3,_,_,_,_,_,_,_,_,_,af,rfl,by go_num,hdd ⟨⟨q1,q2,q3,by simpa using q4⟩,fun _=>HOLD.out w5 cx _ uC q5 _ _ _ (HB.out.2.1 af),fun _=>HOLD.out w5 cx _ uC q5 _ _ _ (HB.out.2.2.1 af),fun _=>Yd.out w5 gg cx hg1 hg2 hg3 _ uC q5⟩⟩
  ·obtain rfl:k=3:=af
   obtain⟨z0,z1,z2,z3,z4,z5,z6,z7,zf⟩:=HB.out.1.FP
   have di:=HB.out.1.below
   have Hz:=hdd (show ∀w'',wr.heap.size<=w''.heap.size->(∀b,w.heap.size+2<=b->b<wr.heap.size->w''.heap[b]?=wr.heap[b]?)->bN w'' (.agg #[.slice none 0 0, .slice s0 n0 c0, .int .i64 0, .slice s1 n1 c1, .int .i64 0, .slice s2 n2 c2, .int .i64 0, .int .i64 0]) ko from fun w'' hz hk=>
    ⟨_,_,_,_,rfl,dN.nil _ _ _ _,((HB.out.2.1 af).block hz hk).tree,((HB.out.2.2.1 af).block hz hk).tree,((HB.out.2.2.2 af).block hz hk).tree⟩)
   go_wp2
   refine bodyPost_ret (v:= .agg #[.slice none 0 0, .slice s0 n0 c0, .int .i64 0, .slice s1 n1 c1, .int .i64 0, .slice s2 n2 c2, .int .i64 0, .int .i64 0]) (by simp [results,Tryd.results53,go_sem, *]) rfl ⟨⟨_,rfl,?_⟩,?_⟩
   ·intro w'' hK
    refine Hz.out _ (gT bq hK.size) fun b hb hb2=>(hK.block b hb (by simpa using hb2)).trans ?_
    repeat rw [qc _ _ _ _ (by show b≠w.heap.size;omega)]
   ·exact(by repeat (first|with_reducible exact aJ _ _|with_reducible assumption|with_reducible refine cM ?_ _|with_reducible refine Below.drew ?_|with_reducible refine Below.alloc ?_ (by first|omega|(simp;done)|(simp;omega)) _|with_reducible refine Below.setCell ?_ (by first|omega|(simp;done)|(simp;omega)) _))
theorem yQ:allT tu=some []:=by unfold allT;rw [ar F4];exact L5 _ _
theorem vR:bW ko=some []:=uX (b:=ko) yQ rfl
theorem Pv:Cs ko [] 0 []=true:=by
 have h:aQ ko=true:=jS ⟨aW,aW,aW,aW,fun i h=>by simp [ko]at h,[],vR,fun k _=>by
  rw [lV (a:=[]) (c:=[]) rfl (by unfold Ba.tree;split;exact yQ;split <;> exact yQ)];rfl⟩
 exact(Kq (b:=ko) h rfl rfl vR).trans rfl
end
end Go.Proofs.YtmljjfhgciaceaaDoor
