/- Texts of mine that come as one: LawNew Of LawBaseNew. -/
import Derived.Test.YtmljjfhgciaceaaDoorHd
import Derived.Test.YtmljjfhgciaceaaDoorBK
import Derived.Test.YtmljjfhgciaceaaDoorPG
import Derived.Test.YtmljjfhgciaceaaDoorPU
namespace Go.Proofs.YtmljjfhgciaceaaDoor
open Go.RowKit
section
set_option maxRecDepth 100000
set_option maxHeartbeats 1000000
def tE:Tr:=⟨[⟨true,[],[],[],[]⟩],0⟩
theorem Md:mC tE 12 0 0 1099511627776=some ([0],1):=by
 have h:tE.dh 0=some ⟨true,[],[],[],[]⟩:=rfl
 unfold mC
 rw [h]
 simp only
 rw [ai aW,ar trivial,ar ⟨rfl,rfl,rfl,aW, .inr rfl,tJ _ _⟩]
theorem Gm:ax tE=0:=ug aW ⟨[0],1,Md,bj,rfl⟩
theorem Me (lo hi:Int):kI tE lo hi=some []:=rfl
theorem uf (w:World):Calls Tryd.prog 81 #[] w fun e w'=>∃g,e = .returned (.agg #[.slice (some ⟨g,0,none⟩) 1 1, .int .i64 0])/\w.heap.size<=g/\g<w'.heap.size/\w'.heap[g]?=some (.cells #[.bool true, .slice none 0 0, .slice none 0 0, .slice none 0 0, .slice none 0 0] 119)/\ah w w':=by
 go_enter Tryd.func81,Tryd.ntmps81
 go_wp2
 exact bodyPost_ret (v:= .agg #[.slice (some ⟨w.heap.size+1,0,none⟩) 1 1, .int .i64 0]) (by simp [results,Tryd.results81,go_sem]) rfl ⟨_,rfl,af,bj,by first|(with_reducible exact aj _ _ bj)|simp,ag⟩
theorem DI {w:World} {g:Nat} {T:TypeId} (h:w.heap[g]?=some (.cells #[.bool true, .slice none 0 0, .slice none 0 0, .slice none 0 0, .slice none 0 0] T)):bz w (.slice (some ⟨g,0,none⟩) 1 1) tE.nodes:=by
 refine⟨[⟨true, .slice none 0 0, .slice none 0 0, .slice none 0 0, .slice none 0 0⟩],⟨_,_,rfl,aW,aW,aW,bj,fun _=>⟨g,0,rfl,(eI.1 h).1,fun i x hx j u hu=>?_⟩⟩,rfl,fun i r x hr hx=>?_⟩
 ·match i,hx with
  |0,hx=>
   simp only [List.getElem?_cons_zero,iw]at hx
   subst hx
   simp only [World.cell?,h]
   simpa [cI] using hu
 ·match i,hr,hx with
  |0,hr,hx=>
   simp only [tE,List.getElem?_cons_zero,iw]at hr hx
   subst hr hx
   exact⟨rfl,dK.nil _ _ _ _,dK.nil _ _ _ _,dK.nil _ _ _ _,dK.nil _ _ _ _⟩
end
section
set_option maxRecDepth 100000
set_option maxHeartbeats 4000000
variable {l:List aC} {k:Nat} {t:Tr} {w:World}
theorem Made.jk (h:Made (l.take k) t) (hk:k<l.length) (ho:¬∃p,kC l k=some p/\l[k].key<=p) :
  jk t l[k].key l[k].is=if l[k].key<0\/1099511627776<=l[k].key\/l[k].is.c=0 then 2 else if aq l[k].is≠0 then aq l[k].is else 0:=by
 unfold Go.Proofs.YtmljjfhgciaceaaDoor.jk
 rw [ai (by simp [h.1])]
 by_cases h2:l[k].key<0\/1099511627776<=l[k].key\/l[k].is.c=0
 ·rw [ar h2,ar h2]
 ·rw [ai h2,ai h2]
  by_cases h3:aq l[k].is=0
  ·obtain⟨hz,-⟩:=h.put hk ho h2 h3
   have:=(dg h3 af).2
   have hle:(aw.zero:aw).c+l[k].is.c<=1073741824:=by show (0:Int)+_<=_;omega
   simp only [h3,hz,ne_eq,not_true_eq_false,if_false,ar hle]
  ·rw [ar h3,ar h3]
def Uf (l:List aC) (w:World) (x:Ending) (w':World):Prop:=
 ah w w'/\((∃E,E≠0/\(E=iG none l\/(E=1/\2900<l.length))/\x = .returned (.tuple #[lS, .int .i64 E])) \/
  (iG none l=0/\∃t v,x = .returned (.tuple #[v, .int .i64 0])/\(∀w'',aM (w.heap.size+1) w' w''->bM w'' v t)/\Made l t))
structure NU (w:World) (tb:Nat) (l:List aC) (k:Nat) (s:Option Addr) (n c:Nat) (t:Tr) (wr:World):Prop where
 below:ah w wr
 size:w.heap.size<tb
 lt:tb<wr.heap.size
 z0:wr.cell? ⟨w.heap.size,0,none⟩=some (.slice none 0 0)
 z1:wr.cell? ⟨w.heap.size,1,none⟩=some (.int .i64 0)
 zf:∀o,wr.frozen? ⟨w.heap.size,o,none⟩=false
 t0:wr.cell? ⟨tb,0,none⟩=some (.slice s n c)
 t1:wr.cell? ⟨tb,1,none⟩=some (.int .i64 t.root)
 tf:∀o,wr.frozen? ⟨tb,o,none⟩=false
 tree:∀w'',wr.heap.size<=w''.heap.size->(∀b,w.heap.size<b->b≠tb->b<wr.heap.size->w''.heap[b]?=wr.heap[b]?)->bM w'' (.agg #[.slice s n c, .int .i64 t.root]) t
 made:Made (l.take k) t
 aF:iG none l=iG (kC l k) (l.drop k)
theorem NU.later {tb:Nat} {s:Option Addr} {n c:Nat} {wr w':World} (h:NU w tb l k s n c t wr) (hb:ah wr w'):NU w tb l k s n c t w':=by
 have h1:=h.size
 have h2:=h.lt
 have k0:=nj hb (B:=w.heap.size) af
 have k1:=nj hb (B:=tb) h2
 exact⟨Below.trans' h.below hb h.below.size,h1,k1.1,(k0.2.1 _).trans h.z0,(k0.2.1 _).trans h.z1,fun o=>(k0.2.2 o).trans (h.zf o),(k1.2.1 _).trans h.t0,(k1.2.1 _).trans h.t1,fun o=>(k1.2.2 o).trans (h.tf o),fun w'' hs hk=>h.tree w'' (ik hb.size hs) fun b b1 b2 b3=>(hk b b1 b2 (mQ b3 hb.size)).trans (hb.block b b3),h.made,h.aF⟩
theorem Kj (h:iG none l=iG (kC l k) (l.drop k)) (hk:l.length<=k):iG none l=0:=by rw [h,Be hk];rfl
theorem FL {v:Value} (h:fu w v l):Calls Tryd.prog 107 #[v] w (Uf l w):=by
 have HE:=hdd h
 obtain⟨ao,cap,rfl,a1,a2,a3,a4,a5⟩:=h
 obtain⟨W0,hW0⟩:=bP (w.alloc (.cells #[.slice none 0 0, .int .i64 0] 32))
 have hb0:ah w W0:=by rw [hW0];exact ag
 have hz0:W0.heap.size=w.heap.size+1:=by rw [hW0];simp
 have k0:W0.heap[w.heap.size]?=some (.cells #[.slice none 0 0, .int .i64 0] 32):=by rw [hW0];exact aj _ _ rfl
 have HN:=hdd (uf W0)
 go_enter Tryd.func107,Tryd.ntmps107
 go_upto_region 1 with (fail)
 rw [<-hW0]
 clear hW0
 go_upto_region 2 with (go_at_call 81;(with_reducible refine HN.out.mono ?_);rintro e w1 ⟨g,rfl,hg1,hg2,hg,hb1⟩)
 obtain⟨W1,hW1⟩:=bP (w1.alloc (.cells #[.slice (some ⟨g,0,none⟩) 1 1, .int .i64 0] 32))
 have mL:ah w1 W1:=by rw [hW1];exact ag
 have k1:W1.heap[w1.heap.size]?=some (.cells #[.slice (some ⟨g,0,none⟩) 1 1, .int .i64 0] 32):=by rw [hW1];exact aj _ _ rfl
 have hs1:=hb1.size
 have hz1:W1.heap.size=w1.heap.size+1:=by rw [hW1];simp
 have YJ:=(mL.block w.heap.size af).trans ((hb1.block w.heap.size af).trans k0)
 have HI:=hdd (show NU w w1.heap.size l 0 (some ⟨g,0,none⟩) 1 1 tE W1 from
  ⟨Below.trans' (Below.trans' hb0 hb1 hb0.size) mL af,af,af,by simp [World.cell?,YJ],by simp [World.cell?,YJ],fun o=>by simp [World.frozen?,YJ],by simp [World.cell?,k1],by show W1.cell? ⟨w1.heap.size,1,none⟩=some (Value.int .i64 0);simp [World.cell?,k1],fun o=>by simp [World.frozen?,k1],
   fun w'' hs hk=>⟨_,rfl,DI ((hk g af af af).trans ((mL.block g hg2).trans hg))⟩,DN,rfl⟩)
 rw [<-hW1]
 obtain⟨tb,BH⟩:=bt (w1.heap.size)
 rw [BH]at HI ⊢
 clear hW1 k1 hs1 hz1 YJ k0 hb1 mL hg hg1 hg2 hb0 BH
 go_wp2_with fail
 go_loopg [12] l.length (fun g i wr=>∃k:Nat,k<=l.length/\g=l.length-k/\i = .int .i64 k/\Hid (∃s n c t,NU w tb l k s n c t wr))
 case atStart=>exact⟨0,jd _,rfl,rfl,hdd ⟨_,_,_,_,HI.out⟩⟩
 case round=>
  clear HI
  obtain⟨k,hk,rfl,rfl,HR⟩:=hrel
  obtain⟨s,n,c,t,hA⟩:=HR.out
  by_cases hlt:k<l.length
  ·obtain⟨ab,aV,rfl,sO,ac⟩:=a5 af
   obtain⟨c0,c1,c2,c3,c4,c5,c6⟩:=bU hA.below sO ac hlt
   obtain⟨p,hp⟩:∃p:Int,∀im:0<k,wr.cell? ⟨ab,aV+(k-1)*7,none⟩=some (.int .i64 p)/\kC l k=some p:=by
    by_cases im:0<k
    ·obtain⟨q0,-⟩:=bU hA.below sO ac (show k-1<l.length by omega)
     refine⟨_,fun _=>⟨q0,?_⟩⟩
     unfold kC
     rw [ai af,nL af];rfl
    ·exact⟨0,fun h=>absurd h im⟩
   have hbz:=hA.below.size
   have abo:ab<wr.heap.size:=af
   have hEA:=Np hlt
   have hPE:=hA.made.jk hlt
   have hMP:=hA.made.put hlt
   obtain⟨e,he⟩:=bt (l[k])
   rw [he]at c0 c1 c2 c3 c4 c5 c6 hEA hPE hMP
   obtain⟨W5,mN⟩:=bP (wr.alloc (.cells #[.int .i64 e.key, .int .i64 e.is.c, .int .i64 e.is.s, .int .i64 e.is.mi, .int .i64 e.is.ma, .int .i64 e.is.t, .int .i64 e.is.l] 96))
   have qx:ah wr W5:=by rw [mN];exact(aI _ _).alloc aH _
   have n0:W5.heap[wr.heap.size]?=some (.cells #[.int .i64 e.key, .int .i64 e.is.c, .int .i64 e.is.s, .int .i64 e.is.mi, .int .i64 e.is.ma, .int .i64 e.is.t, .int .i64 e.is.l] 96):=by rw [mN];exact aj _ _ rfl
   have kQ:W5.heap.size=wr.heap.size+1:=by rw [mN];simp
   have HA5:=hdd (hA.later qx)
   have qF:=hdd fun(W:World) (hb:ah W5 W)=>(by
    have b0:=(hb.block _ af).trans n0
    simp [World.cell?,b0]:W.cell? ⟨wr.heap.size,0,none⟩=some (.int .i64 e.key)/\W.cell? ⟨wr.heap.size,1,none⟩=some (.int .i64 e.is.c)/\W.cell? ⟨wr.heap.size,2,none⟩=some (.int .i64 e.is.s)/\W.cell? ⟨wr.heap.size,3,none⟩=some (.int .i64 e.is.mi)/\W.cell? ⟨wr.heap.size,4,none⟩=some (.int .i64 e.is.ma)/\W.cell? ⟨wr.heap.size,5,none⟩=some (.int .i64 e.is.t)/\W.cell? ⟨wr.heap.size,6,none⟩=some (.int .i64 e.is.l))
   have HEA:=hdd hEA
   have HPE:=hdd hPE
   have HMP:=hdd hMP
   have HP:=hdd fun(h:0<k)=>(qx.cell (p:=⟨ab,aV+(k-1)*7,none⟩) abo).trans (hp h).1
   have Od:=hdd (show (∃q,kC l k=some q/\e.key<=q)↔0<k/\e.key<=p from by
    by_cases im:0<k
    ·rw [(hp im).2];simp [im]
    ·have:kC l k=none:=by unfold kC;rw [ar af]
     rw [this];simp;omega)
   have S6:=fun w'=>dw (ab:=ab) (aV:=aV) (n:=l.length) (cap:=cap) (show (k:Int)=((k:Nat):Int) by rfl) hlt w'
   clear hA ac a5 he hp hEA hPE hMP n0 qx
   go_upto_region 5 with (fail)
   rw [<-mN]
   clear mN c0 c1 c2 c3 c4 c5 c6 S6
   go_cut [29] (fun b wx=>∃B:Bool,(B=true↔0<k/\e.key<=p)/\b = .bool B/\ah W5 wx)
   case first=>
    obtain⟨s0,-⟩:=qF.out _ (aI _ _)
    by_cases g3:0<k
    ·have d3:decide ((0:Int)<k)=true:=by simpa using g3
     have q0:=HP.out g3
     have jS:=fun w=>dw (ab:=ab) (aV:=aV) (n:=l.length) (cap:=cap) (show (k:Int)-1=((k-1:Nat):Int) by omega) af w
     have hw1:IntKind.i64.wrap ((k:Int)-1)=(k:Int)-1:=IntWalk.i64_in _ af
     obtain⟨B,hB⟩:=bt (decide (e.key<=p))
     have HB:=hdd (show B=true↔0<k/\e.key<=p by rw [<-hB];simp [g3])
     go_quiet (fail)
     go_wp2
     go_meet
     exact⟨_,HB.out,rfl,ag⟩
    ·obtain rfl:k=0:=af
     go_quiet (fail)
     go_wp2
     go_meet
     exact⟨false,bj,rfl,ag⟩
   case rest=>
    obtain⟨B,hB,rfl,K8⟩:=hcut
    have HLB:=hdd (Od.out.trans hB.symm)
    have Ip:=hdd (HA5.out.later K8)
    have hax:=Ip.out
    obtain⟨s0,s1,s2,s3,s4,s5,s6⟩:=qF.out _ K8
    have K2:=hdd K8
    have Um:=hdd hax.aF
    have hzx:=K8.size
    obtain⟨x0,x1,x2,x3,x4,x5,x6,x7,x8,-,-,-⟩:=hax
    clear hB K8 Od HP qF HR
    cases B with
    |true=>
     go_wp2_with fail
     have cZ:=x0
     refine bodyPost_ret (v:= .tuple #[lS, .int .i64 8]) (by simp [results,Tryd.results107,go_sem, *]) rfl ⟨ag, .inl ⟨8,aW, .inl ?_,rfl⟩⟩
     rw [Um.out,HEA.out,ar (HLB.out.2 bj)]
    |false=>
     have ho:¬∃q,kC l k=some q/\e.key<=q:=fun h=>by have:=HLB.out.1 h;cases this
     have XU:=hdd (HPE.out ho)
     have Uz:=hdd (HMP.out ho)
     have Yg:=hdd (show iG none l=if e.key<0\/1099511627776<=e.key\/e.is.c=0 then 2 else if aq e.is≠0 then aq e.is else iG (kC l (k+1)) (l.drop (k+1)) by rw [Um.out,HEA.out,ai ho])
     have KV:=hdd (mD (key:=e.key) (r:=e.is) (Ip.out.tree _ aH fun _ _ _ _=>rfl) (fun h0=>by
      obtain⟨-,e1,e2,e3,e4,-⟩:=Cs h0
      exact(Uz.out af e4).2.1))
     clear ho HEA HPE HMP Um
     go_upto_region 8 with ((go_at_call 42;(with_reducible refine KV.out.mono ?_);rintro x w6 ⟨jf,so,n6,c6,rt,E2,rfl,IY⟩))
     obtain⟨W7,jA⟩:=bP (w6.alloc (.cells #[.slice so n6 c6, .int .i64 rt] 32))
     have qE:ah w6 W7:=by rw [jA];exact ag
     have k7:W7.heap[w6.heap.size]?=some (.cells #[.slice so n6 c6, .int .i64 rt] 32):=by rw [jA];exact aj _ _ rfl
     have HPF:=hdd IY
     have xS:=hdd qE
     have hx6:=jf.size
     have hx7:W7.heap.size=w6.heap.size+1:=by rw [jA];simp
     have HA7:=hdd (Ip.out.later (Below.trans' jf qE hx6))
     rw [<-jA]
     clear jA x0 x3 x4 x5 x6 x7 x8 s0 s1 s2 s3 s4 s5 s6 jf qE IY
     obtain⟨x0,-,x2,x3,x4,x5,x6,x7,x8,-,-,-⟩:=HA7.out
     by_cases h0:E2=0
     ·subst h0
      obtain⟨q0,q1⟩:W7.cell? ⟨w6.heap.size,0,none⟩=some (.slice so n6 c6)/\W7.cell? ⟨w6.heap.size,1,none⟩=some (.int .i64 rt):=by simp [World.cell?,k7]
      clear k7
      go_wp2_with fail
      go_roundg (l.length-(k+1))
      case measure=>omega
      case rel=>
       refine⟨k+1,af,rfl,by go_num,hdd ?_⟩
       rcases HPF.out with ⟨p1,p2⟩|⟨p1,t2,h2,l2,p2,p3,p4,⟨-,p5,rfl,p6⟩|⟨p5,-⟩⟩
       ·omega
       ·obtain⟨-,e1,e2,e3,e4,-⟩:=Cs p1
        have hnb:¬(e.key<0\/1099511627776<=e.key\/e.is.c=0):=af
        obtain⟨-,-,m1,m2,m3⟩:=Uz.out hnb e4
        obtain⟨m4,m5,m6⟩:=m3 t2 p3 p4
        have hen:iG none l=iG (kC l (k+1)) (l.drop (k+1)):=by rw [Yg.out,ai hnb,ai (by simp [e4])]
        have oP:∀b,b≠tb->((W7.setCell ⟨tb,0,none⟩ (.slice so n6 c6)).setCell ⟨tb,1,none⟩ (.int .i64 t2.root)).heap[b]?=W7.heap[b]?:=fun b hb=>
         (heap_setCell_other _ ⟨tb,_,none⟩ b _ hb).trans (heap_setCell_other _ ⟨tb,_,none⟩ b _ hb)
        have hsz:((W7.setCell ⟨tb,0,none⟩ (.slice so n6 c6)).setCell ⟨tb,1,none⟩ (.int .i64 t2.root)).heap.size=W7.heap.size:=by simp only [aA]
        have hwt:w.heap.size≠tb:=af
        refine⟨so,n6,c6,t2,⟨(x0.setCell (by show w.heap.size<=tb;omega) _).setCell (by show w.heap.size<=tb;omega) _,x1,by rw [hsz];exact x2,(World.cell?_of_block (a:=⟨w.heap.size,0,none⟩) (oP _ hwt)).trans x3,(World.cell?_of_block (a:=⟨w.heap.size,1,none⟩) (oP _ hwt)).trans x4,
         fun o=>(World.frozen?_of_block (a:=⟨w.heap.size,o,none⟩) (oP _ hwt)).trans (x5 o),jW aW (kH x6),kH (jW aW x7),fun o=>by simp [x8],fun w'' hs hk=>p6 w'' ⟨af,fun b b1 b2=>?_⟩,⟨p5,m4,m1,m2,m6,m5⟩,hen⟩⟩
        rw [hsz]at hk
        exact(hk b af af af).trans ((oP b af).trans (xS.out.block b b2))
       ·omega
     ·have d2:(E2 != 0)=true:=by simp [h0]
      clear k7
      go_wp2_with fail
      refine bodyPost_ret (v:= .tuple #[lS, .int .i64 E2]) (by simp [results,Tryd.results107,go_sem, *]) rfl ⟨ag, .inl ⟨E2,h0,?_,rfl⟩⟩
      rcases HPF.out with ⟨p1,p2⟩|⟨p1,t2,h2,l2,p2,p3,p4,⟨p5,-⟩|⟨p5,p6⟩⟩
      ·left
       rw [p2,Yg.out,XU.out]
       rw [XU.out]at p1
       by_cases c1:e.key<0\/1099511627776<=e.key\/e.is.c=0
       ·rw [ar c1,ar c1]
       ·rw [ai c1]at p1 ⊢
        rw [ai c1]
        by_cases c2:aq e.is=0
        ·rw [ai (by simp [c2])]at p1;exact absurd rfl p1
        ·rw [ar c2,ar c2]
      ·exact absurd p5 h0
      ·right
       obtain⟨-,e1,e2,e3,e4,-⟩:=Cs p1
       obtain⟨-,-,-,-,m3⟩:=Uz.out af e4
       have:=(m3 t2 p3 p4).2.1
       have:=p2.grown p6
       rw [eP]at *
       exact⟨p5,af⟩
  ·have Zv:=hdd (Kj hA.aF af)
   have hm:=hA.made
   rw [lI af]at hm
   have HM:=hdd hm
   have HT:=hdd hA
   obtain⟨x0,x1,x2,x3,x4,x5,x6,x7,x8,-,-,-⟩:=hA
   clear hm
   go_wp2_with fail
   refine bodyPost_ret (v:= .tuple #[.agg #[.slice s n c, .int .i64 t.root], .int .i64 0]) (by simp [results,Tryd.results107,go_sem, *]) rfl ⟨ag, .inr ⟨Zv.out,t,_,rfl,?_,HM.out⟩⟩
   intro w'' hw
   refine HT.out.tree _ (ik (by simp only [aA];omega) hw.1) fun b b1 b2 b3=>?_
   refine(hw.2 b af (by simp only [aA];omega)).trans ?_
   exact(heap_setCell_other _ ⟨w.heap.size,_,none⟩ b _ (by show b≠w.heap.size;omega)).trans (heap_setCell_other _ ⟨w.heap.size,_,none⟩ b _ (by show b≠w.heap.size;omega))
def CW (B:Nat) (l:List aC) (w':World) (so:Option Addr) (n c:Nat) (rt E2:Int):Prop:=
 (E2≠0/\n=0/\so=none/\c=0/\rt=0/\(E2=iG none l\/(E2=1/\2900<l.length)))\/(E2=0/\iG none l=0/\∃t,(∀w'',aM B w' w''->bM w'' (.agg #[.slice so n c, .int .i64 rt]) t)/\Made l t)
theorem mE {v:Value} (h:fu w v l):Calls Tryd.prog 107 #[v] w fun x w'=>ah w w'/\∃so n c rt E2,x = .returned (.tuple #[.agg #[.slice so n c, .int .i64 rt], .int .i64 E2])/\CW (w.heap.size+1) l w' so n c rt E2:=by
 refine(FL h).mono ?_
 rintro x w' ⟨hb,⟨E,h1,h2,rfl⟩|⟨h1,t,v,rfl,h2,h3⟩⟩
 ·exact⟨hb,none,0,0,0,E,rfl, .inl ⟨h1,rfl,rfl,rfl,rfl,h2⟩⟩
 ·obtain⟨nv,rfl,hn⟩:=h2 w' (aM.refl _ _)
  obtain⟨⟨ao,cap,rfl⟩,-⟩:=hn.len
  exact⟨hb,_,_,_,_,0,rfl, .inr ⟨rfl,h1,t,h2,h3⟩⟩
end
section
set_option maxRecDepth 100000
set_option maxHeartbeats 2000000
variable {M n c n0 c0 n1 c1 n2 c2:Nat} {s s0 s1 s2:Option Addr} {wr w:World}
def rI (M:Nat) (wr:World) (s:Option Addr) (n c:Nat):Prop:=∃g,s=some ⟨g,0,none⟩/\n=1/\c=1/\M<=g/\g<wr.heap.size/\wr.heap[g]?=some (.cells #[.bool true, .slice none 0 0, .slice none 0 0, .slice none 0 0, .slice none 0 0] 119)
theorem rI.block {w':World} (h:rI M wr s n c) (hz:wr.heap.size<=w'.heap.size) (hb:∀b,M<=b->b<wr.heap.size->w'.heap[b]?=wr.heap[b]?):rI M w' s n c:=by
 obtain⟨g,h1,h2,h3,h4,h5,h6⟩:=h
 exact⟨g,h1,h2,h3,h4,af,(hb g h4 h5).trans h6⟩
structure Fj (w:World) (s0:Option Addr) (n0 c0:Nat) (s1:Option Addr) (n1 c1:Nat) (s2:Option Addr) (n2 c2:Nat) (wr:World):Prop where
 below:ah w wr
 size:w.heap.size+2<=wr.heap.size
 res:wr.heap[w.heap.size]?=some (.cells #[.slice none 0 0, .slice none 0 0, .int .i64 0, .slice none 0 0, .int .i64 0, .slice none 0 0, .int .i64 0, .int .i64 0] 35)
 box:wr.heap[w.heap.size+1]?=some (.cells #[.slice none 0 0, .slice s0 n0 c0, .int .i64 0, .slice s1 n1 c1, .int .i64 0, .slice s2 n2 c2, .int .i64 0, .int .i64 0] 35)
theorem Fj.step {w5:World} (h:Fj w s0 n0 c0 s1 n1 c1 s2 n2 c2 wr) (cu:ah wr w5) {o:Nat} {u v:Value} {cs:Array Value}
  (hcs:((#[.slice none 0 0, .slice s0 n0 c0, .int .i64 0, .slice s1 n1 c1, .int .i64 0, .slice s2 n2 c2, .int .i64 0, .int .i64 0]:Array Value).setIfInBounds o u).setIfInBounds (o+1) v=cs) :
  ah w ((w5.setCell ⟨w.heap.size+1,o,none⟩ u).setCell ⟨w.heap.size+1,o+1,none⟩ v)/\w.heap.size+2<=((w5.setCell ⟨w.heap.size+1,o,none⟩ u).setCell ⟨w.heap.size+1,o+1,none⟩ v).heap.size /\
   ((w5.setCell ⟨w.heap.size+1,o,none⟩ u).setCell ⟨w.heap.size+1,o+1,none⟩ v).heap[w.heap.size]?=some (.cells #[.slice none 0 0, .slice none 0 0, .int .i64 0, .slice none 0 0, .int .i64 0, .slice none 0 0, .int .i64 0, .int .i64 0] 35) /\
   ((w5.setCell ⟨w.heap.size+1,o,none⟩ u).setCell ⟨w.heap.size+1,o+1,none⟩ v).heap[w.heap.size+1]?=some (.cells cs 35) /\
   (∀b,w.heap.size+2<=b->((w5.setCell ⟨w.heap.size+1,o,none⟩ u).setCell ⟨w.heap.size+1,o+1,none⟩ v).heap[b]?=w5.heap[b]?):=by
 have hsz:=h.size
 have hs5:=cu.size
 have hb:ah w w5:=Below.trans' h.below cu h.below.size
 refine⟨(by repeat (first|with_reducible exact aI _ _|with_reducible assumption|with_reducible refine cJ ?_ _|with_reducible refine Below.drew ?_|with_reducible refine Below.alloc ?_ (by first|omega|(simp;done)|(simp;omega)) _|with_reducible refine Below.setCell ?_ (by first|omega|(simp;done)|(simp;omega)) _)),by simp;omega,?_,?_,fun b hb=>?_⟩
 ·rw [qd _ _ _ _ (by show w.heap.size≠w.heap.size+1;omega),qd _ _ _ _ (by show w.heap.size≠w.heap.size+1;omega)]
  exact(cu.block _ af).trans h.res
 ·rw [<-hcs]
  exact heap_setCell_same (heap_setCell_same ((cu.block _ af).trans h.box))
 ·rw [qd _ _ _ _ (by show b≠w.heap.size+1;omega),qd _ _ _ _ (by show b≠w.heap.size+1;omega)]
theorem Fj.cells (h:Fj w s0 n0 c0 s1 n1 c1 s2 n2 c2 wr):wr.cell? ⟨w.heap.size+1,0,none⟩=some (.slice none 0 0)/\wr.cell? ⟨w.heap.size+1,1,none⟩=some (.slice s0 n0 c0)/\wr.cell? ⟨w.heap.size+1,2,none⟩=some (.int .i64 0)/\wr.cell? ⟨w.heap.size+1,3,none⟩=some (.slice s1 n1 c1)/\wr.cell? ⟨w.heap.size+1,4,none⟩=some (.int .i64 0)/\wr.cell? ⟨w.heap.size+1,5,none⟩=some (.slice s2 n2 c2)/\wr.cell? ⟨w.heap.size+1,6,none⟩=some (.int .i64 0)/\wr.cell? ⟨w.heap.size+1,7,none⟩=some (.int .i64 0)/\∀o,wr.frozen? ⟨w.heap.size+1,o,none⟩=false:=by
 simp [World.cell?,World.frozen?,h.box]
theorem Fj.Gc (h:Fj w s0 n0 c0 s1 n1 c1 s2 n2 c2 wr):wr.cell? ⟨w.heap.size,0,none⟩=some (.slice none 0 0)/\wr.cell? ⟨w.heap.size,1,none⟩=some (.slice none 0 0)/\wr.cell? ⟨w.heap.size,2,none⟩=some (.int .i64 0)/\wr.cell? ⟨w.heap.size,3,none⟩=some (.slice none 0 0)/\wr.cell? ⟨w.heap.size,4,none⟩=some (.int .i64 0)/\wr.cell? ⟨w.heap.size,5,none⟩=some (.slice none 0 0)/\wr.cell? ⟨w.heap.size,6,none⟩=some (.int .i64 0)/\wr.cell? ⟨w.heap.size,7,none⟩=some (.int .i64 0)/\∀o,wr.frozen? ⟨w.heap.size,o,none⟩=false:=by
 simp [World.cell?,World.frozen?,h.res]
def ky:Ba:=⟨[],tE,tE,tE,0⟩
theorem rI.tree (h:rI M wr s n c):bz wr (.slice s n c) tE.nodes:=by
 obtain⟨g,rfl,rfl,rfl,_,_,h6⟩:=h
 exact DI h6
theorem uX (w:World):Calls Tryd.prog 53 #[] w fun e w'=>(∃v',e = .returned v'/\∀w'',aM (w.heap.size+2) w' w''->bO w'' v' ky)/\ah w w':=by
 have HN:=hdd fun w'=>uf w'
 obtain⟨W0,hW0⟩:=bP ((w.alloc (.cells #[.slice none 0 0, .slice none 0 0, .int .i64 0, .slice none 0 0, .int .i64 0, .slice none 0 0, .int .i64 0, .int .i64 0] 35)).alloc (.cells #[.slice none 0 0, .slice none 0 0, .int .i64 0, .slice none 0 0, .int .i64 0, .slice none 0 0, .int .i64 0, .int .i64 0] 35))
 have HST:=hdd (show Fj w none 0 0 none 0 0 none 0 0 W0 by
  refine⟨by rw [hW0];exact(by repeat (first|with_reducible exact aI _ _|with_reducible assumption|with_reducible refine cJ ?_ _|with_reducible refine Below.drew ?_|with_reducible refine Below.alloc ?_ (by first|omega|(simp;done)|(simp;omega)) _|with_reducible refine Below.setCell ?_ (by first|omega|(simp;done)|(simp;omega)) _)),by rw [hW0];simp,?_,?_⟩
  ·rw [hW0,kW _ _ _ bj];exact aj _ _ rfl
  ·rw [hW0];exact aj _ _ bj)
 go_enter Tryd.func53,Tryd.ntmps53
 go_upto_region 2 with (fail)
 rw [<-hW0]
 clear hW0
 go_wp2_with fail
 go_loopg [4] 3 (fun g i wr=>∃(k:Nat) (s0:Option Addr) (n0 c0:Nat) (s1:Option Addr) (n1 c1:Nat) (s2:Option Addr) (n2 c2:Nat),k<=3/\g=3-k/\i = .int .i64 k/\Hid (Fj w s0 n0 c0 s1 n1 c1 s2 n2 c2 wr/\(0<k->rI (w.heap.size+2) wr s0 n0 c0)/\(1<k->rI (w.heap.size+2) wr s1 n1 c1)/\(2<k->rI (w.heap.size+2) wr s2 n2 c2)))
 case atStart=>exact⟨0,_,_,_,_,_,_,_,_,_,af,rfl,rfl,hdd ⟨HST.out,fun h=>af,fun h=>af,fun h=>af⟩⟩
 case round=>
  clear HST
  obtain⟨k,s0,n0,c0,s1,n1,c1,s2,n2,c2,hk,rfl,rfl,HB⟩:=hrel
  obtain⟨b0,b1,b2,b3,b4,b5,b6,b7,bf⟩:=HB.out.1.cells
  have hsz:=HB.out.1.size
  have X0:=hdd (show ∀(w5:World) (gg:Nat),ah wr w5->wr.heap.size<=gg->gg<w5.heap.size->w5.heap[gg]?=some (.cells #[.bool true, .slice none 0 0, .slice none 0 0, .slice none 0 0, .slice none 0 0] 119)->∀w6:World,w5.heap.size<=w6.heap.size->(∀b,w.heap.size+2<=b->w6.heap[b]?=w5.heap[b]?)->rI (w.heap.size+2) w6 (some ⟨gg,0,none⟩) 1 1
   from fun w5 gg _ h1 h2 h3 w6 hz hk=>⟨gg,rfl,rfl,rfl,af,af,(hk gg af).trans h3⟩)
  have HOLD:=hdd (show ∀w5:World,ah wr w5->∀w6:World,w5.heap.size<=w6.heap.size->(∀b,w.heap.size+2<=b->w6.heap[b]?=w5.heap[b]?)->∀s n c,rI (w.heap.size+2) wr s n c->rI (w.heap.size+2) w6 s n c
   from fun w5 cu w6 hz hk s n c h=>h.block (w':=w6) (by have:=cu.size;omega) (fun b h1 h2=>(hk b h1).trans (cu.block b h2)))
  by_cases hlt:k<3
  ·obtain rfl|rfl|rfl:k=0\/k=1\/k=2:=af
   ·go_wp2_with ((go_at_call 81;(with_reducible refine(HN.out _).mono ?_);rintro e w5 ⟨gg,rfl,hg1,hg2,hg3,cu⟩;obtain⟨Pz,Sk,Sj⟩:=nj cu (B:=w.heap.size+1) af))
    go_roundg 2
    case measure=>omega
    case rel=>
     obtain⟨q1,q2,q3,q4,q5⟩:=HB.out.1.step cu (o:=1) (u:= .slice (some ⟨gg,0,none⟩) 1 1) (v:= .int .i64 0) rfl
     have uB:w5.heap.size<=((w5.setCell ⟨w.heap.size+1,1,none⟩ (.slice (some ⟨gg,0,none⟩) 1 1)).setCell ⟨w.heap.size+1,1+1,none⟩ (.int .i64 0)).heap.size:=bj
     exact⟨1,_,_,_,_,_,_,_,_,_,af,rfl,by go_num,hdd ⟨⟨q1,q2,q3,by simpa using q4⟩,fun _=>X0.out w5 gg cu hg1 hg2 hg3 _ uB q5,fun h=>af,fun h=>af⟩⟩
   ·go_wp2_with ((go_at_call 81;(with_reducible refine(HN.out _).mono ?_);rintro e w5 ⟨gg,rfl,hg1,hg2,hg3,cu⟩;obtain⟨Pz,Sk,Sj⟩:=nj cu (B:=w.heap.size+1) af))
    go_roundg 1
    case measure=>omega
    case rel=>
     obtain⟨q1,q2,q3,q4,q5⟩:=HB.out.1.step cu (o:=3) (u:= .slice (some ⟨gg,0,none⟩) 1 1) (v:= .int .i64 0) rfl
     have uB:w5.heap.size<=((w5.setCell ⟨w.heap.size+1,3,none⟩ (.slice (some ⟨gg,0,none⟩) 1 1)).setCell ⟨w.heap.size+1,3+1,none⟩ (.int .i64 0)).heap.size:=bj
     exact⟨2,_,_,_,_,_,_,_,_,_,af,rfl,by go_num,hdd ⟨⟨q1,q2,q3,by simpa using q4⟩,fun _=>HOLD.out w5 cu _ uB q5 _ _ _ (HB.out.2.1 af),fun _=>X0.out w5 gg cu hg1 hg2 hg3 _ uB q5,fun h=>af⟩⟩
   ·go_wp2_with ((go_at_call 81;(with_reducible refine(HN.out _).mono ?_);rintro e w5 ⟨gg,rfl,hg1,hg2,hg3,cu⟩;obtain⟨Pz,Sk,Sj⟩:=nj cu (B:=w.heap.size+1) af))
    go_roundg 0
    case measure=>omega
    case rel=>
     obtain⟨q1,q2,q3,q4,q5⟩:=HB.out.1.step cu (o:=5) (u:= .slice (some ⟨gg,0,none⟩) 1 1) (v:= .int .i64 0) rfl
     have uB:w5.heap.size<=((w5.setCell ⟨w.heap.size+1,5,none⟩ (.slice (some ⟨gg,0,none⟩) 1 1)).setCell ⟨w.heap.size+1,5+1,none⟩ (.int .i64 0)).heap.size:=bj
     exact⟨3,_,_,_,_,_,_,_,_,_,af,rfl,by go_num,hdd ⟨⟨q1,q2,q3,by simpa using q4⟩,fun _=>HOLD.out w5 cu _ uB q5 _ _ _ (HB.out.2.1 af),fun _=>HOLD.out w5 cu _ uB q5 _ _ _ (HB.out.2.2.1 af),fun _=>X0.out w5 gg cu hg1 hg2 hg3 _ uB q5⟩⟩
  ·obtain rfl:k=3:=af
   obtain⟨z0,z1,z2,z3,z4,z5,z6,z7,zf⟩:=HB.out.1.Gc
   have cZ:=HB.out.1.below
   have Ij:=hdd (show ∀w'',wr.heap.size<=w''.heap.size->(∀b,w.heap.size+2<=b->b<wr.heap.size->w''.heap[b]?=wr.heap[b]?)->bO w'' (.agg #[.slice none 0 0, .slice s0 n0 c0, .int .i64 0, .slice s1 n1 c1, .int .i64 0, .slice s2 n2 c2, .int .i64 0, .int .i64 0]) ky from fun w'' hz hk=>
    ⟨_,_,_,_,rfl,dK.nil _ _ _ _,((HB.out.2.1 af).block hz hk).tree,((HB.out.2.2.1 af).block hz hk).tree,((HB.out.2.2.2 af).block hz hk).tree⟩)
   go_wp2
   refine bodyPost_ret (v:= .agg #[.slice none 0 0, .slice s0 n0 c0, .int .i64 0, .slice s1 n1 c1, .int .i64 0, .slice s2 n2 c2, .int .i64 0, .int .i64 0]) (by simp [results,Tryd.results53,go_sem, *]) rfl ⟨⟨_,rfl,?_⟩,?_⟩
   ·intro w'' hK
    refine Ij.out _ (ik bj hK.size) fun b hb hb2=>(hK.block b hb (by simpa using hb2)).trans ?_
    repeat rw [qd _ _ _ _ (by show b≠w.heap.size;omega)]
   ·exact(by repeat (first|with_reducible exact aI _ _|with_reducible assumption|with_reducible refine cJ ?_ _|with_reducible refine Below.drew ?_|with_reducible refine Below.alloc ?_ (by first|omega|(simp;done)|(simp;omega)) _|with_reducible refine Below.setCell ?_ (by first|omega|(simp;done)|(simp;omega)) _))
theorem zo:allT tE=some []:=by unfold allT;rw [ar Gm];exact Me _ _
theorem vV:bY ky=some []:=uW (b:=ky) zo rfl
theorem Pt:CR ky [] 0 []=true:=by
 have h:aO ky=true:=jX ⟨aW,aW,aW,aW,fun i h=>by simp [ky]at h,[],vV,fun k _=>by
  rw [lU (a:=[]) (c:=[]) rfl (by unfold Ba.tree;split;exact zo;split <;> exact zo)];rfl⟩
 exact(Kz (b:=ky) h rfl rfl vV).trans rfl
end
end Go.Proofs.YtmljjfhgciaceaaDoor
