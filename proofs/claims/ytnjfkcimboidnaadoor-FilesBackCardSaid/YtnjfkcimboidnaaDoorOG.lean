/- Texts of mine that come as one: LawNew Of LawBaseNew. -/
import Derived.Test.YtnjfkcimboidnaaDoorBK
import Derived.Test.YtnjfkcimboidnaaDoorPG
import Derived.Test.YtnjfkcimboidnaaDoorPU
/- The walk of tree.New; the law TreeNew. -/
namespace Go.Proofs.YtnjfkcimboidnaaDoor
open Go.RowKit
def newT:Tr:=⟨[⟨true,[],[],[],[]⟩],0⟩
theorem newT_vis:vis newT 12 0 0 1099511627776=some ([0],1):=by
 have h:newT.at? 0=some ⟨true,[],[],[],[]⟩:=rfl
 unfold vis
 rw [h]
 simp only
 rw [if_neg (by decide),if_pos trivial,if_pos ⟨rfl,rfl,rfl,by decide, .inr rfl,entsOk_nil _ _⟩]
theorem newT_fault:treeFault newT=0:=treeFault_of (by decide) ⟨[0],1,newT_vis,by simp,rfl⟩
theorem newT_all (lo hi:Int):allR newT lo hi=some []:=rfl
set_option maxRecDepth 100000 in
set_option maxHeartbeats 1000000 in
theorem treeNew_made (w:World):Calls Tryd.prog 49 #[] w fun e w'=>∃g,e = .returned (.agg #[.slice (some ⟨g,0,none⟩) 1 1, .int .i64 0])∧w.heap.size≤g∧g<w'.heap.size∧w'.heap[g]?=some (.cells #[.bool true, .slice none 0 0, .slice none 0 0, .slice none 0 0, .slice none 0 0] 133)∧Below w.heap.size w w':=by
 go_enter Tryd.func49,Tryd.ntmps49
 go_wp2
 exact bodyPost_ret (v:= .agg #[.slice (some ⟨w.heap.size+1,0,none⟩) 1 1, .int .i64 0]) (by simp [results,Tryd.results49,go_sem]) rfl ⟨_,rfl,by omega,by simp,by first|(with_reducible exact heap_new _ _ (by simp))|simp,belowAuto⟩
theorem newNodes {w:World} {g:Nat} {T:TypeId} (h:w.heap[g]?=some (.cells #[.bool true, .slice none 0 0, .slice none 0 0, .slice none 0 0, .slice none 0 0] T)):NodesAt w (.slice (some ⟨g,0,none⟩) 1 1) newT.nodes:=by
 refine⟨[⟨true, .slice none 0 0, .slice none 0 0, .slice none 0 0, .slice none 0 0⟩],⟨_,_,rfl,by decide,by decide,by decide,by simp,fun _=>⟨g,0,rfl,(Array.getElem?_eq_some_iff.1 h).1,fun i x hx j u hu=>?_⟩⟩,rfl,fun i r x hr hx=>?_⟩
 ·match i,hx with
  |0,hx=>
   simp only [List.getElem?_cons_zero,Option.some.injEq]at hx
   subst hx
   simp only [World.cell?,h]
   simpa [enRaw] using hu
 ·match i,hr,hx with
  |0,hr,hx=>
   simp only [newT,List.getElem?_cons_zero,Option.some.injEq]at hr hx
   subst hr hx
   exact⟨rfl,SlAt.nil _ _ _ _,SlAt.nil _ _ _ _,SlAt.nil _ _ _ _,SlAt.nil _ _ _ _⟩
end Go.Proofs.YtnjfkcimboidnaaDoor

/- The walk of tree.Of. -/
namespace Go.Proofs.YtnjfkcimboidnaaDoor
open Go.RowKit
theorem Made.putE {l:List Ent} {t:Tr} {k:Nat} (h:Made (l.take k) t) (hk:k<l.length) (ho:¬∃p,lastK l k=some p∧l[k].key≤p) :
  putE t l[k].key l[k].is=if l[k].key<0∨1099511627776≤l[k].key∨l[k].is.c=0 then 2 else if rollCheck l[k].is≠0 then rollCheck l[k].is else 0:=by
 unfold Go.Proofs.YtnjfkcimboidnaaDoor.putE
 rw [if_neg (by simp [h.1])]
 by_cases h2:l[k].key<0∨1099511627776≤l[k].key∨l[k].is.c=0
 ·rw [if_pos h2,if_pos h2]
 ·rw [if_neg h2,if_neg h2]
  by_cases h3:rollCheck l[k].is=0
  ·obtain⟨hz,-⟩:=h.put hk ho h2 h3
   have:=(good_check h3 (by omega)).2
   have hle:(Roll.zero:Roll).c+l[k].is.c≤1073741824:=by show (0:Int)+_≤_;omega
   simp only [h3,hz,ne_eq,not_true_eq_false,if_false,if_pos hle]
  ·rw [if_pos h3,if_pos h3]
def OfPost (l:List Ent) (w:World) (x:Ending) (w':World):Prop:=
 Below w.heap.size w w'∧((∃E,E≠0∧(E=entsE none l∨(E=1∧2900<l.length))∧x = .returned (.tuple #[zeroT, .int .i64 E])) ∨
  (entsE none l=0∧∃t v,x = .returned (.tuple #[v, .int .i64 0])∧(∀w'',Keep (w.heap.size+1) w' w''→TreeAt w'' v t)∧Made l t))
structure OfAt (w:World) (tb:Nat) (l:List Ent) (k:Nat) (s:Option Addr) (n c:Nat) (t:Tr) (wr:World):Prop where
 below:Below w.heap.size w wr
 size:w.heap.size<tb
 lt:tb<wr.heap.size
 z0:wr.cell? ⟨w.heap.size,0,none⟩=some (.slice none 0 0)
 z1:wr.cell? ⟨w.heap.size,1,none⟩=some (.int .i64 0)
 zf:∀o,wr.frozen? ⟨w.heap.size,o,none⟩=false
 t0:wr.cell? ⟨tb,0,none⟩=some (.slice s n c)
 t1:wr.cell? ⟨tb,1,none⟩=some (.int .i64 t.root)
 tf:∀o,wr.frozen? ⟨tb,o,none⟩=false
 tree:∀w'',wr.heap.size≤w''.heap.size→(∀b,w.heap.size<b→b≠tb→b<wr.heap.size→w''.heap[b]?=wr.heap[b]?)→TreeAt w'' (.agg #[.slice s n c, .int .i64 t.root]) t
 made:Made (l.take k) t
 ents:entsE none l=entsE (lastK l k) (l.drop k)
theorem OfAt.later {w:World} {tb:Nat} {l:List Ent} {k:Nat} {s:Option Addr} {n c:Nat} {t:Tr} {wr w':World} (h:OfAt w tb l k s n c t wr) (hb:Below wr.heap.size wr w'):OfAt w tb l k s n c t w':=by
 have h1:=h.size
 have h2:=h.lt
 have k0:=keep1 hb (B:=w.heap.size) (by omega)
 have k1:=keep1 hb (B:=tb) h2
 exact⟨Below.trans' h.below hb h.below.size,h1,k1.1,(k0.2.1 _).trans h.z0,(k0.2.1 _).trans h.z1,fun o=>(k0.2.2 o).trans (h.zf o),(k1.2.1 _).trans h.t0,(k1.2.1 _).trans h.t1,fun o=>(k1.2.2 o).trans (h.tf o),fun w'' hs hk=>h.tree w'' (Nat.le_trans hb.size hs) fun b b1 b2 b3=>(hk b b1 b2 (Nat.lt_of_lt_of_le b3 hb.size)).trans (hb.block b b3),h.made,h.ents⟩
theorem entsE_end {l:List Ent} {k:Nat} (h:entsE none l=entsE (lastK l k) (l.drop k)) (hk:l.length≤k):entsE none l=0:=by rw [h,List.drop_eq_nil_of_le hk];rfl
set_option maxRecDepth 100000 in
set_option maxHeartbeats 4000000 in
theorem treeOf_any {v:Value} {l:List Ent} {w:World} (h:EntsAt w v l):Calls Tryd.prog 69 #[v] w (OfPost l w):=by
 have HE:=Lib.hid h
 obtain⟨ao,cap,rfl,a1,a2,a3,a4,a5⟩:=h
 obtain⟨W0,hW0⟩:∃W0,W0=w.alloc (.cells #[.slice none 0 0, .int .i64 0] 32):=⟨_,rfl⟩
 have hb0:Below w.heap.size w W0:=by rw [hW0];exact belowAuto
 have hz0:W0.heap.size=w.heap.size+1:=by rw [hW0];simp
 have k0:W0.heap[w.heap.size]?=some (.cells #[.slice none 0 0, .int .i64 0] 32):=by rw [hW0];exact heap_new _ _ rfl
 have HN:=Lib.hid (treeNew_made W0)
 go_enter Tryd.func69,Tryd.ntmps69
 go_upto_region 1 with (fail)
 rw [←hW0]
 clear hW0
 go_upto_region 2 with (go_at_call 49;(with_reducible refine HN.out.mono ?_);rintro e w1 ⟨g,rfl,hg1,hg2,hg,hb1⟩)
 obtain⟨W1,hW1⟩:∃W1,W1=w1.alloc (.cells #[.slice (some ⟨g,0,none⟩) 1 1, .int .i64 0] 32):=⟨_,rfl⟩
 have hb1':Below w1.heap.size w1 W1:=by rw [hW1];exact belowAuto
 have k1:W1.heap[w1.heap.size]?=some (.cells #[.slice (some ⟨g,0,none⟩) 1 1, .int .i64 0] 32):=by rw [hW1];exact heap_new _ _ rfl
 have hs1:=hb1.size
 have hz1:W1.heap.size=w1.heap.size+1:=by rw [hW1];simp
 have k01:=(hb1'.block w.heap.size (by omega)).trans ((hb1.block w.heap.size (by omega)).trans k0)
 have HI:=Lib.hid (show OfAt w w1.heap.size l 0 (some ⟨g,0,none⟩) 1 1 newT W1 from
  ⟨Below.trans' (Below.trans' hb0 hb1 hb0.size) hb1' (by omega),by omega,by omega,by simp [World.cell?,k01],by simp [World.cell?,k01],fun o=>by simp [World.frozen?,k01],by simp [World.cell?,k1],by show W1.cell? ⟨w1.heap.size,1,none⟩=some (Value.int .i64 0);simp [World.cell?,k1],fun o=>by simp [World.frozen?,k1],
   fun w'' hs hk=>⟨_,rfl,newNodes ((hk g (by omega) (by omega) (by omega)).trans ((hb1'.block g hg2).trans hg))⟩,made_new,rfl⟩)
 rw [←hW1]
 obtain⟨tb,htb⟩:∃tb,w1.heap.size=tb:=⟨_,rfl⟩
 rw [htb]at HI ⊢
 clear hW1 k1 hs1 hz1 k01 k0 hb1 hb1' hg hg1 hg2 hb0 htb
 go_wp2_with fail
 go_loopg [12] l.length (fun g i wr=>∃k:Nat,k≤l.length∧g=l.length-k∧i = .int .i64 k∧Hid (∃s n c t,OfAt w tb l k s n c t wr))
 case atStart=>exact⟨0,Nat.zero_le _,rfl,rfl,Lib.hid ⟨_,_,_,_,HI.out⟩⟩
 case round=>
  clear HI
  obtain⟨k,hk,rfl,rfl,HR⟩:=hrel
  obtain⟨s,n,c,t,hA⟩:=HR.out
  by_cases hlt:k<l.length
  ·obtain⟨ab,aoff,rfl,abb,ac⟩:=a5 (by omega)
   obtain⟨c0,c1,c2,c3,c4,c5,c6⟩:=ent_cells hA.below abb ac hlt
   obtain⟨p,hp⟩:∃p:Int,∀hk0:0<k,wr.cell? ⟨ab,aoff+(k-1)*7,none⟩=some (.int .i64 p)∧lastK l k=some p:=by
    by_cases hk0:0<k
    ·obtain⟨q0,-⟩:=ent_cells hA.below abb ac (show k-1<l.length by omega)
     refine⟨_,fun _=>⟨q0,?_⟩⟩
     unfold lastK
     rw [if_neg (by omega),List.getElem?_eq_getElem (by omega)];rfl
    ·exact⟨0,fun h=>absurd h hk0⟩
   have hbz:=hA.below.size
   have habl:ab<wr.heap.size:=by omega
   have hEA:=entsE_at hlt
   have hPE:=hA.made.putE hlt
   have hMP:=hA.made.put hlt
   obtain⟨e,he⟩:∃e,l[k]=e:=⟨_,rfl⟩
   rw [he]at c0 c1 c2 c3 c4 c5 c6 hEA hPE hMP
   obtain⟨W5,hW5⟩:∃W5,W5=wr.alloc (.cells #[.int .i64 e.key, .int .i64 e.is.c, .int .i64 e.is.s, .int .i64 e.is.mi, .int .i64 e.is.ma, .int .i64 e.is.t, .int .i64 e.is.l] 96):=⟨_,rfl⟩
   have hw5:Below wr.heap.size wr W5:=by rw [hW5];exact(Below.refl _ _).alloc (Nat.le_refl _) _
   have n0:W5.heap[wr.heap.size]?=some (.cells #[.int .i64 e.key, .int .i64 e.is.c, .int .i64 e.is.s, .int .i64 e.is.mi, .int .i64 e.is.ma, .int .i64 e.is.t, .int .i64 e.is.l] 96):=by rw [hW5];exact heap_new _ _ rfl
   have hz5:W5.heap.size=wr.heap.size+1:=by rw [hW5];simp
   have HA5:=Lib.hid (hA.later hw5)
   have HSE:=Lib.hid fun(W:World) (hb:Below W5.heap.size W5 W)=>(by
    have b0:=(hb.block _ (by omega)).trans n0
    simp [World.cell?,b0]:W.cell? ⟨wr.heap.size,0,none⟩=some (.int .i64 e.key)∧W.cell? ⟨wr.heap.size,1,none⟩=some (.int .i64 e.is.c)∧W.cell? ⟨wr.heap.size,2,none⟩=some (.int .i64 e.is.s)∧W.cell? ⟨wr.heap.size,3,none⟩=some (.int .i64 e.is.mi)∧W.cell? ⟨wr.heap.size,4,none⟩=some (.int .i64 e.is.ma)∧W.cell? ⟨wr.heap.size,5,none⟩=some (.int .i64 e.is.t)∧W.cell? ⟨wr.heap.size,6,none⟩=some (.int .i64 e.is.l))
   have HEA:=Lib.hid hEA
   have HPE:=Lib.hid hPE
   have HMP:=Lib.hid hMP
   have HP:=Lib.hid fun(h:0<k)=>(hw5.cell (p:=⟨ab,aoff+(k-1)*7,none⟩) habl).trans (hp h).1
   have HLK:=Lib.hid (show (∃q,lastK l k=some q∧e.key≤q)↔0<k∧e.key≤p from by
    by_cases hk0:0<k
    ·rw [(hp hk0).2];simp [hk0]
    ·have:lastK l k=none:=by unfold lastK;rw [if_pos (by omega)]
     rw [this];simp;omega)
   have hix0:=fun w'=>idx_ents (ab:=ab) (aoff:=aoff) (n:=l.length) (cap:=cap) (show (k:Int)=((k:Nat):Int) by rfl) hlt w'
   clear hA ac a5 he hp hEA hPE hMP n0 hw5
   go_upto_region 5 with (fail)
   rw [←hW5]
   clear hW5 c0 c1 c2 c3 c4 c5 c6 hix0
   go_cut [29] (fun b wx=>∃B:Bool,(B=true↔0<k∧e.key≤p)∧b = .bool B∧Below W5.heap.size W5 wx)
   case first=>
    obtain⟨s0,-⟩:=HSE.out _ (Below.refl _ _)
    by_cases g3:0<k
    ·have d3:decide ((0:Int)<k)=true:=by simpa using g3
     have q0:=HP.out g3
     have hix:=fun w=>idx_ents (ab:=ab) (aoff:=aoff) (n:=l.length) (cap:=cap) (show (k:Int)-1=((k-1:Nat):Int) by omega) (by omega) w
     have hw1:IntKind.i64.wrap ((k:Int)-1)=(k:Int)-1:=IntWalk.i64_in _ (by omega)
     obtain⟨B,hB⟩:∃B,decide (e.key≤p)=B:=⟨_,rfl⟩
     have HB:=Lib.hid (show B=true↔0<k∧e.key≤p by rw [←hB];simp [g3])
     go_quiet (fail)
     go_wp2
     go_meet
     exact⟨_,HB.out,rfl,belowAuto⟩
    ·obtain rfl:k=0:=by omega
     go_quiet (fail)
     go_wp2
     go_meet
     exact⟨false,by simp,rfl,belowAuto⟩
   case rest=>
    obtain⟨B,hB,rfl,hbx⟩:=hcut
    have HLB:=Lib.hid (HLK.out.trans hB.symm)
    have HAX:=Lib.hid (HA5.out.later hbx)
    have hax:=HAX.out
    obtain⟨s0,s1,s2,s3,s4,s5,s6⟩:=HSE.out _ hbx
    have HBX:=Lib.hid hbx
    have HRX:=Lib.hid hax.ents
    have hzx:=hbx.size
    obtain⟨x0,x1,x2,x3,x4,x5,x6,x7,x8,-,-,-⟩:=hax
    clear hB hbx HLK HP HSE HR
    cases B with
    |true=>
     go_wp2_with fail
     have hbw:=x0
     refine bodyPost_ret (v:= .tuple #[zeroT, .int .i64 8]) (by simp [results,Tryd.results69,go_sem, *]) rfl ⟨belowAuto, .inl ⟨8,by decide, .inl ?_,rfl⟩⟩
     rw [HRX.out,HEA.out,if_pos (HLB.out.2 (by simp))]
    |false=>
     have ho:¬∃q,lastK l k=some q∧e.key≤q:=fun h=>by have:=HLB.out.1 h;cases this
     have HPE2:=Lib.hid (HPE.out ho)
     have HMP2:=Lib.hid (HMP.out ho)
     have HEA2:=Lib.hid (show entsE none l=if e.key<0∨1099511627776≤e.key∨e.is.c=0 then 2 else if rollCheck e.is≠0 then rollCheck e.is else entsE (lastK l (k+1)) (l.drop (k+1)) by rw [HRX.out,HEA.out,if_neg ho])
     have HPUT:=Lib.hid (treePut_form (key:=e.key) (r:=e.is) (HAX.out.tree _ (Nat.le_refl _) fun _ _ _ _=>rfl) (fun h0=>by
      obtain⟨-,e1,e2,e3,e4,-⟩:=putE_ok h0
      exact(HMP2.out (by omega) e4).2.1))
     clear ho HEA HPE HMP HRX
     go_upto_region 8 with ((go_at_call 48;(with_reducible refine HPUT.out.mono ?_);rintro x w6 ⟨hb6,so,n6,c6,rt,E2,rfl,hpf⟩))
     obtain⟨W7,hW7⟩:∃W7,W7=w6.alloc (.cells #[.slice so n6 c6, .int .i64 rt] 32):=⟨_,rfl⟩
     have hb7:Below w6.heap.size w6 W7:=by rw [hW7];exact belowAuto
     have k7:W7.heap[w6.heap.size]?=some (.cells #[.slice so n6 c6, .int .i64 rt] 32):=by rw [hW7];exact heap_new _ _ rfl
     have HPF:=Lib.hid hpf
     have HB7:=Lib.hid hb7
     have hx6:=hb6.size
     have hx7:W7.heap.size=w6.heap.size+1:=by rw [hW7];simp
     have HA7:=Lib.hid (HAX.out.later (Below.trans' hb6 hb7 hx6))
     rw [←hW7]
     clear hW7 x0 x3 x4 x5 x6 x7 x8 s0 s1 s2 s3 s4 s5 s6 hb6 hb7 hpf
     obtain⟨x0,-,x2,x3,x4,x5,x6,x7,x8,-,-,-⟩:=HA7.out
     by_cases h0:E2=0
     ·subst h0
      obtain⟨q0,q1⟩:W7.cell? ⟨w6.heap.size,0,none⟩=some (.slice so n6 c6)∧W7.cell? ⟨w6.heap.size,1,none⟩=some (.int .i64 rt):=by simp [World.cell?,k7]
      clear k7
      go_wp2_with fail
      go_roundg (l.length-(k+1))
      case measure=>omega
      case rel=>
       refine⟨k+1,by omega,rfl,by go_num,Lib.hid ?_⟩
       rcases HPF.out with ⟨p1,p2⟩|⟨p1,t2,h2,l2,p2,p3,p4,⟨-,p5,rfl,p6⟩|⟨p5,-⟩⟩
       ·omega
       ·obtain⟨-,e1,e2,e3,e4,-⟩:=putE_ok p1
        have hnb:¬(e.key<0∨1099511627776≤e.key∨e.is.c=0):=by omega
        obtain⟨-,-,m1,m2,m3⟩:=HMP2.out hnb e4
        obtain⟨m4,m5,m6⟩:=m3 t2 p3 p4
        have hen:entsE none l=entsE (lastK l (k+1)) (l.drop (k+1)):=by rw [HEA2.out,if_neg hnb,if_neg (by simp [e4])]
        have hob:∀b,b≠tb→((W7.setCell ⟨tb,0,none⟩ (.slice so n6 c6)).setCell ⟨tb,1,none⟩ (.int .i64 t2.root)).heap[b]?=W7.heap[b]?:=fun b hb=>
         (heap_setCell_other _ ⟨tb,_,none⟩ b _ hb).trans (heap_setCell_other _ ⟨tb,_,none⟩ b _ hb)
        have hsz:((W7.setCell ⟨tb,0,none⟩ (.slice so n6 c6)).setCell ⟨tb,1,none⟩ (.int .i64 t2.root)).heap.size=W7.heap.size:=by simp only [heap_setCell_size]
        have hwt:w.heap.size≠tb:=by omega
        refine⟨so,n6,c6,t2,⟨(x0.setCell (by show w.heap.size≤tb;omega) _).setCell (by show w.heap.size≤tb;omega) _,x1,by rw [hsz];exact x2,(World.cell?_of_block (a:=⟨w.heap.size,0,none⟩) (hob _ hwt)).trans x3,(World.cell?_of_block (a:=⟨w.heap.size,1,none⟩) (hob _ hwt)).trans x4,
         fun o=>(World.frozen?_of_block (a:=⟨w.heap.size,o,none⟩) (hob _ hwt)).trans (x5 o),cell_setOff (by decide) (cell_setSame x6),cell_setSame (cell_setOff (by decide) x7),fun o=>by simp [x8],fun w'' hs hk=>p6 w'' ⟨by omega,fun b b1 b2=>?_⟩,⟨p5,m4,m1,m2,m6,m5⟩,hen⟩⟩
        rw [hsz]at hk
        exact(hk b (by omega) (by omega) (by omega)).trans ((hob b (by omega)).trans (HB7.out.block b b2))
       ·omega
     ·have d2:(E2 != 0)=true:=by simp [h0]
      clear k7
      go_wp2_with fail
      refine bodyPost_ret (v:= .tuple #[zeroT, .int .i64 E2]) (by simp [results,Tryd.results69,go_sem, *]) rfl ⟨belowAuto, .inl ⟨E2,h0,?_,rfl⟩⟩
      rcases HPF.out with ⟨p1,p2⟩|⟨p1,t2,h2,l2,p2,p3,p4,⟨p5,-⟩|⟨p5,p6⟩⟩
      ·left
       rw [p2,HEA2.out,HPE2.out]
       rw [HPE2.out]at p1
       by_cases c1:e.key<0∨1099511627776≤e.key∨e.is.c=0
       ·rw [if_pos c1,if_pos c1]
       ·rw [if_neg c1]at p1 ⊢
        rw [if_neg c1]
        by_cases c2:rollCheck e.is=0
        ·rw [if_neg (by simp [c2])]at p1;exact absurd rfl p1
        ·rw [if_pos c2,if_pos c2]
      ·exact absurd p5 h0
      ·right
       obtain⟨-,e1,e2,e3,e4,-⟩:=putE_ok p1
       obtain⟨-,-,-,-,m3⟩:=HMP2.out (by omega) e4
       have:=(m3 t2 p3 p4).2.1
       have:=p2.grown p6
       rw [List.length_take]at *
       exact⟨p5,by omega⟩
  ·have HE0:=Lib.hid (entsE_end hA.ents (by omega))
   have hm:=hA.made
   rw [List.take_of_length_le (by omega)]at hm
   have HM:=Lib.hid hm
   have HT:=Lib.hid hA
   obtain⟨x0,x1,x2,x3,x4,x5,x6,x7,x8,-,-,-⟩:=hA
   clear hm
   go_wp2_with fail
   refine bodyPost_ret (v:= .tuple #[.agg #[.slice s n c, .int .i64 t.root], .int .i64 0]) (by simp [results,Tryd.results69,go_sem, *]) rfl ⟨belowAuto, .inr ⟨HE0.out,t,_,rfl,?_,HM.out⟩⟩
   intro w'' hw
   refine HT.out.tree _ (Nat.le_trans (by simp only [heap_setCell_size];omega) hw.1) fun b b1 b2 b3=>?_
   refine(hw.2 b (by omega) (by simp only [heap_setCell_size];omega)).trans ?_
   exact(heap_setCell_other _ ⟨w.heap.size,_,none⟩ b _ (by show b≠w.heap.size;omega)).trans (heap_setCell_other _ ⟨w.heap.size,_,none⟩ b _ (by show b≠w.heap.size;omega))
def OfFormK (B:Nat) (l:List Ent) (w':World) (so:Option Addr) (n c:Nat) (rt E2:Int):Prop:=
 (E2≠0∧n=0∧so=none∧c=0∧rt=0∧(E2=entsE none l∨(E2=1∧2900<l.length)))∨(E2=0∧entsE none l=0∧∃t,(∀w'',Keep B w' w''→TreeAt w'' (.agg #[.slice so n c, .int .i64 rt]) t)∧Made l t)
theorem treeOf_formK {v:Value} {l:List Ent} {w:World} (h:EntsAt w v l):Calls Tryd.prog 69 #[v] w fun x w'=>Below w.heap.size w w'∧∃so n c rt E2,x = .returned (.tuple #[.agg #[.slice so n c, .int .i64 rt], .int .i64 E2])∧OfFormK (w.heap.size+1) l w' so n c rt E2:=by
 refine(treeOf_any h).mono ?_
 rintro x w' ⟨hb,⟨E,h1,h2,rfl⟩|⟨h1,t,v,rfl,h2,h3⟩⟩
 ·exact⟨hb,none,0,0,0,E,rfl, .inl ⟨h1,rfl,rfl,rfl,rfl,h2⟩⟩
 ·obtain⟨nv,rfl,hn⟩:=h2 w' (Keep.refl _ _)
  obtain⟨⟨ao,cap,rfl⟩,-⟩:=hn.len
  exact⟨hb,_,_,_,_,0,rfl, .inr ⟨rfl,h1,t,h2,h3⟩⟩
end Go.Proofs.YtnjfkcimboidnaaDoor

/- The walk of base.New; the law BaseNew. -/
namespace Go.Proofs.YtnjfkcimboidnaaDoor
open Go.RowKit
def NewIn (M:Nat) (wr:World) (s:Option Addr) (n c:Nat):Prop:=∃g,s=some ⟨g,0,none⟩∧n=1∧c=1∧M≤g∧g<wr.heap.size∧wr.heap[g]?=some (.cells #[.bool true, .slice none 0 0, .slice none 0 0, .slice none 0 0, .slice none 0 0] 133)
theorem NewIn.block {M:Nat} {wr w':World} {s:Option Addr} {n c:Nat} (h:NewIn M wr s n c) (hz:wr.heap.size≤w'.heap.size) (hb:∀b,M≤b→b<wr.heap.size→w'.heap[b]?=wr.heap[b]?):NewIn M w' s n c:=by
 obtain⟨g,h1,h2,h3,h4,h5,h6⟩:=h
 exact⟨g,h1,h2,h3,h4,by omega,(hb g h4 h5).trans h6⟩
structure NwAt (w:World) (s0:Option Addr) (n0 c0:Nat) (s1:Option Addr) (n1 c1:Nat) (s2:Option Addr) (n2 c2:Nat) (wr:World):Prop where
 below:Below w.heap.size w wr
 size:w.heap.size+2≤wr.heap.size
 res:wr.heap[w.heap.size]?=some (.cells #[.slice none 0 0, .slice none 0 0, .int .i64 0, .slice none 0 0, .int .i64 0, .slice none 0 0, .int .i64 0, .int .i64 0] 35)
 box:wr.heap[w.heap.size+1]?=some (.cells #[.slice none 0 0, .slice s0 n0 c0, .int .i64 0, .slice s1 n1 c1, .int .i64 0, .slice s2 n2 c2, .int .i64 0, .int .i64 0] 35)
theorem NwAt.step {w:World} {s0 s1 s2:Option Addr} {n0 c0 n1 c1 n2 c2:Nat} {wr w5:World} (h:NwAt w s0 n0 c0 s1 n1 c1 s2 n2 c2 wr) (hb5:Below wr.heap.size wr w5) {o:Nat} {u v:Value} {cs:Array Value}
  (hcs:((#[.slice none 0 0, .slice s0 n0 c0, .int .i64 0, .slice s1 n1 c1, .int .i64 0, .slice s2 n2 c2, .int .i64 0, .int .i64 0]:Array Value).setIfInBounds o u).setIfInBounds (o+1) v=cs) :
  Below w.heap.size w ((w5.setCell ⟨w.heap.size+1,o,none⟩ u).setCell ⟨w.heap.size+1,o+1,none⟩ v)∧w.heap.size+2≤((w5.setCell ⟨w.heap.size+1,o,none⟩ u).setCell ⟨w.heap.size+1,o+1,none⟩ v).heap.size ∧
   ((w5.setCell ⟨w.heap.size+1,o,none⟩ u).setCell ⟨w.heap.size+1,o+1,none⟩ v).heap[w.heap.size]?=some (.cells #[.slice none 0 0, .slice none 0 0, .int .i64 0, .slice none 0 0, .int .i64 0, .slice none 0 0, .int .i64 0, .int .i64 0] 35) ∧
   ((w5.setCell ⟨w.heap.size+1,o,none⟩ u).setCell ⟨w.heap.size+1,o+1,none⟩ v).heap[w.heap.size+1]?=some (.cells cs 35) ∧
   (∀b,w.heap.size+2≤b→((w5.setCell ⟨w.heap.size+1,o,none⟩ u).setCell ⟨w.heap.size+1,o+1,none⟩ v).heap[b]?=w5.heap[b]?):=by
 have hsz:=h.size
 have hs5:=hb5.size
 have hb:Below w.heap.size w w5:=Below.trans' h.below hb5 h.below.size
 refine⟨(by repeat (first|with_reducible exact Below.refl _ _|with_reducible assumption|with_reducible refine below_dn ?_ _|with_reducible refine Below.drew ?_|with_reducible refine Below.alloc ?_ (by first|omega|(simp;done)|(simp;omega)) _|with_reducible refine Below.setCell ?_ (by first|omega|(simp;done)|(simp;omega)) _)),by simp;omega,?_,?_,fun b hb=>?_⟩
 ·rw [Below.heap_setCell _ _ _ _ (by show w.heap.size≠w.heap.size+1;omega),Below.heap_setCell _ _ _ _ (by show w.heap.size≠w.heap.size+1;omega)]
  exact(hb5.block _ (by omega)).trans h.res
 ·rw [←hcs]
  exact heap_setCell_same (heap_setCell_same ((hb5.block _ (by omega)).trans h.box))
 ·rw [Below.heap_setCell _ _ _ _ (by show b≠w.heap.size+1;omega),Below.heap_setCell _ _ _ _ (by show b≠w.heap.size+1;omega)]
theorem NwAt.cells {w:World} {s0 s1 s2:Option Addr} {n0 c0 n1 c1 n2 c2:Nat} {wr:World} (h:NwAt w s0 n0 c0 s1 n1 c1 s2 n2 c2 wr):wr.cell? ⟨w.heap.size+1,0,none⟩=some (.slice none 0 0)∧wr.cell? ⟨w.heap.size+1,1,none⟩=some (.slice s0 n0 c0)∧wr.cell? ⟨w.heap.size+1,2,none⟩=some (.int .i64 0)∧wr.cell? ⟨w.heap.size+1,3,none⟩=some (.slice s1 n1 c1)∧wr.cell? ⟨w.heap.size+1,4,none⟩=some (.int .i64 0)∧wr.cell? ⟨w.heap.size+1,5,none⟩=some (.slice s2 n2 c2)∧wr.cell? ⟨w.heap.size+1,6,none⟩=some (.int .i64 0)∧wr.cell? ⟨w.heap.size+1,7,none⟩=some (.int .i64 0)∧∀o,wr.frozen? ⟨w.heap.size+1,o,none⟩=false:=by
 simp [World.cell?,World.frozen?,h.box]
theorem NwAt.rcells {w:World} {s0 s1 s2:Option Addr} {n0 c0 n1 c1 n2 c2:Nat} {wr:World} (h:NwAt w s0 n0 c0 s1 n1 c1 s2 n2 c2 wr):wr.cell? ⟨w.heap.size,0,none⟩=some (.slice none 0 0)∧wr.cell? ⟨w.heap.size,1,none⟩=some (.slice none 0 0)∧wr.cell? ⟨w.heap.size,2,none⟩=some (.int .i64 0)∧wr.cell? ⟨w.heap.size,3,none⟩=some (.slice none 0 0)∧wr.cell? ⟨w.heap.size,4,none⟩=some (.int .i64 0)∧wr.cell? ⟨w.heap.size,5,none⟩=some (.slice none 0 0)∧wr.cell? ⟨w.heap.size,6,none⟩=some (.int .i64 0)∧wr.cell? ⟨w.heap.size,7,none⟩=some (.int .i64 0)∧∀o,wr.frozen? ⟨w.heap.size,o,none⟩=false:=by
 simp [World.cell?,World.frozen?,h.res]
def newB:Ba:=⟨[],newT,newT,newT,0⟩
theorem NewIn.tree {M:Nat} {wr:World} {s:Option Addr} {n c:Nat} (h:NewIn M wr s n c):NodesAt wr (.slice s n c) newT.nodes:=by
 obtain⟨g,rfl,rfl,rfl,_,_,h6⟩:=h
 exact newNodes h6
set_option maxRecDepth 100000 in
set_option maxHeartbeats 2000000 in
theorem baseNew_keep (w:World):Calls Tryd.prog 52 #[] w fun e w'=>(∃v',e = .returned v'∧∀w'',Keep (w.heap.size+2) w' w''→BaseAt w'' v' newB)∧Below w.heap.size w w':=by
 have HN:=Lib.hid fun w'=>treeNew_made w'
 obtain⟨W0,hW0⟩:∃W0,W0=(w.alloc (.cells #[.slice none 0 0, .slice none 0 0, .int .i64 0, .slice none 0 0, .int .i64 0, .slice none 0 0, .int .i64 0, .int .i64 0] 35)).alloc (.cells #[.slice none 0 0, .slice none 0 0, .int .i64 0, .slice none 0 0, .int .i64 0, .slice none 0 0, .int .i64 0, .int .i64 0] 35):=⟨_,rfl⟩
 have HST:=Lib.hid (show NwAt w none 0 0 none 0 0 none 0 0 W0 by
  refine⟨by rw [hW0];exact(by repeat (first|with_reducible exact Below.refl _ _|with_reducible assumption|with_reducible refine below_dn ?_ _|with_reducible refine Below.drew ?_|with_reducible refine Below.alloc ?_ (by first|omega|(simp;done)|(simp;omega)) _|with_reducible refine Below.setCell ?_ (by first|omega|(simp;done)|(simp;omega)) _)),by rw [hW0];simp,?_,?_⟩
  ·rw [hW0,Below.heap_alloc _ _ _ (by simp)];exact heap_new _ _ rfl
  ·rw [hW0];exact heap_new _ _ (by simp))
 go_enter Tryd.func52,Tryd.ntmps52
 go_upto_region 2 with (fail)
 rw [←hW0]
 clear hW0
 go_wp2_with fail
 go_loopg [4] 3 (fun g i wr=>∃(k:Nat) (s0:Option Addr) (n0 c0:Nat) (s1:Option Addr) (n1 c1:Nat) (s2:Option Addr) (n2 c2:Nat),k≤3∧g=3-k∧i = .int .i64 k∧Hid (NwAt w s0 n0 c0 s1 n1 c1 s2 n2 c2 wr∧(0<k→NewIn (w.heap.size+2) wr s0 n0 c0)∧(1<k→NewIn (w.heap.size+2) wr s1 n1 c1)∧(2<k→NewIn (w.heap.size+2) wr s2 n2 c2)))
 case atStart=>exact⟨0,_,_,_,_,_,_,_,_,_,by omega,rfl,rfl,Lib.hid ⟨HST.out,fun h=>by omega,fun h=>by omega,fun h=>by omega⟩⟩
 case round=>
  clear HST
  obtain⟨k,s0,n0,c0,s1,n1,c1,s2,n2,c2,hk,rfl,rfl,HB⟩:=hrel
  obtain⟨b0,b1,b2,b3,b4,b5,b6,b7,bf⟩:=HB.out.1.cells
  have hsz:=HB.out.1.size
  have HMK:=Lib.hid (show ∀(w5:World) (gg:Nat),Below wr.heap.size wr w5→wr.heap.size≤gg→gg<w5.heap.size→w5.heap[gg]?=some (.cells #[.bool true, .slice none 0 0, .slice none 0 0, .slice none 0 0, .slice none 0 0] 133)→∀w6:World,w5.heap.size≤w6.heap.size→(∀b,w.heap.size+2≤b→w6.heap[b]?=w5.heap[b]?)→NewIn (w.heap.size+2) w6 (some ⟨gg,0,none⟩) 1 1
   from fun w5 gg _ h1 h2 h3 w6 hz hk=>⟨gg,rfl,rfl,rfl,by omega,by omega,(hk gg (by omega)).trans h3⟩)
  have HOLD:=Lib.hid (show ∀w5:World,Below wr.heap.size wr w5→∀w6:World,w5.heap.size≤w6.heap.size→(∀b,w.heap.size+2≤b→w6.heap[b]?=w5.heap[b]?)→∀s n c,NewIn (w.heap.size+2) wr s n c→NewIn (w.heap.size+2) w6 s n c
   from fun w5 hb5 w6 hz hk s n c h=>h.block (w':=w6) (by have:=hb5.size;omega) (fun b h1 h2=>(hk b h1).trans (hb5.block b h2)))
  by_cases hlt:k<3
  ·obtain rfl|rfl|rfl:k=0∨k=1∨k=2:=by omega
   ·go_wp2_with ((go_at_call 49;(with_reducible refine(HN.out _).mono ?_);rintro e w5 ⟨gg,rfl,hg1,hg2,hg3,hb5⟩;obtain⟨k1',k2',k3'⟩:=keep1 hb5 (B:=w.heap.size+1) (by omega)))
    go_roundg 2
    case measure=>omega
    case rel=>
     obtain⟨q1,q2,q3,q4,q5⟩:=HB.out.1.step hb5 (o:=1) (u:= .slice (some ⟨gg,0,none⟩) 1 1) (v:= .int .i64 0) rfl
     have hz6:w5.heap.size≤((w5.setCell ⟨w.heap.size+1,1,none⟩ (.slice (some ⟨gg,0,none⟩) 1 1)).setCell ⟨w.heap.size+1,1+1,none⟩ (.int .i64 0)).heap.size:=by simp
     exact⟨1,_,_,_,_,_,_,_,_,_,by omega,rfl,by go_num,Lib.hid ⟨⟨q1,q2,q3,by simpa using q4⟩,fun _=>HMK.out w5 gg hb5 hg1 hg2 hg3 _ hz6 q5,fun h=>by omega,fun h=>by omega⟩⟩
   ·go_wp2_with ((go_at_call 49;(with_reducible refine(HN.out _).mono ?_);rintro e w5 ⟨gg,rfl,hg1,hg2,hg3,hb5⟩;obtain⟨k1',k2',k3'⟩:=keep1 hb5 (B:=w.heap.size+1) (by omega)))
    go_roundg 1
    case measure=>omega
    case rel=>
     obtain⟨q1,q2,q3,q4,q5⟩:=HB.out.1.step hb5 (o:=3) (u:= .slice (some ⟨gg,0,none⟩) 1 1) (v:= .int .i64 0) rfl
     have hz6:w5.heap.size≤((w5.setCell ⟨w.heap.size+1,3,none⟩ (.slice (some ⟨gg,0,none⟩) 1 1)).setCell ⟨w.heap.size+1,3+1,none⟩ (.int .i64 0)).heap.size:=by simp
     exact⟨2,_,_,_,_,_,_,_,_,_,by omega,rfl,by go_num,Lib.hid ⟨⟨q1,q2,q3,by simpa using q4⟩,fun _=>HOLD.out w5 hb5 _ hz6 q5 _ _ _ (HB.out.2.1 (by omega)),fun _=>HMK.out w5 gg hb5 hg1 hg2 hg3 _ hz6 q5,fun h=>by omega⟩⟩
   ·go_wp2_with ((go_at_call 49;(with_reducible refine(HN.out _).mono ?_);rintro e w5 ⟨gg,rfl,hg1,hg2,hg3,hb5⟩;obtain⟨k1',k2',k3'⟩:=keep1 hb5 (B:=w.heap.size+1) (by omega)))
    go_roundg 0
    case measure=>omega
    case rel=>
     obtain⟨q1,q2,q3,q4,q5⟩:=HB.out.1.step hb5 (o:=5) (u:= .slice (some ⟨gg,0,none⟩) 1 1) (v:= .int .i64 0) rfl
     have hz6:w5.heap.size≤((w5.setCell ⟨w.heap.size+1,5,none⟩ (.slice (some ⟨gg,0,none⟩) 1 1)).setCell ⟨w.heap.size+1,5+1,none⟩ (.int .i64 0)).heap.size:=by simp
     exact⟨3,_,_,_,_,_,_,_,_,_,by omega,rfl,by go_num,Lib.hid ⟨⟨q1,q2,q3,by simpa using q4⟩,fun _=>HOLD.out w5 hb5 _ hz6 q5 _ _ _ (HB.out.2.1 (by omega)),fun _=>HOLD.out w5 hb5 _ hz6 q5 _ _ _ (HB.out.2.2.1 (by omega)),fun _=>HMK.out w5 gg hb5 hg1 hg2 hg3 _ hz6 q5⟩⟩
  ·obtain rfl:k=3:=by omega
   obtain⟨z0,z1,z2,z3,z4,z5,z6,z7,zf⟩:=HB.out.1.rcells
   have hbw:=HB.out.1.below
   have HK1:=Lib.hid (show ∀w'',wr.heap.size≤w''.heap.size→(∀b,w.heap.size+2≤b→b<wr.heap.size→w''.heap[b]?=wr.heap[b]?)→BaseAt w'' (.agg #[.slice none 0 0, .slice s0 n0 c0, .int .i64 0, .slice s1 n1 c1, .int .i64 0, .slice s2 n2 c2, .int .i64 0, .int .i64 0]) newB from fun w'' hz hk=>
    ⟨_,_,_,_,rfl,SlAt.nil _ _ _ _,((HB.out.2.1 (by omega)).block hz hk).tree,((HB.out.2.2.1 (by omega)).block hz hk).tree,((HB.out.2.2.2 (by omega)).block hz hk).tree⟩)
   go_wp2
   refine bodyPost_ret (v:= .agg #[.slice none 0 0, .slice s0 n0 c0, .int .i64 0, .slice s1 n1 c1, .int .i64 0, .slice s2 n2 c2, .int .i64 0, .int .i64 0]) (by simp [results,Tryd.results52,go_sem, *]) rfl ⟨⟨_,rfl,?_⟩,?_⟩
   ·intro w'' hK
    refine HK1.out _ (Nat.le_trans (by simp) hK.size) fun b hb hb2=>(hK.block b hb (by simpa using hb2)).trans ?_
    repeat rw [Below.heap_setCell _ _ _ _ (by show b≠w.heap.size;omega)]
   ·exact(by repeat (first|with_reducible exact Below.refl _ _|with_reducible assumption|with_reducible refine below_dn ?_ _|with_reducible refine Below.drew ?_|with_reducible refine Below.alloc ?_ (by first|omega|(simp;done)|(simp;omega)) _|with_reducible refine Below.setCell ?_ (by first|omega|(simp;done)|(simp;omega)) _))
theorem baseNew_made (w:World):Calls Tryd.prog 52 #[] w fun e w'=>(∃v',e = .returned v'∧BaseAt w' v' newB)∧Below w.heap.size w w':=
 (baseNew_keep w).mono fun _ w' ⟨⟨v',h1,h2⟩,h3⟩=>⟨⟨v',h1,h2 w' (Keep.refl _ _)⟩,h3⟩
theorem newB_all:allT newT=some []:=by unfold allT;rw [if_pos newT_fault];exact newT_all _ _
theorem newB_book:bookR newB=some []:=book_ok (b:=newB) newB_all rfl
theorem newB_is:baseIs newB [] 0 []=true:=by
 have h:baseMay newB=true:=baseMay_yes ⟨by decide,by decide,by decide,by decide,fun i h=>by simp [newB]at h,[],newB_book,fun k _=>by
  rw [treeOk_some (a:=[]) (c:=[]) rfl (by unfold Ba.tree;split;exact newB_all;split <;> exact newB_all)];rfl⟩
 exact(baseIs_eq (b:=newB) h rfl rfl newB_book).trans rfl
end Go.Proofs.YtnjfkcimboidnaaDoor
