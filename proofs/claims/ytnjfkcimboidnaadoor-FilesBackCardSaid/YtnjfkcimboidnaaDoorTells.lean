/- The walk of winnowerkeep's TreeTells. -/
import Derived.Test.YtnjfkcimboidnaaDoorAY
import Derived.Test.YtnjfkcimboidnaaDoorGT
import Derived.Test.YtnjfkcimboidnaaDoorOG
import Derived.Test.YtnjfkcimboidnaaDoorPU
namespace Go.Proofs.YtnjfkcimboidnaaDoor
open Go.RowKit
theorem made_got {l:List Ent} {t:Tr} (h:Made l t) {key:Int} (h0:0≤key) (h1:key<1099511627776):gotS t key=(look l key,0):=by
 rw [got_at h.1 h0 h1]
 unfold getA
 have h2:look t.all key=look l key:=h.2.1.2.2 key
 rw [h2,if_pos (small_rising h.2.2.1 h.2.2.2.1 key)]
theorem first_put {key:Int} {r:Roll} {B:Nat} {w':World} {so:Option Addr} {n c:Nat} {rt E2:Int} (h0:0≤key) (h1:key<1099511627776) (hc:r.c≠0) (hr:rollCheck r=0) (h:PutForm B newT key r w' so n c rt E2) :
  E2=0∧∃t,(∀w'',Keep B w' w''→TreeAt w'' (.agg #[.slice so n c, .int .i64 rt]) t)∧Made [⟨key,r⟩] t:=by
 have hm:Made (([⟨key,r⟩]:List Ent).take 0) newT:=made_new
 have ho:¬∃p,lastK ([⟨key,r⟩]:List Ent) 0=some p∧(([⟨key,r⟩]:List Ent)[0]).key≤p:=fun⟨p,h,_⟩=>by cases h
 have hn:¬((([⟨key,r⟩]:List Ent)[0]).key<0∨1099511627776≤(([⟨key,r⟩]:List Ent)[0]).key∨(([⟨key,r⟩]:List Ent)[0]).is.c=0):=by
  show ¬(key<0∨1099511627776≤key∨r.c=0);omega
 obtain⟨-,m2,m3,m4,m5⟩:=hm.put (k:=0) (by simp) ho hn hr
 have hp:putE newT key r=0:=by
  unfold putE
  have hz:look newT.all key=Roll.zero:=rfl
  have:=(good_check hr hc).2
  have hle:(Roll.zero:Roll).c+r.c≤1073741824:=by show (0:Int)+_≤_;omega
  rw [if_neg (by simp [newT_fault]),if_neg (by omega),if_neg (by simp [hr]),hz,if_pos hle]
 rcases h with ⟨g1,-⟩|⟨-,t2,h2,l2,g1,g2,g3,⟨g4,g5,rfl,g7⟩|⟨g4,g5⟩⟩
 ·exact absurd hp g1
 ·obtain⟨q1,q2,q3⟩:=m5 t2 g2 g3
  exact⟨g4,t2,g7,g5,q1,m3,m4,q3,q2⟩
 ·have:=g1.grown g5
  have hw:wtT newT=3:=rfl
  omega
theorem put_small {key:Int} {r:Roll} (hc:r.c≠0) (hr:rollCheck r=0):Small (⟨key,r⟩::newT.all):=
 small_rising (l:=[⟨key,r⟩]) (List.pairwise_singleton _ _) fun e he=>by rw [List.mem_singleton]at he;subst he;exact⟨hc,hr⟩
theorem tell_add {s:ByteArray} {time value:Int} (hn:nameMay s=true) (h0:0≤time) (h1:time≤1048575) (h2 : -1000000≤value) (h3:value≤1000000) :
  addF newB s time value=0∧addE newB s time value=0∧addNames newB s=[s]:=by
 have hm:baseMay newB=true:=by
  have h:=newB_is
  unfold baseIs at h
  simp only [Bool.and_eq_true]at h
  exact h.1.1.1
 have hp:placeI newB.names s = -1:=rfl
 have hr:rollOf time value=(⟨1,value,value,value,time,value⟩,0):=if_pos ⟨h0,h1,h2,h3⟩
 have hF:addF newB s time value=0:=by
  unfold addF
  rw [if_neg (by simp [hm]),if_neg (by simp [hn]),if_neg (by simp [hr]),if_neg (by show ¬time<0;omega),if_neg (by show ¬(_∧16≤(0:Nat));omega)]
 refine⟨hF,(addE_good hF newB_book fun k hk=>?_).1,by unfold addNames;rw [hp];rfl⟩
 have ht:newB.tree k=newT:=by rcases (by omega:k=0∨k=1∨k=2)with rfl|rfl|rfl <;> rfl
 rw [ht]
 exact put_small (key:=(addK newB s time value k).key) (r:=(addK newB s time value k).is) (by show (1:Int)≠0;decide) (point_check h0 h1 h2 h3)
theorem tell_added {v:Value} {s:ByteArray} {time value:Int} {w:World} (h:BaseAt w v newB) (hsz:SizesAt w) (hn:nameMay s=true) (hs:s.size≤10) (h0:0≤time) (h1:time≤1048575) (h2 : -1000000≤value) (h3:value≤1000000) :
  Calls Tryd.prog 51 #[v, .agg #[.string s, .int .i64 time, .int .i64 value]] w fun x w'=>Below w.heap.size w w' ∧
   ∃sa sc g0 l0 p0 r0 g1 l1 p1 r1 g2 l2 p2 r2 fl,x = .returned (.tuple #[.agg #[.slice sa 1 sc, .slice g0 l0 p0, .int .i64 r0, .slice g1 l1 p1, .int .i64 r1, .slice g2 l2 p2, .int .i64 r2, .int .i64 fl], .int .i64 0]):=by
 obtain⟨a1,a2,a3⟩:=tell_add (time:=time) (value:=value) hn h0 h1 h2 h3
 refine(baseAdd_any h (fun x hx=>by cases hx) (by omega) hsz).mono ?_
 rintro x w' ⟨hb,⟨g1,-⟩|⟨-,⟨E,-,-,g2|⟨-,k,hk,g3⟩⟩|⟨-,b',sa,sc,g0,l0,p0,g1,l1,p1,g2,l2,p2,rfl,-,q1,-⟩⟩⟩
 ·exact absurd a1 g1
 ·omega
 ·have ht:wtT (newB.tree k)=3:=by rcases (by omega:k=0∨k=1∨k=2)with rfl|rfl|rfl <;> rfl
  omega
 ·have hl:b'.names.length=1:=by rw [q1,a3];rfl
  rw [hl]
  exact⟨hb,_,_,_,_,_,_,_,_,_,_,_,_,_,_,_,rfl⟩
theorem box_tree {w:World} {tb:Nat} {a b v u:Value} {T:TypeId} {fr:Nat×Nat} (h:w.heap[tb]?=some (.cells #[a,b] T fr)):((w.setCell ⟨tb,0,none⟩ v).setCell ⟨tb,1,none⟩ u).heap[tb]?=some (.cells #[v,u] T fr):=by
 have:=heap_setCell_same (off:=1) (v:=u) (heap_setCell_same (off:=0) (v:=v) h)
 simpa using this
set_option maxRecDepth 100000 in
set_option maxHeartbeats 4000000 in
theorem tells_any {w:World} (hsz:SizesAt w):Calls Tryd.prog 24 #[] w fun e w'=>e = .returned (.bool true)∧Below w.heap.size w w':=by
 obtain⟨R,hR⟩:∃R:Roll,R=⟨1,7,7,7,5,7⟩:=⟨_,rfl⟩
 have HOF:=Lib.hid (of_any 5 7 w)
 rw [show rollOf 5 7=((⟨1,7,7,7,5,7⟩:Roll),0)from if_pos (by decide)]at HOF
 have HNEW:=Lib.hid fun W=>treeNew_made W
 have HSZ:=Lib.hid hsz
 have HPUT:=Lib.hid fun(W:World) (v:Value) (h:TreeAt W v newT)=>treePut_form (key:=5) (r:=⟨1,7,7,7,5,7⟩) h fun _=>put_small (by decide) (point_check (time:=5) (value:=7) (by decide) (by decide) (by decide) (by decide))
 have HFP:=Lib.hid fun B w' so n c rt E2 (h:PutForm B newT 5 ⟨1,7,7,7,5,7⟩ w' so n c rt E2)=>first_put (by decide) (by decide) (by decide) (point_check (time:=5) (value:=7) (by decide) (by decide) (by decide) (by decide)) h
 clear hsz
 go_enter Tryd.func24,Tryd.ntmps24
 go_upto_region 2 with (go_at_call 18;(with_reducible refine HOF.out.mono ?_);rintro e w1 ⟨rfl,hb1⟩)
 obtain⟨W1,hW1⟩:∃W1,W1=w1.alloc (.cells #[.int .i64 1, .int .i64 7, .int .i64 7, .int .i64 7, .int .i64 5, .int .i64 7] 42):=⟨_,rfl⟩
 have hb2:Below w1.heap.size w1 W1:=by rw [hW1];exact belowAuto
 have k1:W1.heap[w1.heap.size]?=some (.cells #[.int .i64 1, .int .i64 7, .int .i64 7, .int .i64 7, .int .i64 5, .int .i64 7] 42):=by rw [hW1];exact heap_new _ _ rfl
 have hz1:W1.heap.size=w1.heap.size+1:=by rw [hW1];simp
 have HBW1:=Lib.hid (Below.trans' hb1 hb2 hb1.size)
 have HS1:=Lib.hid fun(W:World) (hb:Below W1.heap.size W1 W)=>(by
  have b0:W.heap[w1.heap.size]?=_:=(hb.block _ (by omega)).trans k1
  simp [World.cell?,b0]:W.cell? ⟨w1.heap.size,0,none⟩=some (.int .i64 1)∧W.cell? ⟨w1.heap.size,1,none⟩=some (.int .i64 7)∧W.cell? ⟨w1.heap.size,2,none⟩=some (.int .i64 7)∧W.cell? ⟨w1.heap.size,3,none⟩=some (.int .i64 7)∧W.cell? ⟨w1.heap.size,4,none⟩=some (.int .i64 5)∧W.cell? ⟨w1.heap.size,5,none⟩=some (.int .i64 7))
 rw [←hW1]
 clear hW1 k1 hb1 hb2
 obtain⟨x0,x1,x2,x3,x4,x5⟩:=HS1.out _ (Below.refl _ _)
 go_cut [3,4] (fun p e wx=>∃(tb:Nat) (so:Option Addr) (n c:Nat) (rt:Int),p = .pointer (some ⟨tb,0,none⟩)∧e = .int .i64 0∧Hid (Below W1.heap.size W1 wx∧W1.heap.size≤tb∧tb<wx.heap.size∧wx.heap[tb]?=some (.cells #[.slice so n c, .int .i64 rt] 32)∧∃t,TreeAt wx (.agg #[.slice so n c, .int .i64 rt]) t∧Made [⟨5,⟨1,7,7,7,5,7⟩⟩] t))
 case first=>
  refine wp_region_fork (Sch.of [(1,0)] (.fork 0 6 (.fork 2 6 (Sch.of [(3,1),(4,1),(5,1),(6,2),(7,3),(8,1)] .nil) (Sch.of [(2,2),(3,1),(4,1),(5,1),(7,3),(8,1)] .nil)) (Sch.of [(0,2),(2,2),(3,1),(4,1),(5,1),(7,3),(8,1)] .nil))) 7
   (fun W=>W.cell? ⟨w1.heap.size,0,none⟩=some (.int .i64 1)∧W.cell? ⟨w1.heap.size,1,none⟩=some (.int .i64 7)∧W.cell? ⟨w1.heap.size,2,none⟩=some (.int .i64 7)∧W.cell? ⟨w1.heap.size,3,none⟩=some (.int .i64 7)∧W.cell? ⟨w1.heap.size,4,none⟩=some (.int .i64 5)∧W.cell? ⟨w1.heap.size,5,none⟩=some (.int .i64 7)) (by kernel_rfl) (by kernel_rfl) ⟨x0,x1,x2,x3,x4,x5⟩ ?_
  simp only [Sch.of]
  (repeat (first|((refine fork_pure (v:=?_) rfl rfl (fun W=>?_) ?_);rotate_left;focus (go_simp;(try with_reducible rfl);done))|((refine fork_read (v:=?_) rfl rfl (fun W hW=>?_) ?_);rotate_left;focus ((try dsimp only at hW);go_simp;(try with_reducible rfl);done))))
  refine fork_both rfl rfl rfl rfl (fun K hK=>?_) (fun K hK=>?_)
  ·go_simp
   (with_reducible refine(HNEW.out W1.drew).mono ?_)
   rintro e w2 ⟨g,rfl,hg1,hg2,hg,hb2⟩
   go_simp
   have hb2:Below W1.heap.size W1 w2:=Below.trans' (Below.drew (Below.refl _ _)) hb2 (Nat.le_refl _)
   have HT2:=Lib.hid (show TreeAt w2 (.agg #[.slice (some ⟨g,0,none⟩) 1 1, .int .i64 0]) newT from ⟨_,rfl,newNodes hg⟩)
   have hs2:=hb2.size
   refine hK _ _ (HS1.out _ hb2) ?_
   clear hK K hg hg1 hg2
   refine fork_both rfl rfl rfl rfl (fun K hK=>?_) (fun K hK=>?_)
   ·go_simp
    (with_reducible refine(HPUT.out _ _ HT2.out).mono ?_)
    rintro e w3 ⟨hb3,so,n,c,rt,E2,rfl,hpf⟩
    obtain⟨rfl,t,ht,hmd⟩:=HFP.out _ _ _ _ _ _ _ hpf
    have HTT:=Lib.hid (And.intro ht hmd)
    clear hpf ht hmd
    go_simp
    have hb3':Below W1.heap.size W1 w3:=Below.trans' hb2 hb3 hs2
    have hs3:=hb3.size
    refine hK _ _ (HS1.out _ hb3') ?_
    clear hK K
    (repeat (first|((refine fork_pure (v:=?_) rfl rfl (fun W=>?_) ?_);rotate_left;focus (go_simp;(try with_reducible rfl);done))|((refine fork_read (v:=?_) rfl rfl (fun W hW=>?_) ?_);rotate_left;focus ((try dsimp only at hW);go_simp;(try with_reducible rfl);done))))
    refine fork_does rfl rfl (fun K hK=>?_)
    go_simp
    obtain⟨W4,hW4⟩:∃W4,W4=w3.alloc (.cells #[.slice none 0 0, .int .i64 0] 32):=⟨_,rfl⟩
    have hb4:Below w3.heap.size w3 W4:=by rw [hW4];exact belowAuto
    have k4:W4.heap[w3.heap.size]?=some (.cells #[.slice none 0 0, .int .i64 0] 32):=by rw [hW4];exact heap_new _ _ rfl
    rw [←hW4]
    have hb4':Below W1.heap.size W1 W4:=Below.trans' hb3' hb4 (by omega)
    refine hK _ _ (HS1.out _ hb4') ?_
    clear hK K hW4
    obtain⟨c0,c1,cf⟩:W4.cell? ⟨w3.heap.size,0,none⟩=some (.slice none 0 0)∧W4.cell? ⟨w3.heap.size,1,none⟩=some (.int .i64 0)∧∀o,W4.frozen? ⟨w3.heap.size,o,none⟩=false:=by simp [World.cell?,World.frozen?,k4]
    have HK4:=Lib.hid k4
    have HB4:=Lib.hid hb4
    have hs4:=hb4.size
    clear k4 hb4
    refine fork_last rfl rfl (fun K hK=>?_)
    go_simp
    refine hK _ _ ?_
    clear hK K
    (repeat (first|((refine fork_pure (v:=?_) rfl rfl (fun W=>?_) ?_);rotate_left;focus (go_simp;(try with_reducible rfl);done))|((refine fork_read (v:=?_) rfl rfl (fun W hW=>?_) ?_);rotate_left;focus ((try dsimp only at hW);go_simp;(try with_reducible rfl);done))))
    refine fork_end ?_
    go_wp2_with fail
    go_meet
    refine⟨w3.heap.size,so,n,c,rt,rfl,rfl,Lib.hid ⟨(hb4'.setCell (by show W1.heap.size≤w3.heap.size;omega) _).setCell (by show W1.heap.size≤w3.heap.size;omega) _,by omega,?_,box_tree HK4.out,t,HTT.out.1 _ (Keep.of ((HB4.out.setCell (Nat.le_refl _) _).setCell (Nat.le_refl _) _) (Nat.le_refl _)),HTT.out.2⟩⟩
    have:=(Array.getElem?_eq_some_iff.1 HK4.out).1
    simp only [heap_setCell_size];exact this
   ·go_simp
    obtain⟨W3,hW3⟩:∃W3,W3=w2.alloc (.cells #[.slice none 0 0, .int .i64 0] 32):=⟨_,rfl⟩
    have hb3:Below w2.heap.size w2 W3:=by rw [hW3];exact belowAuto
    have k3:W3.heap[w2.heap.size]?=some (.cells #[.slice none 0 0, .int .i64 0] 32):=by rw [hW3];exact heap_new _ _ rfl
    have hz3:W3.heap.size=w2.heap.size+1:=by rw [hW3];simp
    rw [←hW3]
    have hb3':Below W1.heap.size W1 W3:=Below.trans' hb2 hb3 (by omega)
    have HT3:=Lib.hid (HT2.out.below hb3 (Nat.le_refl _))
    refine hK _ _ (HS1.out _ hb3') ?_
    clear hK K hW3
    refine fork_does rfl rfl (fun K hK=>?_)
    go_simp
    (with_reducible refine(HPUT.out _ _ HT3.out).mono ?_)
    rintro e w4 ⟨hb4,so,n,c,rt,E2,rfl,hpf⟩
    obtain⟨rfl,t,ht,hmd⟩:=HFP.out _ _ _ _ _ _ _ hpf
    have HTT:=Lib.hid (And.intro ht hmd)
    clear hpf ht hmd
    go_simp
    have hb4':Below W1.heap.size W1 w4:=Below.trans' hb3' hb4 (by omega)
    have hs4:=hb4.size
    refine hK _ _ (HS1.out _ hb4') ?_
    clear hK K
    have k4:=(hb4.block _ (by omega)).trans k3
    have HK4:=Lib.hid k4
    obtain⟨c0,c1,cf⟩:w4.cell? ⟨w2.heap.size,0,none⟩=some (.slice none 0 0)∧w4.cell? ⟨w2.heap.size,1,none⟩=some (.int .i64 0)∧∀o,w4.frozen? ⟨w2.heap.size,o,none⟩=false:=by simp [World.cell?,World.frozen?,k4]
    clear k3 k4 hb3 hb4
    (repeat (first|((refine fork_pure (v:=?_) rfl rfl (fun W=>?_) ?_);rotate_left;focus (go_simp;(try with_reducible rfl);done))|((refine fork_read (v:=?_) rfl rfl (fun W hW=>?_) ?_);rotate_left;focus ((try dsimp only at hW);go_simp;(try with_reducible rfl);done))))
    refine fork_last rfl rfl (fun K hK=>?_)
    go_simp
    refine hK _ _ ?_
    clear hK K
    (repeat (first|((refine fork_pure (v:=?_) rfl rfl (fun W=>?_) ?_);rotate_left;focus (go_simp;(try with_reducible rfl);done))|((refine fork_read (v:=?_) rfl rfl (fun W hW=>?_) ?_);rotate_left;focus ((try dsimp only at hW);go_simp;(try with_reducible rfl);done))))
    refine fork_end ?_
    go_wp2_with fail
    go_meet
    refine⟨w2.heap.size,so,n,c,rt,rfl,rfl,Lib.hid ⟨(hb4'.setCell (by show W1.heap.size≤w2.heap.size;omega) _).setCell (by show W1.heap.size≤w2.heap.size;omega) _,by omega,?_,box_tree HK4.out,t,HTT.out.1 _ (((Keep.refl _ _).set (by show w2.heap.size<_;omega) _).set (by show w2.heap.size<_;omega) _),HTT.out.2⟩⟩
    simp only [heap_setCell_size];omega
  ·go_simp
   obtain⟨W2,hW2⟩:∃W2,W2=(W1.alloc (.cells #[.slice none 0 0, .int .i64 0] 32)).drew:=⟨_,rfl⟩
   have hb2:Below W1.heap.size W1 W2:=by rw [hW2];exact belowAuto
   have k2:W2.heap[W1.heap.size]?=some (.cells #[.slice none 0 0, .int .i64 0] 32):=by rw [hW2];exact heap_new _ _ rfl
   have hz2:W2.heap.size=W1.heap.size+1:=by rw [hW2];simp
   rw [←hW2]
   refine hK _ _ (HS1.out _ hb2) ?_
   clear hK K hW2
   refine fork_does rfl rfl (fun K hK=>?_)
   go_simp
   (with_reducible refine(HNEW.out W2).mono ?_)
   rintro e w3 ⟨g,rfl,hg1,hg2,hg,hb3⟩
   go_simp
   have hb3':Below W1.heap.size W1 w3:=Below.trans' hb2 hb3 (by omega)
   have HT3:=Lib.hid (show TreeAt w3 (.agg #[.slice (some ⟨g,0,none⟩) 1 1, .int .i64 0]) newT from ⟨_,rfl,newNodes hg⟩)
   have hs3:=hb3.size
   have k3:=(hb3.block _ (by omega)).trans k2
   refine hK _ _ (HS1.out _ hb3') ?_
   clear hK K hg hg1 hg2 hb2 hb3 k2
   refine fork_does rfl rfl (fun K hK=>?_)
   go_simp
   (with_reducible refine(HPUT.out _ _ HT3.out).mono ?_)
   rintro e w4 ⟨hb4,so,n,c,rt,E2,rfl,hpf⟩
   obtain⟨rfl,t,ht,hmd⟩:=HFP.out _ _ _ _ _ _ _ hpf
   have HTT:=Lib.hid (And.intro ht hmd)
   clear hpf ht hmd
   go_simp
   have hb4':Below W1.heap.size W1 w4:=Below.trans' hb3' hb4 (by omega)
   have hs4:=hb4.size
   refine hK _ _ (HS1.out _ hb4') ?_
   clear hK K
   have k4:=(hb4.block _ (by omega)).trans k3
   rw [hz1]at k4
   have HK4:=Lib.hid k4
   obtain⟨c0,c1,cf⟩:w4.cell? ⟨w1.heap.size+1,0,none⟩=some (.slice none 0 0)∧w4.cell? ⟨w1.heap.size+1,1,none⟩=some (.int .i64 0)∧∀o,w4.frozen? ⟨w1.heap.size+1,o,none⟩=false:=by simp [World.cell?,World.frozen?,k4]
   clear k3 k4 hb4
   (repeat (first|((refine fork_pure (v:=?_) rfl rfl (fun W=>?_) ?_);rotate_left;focus (go_simp;(try with_reducible rfl);done))|((refine fork_read (v:=?_) rfl rfl (fun W hW=>?_) ?_);rotate_left;focus ((try dsimp only at hW);go_simp;(try with_reducible rfl);done))))
   refine fork_last rfl rfl (fun K hK=>?_)
   go_simp
   refine hK _ _ ?_
   clear hK K
   (repeat (first|((refine fork_pure (v:=?_) rfl rfl (fun W=>?_) ?_);rotate_left;focus (go_simp;(try with_reducible rfl);done))|((refine fork_read (v:=?_) rfl rfl (fun W hW=>?_) ?_);rotate_left;focus ((try dsimp only at hW);go_simp;(try with_reducible rfl);done))))
   refine fork_end ?_
   go_wp2_with fail
   go_meet
   refine⟨w1.heap.size+1,so,n,c,rt,rfl,rfl,Lib.hid ⟨(hb4'.setCell (by show W1.heap.size≤w1.heap.size+1;omega) _).setCell (by show W1.heap.size≤w1.heap.size+1;omega) _,by omega,?_,box_tree HK4.out,t,HTT.out.1 _ (((Keep.refl _ _).set (by show w1.heap.size+1<_;omega) _).set (by show w1.heap.size+1<_;omega) _),HTT.out.2⟩⟩
   simp only [heap_setCell_size];omega
 case rest=>
  obtain⟨tb,so,n,c,rt,rfl,rfl,HC⟩:=hcut
  obtain⟨hbc,hlo,htb,hbox,t,ht,hmd⟩:=HC.out
  have HGT:=Lib.hid (get_any (key:=5) ht)
  rw [made_got hmd (by decide) (by decide),show look ([⟨5,⟨1,7,7,7,5,7⟩⟩]:List Ent) 5=⟨1,7,7,7,5,7⟩from by decide]at HGT
  obtain⟨d0,d1⟩:wc.cell? ⟨tb,0,none⟩=some (.slice so n c)∧wc.cell? ⟨tb,1,none⟩=some (.int .i64 rt):=by simp [World.cell?,hbox]
  have HBC:=Lib.hid (Below.trans' HBW1.out hbc HBW1.out.size)
  clear hbc hbox ht hmd x0 x1 x2 x3 x4 x5
  go_upto_region 4 with (go_at_call 50;(with_reducible refine HGT.out.mono ?_);rintro e w5 ⟨rfl,hb5⟩)
  obtain⟨W5,hW5⟩:∃W5,W5=w5.alloc (.cells #[.int .i64 1, .int .i64 7, .int .i64 7, .int .i64 7, .int .i64 5, .int .i64 7] 42):=⟨_,rfl⟩
  have hb6:Below w5.heap.size w5 W5:=by rw [hW5];exact belowAuto
  have k5:W5.heap[w5.heap.size]?=some (.cells #[.int .i64 1, .int .i64 7, .int .i64 7, .int .i64 7, .int .i64 5, .int .i64 7] 42):=by rw [hW5];exact heap_new _ _ rfl
  have hz5:W5.heap.size=w5.heap.size+1:=by rw [hW5];simp
  have HB5:=Lib.hid (Below.trans' HBC.out (Below.trans' hb5 hb6 hb5.size) HBC.out.size)
  have HS5:=Lib.hid fun(W:World) (hb:Below W5.heap.size W5 W)=>(by
   have b0:W.heap[w5.heap.size]?=_:=(hb.block _ (by omega)).trans k5
   simp [World.cell?,b0]:W.cell? ⟨w5.heap.size,0,none⟩=some (.int .i64 1)∧W.cell? ⟨w5.heap.size,5,none⟩=some (.int .i64 7))
  rw [←hW5]
  clear hW5 k5 hb5 hb6 d0 d1
  have HBN:=Lib.hid (baseNew_made W5)
  go_upto_region 5 with (first
   |(go_at_call 52;(with_reducible refine HBN.out.mono ?_);rintro e w6 ⟨⟨v6,rfl,hb6⟩,hbb6⟩;have HB6:=Lib.hid (Below.trans' HB5.out hbb6 HB5.out.size);have HBA:=Lib.hid hb6;have HBB6:=Lib.hid hbb6;clear hb6 hbb6)
   |(go_at_call 51;(with_reducible refine(tell_added HBA.out (HSZ.out.below HB6.out) (by decide) (by decide) (by decide) (by decide) (by decide) (by decide)).mono ?_);rintro e w7 ⟨hbb7,sa,sc,g0,l0,p0,r0,g1,l1,p1,r1,g2,l2,p2,r2,fl,rfl⟩))
  obtain⟨W7,hW7⟩:∃W7,W7=w7.alloc (.cells #[.slice sa 1 sc, .slice g0 l0 p0, .int .i64 r0, .slice g1 l1 p1, .int .i64 r1, .slice g2 l2 p2, .int .i64 r2, .int .i64 fl] 35):=⟨_,rfl⟩
  have hb8:Below w7.heap.size w7 W7:=by rw [hW7];exact belowAuto
  have k7:W7.heap[w7.heap.size]?=some (.cells #[.slice sa 1 sc, .slice g0 l0 p0, .int .i64 r0, .slice g1 l1 p1, .int .i64 r1, .slice g2 l2 p2, .int .i64 r2, .int .i64 fl] 35):=by rw [hW7];exact heap_new _ _ rfl
  have HB7:=Lib.hid (Below.trans' HB6.out (Below.trans' hbb7 hb8 hbb7.size) HB6.out.size)
  have hs6:=HBB6.out.size
  have hs7:=hbb7.size
  have hbw:Below W5.heap.size W5 W7:=Below.trans' HBB6.out (Below.trans' hbb7 hb8 hbb7.size) HBB6.out.size
  obtain⟨y0,y5⟩:=HS5.out _ hbw
  have z0:W7.cell? ⟨w7.heap.size,0,none⟩=some (.slice sa 1 sc):=by simp [World.cell?,k7]
  rw [←hW7]
  clear hW7 k7 hb8 hbb7 hbw
  go_wp2
  go_ret
  exact⟨ret_bool (by simp),HB7.out⟩
end Go.Proofs.YtnjfkcimboidnaaDoor
