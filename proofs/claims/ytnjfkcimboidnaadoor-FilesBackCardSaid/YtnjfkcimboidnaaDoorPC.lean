/- Texts of mine that come as one: ProRol ProCheck. -/
import Derived.Test.YtnjfkcimboidnaaDoorPA
import Derived.Test.YtnjfkcimboidnaaDoorMerged
import Derived.StillTailTactics
import Derived.Deep.CutBlock
import Derived.BigQuiet
import Derived.Deep.QuietTactic
import Derived.Test.YtnjfkcimboidnaaDoorPS
import Derived.Test.YtnjfkcimboidnaaDoorBK
/- The walk of base.rolled: entries of times as entries of buckets. -/
namespace Go.Proofs.YtnjfkcimboidnaaDoor
open Go.RowKit
theorem bucket_mono {size:Int} (hs:size=1∨size=60∨size=3600) {a b:Ent} (h:a.key<b.key) (_h0:0≤a.key):(bucket size a).key≤(bucket size b).key:=by
 show a.key-a.key%1048576%size≤b.key-b.key%1048576%size
 have h1:=Int.emod_nonneg (a.key%1048576) (show size≠0 by omega)
 have h2:=mod_le (Int.emod_nonneg b.key (show (1048576:Int)≠0 by decide)) (show 0<size by omega)
 by_cases hq:a.key/1048576<b.key/1048576
 ·omega
 ·rcases hs with rfl|rfl|rfl <;> omega
theorem insC_end {x:Ent}:∀{es:List Ent},(∀e∈es,e.key<x.key)→insC es x=some (es++[x])
 |[],_=>rfl
 |e::es,h=>by
  have h1:=h e (by simp)
  show (if e.key<x.key then _ else _)=_
  rw [if_pos h1,insC_end (es:=es) fun y hy=>h y (by simp [hy])];rfl
theorem posE_last {es:List Ent} (hs:Rising es) {j:Nat} (hj:es.length=j+1) {x:Int} (hx:es[j].key=x):posE es x=j:=
 posE_eq (by omega) (fun t ht htj=>by have:=List.pairwise_iff_getElem.1 hs t j ht (by omega) htj;omega) (fun t ht hjt=>by
  obtain rfl:t=j:=by omega
  omega)
theorem rolled_keys {l es:List Ent} {size:Int} (hs:size=1∨size=60∨size=3600) (hr:Rising l) (hg:PGood l) {k:Nat} (hk:k<l.length) (h:bagC ((l.take k).map (bucket size))=some es):∀e∈es,e.key≤(bucket size l[k]).key:=by
 intro e he
 have hs0:0<size:=by omega
 have hP:PGood ((l.take k).map (bucket size)):=by
  have:=bucket_good hs0 hg;rw [←List.take_append_drop k l,List.map_append]at this;exact this.left
 obtain⟨h1,-⟩:=bagC_some hP.1 h
 rw [h1]at he
 obtain⟨y,hy|hy,hyk⟩:=bag_keys he
 ·obtain⟨z,hz,rfl⟩:=List.mem_map.1 hy
  obtain⟨i,hi,rfl⟩:=List.getElem_of_mem hz
  have hi':i<k:=by rw [List.length_take]at hi;omega
  rw [List.getElem_take]at hyk
  have h2:=List.pairwise_iff_getElem.1 hr i k (by omega) hk hi'
  have h3:=bucket_mono hs h2 (hg.2.1 _ (List.getElem_mem _)).1
  omega
 ·cases hy
theorem rolledP_step {l:List Ent} {size:Int} {k:Nat} {es:List Ent} (hk:k<l.length) (h:bagC ((l.take k).map (bucket size))=some es):bagC ((l.take (k+1)).map (bucket size))=insC es (bucket size l[k]):=by
 rw [List.take_succ_eq_append_getElem hk,List.map_append,List.map_cons,List.map_nil,bagC_snoc,h];rfl
theorem rolledP_stop {l:List Ent} {size:Int} {k:Nat} (h:bagC ((l.take k).map (bucket size))=none):rolledR l size=none:=by
 unfold rolledR
 conv=>lhs;rw [←List.take_append_drop k l,List.map_append]
 exact bagC_none h
def ProPost (B:Nat) (w:World) (r:Option (List Ent)) (e:Ending) (w':World):Prop:=
 Below B w w'∧(match r with|none=>e = .returned (.tuple #[.slice none 0 0, .int .i64 1])|some l=>∃v',e = .returned (.tuple #[v', .int .i64 0])∧OwnEnts B w' v' l)
set_option maxRecDepth 100000 in
set_option maxHeartbeats 1000000 in
theorem proRolled_any {v:Value} {l:List Ent} {size:Int} {w:World} (h:EntsAt w v l) (hg:PGood l) (hrise:Rising l) (hs:size=1∨size=60∨size=3600) :
  Calls Tryd.prog 56 #[v, .int .i64 size] w (ProPost w.heap.size w (rolledR l size)):=by
 obtain⟨ao,cap,rfl⟩:=h.isSlice
 have HE:=Lib.hid h
 have HG:=Lib.hid hg
 have HRI:=Lib.hid hrise
 have HS:=Lib.hid hs
 have hs1:0<size:=by omega
 have hs2:size≤3600:=by omega
 have hlen:l.length≤50000:=hg.2.2
 clear h hg hrise hs
 go_enter Tryd.func56,Tryd.ntmps56
 go_wp2_with fail
 go_loopg [6,15] l.length (fun g out i wr=>∃(k:Nat) (es:List Ent),k≤l.length∧g=l.length-k∧i = .int .i64 k∧OwnEnts w.heap.size wr out es∧Hid (bagC ((l.take k).map (bucket size))=some es)∧Below w.heap.size w wr)
 case atStart=>exact⟨0,[],Nat.zero_le _,rfl,rfl,OwnEnts.nil _ _,Lib.hid rfl,Below.refl _ _⟩
 case round=>
  obtain⟨k,es,hk,rfl,rfl,hown,HR,hb⟩:=hrel
  obtain⟨so,sc,rfl⟩:=hown.isSlice
  have hsz:=hb.size
  by_cases hlt:k<l.length
  ·obtain⟨_,_,hv,-,-,-,-,h5⟩:=HE.out
   injection hv with hv1 _ hv3
   subst hv1 hv3
   obtain⟨eb,eoff,hla,heb,hec⟩:=h5 (by omega)
   subst hla
   obtain⟨y0,y1,y2,y3,y4,y5,y6⟩:=ent_cells hb heb hec hlt
   obtain⟨y,hy⟩:∃y,l[k]=y:=⟨_,rfl⟩
   rw [hy]at y0 y1 y2 y3 y4 y5 y6
   have hyl:y∈l:=by rw [←hy];exact List.getElem_mem hlt
   have HSTEP:=Lib.hid (rolledP_step (size:=size) hlt HR.out)
   have HKEYS:=Lib.hid (rolled_keys HS.out HRI.out HG.out hlt HR.out)
   rw [hy]at HSTEP HKEYS
   have HYC:=Lib.hid (HG.out.1 y hyl).2
   obtain⟨hk0,hk1⟩:=HG.out.2.1 y hyl
   have hbr:=bucket_range hs1 (HG.out.2.1 y hyl)
   obtain⟨M,hM⟩:∃M,y.key%1048576=M:=⟨_,rfl⟩
   obtain⟨Q,hQ⟩:∃Q,y.key/1048576=Q:=⟨_,rfl⟩
   obtain⟨R,hR⟩:∃R,M%size=R:=⟨_,rfl⟩
   obtain⟨D,hD⟩:∃D,M/size=D:=⟨_,rfl⟩
   have hM0:0≤M∧M<1048576:=by omega
   have hQ0:0≤Q∧Q<1048576:=by omega
   have hR0:0≤R∧R<size:=by rw [←hR];exact⟨Int.emod_nonneg _ (by omega),Int.emod_lt_of_pos _ hs1⟩
   have hDS:D*size=M-R:=by rw [←hD,←hR,Int.emod_def,Int.mul_comm];omega
   have hD0:0≤D∧D≤M:=by rw [←hD];exact⟨Int.ediv_nonneg hM0.1 (by omega),Int.ediv_le_self _ hM0.1⟩
   have m1:y.key.tmod 1048576=M:=by rw [Int.tmod_eq_emod_of_nonneg hk0];exact hM
   have m2:y.key.tdiv 1048576=Q:=by rw [Int.tdiv_eq_ediv_of_nonneg hk0];exact hQ
   have m3:M.tdiv size=D:=by rw [Int.tdiv_eq_ediv_of_nonneg hM0.1];exact hD
   have m4:IntKind.i64.wrap M=M:=IntWalk.i64_in _ (by omega)
   have m5:IntKind.i64.wrap Q=Q:=IntWalk.i64_in _ (by omega)
   have m6:IntKind.i64.wrap D=D:=IntWalk.i64_in _ (by omega)
   have m7:IntKind.i64.wrap (Q*1048576)=Q*1048576:=IntWalk.i64_in _ (by omega)
   have hbk:bucket size y=⟨y.key-R,y.is⟩:=by simp [bucket,hM,hR]
   rw [hbk]at HSTEP HKEYS hbr
   obtain⟨P,hP⟩:∃P,y.key-R=P:=⟨_,rfl⟩
   rw [hP]at HSTEP HKEYS hbr
   obtain⟨T,hT⟩:∃T,D*size=T:=⟨_,rfl⟩
   have m8:IntKind.i64.wrap (D*size)=T:=by rw [hT];exact IntWalk.i64_in _ (by omega)
   have m9:IntKind.i64.wrap (Q*1048576+T)=P:=by
    have:Q*1048576+T=P:=by omega
    rw [this];exact IntWalk.i64_in _ (by have:=hbr.1;have:=hbr.2;simp only at *;omega)
   have HBL:=Lib.hid (bucket_good hs1 HG.out)
   obtain⟨g1,g2,g3,g4⟩:=pgood_some (P:=(l.take k).map (bucket size)) (by have:=HBL.out;rw [←List.take_append_drop k l,List.map_append]at this;exact this.left) HR.out
   have HRS:=Lib.hid g1
   have HCK:=Lib.hid g2
   have hix:=fun w'=>idx_ents (ab:=eb) (aoff:=eoff) (n:=l.length) (cap:=cap) (show (k:Int)=((k:Nat):Int) by rfl) hlt w'
   have hwz:eb<wr.heap.size:=by omega
   have hs0:(size == 0)=false:=by simp;omega
   have hes:es.length≤1000000:=by omega
   obtain⟨W1,hW1⟩:∃W1,W1=wr.alloc (.cells #[.int .i64 y.key, .int .i64 y.is.c, .int .i64 y.is.s, .int .i64 y.is.mi, .int .i64 y.is.ma, .int .i64 y.is.t, .int .i64 y.is.l] 96):=⟨_,rfl⟩
   have hb1:Below wr.heap.size wr W1:=by rw [hW1];exact belowAuto
   have hz1:W1.heap.size=wr.heap.size+1:=by rw [hW1];simp
   have k1:W1.heap[wr.heap.size]?=some (.cells #[.int .i64 y.key, .int .i64 y.is.c, .int .i64 y.is.s, .int .i64 y.is.mi, .int .i64 y.is.ma, .int .i64 y.is.t, .int .i64 y.is.l] 96):=by rw [hW1];exact heap_new _ _ rfl
   have HX:=Lib.hid fun w' (hb:Below W1.heap.size W1 w')=>(by
    have b0:w'.heap[wr.heap.size]?=_:=(hb.block _ (by omega)).trans k1
    simp [World.cell?,b0]:w'.cell? ⟨wr.heap.size,0,none⟩=some (.int .i64 y.key)∧w'.cell? ⟨wr.heap.size,1,none⟩=some (.int .i64 y.is.c)∧w'.cell? ⟨wr.heap.size,2,none⟩=some (.int .i64 y.is.s)∧w'.cell? ⟨wr.heap.size,3,none⟩=some (.int .i64 y.is.mi)∧w'.cell? ⟨wr.heap.size,4,none⟩=some (.int .i64 y.is.ma)∧w'.cell? ⟨wr.heap.size,5,none⟩=some (.int .i64 y.is.t)∧w'.cell? ⟨wr.heap.size,6,none⟩=some (.int .i64 y.is.l))
   have hbw1:Below w.heap.size w W1:=Below.trans' hb hb1 hsz
   clear hec h5 hy hyl hbr hM hR hQ hD hM0 hR0 hQ0 hD0 hbk g1 g2 g3 g4 hT hDS hP
   go_upto_region 5 with (fail)
   rw [←hW1]
   clear hW1 k1 y0 y1 y2 y3 y4 y5 y6 hix
   obtain⟨x0,-,-,-,-,-,-⟩:=HX.out W1 (Below.refl _ _)
   go_cut [9] (fun p wx=>p = .int .i64 P∧Below W1.heap.size W1 wx)
   case first=>
    go_quiet (fail)
    go_wp2
    go_meet
    exact⟨rfl,belowAuto⟩
   case rest=>
    obtain⟨rfl,hbc⟩:=hcut
    rename World=>w9
    obtain⟨x0,x1,x2,x3,x4,x5,x6⟩:=HX.out _ hbc
    clear m1 m2 m3 m4 m5 m6 m7 m8 m9 hs0
    have hbw:=Below.trans' hbw1 hbc (by have:=hb1.size;omega)
    have hzc:=hbc.size
    have hownc:OwnEnts w.heap.size w9 (.slice so es.length sc) es:=(hown.below hb1 (Nat.le_refl _)).below hbc (Nat.le_refl _)
    have hkx:=HKEYS.out
    obtain h0|⟨j,hj⟩:es.length=0∨∃j,es.length=j+1:=by cases h:es.length;exact .inl rfl;exact .inr ⟨_,rfl⟩
    ·obtain rfl:=List.eq_nil_of_length_eq_zero h0
     have HN:=Lib.hid (show bagC ((l.take (k+1)).map (bucket size))=some [⟨P,y.is⟩]from HSTEP.out)
     clear hkx h0
     go_wp2_with ((at_builtin;refine wpList_append_ent rfl (.tmp 45) (.tmp 50) rfl w.heap.size _ [] rfl (by repeat (first|assumption|with_reducible refine OwnEnts.alloc ?_ _|with_reducible refine OwnEnts.drewN ?_ _|with_reducible refine OwnEnts.drew ?_)) ⟨_,0,none⟩ ⟨P,y.is⟩ rfl (fun j u h=>ent_new h) hes (by first|omega|(simp;done)|(simp;omega)|(simp [drew_size];done)|(simp [drew_size];omega)) ?_;intro v3 w3 own3 hg3;have hb3:=hg3 w.heap.size w belowAuto (Nat.le_refl _)))
     go_roundg (l.length-(k+1))
     case measure=>omega
     case rel=>exact⟨k+1,_,by omega,rfl,by go_num,own3,HN,hb3⟩
    ·have n1:IntKind.i64.wrap ((es.length:Int)-1)=(j:Int):=by rw [hj];rw [show (((j+1:Nat):Int)-1)=(j:Int) by omega];exact IntWalk.i64_in _ (by omega)
     have n2:decide ((j:Int)<0)=false:=by simp
     have hjl:j<es.length:=by omega
     obtain⟨hl,⟨h0,h0'⟩|⟨g,cap',cur,hv,hBg,hg,-⟩⟩:=id hownc.row
     ·omega
     injection hv with hv1 _ hv3
     subst hv1 hv3
     have hgc:g<w9.heap.size:=(hownc.lt g rfl).2
     obtain⟨_,_,hv,-,-,-,-,h5⟩:=hownc.at (by omega)
     injection hv with hv1 _ hv3
     subst hv3
     obtain⟨eb2,eoff2,hla,heb2,hec2⟩:=h5 (by omega)
     rw [←hv1]at hla
     obtain⟨rfl,rfl⟩:g=eb2∧0=eoff2:=by injection hla with hla;injection hla with a1 a2;exact⟨a1,a2⟩
     obtain⟨z0,z1,z2,z3,z4,z5,z6⟩:=ent_cells (Below.refl _ _) heb2 hec2 hjl
     simp only [Nat.zero_add]at z0 z1 z2 z3 z4 z5 z6
     have hixe:=fun w'=>idx_ents (ab:=g) (aoff:=0) (n:=es.length) (cap:=sc) (show (j:Int)=((j:Nat):Int) by rfl) hjl w'
     simp only [Nat.zero_add]at hixe
     obtain⟨z,hz⟩:∃z,es[j]=z:=⟨_,rfl⟩
     rw [hz]at z0 z1 z2 z3 z4 z5 z6
     by_cases hkk:z.key=P
     ·have HI:=Lib.hid (HSTEP.out.trans (insC_old hjl HRS.out (posE_last HRS.out hj (by rw [hz];exact hkk)) (by rw [hz];exact hkk)))
      have HCI:=Lib.hid (HCK.out _ (List.getElem_mem hjl))
      have HKK:=Lib.hid (show es[j].key=P by rw [hz];exact hkk)
      rw [hz]at HI HCI
      have e3:(z.key != P)=false:=by simp [hkk]
      obtain⟨u,hu⟩:∃u,z.is=u:=⟨_,rfl⟩
      rw [hu]at z1 z2 z3 z4 z5 z6 HI HCI
      obtain⟨J,E,hJE⟩:∃J E,rollMerge u y.is=(J,E):=⟨_,_,rfl⟩
      have HJE:=Lib.hid hJE
      have HM:=Lib.hid fun w'=>(by have:=merge_any u y.is w';rw [hJE]at this;exact this :
       Calls Tryd.prog 19 #[.agg #[.int .i64 u.c, .int .i64 u.s, .int .i64 u.mi, .int .i64 u.ma, .int .i64 u.t, .int .i64 u.l], .agg #[.int .i64 y.is.c, .int .i64 y.is.s, .int .i64 y.is.mi, .int .i64 y.is.ma, .int .i64 y.is.t, .int .i64 y.is.l]] w' fun e' w5=>e' = .returned (.tuple #[.agg #[.int .i64 J.c, .int .i64 J.s, .int .i64 J.mi, .int .i64 J.ma, .int .i64 J.t, .int .i64 J.l], .int .i64 E])∧Below w'.heap.size w' w5)
      have hxw:wr.heap.size<w9.heap.size:=by omega
      have HS9:=Lib.hid fun w' (hb:Below w9.heap.size w9 w')=>(by
       have gc:∀b o,b<w9.heap.size→w'.cell? ⟨b,o,none⟩=w9.cell? ⟨b,o,none⟩:=fun b o h=>hb.cell (p:=⟨b,o,none⟩) h
       rw [gc _ _ hxw,gc _ _ hxw,gc _ _ hxw,gc _ _ hxw,gc _ _ hxw,gc _ _ hxw,gc _ _ hgc,gc _ _ hgc,gc _ _ hgc,gc _ _ hgc,gc _ _ hgc,gc _ _ hgc]
       exact⟨x1,x2,x3,x4,x5,x6,z1,z2,z3,z4,z5,z6⟩:w'.cell? ⟨wr.heap.size,1,none⟩=some (.int .i64 y.is.c)∧w'.cell? ⟨wr.heap.size,2,none⟩=some (.int .i64 y.is.s)∧w'.cell? ⟨wr.heap.size,3,none⟩=some (.int .i64 y.is.mi)∧w'.cell? ⟨wr.heap.size,4,none⟩=some (.int .i64 y.is.ma)∧w'.cell? ⟨wr.heap.size,5,none⟩=some (.int .i64 y.is.t)∧w'.cell? ⟨wr.heap.size,6,none⟩=some (.int .i64 y.is.l)∧w'.cell? ⟨g,j*7+1,none⟩=some (.int .i64 u.c)∧w'.cell? ⟨g,j*7+2,none⟩=some (.int .i64 u.s)∧w'.cell? ⟨g,j*7+3,none⟩=some (.int .i64 u.mi)∧w'.cell? ⟨g,j*7+4,none⟩=some (.int .i64 u.ma)∧w'.cell? ⟨g,j*7+5,none⟩=some (.int .i64 u.t)∧w'.cell? ⟨g,j*7+6,none⟩=some (.int .i64 u.l))
      have b0:Below w9.heap.size w9 w9.drew:=(Below.refl _ _).drew
      have hs0:=HS9.out _ b0
      clear hec2 h5 hJE hz hu hla hv1 hl hkx HX hkk hj
      go_upto_region 9 with (fail)
      clear x0 x1 x2 x3 x4 x5 x6 z0 z1 z2 z3 z4 z5 z6 n1 n2 e3
      go_cut [11,12] (fun p c wx=>∃g2:Nat,p = .pointer (some ⟨g2,0,none⟩)∧c = .int .i64 E∧wx.heap[g2]?=some (.cells #[.int .i64 J.c, .int .i64 J.s, .int .i64 J.mi, .int .i64 J.ma, .int .i64 J.t, .int .i64 J.l] 42)∧w9.heap.size≤g2∧Below w9.heap.size w9 wx)
      case first=>
       go_region_held3 (fun w'=>w'.cell? ⟨wr.heap.size,1,none⟩=some (.int .i64 y.is.c)∧w'.cell? ⟨wr.heap.size,2,none⟩=some (.int .i64 y.is.s)∧w'.cell? ⟨wr.heap.size,3,none⟩=some (.int .i64 y.is.mi)∧w'.cell? ⟨wr.heap.size,4,none⟩=some (.int .i64 y.is.ma)∧w'.cell? ⟨wr.heap.size,5,none⟩=some (.int .i64 y.is.t)∧w'.cell? ⟨wr.heap.size,6,none⟩=some (.int .i64 y.is.l)∧w'.cell? ⟨g,j*7+1,none⟩=some (.int .i64 u.c)∧w'.cell? ⟨g,j*7+2,none⟩=some (.int .i64 u.s)∧w'.cell? ⟨g,j*7+3,none⟩=some (.int .i64 u.mi)∧w'.cell? ⟨g,j*7+4,none⟩=some (.int .i64 u.ma)∧w'.cell? ⟨g,j*7+5,none⟩=some (.int .i64 u.t)∧w'.cell? ⟨g,j*7+6,none⟩=some (.int .i64 u.l))
        (first|with_reducible exact hs0|(with_reducible refine HS9.out _ ?_;exact belowAuto))
        (first
         |(go_at_call 19;(with_reducible refine(HM.out _).mono ?_);rintro e' w5 ⟨rfl,BE⟩;guard_hyp BE:Below w9.drew.heap.size w9.drew w5;have hb5:Below w9.heap.size w9 w5:=Below.trans' (show Below w9.heap.size w9 _ from belowAuto) BE (by first|omega|(simp;done)|(simp;omega)|(simp [drew_size];done)|(simp [drew_size];omega));have hsz5:=hb5.size)
         |(go_at_call 19;(with_reducible refine(HM.out _).mono ?_);rintro e' w5 ⟨rfl,BE⟩;obtain⟨q5,r0,r1,r2,r3,r4,r5,rf⟩:=zero_roll BE;have hb5:Below w9.heap.size w9 w5:=Below.trans' (show Below w9.heap.size w9 _ from belowAuto) BE (by first|omega|(simp;done)|(simp;omega)|(simp [drew_size];done)|(simp [drew_size];omega));have hsz5:=hb5.size))
       all_goals
        go_wp2_with fail
        go_meet
        refine⟨_,rfl,rfl,?_,?_,?_⟩
        ·first
         |with_reducible exact heap_new _ _ rfl
         |with_reducible exact heap_set6 q5
        ·(first|omega|(simp;done)|(simp;omega))
        ·exact belowAuto
      case rest=>
       obtain⟨g2,rfl,rfl,hg2,hgg,hbd⟩:=hcut
       have hownd:OwnEnts w.heap.size wc (.slice (some ⟨g,0,none⟩) es.length sc) es:=hownc.below hbd (Nat.le_refl _)
       have hbwd:Below w.heap.size w wc:=Below.trans' hbw hbd (by omega)
       have hzd:=hbd.size
       obtain⟨j0,j1,j2,j3,j4,j5,-⟩:=zero_cells hg2
       obtain⟨-,-,-,-,-,-,o1,o2,o3,o4,o5,o6⟩:=HS9.out _ hbd
       have hfr:∀o,wc.frozen? ⟨g,o,none⟩=false:=World.ownsRow.frozenAt hownd.row
       clear hs0 b0 hown hownc hbd hg2
       by_cases hcc:u.c+y.is.c≤1073741824
       ·obtain⟨rfl,rfl⟩:=Prod.mk.inj (HJE.out.symm.trans (merge_ok HCI.out HYC.out hcc).1)
        have HI':=Lib.hid (HI.out.trans (if_pos hcc))
        generalize u.join y.is=J at *
        have HSET:=Lib.hid (hownd.set (y:=J) hjl)
        rw [HKK.out]at HSET
        clear hcc HJE HM HI
        go_wp2
        go_roundg (l.length-(k+1))
        case measure=>omega
        case rel=>exact⟨k+1,_,by omega,rfl,by go_num,HSET.out,HI',(by repeat (first|with_reducible exact Below.refl _ _|with_reducible assumption|with_reducible refine below_dn ?_ _|with_reducible refine Below.drew ?_|with_reducible refine Below.alloc ?_ (by first|omega|(simp;done)|(simp;omega)) _|with_reducible refine Below.setCell ?_ (by first|omega|(simp;done)|(simp;omega)) _))⟩
       ·obtain⟨rfl,rfl⟩:=Prod.mk.inj (HJE.out.symm.trans ((merge_fine HCI.out HYC.out).trans (if_neg hcc)))
        have HN:=Lib.hid (rolledP_stop (l:=l) (size:=size) (k:=k+1) (HI.out.trans (if_neg hcc)))
        clear hcc HJE HM HI
        go_wp2
        go_ret2
        rw [HN.out]
        exact⟨hbwd,rfl⟩
     ·have e3:(z.key != P)=true:=by simp [hkk]
      have HN:=Lib.hid (show bagC ((l.take (k+1)).map (bucket size))=some (es++[⟨P,y.is⟩])from HSTEP.out.trans (insC_end fun e he=>by
       have h1:=hkx _ (List.getElem_mem hjl)
       rw [hz]at h1
       obtain⟨t,ht,rfl⟩:=List.getElem_of_mem he
       by_cases htj:t=j
       ·subst htj;rw [hz];show z.key<P;have:z.key≤P:=h1;omega
       ·have h2:=List.pairwise_iff_getElem.1 HRS.out t j ht hjl (by omega)
        rw [hz]at h2;show _<P;have:z.key≤P:=h1;omega))
      clear hec2 h5 hz hla hv1 hl hkx HX hkk hj
      go_wp2_with ((at_builtin;refine wpList_append_ent rfl (.tmp 45) (.tmp 50) rfl w.heap.size _ es rfl (by repeat (first|assumption|with_reducible refine OwnEnts.alloc ?_ _|with_reducible refine OwnEnts.drewN ?_ _|with_reducible refine OwnEnts.drew ?_)) ⟨_,0,none⟩ ⟨P,y.is⟩ rfl (fun j u h=>ent_new h) hes (by first|omega|(simp;done)|(simp;omega)|(simp [drew_size];done)|(simp [drew_size];omega)) ?_;intro v3 w3 own3 hg3;have hb3:=hg3 w.heap.size w belowAuto (Nat.le_refl _)))
      go_roundg (l.length-(k+1))
      case measure=>omega
      case rel=>exact⟨k+1,_,by omega,rfl,by go_num,own3,HN,hb3⟩
  ·have HN:=Lib.hid (show rolledR l size=some es by
    have:=HR.out
    rw [List.take_of_length_le (by omega)]at this
    exact this)
   go_wp2
   go_ret2
   rw [HN.out]
   exact⟨hb,_,rfl,hown⟩
end Go.Proofs.YtnjfkcimboidnaaDoor

/- The walk of base.Check: it lets by what the document's BaseMay lets by. -/
namespace Go.Proofs.YtnjfkcimboidnaaDoor
open Go.RowKit
theorem may_bad {b:Ba} {l:List Ent} {k:Nat} (hl:bookR b=some l) (hk:k<3) (h:treeOk l (b.tree k) (szOf k)=false):baseMay b=false:=
 baseMay_no fun hB=>by
  obtain⟨l',e,ht⟩:=hB.trees
  rw [hl]at e
  simp only [Option.some.injEq]at e
  subst e
  rw [ht k hk]at h;cases h
noncomputable def checkE (b:Ba):Int:=if baseMay b=true then 0 else 7
theorem checkE_no {b:Ba} (h:baseMay b=false):checkE b=7:=by simp [checkE,h]
theorem checkE_yes {b:Ba} (h:baseMay b=true):checkE b=0:=by simp [checkE,h]
set_option maxRecDepth 100000 in
set_option maxHeartbeats 4000000 in
theorem baseCheck_any {v:Value} {b:Ba} {w:World} (h:BaseAt w v b) (hst:∀s∈b.names,s.size≤140737488351232) (hsz:SizesAt w) :
  Calls Tryd.prog 26 #[v] w fun e w'=>e = .returned (.int .i64 (checkE b))∧Below w.heap.size w w':=by
 obtain⟨sa,sc,g0,l0,p0,g1,l1,p1,g2,l2,p2,rfl,hn,hnames,T0,T1,T2⟩:=h.open
 obtain⟨W0,hW0⟩:∃W0,W0=w.alloc (.cells (baCells sa b.names.length sc g0 l0 p0 g1 l1 p1 g2 l2 p2 b) 35):=⟨_,rfl⟩
 have hb0:Below w.heap.size w W0:=by rw [hW0];exact belowAuto
 have hz0:W0.heap.size=w.heap.size+1:=by rw [hW0];simp
 have k0:W0.heap[w.heap.size]?=some (.cells (baCells sa b.names.length sc g0 l0 p0 g1 l1 p1 g2 l2 p2 b) 35):=by rw [hW0];exact heap_new _ _ rfl
 have HX:=Lib.hid fun w' (hb:Below W0.heap.size W0 w')=>(by
  have b0:w'.heap[w.heap.size]?=_:=(hb.block _ (by omega)).trans k0
  simp [World.cell?,b0] :
  w'.cell? ⟨w.heap.size,0,none⟩=some (.slice sa b.names.length sc)∧w'.cell? ⟨w.heap.size,1,none⟩=some (.slice g0 l0 p0)∧w'.cell? ⟨w.heap.size,2,none⟩=some (.int .i64 b.t0.root)∧w'.cell? ⟨w.heap.size,3,none⟩=some (.slice g1 l1 p1)∧w'.cell? ⟨w.heap.size,4,none⟩=some (.int .i64 b.t1.root)∧w'.cell? ⟨w.heap.size,5,none⟩=some (.slice g2 l2 p2)∧w'.cell? ⟨w.heap.size,6,none⟩=some (.int .i64 b.t2.root)∧w'.cell? ⟨w.heap.size,7,none⟩=some (.int .i64 b.floor))
 have HB:=Lib.hid fun w' (hb:Below W0.heap.size W0 w')=>(Below.trans' hb0 hb hb0.size:Below w.heap.size w w')
 have HT0:=Lib.hid fun w' (hb:Below W0.heap.size W0 w')=>(all_any (lo:=0) (hi:=1099511627776) (T0 w' (HB.out w' hb))).mono fun e w' hp=>AllPost.allT hp
 have HT1:=Lib.hid fun w' (hb:Below W0.heap.size W0 w')=>(all_any (lo:=0) (hi:=1099511627776) (T1 w' (HB.out w' hb))).mono fun e w' hp=>AllPost.allT hp
 have HT2:=Lib.hid fun w' (hb:Below W0.heap.size W0 w')=>(all_any (lo:=0) (hi:=1099511627776) (T2 w' (HB.out w' hb))).mono fun e w' hp=>AllPost.allT hp
 have HBA:=Lib.hid h
 have HSN:=Lib.hid hnames
 have HST:=Lib.hid hst
 have HSZ:=Lib.hid fun w' (hb:Below W0.heap.size W0 w')=>(hsz.below (HB.out w' hb):SizesAt w')
 obtain⟨x0,x1,x2,x3,x4,x5,x6,x7⟩:=HX.out W0 (Below.refl _ _)
 obtain⟨-,s0,s1,s2⟩:=HSZ.out W0 (Below.refl _ _)
 clear T0 T1 T2 h hnames hst hsz
 go_enter Tryd.func26,Tryd.ntmps26
 go_upto_region 1 with (fail)
 rw [←hW0]
 clear hW0 k0
 by_cases i1:b.names.length≤16
 ·have e1:decide ((16:Int)<(b.names.length:Int))=false:=by simp;omega
  have HN1:=Lib.hid i1
  by_cases i2:0≤b.floor
  ·have e2:decide (b.floor<0)=false:=by simp;omega
   have HI2:=Lib.hid i2
   by_cases i2':b.floor≤1048575
   ·have e2':decide (1048575<b.floor)=false:=by simp;omega
    have HI2':=Lib.hid i2'
    obtain⟨R,hR⟩:∃R,b.floor%3600=R:=⟨_,rfl⟩
    have m1:b.floor.tmod 3600=R:=by rw [Int.tmod_eq_emod_of_nonneg i2];exact hR
    have m2:IntKind.i64.wrap R=R:=IntWalk.i64_in _ (by omega)
    have HR:=Lib.hid hR
    by_cases i3:R=0
    ·have e3:(R != 0)=false:=by simp [i3]
     have HI3:=Lib.hid (HR.out.trans i3)
     clear i1 i2 i2' i3 hR
     go_upto_region 4 with (fail)
     clear x0 x1 x2 x3 x4 x5 x6 x7 s0 s1 s2 m1 m2 e1 e2 e2' e3
     go_loopg [38] b.names.length (fun g i wr=>∃k:Nat,k≤b.names.length∧g=b.names.length-k∧i = .int .i64 k∧Hid (∀j,j<k→NameAt b j)∧Below W0.heap.size W0 wr)
     case atStart=>exact⟨0,Nat.zero_le _,rfl,rfl,Lib.hid (fun j hj=>by omega),Below.refl _ _⟩
     case round=>
      obtain⟨k,hk,rfl,rfl,HNM,hb⟩:=hrel
      obtain⟨x0,x1,x2,x3,x4,x5,x6,x7⟩:=HX.out _ hb
      by_cases hlt:k<b.names.length
      ·obtain⟨_,_,va,hcap,-,-,-,a5⟩:=HSN.out
       obtain⟨ab,aoff,ha,abb,ac⟩:=a5 (by omega)
       injection va with va1 _ va3
       subst va1 va3 ha
       have e0:=strs_cell (HB.out _ hb) abb ac hlt
       obtain⟨s,hs⟩:∃s,b.names[k]=s:=⟨_,rfl⟩
       rw [hs]at e0
       have HS:=Lib.hid hs
       have hix:=fun w'=>idx_str (ab:=ab) (aoff:=aoff) (n:=b.names.length) (cap:=sc) (show (k:Int)=((k:Nat):Int) by rfl) hlt w'
       have HNA:=Lib.hid fun w'=>name_any s w' (HST.out s (by rw [←hs];exact List.getElem_mem hlt))
       have HCO:=Lib.hid fun w' (hb:Below W0.heap.size W0 w')=>containsStr_any (s:=s) (StrsAt.take (HSN.out.below (HB.out w' hb) (Nat.le_refl _)) (Nat.le_of_lt hlt))
       have hks:(k:Int)≤(sc:Int):=by omega
       have hk0:(0:Int)≤(k:Int):=by omega
       have hks2:k≤sc:=by omega
       clear hs a5 ac
       cases hnm:nameMay s with
       |false=>
        have HNO:=Lib.hid (checkE_no (baseMay_no fun h:BaseOk b=>by have:=(h.names k hlt).1;rw [HS.out,hnm]at this;cases this))
        rw [hnm]at HNA
        clear hnm
        go_wp2_with ((go_at_call 53;(with_reducible refine(HNA.out _).mono ?_);rintro e w2 ⟨rfl,hb2⟩))
        go_ret
        rw [HNO.out]
        exact⟨rfl,HB.out _ (Below.trans' hb hb2 hb.size)⟩
       |true=>
        have HNMT:=Lib.hid hnm
        rw [hnm]at HNA
        clear hnm
        have HPC:=Lib.hid (place_cases (b.names.take k) s)
        obtain⟨p,hp⟩:∃p,placeI (b.names.take k) s=p:=⟨_,rfl⟩
        rw [hp]at HCO HPC
        clear hp
        by_cases hp0:0≤p
        ·have hpd:decide (0≤p)=true:=by simp [hp0]
         have HNO:=Lib.hid (checkE_no (baseMay_no fun h:BaseOk b=>by
          rcases HPC.out with ⟨j,hj,_,hjs,_⟩|⟨h1,_⟩
          ·have hjk:j<k:=by rw [List.length_take]at hj;omega
           rw [List.getElem_take]at hjs
           exact(h.names k hlt).2 j hjk (by rw [HS.out];exact hjs)
          ·omega))
         rw [hpd]at HCO
         clear hp0 hpd
         go_wp2_with (first|(go_at_call 53;(with_reducible refine(HNA.out _).mono ?_);rintro e w2 ⟨rfl,hb2⟩;have hb3:=Below.trans' hb hb2 hb.size;obtain⟨x0,-⟩:=HX.out _ hb3)|(go_at_call 54;(with_reducible refine(HCO.out _ hb3).mono ?_);rintro e w4 ⟨rfl,hb4⟩;have hb5:=Below.trans' hb3 hb4 hb3.size))
         go_ret
         rw [HNO.out]
         exact⟨rfl,HB.out _ hb5⟩
        ·have hpd:decide (0≤p)=false:=by simp;omega
         have HNM2:=Lib.hid (show ∀j,j<k+1→NameAt b j from fun j hj=>by
          by_cases hjk:j=k
          ·subst hjk
           intro h
           refine⟨by rw [HS.out];exact HNMT.out,fun m hm=>?_⟩
           rcases HPC.out with ⟨q,_,h1,_⟩|⟨_,h2⟩
           ·omega
           ·have:=h2 m (by rw [List.length_take];omega)
            rw [List.getElem_take]at this
            rw [HS.out];exact this
          ·exact HNM.out j (by omega))
         rw [hpd]at HCO
         clear hp0 hpd
         go_wp2_with (first|(go_at_call 53;(with_reducible refine(HNA.out _).mono ?_);rintro e w2 ⟨rfl,hb2⟩;have hb3:=Below.trans' hb hb2 hb.size;obtain⟨x0,-⟩:=HX.out _ hb3)|(go_at_call 54;(with_reducible refine(HCO.out _ hb3).mono ?_);rintro e w4 ⟨rfl,hb4⟩;have hb5:=Below.trans' hb3 hb4 hb3.size))
         go_roundg (b.names.length-(k+1))
         case measure=>omega
         case rel=>exact⟨k+1,by omega,rfl,by go_num,HNM2,hb5⟩
      ·have HNMS:=Lib.hid (show NamesOk b from fun i hi=>HNM.out i (by omega) hi)
       have HPO:=Lib.hid (points_any (HBA.out.below (HB.out _ hb)))
       have hbz:=hb.size
       cases hbk:bookR b with
       |none=>
        have HNO:=Lib.hid (checkE_no (baseMay_no fun h:BaseOk b=>by obtain⟨l,e,_⟩:=h.trees;rw [hbk]at e;cases e))
        rw [hbk]at HPO
        clear hbk
        go_wp2_with ((go_at_call 55;(with_reducible refine HPO.out.mono ?_);rintro e w5 ⟨hb5,rfl⟩;have hb5':=Below.trans' hb hb5 hb.size))
        go_ret
        rw [HNO.out]
        exact⟨rfl,HB.out _ hb5'⟩
       |some l=>
        have HBK:=Lib.hid hbk
        have HLG:=Lib.hid (bookR_good hbk)
        have hll:l.length≤50000:=(bookR_good hbk).2.2.2
        rw [hbk]at HPO
        clear hbk
        go_upto_region 12 with ((go_at_call 55;(with_reducible refine HPO.out.mono ?_);rintro e w5 ⟨hb5,v5,rfl,ho5⟩;have hb5':=Below.trans' hb hb5 hb.size;obtain⟨s5,c5,rfl⟩:=ho5.isSlice;obtain⟨-,z0,z1,z2⟩:=HSZ.out _ hb5'))
        clear x0 x1 x2 x3 x4 x5 x6 x7
        have hz5:=hb5'.size
        go_wp2_with fail
        clear z0 z1 z2
        go_loopg [63] 3 (fun g i wr=>∃k:Nat,k≤3∧g=3-k∧i = .int .i64 k∧Hid (∀j,j<k→treeOk l (b.tree j) (szOf j)=true)∧Below w5.heap.size w5 wr)
        case atStart=>exact⟨0,by omega,rfl,rfl,Lib.hid (fun j hj=>by omega),Below.refl _ _⟩
        case round=>
         obtain⟨k,hk,rfl,rfl,HREL,hbr⟩:=hrel
         have hbk:=Below.trans' hb5' hbr hz5
         by_cases hlt3:k<3
         ·obtain rfl|rfl|rfl:k=0∨k=1∨k=2:=by omega
          ·have HRO:=Lib.hid fun w' (hb:Below w5.heap.size w5 w')=>proRolled_any (size:=1) ((ho5.below hb (Nat.le_refl _)).at (by omega)) HLG.out.2 HLG.out.1 (by decide)
           have HAL:=Lib.hid fun w' (hb:Below W0.heap.size W0 w')=>HT0.out w' hb
           have hiz:=idx_sizes0
           cases hro:rolledR l 1 with
           |none=>
            have HNO:=Lib.hid (checkE_no (may_bad HBK.out (k:=0) (by decide) (treeOk_no1 hro)))
            rw [hro]at HRO
            clear hro
            cases hal:allT b.t0 with
            |none=>
             rw [hal]at HAL
             clear hal
             go_wp2_with (first|(go_at_call 56;(with_reducible refine(HRO.out _ hbr).mono ?_);rintro e wq ⟨hbq,rfl⟩;have hbq':=Below.trans' hbr hbq hbr.size;have hbq0:=Below.trans' hb5' hbq' hz5;obtain⟨x0,x1,x2,x3,x4,x5,x6,x7⟩:=HX.out _ hbq0)|(go_at_call 45;(with_reducible refine(HAL.out _ hbq0).mono ?_);rintro e wa ⟨hba,E,hE,rfl⟩;have hba':=Below.trans' hbq' hba hbq'.size;have hba0:=Below.trans' hb5' hba' hz5))
             go_ret
             rw [HNO.out]
             exact⟨rfl,HB.out _ hba0⟩
            |some c=>
             rw [hal]at HAL
             clear hal
             go_wp2_with (first|(go_at_call 56;(with_reducible refine(HRO.out _ hbr).mono ?_);rintro e wq ⟨hbq,rfl⟩;have hbq':=Below.trans' hbr hbq hbr.size;have hbq0:=Below.trans' hb5' hbq' hz5;obtain⟨x0,x1,x2,x3,x4,x5,x6,x7⟩:=HX.out _ hbq0)|(go_at_call 45;(with_reducible refine(HAL.out _ hbq0).mono ?_);rintro e wa ⟨hba,va,rfl,hoa⟩;have hba':=Below.trans' hbq' hba hbq'.size;have hba0:=Below.trans' hb5' hba' hz5;obtain⟨sA,cA,rfl⟩:=hoa.isSlice))
             go_ret
             rw [HNO.out]
             exact⟨rfl,HB.out _ hba0⟩
           |some a=>
            have HRL:=Lib.hid (pgood_bag (bucket_good (size:=1) (by decide) HLG.out.2) hro)
            rw [hro]at HRO
            cases hal:allT b.t0 with
            |none=>
             have HNO:=Lib.hid (checkE_no (may_bad HBK.out (k:=0) (by decide) (show treeOk l b.t0 1=false from treeOk_no2 hal)))
             rw [hal]at HAL
             clear hal hro
             go_wp2_with (first|(go_at_call 56;(with_reducible refine(HRO.out _ hbr).mono ?_);rintro e wq ⟨hbq,vq,rfl,hoq⟩;have hbq':=Below.trans' hbr hbq hbr.size;have hbq0:=Below.trans' hb5' hbq' hz5;obtain⟨x0,x1,x2,x3,x4,x5,x6,x7⟩:=HX.out _ hbq0;obtain⟨sQ,cQ,rfl⟩:=hoq.isSlice)|(go_at_call 45;(with_reducible refine(HAL.out _ hbq0).mono ?_);rintro e wa ⟨hba,E,hE,rfl⟩;have hba':=Below.trans' hbq' hba hbq'.size;have hba0:=Below.trans' hb5' hba' hz5))
             go_ret
             rw [HNO.out]
             exact⟨rfl,HB.out _ hba0⟩
            |some c=>
             have HTK:=Lib.hid (show treeOk l (b.tree 0) (szOf 0)=decide (a=c)from treeOk_some hro hal)
             have HCL:=Lib.hid (allT_good hal)
             rw [hal]at HAL
             clear hal hro
             cases hac:decide (a=c) with
             |false=>
              have HNO:=Lib.hid (checkE_no (may_bad HBK.out (k:=0) (by decide) (HTK.out.trans hac)))
              go_wp2_with (first|(go_at_call 56;(with_reducible refine(HRO.out _ hbr).mono ?_);rintro e wq ⟨hbq,vq,rfl,hoq⟩;have hbq':=Below.trans' hbr hbq hbr.size;have hbq0:=Below.trans' hb5' hbq' hz5;obtain⟨x0,x1,x2,x3,x4,x5,x6,x7⟩:=HX.out _ hbq0;obtain⟨sQ,cQ,rfl⟩:=hoq.isSlice)|(go_at_call 45;(with_reducible refine(HAL.out _ hbq0).mono ?_);rintro e wa ⟨hba,va,rfl,hoa⟩;have hba':=Below.trans' hbq' hba hbq'.size;have hba0:=Below.trans' hb5' hba' hz5;obtain⟨sA,cA,rfl⟩:=hoa.isSlice;have HSE:=Lib.hid (equalEnts_any ((hoq.below hba (Nat.le_refl _)).at (by have:=HRL.out.2.2;omega)) (hoa.at (by have:=HCL.out.2.2.2;omega))))|(go_at_call 57;rw [hac]at HSE;(with_reducible refine HSE.out.mono ?_);rintro e ws ⟨rfl,hbs⟩;have hbs':=Below.trans' hba' hbs hba'.size;have hbs0:=Below.trans' hb5' hbs' hz5))
              go_ret
              rw [HNO.out]
              exact⟨rfl,HB.out _ hbs0⟩
             |true=>
              have HNX:=Lib.hid (show ∀j,j<0+1→treeOk l (b.tree j) (szOf j)=true from fun j hj=>by
               by_cases hjk:j=0
               ·subst hjk;exact HTK.out.trans hac
               ·exact HREL.out j (by omega))
              go_wp2_with (first|(go_at_call 56;(with_reducible refine(HRO.out _ hbr).mono ?_);rintro e wq ⟨hbq,vq,rfl,hoq⟩;have hbq':=Below.trans' hbr hbq hbr.size;have hbq0:=Below.trans' hb5' hbq' hz5;obtain⟨x0,x1,x2,x3,x4,x5,x6,x7⟩:=HX.out _ hbq0;obtain⟨sQ,cQ,rfl⟩:=hoq.isSlice)|(go_at_call 45;(with_reducible refine(HAL.out _ hbq0).mono ?_);rintro e wa ⟨hba,va,rfl,hoa⟩;have hba':=Below.trans' hbq' hba hbq'.size;have hba0:=Below.trans' hb5' hba' hz5;obtain⟨sA,cA,rfl⟩:=hoa.isSlice;have HSE:=Lib.hid (equalEnts_any ((hoq.below hba (Nat.le_refl _)).at (by have:=HRL.out.2.2;omega)) (hoa.at (by have:=HCL.out.2.2.2;omega))))|(go_at_call 57;rw [hac]at HSE;(with_reducible refine HSE.out.mono ?_);rintro e ws ⟨rfl,hbs⟩;have hbs':=Below.trans' hba' hbs hba'.size;have hbs0:=Below.trans' hb5' hbs' hz5))
              go_roundg (3-(0+1))
              case measure=>omega
              case rel=>exact⟨0+1,by omega,rfl,by go_num,HNX,hbs'⟩
          ·have HRO:=Lib.hid fun w' (hb:Below w5.heap.size w5 w')=>proRolled_any (size:=60) ((ho5.below hb (Nat.le_refl _)).at (by omega)) HLG.out.2 HLG.out.1 (by decide)
           have HAL:=Lib.hid fun w' (hb:Below W0.heap.size W0 w')=>HT1.out w' hb
           have hiz:=idx_sizes1
           cases hro:rolledR l 60 with
           |none=>
            have HNO:=Lib.hid (checkE_no (may_bad HBK.out (k:=1) (by decide) (treeOk_no1 hro)))
            rw [hro]at HRO
            clear hro
            cases hal:allT b.t1 with
            |none=>
             rw [hal]at HAL
             clear hal
             go_wp2_with (first|(go_at_call 56;(with_reducible refine(HRO.out _ hbr).mono ?_);rintro e wq ⟨hbq,rfl⟩;have hbq':=Below.trans' hbr hbq hbr.size;have hbq0:=Below.trans' hb5' hbq' hz5;obtain⟨x0,x1,x2,x3,x4,x5,x6,x7⟩:=HX.out _ hbq0)|(go_at_call 45;(with_reducible refine(HAL.out _ hbq0).mono ?_);rintro e wa ⟨hba,E,hE,rfl⟩;have hba':=Below.trans' hbq' hba hbq'.size;have hba0:=Below.trans' hb5' hba' hz5))
             go_ret
             rw [HNO.out]
             exact⟨rfl,HB.out _ hba0⟩
            |some c=>
             rw [hal]at HAL
             clear hal
             go_wp2_with (first|(go_at_call 56;(with_reducible refine(HRO.out _ hbr).mono ?_);rintro e wq ⟨hbq,rfl⟩;have hbq':=Below.trans' hbr hbq hbr.size;have hbq0:=Below.trans' hb5' hbq' hz5;obtain⟨x0,x1,x2,x3,x4,x5,x6,x7⟩:=HX.out _ hbq0)|(go_at_call 45;(with_reducible refine(HAL.out _ hbq0).mono ?_);rintro e wa ⟨hba,va,rfl,hoa⟩;have hba':=Below.trans' hbq' hba hbq'.size;have hba0:=Below.trans' hb5' hba' hz5;obtain⟨sA,cA,rfl⟩:=hoa.isSlice))
             go_ret
             rw [HNO.out]
             exact⟨rfl,HB.out _ hba0⟩
           |some a=>
            have HRL:=Lib.hid (pgood_bag (bucket_good (size:=60) (by decide) HLG.out.2) hro)
            rw [hro]at HRO
            cases hal:allT b.t1 with
            |none=>
             have HNO:=Lib.hid (checkE_no (may_bad HBK.out (k:=1) (by decide) (show treeOk l b.t1 60=false from treeOk_no2 hal)))
             rw [hal]at HAL
             clear hal hro
             go_wp2_with (first|(go_at_call 56;(with_reducible refine(HRO.out _ hbr).mono ?_);rintro e wq ⟨hbq,vq,rfl,hoq⟩;have hbq':=Below.trans' hbr hbq hbr.size;have hbq0:=Below.trans' hb5' hbq' hz5;obtain⟨x0,x1,x2,x3,x4,x5,x6,x7⟩:=HX.out _ hbq0;obtain⟨sQ,cQ,rfl⟩:=hoq.isSlice)|(go_at_call 45;(with_reducible refine(HAL.out _ hbq0).mono ?_);rintro e wa ⟨hba,E,hE,rfl⟩;have hba':=Below.trans' hbq' hba hbq'.size;have hba0:=Below.trans' hb5' hba' hz5))
             go_ret
             rw [HNO.out]
             exact⟨rfl,HB.out _ hba0⟩
            |some c=>
             have HTK:=Lib.hid (show treeOk l (b.tree 1) (szOf 1)=decide (a=c)from treeOk_some hro hal)
             have HCL:=Lib.hid (allT_good hal)
             rw [hal]at HAL
             clear hal hro
             cases hac:decide (a=c) with
             |false=>
              have HNO:=Lib.hid (checkE_no (may_bad HBK.out (k:=1) (by decide) (HTK.out.trans hac)))
              go_wp2_with (first|(go_at_call 56;(with_reducible refine(HRO.out _ hbr).mono ?_);rintro e wq ⟨hbq,vq,rfl,hoq⟩;have hbq':=Below.trans' hbr hbq hbr.size;have hbq0:=Below.trans' hb5' hbq' hz5;obtain⟨x0,x1,x2,x3,x4,x5,x6,x7⟩:=HX.out _ hbq0;obtain⟨sQ,cQ,rfl⟩:=hoq.isSlice)|(go_at_call 45;(with_reducible refine(HAL.out _ hbq0).mono ?_);rintro e wa ⟨hba,va,rfl,hoa⟩;have hba':=Below.trans' hbq' hba hbq'.size;have hba0:=Below.trans' hb5' hba' hz5;obtain⟨sA,cA,rfl⟩:=hoa.isSlice;have HSE:=Lib.hid (equalEnts_any ((hoq.below hba (Nat.le_refl _)).at (by have:=HRL.out.2.2;omega)) (hoa.at (by have:=HCL.out.2.2.2;omega))))|(go_at_call 57;rw [hac]at HSE;(with_reducible refine HSE.out.mono ?_);rintro e ws ⟨rfl,hbs⟩;have hbs':=Below.trans' hba' hbs hba'.size;have hbs0:=Below.trans' hb5' hbs' hz5))
              go_ret
              rw [HNO.out]
              exact⟨rfl,HB.out _ hbs0⟩
             |true=>
              have HNX:=Lib.hid (show ∀j,j<1+1→treeOk l (b.tree j) (szOf j)=true from fun j hj=>by
               by_cases hjk:j=1
               ·subst hjk;exact HTK.out.trans hac
               ·exact HREL.out j (by omega))
              go_wp2_with (first|(go_at_call 56;(with_reducible refine(HRO.out _ hbr).mono ?_);rintro e wq ⟨hbq,vq,rfl,hoq⟩;have hbq':=Below.trans' hbr hbq hbr.size;have hbq0:=Below.trans' hb5' hbq' hz5;obtain⟨x0,x1,x2,x3,x4,x5,x6,x7⟩:=HX.out _ hbq0;obtain⟨sQ,cQ,rfl⟩:=hoq.isSlice)|(go_at_call 45;(with_reducible refine(HAL.out _ hbq0).mono ?_);rintro e wa ⟨hba,va,rfl,hoa⟩;have hba':=Below.trans' hbq' hba hbq'.size;have hba0:=Below.trans' hb5' hba' hz5;obtain⟨sA,cA,rfl⟩:=hoa.isSlice;have HSE:=Lib.hid (equalEnts_any ((hoq.below hba (Nat.le_refl _)).at (by have:=HRL.out.2.2;omega)) (hoa.at (by have:=HCL.out.2.2.2;omega))))|(go_at_call 57;rw [hac]at HSE;(with_reducible refine HSE.out.mono ?_);rintro e ws ⟨rfl,hbs⟩;have hbs':=Below.trans' hba' hbs hba'.size;have hbs0:=Below.trans' hb5' hbs' hz5))
              go_roundg (3-(1+1))
              case measure=>omega
              case rel=>exact⟨1+1,by omega,rfl,by go_num,HNX,hbs'⟩
          ·have HRO:=Lib.hid fun w' (hb:Below w5.heap.size w5 w')=>proRolled_any (size:=3600) ((ho5.below hb (Nat.le_refl _)).at (by omega)) HLG.out.2 HLG.out.1 (by decide)
           have HAL:=Lib.hid fun w' (hb:Below W0.heap.size W0 w')=>HT2.out w' hb
           have hiz:=idx_sizes2
           cases hro:rolledR l 3600 with
           |none=>
            have HNO:=Lib.hid (checkE_no (may_bad HBK.out (k:=2) (by decide) (treeOk_no1 hro)))
            rw [hro]at HRO
            clear hro
            cases hal:allT b.t2 with
            |none=>
             rw [hal]at HAL
             clear hal
             go_wp2_with (first|(go_at_call 56;(with_reducible refine(HRO.out _ hbr).mono ?_);rintro e wq ⟨hbq,rfl⟩;have hbq':=Below.trans' hbr hbq hbr.size;have hbq0:=Below.trans' hb5' hbq' hz5;obtain⟨x0,x1,x2,x3,x4,x5,x6,x7⟩:=HX.out _ hbq0)|(go_at_call 45;(with_reducible refine(HAL.out _ hbq0).mono ?_);rintro e wa ⟨hba,E,hE,rfl⟩;have hba':=Below.trans' hbq' hba hbq'.size;have hba0:=Below.trans' hb5' hba' hz5))
             go_ret
             rw [HNO.out]
             exact⟨rfl,HB.out _ hba0⟩
            |some c=>
             rw [hal]at HAL
             clear hal
             go_wp2_with (first|(go_at_call 56;(with_reducible refine(HRO.out _ hbr).mono ?_);rintro e wq ⟨hbq,rfl⟩;have hbq':=Below.trans' hbr hbq hbr.size;have hbq0:=Below.trans' hb5' hbq' hz5;obtain⟨x0,x1,x2,x3,x4,x5,x6,x7⟩:=HX.out _ hbq0)|(go_at_call 45;(with_reducible refine(HAL.out _ hbq0).mono ?_);rintro e wa ⟨hba,va,rfl,hoa⟩;have hba':=Below.trans' hbq' hba hbq'.size;have hba0:=Below.trans' hb5' hba' hz5;obtain⟨sA,cA,rfl⟩:=hoa.isSlice))
             go_ret
             rw [HNO.out]
             exact⟨rfl,HB.out _ hba0⟩
           |some a=>
            have HRL:=Lib.hid (pgood_bag (bucket_good (size:=3600) (by decide) HLG.out.2) hro)
            rw [hro]at HRO
            cases hal:allT b.t2 with
            |none=>
             have HNO:=Lib.hid (checkE_no (may_bad HBK.out (k:=2) (by decide) (show treeOk l b.t2 3600=false from treeOk_no2 hal)))
             rw [hal]at HAL
             clear hal hro
             go_wp2_with (first|(go_at_call 56;(with_reducible refine(HRO.out _ hbr).mono ?_);rintro e wq ⟨hbq,vq,rfl,hoq⟩;have hbq':=Below.trans' hbr hbq hbr.size;have hbq0:=Below.trans' hb5' hbq' hz5;obtain⟨x0,x1,x2,x3,x4,x5,x6,x7⟩:=HX.out _ hbq0;obtain⟨sQ,cQ,rfl⟩:=hoq.isSlice)|(go_at_call 45;(with_reducible refine(HAL.out _ hbq0).mono ?_);rintro e wa ⟨hba,E,hE,rfl⟩;have hba':=Below.trans' hbq' hba hbq'.size;have hba0:=Below.trans' hb5' hba' hz5))
             go_ret
             rw [HNO.out]
             exact⟨rfl,HB.out _ hba0⟩
            |some c=>
             have HTK:=Lib.hid (show treeOk l (b.tree 2) (szOf 2)=decide (a=c)from treeOk_some hro hal)
             have HCL:=Lib.hid (allT_good hal)
             rw [hal]at HAL
             clear hal hro
             cases hac:decide (a=c) with
             |false=>
              have HNO:=Lib.hid (checkE_no (may_bad HBK.out (k:=2) (by decide) (HTK.out.trans hac)))
              go_wp2_with (first|(go_at_call 56;(with_reducible refine(HRO.out _ hbr).mono ?_);rintro e wq ⟨hbq,vq,rfl,hoq⟩;have hbq':=Below.trans' hbr hbq hbr.size;have hbq0:=Below.trans' hb5' hbq' hz5;obtain⟨x0,x1,x2,x3,x4,x5,x6,x7⟩:=HX.out _ hbq0;obtain⟨sQ,cQ,rfl⟩:=hoq.isSlice)|(go_at_call 45;(with_reducible refine(HAL.out _ hbq0).mono ?_);rintro e wa ⟨hba,va,rfl,hoa⟩;have hba':=Below.trans' hbq' hba hbq'.size;have hba0:=Below.trans' hb5' hba' hz5;obtain⟨sA,cA,rfl⟩:=hoa.isSlice;have HSE:=Lib.hid (equalEnts_any ((hoq.below hba (Nat.le_refl _)).at (by have:=HRL.out.2.2;omega)) (hoa.at (by have:=HCL.out.2.2.2;omega))))|(go_at_call 57;rw [hac]at HSE;(with_reducible refine HSE.out.mono ?_);rintro e ws ⟨rfl,hbs⟩;have hbs':=Below.trans' hba' hbs hba'.size;have hbs0:=Below.trans' hb5' hbs' hz5))
              go_ret
              rw [HNO.out]
              exact⟨rfl,HB.out _ hbs0⟩
             |true=>
              have HNX:=Lib.hid (show ∀j,j<2+1→treeOk l (b.tree j) (szOf j)=true from fun j hj=>by
               by_cases hjk:j=2
               ·subst hjk;exact HTK.out.trans hac
               ·exact HREL.out j (by omega))
              go_wp2_with (first|(go_at_call 56;(with_reducible refine(HRO.out _ hbr).mono ?_);rintro e wq ⟨hbq,vq,rfl,hoq⟩;have hbq':=Below.trans' hbr hbq hbr.size;have hbq0:=Below.trans' hb5' hbq' hz5;obtain⟨x0,x1,x2,x3,x4,x5,x6,x7⟩:=HX.out _ hbq0;obtain⟨sQ,cQ,rfl⟩:=hoq.isSlice)|(go_at_call 45;(with_reducible refine(HAL.out _ hbq0).mono ?_);rintro e wa ⟨hba,va,rfl,hoa⟩;have hba':=Below.trans' hbq' hba hbq'.size;have hba0:=Below.trans' hb5' hba' hz5;obtain⟨sA,cA,rfl⟩:=hoa.isSlice;have HSE:=Lib.hid (equalEnts_any ((hoq.below hba (Nat.le_refl _)).at (by have:=HRL.out.2.2;omega)) (hoa.at (by have:=HCL.out.2.2.2;omega))))|(go_at_call 57;rw [hac]at HSE;(with_reducible refine HSE.out.mono ?_);rintro e ws ⟨rfl,hbs⟩;have hbs':=Below.trans' hba' hbs hba'.size;have hbs0:=Below.trans' hb5' hbs' hz5))
              go_roundg (3-(2+1))
              case measure=>omega
              case rel=>exact⟨2+1,by omega,rfl,by go_num,HNX,hbs'⟩
         ·obtain rfl:k=3:=by omega
          have HYES:=Lib.hid (checkE_yes (baseMay_yes ⟨HN1.out,HI2.out,HI2'.out,HI3.out,HNMS.out,l,HBK.out,HREL.out⟩))
          go_wp2
          go_ret
          rw [HYES.out]
          exact⟨rfl,HB.out _ hbk⟩
    ·have e3:(R != 0)=true:=by simp [i3]
     have HNO:=Lib.hid (checkE_no (baseMay_no fun h:BaseOk b=>i3 (HR.out.symm.trans h.fl2)))
     clear i1 i2 i2' i3 hR
     go_wp2
     go_ret
     rw [HNO.out]
     exact⟨rfl,hb0⟩
   ·have e2':decide (1048575<b.floor)=true:=by simp;omega
    have HNO:=Lib.hid (checkE_no (baseMay_no fun h:BaseOk b=>i2' h.fl1))
    clear i1 i2 i2'
    go_wp2
    go_ret
    rw [HNO.out]
    exact⟨rfl,hb0⟩
  ·have e2:decide (b.floor<0)=true:=by simp;omega
   have HNO:=Lib.hid (checkE_no (baseMay_no fun h:BaseOk b=>i2 h.fl0))
   clear i1 i2
   go_wp2
   go_ret
   rw [HNO.out]
   exact⟨rfl,hb0⟩
 ·have e1:decide ((16:Int)<(b.names.length:Int))=true:=by simp;omega
  have HNO:=Lib.hid (checkE_no (baseMay_no fun h:BaseOk b=>i1 h.n16))
  clear i1
  go_wp2
  go_ret
  rw [HNO.out]
  exact⟨rfl,hb0⟩
end Go.Proofs.YtnjfkcimboidnaaDoor
