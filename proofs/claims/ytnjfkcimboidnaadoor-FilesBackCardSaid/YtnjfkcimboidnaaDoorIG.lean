/- Texts of mine that come as one: InsP Insert InsertI Search SearchE. -/
import Derived.Test.YtnjfkcimboidnaaDoorSX
import Derived.Laws.CopyRow
import Derived.Lib.Overlaps
import Derived.Lib.AppendZerosOnto
import Derived.Laws.Externs
import Derived.StillTailTactics
import Derived.Deep.DeepAppendWide
import Derived.Maps.AppendAt
import Derived.Test.YtnjfkcimboidnaaDoorPA
import Derived.BigQuiet
import Derived.Deep.QuietTactic
/- An entry put in among others: the cells of its row; 'copy' of elements of several cells. -/
namespace Go.Proofs.YtnjfkcimboidnaaDoor
open Go.RowKit
theorem shift_row {cur C X:List Value} {a:Nat} (hC:cur.take C.length=C) (ha:a≤C.length) (hX:X.length=7) (hfit:C.length+7≤cur.length) {cur1 cur2:List Value}
  (h1:cur1=cur.take (a+7)++C.drop a++cur.drop (a+7+(C.drop a).length)) (h2:cur2=cur1.take a++X++cur1.drop (a+X.length)) :
  cur1.length=cur.length∧cur2.length=cur.length∧cur2.take (C.length+7)=C.take a++X++C.drop a:=by
 have l1:cur1.length=cur.length:=by rw [h1];simp;omega
 have e1:cur1.take a=C.take a:=by
  rw [h1,List.append_assoc,List.take_append_of_le_length (by simp;omega),List.take_take,←hC,List.take_take]
  congr 1;omega
 have e2:cur1.drop (a+X.length)=C.drop a++cur.drop (a+7+(C.drop a).length):=by
  rw [h1,hX,List.append_assoc,List.drop_append_of_le_length (by simp;omega),List.drop_eq_nil_of_le (by simp;omega),List.nil_append]
 refine⟨l1,by rw [h2];simp;omega,?_⟩
 rw [h2,e1,e2,←List.append_assoc,List.take_append_of_le_length (by simp;omega),List.take_of_length_le (by simp;omega)]
theorem grow_row {row C X Z:List Value} {a:Nat} (hr:row=C.take a++Z) (ha:a≤C.length) (hX:X.length=7) (hfit:C.length+7≤row.length) {cur1 cur2:List Value}
  (h1:cur1=row.take a++X++row.drop (a+X.length)) (h2:cur2=cur1.take (a+7)++C.drop a++cur1.drop (a+7+(C.drop a).length)) :
  cur1.length=row.length∧cur2.length=row.length∧cur2.take (C.length+7)=C.take a++X++C.drop a:=by
 have l1:cur1.length=row.length:=by rw [h1];simp;omega
 have e0:row.take a=C.take a:=by rw [hr,List.take_append_of_le_length (by simp;omega),List.take_of_length_le (by simp;omega)]
 have e1:cur1.take (a+7)=C.take a++X:=by
  rw [h1,e0,List.take_append_of_le_length (by simp;omega),List.take_of_length_le (by simp;omega)]
 refine⟨l1,by rw [h2];simp;omega,?_⟩
 rw [h2,e1,List.take_append_of_le_length (by simp;omega),List.take_of_length_le (by simp;omega)]
theorem run_copy_rowk {P:Program} (w:World) (dT sT ty elem:TypeId) (k g o dLen dCap:Nat) (a:Addr) (sLen sCap m:Nat) (cur:Array Value) (t:TypeId) (cs:List Value)
  (hu:P.underlying dT=some (.slice elem)) (hs:(P.info? elem).map (·.size)=some k) (hg:w.heap[g]?=some (.cells cur t (0,0))) (hm:Nat.min sLen dLen=m) (hn:cs.length=m*k)
  (hsrc:∀j v,cs[j]?=some v→w.cell? (a.add j)=some v) (hfit:o+cs.length≤cur.size) (h1:∀v∈cs,v.oneCell'=true) :
  (Builtin.copy_ #[dT,sT] ty #[.slice (some ⟨g,o,none⟩) dLen dCap, .slice (some a) sLen sCap]).run P w =
   .ok (goInt m) (w.setRow g (cur.toList.take o++cs++cur.toList.drop (o+cs.length)).toArray):=by
 have hl:=run_loadCells_list (P:=P) w a cs hsrc
 have hst:=run_storeCells_at P g o t cs 0 cur w hg (by simpa using hfit) h1
 cases hq:P.info? elem with
 |none=>simp [hq]at hs
 |some i=>
  have hi:i.size=k:=by simpa [hq] using hs
  rw [hn]at hl
  simp [Builtin.copy_,run_underlying hu,Builtin.lenOf,Builtin.firstCells,sizeOf,typeInfo,hq,hi,hm,hl,hst]
theorem wpList_copy_run {P:Program} (w:World) {ops:Array Oper} {rest:List Oper} {o:Oper} {a:Act} {Q:Exit→Act→World→Prop} (hgd:o.guard=none) (d s:Operand) (t t':TypeId)
  (ho:o.op = .call { callee:= .builtin .copy,args:=#[d,s],argTypes:=#[t,t'] }) (v u:Value) (hd:a.eval d=v) (hs:a.eval s=u) {v':Value} {w':World}
  (hr:(Builtin.copy_ #[t,t'] o.type #[v,u]).run P w = .ok v' w') (h:wpList P ops Q rest (a.put o.dst v') w'):wpList P ops Q (o::rest) a w:=
 wpList_plain hgd fun K hK=>by
  unfold Oper.wp execOp
  simp only [ho,resolve,invoke,builtin,Sem.run_bind,Sem.run_pure,Result.andThen_ok,List.map_toArray,List.map_cons,List.map_nil,hd,hs,hr]
  exact hK _ _ h
theorem wpList_append_ran {P:Program} (w:World) {ops:Array Oper} {rest:List Oper} {o:Oper} {a:Act} {Q:Exit→Act→World→Prop} (hgd:o.guard=none) (d s:Operand) (t t':TypeId)
  (ho:o.op = .call { callee:= .builtin .append,args:=#[d,s],argTypes:=#[t,t'] }) (v u:Value) (hd:a.eval d=v) (hs:a.eval s=u) {v':Value} {w':World}
  (hr:(Builtin.append_ #[t,t'] o.type #[v,u]).run P w = .ok v' w') (h:wpList P ops Q rest (a.put o.dst v') w'):wpList P ops Q (o::rest) a w:=
 wpList_plain hgd fun K hK=>by
  unfold Oper.wp execOp
  simp only [ho,resolve,invoke,builtin,Sem.run_bind,Sem.run_pure,Result.andThen_ok,List.map_toArray,List.map_cons,List.map_nil,hd,hs,hr]
  exact hK _ _ h
theorem flat_take {es:List Ent} (i:Nat):(es.take i).flatMap enEnt=(es.flatMap enEnt).take (i*7):=by
 induction es generalizing i with
 |nil=>simp
 |cons e es ih=>
  cases i with
  |zero=>simp
  |succ i=>
   rw [List.take_succ_cons,List.flatMap_cons,List.flatMap_cons,ih,Nat.add_mul,Nat.one_mul,List.take_append,enEnt_length,List.take_of_length_le (l:=enEnt e) (by rw [enEnt_length];omega),Nat.add_sub_cancel]
theorem flat_drop {es:List Ent} (i:Nat):(es.drop i).flatMap enEnt=(es.flatMap enEnt).drop (i*7):=by
 induction es generalizing i with
 |nil=>simp
 |cons e es ih=>
  cases i with
  |zero=>simp
  |succ i=>
   rw [List.drop_succ_cons,List.flatMap_cons,ih,Nat.add_mul,Nat.one_mul,List.drop_append,enEnt_length,(show (enEnt e).drop (i*7+7)=[]from List.drop_eq_nil_of_le (by rw [enEnt_length];omega)),Nat.add_sub_cancel,List.nil_append]
end Go.Proofs.YtnjfkcimboidnaaDoor

/- The walk of slices.Insert of one entry. -/
namespace Go.Proofs.YtnjfkcimboidnaaDoor
open Go.RowKit
set_option maxRecDepth 100000 in
set_option maxHeartbeats 1000000 in
theorem insertE_any {B:Nat} {w:World} {v:Value} {es:List Ent} {i vb:Nat} {x:Ent} (hown:OwnEnts B w v es) (hi:i≤es.length) (hB:B≤w.heap.size) (hlen:es.length≤100000)
  (hvb:w.heap[vb]?=some (.cells #[.int .i64 x.key, .int .i64 x.is.c, .int .i64 x.is.s, .int .i64 x.is.mi, .int .i64 x.is.ma, .int .i64 x.is.t, .int .i64 x.is.l] 96)) (hne:v.ownBlock≠some vb) :
  Calls Tryd.prog 86 #[v, .int .i64 i, .slice (some ⟨vb,0,none⟩) 1 1] w fun e w'=>∃v',e = .returned v'∧OwnEnts B w' v' (es.take i++x::es.drop i)∧w.grownBy w' v.ownBlock∧(v'.ownBlock=v.ownBlock∨v'.ownBlock=some w.heap.size):=by
 have hx:∀j u,(enEnt x)[j]?=some u→w.cell? (Addr.add ⟨vb,0,none⟩ j)=some u:=fun j u h=>by
  have ha:Addr.add ⟨vb,0,none⟩ j=⟨vb,j,none⟩:=by simp [Addr.add];omega
  rw [ha];simp only [World.cell?,hvb];simpa [enEnt] using h
 by_cases hin:i=es.length
 ·subst hin
  obtain⟨so,sc,rfl⟩:=hown.isSlice
  have hE:=Lib.hid (show es.take es.length++x::es.drop es.length=es++[x] by simp)
  obtain⟨i0,z,hi0,hz,hz1,hz2,hz3⟩:=info_some Tryd.iEnt
  go_enter Tryd.func86,Tryd.ntmps86
  go_wp2_with (at_builtin;refine wpList_append_own_at w rfl (.tmp 23) (.tmp 24) 94 rfl B 96 i0 z 7 56 Tryd.underlying94 hi0 hz hz1 hz2 hz3 (by decide) _ es.length _ rfl hown.row ⟨vb,0,none⟩ 1 1 (enEnt x) rfl rfl hx (fun u hu=>enEnt_one [x] u (by simpa using hu)) (by unfold maxLen;omega) (by omega) hB ?_;intro v' w' hown' hg _ hloc)
  all_goals
   go_ret
   (try rw [hE.out])
   refine⟨v',rfl,⟨?_⟩,(by first|exact hg|(cases so <;> exact hg)),(by first|exact hloc|(cases so <;> exact hloc))⟩
   have e:(es++[x]).flatMap enEnt=es.flatMap enEnt++enEnt x:=by simp
   rw [e,List.length_append]
   exact hown'
 ·have hil:i<es.length:=by omega
  obtain⟨hl,⟨rfl,h0⟩|⟨g,cap,cur,rfl,hBg,hg,h1,h2,h3,h4⟩⟩:=hown.row
  ·omega
  ·unfold maxLen at h2
   have hgv:g≠vb:=fun h=>hne (by rw [h];rfl)
   have hvg:vb≠g:=Ne.symm hgv
   have hsz:(Tryd.prog.info? 96).map (·.size)=some 7:=by
    obtain⟨i0,z,hi0,hz,hz1,hz2,hz3⟩:=info_some Tryd.iEnt
    rw [hi0];simp [hz1]
   have hgz:g<w.heap.size:=(Array.getElem?_eq_some_iff.1 hg).1
   have hvz:vb<w.heap.size:=(Array.getElem?_eq_some_iff.1 hvb).1
   obtain⟨C,hC⟩:∃C,es.flatMap enEnt=C:=⟨_,rfl⟩
   have hCl:C.length=es.length*7:=by rw [←hC];exact hl
   rw [hC,←hCl]at h4
   have hC1:∀u∈C,u.oneCell'=true:=by rw [←hC];exact enEnt_one es
   have HRES:=Lib.hid (show (es.take i++x::es.drop i).flatMap enEnt=C.take (i*7)++enEnt x++C.drop (i*7) by
    rw [List.flatMap_append,List.flatMap_cons,flat_take,flat_drop,hC,List.append_assoc])
   have HLEN:=Lib.hid (show (es.take i++x::es.drop i).length=es.length+1 by simp;omega)
   have hov:∀off lb cb,(callFunc 99 #[.slice (some ⟨vb,0,none⟩) 1 1, .slice (some ⟨g,off,none⟩) lb cb]).run Tryd.prog w = .ok (.value (.bool false)) w:=fun off lb cb=>by
    rw [run_callFunc_extern Tryd.func99 (by kernel_rfl) (by kernel_rfl) (by kernel_rfl) (e:=Extern.SlicesOverlaps.overlaps #[94,94] #[4]) (by kernel_rfl),
     Lib.run_overlaps_apart w 94 4 96 Tryd.underlying94 7 (fun w=>by kernel_rfl) ⟨vb,0,none⟩ ⟨g,off,none⟩ 1 1 lb cb hvg 96 96 7 cur.size (by simp [World.shape?,hvb]) (by simp [World.shape?,hg]) (by omega) (by simp [World.frozen?,hvb]) (by simp [World.frozen?,hvb])]
    rfl
   by_cases hroom:es.length+1≤cap
   ·-- in place
    obtain⟨cur1,hcur1⟩:∃cur1,cur1=cur.toList.take (i*7+7)++C.drop (i*7)++cur.toList.drop (i*7+7+(C.drop (i*7)).length):=⟨_,rfl⟩
    obtain⟨cur2,hcur2⟩:∃cur2,cur2=cur1.take (i*7)++enEnt x++cur1.drop (i*7+(enEnt x).length):=⟨_,rfl⟩
    obtain⟨r1,r2,r3⟩:=shift_row (cur:=cur.toList) (C:=C) (X:=enEnt x) (a:=i*7) h4 (by omega) rfl (by simp;omega) hcur1 hcur2
    have hw1:IntKind.i64.wrap ((i:Int)+1)=(i:Int)+1:=IntWalk.i64_in _ (by omega)
    have hw2:IntKind.i64.wrap ((es.length:Int)+1)=(es.length:Int)+1:=IntWalk.i64_in _ (by omega)
    have g0:¬((i:Int)=(es.length:Int)):=by omega
    have g1:¬((cap:Int)<(es.length:Int)+1):=by omega
    go_enter Tryd.func86,Tryd.ntmps86
    go_upto_region 14 with (fail)
    have e7:(i+1)*7=i*7+7:=by omega
    have hdl:(C.drop (i*7)).length=(es.length-i)*7:=by rw [List.length_drop,hCl];omega
    have hcC:∀(W:World),W.heap[g]?=w.heap[g]?→∀j u,(C.drop (i*7))[j]?=some u→W.cell? (Addr.add ⟨g,i*7,none⟩ j)=some u:=fun W hW j u hu=>by
     have ha:Addr.add ⟨g,i*7,none⟩ j=⟨g,i*7+j,none⟩:=by first|(simp [Addr.add];done)|(simp [Addr.add];omega)
     rw [List.getElem?_drop]at hu
     have hj:=(List.getElem?_eq_some_iff.1 hu).1
     rw [←h4,List.getElem?_take,if_pos hj]at hu
     rw [ha]
     simp only [World.cell?,hW,hg]
     simpa using hu
    have hcp1:∀ty dc sc,(Builtin.copy_ #[94,94] ty #[.slice (some ⟨g,(i+1)*7,none⟩) (es.length-i) dc, .slice (some ⟨g,i*7,none⟩) (es.length+1-i) sc]).run Tryd.prog w.drew = .ok (goInt (es.length-i:Nat)) (w.drew.setRow g cur1.toArray):=fun ty dc sc=>by
     have:=run_copy_rowk (P:=Tryd.prog) w.drew 94 94 ty 96 7 g ((i+1)*7) (es.length-i) dc ⟨g,i*7,none⟩ (es.length+1-i) sc (es.length-i) cur 96 (C.drop (i*7)) Tryd.underlying94 hsz hg (by simp only [Nat.min_def];split <;> omega) hdl (hcC _ rfl) (by rw [hdl,h3];omega) (fun u hu=>hC1 u (List.mem_of_mem_drop hu))
     rw [this,e7,←hcur1]
    obtain⟨W1,hW1⟩:∃W1,W1=w.drew.setRow g cur1.toArray:=⟨_,rfl⟩
    have hg1:W1.heap[g]?=some (.cells cur1.toArray 96 (0,0)):=by rw [hW1];exact setRow_heap w.drew g cur _ _ _ hg
    have ho1:∀b,b≠g→W1.heap[b]?=w.heap[b]?:=fun b hb=>by rw [hW1];exact setRow_other w.drew g b _ hb
    have hcp2:∀ty dc,(Builtin.copy_ #[94,94] ty #[.slice (some ⟨g,i*7,none⟩) (es.length+1-i) dc, .slice (some ⟨vb,0,none⟩) 1 1]).run Tryd.prog W1 = .ok (goInt (1:Nat)) (W1.setRow g cur2.toArray):=fun ty dc=>by
     have:=run_copy_rowk (P:=Tryd.prog) W1 94 94 ty 96 7 g (i*7) (es.length+1-i) dc ⟨vb,0,none⟩ 1 1 1 cur1.toArray 96 (enEnt x) Tryd.underlying94 hsz hg1 (by simp only [Nat.min_def];split <;> omega) rfl (fun j u hu=>by
      have ha:Addr.add ⟨vb,0,none⟩ j=⟨vb,j,none⟩:=by simp [Addr.add];omega
      rw [←hx j u hu,ha];exact World.cell?_of_block (ho1 vb hvg)) (by simp [r1,enEnt];omega) (fun u hu=>enEnt_one [x] u (by simpa using hu))
     rw [this]
     simp only []
     rw [←hcur2]
    rw [←hW1]at hcp1
    have b1:(0:Int)≤(i:Int)+1:=by omega
    have b2:¬(cap=i+1):=by omega
    have b3:(i:Int)≤(es.length:Int)+1:=by omega
    have b4:¬(cap=i):=by omega
    have b5:((i:Int)+1).toNat=i+1:=by omega
    have b6:i≤es.length:=by omega
    have b7:(i:Int)+1≤(es.length:Int)+1:=by omega
    have b8:es.length+1-(i+1)=es.length-i:=by omega
    have HR3:=Lib.hid r3
    have HCL:=Lib.hid hCl
    have HW1:=Lib.hid hW1
    clear e7 hdl hcur1 hcur2 r3 hCl hW1
    go_wp2_with (simp only [hov])
    refine wp_region_still_tail 8 (by kernel_rfl) (by kernel_rfl) ?_
    (simp only [List.take_succ_cons,List.take_zero,List.drop_succ_cons,List.drop_zero];(repeat ((with_reducible refine wpStill_step (fun K hK=>?_));go_simp;(with_reducible refine hK _ ?_);clear hK K));(with_reducible refine wpStill_nil ?_))
    change wpList _ _ _ _ _ w.drew
    go_wp2_with (first
     |(at_builtin;refine wpList_copy_run _ rfl (.tmp 73) (.tmp 76) 94 94 rfl _ _ rfl rfl (hcp1 _ _ _) ?_)
     |(at_builtin;refine wpList_copy_run _ rfl (.tmp 80) (.tmp 81) 94 94 rfl _ _ rfl rfl (hcp2 _ _) ?_))
    go_ret
    refine⟨_,rfl,⟨?_⟩,?_, .inl rfl⟩
    ·rw [HRES.out,HLEN.out]
     have hCl:=HCL.out
     refine⟨by simp [hCl,enEnt];omega, .inr ⟨g,cap,cur2.toArray,rfl,hBg,setRow_heap W1 g _ _ _ _ hg1,hroom,by unfold maxLen;omega,by simp [r2,h3],?_⟩⟩
     simp only []
     rw [show (es.length+1)*7=C.length+7 from by omega];exact HR3.out
    ·have hW1:=HW1.out
     refine⟨by rw [hW1];rfl,by rw [hW1];rfl,by rw [hW1];rfl,by rw [hW1];simp [World.setRow],fun k _ hk=>?_⟩
     have hkg:k≠g:=fun h=>hk (by rw [h];rfl)
     exact(setRow_other W1 g k _ hkg).trans (ho1 k hkg)
   ·-- a new row
    have hcap:cap<es.length+1:=by omega
    obtain⟨i0,z,hi0,hz,hz1,hz2,hz3⟩:=info_some Tryd.iEnt
    have hold:(Builtin.firstCells i0.size i (.slice (some ⟨g,0,none⟩) i cap)).run Tryd.prog w.drew = .ok (C.take (i*7)).toArray w.drew:=by
     rw [hz1]
     refine run_firstCells_some w.drew 7 i ⟨g,0,none⟩ i cap (C.take (i*7)) (by rw [List.length_take,hCl];omega) fun j u hu=>?_
     have ha:Addr.add ⟨g,0,none⟩ j=⟨g,j,none⟩:=by simp [Addr.add];omega
     rw [List.getElem?_take]at hu
     split at hu
     ·have hj:=(List.getElem?_eq_some_iff.1 hu).1
      rw [←h4,List.getElem?_take,if_pos hj]at hu
      rw [ha]
      show w.cell? ⟨g,j,none⟩=_
      simp only [World.cell?,hg]
      simpa using hu
     ·cases hu
    obtain⟨G,hG⟩:∃G,G=grownCap w (es.length+1) cap 96:=⟨_,rfl⟩
    have hGn:es.length+1≤G:=by rw [hG];exact grownCap_ge w _ _ _
    have hG63:G≤9223372036854775807:=by
     have:=grownCap_le_maxLen w (es.length+1) cap 96 (by unfold maxLen;omega)
     rw [←hG]at this;unfold maxLen at this;exact this
    obtain⟨Z,hZ⟩:∃Z,Z=(Builtin.zeroCells z.cells (es.length+1-i)++Builtin.zeroCells z.cells (G-(es.length+1))).toList:=⟨_,rfl⟩
    have hZl:Z.length=(G-i)*7:=by rw [hZ];simp [Builtin.zeroCells,hz3];omega
    obtain⟨row,hrow⟩:∃row,row=C.take (i*7)++Z:=⟨_,rfl⟩
    have hrl:row.length=G*7:=by rw [hrow,List.length_append,hZl,List.length_take,hCl];omega
    obtain⟨W1,hW1⟩:∃W1,W1=w.drew.alloc (.cells row.toArray 96):=⟨_,rfl⟩
    have hkk:(es.length:Int)+1-(i:Int)=((es.length+1-i:Nat):Int):=by omega
    have hik:i+(es.length+1-i)=es.length+1:=by omega
    have hrz:∀ty,(Builtin.append_ #[94,3] ty #[.slice (some ⟨g,0,none⟩) i cap, .int .i64 ((es.length:Int)+1-(i:Int))]).run Tryd.prog w = .ok (.slice (some ⟨w.heap.size,0,none⟩) (es.length+1) G) W1:=fun ty=>by
     have h:=Lib.run_append_grow_zeros w 94 3 ty 96 i0 z .i64 .i64 Tryd.underlying94 Tryd.underlying3 hi0 hz (some ⟨g,0,none⟩) i cap (C.take (i*7)) hold (es.length+1-i) (by omega) (by omega) (by omega) (by omega) (by rw [hz2];omega) (by rw [hz2,hik];exact growslice_fits_wide hcap (by omega))
     rw [hik,←hG]at h
     have e:∀(L:List Value) (A D:Array Value),L.toArray++A++D=(L++(A++D).toList).toArray:=fun L A D=>by apply Array.ext';simp
     rw [hkk,h,hW1,hrow,hZ,e]
    obtain⟨cur1,hcur1⟩:∃cur1,cur1=row.take (i*7)++enEnt x++row.drop (i*7+(enEnt x).length):=⟨_,rfl⟩
    obtain⟨cur2,hcur2⟩:∃cur2,cur2=cur1.take (i*7+7)++C.drop (i*7)++cur1.drop (i*7+7+(C.drop (i*7)).length):=⟨_,rfl⟩
    obtain⟨r1,r2,r3⟩:=grow_row (C:=C) (X:=enEnt x) (a:=i*7) hrow (by omega) rfl (by omega) hcur1 hcur2
    have e7:(i+1)*7=i*7+7:=by omega
    have hdl:(C.drop (i*7)).length=(es.length-i)*7:=by rw [List.length_drop,hCl];omega
    obtain⟨N,hN⟩:∃N,N=w.heap.size:=⟨_,rfl⟩
    rw [←hN]at hrz
    have hg1:W1.heap[N]?=some (.cells row.toArray 96 (0,0)):=by rw [hW1,hN];exact heap_new w.drew _ rfl
    have ho1:∀b,b<w.heap.size→W1.heap[b]?=w.heap[b]?:=fun b hb=>by rw [hW1];exact Below.heap_alloc w.drew _ b hb
    have hgN:g≠N:=by omega
    have hvN:vb≠N:=by omega
    have hcpA:∀ty dc,(Builtin.copy_ #[94,94] ty #[.slice (some ⟨N,i*7,none⟩) (es.length+1-i) dc, .slice (some ⟨vb,0,none⟩) 1 1]).run Tryd.prog W1 = .ok (goInt (1:Nat)) (W1.setRow N cur1.toArray):=fun ty dc=>by
     have:=run_copy_rowk (P:=Tryd.prog) W1 94 94 ty 96 7 N (i*7) (es.length+1-i) dc ⟨vb,0,none⟩ 1 1 1 row.toArray 96 (enEnt x) Tryd.underlying94 hsz hg1 (by simp only [Nat.min_def];split <;> omega) rfl (fun j u hu=>by
      have ha:Addr.add ⟨vb,0,none⟩ j=⟨vb,j,none⟩:=by simp [Addr.add];omega
      rw [←hx j u hu,ha];exact World.cell?_of_block (ho1 vb hvz)) (by simp [hrl,enEnt];omega) (fun u hu=>enEnt_one [x] u (by simpa using hu))
     rw [this]
     simp only []
     rw [←hcur1]
    obtain⟨W2,hW2⟩:∃W2,W2=W1.setRow N cur1.toArray:=⟨_,rfl⟩
    have hg2:W2.heap[N]?=some (.cells cur1.toArray 96 (0,0)):=by rw [hW2];exact setRow_heap W1 N _ _ _ _ hg1
    have ho2:∀b,b<w.heap.size→W2.heap[b]?=w.heap[b]?:=fun b hb=>by rw [hW2];exact(setRow_other W1 N b _ (by omega)).trans (ho1 b hb)
    rw [←hW2]at hcpA
    have hcpB:∀ty dc sc,(Builtin.copy_ #[94,94] ty #[.slice (some ⟨N,(i+1)*7,none⟩) (es.length-i) dc, .slice (some ⟨g,i*7,none⟩) (es.length-i) sc]).run Tryd.prog W2.drew = .ok (goInt (es.length-i:Nat)) (W2.drew.setRow N cur2.toArray):=fun ty dc sc=>by
     have:=run_copy_rowk (P:=Tryd.prog) W2.drew 94 94 ty 96 7 N ((i+1)*7) (es.length-i) dc ⟨g,i*7,none⟩ (es.length-i) sc (es.length-i) cur1.toArray 96 (C.drop (i*7)) Tryd.underlying94 hsz hg2 (by simp only [Nat.min_def];split <;> omega) hdl (fun j u hu=>by
      have ha:Addr.add ⟨g,i*7,none⟩ j=⟨g,i*7+j,none⟩:=by first|(simp [Addr.add];done)|(simp [Addr.add];omega)
      rw [List.getElem?_drop]at hu
      have hj:=(List.getElem?_eq_some_iff.1 hu).1
      rw [←h4,List.getElem?_take,if_pos hj]at hu
      rw [ha]
      show W2.cell? ⟨g,i*7+j,none⟩=_
      rw [World.cell?_of_block (ho2 g hgz)]
      simp only [World.cell?,hg]
      simpa using hu) (by simp [r1,hrl,hdl];omega) (fun u hu=>hC1 u (List.mem_of_mem_drop hu))
     rw [this,e7]
     simp only []
     rw [←hcur2]
    have hw1:IntKind.i64.wrap ((i:Int)+1)=(i:Int)+1:=IntWalk.i64_in _ (by omega)
    have hw2:IntKind.i64.wrap ((es.length:Int)+1)=(es.length:Int)+1:=IntWalk.i64_in _ (by omega)
    have hw3:IntKind.i64.wrap ((es.length:Int)+1-(i:Int))=(es.length:Int)+1-(i:Int):=IntWalk.i64_in _ (by omega)
    have g0:¬((i:Int)=(es.length:Int)):=by omega
    have g1:(cap:Int)<(es.length:Int)+1:=by omega
    have b1:(0:Int)≤(i:Int)+1:=by omega
    have b2:¬(G=i+1):=by omega
    have b3:(i:Int)≤(es.length:Int)+1:=by omega
    have b4:¬(cap=i):=by omega
    have b4':¬(G=i):=by omega
    have b5:((i:Int)+1).toNat=i+1:=by omega
    have b6:i≤es.length:=by omega
    have b7:(i:Int)+1≤(es.length:Int)+1:=by omega
    have b8:es.length+1-(i+1)=es.length-i:=by omega
    have HR3:=Lib.hid r3
    have HCL:=Lib.hid hCl
    have HW1:=Lib.hid hW1
    have HW2:=Lib.hid hW2
    have HNN:=Lib.hid hN
    have HR2:=Lib.hid (r2.trans (hrl))
    clear e7 hdl hcur1 hcur2 r3 hCl hW1 hW2 hN hG hkk hik hZ hZl hrow hrl r1 r2
    go_enter Tryd.func86,Tryd.ntmps86
    go_wp2_with (first
     |(at_builtin;refine wpList_append_ran _ rfl (.tmp 34) (.tmp 39) 94 3 rfl _ _ rfl rfl (hrz _) ?_)
     |(at_builtin;refine wpList_copy_run _ rfl (.tmp 43) (.tmp 44) 94 94 rfl _ _ rfl rfl (hcpA _ _) ?_))
    refine wp_region_still_tail 8 (by kernel_rfl) (by kernel_rfl) ?_
    (simp only [List.take_succ_cons,List.take_zero,List.drop_succ_cons,List.drop_zero];(repeat ((with_reducible refine wpStill_step (fun K hK=>?_));go_simp;(with_reducible refine hK _ ?_);clear hK K));(with_reducible refine wpStill_nil ?_))
    change wpList _ _ _ _ _ W2.drew
    go_wp2_with ((at_builtin;refine wpList_copy_run _ rfl (.tmp 50) (.tmp 53) 94 94 rfl _ _ rfl rfl (hcpB _ _ _) ?_))
    go_ret
    have hCl:=HCL.out
    have hN:=HNN.out
    refine⟨_,rfl,⟨?_⟩,?_, .inr (by rw [hN];rfl)⟩
    ·rw [HRES.out,HLEN.out]
     refine⟨by simp [hCl,enEnt];omega, .inr ⟨N,G,cur2.toArray,rfl,by omega,setRow_heap W2.drew N _ _ _ _ hg2,hGn,by unfold maxLen;omega,by simp [HR2.out],?_⟩⟩
     simp only []
     rw [show (es.length+1)*7=C.length+7 from by omega];exact HR3.out
    ·refine⟨by rw [HW2.out,HW1.out];rfl,by rw [HW2.out,HW1.out];rfl,by rw [HW2.out,HW1.out];rfl,by rw [HW2.out,HW1.out];simp [World.setRow,World.alloc],fun k hk _=>?_⟩
     exact(setRow_other W2.drew N k _ (by omega)).trans (ho2 k hk)
end Go.Proofs.YtnjfkcimboidnaaDoor

/- A row of integers of one's own; the walk of slices.Insert of one integer. -/
namespace Go.Proofs.YtnjfkcimboidnaaDoor
open Go.RowKit
structure OwnInts (B:Nat) (w:World) (v:Value) (es:List Int):Prop where
 row:w.ownsRow B 3 1 v es.length (es.flatMap enInt)
theorem OwnInts.nil (B:Nat) (w:World):OwnInts B w (.slice none 0 0) []:=⟨World.ownsRow_nil _ _ _ _⟩
theorem OwnInts.alloc {B:Nat} {w:World} {v:Value} {es:List Int} (h:OwnInts B w v es) (o:Obj):OwnInts B (w.alloc o) v es:=⟨World.ownsRow.alloc h.row o⟩
theorem OwnInts.block {B:Nat} {w w':World} {v:Value} {es:List Int} (h:OwnInts B w v es) (hb:∀g,v.ownBlock=some g→w'.heap[g]?=w.heap[g]?):OwnInts B w' v es:=by
 obtain⟨hl,⟨rfl,h0⟩|⟨g,cap,cur,rfl,hB,hg,h1,h2,h3,h4⟩⟩:=h.row
 ·exact⟨⟨hl, .inl ⟨rfl,h0⟩⟩⟩
 ·exact⟨⟨hl, .inr ⟨g,cap,cur,rfl,hB,(hb g rfl).trans hg,h1,h2,h3,h4⟩⟩⟩
theorem OwnInts.drew {B:Nat} {w:World} {v:Value} {es:List Int} (h:OwnInts B w v es):OwnInts B w.drew v es:=h.block fun _ _=>rfl
theorem OwnInts.drewN {B:Nat} {w:World} {v:Value} {es:List Int} (h:OwnInts B w v es) (n:Nat):OwnInts B (w.drewN n) v es:=h.block fun _ _=>rfl
theorem OwnInts.lt {B:Nat} {w:World} {v:Value} {es:List Int} (h:OwnInts B w v es):∀g,v.ownBlock=some g→B≤g∧g<w.heap.size:=World.ownsRow.lt h.row
theorem OwnInts.below {B C:Nat} {w w':World} {v:Value} {es:List Int} (h:OwnInts B w v es) (hb:Below C w w') (hC:w.heap.size≤C):OwnInts B w' v es:=h.block fun g hg=>hb.block g (by have:=(h.lt g hg).2;omega)
theorem OwnInts.mono {B C:Nat} {w:World} {v:Value} {es:List Int} (h:OwnInts B w v es) (hC:C≤B):OwnInts C w v es:=by
 obtain⟨hl,⟨rfl,h0⟩|⟨g,cap,cur,rfl,hB,hg,h1,h2,h3,h4⟩⟩:=h.row
 ·exact⟨⟨hl, .inl ⟨rfl,h0⟩⟩⟩
 ·exact⟨⟨hl, .inr ⟨g,cap,cur,rfl,by omega,hg,h1,h2,h3,h4⟩⟩⟩
theorem OwnInts.at {B:Nat} {w:World} {v:Value} {es:List Int} (h:OwnInts B w v es) (hs:es.length≤1000000):IntsAt w v es:=SlAt.owned enInt_length h.row rfl (by omega)
theorem OwnInts.isSlice {B:Nat} {w:World} {v:Value} {es:List Int} (h:OwnInts B w v es):∃ao cap,v = .slice ao es.length cap:=by
 obtain⟨hl,⟨rfl,h0⟩|⟨g,cap,cur,rfl,_⟩⟩:=h.row
 ·exact⟨none,0,by rw [h0]⟩
 ·exact⟨_,_,rfl⟩
theorem shift_row1 {cur C X:List Value} {a:Nat} (hC:cur.take C.length=C) (ha:a≤C.length) (hX:X.length=1) (hfit:C.length+1≤cur.length) {cur1 cur2:List Value}
  (h1:cur1=cur.take (a+1)++C.drop a++cur.drop (a+1+(C.drop a).length)) (h2:cur2=cur1.take a++X++cur1.drop (a+X.length)) :
  cur1.length=cur.length∧cur2.length=cur.length∧cur2.take (C.length+1)=C.take a++X++C.drop a:=by
 have l1:cur1.length=cur.length:=by rw [h1];simp;omega
 have e1:cur1.take a=C.take a:=by
  rw [h1,List.append_assoc,List.take_append_of_le_length (by simp;omega),List.take_take,←hC,List.take_take]
  congr 1;omega
 have e2:cur1.drop (a+X.length)=C.drop a++cur.drop (a+1+(C.drop a).length):=by
  rw [h1,hX,List.append_assoc,List.drop_append_of_le_length (by simp;omega),List.drop_eq_nil_of_le (by simp;omega),List.nil_append]
 refine⟨l1,by rw [h2];simp;omega,?_⟩
 rw [h2,e1,e2,←List.append_assoc,List.take_append_of_le_length (by simp;omega),List.take_of_length_le (by simp;omega)]
theorem grow_row1 {row C X Z:List Value} {a:Nat} (hr:row=C.take a++Z) (ha:a≤C.length) (hX:X.length=1) (hfit:C.length+1≤row.length) {cur1 cur2:List Value}
  (h1:cur1=row.take a++X++row.drop (a+X.length)) (h2:cur2=cur1.take (a+1)++C.drop a++cur1.drop (a+1+(C.drop a).length)) :
  cur1.length=row.length∧cur2.length=row.length∧cur2.take (C.length+1)=C.take a++X++C.drop a:=by
 have l1:cur1.length=row.length:=by rw [h1];simp;omega
 have e0:row.take a=C.take a:=by rw [hr,List.take_append_of_le_length (by simp;omega),List.take_of_length_le (by simp;omega)]
 have e1:cur1.take (a+1)=C.take a++X:=by
  rw [h1,e0,List.take_append_of_le_length (by simp;omega),List.take_of_length_le (by simp;omega)]
 refine⟨l1,by rw [h2];simp;omega,?_⟩
 rw [h2,e1,List.take_append_of_le_length (by simp;omega),List.take_of_length_le (by simp;omega)]
theorem flatI (es:List Int):es.flatMap enInt=es.map (Value.int .i64):=by
 induction es with
 |nil=>rfl
 |cons e es ih=>rw [List.flatMap_cons,ih];rfl
theorem flatI_take {es:List Int} (i:Nat):(es.take i).flatMap enInt=(es.flatMap enInt).take i:=by rw [flatI,flatI,List.map_take]
theorem flatI_drop {es:List Int} (i:Nat):(es.drop i).flatMap enInt=(es.flatMap enInt).drop i:=by rw [flatI,flatI,List.map_drop]
set_option maxRecDepth 100000 in
set_option maxHeartbeats 1000000 in
theorem insertI_any {B:Nat} {w:World} {v:Value} {es:List Int} {i vb:Nat} {x:Int} (hown:OwnInts B w v es) (hi:i≤es.length) (hB:B≤w.heap.size) (hlen:es.length≤100000)
  (hvb:w.heap[vb]?=some (.cells #[.int .i64 x] 3)) (hne:v.ownBlock≠some vb) :
  Calls Tryd.prog 101 #[v, .int .i64 i, .slice (some ⟨vb,0,none⟩) 1 1] w fun e w'=>∃v',e = .returned v'∧OwnInts B w' v' (es.take i++x::es.drop i)∧w.grownBy w' v.ownBlock∧(v'.ownBlock=v.ownBlock∨v'.ownBlock=some w.heap.size):=by
 have hx:∀j u,(enInt x)[j]?=some u→w.cell? (Addr.add ⟨vb,0,none⟩ j)=some u:=fun j u h=>by
  have ha:Addr.add ⟨vb,0,none⟩ j=⟨vb,j,none⟩:=by simp [Addr.add];omega
  rw [ha];simp only [World.cell?,hvb];simpa [enInt] using h
 by_cases hin:i=es.length
 ·subst hin
  obtain⟨so,sc,rfl⟩:=hown.isSlice
  have hE:=Lib.hid (show es.take es.length++x::es.drop es.length=es++[x] by simp)
  obtain⟨i0,z,hi0,hz,hz1,hz2,hz3⟩:=info_some Tryd.iInt
  go_enter Tryd.func101,Tryd.ntmps101
  go_wp2_with (at_builtin;refine wpList_append_own_at w rfl (.tmp 23) (.tmp 24) 83 rfl B 3 i0 z 1 8 Tryd.underlying83 hi0 hz hz1 hz2 hz3 (by decide) _ es.length _ rfl hown.row ⟨vb,0,none⟩ 1 1 (enInt x) rfl rfl hx (fun u hu=>enInt_one [x] u (by simpa using hu)) (by unfold maxLen;omega) (by omega) hB ?_;intro v' w' hown' hg _ hloc)
  all_goals
   go_ret
   (try rw [hE.out])
   refine⟨v',rfl,⟨?_⟩,(by first|exact hg|(cases so <;> exact hg)),(by first|exact hloc|(cases so <;> exact hloc))⟩
   have e:(es++[x]).flatMap enInt=es.flatMap enInt++enInt x:=by simp
   rw [e,List.length_append]
   exact hown'
 ·have hil:i<es.length:=by omega
  obtain⟨hl,⟨rfl,h0⟩|⟨g,cap,cur,rfl,hBg,hg,h1,h2,h3,h4⟩⟩:=hown.row
  ·omega
  ·unfold maxLen at h2
   have hgv:g≠vb:=fun h=>hne (by rw [h];rfl)
   have hvg:vb≠g:=Ne.symm hgv
   have hsz:(Tryd.prog.info? 3).map (·.size)=some 1:=by
    obtain⟨i0,z,hi0,hz,hz1,hz2,hz3⟩:=info_some Tryd.iInt
    rw [hi0];simp [hz1]
   have hgz:g<w.heap.size:=(Array.getElem?_eq_some_iff.1 hg).1
   have hvz:vb<w.heap.size:=(Array.getElem?_eq_some_iff.1 hvb).1
   obtain⟨C,hC⟩:∃C,es.flatMap enInt=C:=⟨_,rfl⟩
   have hCl:C.length=es.length:=by rw [←hC,hl,Nat.mul_one]
   rw [hC,←hCl,Nat.mul_one]at h4
   have hC1:∀u∈C,u.oneCell'=true:=by rw [←hC];exact enInt_one es
   have HRES:=Lib.hid (show (es.take i++x::es.drop i).flatMap enInt=C.take (i)++enInt x++C.drop (i) by
    rw [List.flatMap_append,List.flatMap_cons,flatI_take,flatI_drop,hC,List.append_assoc])
   have HLEN:=Lib.hid (show (es.take i++x::es.drop i).length=es.length+1 by simp;omega)
   have hov:∀off lb cb,(callFunc 107 #[.slice (some ⟨vb,0,none⟩) 1 1, .slice (some ⟨g,off,none⟩) lb cb]).run Tryd.prog w = .ok (.value (.bool false)) w:=fun off lb cb=>by
    rw [run_callFunc_extern Tryd.func107 (by kernel_rfl) (by kernel_rfl) (by kernel_rfl) (e:=Extern.SlicesOverlaps.overlaps #[83,83] #[4]) (by kernel_rfl),
     Lib.run_overlaps_apart w 83 4 3 Tryd.underlying83 1 (fun w=>by kernel_rfl) ⟨vb,0,none⟩ ⟨g,off,none⟩ 1 1 lb cb hvg 3 3 1 cur.size (by simp [World.shape?,hvb]) (by simp [World.shape?,hg]) (by omega) (by simp [World.frozen?,hvb]) (by simp [World.frozen?,hvb])]
    rfl
   by_cases hroom:es.length+1≤cap
   ·-- in place
    obtain⟨cur1,hcur1⟩:∃cur1,cur1=cur.toList.take (i+1)++C.drop (i)++cur.toList.drop (i+1+(C.drop (i)).length):=⟨_,rfl⟩
    obtain⟨cur2,hcur2⟩:∃cur2,cur2=cur1.take (i)++enInt x++cur1.drop (i+(enInt x).length):=⟨_,rfl⟩
    obtain⟨r1,r2,r3⟩:=shift_row1 (cur:=cur.toList) (C:=C) (X:=enInt x) (a:=i) h4 (by omega) rfl (by simp;omega) hcur1 hcur2
    have hw1:IntKind.i64.wrap ((i:Int)+1)=(i:Int)+1:=IntWalk.i64_in _ (by omega)
    have hw2:IntKind.i64.wrap ((es.length:Int)+1)=(es.length:Int)+1:=IntWalk.i64_in _ (by omega)
    have g0:¬((i:Int)=(es.length:Int)):=by omega
    have g1:¬((cap:Int)<(es.length:Int)+1):=by omega
    go_enter Tryd.func101,Tryd.ntmps101
    go_upto_region 14 with (fail)
    have e7:(i+1)=i+1:=by omega
    have hdl:(C.drop (i)).length=(es.length-i):=by rw [List.length_drop,hCl]
    have hcC:∀(W:World),W.heap[g]?=w.heap[g]?→∀j u,(C.drop (i))[j]?=some u→W.cell? (Addr.add ⟨g,i,none⟩ j)=some u:=fun W hW j u hu=>by
     have ha:Addr.add ⟨g,i,none⟩ j=⟨g,i+j,none⟩:=by first|(simp [Addr.add];done)|(simp [Addr.add];omega)
     rw [List.getElem?_drop]at hu
     have hj:=(List.getElem?_eq_some_iff.1 hu).1
     rw [←h4,List.getElem?_take,if_pos hj]at hu
     rw [ha]
     simp only [World.cell?,hW,hg]
     simpa using hu
    have hcp1:∀ty dc sc,(Builtin.copy_ #[83,83] ty #[.slice (some ⟨g,(i+1),none⟩) (es.length-i) dc, .slice (some ⟨g,i,none⟩) (es.length+1-i) sc]).run Tryd.prog w.drew = .ok (goInt (es.length-i:Nat)) (w.drew.setRow g cur1.toArray):=fun ty dc sc=>by
     have:=run_copy_rowk (P:=Tryd.prog) w.drew 83 83 ty 3 1 g ((i+1)) (es.length-i) dc ⟨g,i,none⟩ (es.length+1-i) sc (es.length-i) cur 3 (C.drop (i)) Tryd.underlying83 hsz hg (by simp only [Nat.min_def];split <;> omega) (by rw [hdl,Nat.mul_one]) (hcC _ rfl) (by rw [hdl,h3];omega) (fun u hu=>hC1 u (List.mem_of_mem_drop hu))
     rw [this,e7,←hcur1]
    obtain⟨W1,hW1⟩:∃W1,W1=w.drew.setRow g cur1.toArray:=⟨_,rfl⟩
    have hg1:W1.heap[g]?=some (.cells cur1.toArray 3 (0,0)):=by rw [hW1];exact setRow_heap w.drew g cur _ _ _ hg
    have ho1:∀b,b≠g→W1.heap[b]?=w.heap[b]?:=fun b hb=>by rw [hW1];exact setRow_other w.drew g b _ hb
    have hcp2:∀ty dc,(Builtin.copy_ #[83,83] ty #[.slice (some ⟨g,i,none⟩) (es.length+1-i) dc, .slice (some ⟨vb,0,none⟩) 1 1]).run Tryd.prog W1 = .ok (goInt (1:Nat)) (W1.setRow g cur2.toArray):=fun ty dc=>by
     have:=run_copy_rowk (P:=Tryd.prog) W1 83 83 ty 3 1 g (i) (es.length+1-i) dc ⟨vb,0,none⟩ 1 1 1 cur1.toArray 3 (enInt x) Tryd.underlying83 hsz hg1 (by simp only [Nat.min_def];split <;> omega) rfl (fun j u hu=>by
      have ha:Addr.add ⟨vb,0,none⟩ j=⟨vb,j,none⟩:=by simp [Addr.add];omega
      rw [←hx j u hu,ha];exact World.cell?_of_block (ho1 vb hvg)) (by simp [r1,enInt];omega) (fun u hu=>enInt_one [x] u (by simpa using hu))
     rw [this]
     simp only []
     rw [←hcur2]
    rw [←hW1]at hcp1
    have b1:(0:Int)≤(i:Int)+1:=by omega
    have b2:¬(cap=i+1):=by omega
    have b3:(i:Int)≤(es.length:Int)+1:=by omega
    have b4:¬(cap=i):=by omega
    have b5:((i:Int)+1).toNat=i+1:=by omega
    have b6:i≤es.length:=by omega
    have b7:(i:Int)+1≤(es.length:Int)+1:=by omega
    have b8:es.length+1-(i+1)=es.length-i:=by omega
    have HR3:=Lib.hid r3
    have HCL:=Lib.hid hCl
    have HW1:=Lib.hid hW1
    clear e7 hdl hcur1 hcur2 r3 hCl hW1
    go_wp2_with (simp only [hov])
    refine wp_region_still_tail 8 (by kernel_rfl) (by kernel_rfl) ?_
    (simp only [List.take_succ_cons,List.take_zero,List.drop_succ_cons,List.drop_zero];(repeat ((with_reducible refine wpStill_step (fun K hK=>?_));go_simp;(with_reducible refine hK _ ?_);clear hK K));(with_reducible refine wpStill_nil ?_))
    change wpList _ _ _ _ _ w.drew
    go_wp2_with (first
     |(at_builtin;refine wpList_copy_run _ rfl (.tmp 73) (.tmp 76) 83 83 rfl _ _ rfl rfl (hcp1 _ _ _) ?_)
     |(at_builtin;refine wpList_copy_run _ rfl (.tmp 80) (.tmp 81) 83 83 rfl _ _ rfl rfl (hcp2 _ _) ?_))
    go_ret
    refine⟨_,rfl,⟨?_⟩,?_, .inl rfl⟩
    ·rw [HRES.out,HLEN.out]
     have hCl:=HCL.out
     refine⟨by simp [hCl,enInt];omega, .inr ⟨g,cap,cur2.toArray,rfl,hBg,setRow_heap W1 g _ _ _ _ hg1,hroom,by unfold maxLen;omega,by simp [r2,h3],?_⟩⟩
     simp only []
     rw [show (es.length+1)*1=C.length+1 from by omega];exact HR3.out
    ·have hW1:=HW1.out
     refine⟨by rw [hW1];rfl,by rw [hW1];rfl,by rw [hW1];rfl,by rw [hW1];simp [World.setRow],fun k _ hk=>?_⟩
     have hkg:k≠g:=fun h=>hk (by rw [h];rfl)
     exact(setRow_other W1 g k _ hkg).trans (ho1 k hkg)
   ·-- a new row
    have hcap:cap<es.length+1:=by omega
    obtain⟨i0,z,hi0,hz,hz1,hz2,hz3⟩:=info_some Tryd.iInt
    have hold:(Builtin.firstCells i0.size i (.slice (some ⟨g,0,none⟩) i cap)).run Tryd.prog w.drew = .ok (C.take (i)).toArray w.drew:=by
     rw [hz1]
     refine run_firstCells_some w.drew 1 i ⟨g,0,none⟩ i cap (C.take (i)) (by rw [List.length_take,hCl];omega) fun j u hu=>?_
     have ha:Addr.add ⟨g,0,none⟩ j=⟨g,j,none⟩:=by simp [Addr.add];omega
     rw [List.getElem?_take]at hu
     split at hu
     ·have hj:=(List.getElem?_eq_some_iff.1 hu).1
      rw [←h4,List.getElem?_take,if_pos hj]at hu
      rw [ha]
      show w.cell? ⟨g,j,none⟩=_
      simp only [World.cell?,hg]
      simpa using hu
     ·cases hu
    obtain⟨G,hG⟩:∃G,G=grownCap w (es.length+1) cap 3:=⟨_,rfl⟩
    have hGn:es.length+1≤G:=by rw [hG];exact grownCap_ge w _ _ _
    have hG63:G≤9223372036854775807:=by
     have:=grownCap_le_maxLen w (es.length+1) cap 3 (by unfold maxLen;omega)
     rw [←hG]at this;unfold maxLen at this;exact this
    obtain⟨Z,hZ⟩:∃Z,Z=(Builtin.zeroCells z.cells (es.length+1-i)++Builtin.zeroCells z.cells (G-(es.length+1))).toList:=⟨_,rfl⟩
    have hZl:Z.length=(G-i):=by rw [hZ];simp [Builtin.zeroCells,hz3];omega
    obtain⟨row,hrow⟩:∃row,row=C.take (i)++Z:=⟨_,rfl⟩
    have hrl:row.length=G:=by rw [hrow,List.length_append,hZl,List.length_take,hCl];omega
    obtain⟨W1,hW1⟩:∃W1,W1=w.drew.alloc (.cells row.toArray 3):=⟨_,rfl⟩
    have hkk:(es.length:Int)+1-(i:Int)=((es.length+1-i:Nat):Int):=by omega
    have hik:i+(es.length+1-i)=es.length+1:=by omega
    have hrz:∀ty,(Builtin.append_ #[83,3] ty #[.slice (some ⟨g,0,none⟩) i cap, .int .i64 ((es.length:Int)+1-(i:Int))]).run Tryd.prog w = .ok (.slice (some ⟨w.heap.size,0,none⟩) (es.length+1) G) W1:=fun ty=>by
     have h:=Lib.run_append_grow_zeros w 83 3 ty 3 i0 z .i64 .i64 Tryd.underlying83 Tryd.underlying3 hi0 hz (some ⟨g,0,none⟩) i cap (C.take (i)) hold (es.length+1-i) (by omega) (by omega) (by omega) (by omega) (by rw [hz2];omega) (by rw [hz2,hik];exact growslice_fits_wide hcap (by omega))
     rw [hik,←hG]at h
     have e:∀(L:List Value) (A D:Array Value),L.toArray++A++D=(L++(A++D).toList).toArray:=fun L A D=>by apply Array.ext';simp
     rw [hkk,h,hW1,hrow,hZ,e]
    obtain⟨cur1,hcur1⟩:∃cur1,cur1=row.take (i)++enInt x++row.drop (i+(enInt x).length):=⟨_,rfl⟩
    obtain⟨cur2,hcur2⟩:∃cur2,cur2=cur1.take (i+1)++C.drop (i)++cur1.drop (i+1+(C.drop (i)).length):=⟨_,rfl⟩
    obtain⟨r1,r2,r3⟩:=grow_row1 (C:=C) (X:=enInt x) (a:=i) hrow (by omega) rfl (by omega) hcur1 hcur2
    have e7:(i+1)=i+1:=by omega
    have hdl:(C.drop (i)).length=(es.length-i):=by rw [List.length_drop,hCl]
    obtain⟨N,hN⟩:∃N,N=w.heap.size:=⟨_,rfl⟩
    rw [←hN]at hrz
    have hg1:W1.heap[N]?=some (.cells row.toArray 3 (0,0)):=by rw [hW1,hN];exact heap_new w.drew _ rfl
    have ho1:∀b,b<w.heap.size→W1.heap[b]?=w.heap[b]?:=fun b hb=>by rw [hW1];exact Below.heap_alloc w.drew _ b hb
    have hgN:g≠N:=by omega
    have hvN:vb≠N:=by omega
    have hcpA:∀ty dc,(Builtin.copy_ #[83,83] ty #[.slice (some ⟨N,i,none⟩) (es.length+1-i) dc, .slice (some ⟨vb,0,none⟩) 1 1]).run Tryd.prog W1 = .ok (goInt (1:Nat)) (W1.setRow N cur1.toArray):=fun ty dc=>by
     have:=run_copy_rowk (P:=Tryd.prog) W1 83 83 ty 3 1 N (i) (es.length+1-i) dc ⟨vb,0,none⟩ 1 1 1 row.toArray 3 (enInt x) Tryd.underlying83 hsz hg1 (by simp only [Nat.min_def];split <;> omega) rfl (fun j u hu=>by
      have ha:Addr.add ⟨vb,0,none⟩ j=⟨vb,j,none⟩:=by simp [Addr.add];omega
      rw [←hx j u hu,ha];exact World.cell?_of_block (ho1 vb hvz)) (by simp [hrl,enInt];omega) (fun u hu=>enInt_one [x] u (by simpa using hu))
     rw [this]
     simp only []
     rw [←hcur1]
    obtain⟨W2,hW2⟩:∃W2,W2=W1.setRow N cur1.toArray:=⟨_,rfl⟩
    have hg2:W2.heap[N]?=some (.cells cur1.toArray 3 (0,0)):=by rw [hW2];exact setRow_heap W1 N _ _ _ _ hg1
    have ho2:∀b,b<w.heap.size→W2.heap[b]?=w.heap[b]?:=fun b hb=>by rw [hW2];exact(setRow_other W1 N b _ (by omega)).trans (ho1 b hb)
    rw [←hW2]at hcpA
    have hcpB:∀ty dc sc,(Builtin.copy_ #[83,83] ty #[.slice (some ⟨N,(i+1),none⟩) (es.length-i) dc, .slice (some ⟨g,i,none⟩) (es.length-i) sc]).run Tryd.prog W2.drew = .ok (goInt (es.length-i:Nat)) (W2.drew.setRow N cur2.toArray):=fun ty dc sc=>by
     have:=run_copy_rowk (P:=Tryd.prog) W2.drew 83 83 ty 3 1 N ((i+1)) (es.length-i) dc ⟨g,i,none⟩ (es.length-i) sc (es.length-i) cur1.toArray 3 (C.drop (i)) Tryd.underlying83 hsz hg2 (by simp only [Nat.min_def];split <;> omega) (by rw [hdl,Nat.mul_one]) (fun j u hu=>by
      have ha:Addr.add ⟨g,i,none⟩ j=⟨g,i+j,none⟩:=by first|(simp [Addr.add];done)|(simp [Addr.add];omega)
      rw [List.getElem?_drop]at hu
      have hj:=(List.getElem?_eq_some_iff.1 hu).1
      rw [←h4,List.getElem?_take,if_pos hj]at hu
      rw [ha]
      show W2.cell? ⟨g,i+j,none⟩=_
      rw [World.cell?_of_block (ho2 g hgz)]
      simp only [World.cell?,hg]
      simpa using hu) (by simp [r1,hrl,hdl];omega) (fun u hu=>hC1 u (List.mem_of_mem_drop hu))
     rw [this,e7]
     simp only []
     rw [←hcur2]
    have hw1:IntKind.i64.wrap ((i:Int)+1)=(i:Int)+1:=IntWalk.i64_in _ (by omega)
    have hw2:IntKind.i64.wrap ((es.length:Int)+1)=(es.length:Int)+1:=IntWalk.i64_in _ (by omega)
    have hw3:IntKind.i64.wrap ((es.length:Int)+1-(i:Int))=(es.length:Int)+1-(i:Int):=IntWalk.i64_in _ (by omega)
    have g0:¬((i:Int)=(es.length:Int)):=by omega
    have g1:(cap:Int)<(es.length:Int)+1:=by omega
    have b1:(0:Int)≤(i:Int)+1:=by omega
    have b2:¬(G=i+1):=by omega
    have b3:(i:Int)≤(es.length:Int)+1:=by omega
    have b4:¬(cap=i):=by omega
    have b4':¬(G=i):=by omega
    have b5:((i:Int)+1).toNat=i+1:=by omega
    have b6:i≤es.length:=by omega
    have b7:(i:Int)+1≤(es.length:Int)+1:=by omega
    have b8:es.length+1-(i+1)=es.length-i:=by omega
    have HR3:=Lib.hid r3
    have HCL:=Lib.hid hCl
    have HW1:=Lib.hid hW1
    have HW2:=Lib.hid hW2
    have HNN:=Lib.hid hN
    have HR2:=Lib.hid (r2.trans (hrl))
    clear e7 hdl hcur1 hcur2 r3 hCl hW1 hW2 hN hG hkk hik hZ hZl hrow hrl r1 r2
    go_enter Tryd.func101,Tryd.ntmps101
    go_wp2_with (first
     |(at_builtin;refine wpList_append_ran _ rfl (.tmp 34) (.tmp 39) 83 3 rfl _ _ rfl rfl (hrz _) ?_)
     |(at_builtin;refine wpList_copy_run _ rfl (.tmp 43) (.tmp 44) 83 83 rfl _ _ rfl rfl (hcpA _ _) ?_))
    refine wp_region_still_tail 8 (by kernel_rfl) (by kernel_rfl) ?_
    (simp only [List.take_succ_cons,List.take_zero,List.drop_succ_cons,List.drop_zero];(repeat ((with_reducible refine wpStill_step (fun K hK=>?_));go_simp;(with_reducible refine hK _ ?_);clear hK K));(with_reducible refine wpStill_nil ?_))
    change wpList _ _ _ _ _ W2.drew
    go_wp2_with ((at_builtin;refine wpList_copy_run _ rfl (.tmp 50) (.tmp 53) 83 83 rfl _ _ rfl rfl (hcpB _ _ _) ?_))
    go_ret
    have hCl:=HCL.out
    have hN:=HNN.out
    refine⟨_,rfl,⟨?_⟩,?_, .inr (by rw [hN];rfl)⟩
    ·rw [HRES.out,HLEN.out]
     refine⟨by simp [hCl,enInt];omega, .inr ⟨N,G,cur2.toArray,rfl,by omega,setRow_heap W2.drew N _ _ _ _ hg2,hGn,by unfold maxLen;omega,by simp [HR2.out],?_⟩⟩
     simp only []
     rw [show (es.length+1)*1=C.length+1 from by omega];exact HR3.out
    ·refine⟨by rw [HW2.out,HW1.out];rfl,by rw [HW2.out,HW1.out];rfl,by rw [HW2.out,HW1.out];rfl,by rw [HW2.out,HW1.out];simp [World.setRow,World.alloc],fun k hk _=>?_⟩
     exact(setRow_other W2.drew N k _ (by omega)).trans (ho2 k hk)
end Go.Proofs.YtnjfkcimboidnaaDoor

/- The walks of slices.BinarySearch of ints, slices.BinarySearchFunc of entries, tree.at and tree.kid. -/
namespace Go.Proofs.YtnjfkcimboidnaaDoor
open Go.RowKit
theorem mid_int {lo hi:Nat}:((lo:Int)+(hi:Int))/2=(((lo+hi)/2:Nat):Int):=by omega
set_option maxRecDepth 100000 in
set_option maxHeartbeats 1000000 in
theorem search_any {v:Value} {zs:List Int} {x:Int} {w:World} (ha:IntsAt w v zs) (hs:zs.Pairwise (·<·)) :
  Calls Tryd.prog 93 #[v, .int .i64 x] w fun e w'=>e = .returned (.tuple #[.int .i64 (posI zs x), .bool (decide (x∈zs))])∧Below w.heap.size w w':=by
 have hlen:=ha.len (by decide)
 obtain⟨ao,ca,rfl,-,-,-,-,a5⟩:=ha
 have S:=Lib.hid fun a b (ha:a<zs.length) (hb:b<zs.length) (h:a≤b)=>(show zs[a]≤zs[b]from by
  by_cases hab:a=b
  ·subst hab;exact Int.le_refl _
  ·exact Int.le_of_lt (List.pairwise_iff_getElem.1 hs a b ha hb (by omega)))
 have HS:=Lib.hid hs
 have HC:=Lib.hid fun w' (hb:Below w.heap.size w w') t (ht:t<zs.length)=>(by
  obtain⟨b,off,rfl,hbb,hc⟩:=a5 (by omega)
  exact⟨b,off,rfl,int_cell hb hbb hc ht⟩:∃b off,ao=some ⟨b,off,none⟩∧w'.cell? ⟨b,off+t,none⟩=some (.int .i64 zs[t]))
 clear hs a5
 go_enter Tryd.func93,Tryd.ntmps93
 go_wp2_with fail
 go_loopg [7,8] zs.length (fun g s7 s8 wr=>∃lo hi:Nat,s7 = .int .i64 lo∧s8 = .int .i64 hi∧lo≤hi∧hi≤zs.length∧hi-lo≤g∧Below w.heap.size w wr∧Hid ((∀t (ht:t<zs.length),t<lo→zs[t]<x)∧(∀t (ht:t<zs.length),hi≤t→x≤zs[t])))
 case atStart=>exact⟨0,zs.length,rfl,rfl,Nat.zero_le _,Nat.le_refl _,by omega,Below.refl _ _,Lib.hid ⟨fun t _ ht=>absurd ht (Nat.not_lt_zero _),fun t h1 h2=>by omega⟩⟩
 case round=>
  obtain⟨lo,hi,rfl,rfl,hlh,hin,hg,hbw,I⟩:=hrel
  by_cases hlt:lo<hi
  ·obtain⟨m,hm⟩:∃m,m=(lo+hi)/2:=⟨_,rfl⟩
   have hmi:((lo:Int)+(hi:Int))/2=((m:Nat):Int):=by rw [hm];exact mid_int
   have hml:lo≤m∧m<hi:=by omega
   have hmz:m<zs.length:=by omega
   obtain⟨b,off,rfl,cm⟩:=HC.out _ hbw m hmz
   obtain⟨y,hy⟩:∃y,zs[m]=y:=⟨_,rfl⟩
   rw [hy]at cm
   have Y:=Lib.hid hy
   clear hy hm
   by_cases hyx:y<x
   ·go_wp2
    go_roundg (hi-(m+1))
    case measure=>omega
    case rel=>
     refine⟨m+1,hi,by go_num,rfl,by omega,hin,Nat.le_refl _,hbw,Lib.hid ⟨fun t ht htm=>?_,I.out.2⟩⟩
     have:=S.out t m ht hmz (by omega)
     rw [Y.out]at this
     omega
   ·go_wp2
    go_roundg (m-lo)
    case measure=>omega
    case rel=>
     refine⟨lo,m,rfl,rfl,by omega,by omega,Nat.le_refl _,hbw,Lib.hid ⟨I.out.1,fun t ht htm=>?_⟩⟩
     have:=S.out m t hmz ht (by omega)
     rw [Y.out]at this
     omega
  ·obtain rfl:hi=lo:=by omega
   have E1:=Lib.hid (posI_eq hin I.out.1 I.out.2)
   have E2:=Lib.hid (hasI_eq HS.out I.out.1 I.out.2)
   by_cases hn:hi<zs.length
   ·obtain⟨b,off,rfl,cm⟩:=HC.out _ hbw hi hn
    rw [dif_pos hn]at E2
    obtain⟨y,hy⟩:∃y,zs[hi]=y:=⟨_,rfl⟩
    rw [hy]at cm E2
    clear hy
    by_cases hyx:y=x
    ·have hd:(y == x)=true:=by simp [hyx]
     rw [decide_eq_true hyx]at E2
     go_wp2
     go_ret2
     rw [E1.out,E2.out]
     exact⟨rfl,hbw⟩
    ·have hd:(y == x)=false:=by simp [hyx]
     rw [decide_eq_false hyx]at E2
     go_wp2
     go_ret2
     rw [E1.out,E2.out]
     exact⟨rfl,hbw⟩
   ·rw [dif_neg hn]at E2
    go_wp2
    go_ret2
    rw [E1.out,E2.out]
    exact⟨rfl,hbw⟩
end Go.Proofs.YtnjfkcimboidnaaDoor

/- The walks of slices.BinarySearchFunc of entries, tree.at and tree.kid. -/
namespace Go.Proofs.YtnjfkcimboidnaaDoor
open Go.RowKit
set_option maxRecDepth 100000 in
theorem atKey_any {e:Ent} {x:Int} {w:World} (h1 : -9223372036854775808≤e.key-x) (h2:e.key-x≤9223372036854775807) :
  Calls Tryd.prog 92 #[.agg #[.int .i64 e.key, .int .i64 e.is.c, .int .i64 e.is.s, .int .i64 e.is.mi, .int .i64 e.is.ma, .int .i64 e.is.t, .int .i64 e.is.l], .int .i64 x] w fun r w'=>r = .returned (.int .i64 (e.key-x))∧Below w.heap.size w w':=by
 have hw:IntKind.i64.wrap (e.key-x)=e.key-x:=IntWalk.i64_in _ (by omega)
 go_enter Tryd.func92,Tryd.ntmps92
 go_wp2
 go_ret
 exact⟨rfl,belowAuto⟩
set_option maxRecDepth 100000 in
set_option maxHeartbeats 1000000 in
theorem searchE_any {v:Value} {es:List Ent} {x:Int} {w:World} (ha:EntsAt w v es) (hs:Rising es) (hb:∀e∈es,-9223372036854775808≤e.key-x∧e.key-x≤9223372036854775807) :
  Calls Tryd.prog 91 #[v, .int .i64 x, .func (.func 92) #[] #[]] w fun r w'=>r = .returned (.tuple #[.int .i64 (posE es x), .bool (hasE es x)])∧Below w.heap.size w w':=by
 have hlen:=ha.len (by decide)
 obtain⟨ao,ca,rfl,-,-,-,-,a5⟩:=ha
 have S:=Lib.hid fun a b (ha:a<es.length) (hb:b<es.length) (h:a≤b)=>(show es[a].key≤es[b].key from by
  by_cases hab:a=b
  ·subst hab;exact Int.le_refl _
  ·exact Int.le_of_lt (List.pairwise_iff_getElem.1 hs a b ha hb (by omega)))
 have HS:=Lib.hid hs
 have HC:=Lib.hid fun w' (hb:Below w.heap.size w w') t (ht:t<es.length)=>(by
  obtain⟨b,off,rfl,hbb,hc⟩:=a5 (by omega)
  exact⟨b,off,rfl,hbb,ent_cells hb hbb hc ht⟩:∃b off,ao=some ⟨b,off,none⟩∧b<w.heap.size∧w'.cell? ⟨b,off+t*7,none⟩=some (.int .i64 es[t].key)∧w'.cell? ⟨b,off+t*7+1,none⟩=some (.int .i64 es[t].is.c)∧w'.cell? ⟨b,off+t*7+2,none⟩=some (.int .i64 es[t].is.s)∧w'.cell? ⟨b,off+t*7+3,none⟩=some (.int .i64 es[t].is.mi)∧w'.cell? ⟨b,off+t*7+4,none⟩=some (.int .i64 es[t].is.ma)∧w'.cell? ⟨b,off+t*7+5,none⟩=some (.int .i64 es[t].is.t)∧w'.cell? ⟨b,off+t*7+6,none⟩=some (.int .i64 es[t].is.l))
 have HK:=Lib.hid fun t (ht:t<es.length) w'=>atKey_any (e:=es[t]) (x:=x) (w:=w') (hb _ (List.getElem_mem ht)).1 (hb _ (List.getElem_mem ht)).2
 clear hs a5 hb
 go_enter Tryd.func91,Tryd.ntmps91
 go_wp2_with fail
 go_loopg [9,10] es.length (fun g s7 s8 wr=>∃lo hi:Nat,s7 = .int .i64 lo∧s8 = .int .i64 hi∧lo≤hi∧hi≤es.length∧hi-lo≤g∧Below w.heap.size w wr∧Hid ((∀t (ht:t<es.length),t<lo→es[t].key<x)∧(∀t (ht:t<es.length),hi≤t→x≤es[t].key)))
 case atStart=>exact⟨0,es.length,rfl,rfl,Nat.zero_le _,Nat.le_refl _,by omega,Below.refl _ _,Lib.hid ⟨fun t _ ht=>absurd ht (Nat.not_lt_zero _),fun t h1 h2=>by omega⟩⟩
 case round=>
  obtain⟨lo,hi,rfl,rfl,hlh,hin,hg,hbw,I⟩:=hrel
  have hbz:=hbw.size
  by_cases hlt:lo<hi
  ·obtain⟨m,hm⟩:∃m,m=(lo+hi)/2:=⟨_,rfl⟩
   have hmi:((lo:Int)+(hi:Int))/2=((m:Nat):Int):=by rw [hm];exact mid_int
   have hml:lo≤m∧m<hi:=by omega
   have hmz:m<es.length:=by omega
   obtain⟨b,off,rfl,hbb,c0,c1,c2,c3,c4,c5,c6⟩:=HC.out _ hbw m hmz
   have HA:=Lib.hid fun w'=>HK.out m hmz w'
   obtain⟨y,hy⟩:∃y,es[m]=y:=⟨_,rfl⟩
   rw [hy]at c0 c1 c2 c3 c4 c5 c6 HA
   have Y:=Lib.hid hy
   clear hy hm
   by_cases hyx:y.key<x
   ·have hd:decide (y.key-x<0)=true:=by simp;omega
    go_wp2_with ((go_at_call 92;(with_reducible refine(HA.out _).mono ?_);rintro r w1 ⟨rfl,hb1⟩))
    go_roundg (hi-(m+1))
    case measure=>omega
    case rel=>
     refine⟨m+1,hi,by go_num,rfl,by omega,hin,Nat.le_refl _,Below.trans' hbw hb1 hbw.size,Lib.hid ⟨fun t ht htm=>?_,I.out.2⟩⟩
     have:=S.out t m ht hmz (by omega)
     rw [Y.out]at this
     omega
   ·have hd:decide (y.key-x<0)=false:=by simp;omega
    go_wp2_with ((go_at_call 92;(with_reducible refine(HA.out _).mono ?_);rintro r w1 ⟨rfl,hb1⟩))
    go_roundg (m-lo)
    case measure=>omega
    case rel=>
     refine⟨lo,m,rfl,rfl,by omega,by omega,Nat.le_refl _,Below.trans' hbw hb1 hbw.size,Lib.hid ⟨I.out.1,fun t ht htm=>?_⟩⟩
     have:=S.out m t hmz ht (by omega)
     rw [Y.out]at this
     omega
  ·obtain rfl:hi=lo:=by omega
   have E1:=Lib.hid (posE_eq hin I.out.1 I.out.2)
   have E2:=Lib.hid (hasE_eq HS.out I.out.1 I.out.2)
   by_cases hn:hi<es.length
   ·obtain⟨b,off,rfl,hbb,c0,c1,c2,c3,c4,c5,c6⟩:=HC.out _ hbw hi hn
    have HA:=Lib.hid fun w'=>HK.out hi hn w'
    rw [dif_pos hn]at E2
    obtain⟨y,hy⟩:∃y,es[hi]=y:=⟨_,rfl⟩
    rw [hy]at c0 c1 c2 c3 c4 c5 c6 E2 HA
    clear hy
    by_cases hyx:y.key=x
    ·have hd:(y.key-x == 0)=true:=by simp [hyx]
     rw [decide_eq_true hyx]at E2
     clear hyx
     go_wp2_with ((go_at_call 92;(with_reducible refine(HA.out _).mono ?_);rintro r w1 ⟨rfl,hb1⟩))
     go_ret2
     rw [E1.out,E2.out]
     exact⟨rfl,Below.trans' hbw hb1 hbw.size⟩
    ·have hd:(y.key-x == 0)=false:=by simp;omega
     rw [decide_eq_false hyx]at E2
     go_wp2_with ((go_at_call 92;(with_reducible refine(HA.out _).mono ?_);rintro r w1 ⟨rfl,hb1⟩))
     go_ret2
     rw [E1.out,E2.out]
     exact⟨rfl,Below.trans' hbw hb1 hbw.size⟩
   ·rw [dif_neg hn]at E2
    go_wp2
    go_ret2
    rw [E1.out,E2.out]
    exact⟨rfl,hbw⟩
set_option maxRecDepth 100000 in
theorem at_any {v:Value} {es:List Ent} {x:Int} {w:World} (ha:EntsAt w v es) (hs:Rising es) (hb:∀e∈es,-9223372036854775808≤e.key-x∧e.key-x≤9223372036854775807) :
  Calls Tryd.prog 76 #[v, .int .i64 x] w fun r w'=>r = .returned (.tuple #[.int .i64 (posE es x), .bool (hasE es x)])∧Below w.heap.size w w':=by
 have HS:=Lib.hid (searchE_any ha hs hb)
 obtain⟨ao,ca,rfl⟩:=ha.isSlice
 clear ha hs hb
 go_enter Tryd.func76,Tryd.ntmps76
 go_wp2_with ((go_at_call 91;(with_reducible refine HS.out.mono ?_);rintro r w1 ⟨rfl,hb1⟩))
 go_ret2
 exact⟨rfl,hb1⟩
set_option maxRecDepth 100000 in
theorem kid_any {lf:Bool} {ev kv dv bv:Value} {keys:List Int} {x:Int} {w:World} (ha:IntsAt w kv keys) (hs:keys.Pairwise (·<·)) :
  Calls Tryd.prog 77 #[.agg #[.bool lf,ev,kv,dv,bv], .int .i64 x] w fun r w'=>r = .returned (.int .i64 (kidIx keys x))∧Below w.heap.size w w':=by
 have HS:=Lib.hid fun w' (hb:Below w.heap.size w w')=>search_any (x:=x) (ha.below hb (Nat.le_refl _)) hs
 have HI:=Lib.hid (kidIx_pos (x:=x) hs)
 have hlen:=ha.len (by decide)
 have hpos:posI keys x≤keys.length:=(List.takeWhile_prefix _).length_le
 obtain⟨ao,ca,rfl⟩:=ha.isSlice
 clear ha hs
 by_cases hm:x∈keys
 ·have HM:=Lib.hid (show decide (x∈keys)=true by simp [hm])
  rw [if_pos hm]at HI
  rw [HM.out]at HS
  clear hm
  go_enter Tryd.func77,Tryd.ntmps77
  go_wp2_with ((go_at_call 93;(with_reducible refine(HS.out _ belowAuto).mono ?_);rintro r w1 ⟨rfl,hb1⟩))
  go_ret
  rw [HI.out]
  exact⟨rfl,Below.trans' belowAuto hb1 (by first|omega|(simp;done)|(simp;omega)|(simp [drew_size];done)|(simp [drew_size];omega))⟩
 ·have HM:=Lib.hid (show decide (x∈keys)=false by simp [hm])
  rw [if_neg hm]at HI
  rw [HM.out]at HS
  clear hm
  go_enter Tryd.func77,Tryd.ntmps77
  go_wp2_with ((go_at_call 93;(with_reducible refine(HS.out _ belowAuto).mono ?_);rintro r w1 ⟨rfl,hb1⟩))
  go_ret
  rw [HI.out]
  exact⟨rfl,Below.trans' belowAuto hb1 (by first|omega|(simp;done)|(simp;omega)|(simp [drew_size];done)|(simp [drew_size];omega))⟩
end Go.Proofs.YtnjfkcimboidnaaDoor
