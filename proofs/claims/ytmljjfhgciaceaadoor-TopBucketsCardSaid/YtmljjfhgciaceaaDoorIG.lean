/- Texts of mine that come as one: InsP Insert InsertI Search SearchE. -/
import Derived.Test.YtmljjfhgciaceaaDoorHd
import Derived.Test.YtmljjfhgciaceaaDoorSX
import Derived.Laws.CopyRow
import Derived.Lib.Overlaps
import Derived.Lib.AppendZerosOnto
import Derived.Laws.Externs
import Derived.StillTailTactics
import Derived.Deep.DeepAppendWide
import Derived.Maps.AppendAt
import Derived.Test.YtmljjfhgciaceaaDoorPA
import Derived.BigQuiet
import Derived.Deep.QuietTactic
namespace Go.Proofs.YtmljjfhgciaceaaDoor
open Go.RowKit
section
variable {ops:Array Oper} {Q:Exit->Act->World->Prop} {es:List aA} {rest:List Oper} {eK mD:List Value} {a:Nat} {o:Oper} {P:Program} {v':Value} {w':World}
theorem Jk {cur C X:List Value} (hC:cur.take C.length=C) (ha:a<=C.length) (hX:X.length=7) (hfit:C.length+7<=cur.length)
  (h1:eK=cur.take (a+7)++C.drop a++cur.drop (a+7+(C.drop a).length)) (h2:mD=eK.take a++X++eK.drop (a+X.length)) :
  eK.length=cur.length/\mD.length=cur.length/\mD.take (C.length+7)=C.take a++X++C.drop a:=by
 have l1:eK.length=cur.length:=by rw [h1];simp;omega
 have e1:eK.take a=C.take a:=by
  rw [h1,jn,zR (by simp;omega),List.take_take,<-hC,List.take_take]
  congr 1;omega
 have e2:eK.drop (a+X.length)=C.drop a++cur.drop (a+7+(C.drop a).length):=by
  rw [h1,hX,jn,List.drop_append_of_le_length (by simp;omega),AA (by simp;omega),List.nil_append]
 refine⟨l1,by rw [h2];simp;omega,?_⟩
 rw [h2,e1,e2,<-jn,zR (by simp;omega),kJ (by simp;omega)]
theorem M9 {row C X Z:List Value} (hr:row=C.take a++Z) (ha:a<=C.length) (hX:X.length=7) (hfit:C.length+7<=row.length)
  (h1:eK=row.take a++X++row.drop (a+X.length)) (h2:mD=eK.take (a+7)++C.drop a++eK.drop (a+7+(C.drop a).length)) :
  eK.length=row.length/\mD.length=row.length/\mD.take (C.length+7)=C.take a++X++C.drop a:=by
 have l1:eK.length=row.length:=by rw [h1];simp;omega
 have e0:row.take a=C.take a:=by rw [hr,zR (by simp;omega),kJ (by simp;omega)]
 have e1:eK.take (a+7)=C.take a++X:=by
  rw [h1,e0,zR (by simp;omega),kJ (by simp;omega)]
 refine⟨l1,by rw [h2];simp;omega,?_⟩
 rw [h2,e1,zR (by simp;omega),kJ (by simp;omega)]
theorem fF (w:World) (dT sT ty elem:TypeId) (k g o dLen dCap:Nat) (a:Addr) (sLen sCap m:Nat) (cur:Array Value) (t:TypeId) (cs:List Value)
  (hu:P.underlying dT=some (.slice elem)) (hs:(P.info? elem).map (·.size)=some k) (hg:w.heap[g]?=some (.cells cur t (0,0))) (hm:Nat.min sLen dLen=m) (hn:cs.length=m*k)
  (hsrc:∀j v,cs[j]?=some v->w.cell? (a.add j)=some v) (hfit:o+cs.length<=cur.size) (h1:∀v∈cs,v.oneCell'=true) :
  (Builtin.copy_ #[dT,sT] ty #[.slice (some ⟨g,o,none⟩) dLen dCap, .slice (some a) sLen sCap]).run P w =
   .ok (goInt m) (w.setRow g (cur.toList.take o++cs++cur.toList.drop (o+cs.length)).toArray):=by
 have hl:=run_loadCells_list (P:=P) w a cs hsrc
 have hst:=run_storeCells_at P g o t cs 0 cur w hg (by simpa using hfit) h1
 cases hq:P.info? elem with
 |none=>simp [hq]at hs
 |some i=>
  have hi:i.size=k:=by simpa [hq] using hs
  rw [hn]at hl
  simp [Builtin.copy_,run_underlying hu,Builtin.lenOf,Builtin.firstCells,sizeOf,typeInfo,hq,hi,hm,hl,hst]
theorem eu (w:World) {a:Act} (hgd:o.guard=none) (d s:Operand) (t t':TypeId)
  (ho:o.op = .call { callee:= .builtin .copy,args:=#[d,s],argTypes:=#[t,t'] }) (v u:Value) (hd:a.eval d=v) (hs:a.eval s=u)
  (hr:(Builtin.copy_ #[t,t'] o.type #[v,u]).run P w = .ok v' w') (h:wpList P ops Q rest (a.put o.dst v') w'):wpList P ops Q (o::rest) a w:=
 wpList_plain hgd fun K hK=>by
  unfold Oper.wp execOp
  simp only [ho,resolve,invoke,builtin,Sem.run_bind,Sem.run_pure,Result.andThen_ok,List.map_toArray,List.map_cons,List.map_nil,hd,hs,hr]
  exact hK _ _ h
theorem nO (w:World) {a:Act} (hgd:o.guard=none) (d s:Operand) (t t':TypeId)
  (ho:o.op = .call { callee:= .builtin .append,args:=#[d,s],argTypes:=#[t,t'] }) (v u:Value) (hd:a.eval d=v) (hs:a.eval s=u)
  (hr:(Builtin.append_ #[t,t'] o.type #[v,u]).run P w = .ok v' w') (h:wpList P ops Q rest (a.put o.dst v') w'):wpList P ops Q (o::rest) a w:=
 wpList_plain hgd fun K hK=>by
  unfold Oper.wp execOp
  simp only [ho,resolve,invoke,builtin,Sem.run_bind,Sem.run_pure,Result.andThen_ok,List.map_toArray,List.map_cons,List.map_nil,hd,hs,hr]
  exact hK _ _ h
theorem J7 (i:Nat):(es.take i).flatMap bj=(es.flatMap bj).take (i*7):=by
 induction es generalizing i with
 |nil=>simp
 |cons e es ih=>
  cases i with
  |zero=>simp
  |succ i=>
   rw [List.take_succ_cons,gG,gG,ih,Nat.add_mul,Nat.one_mul,List.take_append,dg,kJ (l:=bj e) (by rw [dg];omega),Nat.add_sub_cancel]
theorem J8 (i:Nat):(es.drop i).flatMap bj=(es.flatMap bj).drop (i*7):=by
 induction es generalizing i with
 |nil=>simp
 |cons e es ih=>
  cases i with
  |zero=>simp
  |succ i=>
   rw [List.drop_succ_cons,gG,ih,Nat.add_mul,Nat.one_mul,List.drop_append,dg,(show (bj e).drop (i*7+7)=[]from AA (by rw [dg];omega)),Nat.add_sub_cancel,List.nil_append]
end
section
set_option maxRecDepth 100000
set_option maxHeartbeats 1000000
theorem DK {B:Nat} {w:World} {v:Value} {es:List aA} {i vb:Nat} {x:aA} (hown:av B w v es) (hi:i<=es.length) (hB:B<=w.heap.size) (hlen:es.length<=100000)
  (hvb:w.heap[vb]?=some (.cells #[.int .i64 x.key, .int .i64 x.is.c, .int .i64 x.is.s, .int .i64 x.is.mi, .int .i64 x.is.ma, .int .i64 x.is.t, .int .i64 x.is.l] 96)) (hne:v.ownBlock≠some vb) :
  Calls Tryd.prog 113 #[v, .int .i64 i, .slice (some ⟨vb,0,none⟩) 1 1] w fun e w'=>∃v',e = .returned v'/\av B w' v' (es.take i++x::es.drop i)/\w.grownBy w' v.ownBlock/\(v'.ownBlock=v.ownBlock\/v'.ownBlock=some w.heap.size):=by
 have hx:∀j u,(bj x)[j]?=some u->w.cell? (Addr.add ⟨vb,0,none⟩ j)=some u:=fun j u h=>by
  have ha:Addr.add ⟨vb,0,none⟩ j=⟨vb,j,none⟩:=by simp [Addr.add];omega
  rw [ha];simp only [World.cell?,hvb];simpa [bj] using h
 by_cases hin:i=es.length
 ·subst hin
  obtain⟨so,sc,rfl⟩:=hown.isSlice
  have hE:=hdd (show es.take es.length++x::es.drop es.length=es++[x] by simp)
  obtain⟨i0,z,hi0,hz,hz1,hz2,hz3⟩:=cC Tryd.Gp
  go_enter Tryd.func113,Tryd.ntmps113
  go_wp2_with (at_builtin;refine wpList_append_own_at w rfl (.tmp 23) (.tmp 24) 63 rfl B 96 i0 z 7 56 Tryd.underlying63 hi0 hz hz1 hz2 hz3 aW _ es.length _ rfl hown.row ⟨vb,0,none⟩ 1 1 (bj x) rfl rfl hx (fun u hu=>jf [x] u (by simpa using hu)) (by unfold maxLen;omega) af hB ?_;intro v' w' hown' hg _ hloc)
  all_goals
   go_ret
   (try rw [hE.out])
   refine⟨v',rfl,⟨?_⟩,(by first|exact hg|(cases so <;> exact hg)),(by first|exact hloc|(cases so <;> exact hloc))⟩
   have e:(es++[x]).flatMap bj=es.flatMap bj++bj x:=bq
   rw [e,eP]
   exact hown'
 ·have hil:i<es.length:=af
  obtain⟨hl,⟨rfl,h0⟩|⟨g,cap,cur,rfl,hBg,hg,h1,h2,h3,h4⟩⟩:=hown.row
  ·omega
  ·unfold maxLen at h2
   have hgv:g≠vb:=fun h=>hne (by rw [h];rfl)
   have Wc:vb≠g:=Ne.symm hgv
   have hsz:(Tryd.prog.info? 96).map (·.size)=some 7:=by
    obtain⟨i0,z,hi0,hz,hz1,hz2,hz3⟩:=cC Tryd.Gp
    rw [hi0];simp [hz1]
   have Va:g<w.heap.size:=(eW.1 hg).1
   have hvz:vb<w.heap.size:=(eW.1 hvb).1
   obtain⟨C,hC⟩:=bw (es.flatMap bj)
   have vX:C.length=es.length*7:=by rw [<-hC];exact hl
   rw [hC,<-vX]at h4
   have XG:∀u∈C,u.oneCell'=true:=by rw [<-hC];exact jf es
   have Ht:=hdd (show (es.take i++x::es.drop i).flatMap bj=C.take (i*7)++bj x++C.drop (i*7) by
    rw [tM,gG,J7,J8,hC,jn])
   have HLEN:=hdd (show (es.take i++x::es.drop i).length=es.length+1 by simp;omega)
   have hov:∀off lb cb,(callFunc 122 #[.slice (some ⟨vb,0,none⟩) 1 1, .slice (some ⟨g,off,none⟩) lb cb]).run Tryd.prog w = .ok (.value (.bool false)) w:=fun off lb cb=>by
    rw [run_callFunc_extern Tryd.func122 cy cy cy (e:=Extern.SlicesOverlaps.overlaps #[63,63] #[4]) cy,
     Lib.run_overlaps_apart w 63 4 96 Tryd.underlying63 7 (fun w=>cy) ⟨vb,0,none⟩ ⟨g,off,none⟩ 1 1 lb cb Wc 96 96 7 cur.size (by simp [World.shape?,hvb]) (by simp [World.shape?,hg]) af (by simp [World.frozen?,hvb]) (by simp [World.frozen?,hvb])]
    rfl
   by_cases hroom:es.length+1<=cap
   ·-- in place
    obtain⟨eK,nu⟩:=bQ (cur.toList.take (i*7+7)++C.drop (i*7)++cur.toList.drop (i*7+7+(C.drop (i*7)).length))
    obtain⟨mD,nt⟩:=bQ (eK.take (i*7)++bj x++eK.drop (i*7+(bj x).length))
    obtain⟨r1,r2,r3⟩:=Jk (cur:=cur.toList) (C:=C) (X:=bj x) (a:=i*7) h4 af rfl (by simp;omega) nu nt
    have hw1:IntKind.i64.wrap ((i:Int)+1)=(i:Int)+1:=IntWalk.i64_in _ af
    have hw2:IntKind.i64.wrap ((es.length:Int)+1)=(es.length:Int)+1:=IntWalk.i64_in _ af
    have g0:¬((i:Int)=(es.length:Int)):=af
    have g1:¬((cap:Int)<(es.length:Int)+1):=af
    go_enter Tryd.func113,Tryd.ntmps113
    go_upto_region 14 with (fail)
    have e7:(i+1)*7=i*7+7:=af
    have zq:(C.drop (i*7)).length=(es.length-i)*7:=by rw [oJ,vX];omega
    have hcC:∀(W:World),W.heap[g]?=w.heap[g]?->∀j u,(C.drop (i*7))[j]?=some u->W.cell? (Addr.add ⟨g,i*7,none⟩ j)=some u:=fun W hW j u hu=>by
     have ha:Addr.add ⟨g,i*7,none⟩ j=⟨g,i*7+j,none⟩:=by first|(simp [Addr.add];done)|(simp [Addr.add];omega)
     rw [List.getElem?_drop]at hu
     have hj:=(gH.1 hu).1
     rw [<-h4,qd,ar hj]at hu
     rw [ha]
     simp only [World.cell?,hW,hg]
     simpa using hu
    have MW:∀ty dc sc,(Builtin.copy_ #[63,63] ty #[.slice (some ⟨g,(i+1)*7,none⟩) (es.length-i) dc, .slice (some ⟨g,i*7,none⟩) (es.length+1-i) sc]).run Tryd.prog w.drew = .ok (goInt (es.length-i:Nat)) (w.drew.setRow g eK.toArray):=fun ty dc sc=>by
     have:=fF (P:=Tryd.prog) w.drew 63 63 ty 96 7 g ((i+1)*7) (es.length-i) dc ⟨g,i*7,none⟩ (es.length+1-i) sc (es.length-i) cur 96 (C.drop (i*7)) Tryd.underlying63 hsz hg (by simp only [Nat.min_def];split <;> omega) zq (hcC _ rfl) (by rw [zq,h3];omega) (fun u hu=>XG u (ve hu))
     rw [this,e7,<-nu]
    obtain⟨W1,hW1⟩:=bQ (w.drew.setRow g eK.toArray)
    have hg1:W1.heap[g]?=some (.cells eK.toArray 96 (0,0)):=by rw [hW1];exact setRow_heap w.drew g cur _ _ _ hg
    have Ap:∀b,b≠g->W1.heap[b]?=w.heap[b]?:=fun b hb=>by rw [hW1];exact setRow_other w.drew g b _ hb
    have Tj:∀ty dc,(Builtin.copy_ #[63,63] ty #[.slice (some ⟨g,i*7,none⟩) (es.length+1-i) dc, .slice (some ⟨vb,0,none⟩) 1 1]).run Tryd.prog W1 = .ok (goInt (1:Nat)) (W1.setRow g mD.toArray):=fun ty dc=>by
     have:=fF (P:=Tryd.prog) W1 63 63 ty 96 7 g (i*7) (es.length+1-i) dc ⟨vb,0,none⟩ 1 1 1 eK.toArray 96 (bj x) Tryd.underlying63 hsz hg1 (by simp only [Nat.min_def];split <;> omega) rfl (fun j u hu=>by
      have ha:Addr.add ⟨vb,0,none⟩ j=⟨vb,j,none⟩:=by simp [Addr.add];omega
      rw [<-hx j u hu,ha];exact World.cell?_of_block (Ap vb Wc)) (by simp [r1,bj];omega) (fun u hu=>jf [x] u (by simpa using hu))
     rw [this]
     simp only []
     rw [<-nt]
    rw [<-hW1]at MW
    have b1:(0:Int)<=(i:Int)+1:=af
    have b2:¬(cap=i+1):=af
    have b3:(i:Int)<=(es.length:Int)+1:=af
    have b4:¬(cap=i):=af
    have b5:((i:Int)+1).toNat=i+1:=af
    have b6:i<=es.length:=af
    have b7:(i:Int)+1<=(es.length:Int)+1:=af
    have b8:es.length+1-(i+1)=es.length-i:=af
    have E3:=hdd r3
    have zW:=hdd vX
    have KF:=hdd hW1
    clear e7 zq nu nt r3 vX hW1
    go_wp2_with (simp only [hov])
    refine wp_region_still_tail 8 cy cy ?_
    (simp only [List.take_succ_cons,List.take_zero,List.drop_succ_cons,List.drop_zero];(repeat ((with_reducible refine wpStill_step (fun K hK=>?_));go_simp;(with_reducible refine hK _ ?_);clear hK K));(with_reducible refine wpStill_nil ?_))
    change wpList _ _ _ _ _ w.drew
    go_wp2_with (first
     |(at_builtin;refine eu _ rfl (.tmp 73) (.tmp 76) 63 63 rfl _ _ rfl rfl (MW _ _ _) ?_)
     |(at_builtin;refine eu _ rfl (.tmp 80) (.tmp 81) 63 63 rfl _ _ rfl rfl (Tj _ _) ?_))
    go_ret
    refine⟨_,rfl,⟨?_⟩,?_, .inl rfl⟩
    ·rw [Ht.out,HLEN.out]
     have vX:=zW.out
     refine⟨by simp [vX,bj];omega, .inr ⟨g,cap,mD.toArray,rfl,hBg,setRow_heap W1 g _ _ _ _ hg1,hroom,by unfold maxLen;omega,by simp [r2,h3],?_⟩⟩
     simp only []
     rw [show (es.length+1)*7=C.length+7 from by omega];exact E3.out
    ·have hW1:=KF.out
     refine⟨by rw [hW1];rfl,by rw [hW1];rfl,by rw [hW1];rfl,by rw [hW1];simp [World.setRow],fun k _ hk=>?_⟩
     have hkg:k≠g:=fun h=>hk (by rw [h];rfl)
     exact(setRow_other W1 g k _ hkg).trans (Ap k hkg)
   ·-- a new row
    have hcap:cap<es.length+1:=af
    obtain⟨i0,z,hi0,hz,hz1,hz2,hz3⟩:=cC Tryd.Gp
    have hold:(Builtin.firstCells i0.size i (.slice (some ⟨g,0,none⟩) i cap)).run Tryd.prog w.drew = .ok (C.take (i*7)).toArray w.drew:=by
     rw [hz1]
     refine run_firstCells_some w.drew 7 i ⟨g,0,none⟩ i cap (C.take (i*7)) (by rw [fw,vX];omega) fun j u hu=>?_
     have ha:Addr.add ⟨g,0,none⟩ j=⟨g,j,none⟩:=by simp [Addr.add];omega
     rw [qd]at hu
     split at hu
     ·have hj:=(gH.1 hu).1
      rw [<-h4,qd,ar hj]at hu
      rw [ha]
      show w.cell? ⟨g,j,none⟩=_
      simp only [World.cell?,hg]
      simpa using hu
     ·cases hu
    obtain⟨G,hG⟩:=bQ (grownCap w (es.length+1) cap 96)
    have hGn:es.length+1<=G:=by rw [hG];exact grownCap_ge w _ _ _
    have abP:G<=9223372036854775807:=by
     have:=grownCap_le_maxLen w (es.length+1) cap 96 (by unfold maxLen;omega)
     rw [<-hG]at this;unfold maxLen at this;exact this
    obtain⟨Z,hZ⟩:=bQ ((Builtin.zeroCells z.cells (es.length+1-i)++Builtin.zeroCells z.cells (G-(es.length+1))).toList)
    have Rg:Z.length=(G-i)*7:=by rw [hZ];simp [Builtin.zeroCells,hz3];omega
    obtain⟨row,hrow⟩:=bQ (C.take (i*7)++Z)
    have hrl:row.length=G*7:=by rw [hrow,eP,Rg,fw,vX];omega
    obtain⟨W1,hW1⟩:=bQ (w.drew.alloc (.cells row.toArray 96))
    have hkk:(es.length:Int)+1-(i:Int)=((es.length+1-i:Nat):Int):=af
    have hik:i+(es.length+1-i)=es.length+1:=af
    have Wq:∀ty,(Builtin.append_ #[63,3] ty #[.slice (some ⟨g,0,none⟩) i cap, .int .i64 ((es.length:Int)+1-(i:Int))]).run Tryd.prog w = .ok (.slice (some ⟨w.heap.size,0,none⟩) (es.length+1) G) W1:=fun ty=>by
     have h:=Lib.run_append_grow_zeros w 63 3 ty 96 i0 z .i64 .i64 Tryd.underlying63 Tryd.underlying3 hi0 hz (some ⟨g,0,none⟩) i cap (C.take (i*7)) hold (es.length+1-i) af af af af (by rw [hz2];omega) (by rw [hz2,hik];exact growslice_fits_wide hcap af)
     rw [hik,<-hG]at h
     have e:∀(L:List Value) (A D:Array Value),L.toArray++A++D=(L++(A++D).toList).toArray:=fun L A D=>by apply Array.ext';simp
     rw [hkk,h,hW1,hrow,hZ,e]
    obtain⟨eK,nu⟩:=bQ (row.take (i*7)++bj x++row.drop (i*7+(bj x).length))
    obtain⟨mD,nt⟩:=bQ (eK.take (i*7+7)++C.drop (i*7)++eK.drop (i*7+7+(C.drop (i*7)).length))
    obtain⟨r1,r2,r3⟩:=M9 (C:=C) (X:=bj x) (a:=i*7) hrow af rfl af nu nt
    have e7:(i+1)*7=i*7+7:=af
    have zq:(C.drop (i*7)).length=(es.length-i)*7:=by rw [oJ,vX];omega
    obtain⟨N,hN⟩:=bQ (w.heap.size)
    rw [<-hN]at Wq
    have hg1:W1.heap[N]?=some (.cells row.toArray 96 (0,0)):=by rw [hW1,hN];exact aq w.drew _ rfl
    have Ap:∀b,b<w.heap.size->W1.heap[b]?=w.heap[b]?:=fun b hb=>by rw [hW1];exact lJ w.drew _ b hb
    have hgN:g≠N:=af
    have hvN:vb≠N:=af
    have MV:∀ty dc,(Builtin.copy_ #[63,63] ty #[.slice (some ⟨N,i*7,none⟩) (es.length+1-i) dc, .slice (some ⟨vb,0,none⟩) 1 1]).run Tryd.prog W1 = .ok (goInt (1:Nat)) (W1.setRow N eK.toArray):=fun ty dc=>by
     have:=fF (P:=Tryd.prog) W1 63 63 ty 96 7 N (i*7) (es.length+1-i) dc ⟨vb,0,none⟩ 1 1 1 row.toArray 96 (bj x) Tryd.underlying63 hsz hg1 (by simp only [Nat.min_def];split <;> omega) rfl (fun j u hu=>by
      have ha:Addr.add ⟨vb,0,none⟩ j=⟨vb,j,none⟩:=by simp [Addr.add];omega
      rw [<-hx j u hu,ha];exact World.cell?_of_block (Ap vb hvz)) (by simp [hrl,bj];omega) (fun u hu=>jf [x] u (by simpa using hu))
     rw [this]
     simp only []
     rw [<-nu]
    obtain⟨W2,hW2⟩:=bQ (W1.setRow N eK.toArray)
    have hg2:W2.heap[N]?=some (.cells eK.toArray 96 (0,0)):=by rw [hW2];exact setRow_heap W1 N _ _ _ _ hg1
    have Ao:∀b,b<w.heap.size->W2.heap[b]?=w.heap[b]?:=fun b hb=>by rw [hW2];exact(setRow_other W1 N b _ af).trans (Ap b hb)
    rw [<-hW2]at MV
    have Ti:∀ty dc sc,(Builtin.copy_ #[63,63] ty #[.slice (some ⟨N,(i+1)*7,none⟩) (es.length-i) dc, .slice (some ⟨g,i*7,none⟩) (es.length-i) sc]).run Tryd.prog W2.drew = .ok (goInt (es.length-i:Nat)) (W2.drew.setRow N mD.toArray):=fun ty dc sc=>by
     have:=fF (P:=Tryd.prog) W2.drew 63 63 ty 96 7 N ((i+1)*7) (es.length-i) dc ⟨g,i*7,none⟩ (es.length-i) sc (es.length-i) eK.toArray 96 (C.drop (i*7)) Tryd.underlying63 hsz hg2 (by simp only [Nat.min_def];split <;> omega) zq (fun j u hu=>by
      have ha:Addr.add ⟨g,i*7,none⟩ j=⟨g,i*7+j,none⟩:=by first|(simp [Addr.add];done)|(simp [Addr.add];omega)
      rw [List.getElem?_drop]at hu
      have hj:=(gH.1 hu).1
      rw [<-h4,qd,ar hj]at hu
      rw [ha]
      show W2.cell? ⟨g,i*7+j,none⟩=_
      rw [World.cell?_of_block (Ao g Va)]
      simp only [World.cell?,hg]
      simpa using hu) (by simp [r1,hrl,zq];omega) (fun u hu=>XG u (ve hu))
     rw [this,e7]
     simp only []
     rw [<-nt]
    have hw1:IntKind.i64.wrap ((i:Int)+1)=(i:Int)+1:=IntWalk.i64_in _ af
    have hw2:IntKind.i64.wrap ((es.length:Int)+1)=(es.length:Int)+1:=IntWalk.i64_in _ af
    have hw3:IntKind.i64.wrap ((es.length:Int)+1-(i:Int))=(es.length:Int)+1-(i:Int):=IntWalk.i64_in _ af
    have g0:¬((i:Int)=(es.length:Int)):=af
    have g1:(cap:Int)<(es.length:Int)+1:=af
    have b1:(0:Int)<=(i:Int)+1:=af
    have b2:¬(G=i+1):=af
    have b3:(i:Int)<=(es.length:Int)+1:=af
    have b4:¬(cap=i):=af
    have b4':¬(G=i):=af
    have b5:((i:Int)+1).toNat=i+1:=af
    have b6:i<=es.length:=af
    have b7:(i:Int)+1<=(es.length:Int)+1:=af
    have b8:es.length+1-(i+1)=es.length-i:=af
    have E3:=hdd r3
    have zW:=hdd vX
    have KF:=hdd hW1
    have Qt:=hdd hW2
    have Ob:=hdd hN
    have N7:=hdd (r2.trans (hrl))
    clear e7 zq nu nt r3 vX hW1 hW2 hN hG hkk hik hZ Rg hrow hrl r1 r2
    go_enter Tryd.func113,Tryd.ntmps113
    go_wp2_with (first
     |(at_builtin;refine nO _ rfl (.tmp 34) (.tmp 39) 63 3 rfl _ _ rfl rfl (Wq _) ?_)
     |(at_builtin;refine eu _ rfl (.tmp 43) (.tmp 44) 63 63 rfl _ _ rfl rfl (MV _ _) ?_))
    refine wp_region_still_tail 8 cy cy ?_
    (simp only [List.take_succ_cons,List.take_zero,List.drop_succ_cons,List.drop_zero];(repeat ((with_reducible refine wpStill_step (fun K hK=>?_));go_simp;(with_reducible refine hK _ ?_);clear hK K));(with_reducible refine wpStill_nil ?_))
    change wpList _ _ _ _ _ W2.drew
    go_wp2_with ((at_builtin;refine eu _ rfl (.tmp 50) (.tmp 53) 63 63 rfl _ _ rfl rfl (Ti _ _ _) ?_))
    go_ret
    have vX:=zW.out
    have hN:=Ob.out
    refine⟨_,rfl,⟨?_⟩,?_, .inr (by rw [hN];rfl)⟩
    ·rw [Ht.out,HLEN.out]
     refine⟨by simp [vX,bj];omega, .inr ⟨N,G,mD.toArray,rfl,af,setRow_heap W2.drew N _ _ _ _ hg2,hGn,by unfold maxLen;omega,by simp [N7.out],?_⟩⟩
     simp only []
     rw [show (es.length+1)*7=C.length+7 from by omega];exact E3.out
    ·refine⟨by rw [Qt.out,KF.out];rfl,by rw [Qt.out,KF.out];rfl,by rw [Qt.out,KF.out];rfl,by rw [Qt.out,KF.out];simp [World.setRow,World.alloc],fun k hk _=>?_⟩
     exact(setRow_other W2.drew N k _ af).trans (Ao k hk)
end
section
set_option maxRecDepth 100000
set_option maxHeartbeats 1000000
variable {es:List Int} {eK mD:List Value} {B C a:Nat} {w w':World}
structure bt (B:Nat) (w:World) (v:Value) (es:List Int):Prop where
 row:w.ownsRow B 3 1 v es.length (es.flatMap bV)
theorem bt.nil (B:Nat) (w:World):bt B w (.slice none 0 0) []:=⟨World.ownsRow_nil _ _ _ _⟩
theorem bt.alloc {v:Value} (h:bt B w v es) (o:Obj):bt B (w.alloc o) v es:=⟨World.ownsRow.alloc h.row o⟩
theorem bt.block {v:Value} (h:bt B w v es) (hb:∀g,v.ownBlock=some g->w'.heap[g]?=w.heap[g]?):bt B w' v es:=by
 obtain⟨hl,⟨rfl,h0⟩|⟨g,cap,cur,rfl,hB,hg,h1,h2,h3,h4⟩⟩:=h.row
 ·exact⟨⟨hl, .inl ⟨rfl,h0⟩⟩⟩
 ·exact⟨⟨hl, .inr ⟨g,cap,cur,rfl,hB,(hb g rfl).trans hg,h1,h2,h3,h4⟩⟩⟩
theorem bt.drew {v:Value} (h:bt B w v es):bt B w.drew v es:=h.block fun _ _=>rfl
theorem bt.drewN {v:Value} (h:bt B w v es) (n:Nat):bt B (w.drewN n) v es:=h.block fun _ _=>rfl
theorem bt.lt {v:Value} (h:bt B w v es):∀g,v.ownBlock=some g->B<=g/\g<w.heap.size:=World.ownsRow.lt h.row
theorem bt.below {v:Value} (h:bt B w v es) (hb:Below C w w') (hC:w.heap.size<=C):bt B w' v es:=h.block fun g hg=>hb.block g (by have:=(h.lt g hg).2;omega)
theorem bt.mono {v:Value} (h:bt B w v es) (hC:C<=B):bt C w v es:=by
 obtain⟨hl,⟨rfl,h0⟩|⟨g,cap,cur,rfl,hB,hg,h1,h2,h3,h4⟩⟩:=h.row
 ·exact⟨⟨hl, .inl ⟨rfl,h0⟩⟩⟩
 ·exact⟨⟨hl, .inr ⟨g,cap,cur,rfl,af,hg,h1,h2,h3,h4⟩⟩⟩
theorem bt.at {v:Value} (h:bt B w v es) (hs:es.length<=1000000):gu w v es:=dN.owned kE h.row rfl af
theorem bt.isSlice {v:Value} (h:bt B w v es):∃ao cap,v = .slice ao es.length cap:=by
 obtain⟨hl,⟨rfl,h0⟩|⟨g,cap,cur,rfl,_⟩⟩:=h.row
 ·exact⟨none,0,by rw [h0]⟩
 ·exact⟨_,_,rfl⟩
theorem FA {cur C X:List Value} (hC:cur.take C.length=C) (ha:a<=C.length) (hX:X.length=1) (hfit:C.length+1<=cur.length)
  (h1:eK=cur.take (a+1)++C.drop a++cur.drop (a+1+(C.drop a).length)) (h2:mD=eK.take a++X++eK.drop (a+X.length)) :
  eK.length=cur.length/\mD.length=cur.length/\mD.take (C.length+1)=C.take a++X++C.drop a:=by
 have l1:eK.length=cur.length:=by rw [h1];simp;omega
 have e1:eK.take a=C.take a:=by
  rw [h1,jn,zR (by simp;omega),List.take_take,<-hC,List.take_take]
  congr 1;omega
 have e2:eK.drop (a+X.length)=C.drop a++cur.drop (a+1+(C.drop a).length):=by
  rw [h1,hX,jn,List.drop_append_of_le_length (by simp;omega),AA (by simp;omega),List.nil_append]
 refine⟨l1,by rw [h2];simp;omega,?_⟩
 rw [h2,e1,e2,<-jn,zR (by simp;omega),kJ (by simp;omega)]
theorem J4 {row C X Z:List Value} (hr:row=C.take a++Z) (ha:a<=C.length) (hX:X.length=1) (hfit:C.length+1<=row.length)
  (h1:eK=row.take a++X++row.drop (a+X.length)) (h2:mD=eK.take (a+1)++C.drop a++eK.drop (a+1+(C.drop a).length)) :
  eK.length=row.length/\mD.length=row.length/\mD.take (C.length+1)=C.take a++X++C.drop a:=by
 have l1:eK.length=row.length:=by rw [h1];simp;omega
 have e0:row.take a=C.take a:=by rw [hr,zR (by simp;omega),kJ (by simp;omega)]
 have e1:eK.take (a+1)=C.take a++X:=by
  rw [h1,e0,zR (by simp;omega),kJ (by simp;omega)]
 refine⟨l1,by rw [h2];simp;omega,?_⟩
 rw [h2,e1,zR (by simp;omega),kJ (by simp;omega)]
theorem IU (es:List Int):es.flatMap bV=es.map (Value.int .i64):=by
 induction es with
 |nil=>rfl
 |cons e es ih=>rw [gG,ih];rfl
theorem GY (i:Nat):(es.take i).flatMap bV=(es.flatMap bV).take i:=by rw [IU,IU,List.map_take]
theorem GZ (i:Nat):(es.drop i).flatMap bV=(es.flatMap bV).drop i:=by rw [IU,IU,List.map_drop]
theorem DJ {v:Value} {i vb:Nat} {x:Int} (hown:bt B w v es) (hi:i<=es.length) (hB:B<=w.heap.size) (hlen:es.length<=100000)
  (hvb:w.heap[vb]?=some (.cells #[.int .i64 x] 3)) (hne:v.ownBlock≠some vb) :
  Calls Tryd.prog 118 #[v, .int .i64 i, .slice (some ⟨vb,0,none⟩) 1 1] w fun e w'=>∃v',e = .returned v'/\bt B w' v' (es.take i++x::es.drop i)/\w.grownBy w' v.ownBlock/\(v'.ownBlock=v.ownBlock\/v'.ownBlock=some w.heap.size):=by
 have hx:∀j u,(bV x)[j]?=some u->w.cell? (Addr.add ⟨vb,0,none⟩ j)=some u:=fun j u h=>by
  have ha:Addr.add ⟨vb,0,none⟩ j=⟨vb,j,none⟩:=by simp [Addr.add];omega
  rw [ha];simp only [World.cell?,hvb];simpa [bV] using h
 by_cases hin:i=es.length
 ·subst hin
  obtain⟨so,sc,rfl⟩:=hown.isSlice
  have hE:=hdd (show es.take es.length++x::es.drop es.length=es++[x] by simp)
  obtain⟨i0,z,hi0,hz,hz1,hz2,hz3⟩:=cC Tryd.PG
  go_enter Tryd.func118,Tryd.ntmps118
  go_wp2_with (at_builtin;refine wpList_append_own_at w rfl (.tmp 23) (.tmp 24) 82 rfl B 3 i0 z 1 8 Tryd.underlying82 hi0 hz hz1 hz2 hz3 aW _ es.length _ rfl hown.row ⟨vb,0,none⟩ 1 1 (bV x) rfl rfl hx (fun u hu=>pq [x] u (by simpa using hu)) (by unfold maxLen;omega) af hB ?_;intro v' w' hown' hg _ hloc)
  all_goals
   go_ret
   (try rw [hE.out])
   refine⟨v',rfl,⟨?_⟩,(by first|exact hg|(cases so <;> exact hg)),(by first|exact hloc|(cases so <;> exact hloc))⟩
   have e:(es++[x]).flatMap bV=es.flatMap bV++bV x:=bq
   rw [e,eP]
   exact hown'
 ·have hil:i<es.length:=af
  obtain⟨hl,⟨rfl,h0⟩|⟨g,cap,cur,rfl,hBg,hg,h1,h2,h3,h4⟩⟩:=hown.row
  ·omega
  ·unfold maxLen at h2
   have hgv:g≠vb:=fun h=>hne (by rw [h];rfl)
   have Wc:vb≠g:=Ne.symm hgv
   have hsz:(Tryd.prog.info? 3).map (·.size)=some 1:=by
    obtain⟨i0,z,hi0,hz,hz1,hz2,hz3⟩:=cC Tryd.PG
    rw [hi0];simp [hz1]
   have Va:g<w.heap.size:=(eW.1 hg).1
   have hvz:vb<w.heap.size:=(eW.1 hvb).1
   obtain⟨C,hC⟩:=bw (es.flatMap bV)
   have vX:C.length=es.length:=by rw [<-hC,hl,Nat.mul_one]
   rw [hC,<-vX,Nat.mul_one]at h4
   have XG:∀u∈C,u.oneCell'=true:=by rw [<-hC];exact pq es
   have Ht:=hdd (show (es.take i++x::es.drop i).flatMap bV=C.take (i)++bV x++C.drop (i) by
    rw [tM,gG,GY,GZ,hC,jn])
   have HLEN:=hdd (show (es.take i++x::es.drop i).length=es.length+1 by simp;omega)
   have hov:∀off lb cb,(callFunc 126 #[.slice (some ⟨vb,0,none⟩) 1 1, .slice (some ⟨g,off,none⟩) lb cb]).run Tryd.prog w = .ok (.value (.bool false)) w:=fun off lb cb=>by
    rw [run_callFunc_extern Tryd.func126 cy cy cy (e:=Extern.SlicesOverlaps.overlaps #[82,82] #[4]) cy,
     Lib.run_overlaps_apart w 82 4 3 Tryd.underlying82 1 (fun w=>cy) ⟨vb,0,none⟩ ⟨g,off,none⟩ 1 1 lb cb Wc 3 3 1 cur.size (by simp [World.shape?,hvb]) (by simp [World.shape?,hg]) af (by simp [World.frozen?,hvb]) (by simp [World.frozen?,hvb])]
    rfl
   by_cases hroom:es.length+1<=cap
   ·-- in place
    obtain⟨eK,nu⟩:=bQ (cur.toList.take (i+1)++C.drop (i)++cur.toList.drop (i+1+(C.drop (i)).length))
    obtain⟨mD,nt⟩:=bQ (eK.take (i)++bV x++eK.drop (i+(bV x).length))
    obtain⟨r1,r2,r3⟩:=FA (cur:=cur.toList) (C:=C) (X:=bV x) (a:=i) h4 af rfl (by simp;omega) nu nt
    have hw1:IntKind.i64.wrap ((i:Int)+1)=(i:Int)+1:=IntWalk.i64_in _ af
    have hw2:IntKind.i64.wrap ((es.length:Int)+1)=(es.length:Int)+1:=IntWalk.i64_in _ af
    have g0:¬((i:Int)=(es.length:Int)):=af
    have g1:¬((cap:Int)<(es.length:Int)+1):=af
    go_enter Tryd.func118,Tryd.ntmps118
    go_upto_region 14 with (fail)
    have e7:(i+1)=i+1:=af
    have zq:(C.drop (i)).length=(es.length-i):=by rw [oJ,vX]
    have hcC:∀(W:World),W.heap[g]?=w.heap[g]?->∀j u,(C.drop (i))[j]?=some u->W.cell? (Addr.add ⟨g,i,none⟩ j)=some u:=fun W hW j u hu=>by
     have ha:Addr.add ⟨g,i,none⟩ j=⟨g,i+j,none⟩:=by first|(simp [Addr.add];done)|(simp [Addr.add];omega)
     rw [List.getElem?_drop]at hu
     have hj:=(gH.1 hu).1
     rw [<-h4,qd,ar hj]at hu
     rw [ha]
     simp only [World.cell?,hW,hg]
     simpa using hu
    have MW:∀ty dc sc,(Builtin.copy_ #[82,82] ty #[.slice (some ⟨g,(i+1),none⟩) (es.length-i) dc, .slice (some ⟨g,i,none⟩) (es.length+1-i) sc]).run Tryd.prog w.drew = .ok (goInt (es.length-i:Nat)) (w.drew.setRow g eK.toArray):=fun ty dc sc=>by
     have:=fF (P:=Tryd.prog) w.drew 82 82 ty 3 1 g ((i+1)) (es.length-i) dc ⟨g,i,none⟩ (es.length+1-i) sc (es.length-i) cur 3 (C.drop (i)) Tryd.underlying82 hsz hg (by simp only [Nat.min_def];split <;> omega) (by rw [zq,Nat.mul_one]) (hcC _ rfl) (by rw [zq,h3];omega) (fun u hu=>XG u (ve hu))
     rw [this,e7,<-nu]
    obtain⟨W1,hW1⟩:=bQ (w.drew.setRow g eK.toArray)
    have hg1:W1.heap[g]?=some (.cells eK.toArray 3 (0,0)):=by rw [hW1];exact setRow_heap w.drew g cur _ _ _ hg
    have Ap:∀b,b≠g->W1.heap[b]?=w.heap[b]?:=fun b hb=>by rw [hW1];exact setRow_other w.drew g b _ hb
    have Tj:∀ty dc,(Builtin.copy_ #[82,82] ty #[.slice (some ⟨g,i,none⟩) (es.length+1-i) dc, .slice (some ⟨vb,0,none⟩) 1 1]).run Tryd.prog W1 = .ok (goInt (1:Nat)) (W1.setRow g mD.toArray):=fun ty dc=>by
     have:=fF (P:=Tryd.prog) W1 82 82 ty 3 1 g (i) (es.length+1-i) dc ⟨vb,0,none⟩ 1 1 1 eK.toArray 3 (bV x) Tryd.underlying82 hsz hg1 (by simp only [Nat.min_def];split <;> omega) rfl (fun j u hu=>by
      have ha:Addr.add ⟨vb,0,none⟩ j=⟨vb,j,none⟩:=by simp [Addr.add];omega
      rw [<-hx j u hu,ha];exact World.cell?_of_block (Ap vb Wc)) (by simp [r1,bV];omega) (fun u hu=>pq [x] u (by simpa using hu))
     rw [this]
     simp only []
     rw [<-nt]
    rw [<-hW1]at MW
    have b1:(0:Int)<=(i:Int)+1:=af
    have b2:¬(cap=i+1):=af
    have b3:(i:Int)<=(es.length:Int)+1:=af
    have b4:¬(cap=i):=af
    have b5:((i:Int)+1).toNat=i+1:=af
    have b6:i<=es.length:=af
    have b7:(i:Int)+1<=(es.length:Int)+1:=af
    have b8:es.length+1-(i+1)=es.length-i:=af
    have E3:=hdd r3
    have zW:=hdd vX
    have KF:=hdd hW1
    clear e7 zq nu nt r3 vX hW1
    go_wp2_with (simp only [hov])
    refine wp_region_still_tail 8 cy cy ?_
    (simp only [List.take_succ_cons,List.take_zero,List.drop_succ_cons,List.drop_zero];(repeat ((with_reducible refine wpStill_step (fun K hK=>?_));go_simp;(with_reducible refine hK _ ?_);clear hK K));(with_reducible refine wpStill_nil ?_))
    change wpList _ _ _ _ _ w.drew
    go_wp2_with (first
     |(at_builtin;refine eu _ rfl (.tmp 73) (.tmp 76) 82 82 rfl _ _ rfl rfl (MW _ _ _) ?_)
     |(at_builtin;refine eu _ rfl (.tmp 80) (.tmp 81) 82 82 rfl _ _ rfl rfl (Tj _ _) ?_))
    go_ret
    refine⟨_,rfl,⟨?_⟩,?_, .inl rfl⟩
    ·rw [Ht.out,HLEN.out]
     have vX:=zW.out
     refine⟨by simp [vX,bV];omega, .inr ⟨g,cap,mD.toArray,rfl,hBg,setRow_heap W1 g _ _ _ _ hg1,hroom,by unfold maxLen;omega,by simp [r2,h3],?_⟩⟩
     simp only []
     rw [show (es.length+1)*1=C.length+1 from by omega];exact E3.out
    ·have hW1:=KF.out
     refine⟨by rw [hW1];rfl,by rw [hW1];rfl,by rw [hW1];rfl,by rw [hW1];simp [World.setRow],fun k _ hk=>?_⟩
     have hkg:k≠g:=fun h=>hk (by rw [h];rfl)
     exact(setRow_other W1 g k _ hkg).trans (Ap k hkg)
   ·-- a new row
    have hcap:cap<es.length+1:=af
    obtain⟨i0,z,hi0,hz,hz1,hz2,hz3⟩:=cC Tryd.PG
    have hold:(Builtin.firstCells i0.size i (.slice (some ⟨g,0,none⟩) i cap)).run Tryd.prog w.drew = .ok (C.take (i)).toArray w.drew:=by
     rw [hz1]
     refine run_firstCells_some w.drew 1 i ⟨g,0,none⟩ i cap (C.take (i)) (by rw [fw,vX];omega) fun j u hu=>?_
     have ha:Addr.add ⟨g,0,none⟩ j=⟨g,j,none⟩:=by simp [Addr.add];omega
     rw [qd]at hu
     split at hu
     ·have hj:=(gH.1 hu).1
      rw [<-h4,qd,ar hj]at hu
      rw [ha]
      show w.cell? ⟨g,j,none⟩=_
      simp only [World.cell?,hg]
      simpa using hu
     ·cases hu
    obtain⟨G,hG⟩:=bQ (grownCap w (es.length+1) cap 3)
    have hGn:es.length+1<=G:=by rw [hG];exact grownCap_ge w _ _ _
    have abP:G<=9223372036854775807:=by
     have:=grownCap_le_maxLen w (es.length+1) cap 3 (by unfold maxLen;omega)
     rw [<-hG]at this;unfold maxLen at this;exact this
    obtain⟨Z,hZ⟩:=bQ ((Builtin.zeroCells z.cells (es.length+1-i)++Builtin.zeroCells z.cells (G-(es.length+1))).toList)
    have Rg:Z.length=(G-i):=by rw [hZ];simp [Builtin.zeroCells,hz3];omega
    obtain⟨row,hrow⟩:=bQ (C.take (i)++Z)
    have hrl:row.length=G:=by rw [hrow,eP,Rg,fw,vX];omega
    obtain⟨W1,hW1⟩:=bQ (w.drew.alloc (.cells row.toArray 3))
    have hkk:(es.length:Int)+1-(i:Int)=((es.length+1-i:Nat):Int):=af
    have hik:i+(es.length+1-i)=es.length+1:=af
    have Wq:∀ty,(Builtin.append_ #[82,3] ty #[.slice (some ⟨g,0,none⟩) i cap, .int .i64 ((es.length:Int)+1-(i:Int))]).run Tryd.prog w = .ok (.slice (some ⟨w.heap.size,0,none⟩) (es.length+1) G) W1:=fun ty=>by
     have h:=Lib.run_append_grow_zeros w 82 3 ty 3 i0 z .i64 .i64 Tryd.underlying82 Tryd.underlying3 hi0 hz (some ⟨g,0,none⟩) i cap (C.take (i)) hold (es.length+1-i) af af af af (by rw [hz2];omega) (by rw [hz2,hik];exact growslice_fits_wide hcap af)
     rw [hik,<-hG]at h
     have e:∀(L:List Value) (A D:Array Value),L.toArray++A++D=(L++(A++D).toList).toArray:=fun L A D=>by apply Array.ext';simp
     rw [hkk,h,hW1,hrow,hZ,e]
    obtain⟨eK,nu⟩:=bQ (row.take (i)++bV x++row.drop (i+(bV x).length))
    obtain⟨mD,nt⟩:=bQ (eK.take (i+1)++C.drop (i)++eK.drop (i+1+(C.drop (i)).length))
    obtain⟨r1,r2,r3⟩:=J4 (C:=C) (X:=bV x) (a:=i) hrow af rfl af nu nt
    have e7:(i+1)=i+1:=af
    have zq:(C.drop (i)).length=(es.length-i):=by rw [oJ,vX]
    obtain⟨N,hN⟩:=bQ (w.heap.size)
    rw [<-hN]at Wq
    have hg1:W1.heap[N]?=some (.cells row.toArray 3 (0,0)):=by rw [hW1,hN];exact aq w.drew _ rfl
    have Ap:∀b,b<w.heap.size->W1.heap[b]?=w.heap[b]?:=fun b hb=>by rw [hW1];exact lJ w.drew _ b hb
    have hgN:g≠N:=af
    have hvN:vb≠N:=af
    have MV:∀ty dc,(Builtin.copy_ #[82,82] ty #[.slice (some ⟨N,i,none⟩) (es.length+1-i) dc, .slice (some ⟨vb,0,none⟩) 1 1]).run Tryd.prog W1 = .ok (goInt (1:Nat)) (W1.setRow N eK.toArray):=fun ty dc=>by
     have:=fF (P:=Tryd.prog) W1 82 82 ty 3 1 N (i) (es.length+1-i) dc ⟨vb,0,none⟩ 1 1 1 row.toArray 3 (bV x) Tryd.underlying82 hsz hg1 (by simp only [Nat.min_def];split <;> omega) rfl (fun j u hu=>by
      have ha:Addr.add ⟨vb,0,none⟩ j=⟨vb,j,none⟩:=by simp [Addr.add];omega
      rw [<-hx j u hu,ha];exact World.cell?_of_block (Ap vb hvz)) (by simp [hrl,bV];omega) (fun u hu=>pq [x] u (by simpa using hu))
     rw [this]
     simp only []
     rw [<-nu]
    obtain⟨W2,hW2⟩:=bQ (W1.setRow N eK.toArray)
    have hg2:W2.heap[N]?=some (.cells eK.toArray 3 (0,0)):=by rw [hW2];exact setRow_heap W1 N _ _ _ _ hg1
    have Ao:∀b,b<w.heap.size->W2.heap[b]?=w.heap[b]?:=fun b hb=>by rw [hW2];exact(setRow_other W1 N b _ af).trans (Ap b hb)
    rw [<-hW2]at MV
    have Ti:∀ty dc sc,(Builtin.copy_ #[82,82] ty #[.slice (some ⟨N,(i+1),none⟩) (es.length-i) dc, .slice (some ⟨g,i,none⟩) (es.length-i) sc]).run Tryd.prog W2.drew = .ok (goInt (es.length-i:Nat)) (W2.drew.setRow N mD.toArray):=fun ty dc sc=>by
     have:=fF (P:=Tryd.prog) W2.drew 82 82 ty 3 1 N ((i+1)) (es.length-i) dc ⟨g,i,none⟩ (es.length-i) sc (es.length-i) eK.toArray 3 (C.drop (i)) Tryd.underlying82 hsz hg2 (by simp only [Nat.min_def];split <;> omega) (by rw [zq,Nat.mul_one]) (fun j u hu=>by
      have ha:Addr.add ⟨g,i,none⟩ j=⟨g,i+j,none⟩:=by first|(simp [Addr.add];done)|(simp [Addr.add];omega)
      rw [List.getElem?_drop]at hu
      have hj:=(gH.1 hu).1
      rw [<-h4,qd,ar hj]at hu
      rw [ha]
      show W2.cell? ⟨g,i+j,none⟩=_
      rw [World.cell?_of_block (Ao g Va)]
      simp only [World.cell?,hg]
      simpa using hu) (by simp [r1,hrl,zq];omega) (fun u hu=>XG u (ve hu))
     rw [this,e7]
     simp only []
     rw [<-nt]
    have hw1:IntKind.i64.wrap ((i:Int)+1)=(i:Int)+1:=IntWalk.i64_in _ af
    have hw2:IntKind.i64.wrap ((es.length:Int)+1)=(es.length:Int)+1:=IntWalk.i64_in _ af
    have hw3:IntKind.i64.wrap ((es.length:Int)+1-(i:Int))=(es.length:Int)+1-(i:Int):=IntWalk.i64_in _ af
    have g0:¬((i:Int)=(es.length:Int)):=af
    have g1:(cap:Int)<(es.length:Int)+1:=af
    have b1:(0:Int)<=(i:Int)+1:=af
    have b2:¬(G=i+1):=af
    have b3:(i:Int)<=(es.length:Int)+1:=af
    have b4:¬(cap=i):=af
    have b4':¬(G=i):=af
    have b5:((i:Int)+1).toNat=i+1:=af
    have b6:i<=es.length:=af
    have b7:(i:Int)+1<=(es.length:Int)+1:=af
    have b8:es.length+1-(i+1)=es.length-i:=af
    have E3:=hdd r3
    have zW:=hdd vX
    have KF:=hdd hW1
    have Qt:=hdd hW2
    have Ob:=hdd hN
    have N7:=hdd (r2.trans (hrl))
    clear e7 zq nu nt r3 vX hW1 hW2 hN hG hkk hik hZ Rg hrow hrl r1 r2
    go_enter Tryd.func118,Tryd.ntmps118
    go_wp2_with (first
     |(at_builtin;refine nO _ rfl (.tmp 34) (.tmp 39) 82 3 rfl _ _ rfl rfl (Wq _) ?_)
     |(at_builtin;refine eu _ rfl (.tmp 43) (.tmp 44) 82 82 rfl _ _ rfl rfl (MV _ _) ?_))
    refine wp_region_still_tail 8 cy cy ?_
    (simp only [List.take_succ_cons,List.take_zero,List.drop_succ_cons,List.drop_zero];(repeat ((with_reducible refine wpStill_step (fun K hK=>?_));go_simp;(with_reducible refine hK _ ?_);clear hK K));(with_reducible refine wpStill_nil ?_))
    change wpList _ _ _ _ _ W2.drew
    go_wp2_with ((at_builtin;refine eu _ rfl (.tmp 50) (.tmp 53) 82 82 rfl _ _ rfl rfl (Ti _ _ _) ?_))
    go_ret
    have vX:=zW.out
    have hN:=Ob.out
    refine⟨_,rfl,⟨?_⟩,?_, .inr (by rw [hN];rfl)⟩
    ·rw [Ht.out,HLEN.out]
     refine⟨by simp [vX,bV];omega, .inr ⟨N,G,mD.toArray,rfl,af,setRow_heap W2.drew N _ _ _ _ hg2,hGn,by unfold maxLen;omega,by simp [N7.out],?_⟩⟩
     simp only []
     rw [show (es.length+1)*1=C.length+1 from by omega];exact E3.out
    ·refine⟨by rw [Qt.out,KF.out];rfl,by rw [Qt.out,KF.out];rfl,by rw [Qt.out,KF.out];rfl,by rw [Qt.out,KF.out];simp [World.setRow,World.alloc],fun k hk _=>?_⟩
     exact(setRow_other W2.drew N k _ af).trans (Ao k hk)
end
section
set_option maxRecDepth 100000
set_option maxHeartbeats 1000000
theorem Iw {lo hi:Nat}:((lo:Int)+(hi:Int))/2=(((lo+hi)/2:Nat):Int):=af
theorem FD {v:Value} {zs:List Int} {x:Int} {w:World} (ha:gu w v zs) (hs:zs.Pairwise (·<·)) :
  Calls Tryd.prog 117 #[v, .int .i64 x] w fun e w'=>e = .returned (.tuple #[.int .i64 (LJ zs x), .bool (decide (x∈zs))])/\ah w w':=by
 have hlen:=ha.len aW
 obtain⟨ao,ca,rfl,-,-,-,-,a5⟩:=ha
 have S:=hdd fun a b (ha:a<zs.length) (hb:b<zs.length) (h:a<=b)=>(show zs[a]<=zs[b]from by
  by_cases hab:a=b
  ·subst hab;exact Int.le_refl _
  ·exact Int.le_of_lt (pz.1 hs a b ha hb af))
 have HS:=hdd hs
 have HC:=hdd fun w' (hb:ah w w') t (ht:t<zs.length)=>(by
  obtain⟨b,off,rfl,hbb,hc⟩:=a5 af
  exact⟨b,off,rfl,Mg hb hbb hc ht⟩:∃b off,ao=some ⟨b,off,none⟩/\w'.cell? ⟨b,off+t,none⟩=some (.int .i64 zs[t]))
 clear hs a5
 go_enter Tryd.func117,Tryd.ntmps117
 go_wp2_with fail
 go_loopg [7,8] zs.length (fun g s7 s8 wr=>∃lo hi:Nat,s7 = .int .i64 lo/\s8 = .int .i64 hi/\lo<=hi/\hi<=zs.length/\hi-lo<=g/\ah w wr/\Hid ((∀t (ht:t<zs.length),t<lo->zs[t]<x)/\(∀t (ht:t<zs.length),hi<=t->x<=zs[t])))
 case atStart=>exact⟨0,zs.length,rfl,rfl,iN _,kK _,af,aJ _ _,hdd ⟨fun t _ ht=>absurd ht (Nat.not_lt_zero _),fun t h1 h2=>af⟩⟩
 case round=>
  obtain⟨lo,hi,rfl,rfl,hlh,hin,hg,di,I⟩:=hrel
  by_cases hlt:lo<hi
  ·obtain⟨m,hm⟩:=bQ ((lo+hi)/2)
   have WD:((lo:Int)+(hi:Int))/2=((m:Nat):Int):=by rw [hm];exact Iw
   have CJ:lo<=m/\m<hi:=af
   have QY:m<zs.length:=af
   obtain⟨b,off,rfl,cm⟩:=HC.out _ di m QY
   obtain⟨y,hy⟩:=bw (zs[m])
   rw [hy]at cm
   have Y:=hdd hy
   clear hy hm
   by_cases hyx:y<x
   ·go_wp2
    go_roundg (hi-(m+1))
    case measure=>omega
    case rel=>
     refine⟨m+1,hi,by go_num,rfl,af,hin,kK _,di,hdd ⟨fun t ht htm=>?_,I.out.2⟩⟩
     have:=S.out t m ht QY af
     rw [Y.out]at this
     omega
   ·go_wp2
    go_roundg (m-lo)
    case measure=>omega
    case rel=>
     refine⟨lo,m,rfl,rfl,af,af,kK _,di,hdd ⟨I.out.1,fun t ht htm=>?_⟩⟩
     have:=S.out m t QY ht af
     rw [Y.out]at this
     omega
  ·obtain rfl:hi=lo:=af
   have E1:=hdd (Pk hin I.out.1 I.out.2)
   have E2:=hdd (P9 HS.out I.out.1 I.out.2)
   by_cases hn:hi<zs.length
   ·obtain⟨b,off,rfl,cm⟩:=HC.out _ di hi hn
    rw [dif_pos hn]at E2
    obtain⟨y,hy⟩:=bw (zs[hi])
    rw [hy]at cm E2
    clear hy
    by_cases hyx:y=x
    ·have hd:(y == x)=true:=by simp [hyx]
     rw [decide_eq_true hyx]at E2
     go_wp2
     go_ret2
     rw [E1.out,E2.out]
     exact⟨rfl,di⟩
    ·have hd:(y == x)=false:=by simp [hyx]
     rw [wF hyx]at E2
     go_wp2
     go_ret2
     rw [E1.out,E2.out]
     exact⟨rfl,di⟩
   ·rw [dif_neg hn]at E2
    go_wp2
    go_ret2
    rw [E1.out,E2.out]
    exact⟨rfl,di⟩
end
section
set_option maxRecDepth 100000
set_option maxHeartbeats 1000000
variable {x:Int} {es:List aA} {w:World}
theorem Ks {e:aA} (h1 : -9223372036854775808<=e.key-x) (h2:e.key-x<=9223372036854775807) :
  Calls Tryd.prog 116 #[.agg #[.int .i64 e.key, .int .i64 e.is.c, .int .i64 e.is.s, .int .i64 e.is.mi, .int .i64 e.is.ma, .int .i64 e.is.t, .int .i64 e.is.l], .int .i64 x] w fun r w'=>r = .returned (.int .i64 (e.key-x))/\ah w w':=by
 have hw:IntKind.i64.wrap (e.key-x)=e.key-x:=IntWalk.i64_in _ af
 go_enter Tryd.func116,Tryd.ntmps116
 go_wp2
 go_ret
 exact⟨rfl,ag⟩
theorem CW {v:Value} (ha:eQ w v es) (hs:aV es) (hb:∀e∈es,-9223372036854775808<=e.key-x/\e.key-x<=9223372036854775807) :
  Calls Tryd.prog 115 #[v, .int .i64 x, .func (.func 116) #[] #[]] w fun r w'=>r = .returned (.tuple #[.int .i64 (ic es x), .bool (qW es x)])/\ah w w':=by
 have hlen:=ha.len aW
 obtain⟨ao,ca,rfl,-,-,-,-,a5⟩:=ha
 have S:=hdd fun a b (ha:a<es.length) (hb:b<es.length) (h:a<=b)=>(show es[a].key<=es[b].key from by
  by_cases hab:a=b
  ·subst hab;exact Int.le_refl _
  ·exact Int.le_of_lt (pz.1 hs a b ha hb af))
 have HS:=hdd hs
 have HC:=hdd fun w' (hb:ah w w') t (ht:t<es.length)=>(by
  obtain⟨b,off,rfl,hbb,hc⟩:=a5 af
  exact⟨b,off,rfl,hbb,bR hb hbb hc ht⟩:∃b off,ao=some ⟨b,off,none⟩/\b<w.heap.size/\w'.cell? ⟨b,off+t*7,none⟩=some (.int .i64 es[t].key)/\w'.cell? ⟨b,off+t*7+1,none⟩=some (.int .i64 es[t].is.c)/\w'.cell? ⟨b,off+t*7+2,none⟩=some (.int .i64 es[t].is.s)/\w'.cell? ⟨b,off+t*7+3,none⟩=some (.int .i64 es[t].is.mi)/\w'.cell? ⟨b,off+t*7+4,none⟩=some (.int .i64 es[t].is.ma)/\w'.cell? ⟨b,off+t*7+5,none⟩=some (.int .i64 es[t].is.t)/\w'.cell? ⟨b,off+t*7+6,none⟩=some (.int .i64 es[t].is.l))
 have HK:=hdd fun t (ht:t<es.length) w'=>Ks (e:=es[t]) (x:=x) (w:=w') (hb _ (fO ht)).1 (hb _ (fO ht)).2
 clear hs a5 hb
 go_enter Tryd.func115,Tryd.ntmps115
 go_wp2_with fail
 go_loopg [9,10] es.length (fun g s7 s8 wr=>∃lo hi:Nat,s7 = .int .i64 lo/\s8 = .int .i64 hi/\lo<=hi/\hi<=es.length/\hi-lo<=g/\ah w wr/\Hid ((∀t (ht:t<es.length),t<lo->es[t].key<x)/\(∀t (ht:t<es.length),hi<=t->x<=es[t].key)))
 case atStart=>exact⟨0,es.length,rfl,rfl,iN _,kK _,af,aJ _ _,hdd ⟨fun t _ ht=>absurd ht (Nat.not_lt_zero _),fun t h1 h2=>af⟩⟩
 case round=>
  obtain⟨lo,hi,rfl,rfl,hlh,hin,hg,di,I⟩:=hrel
  have hbz:=di.size
  by_cases hlt:lo<hi
  ·obtain⟨m,hm⟩:=bQ ((lo+hi)/2)
   have WD:((lo:Int)+(hi:Int))/2=((m:Nat):Int):=by rw [hm];exact Iw
   have CJ:lo<=m/\m<hi:=af
   have QY:m<es.length:=af
   obtain⟨b,off,rfl,hbb,c0,c1,c2,c3,c4,c5,c6⟩:=HC.out _ di m QY
   have HA:=hdd fun w'=>HK.out m QY w'
   obtain⟨y,hy⟩:=bw (es[m])
   rw [hy]at c0 c1 c2 c3 c4 c5 c6 HA
   have Y:=hdd hy
   clear hy hm
   by_cases hyx:y.key<x
   ·have hd:decide (y.key-x<0)=true:=by simp;omega
    go_wp2_with ((go_at_call 116;(with_reducible refine(HA.out _).mono ?_);rintro r w1 ⟨rfl,hb1⟩))
    go_roundg (hi-(m+1))
    case measure=>omega
    case rel=>
     refine⟨m+1,hi,by go_num,rfl,af,hin,kK _,Below.trans' di hb1 di.size,hdd ⟨fun t ht htm=>?_,I.out.2⟩⟩
     have:=S.out t m ht QY af
     rw [Y.out]at this
     omega
   ·have hd:decide (y.key-x<0)=false:=by simp;omega
    go_wp2_with ((go_at_call 116;(with_reducible refine(HA.out _).mono ?_);rintro r w1 ⟨rfl,hb1⟩))
    go_roundg (m-lo)
    case measure=>omega
    case rel=>
     refine⟨lo,m,rfl,rfl,af,af,kK _,Below.trans' di hb1 di.size,hdd ⟨I.out.1,fun t ht htm=>?_⟩⟩
     have:=S.out m t QY ht af
     rw [Y.out]at this
     omega
  ·obtain rfl:hi=lo:=af
   have E1:=hdd (xU hin I.out.1 I.out.2)
   have E2:=hdd (Qa HS.out I.out.1 I.out.2)
   by_cases hn:hi<es.length
   ·obtain⟨b,off,rfl,hbb,c0,c1,c2,c3,c4,c5,c6⟩:=HC.out _ di hi hn
    have HA:=hdd fun w'=>HK.out hi hn w'
    rw [dif_pos hn]at E2
    obtain⟨y,hy⟩:=bw (es[hi])
    rw [hy]at c0 c1 c2 c3 c4 c5 c6 E2 HA
    clear hy
    by_cases hyx:y.key=x
    ·have hd:(y.key-x == 0)=true:=by simp [hyx]
     rw [decide_eq_true hyx]at E2
     clear hyx
     go_wp2_with ((go_at_call 116;(with_reducible refine(HA.out _).mono ?_);rintro r w1 ⟨rfl,hb1⟩))
     go_ret2
     rw [E1.out,E2.out]
     exact⟨rfl,Below.trans' di hb1 di.size⟩
    ·have hd:(y.key-x == 0)=false:=by simp;omega
     rw [wF hyx]at E2
     go_wp2_with ((go_at_call 116;(with_reducible refine(HA.out _).mono ?_);rintro r w1 ⟨rfl,hb1⟩))
     go_ret2
     rw [E1.out,E2.out]
     exact⟨rfl,Below.trans' di hb1 di.size⟩
   ·rw [dif_neg hn]at E2
    go_wp2
    go_ret2
    rw [E1.out,E2.out]
    exact⟨rfl,di⟩
theorem Ct {v:Value} (ha:eQ w v es) (hs:aV es) (hb:∀e∈es,-9223372036854775808<=e.key-x/\e.key-x<=9223372036854775807) :
  Calls Tryd.prog 94 #[v, .int .i64 x] w fun r w'=>r = .returned (.tuple #[.int .i64 (ic es x), .bool (qW es x)])/\ah w w':=by
 have HS:=hdd (CW ha hs hb)
 obtain⟨ao,ca,rfl⟩:=ha.isSlice
 clear ha hs hb
 go_enter Tryd.func94,Tryd.ntmps94
 go_wp2_with ((go_at_call 115;(with_reducible refine HS.out.mono ?_);rintro r w1 ⟨rfl,hb1⟩))
 go_ret2
 exact⟨rfl,hb1⟩
theorem xV {lf:Bool} {ev kv dv bv:Value} {keys:List Int} (ha:gu w kv keys) (hs:keys.Pairwise (·<·)) :
  Calls Tryd.prog 95 #[.agg #[.bool lf,ev,kv,dv,bv], .int .i64 x] w fun r w'=>r = .returned (.int .i64 (aX keys x))/\ah w w':=by
 have HS:=hdd fun w' (hb:ah w w')=>FD (x:=x) (ha.below hb aI) hs
 have HI:=hdd (JM (x:=x) hs)
 have hlen:=ha.len aW
 have hpos:LJ keys x<=keys.length:=(List.takeWhile_prefix _).length_le
 obtain⟨ao,ca,rfl⟩:=ha.isSlice
 clear ha hs
 by_cases hm:x∈keys
 ·have HM:=hdd (show decide (x∈keys)=true by simp [hm])
  rw [ar hm]at HI
  rw [HM.out]at HS
  clear hm
  go_enter Tryd.func95,Tryd.ntmps95
  go_wp2_with ((go_at_call 117;(with_reducible refine(HS.out _ ag).mono ?_);rintro r w1 ⟨rfl,hb1⟩))
  go_ret
  rw [HI.out]
  exact⟨rfl,Below.trans' ag hb1 (by first|omega|(simp;done)|(simp;omega)|(simp [aL];done)|(simp [aL];omega))⟩
 ·have HM:=hdd (show decide (x∈keys)=false by simp [hm])
  rw [ai hm]at HI
  rw [HM.out]at HS
  clear hm
  go_enter Tryd.func95,Tryd.ntmps95
  go_wp2_with ((go_at_call 117;(with_reducible refine(HS.out _ ag).mono ?_);rintro r w1 ⟨rfl,hb1⟩))
  go_ret
  rw [HI.out]
  exact⟨rfl,Below.trans' ag hb1 (by first|omega|(simp;done)|(simp;omega)|(simp [aL];done)|(simp [aL];omega))⟩
end
end Go.Proofs.YtmljjfhgciaceaaDoor
