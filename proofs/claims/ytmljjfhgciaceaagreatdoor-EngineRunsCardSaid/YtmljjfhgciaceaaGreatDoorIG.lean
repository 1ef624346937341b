/- Lemmas of the proof. -/
import Derived.Test.YtmljjfhgciaceaaGreatDoorHd
import Derived.Test.YtmljjfhgciaceaaGreatDoorCz
import Derived.Test.YtmljjfhgciaceaaGreatDoorSX
import Derived.Laws.CopyRow
import Derived.Lib.Overlaps
import Derived.Lib.AppendZerosOnto
import Derived.Laws.Externs
import Derived.StillTailTactics
import Derived.Deep.DeepAppendWide
import Derived.Maps.AppendAt
import Derived.Test.YtmljjfhgciaceaaGreatDoorPA
import Derived.BigQuiet
import Derived.Deep.QuietTactic
set_option maxRecDepth 100000
set_option maxHeartbeats 1000000
namespace Go.Proofs.YtmljjfhgciaceaaGreatDoor
open Go.RowKit
section
variable {ops:Array Oper} {Q:Exit->Act->World->Prop} {es:List aH} {rest:List Oper} {fF oU:List Value} {a:Nat} {o:Oper} {P:Program} {v':Value} {w':World}
theorem Oj {cur C X:List Value} (hC:cur.take C=C) (ha:a<=C) (hX:X.length=7) (hfit:C+7<=cur.length)
  (h1:fF=cur.take (a+7)++C.drop a++cur.drop (a+7+(C.drop a).length)) (h2:oU=fF.take a++X++fF.drop (a+X)) :
  fF=cur.length/\oU=cur.length/\oU.take (C+7)=C.take a++X++C.drop a:=by
 have l1:fF=cur.length:=by rw [h1];simp;omega
 have e1:fF.take a=C.take a:=by
  rw [h1,iT,Dv fk,List.take_take,<-hC,List.take_take]
  congr 1;omega
 have e2:fF.drop (a+X)=C.drop a++cur.drop (a+7+(C.drop a).length):=by
  rw [h1,hX,iT,List.drop_append_of_le_length fk,zX fk,List.nil_append]
 refine⟨l1,by rw [h2];simp;omega,?_⟩;rw [h2,e1,e2,<-iT,Dv fk,iM fk]
theorem Si {row C X Z:List Value} (hr:row=C.take a++Z) (ha:a<=C) (hX:X.length=7) (hfit:C+7<=row.length)
  (h1:fF=row.take a++X++row.drop (a+X)) (h2:oU=fF.take (a+7)++C.drop a++fF.drop (a+7+(C.drop a).length)) :
  fF=row.length/\oU=row.length/\oU.take (C+7)=C.take a++X++C.drop a:=by
 have l1:fF=row.length:=by rw [h1];simp;omega
 have e0:row.take a=C.take a:=by rw [hr,Dv fk,iM fk]
 have e1:fF.take (a+7)=C.take a++X:=by
  rw [h1,e0,Dv fk,iM fk]
 refine⟨l1,by rw [h2];simp;omega,?_⟩;rw [h2,e1,Dv fk,iM fk]
theorem gN (w:World) (dT sT ty elem:TypeId) (k g o dLen dCap:Nat) (a:Addr) (sLen sCap m:Nat) (cur:Array Value) (t:TypeId) (cs:List Value)
  (hu:P.underlying dT=some (.slice elem)) (hs:(P.info? elem).map (·.size)=some k) (hg:w.heap[g]?=some (.cells cur t (0,0))) (hm:Nat.min sLen dLen=m) (hn:cs.length=m*k)
  (hsrc:∀j v,cs[j]?=some v->w.cell? (a.add j)=some v) (hfit:o+cs<=cur.size) (h1:∀v∈cs,v.oneCell'=true) :
  (Builtin.copy_ #[dT,sT] ty #[ah (some (g,o)) dLen dCap,ah (some a) sLen sCap]).run P w =
   .ok (goInt m) (w.setRow g (cur.toList.take o++cs++cur.toList.drop (o+cs.length)).toArray):=by
 have hl:=run_loadCells_list (P:=P) w a cs hsrc;have hst:=run_storeCells_at P g o t cs 0 cur w hg (by simpa using hfit) h1
 cases hq:P.info? elem with
 |none=>simp [hq]at hs
 |some i=>
  have hi:i.size=k:=by simpa [hq] using hs
  rw [hn]at hl;simp [Builtin.copy_,run_underlying hu,Builtin.lenOf,Builtin.firstCells,sizeOf,typeInfo,hq,hi,hm,hl,hst]
theorem fu (w:World) {a:Act} (hgd:o.guard=none) (d s:Operand) (t t':TypeId)
  (ho:o.op = .call { callee:= .builtin .copy,args:=#[d,s],argTypes:=#[t,t'] }) (v u:Value) (hd:a.eval d=v) (hs:a.eval s=u)
  (hr:(Builtin.copy_ #[t,t'] o.type #[v,u]).run P w = .ok v' w') (h:wpList P ops Q rest (a.put o.dst v') w'):wpList P ops Q (o::rest) a w:=
 wpList_plain hgd fun K hK=>by
  unfold Oper.wp execOp;simp only [ho,resolve,invoke,builtin,Sem.run_bind,Sem.run_pure,Result.andThen_ok,List.map_toArray,List.map_cons,List.map_nil,hd,hs,hr];exact hK _ _ h
theorem qM (w:World) {a:Act} (hgd:o.guard=none) (d s:Operand) (t t':TypeId)
  (ho:o.op = .call { callee:= .builtin .append,args:=#[d,s],argTypes:=#[t,t'] }) (v u:Value) (hd:a.eval d=v) (hs:a.eval s=u)
  (hr:(Builtin.append_ #[t,t'] o.type #[v,u]).run P w = .ok v' w') (h:wpList P ops Q rest (a.put o.dst v') w'):wpList P ops Q (o::rest) a w:=
 wpList_plain hgd fun K hK=>by
  unfold Oper.wp execOp;simp only [ho,resolve,invoke,builtin,Sem.run_bind,Sem.run_pure,Result.andThen_ok,List.map_toArray,List.map_cons,List.map_nil,hd,hs,hr];exact hK _ _ h
theorem Pw (i:Nat):(es.take i).flatMap bu=(es.flatMap bu).take (i*7):=by
 induction es generalizing i with
 |nil=>simp
 |cons e es ih=>
  cases i with
  |zero=>simp
  |succ i=>
   rw [List.take_succ_cons,fO,fO,ih,Nat.add_mul,Nat.one_mul,List.take_append,cO,iM (l:=bu e) (by rw [cO];omega),Nat.add_sub_cancel]
theorem Px (i:Nat):(es.drop i).flatMap bu=(es.flatMap bu).drop (i*7):=by
 induction es generalizing i with
 |nil=>simp
 |cons e es ih=>
  cases i with
  |zero=>simp
  |succ i=>
   rw [List.drop_succ_cons,fO,ih,Nat.add_mul,Nat.one_mul,List.drop_append,cO,(show (bu e).drop (i*7+7)=[]from zX (by rw [cO];omega)),Nat.add_sub_cancel,List.nil_append]
end
theorem IM {B:Nat} {w:World} {v:Value} {es:List aH} {i vb:Nat} {x:aH} (hown:ay B w v es) (hi:i<=es) (hB:B<=w) (hlen:es.length<=100000)
  (hvb:w.heap[vb]?=some (.cells #[af x.key,af x.is.c,af x.is.s,af x.is.mi,af x.is.ma,af x.is.t,af x.is.l] 107)) (hne:v.ownBlock≠some vb) :
  Calls Tryz.prog 121 #[v,af i,ah vb 1 1] w fun e w'=>∃v',e = .returned v'/\ay B w' v' (es.take i++x::es.drop i)/\w.grownBy w' v.ownBlock/\(v'.ownBlock=v.ownBlock\/v'.ownBlock=some w.heap.size):=by
 have hx:∀j u,(bu x)[j]?=some u->w.cell? (Addr.add (vb,0) j)=some u:=fun j u h=>by
  have ha:Addr.add (vb,0) j=(vb,j):=by simp [Addr.add];omega
  rw [ha];simp only [World.cell?,hvb];simpa [bu] using h
 by_cases hin:i=es
 ·subst hin;obtain⟨so,sc,rfl⟩:=hown.isSlice;have hE:=ag (show es.take es++x::es.drop es=es++[x] by simp);obtain⟨i0,z,hi0,hz,hz1,hz2,hz3⟩:=cG Tryz.IU;go_enter Tryz.func121,Tryz.ntmps121;go_wp2_with (at_builtin;refine wpList_append_own_at w rfl (.tmp 23) (.tmp 24) 35 rfl B 107 i0 z 7 56 Tryz.underlying35 hi0 hz hz1 hz2 hz3 bY _ es _ rfl hown.row (vb,0) 1 1 (bu x) rfl rfl hx (fun u hu=>iW [x] u (by simpa using hu)) iI ai hB ?_;intro v' w' hown' hg _ hloc)
  all_goals
   go_ret
   (try rw [hE])
   refine⟨v',rfl,⟨?_⟩,(by first|exact hg|(cases so <;> exact hg)),(by first|exact hloc|(cases so <;> exact hloc))⟩
   have e:(es++[x]).flatMap bu=es.flatMap bu++bu x:=bh;rw [e,dF];exact hown'
 ·have hil:i<es:=ai;obtain⟨hl,⟨rfl,h0⟩|⟨g,cap,cur,rfl,hBg,hg,h1,h2,h3,h4⟩⟩:=hown.row
  ·omega
  ·unfold maxLen at h2;have hgv:g≠vb:=fun h=>hne (by rw [h];rfl);have hvg:vb≠g:=Ne.symm hgv;have hsz:(Tryz.prog.info? 107).map (·.size)=some 7:=by
    obtain⟨i0,z,hi0,hz,hz1,hz2,hz3⟩:=cG Tryz.IU;rw [hi0];simp [hz1]
   have hgz:g<w:=(eJ.1 hg).1;have hvz:vb<w:=(eJ.1 hvb).1;obtain⟨C,hC⟩:=bG (es.flatMap bu);have zK:C=es.length*7:=by rw [<-hC];exact hl
   rw [hC,<-zK]at h4;have hC1:∀u∈C,u.oneCell'=true:=by rw [<-hC];exact iW es
   have Gz:=ag (show (es.take i++x::es.drop i).flatMap bu=C.take (i*7)++bu x++C.drop (i*7) by
    rw [pK,fO,Pw,Px,hC,iT])
   have HLEN:=ag (show (es.take i++x::es.drop i).length=es.length+1 by simp;omega);have hov:∀off lb cb,(callFunc 129 #[ah vb 1 1,ah (some ⟨g,off,none⟩) lb cb]).run Tryz.prog w = .ok (.value (.bool false)) w:=fun off lb cb=>by
    rw [run_callFunc_extern Tryz.func129 cV cV cV (e:=Extern.SlicesOverlaps.overlaps #[35,35] #[4]) cV,
     Lib.run_overlaps_apart w 35 4 107 Tryz.underlying35 7 (fun w=>cV) ⟨vb,0,none⟩ ⟨g,off,none⟩ 1 1 lb cb hvg 107 107 7 cur.size (by simp [World.shape?,hvb]) (by simp [World.shape?,hg]) ai (by simp [World.frozen?,hvb]) (by simp [World.frozen?,hvb])]
    rfl
   by_cases hroom:es+1<=cap
   ·-- in place
    obtain⟨fF,qm⟩:=cd (cur.toList.take (i*7+7)++C.drop (i*7)++cur.toList.drop (i*7+7+(C.drop (i*7)).length));obtain⟨oU,ql⟩:=cd (fF.take (i*7)++bu x++fF.drop (i*7+(bu x).length));obtain⟨r1,r2,r3⟩:=Oj (cur:=cur.toList) (C:=C) (X:=bu x) (a:=i*7) h4 ai rfl fk qm ql;have hw1:IntKind.i64.wrap ((i:Int)+1)=(i:Int)+1:=bI _ ai;have hw2:IntKind.i64.wrap ((es.length:Int)+1)=(es.length:Int)+1:=bI _ ai;have g0:¬((i:Int)=(es.length:Int)):=ai;have g1:¬((cap:Int)<(es.length:Int)+1):=ai;go_enter Tryz.func121,Tryz.ntmps121;go_upto_region 14 with (fail);have e7:(i+1)*7=i*7+7:=ai;have CT:(C.drop (i*7)).length=(es.length-i)*7:=(by rw [qG,zK];omega);have hcC:∀(W:World),W.heap[g]?=w.heap[g]?->∀j u,(C.drop (i*7))[j]?=some u->W.cell? (Addr.add (g,i*7) j)=some u:=fun W hW j u hu=>by
     have ha:Addr.add (g,i*7) j=(g,i*7+j):=(by first|(simp [Addr.add];done)|(simp [Addr.add];omega));rw [List.getElem?_drop]at hu;have hj:=(dW.1 hu).1;rw [<-h4,rF,aw hj]at hu;rw [ha];simp only [World.cell?,hW,hg];simpa using hu
    have RX:∀ty dc sc,(Builtin.copy_ #[35,35] ty #[ah (some (g,(i+1)*7)) (es-i) dc,ah (some (g,i*7)) (es+1-i) sc]).run Tryz.prog w.drew = .ok (goInt (es.length-i:Nat)) (w.drew.setRow g fF.toArray):=fun ty dc sc=>by
     have:=gN (P:=Tryz.prog) w.drew 35 35 ty 107 7 g ((i+1)*7) (es-i) dc (g,i*7) (es+1-i) sc (es-i) cur 107 (C.drop (i*7)) Tryz.underlying35 hsz hg (by simp only [Nat.min_def];split <;> omega) CT (hcC _ rfl) (by rw [CT,h3];omega) (fun u hu=>hC1 u (uP hu))
     rw [this,e7,<-qm]
    obtain⟨W1,hW1⟩:=cd (w.drew.setRow g fF.toArray);have hg1:W1.heap[g]?=some (.cells fF.toArray 107 (0,0)):=(by rw [hW1];exact setRow_heap w.drew g cur _ _ _ hg);have tW:∀b,b≠g->W1.heap[b]?=w.heap[b]?:=fun b hb=>(by rw [hW1];exact setRow_other w.drew g b _ hb);have YG:∀ty dc,(Builtin.copy_ #[35,35] ty #[ah (some (g,i*7)) (es+1-i) dc,ah vb 1 1]).run Tryz.prog W1 = .ok (goInt (1:Nat)) (W1.setRow g oU.toArray):=fun ty dc=>by
     have:=gN (P:=Tryz.prog) W1 35 35 ty 107 7 g (i*7) (es+1-i) dc (vb,0) 1 1 1 fF.toArray 107 (bu x) Tryz.underlying35 hsz hg1 (by simp only [Nat.min_def];split <;> omega) rfl (fun j u hu=>by
      have ha:Addr.add (vb,0) j=(vb,j):=(by simp [Addr.add];omega);rw [<-hx j u hu,ha];exact oH (tW vb hvg)) (by simp [r1,bu];omega) (fun u hu=>iW [x] u (by simpa using hu))
     rw [this];simp only [];rw [<-ql]
    rw [<-hW1]at RX;have b1:(0:Int)<=(i:Int)+1:=ai;have b2:¬(cap=i+1):=ai;have b3:(i:Int)<=(es.length:Int)+1:=ai;have b4:¬(cap=i):=ai;have b5:((i:Int)+1).toNat=i+1:=ai;have b6:i<=es:=ai;have b7:(i:Int)+1<=(es.length:Int)+1:=ai;have b8:es+1-(i+1)=es-i:=ai;have pL:=ag r3;have N3:=ag zK;have PV:=ag hW1;clear e7 CT qm ql r3 zK hW1;go_wp2_with (simp only [hov]);refine Dq 8 cV cV ?_
    (simp only [List.take_succ_cons,List.take_zero,List.drop_succ_cons,List.drop_zero];(repeat ((with_reducible refine qx (fun K hK=>?_));go_simp;(with_reducible refine hK _ ?_);clear hK K));(with_reducible refine qw ?_))
    change wpList _ _ _ _ _ w.drew;go_wp2_with (first
     |(at_builtin;refine fu _ rfl (.tmp 73) (.tmp 76) 35 35 rfl _ _ rfl rfl (RX _ _ _) ?_)
     |(at_builtin;refine fu _ rfl (.tmp 80) (.tmp 81) 35 35 rfl _ _ rfl rfl (YG _ _) ?_))
    go_ret;refine⟨_,rfl,⟨?_⟩,?_, .inl rfl⟩
    ·rw [Gz,HLEN];have zK:=N3.out;refine⟨by simp [zK,bu];omega, .inr ⟨g,cap,oU.toArray,rfl,hBg,setRow_heap W1 g _ _ _ _ hg1,hroom,by unfold maxLen;omega,by simp [r2,h3],?_⟩⟩;simp only [];rw [show (es.length+1)*7=C+7 from by omega];exact pL
    ·have hW1:=PV.out;refine⟨by rw [hW1];rfl,by rw [hW1];rfl,by rw [hW1];rfl,by rw [hW1];simp [World.setRow],fun k _ hk=>?_⟩;have hkg:k≠g:=fun h=>hk (by rw [h];rfl);exact(setRow_other W1 g k _ hkg).trans (tW k hkg)
   ·-- a new row
    have hcap:cap<es+1:=ai;obtain⟨i0,z,hi0,hz,hz1,hz2,hz3⟩:=cG Tryz.IU;have hold:(Builtin.firstCells i0.size i (ah g i cap)).run Tryz.prog w.drew = .ok (C.take (i*7)).toArray w.drew:=by
     rw [hz1];refine run_firstCells_some w.drew 7 i (g,0) i cap (C.take (i*7)) (by rw [gh,zK];omega) fun j u hu=>?_;have ha:Addr.add (g,0) j=(g,j):=(by simp [Addr.add];omega);rw [rF]at hu
     split at hu
     ·have hj:=(dW.1 hu).1;rw [<-h4,rF,aw hj]at hu;rw [ha];show w.cell? (g,j)=_;simp only [World.cell?,hg];simpa using hu
     ·cases hu
    obtain⟨G,hG⟩:=cd (grownCap w (es+1) cap 107);have hGn:es+1<=G:=(by rw [hG];exact grownCap_ge w _ _ _);have ahx:G<=9223372036854775807:=by
     have:=grownCap_le_maxLen w (es+1) cap 107 iI;rw [<-hG]at this;unfold maxLen at this;exact this
    obtain⟨Z,hZ⟩:=cd ((Builtin.zeroCells z.cells (es+1-i)++Builtin.zeroCells z.cells (G-(es.length+1))).toList);have WR:Z=(G-i)*7:=(by rw [hZ];simp [Builtin.zeroCells,hz3];omega);obtain⟨row,hrow⟩:=cd (C.take (i*7)++Z);have hrl:row=G*7:=(by rw [hrow,dF,WR,gh,zK];omega);obtain⟨W1,hW1⟩:=cd (w.drew.alloc (.cells row.toArray 107));have hkk:(es.length:Int)+1-(i:Int)=((es.length+1-i:Nat):Int):=ai;have hik:i+(es.length+1-i)=es+1:=ai;have Vb:∀ty,(Builtin.append_ #[35,3] ty #[ah g i cap,af ((es.length:Int)+1-(i:Int))]).run Tryz.prog w = .ok (ah w (es+1) G) W1:=fun ty=>by
     have h:=Lib.run_append_grow_zeros w 35 3 ty 107 i0 z .i64 .i64 Tryz.underlying35 Tryz.underlying3 hi0 hz (some (g,0)) i cap (C.take (i*7)) hold (es+1-i) ai ai ai ai (by rw [hz2];omega) (by rw [hz2,hik];exact growslice_fits_wide hcap ai);rw [hik,<-hG]at h;have e:∀(L:List Value) (A D:Array Value),L.toArray++A++D=(L++(A++D).toList).toArray:=fun L A D=>(by apply Array.ext';simp);rw [hkk,h,hW1,hrow,hZ,e]
    obtain⟨fF,qm⟩:=cd (row.take (i*7)++bu x++row.drop (i*7+(bu x).length));obtain⟨oU,ql⟩:=cd (fF.take (i*7+7)++C.drop (i*7)++fF.drop (i*7+7+(C.drop (i*7)).length));obtain⟨r1,r2,r3⟩:=Si (C:=C) (X:=bu x) (a:=i*7) hrow ai rfl ai qm ql;have e7:(i+1)*7=i*7+7:=ai;have CT:(C.drop (i*7)).length=(es.length-i)*7:=(by rw [qG,zK];omega);obtain⟨N,hN⟩:=cd (w.heap.size);rw [<-hN]at Vb;have hg1:W1.heap[N]?=some (.cells row.toArray 107 (0,0)):=(by rw [hW1,hN];exact au w.drew _ rfl);have tW:∀b,b<w.heap.size->W1.heap[b]?=w.heap[b]?:=fun b hb=>(by rw [hW1];exact gy w.drew _ b hb);have hgN:g≠N:=ai;have hvN:vb≠N:=ai;have RV:∀ty dc,(Builtin.copy_ #[35,35] ty #[ah (some (N,i*7)) (es+1-i) dc,ah vb 1 1]).run Tryz.prog W1 = .ok (goInt (1:Nat)) (W1.setRow N fF.toArray):=fun ty dc=>by
     have:=gN (P:=Tryz.prog) W1 35 35 ty 107 7 N (i*7) (es+1-i) dc (vb,0) 1 1 1 row.toArray 107 (bu x) Tryz.underlying35 hsz hg1 (by simp only [Nat.min_def];split <;> omega) rfl (fun j u hu=>by
      have ha:Addr.add (vb,0) j=(vb,j):=(by simp [Addr.add];omega);rw [<-hx j u hu,ha];exact oH (tW vb hvz)) (by simp [hrl,bu];omega) (fun u hu=>iW [x] u (by simpa using hu))
     rw [this];simp only [];rw [<-qm]
    obtain⟨W2,hW2⟩:=cd (W1.setRow N fF.toArray);have hg2:W2.heap[N]?=some (.cells fF.toArray 107 (0,0)):=(by rw [hW2];exact setRow_heap W1 N _ _ _ _ hg1);have I4:∀b,b<w.heap.size->W2.heap[b]?=w.heap[b]?:=fun b hb=>(by rw [hW2];exact(setRow_other W1 N b _ ai).trans (tW b hb));rw [<-hW2]at RV;have YF:∀ty dc sc,(Builtin.copy_ #[35,35] ty #[ah (some (N,(i+1)*7)) (es-i) dc,ah (some (g,i*7)) (es-i) sc]).run Tryz.prog W2.drew = .ok (goInt (es.length-i:Nat)) (W2.drew.setRow N oU.toArray):=fun ty dc sc=>by
     have:=gN (P:=Tryz.prog) W2.drew 35 35 ty 107 7 N ((i+1)*7) (es-i) dc (g,i*7) (es-i) sc (es-i) fF.toArray 107 (C.drop (i*7)) Tryz.underlying35 hsz hg2 (by simp only [Nat.min_def];split <;> omega) CT (fun j u hu=>by
      have ha:Addr.add (g,i*7) j=(g,i*7+j):=(by first|(simp [Addr.add];done)|(simp [Addr.add];omega));rw [List.getElem?_drop]at hu;have hj:=(dW.1 hu).1;rw [<-h4,rF,aw hj]at hu;rw [ha];show W2.cell? (g,i*7+j)=_;rw [oH (I4 g hgz)];simp only [World.cell?,hg];simpa using hu) (by simp [r1,hrl,CT];omega) (fun u hu=>hC1 u (uP hu))
     rw [this,e7];simp only [];rw [<-ql]
    have hw1:IntKind.i64.wrap ((i:Int)+1)=(i:Int)+1:=bI _ ai;have hw2:IntKind.i64.wrap ((es.length:Int)+1)=(es.length:Int)+1:=bI _ ai;have hw3:IntKind.i64.wrap ((es.length:Int)+1-(i:Int))=(es.length:Int)+1-(i:Int):=bI _ ai;have g0:¬((i:Int)=(es.length:Int)):=ai;have g1:(cap:Int)<(es.length:Int)+1:=ai;have b1:(0:Int)<=(i:Int)+1:=ai;have b2:¬(G=i+1):=ai;have b3:(i:Int)<=(es.length:Int)+1:=ai;have b4:¬(cap=i):=ai;have b4':¬(G=i):=ai;have b5:((i:Int)+1).toNat=i+1:=ai;have b6:i<=es:=ai;have b7:(i:Int)+1<=(es.length:Int)+1:=ai;have b8:es+1-(i+1)=es-i:=ai;have pL:=ag r3;have N3:=ag zK;have PV:=ag hW1;have VK:=ag hW2;have P4:=ag hN;have Tc:=ag (r2.trans (hrl));clear e7 CT qm ql r3 zK hW1 hW2 hN hG hkk hik hZ WR hrow hrl r1 r2;go_enter Tryz.func121,Tryz.ntmps121;go_wp2_with (first
     |(at_builtin;refine qM _ rfl (.tmp 34) (.tmp 39) 35 3 rfl _ _ rfl rfl (Vb _) ?_)
     |(at_builtin;refine fu _ rfl (.tmp 43) (.tmp 44) 35 35 rfl _ _ rfl rfl (RV _ _) ?_))
    refine Dq 8 cV cV ?_
    (simp only [List.take_succ_cons,List.take_zero,List.drop_succ_cons,List.drop_zero];(repeat ((with_reducible refine qx (fun K hK=>?_));go_simp;(with_reducible refine hK _ ?_);clear hK K));(with_reducible refine qw ?_))
    change wpList _ _ _ _ _ W2.drew;go_wp2_with ((at_builtin;refine fu _ rfl (.tmp 50) (.tmp 53) 35 35 rfl _ _ rfl rfl (YF _ _ _) ?_));go_ret;have zK:=N3.out;have hN:=P4.out;refine⟨_,rfl,⟨?_⟩,?_, .inr (by rw [hN];rfl)⟩
    ·rw [Gz,HLEN];refine⟨by simp [zK,bu];omega, .inr ⟨N,G,oU.toArray,rfl,ai,setRow_heap W2.drew N _ _ _ _ hg2,hGn,by unfold maxLen;omega,by simp [Tc.out],?_⟩⟩;simp only [];rw [show (es.length+1)*7=C+7 from by omega];exact pL
    ·refine⟨by rw [VK,PV];rfl,by rw [VK,PV];rfl,by rw [VK,PV];rfl,by rw [VK,PV];simp [World.setRow,World.alloc],fun k hk _=>?_⟩;exact(setRow_other W2.drew N k _ ai).trans (I4 k hk)
section
variable {es:List Int} {fF oU:List Value} {B C a:Nat} {w w':World}
structure bU (B:Nat) (w:World) (v:Value) (es:List Int):Prop where
 row:w.ownsRow B 3 1 v es (es.flatMap bP)
theorem bU.nil (B:Nat) (w:World):bU B w (az 0 0) []:=⟨oV _ _ _ _⟩
theorem bU.alloc {v:Value} (h:bU B w v es) (o:Obj):bU B (w.alloc o) v es:=⟨Dn h.row o⟩
theorem bU.block {v:Value} (h:bU B w v es) (hb:∀g,v.ownBlock=some g->w'.heap[g]?=w.heap[g]?):bU B w' v es:=by
 obtain⟨hl,⟨rfl,h0⟩|⟨g,cap,cur,rfl,hB,hg,h1,h2,h3,h4⟩⟩:=h.row
 ·exact⟨⟨hl, .inl ⟨rfl,h0⟩⟩⟩
 ·exact⟨⟨hl, .inr ⟨g,cap,cur,rfl,hB,(hb g rfl).trans hg,h1,h2,h3,h4⟩⟩⟩
theorem bU.drew {v:Value} (h:bU B w v es):bU B w.drew v es:=h.block fun _ _=>rfl
theorem bU.drewN {v:Value} (h:bU B w v es) (n:Nat):bU B (w.drewN n) v es:=h.block fun _ _=>rfl
theorem bU.lt {v:Value} (h:bU B w v es):∀g,v.ownBlock=some g->B<=g/\g<w.heap.size:=World.ownsRow.lt h.row
theorem bU.below {v:Value} (h:bU B w v es) (hb:Below C w w') (hC:w<=C):bU B w' v es:=h.block fun g hg=>hb.block g (by have:=(h.lt g hg).2;omega)
theorem bU.mono {v:Value} (h:bU B w v es) (hC:C<=B):bU C w v es:=by
 obtain⟨hl,⟨rfl,h0⟩|⟨g,cap,cur,rfl,hB,hg,h1,h2,h3,h4⟩⟩:=h.row
 ·exact⟨⟨hl, .inl ⟨rfl,h0⟩⟩⟩
 ·exact⟨⟨hl, .inr ⟨g,cap,cur,rfl,ai,hg,h1,h2,h3,h4⟩⟩⟩
theorem bU.at {v:Value} (h:bU B w v es) (hs:es.length<=1000000):gM w v es:=ct.owned fS h.row rfl ai
theorem bU.isSlice {v:Value} (h:bU B w v es):∃ao cap,v=ah ao es cap:=by
 obtain⟨hl,⟨rfl,h0⟩|⟨g,cap,cur,rfl,_⟩⟩:=h.row
 ·exact⟨none,0,by rw [h0]⟩
 ·exact⟨_,_,rfl⟩
theorem KM {cur C X:List Value} (hC:cur.take C=C) (ha:a<=C) (hX:X.length=1) (hfit:C+1<=cur.length)
  (h1:fF=cur.take (a+1)++C.drop a++cur.drop (a+1+(C.drop a).length)) (h2:oU=fF.take a++X++fF.drop (a+X)) :
  fF=cur.length/\oU=cur.length/\oU.take (C+1)=C.take a++X++C.drop a:=by
 have l1:fF=cur.length:=by rw [h1];simp;omega
 have e1:fF.take a=C.take a:=by
  rw [h1,iT,Dv fk,List.take_take,<-hC,List.take_take]
  congr 1;omega
 have e2:fF.drop (a+X)=C.drop a++cur.drop (a+1+(C.drop a).length):=by
  rw [h1,hX,iT,List.drop_append_of_le_length fk,zX fk,List.nil_append]
 refine⟨l1,by rw [h2];simp;omega,?_⟩;rw [h2,e1,e2,<-iT,Dv fk,iM fk]
theorem Ps {row C X Z:List Value} (hr:row=C.take a++Z) (ha:a<=C) (hX:X.length=1) (hfit:C+1<=row.length)
  (h1:fF=row.take a++X++row.drop (a+X)) (h2:oU=fF.take (a+1)++C.drop a++fF.drop (a+1+(C.drop a).length)) :
  fF=row.length/\oU=row.length/\oU.take (C+1)=C.take a++X++C.drop a:=by
 have l1:fF=row.length:=by rw [h1];simp;omega
 have e0:row.take a=C.take a:=by rw [hr,Dv fk,iM fk]
 have e1:fF.take (a+1)=C.take a++X:=by
  rw [h1,e0,Dv fk,iM fk]
 refine⟨l1,by rw [h2];simp;omega,?_⟩;rw [h2,e1,Dv fk,iM fk]
theorem NG (es:List Int):es.flatMap bP=es.map (Value.int .i64):=by
 induction es with
 |nil=>rfl
 |cons e es ih=>rw [fO,ih];rfl
theorem Mc (i:Nat):(es.take i).flatMap bP=(es.flatMap bP).take i:=by rw [NG,NG,List.map_take]
theorem Md (i:Nat):(es.drop i).flatMap bP=(es.flatMap bP).drop i:=by rw [NG,NG,List.map_drop]
theorem IL {v:Value} {i vb:Nat} {x:Int} (hown:bU B w v es) (hi:i<=es) (hB:B<=w) (hlen:es.length<=100000)
  (hvb:w.heap[vb]?=some (.cells #[af x] 3)) (hne:v.ownBlock≠some vb) :
  Calls Tryz.prog 127 #[v,af i,ah vb 1 1] w fun e w'=>∃v',e = .returned v'/\bU B w' v' (es.take i++x::es.drop i)/\w.grownBy w' v.ownBlock/\(v'.ownBlock=v.ownBlock\/v'.ownBlock=some w.heap.size):=by
 have hx:∀j u,(bP x)[j]?=some u->w.cell? (Addr.add (vb,0) j)=some u:=fun j u h=>by
  have ha:Addr.add (vb,0) j=(vb,j):=by simp [Addr.add];omega
  rw [ha];simp only [World.cell?,hvb];simpa [bP] using h
 by_cases hin:i=es
 ·subst hin;obtain⟨so,sc,rfl⟩:=hown.isSlice;have hE:=ag (show es.take es++x::es.drop es=es++[x] by simp);obtain⟨i0,z,hi0,hz,hz1,hz2,hz3⟩:=cG Tryz.FU;go_enter Tryz.func127,Tryz.ntmps127;go_wp2_with (at_builtin;refine wpList_append_own_at w rfl (.tmp 23) (.tmp 24) 52 rfl B 3 i0 z 1 8 Tryz.underlying52 hi0 hz hz1 hz2 hz3 bY _ es _ rfl hown.row (vb,0) 1 1 (bP x) rfl rfl hx (fun u hu=>nM [x] u (by simpa using hu)) iI ai hB ?_;intro v' w' hown' hg _ hloc)
  all_goals
   go_ret
   (try rw [hE])
   refine⟨v',rfl,⟨?_⟩,(by first|exact hg|(cases so <;> exact hg)),(by first|exact hloc|(cases so <;> exact hloc))⟩
   have e:(es++[x]).flatMap bP=es.flatMap bP++bP x:=bh;rw [e,dF];exact hown'
 ·have hil:i<es:=ai;obtain⟨hl,⟨rfl,h0⟩|⟨g,cap,cur,rfl,hBg,hg,h1,h2,h3,h4⟩⟩:=hown.row
  ·omega
  ·unfold maxLen at h2;have hgv:g≠vb:=fun h=>hne (by rw [h];rfl);have hvg:vb≠g:=Ne.symm hgv;have hsz:(Tryz.prog.info? 3).map (·.size)=some 1:=by
    obtain⟨i0,z,hi0,hz,hz1,hz2,hz3⟩:=cG Tryz.FU;rw [hi0];simp [hz1]
   have hgz:g<w:=(eJ.1 hg).1;have hvz:vb<w:=(eJ.1 hvb).1;obtain⟨C,hC⟩:=bG (es.flatMap bP);have zK:C=es.length:=by rw [<-hC,hl,Nat.mul_one]
   rw [hC,<-zK,Nat.mul_one]at h4;have hC1:∀u∈C,u.oneCell'=true:=by rw [<-hC];exact nM es
   have Gz:=ag (show (es.take i++x::es.drop i).flatMap bP=C.take (i)++bP x++C.drop (i) by
    rw [pK,fO,Mc,Md,hC,iT])
   have HLEN:=ag (show (es.take i++x::es.drop i).length=es.length+1 by simp;omega);have hov:∀off lb cb,(callFunc 132 #[ah vb 1 1,ah (some ⟨g,off,none⟩) lb cb]).run Tryz.prog w = .ok (.value (.bool false)) w:=fun off lb cb=>by
    rw [run_callFunc_extern Tryz.func132 cV cV cV (e:=Extern.SlicesOverlaps.overlaps #[52,52] #[4]) cV,
     Lib.run_overlaps_apart w 52 4 3 Tryz.underlying52 1 (fun w=>cV) ⟨vb,0,none⟩ ⟨g,off,none⟩ 1 1 lb cb hvg 3 3 1 cur.size (by simp [World.shape?,hvb]) (by simp [World.shape?,hg]) ai (by simp [World.frozen?,hvb]) (by simp [World.frozen?,hvb])]
    rfl
   by_cases hroom:es+1<=cap
   ·-- in place
    obtain⟨fF,qm⟩:=cd (cur.toList.take (i+1)++C.drop (i)++cur.toList.drop (i+1+(C.drop (i)).length));obtain⟨oU,ql⟩:=cd (fF.take (i)++bP x++fF.drop (i+(bP x).length));obtain⟨r1,r2,r3⟩:=KM (cur:=cur.toList) (C:=C) (X:=bP x) (a:=i) h4 ai rfl fk qm ql;have hw1:IntKind.i64.wrap ((i:Int)+1)=(i:Int)+1:=bI _ ai;have hw2:IntKind.i64.wrap ((es.length:Int)+1)=(es.length:Int)+1:=bI _ ai;have g0:¬((i:Int)=(es.length:Int)):=ai;have g1:¬((cap:Int)<(es.length:Int)+1):=ai;go_enter Tryz.func127,Tryz.ntmps127;go_upto_region 14 with (fail);have e7:(i+1)=i+1:=ai;have CT:(C.drop (i)).length=(es.length-i):=(by rw [qG,zK]);have hcC:∀(W:World),W.heap[g]?=w.heap[g]?->∀j u,(C.drop (i))[j]?=some u->W.cell? (Addr.add (g,i) j)=some u:=fun W hW j u hu=>by
     have ha:Addr.add (g,i) j=(g,i+j):=(by first|(simp [Addr.add];done)|(simp [Addr.add];omega));rw [List.getElem?_drop]at hu;have hj:=(dW.1 hu).1;rw [<-h4,rF,aw hj]at hu;rw [ha];simp only [World.cell?,hW,hg];simpa using hu
    have RX:∀ty dc sc,(Builtin.copy_ #[52,52] ty #[ah (some (g,(i+1))) (es-i) dc,ah (some (g,i)) (es+1-i) sc]).run Tryz.prog w.drew = .ok (goInt (es.length-i:Nat)) (w.drew.setRow g fF.toArray):=fun ty dc sc=>by
     have:=gN (P:=Tryz.prog) w.drew 52 52 ty 3 1 g ((i+1)) (es-i) dc (g,i) (es+1-i) sc (es-i) cur 3 (C.drop (i)) Tryz.underlying52 hsz hg (by simp only [Nat.min_def];split <;> omega) (by rw [CT,Nat.mul_one]) (hcC _ rfl) (by rw [CT,h3];omega) (fun u hu=>hC1 u (uP hu))
     rw [this,e7,<-qm]
    obtain⟨W1,hW1⟩:=cd (w.drew.setRow g fF.toArray);have hg1:W1.heap[g]?=some (.cells fF.toArray 3 (0,0)):=(by rw [hW1];exact setRow_heap w.drew g cur _ _ _ hg);have tW:∀b,b≠g->W1.heap[b]?=w.heap[b]?:=fun b hb=>(by rw [hW1];exact setRow_other w.drew g b _ hb);have YG:∀ty dc,(Builtin.copy_ #[52,52] ty #[ah (some (g,i)) (es+1-i) dc,ah vb 1 1]).run Tryz.prog W1 = .ok (goInt (1:Nat)) (W1.setRow g oU.toArray):=fun ty dc=>by
     have:=gN (P:=Tryz.prog) W1 52 52 ty 3 1 g (i) (es+1-i) dc (vb,0) 1 1 1 fF.toArray 3 (bP x) Tryz.underlying52 hsz hg1 (by simp only [Nat.min_def];split <;> omega) rfl (fun j u hu=>by
      have ha:Addr.add (vb,0) j=(vb,j):=(by simp [Addr.add];omega);rw [<-hx j u hu,ha];exact oH (tW vb hvg)) (by simp [r1,bP];omega) (fun u hu=>nM [x] u (by simpa using hu))
     rw [this];simp only [];rw [<-ql]
    rw [<-hW1]at RX;have b1:(0:Int)<=(i:Int)+1:=ai;have b2:¬(cap=i+1):=ai;have b3:(i:Int)<=(es.length:Int)+1:=ai;have b4:¬(cap=i):=ai;have b5:((i:Int)+1).toNat=i+1:=ai;have b6:i<=es:=ai;have b7:(i:Int)+1<=(es.length:Int)+1:=ai;have b8:es+1-(i+1)=es-i:=ai;have pL:=ag r3;have N3:=ag zK;have PV:=ag hW1;clear e7 CT qm ql r3 zK hW1;go_wp2_with (simp only [hov]);refine Dq 8 cV cV ?_
    (simp only [List.take_succ_cons,List.take_zero,List.drop_succ_cons,List.drop_zero];(repeat ((with_reducible refine qx (fun K hK=>?_));go_simp;(with_reducible refine hK _ ?_);clear hK K));(with_reducible refine qw ?_))
    change wpList _ _ _ _ _ w.drew;go_wp2_with (first
     |(at_builtin;refine fu _ rfl (.tmp 73) (.tmp 76) 52 52 rfl _ _ rfl rfl (RX _ _ _) ?_)
     |(at_builtin;refine fu _ rfl (.tmp 80) (.tmp 81) 52 52 rfl _ _ rfl rfl (YG _ _) ?_))
    go_ret;refine⟨_,rfl,⟨?_⟩,?_, .inl rfl⟩
    ·rw [Gz,HLEN];have zK:=N3.out;refine⟨by simp [zK,bP];omega, .inr ⟨g,cap,oU.toArray,rfl,hBg,setRow_heap W1 g _ _ _ _ hg1,hroom,by unfold maxLen;omega,by simp [r2,h3],?_⟩⟩;simp only [];rw [show (es.length+1)*1=C+1 from by omega];exact pL
    ·have hW1:=PV.out;refine⟨by rw [hW1];rfl,by rw [hW1];rfl,by rw [hW1];rfl,by rw [hW1];simp [World.setRow],fun k _ hk=>?_⟩;have hkg:k≠g:=fun h=>hk (by rw [h];rfl);exact(setRow_other W1 g k _ hkg).trans (tW k hkg)
   ·-- a new row
    have hcap:cap<es+1:=ai;obtain⟨i0,z,hi0,hz,hz1,hz2,hz3⟩:=cG Tryz.FU;have hold:(Builtin.firstCells i0.size i (ah g i cap)).run Tryz.prog w.drew = .ok (C.take (i)).toArray w.drew:=by
     rw [hz1];refine run_firstCells_some w.drew 1 i (g,0) i cap (C.take (i)) (by rw [gh,zK];omega) fun j u hu=>?_;have ha:Addr.add (g,0) j=(g,j):=(by simp [Addr.add];omega);rw [rF]at hu
     split at hu
     ·have hj:=(dW.1 hu).1;rw [<-h4,rF,aw hj]at hu;rw [ha];show w.cell? (g,j)=_;simp only [World.cell?,hg];simpa using hu
     ·cases hu
    obtain⟨G,hG⟩:=cd (grownCap w (es+1) cap 3);have hGn:es+1<=G:=(by rw [hG];exact grownCap_ge w _ _ _);have ahx:G<=9223372036854775807:=by
     have:=grownCap_le_maxLen w (es+1) cap 3 iI;rw [<-hG]at this;unfold maxLen at this;exact this
    obtain⟨Z,hZ⟩:=cd ((Builtin.zeroCells z.cells (es+1-i)++Builtin.zeroCells z.cells (G-(es.length+1))).toList);have WR:Z=(G-i):=(by rw [hZ];simp [Builtin.zeroCells,hz3];omega);obtain⟨row,hrow⟩:=cd (C.take (i)++Z);have hrl:row=G:=(by rw [hrow,dF,WR,gh,zK];omega);obtain⟨W1,hW1⟩:=cd (w.drew.alloc (.cells row.toArray 3));have hkk:(es.length:Int)+1-(i:Int)=((es.length+1-i:Nat):Int):=ai;have hik:i+(es.length+1-i)=es+1:=ai;have Vb:∀ty,(Builtin.append_ #[52,3] ty #[ah g i cap,af ((es.length:Int)+1-(i:Int))]).run Tryz.prog w = .ok (ah w (es+1) G) W1:=fun ty=>by
     have h:=Lib.run_append_grow_zeros w 52 3 ty 3 i0 z .i64 .i64 Tryz.underlying52 Tryz.underlying3 hi0 hz (some (g,0)) i cap (C.take (i)) hold (es+1-i) ai ai ai ai (by rw [hz2];omega) (by rw [hz2,hik];exact growslice_fits_wide hcap ai);rw [hik,<-hG]at h;have e:∀(L:List Value) (A D:Array Value),L.toArray++A++D=(L++(A++D).toList).toArray:=fun L A D=>(by apply Array.ext';simp);rw [hkk,h,hW1,hrow,hZ,e]
    obtain⟨fF,qm⟩:=cd (row.take (i)++bP x++row.drop (i+(bP x).length));obtain⟨oU,ql⟩:=cd (fF.take (i+1)++C.drop (i)++fF.drop (i+1+(C.drop (i)).length));obtain⟨r1,r2,r3⟩:=Ps (C:=C) (X:=bP x) (a:=i) hrow ai rfl ai qm ql;have e7:(i+1)=i+1:=ai;have CT:(C.drop (i)).length=(es.length-i):=(by rw [qG,zK]);obtain⟨N,hN⟩:=cd (w.heap.size);rw [<-hN]at Vb;have hg1:W1.heap[N]?=some (.cells row.toArray 3 (0,0)):=(by rw [hW1,hN];exact au w.drew _ rfl);have tW:∀b,b<w.heap.size->W1.heap[b]?=w.heap[b]?:=fun b hb=>(by rw [hW1];exact gy w.drew _ b hb);have hgN:g≠N:=ai;have hvN:vb≠N:=ai;have RV:∀ty dc,(Builtin.copy_ #[52,52] ty #[ah (some (N,i)) (es+1-i) dc,ah vb 1 1]).run Tryz.prog W1 = .ok (goInt (1:Nat)) (W1.setRow N fF.toArray):=fun ty dc=>by
     have:=gN (P:=Tryz.prog) W1 52 52 ty 3 1 N (i) (es+1-i) dc (vb,0) 1 1 1 row.toArray 3 (bP x) Tryz.underlying52 hsz hg1 (by simp only [Nat.min_def];split <;> omega) rfl (fun j u hu=>by
      have ha:Addr.add (vb,0) j=(vb,j):=(by simp [Addr.add];omega);rw [<-hx j u hu,ha];exact oH (tW vb hvz)) (by simp [hrl,bP];omega) (fun u hu=>nM [x] u (by simpa using hu))
     rw [this];simp only [];rw [<-qm]
    obtain⟨W2,hW2⟩:=cd (W1.setRow N fF.toArray);have hg2:W2.heap[N]?=some (.cells fF.toArray 3 (0,0)):=(by rw [hW2];exact setRow_heap W1 N _ _ _ _ hg1);have I4:∀b,b<w.heap.size->W2.heap[b]?=w.heap[b]?:=fun b hb=>(by rw [hW2];exact(setRow_other W1 N b _ ai).trans (tW b hb));rw [<-hW2]at RV;have YF:∀ty dc sc,(Builtin.copy_ #[52,52] ty #[ah (some (N,(i+1))) (es-i) dc,ah (some (g,i)) (es-i) sc]).run Tryz.prog W2.drew = .ok (goInt (es.length-i:Nat)) (W2.drew.setRow N oU.toArray):=fun ty dc sc=>by
     have:=gN (P:=Tryz.prog) W2.drew 52 52 ty 3 1 N ((i+1)) (es-i) dc (g,i) (es-i) sc (es-i) fF.toArray 3 (C.drop (i)) Tryz.underlying52 hsz hg2 (by simp only [Nat.min_def];split <;> omega) (by rw [CT,Nat.mul_one]) (fun j u hu=>by
      have ha:Addr.add (g,i) j=(g,i+j):=(by first|(simp [Addr.add];done)|(simp [Addr.add];omega));rw [List.getElem?_drop]at hu;have hj:=(dW.1 hu).1;rw [<-h4,rF,aw hj]at hu;rw [ha];show W2.cell? (g,i+j)=_;rw [oH (I4 g hgz)];simp only [World.cell?,hg];simpa using hu) (by simp [r1,hrl,CT];omega) (fun u hu=>hC1 u (uP hu))
     rw [this,e7];simp only [];rw [<-ql]
    have hw1:IntKind.i64.wrap ((i:Int)+1)=(i:Int)+1:=bI _ ai;have hw2:IntKind.i64.wrap ((es.length:Int)+1)=(es.length:Int)+1:=bI _ ai;have hw3:IntKind.i64.wrap ((es.length:Int)+1-(i:Int))=(es.length:Int)+1-(i:Int):=bI _ ai;have g0:¬((i:Int)=(es.length:Int)):=ai;have g1:(cap:Int)<(es.length:Int)+1:=ai;have b1:(0:Int)<=(i:Int)+1:=ai;have b2:¬(G=i+1):=ai;have b3:(i:Int)<=(es.length:Int)+1:=ai;have b4:¬(cap=i):=ai;have b4':¬(G=i):=ai;have b5:((i:Int)+1).toNat=i+1:=ai;have b6:i<=es:=ai;have b7:(i:Int)+1<=(es.length:Int)+1:=ai;have b8:es+1-(i+1)=es-i:=ai;have pL:=ag r3;have N3:=ag zK;have PV:=ag hW1;have VK:=ag hW2;have P4:=ag hN;have Tc:=ag (r2.trans (hrl));clear e7 CT qm ql r3 zK hW1 hW2 hN hG hkk hik hZ WR hrow hrl r1 r2;go_enter Tryz.func127,Tryz.ntmps127;go_wp2_with (first
     |(at_builtin;refine qM _ rfl (.tmp 34) (.tmp 39) 52 3 rfl _ _ rfl rfl (Vb _) ?_)
     |(at_builtin;refine fu _ rfl (.tmp 43) (.tmp 44) 52 52 rfl _ _ rfl rfl (RV _ _) ?_))
    refine Dq 8 cV cV ?_
    (simp only [List.take_succ_cons,List.take_zero,List.drop_succ_cons,List.drop_zero];(repeat ((with_reducible refine qx (fun K hK=>?_));go_simp;(with_reducible refine hK _ ?_);clear hK K));(with_reducible refine qw ?_))
    change wpList _ _ _ _ _ W2.drew;go_wp2_with ((at_builtin;refine fu _ rfl (.tmp 50) (.tmp 53) 52 52 rfl _ _ rfl rfl (YF _ _ _) ?_));go_ret;have zK:=N3.out;have hN:=P4.out;refine⟨_,rfl,⟨?_⟩,?_, .inr (by rw [hN];rfl)⟩
    ·rw [Gz,HLEN];refine⟨by simp [zK,bP];omega, .inr ⟨N,G,oU.toArray,rfl,ai,setRow_heap W2.drew N _ _ _ _ hg2,hGn,by unfold maxLen;omega,by simp [Tc.out],?_⟩⟩;simp only [];rw [show (es.length+1)*1=C+1 from by omega];exact pL
    ·refine⟨by rw [VK,PV];rfl,by rw [VK,PV];rfl,by rw [VK,PV];rfl,by rw [VK,PV];simp [World.setRow,World.alloc],fun k hk _=>?_⟩;exact(setRow_other W2.drew N k _ ai).trans (I4 k hk)
end
theorem Nl {lo hi:Nat}:((lo:Int)+(hi:Int))/2=(((lo+hi)/2:Nat):Int):=ai
theorem KQ {v:Value} {zs:List Int} {x:Int} {w:World} (ha:gM w v zs) (hs:zs.Pairwise (·<·)) :
  Calls Tryz.prog 126 #[v,af x] w fun e w'=>e = .returned (.tuple #[af (QN zs x), .bool (decide (x∈zs))])/\aq w w':=by
 have hlen:=ha.len bY;obtain⟨ao,ca,rfl,-,-,-,-,a5⟩:=ha;have S:=ag fun a b (ha:a<zs.length) (hb:b<zs.length) (h:a<=b)=>(show zs[a]<=zs[b]from by
  by_cases hab:a=b
  ·subst hab;exact Int.le_refl _
  ·exact Int.le_of_lt (sI.1 hs a b ha hb ai))
 have HS:=ag hs;have HC:=ag fun w' (hb:aq w w') t (ht:t<zs.length)=>(by
  obtain⟨b,off,rfl,hbb,hc⟩:=a5 ai;exact⟨b,off,rfl,Rf hb hbb hc ht⟩:∃b off,ao=some ⟨b,off,none⟩/\w'.cell? (b,off+t)=some (af zs[t]))
 clear hs a5;go_enter Tryz.func126,Tryz.ntmps126;go_wp2_with fail
 go_loopg [7,8] zs (fun g s7 s8 wr=>∃lo hi:Nat,s7=af lo/\s8=af hi/\lo<=hi/\hi<=zs/\hi-lo<=g/\aq w wr/\Hid ((∀t (ht:t<zs.length),t<lo->zs[t]<x)/\(∀t (ht:t<zs.length),hi<=t->x<=zs[t])))
 case atStart=>exact⟨0,zs.length,rfl,rfl,eY _,nu _,ai,aW _ _,ag ⟨fun t _ ht=>absurd ht (Nat.not_lt_zero _),fun t h1 h2=>ai⟩⟩
 case round=>
  obtain⟨lo,hi,rfl,rfl,hlh,hin,hg,cT,I⟩:=hrel;by_cases hlt:lo<hi
  ·obtain⟨m,hm⟩:=cd ((lo+hi)/2);have hmi:((lo:Int)+(hi:Int))/2=((m:Nat):Int):=by rw [hm];exact Nl
   have zH:lo<=m/\m<hi:=ai;have WE:m<zs:=ai;obtain⟨b,off,rfl,cm⟩:=HC _ cT m WE;obtain⟨y,hy⟩:=bG (zs[m]);rw [hy]at cm;have Y:=ag hy;clear hy hm;by_cases hyx:y<x
   ·go_wp2;go_roundg (hi-(m+1))
    case measure=>omega
    case rel=>
     refine⟨m+1,hi,by go_num,rfl,ai,hin,nu _,cT,ag ⟨fun t ht htm=>?_,I.out.2⟩⟩;have:=S t m ht WE ai;rw [Y]at this;omega
   ·go_wp2;go_roundg (m-lo)
    case measure=>omega
    case rel=>
     refine⟨lo,m,rfl,rfl,ai,ai,nu _,cT,ag ⟨I.out.1,fun t ht htm=>?_⟩⟩;have:=S m t WE ht ai;rw [Y]at this;omega
  ·obtain rfl:hi=lo:=ai;have E1:=ag (UC hin I.out.1 I.out.2);have E2:=ag (Vp HS I.out.1 I.out.2);by_cases hn:hi<zs
   ·obtain⟨b,off,rfl,cm⟩:=HC _ cT hi hn;rw [dif_pos hn]at E2;obtain⟨y,hy⟩:=bG (zs[hi]);rw [hy]at cm E2;clear hy;by_cases hyx:y=x
    ·have hd:(y == x)=true:=(by simp [hyx]);rw [decide_eq_true hyx]at E2;go_wp2
     go_ret2
     rw [E1,E2];exact⟨rfl,cT⟩
    ·have hd:(y == x)=false:=(by simp [hyx]);rw [xA hyx]at E2;go_wp2
     go_ret2
     rw [E1,E2];exact⟨rfl,cT⟩
   ·rw [dif_neg hn]at E2;go_wp2
    go_ret2
    rw [E1,E2];exact⟨rfl,cT⟩
section
variable {x:Int} {es:List aH} {w:World}
theorem PQ {e:aH} (h1 : -9223372036854775808<=e.key-x) (h2:e.key-x<=9223372036854775807) :
  Calls Tryz.prog 125 #[.agg #[af e.key,af e.is.c,af e.is.s,af e.is.mi,af e.is.ma,af e.is.t,af e.is.l],af x] w fun r w'=>r = .returned (af (e.key-x))/\aq w w':=by
 have hw:IntKind.i64.wrap (e.key-x)=e.key-x:=bI _ ai;go_enter Tryz.func125,Tryz.ntmps125;go_wp2;go_ret;exact⟨rfl,aj⟩
theorem Hc {v:Value} (ha:cX w v es) (hs:aY es) (hb:∀e∈es,-9223372036854775808<=e.key-x/\e.key-x<=9223372036854775807) :
  Calls Tryz.prog 124 #[v,af x, .func (.func 125) #[] #[]] w fun r w'=>r = .returned (.tuple #[af (jr es x), .bool (uG es x)])/\aq w w':=by
 have hlen:=ha.len bY;obtain⟨ao,ca,rfl,-,-,-,-,a5⟩:=ha;have S:=ag fun a b (ha:a<es.length) (hb:b<es.length) (h:a<=b)=>(show es[a].key<=es[b].key from by
  by_cases hab:a=b
  ·subst hab;exact Int.le_refl _
  ·exact Int.le_of_lt (sI.1 hs a b ha hb ai))
 have HS:=ag hs;have HC:=ag fun w' (hb:aq w w') t (ht:t<es.length)=>(by
  obtain⟨b,off,rfl,hbb,hc⟩:=a5 ai;exact⟨b,off,rfl,hbb,br hb hbb hc ht⟩:∃b off,ao=some ⟨b,off,none⟩/\b<w.heap.size/\w'.cell? (b,off+t*7)=some (af es[t].key)/\w'.cell? (b,off+t*7+1)=some (af es[t].is.c)/\w'.cell? (b,off+t*7+2)=some (af es[t].is.s)/\w'.cell? (b,off+t*7+3)=some (af es[t].is.mi)/\w'.cell? (b,off+t*7+4)=some (af es[t].is.ma)/\w'.cell? (b,off+t*7+5)=some (af es[t].is.t)/\w'.cell? (b,off+t*7+6)=some (af es[t].is.l))
 have HK:=ag fun t (ht:t<es.length) w'=>PQ (e:=es[t]) (x:=x) (w:=w') (hb _ (eZ ht)).1 (hb _ (eZ ht)).2;clear hs a5 hb;go_enter Tryz.func124,Tryz.ntmps124;go_wp2_with fail
 go_loopg [9,10] es (fun g s7 s8 wr=>∃lo hi:Nat,s7=af lo/\s8=af hi/\lo<=hi/\hi<=es/\hi-lo<=g/\aq w wr/\Hid ((∀t (ht:t<es.length),t<lo->es[t].key<x)/\(∀t (ht:t<es.length),hi<=t->x<=es[t].key)))
 case atStart=>exact⟨0,es.length,rfl,rfl,eY _,nu _,ai,aW _ _,ag ⟨fun t _ ht=>absurd ht (Nat.not_lt_zero _),fun t h1 h2=>ai⟩⟩
 case round=>
  obtain⟨lo,hi,rfl,rfl,hlh,hin,hg,cT,I⟩:=hrel;have hbz:=cT.size;by_cases hlt:lo<hi
  ·obtain⟨m,hm⟩:=cd ((lo+hi)/2);have hmi:((lo:Int)+(hi:Int))/2=((m:Nat):Int):=by rw [hm];exact Nl
   have zH:lo<=m/\m<hi:=ai;have WE:m<es:=ai;obtain⟨b,off,rfl,hbb,c0,c1,c2,c3,c4,c5,c6⟩:=HC _ cT m WE;have HA:=ag fun w'=>HK m WE w';obtain⟨y,hy⟩:=bG (es[m]);rw [hy]at c0 c1 c2 c3 c4 c5 c6 HA;have Y:=ag hy;clear hy hm;by_cases hyx:y.key<x
   ·have hd:decide (y.key-x<0)=true:=(by simp;omega);go_wp2_with ((go_at_call 125;(with_reducible refine(HA.out _).mono ?_);rintro r w1 ⟨rfl,hb1⟩));go_roundg (hi-(m+1))
    case measure=>omega
    case rel=>
     refine⟨m+1,hi,by go_num,rfl,ai,hin,nu _,aF cT hb1 cT.size,ag ⟨fun t ht htm=>?_,I.out.2⟩⟩;have:=S t m ht WE ai;rw [Y]at this;omega
   ·have hd:decide (y.key-x<0)=false:=(by simp;omega);go_wp2_with ((go_at_call 125;(with_reducible refine(HA.out _).mono ?_);rintro r w1 ⟨rfl,hb1⟩));go_roundg (m-lo)
    case measure=>omega
    case rel=>
     refine⟨lo,m,rfl,rfl,ai,ai,nu _,aF cT hb1 cT.size,ag ⟨I.out.1,fun t ht htm=>?_⟩⟩;have:=S m t WE ht ai;rw [Y]at this;omega
  ·obtain rfl:hi=lo:=ai;have E1:=ag (Bp hin I.out.1 I.out.2);have E2:=ag (Vq HS I.out.1 I.out.2);by_cases hn:hi<es
   ·obtain⟨b,off,rfl,hbb,c0,c1,c2,c3,c4,c5,c6⟩:=HC _ cT hi hn;have HA:=ag fun w'=>HK hi hn w';rw [dif_pos hn]at E2;obtain⟨y,hy⟩:=bG (es[hi]);rw [hy]at c0 c1 c2 c3 c4 c5 c6 E2 HA;clear hy;by_cases hyx:y.key=x
    ·have hd:(y.key-x == 0)=true:=(by simp [hyx]);rw [decide_eq_true hyx]at E2;clear hyx;go_wp2_with ((go_at_call 125;(with_reducible refine(HA.out _).mono ?_);rintro r w1 ⟨rfl,hb1⟩))
     go_ret2
     rw [E1,E2];exact⟨rfl,aF cT hb1 cT.size⟩
    ·have hd:(y.key-x == 0)=false:=(by simp;omega);rw [xA hyx]at E2;go_wp2_with ((go_at_call 125;(with_reducible refine(HA.out _).mono ?_);rintro r w1 ⟨rfl,hb1⟩))
     go_ret2
     rw [E1,E2];exact⟨rfl,aF cT hb1 cT.size⟩
   ·rw [dif_neg hn]at E2;go_wp2
    go_ret2
    rw [E1,E2];exact⟨rfl,cT⟩
theorem Gn {v:Value} (ha:cX w v es) (hs:aY es) (hb:∀e∈es,-9223372036854775808<=e.key-x/\e.key-x<=9223372036854775807) :
  Calls Tryz.prog 117 #[v,af x] w fun r w'=>r = .returned (.tuple #[af (jr es x), .bool (uG es x)])/\aq w w':=by
 have HS:=ag (Hc ha hs hb);obtain⟨ao,ca,rfl⟩:=ha.isSlice;clear ha hs hb;go_enter Tryz.func117,Tryz.ntmps117;go_wp2_with ((go_at_call 124;(with_reducible refine HS.out.mono ?_);rintro r w1 ⟨rfl,hb1⟩))
 go_ret2
 exact⟨rfl,hb1⟩
theorem Bq {lf:Bool} {ev kv dv bv:Value} {keys:List Int} (ha:gM w kv keys) (hs:keys.Pairwise (·<·)) :
  Calls Tryz.prog 118 #[.agg #[.bool lf,ev,kv,dv,bv],af x] w fun r w'=>r = .returned (af (bL keys x))/\aq w w':=by
 have HS:=ag fun w' (hb:aq w w')=>KQ (x:=x) (ha.below hb aO) hs;have HI:=ag (OU (x:=x) hs);have hlen:=ha.len bY;have hpos:QN keys x<=keys:=(List.takeWhile_prefix _).length_le;obtain⟨ao,ca,rfl⟩:=ha.isSlice;clear ha hs;by_cases hm:x∈keys
 ·have HM:=ag (show decide (x∈keys)=true by simp [hm]);rw [aw hm]at HI;rw [HM]at HS;clear hm;go_enter Tryz.func118,Tryz.ntmps118;go_wp2_with ((go_at_call 126;(with_reducible refine(HS.out _ aj).mono ?_);rintro r w1 ⟨rfl,hb1⟩));go_ret;rw [HI];exact⟨rfl,aF aj hb1 dI⟩
 ·have HM:=ag (show decide (x∈keys)=false by simp [hm]);rw [ar hm]at HI;rw [HM]at HS;clear hm;go_enter Tryz.func118,Tryz.ntmps118;go_wp2_with ((go_at_call 126;(with_reducible refine(HS.out _ aj).mono ?_);rintro r w1 ⟨rfl,hb1⟩));go_ret;rw [HI];exact⟨rfl,aF aj hb1 dI⟩
end
end Go.Proofs.YtmljjfhgciaceaaGreatDoor
