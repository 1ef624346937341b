/- Texts of mine that come as one: Seen Rise. -/
import Derived.Test.YtnjfkcimboidnaaDoorSX
import Derived.Maps.OwnSet
import Derived.Maps.OwnOps
import Derived.Test.YtnjfkcimboidnaaDoorPA
import Derived.Test.YtnjfkcimboidnaaDoorKG
import Derived.StillTailTactics
import Derived.Deep.RegionHeld3
import Derived.Deep.RegionWith
/- The walker's map of the nodes that were seen. -/
namespace Go.Proofs.YtnjfkcimboidnaaDoor
open Go.RowKit Go.Maps
def setB:List Int→DataW Unit
 |[]=> .map []
 |n::S=>(setB S).put (.int .i64 n) (.lit (.bool true))
theorem isKey_int (n:Int):WideAt.IsKeyLit (.int .i64 n):=by first|trivial|simp [WideAt.IsKeyLit]|decide
theorem setB_isMap:∀S,IsMap (setB S)
 |[]=>isMap_empty
 |_::S=>(setB_isMap S).put _ _
theorem setB_tidy:∀S,Tidy (setB S)
 |[]=>tidy_empty
 |_::S=>(setB_tidy S).put (isKey_int _) _
theorem setB_at (n:Int):∀S,(setB S).atKey (.int .i64 n) (.lit (.bool false)) = .lit (.bool (decide (n∈S)))
 |[]=>by rw [setB,atKey_of_not_has (by rfl)];rfl
 |m::S=>by
  rw [setB]
  by_cases h:n=m
  ·subst h;rw [atKey_put_same (setB_isMap S) (isKey_int n)];simp
  ·rw [atKey_put_other (by simp [h]),setB_at n S];simp [h]
theorem setB_has (n:Int):∀S,has (setB S) (.int .i64 n)=decide (n∈S)
 |[]=>by rfl
 |m::S=>by
  rw [setB]
  by_cases h:n=m
  ·subst h;rw [has_put_same (setB_isMap S) (isKey_int n)];simp
  ·rw [has_put_other (by simp [h]),setB_has n S];simp [h]
theorem setB_size:∀{S:List Int},S.Nodup→size (setB S)=S.length
 |[],_=>rfl
 |n::S,h=>by
  have hn:=List.nodup_cons.1 h
  rw [setB,size_put (setB_tidy S),setB_has,if_neg (by simpa using hn.1),setB_size hn.2];rfl
theorem plainElem_bool_inv {P:Program} {e:TypeId} (he:P.underlying e=some .bool) {v:Value} {z:DataW Unit×List MemPlace} (h:plainElem P e v=some z):∃b,v = .bool b∧z=(.lit (.bool b),[]):=by
 unfold plainElem at h
 rw [he]at h
 cases v <;> simp at h
 exact⟨_,rfl,h.symm⟩
theorem Tryd.zeroBool (w:World):(zeroValue 4).run Tryd.prog w = .ok (.bool false) w:=by kernel_rfl
theorem Tryd.keyedInt:Keyed Tryd.prog 3:=int_keyed Tryd.underlying3
def SetAt (w:World) (mb:Nat) (S:List Int):Prop:=w.ownsMap (H:=Unit) Tryd.prog 3 (plainElem Tryd.prog 4) mb S.length (setB S)
theorem wf_i64 {n:Int} (h:i64 n):(Lit.int .i64 n).wf=true:=by
 unfold i64 at h;simp [Lit.wf,IntKind.min,IntKind.max,IntKind.signed,IntKind.bits];exact h
theorem SetAt.look {w:World} {mb:Nat} {S:List Int} (h:SetAt w mb S) {n:Int} (hn:i64 n):(Instr.lookup 154 (.map (some mb)) (.int .i64 n) false).run Tryd.prog w = .ok (.bool (decide (n∈S))) w:=by
 obtain⟨v,ps,hrun,hv⟩:=World.ownsMap.lookup h Tryd.keyedInt Tryd.underlying154 (Tryd.zeroBool w) (plainElem_bool Tryd.underlying4 false) (keyOf_int_mk Tryd.underlying3 (wf_i64 hn))
 rw [setB_at]at hv
 obtain⟨b,rfl,e⟩:=plainElem_bool_inv Tryd.underlying4 hv
 simp only [Prod.mk.injEq,DataW.lit.injEq,Lit.bool.injEq]at e
 rw [hrun,e.1]
theorem SetAt.len {w:World} {mb:Nat} {S:List Int} (h:SetAt w mb S) (hs:S.Nodup) (ty:TypeId):(Builtin.len_ #[154] ty #[.map (some mb)]).run Tryd.prog w = .ok (.int .i64 S.length) w:=by
 rw [World.ownsMap.len h Tryd.underlying154 ty,setB_size hs]
theorem SetAt.lt {w:World} {mb:Nat} {S:List Int} (h:SetAt w mb S):mb<w.heap.size:=World.ownsMap.lt h
theorem SetAt.block {w w':World} {mb:Nat} {S:List Int} (h:SetAt w mb S) (hb:w'.heap[mb]?=w.heap[mb]?):SetAt w' mb S:=by
 obtain⟨es,clock,h1,F,hs,hD⟩:=h
 exact⟨es,clock,hb.trans h1,F,hs,hD⟩
theorem SetAt.turn {w w':World} {mb:Nat} {S:List Int} (h:SetAt w mb S) {X:Nat→Prop} (ht:Turn X w w') (hx:¬X mb):SetAt w' mb S:=h.block (ht.block mb h.lt hx)
theorem Turn.grown {X:Nat→Prop} {a w w':World} {row:Option Nat} (h:Turn X a w) (hg:w.grownBy w' row) (hr:∀k,row=some k→X k∨a.heap.size≤k):Turn X a w':=
 ⟨hg.os.trans h.os,hg.tape.trans h.tape,hg.output.trans h.output,Nat.le_trans h.size hg.size,fun i hi hx=>(hg.block i (Nat.lt_of_lt_of_le hi h.size) (fun e=>by rcases hr i e.symm with h1|h1;exact hx h1;omega)).trans (h.block i hi hx)⟩
end Go.Proofs.YtnjfkcimboidnaaDoor

/- The walk of the program's look at entries: do they rise, within bounds, with something known of each? -/
namespace Go.Proofs.YtnjfkcimboidnaaDoor
open Go.RowKit
theorem idx_ent {ab aoff n cap j:Nat} {i:Int} (h:i=j) (hj:j<n) (w:World):(Instr.indexAt 94 (.slice (some ⟨ab,aoff,none⟩) n cap) (.int .i64 i)).run Tryd.prog w = .ok (.pointer (some ⟨ab,aoff+j*7,none⟩)) w:=by
 subst h
 go_simp
theorem check_below {r:Roll} {W w:World} (hb:Below W.heap.size W w):Calls Tryd.prog 38 #[.agg #[.int .i64 r.c, .int .i64 r.s, .int .i64 r.mi, .int .i64 r.ma, .int .i64 r.t, .int .i64 r.l]] w fun e w'=>e = .returned (.int .i64 (rollCheck r))∧Below W.heap.size W w':=
 (check_any r w).mono fun e w' ⟨h1,h2⟩=>⟨h1,by rw [←h2];exact hb.alloc hb.size _⟩
set_option maxRecDepth 100000 in
set_option maxHeartbeats 2000000 in
theorem rising_any {v:Value} {xs:List Ent} {lo hi:Int} {w:World} (ha:EntsAt w v xs) :
  Calls Tryd.prog 98 #[v, .int .i64 lo, .int .i64 hi] w fun e w'=>e = .returned (.bool (entsB xs lo hi))∧Below w.heap.size w w':=by
 obtain⟨ao,ca,rfl,a1,a2,a3,a4,a5⟩:=ha
 go_enter Tryd.func98,Tryd.ntmps98
 go_wp2_with fail
 go_loopg [11] xs.length (fun g i wr=>∃k:Nat,k≤xs.length∧g=xs.length-k∧i = .int .i64 k∧Hid (EntsOk (xs.take k) lo hi)∧Below w.heap.size w wr)
 case atStart=>exact⟨0,Nat.zero_le _,rfl,rfl,Lib.hid (by simpa using entsOk_nil lo hi),Below.refl _ _⟩
 case round=>
  obtain⟨k,hk,rfl,rfl,HE,hbw⟩:=hrel
  have hbz:=hbw.size
  by_cases hlt:k<xs.length
  ·obtain⟨ab,aoff,rfl,abb,ac⟩:=a5 (by omega)
   obtain⟨c0,c1,c2,c3,c4,c5,c6⟩:=ent_cells hbw abb ac hlt
   obtain⟨p,hp⟩:∃p:Int,∀hk0:0<k,wr.cell? ⟨ab,aoff+(k-1)*7,none⟩=some (.int .i64 p)∧xs[k-1].key=p:=by
    by_cases hk0:0<k
    ·obtain⟨q0,-⟩:=ent_cells hbw abb ac (show k-1<xs.length by omega)
     exact⟨_,fun _=>⟨q0,rfl⟩⟩
    ·exact⟨0,fun h=>absurd h hk0⟩
   obtain⟨e,he⟩:∃e,xs[k]=e:=⟨_,rfl⟩
   rw [he]at c0 c1 c2 c3 c4 c5 c6
   have EE:=Lib.hid he
   clear ac a5
   by_cases hok:lo≤e.key∧e.key<hi∧(0<k→p<e.key)∧e.is.c≠0
   ·obtain⟨o1,o2,o3,o4⟩:=hok
    have d1:decide (e.key<lo)=false:=by simpa using o1
    have d2:decide (hi≤e.key)=false:=by simpa using o2
    have d5:(e.is.c == 0)=false:=by simpa using o4
    have HP:=Lib.hid hp
    have HS:=Lib.hid fun(h6:rollCheck e.is=0)=>entsOk_step hlt HE.out (by rw [he];exact o1) (by rw [he];exact o2) (fun h0=>by rw [he,(hp h0).2];exact o3 h0) (by rw [he];exact o4) (by rw [he];exact h6)
    have HF:=Lib.hid fun(h6:rollCheck e.is≠0)=>entsB_false.2 fun(h:EntsOk xs lo hi)=>h6 (by have:=entsOk_at h hlt;rw [he]at this;exact this.2.2.2.1)
    have O3:=Lib.hid o3
    clear he hp o3 o4
    go_upto_region 4 with (fail)
    go_cut [52] (fun c wx=>∃q:Int,q=rollCheck e.is∧c = .bool (q != 0)∧Below w.heap.size w wx)
    case first=>
     obtain⟨W5,hW5⟩:∃W5,W5=wr.alloc (.cells #[.int .i64 e.key, .int .i64 e.is.c, .int .i64 e.is.s, .int .i64 e.is.mi, .int .i64 e.is.ma, .int .i64 e.is.t, .int .i64 e.is.l] 96):=⟨_,rfl⟩
     have hw5:Below wr.heap.size wr W5:=by rw [hW5];exact(Below.refl _ _).alloc (Nat.le_refl _) _
     have n0:W5.heap[wr.heap.size]?=some (.cells #[.int .i64 e.key, .int .i64 e.is.c, .int .i64 e.is.s, .int .i64 e.is.mi, .int .i64 e.is.ma, .int .i64 e.is.t, .int .i64 e.is.l] 96):=by rw [hW5];show (wr.heap.push _)[wr.heap.size]?=_;simp
     obtain⟨s0,s1,s2,s3,s4,s5,s6⟩:W5.cell? ⟨wr.heap.size,0,none⟩=some (.int .i64 e.key)∧W5.cell? ⟨wr.heap.size,1,none⟩=some (.int .i64 e.is.c)∧W5.cell? ⟨wr.heap.size,2,none⟩=some (.int .i64 e.is.s)∧W5.cell? ⟨wr.heap.size,3,none⟩=some (.int .i64 e.is.mi)∧W5.cell? ⟨wr.heap.size,4,none⟩=some (.int .i64 e.is.ma)∧W5.cell? ⟨wr.heap.size,5,none⟩=some (.int .i64 e.is.t)∧W5.cell? ⟨wr.heap.size,6,none⟩=some (.int .i64 e.is.l):=by
      simp [World.cell?,n0]
     have hB:Below w.heap.size w W5.drew:=(Below.trans' hbw hw5 hbw.size).drew
     rw [←hW5]
     by_cases g3:0<k
     ·have d3:decide ((0:Int)<k)=true:=by simpa using g3
      obtain⟨q0',-⟩:=HP.out g3
      have q0:W5.cell? ⟨ab,aoff+(k-1)*7,none⟩=some (.int .i64 p):=(hw5.cell (p:=⟨ab,_,none⟩) (by show ab<wr.heap.size;omega)).trans q0'
      have d4:decide (e.key≤p)=false:=by simpa using O3.out g3
      have hix:=fun w=>idx_ent (ab:=ab) (aoff:=aoff) (n:=xs.length) (cap:=ca) (show (k:Int)-1=((k-1:Nat):Int) by omega) (by omega) w
      have hw1:IntKind.i64.wrap ((k:Int)-1)=(k:Int)-1:=IntWalk.i64_in _ (by omega)
      clear c0 c1 c2 c3 c4 c5 c6 n0 hW5 hw5 hbw q0'
      refine wp_region_still_tail 34 (by kernel_rfl) (by kernel_rfl) ?_
      (simp only [List.take_succ_cons,List.take_zero,List.drop_succ_cons,List.drop_zero];(repeat ((with_reducible refine wpStill_step (fun K hK=>?_));go_simp;(with_reducible refine hK _ ?_);clear hK K));(with_reducible refine wpStill_nil ?_))
      clear hw1 hix
      change wpList _ _ _ _ _ W5.drew
      go_wp2_with (go_at_call 38;refine(check_below (W:=w) (r:=e.is) hB).mono ?_;rintro e' w1 ⟨rfl,BE⟩)
      go_meet
      exact⟨_,rfl,rfl,BE⟩
     ·obtain rfl:k=0:=by omega
      clear g3 c0 c1 c2 c3 c4 c5 c6 n0 hW5 hw5 hbw
      refine wp_region_still_tail 34 (by kernel_rfl) (by kernel_rfl) ?_
      (simp only [List.take_succ_cons,List.take_zero,List.drop_succ_cons,List.drop_zero];(repeat ((with_reducible refine wpStill_step (fun K hK=>?_));go_simp;(with_reducible refine hK _ ?_);clear hK K));(with_reducible refine wpStill_nil ?_))
      change wpList _ _ _ _ _ W5.drew
      go_wp2_with (go_at_call 38;refine(check_below (W:=w) (r:=e.is) hB).mono ?_;rintro e' w1 ⟨rfl,BE⟩)
      go_meet
      exact⟨_,rfl,rfl,BE⟩
    case rest=>
     obtain⟨q,hq,rfl,hbx⟩:=hcut
     by_cases h6:q=0
     ·have d6:(q != 0)=false:=by simp [h6]
      have HE':=Lib.hid (HS.out (by rw [←hq];exact h6))
      clear hq h6
      go_wp2
      go_roundg (xs.length-(k+1))
      case measure=>omega
      case rel=>exact⟨k+1,by omega,rfl,by go_num,HE',hbx⟩
     ·have d6:(q != 0)=true:=by simp [h6]
      have hxy:=HF.out (by rw [←hq];exact h6)
      clear hq h6
      go_wp2
      go_ret
      exact⟨ret_bool hxy.symm,hbx⟩
   ·have hxy:entsB xs lo hi=false:=entsB_false.2 fun h=>hok (by
     have:=entsOk_at h hlt
     rw [he]at this
     exact⟨this.1,this.2.1,fun h0=>by rw [←(hp h0).2];exact this.2.2.2.2 h0,this.2.2.1⟩)
    have HP:=Lib.hid hp
    have HNO:=Lib.hid hok
    have habw:ab<wr.heap.size:=by omega
    clear he hp hok
    by_cases g1:e.key<lo
    ·have d1:decide (e.key<lo)=true:=by simpa using g1
     go_wp2
     go_quiet (fail)
     go_wp2
     go_ret
     exact⟨ret_bool hxy.symm,(by repeat (first|exact Below.refl _ _|assumption|refine below_dn ?_ _|refine Below.drew ?_|refine Below.alloc ?_ (by first|omega|(simp;done)|(simp;omega)) _|refine Below.setCell ?_ (by first|omega|(simp;done)|(simp;omega)) _))⟩
    ·have d1:decide (e.key<lo)=false:=by simpa using g1
     by_cases g2:hi≤e.key
     ·have d2:decide (hi≤e.key)=true:=by simpa using g2
      go_wp2
      go_quiet (fail)
      go_wp2
      go_ret
      exact⟨ret_bool hxy.symm,(by repeat (first|exact Below.refl _ _|assumption|refine below_dn ?_ _|refine Below.drew ?_|refine Below.alloc ?_ (by first|omega|(simp;done)|(simp;omega)) _|refine Below.setCell ?_ (by first|omega|(simp;done)|(simp;omega)) _))⟩
     ·have d2:decide (hi≤e.key)=false:=by simpa using g2
      by_cases g3:0<k
      ·have d3:decide ((0:Int)<k)=true:=by simpa using g3
       obtain⟨q0,-⟩:=HP.out g3
       by_cases g4:e.key≤p
       ·have d4:decide (e.key≤p)=true:=by simpa using g4
        have hix:=fun w=>idx_ent (ab:=ab) (aoff:=aoff) (n:=xs.length) (cap:=ca) (show (k:Int)-1=((k-1:Nat):Int) by omega) (by omega) w
        have hw1:IntKind.i64.wrap ((k:Int)-1)=(k:Int)-1:=IntWalk.i64_in _ (by omega)
        go_wp2
        go_quiet (fail)
        go_wp2
        go_ret
        exact⟨ret_bool hxy.symm,(by repeat (first|exact Below.refl _ _|assumption|refine below_dn ?_ _|refine Below.drew ?_|refine Below.alloc ?_ (by first|omega|(simp;done)|(simp;omega)) _|refine Below.setCell ?_ (by first|omega|(simp;done)|(simp;omega)) _))⟩
       ·have d4:decide (e.key≤p)=false:=by simpa using g4
        have d5:(e.is.c == 0)=true:=by
         by_cases h:e.is.c=0
         ·simpa using h
         ·exact absurd ⟨by omega,by omega,fun _=>by omega,h⟩ HNO.out
        have hix:=fun w=>idx_ent (ab:=ab) (aoff:=aoff) (n:=xs.length) (cap:=ca) (show (k:Int)-1=((k-1:Nat):Int) by omega) (by omega) w
        have hw1:IntKind.i64.wrap ((k:Int)-1)=(k:Int)-1:=IntWalk.i64_in _ (by omega)
        go_wp2
        go_quiet (fail)
        go_wp2
        go_ret
        exact⟨ret_bool hxy.symm,(by repeat (first|exact Below.refl _ _|assumption|refine below_dn ?_ _|refine Below.drew ?_|refine Below.alloc ?_ (by first|omega|(simp;done)|(simp;omega)) _|refine Below.setCell ?_ (by first|omega|(simp;done)|(simp;omega)) _))⟩
      ·have d3:decide ((0:Int)<k)=false:=by simpa using g3
       have d5:(e.is.c == 0)=true:=by
        by_cases h:e.is.c=0
        ·simpa using h
        ·exact absurd ⟨by omega,by omega,fun h=>absurd h g3,h⟩ HNO.out
       go_wp2
       go_quiet (fail)
       go_wp2
       go_ret
       exact⟨ret_bool hxy.symm,(by repeat (first|exact Below.refl _ _|assumption|refine below_dn ?_ _|refine Below.drew ?_|refine Below.alloc ?_ (by first|omega|(simp;done)|(simp;omega)) _|refine Below.setCell ?_ (by first|omega|(simp;done)|(simp;omega)) _))⟩
  ·have hxy:entsB xs lo hi=true:=entsB_true.2 (entsOk_full (by omega) HE.out)
   go_wp2
   go_ret
   exact⟨ret_bool hxy.symm,(by repeat (first|exact Below.refl _ _|assumption|refine below_dn ?_ _|refine Below.drew ?_|refine Below.alloc ?_ (by first|omega|(simp;done)|(simp;omega)) _|refine Below.setCell ?_ (by first|omega|(simp;done)|(simp;omega)) _))⟩
end Go.Proofs.YtnjfkcimboidnaaDoor
