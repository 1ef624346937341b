/- Texts of mine that come as one: Seen Rise. -/
import Derived.Test.YtmljjfhgciaceaaDoorHd
import Derived.Test.YtmljjfhgciaceaaDoorSX
import Derived.Maps.OwnSet
import Derived.Maps.OwnOps
import Derived.Test.YtmljjfhgciaceaaDoorPA
import Derived.Test.YtmljjfhgciaceaaDoorKG
import Derived.StillTailTactics
import Derived.Deep.RegionHeld3
import Derived.Deep.RegionWith
namespace Go.Proofs.YtmljjfhgciaceaaDoor
open Go.RowKit Go.Maps
section
variable {n:Int} {S:List Int} {mb:Nat} {X:Nat->Prop} {w w':World}
def qL:List Int->DataW Unit
 |[]=> .map []
 |n::S=>(qL S).put (.int .i64 n) (.lit (.bool true))
theorem vT (n:Int):WideAt.IsKeyLit (.int .i64 n):=by first|trivial|simp [WideAt.IsKeyLit]|decide
theorem sX:∀S,IsMap (qL S)
 |[]=>isMap_empty
 |_::S=>(sX S).put _ _
theorem AR:∀S,Tidy (qL S)
 |[]=>tidy_empty
 |_::S=>(AR S).put (vT _) _
theorem Il (n:Int):∀S,(qL S).atKey (.int .i64 n) (.lit (.bool false)) = .lit (.bool (decide (n∈S)))
 |[]=>by rw [qL,atKey_of_not_has (by rfl)];rfl
 |m::S=>by
  rw [qL]
  by_cases h:n=m
  ·subst h;rw [atKey_put_same (sX S) (vT n)];simp
  ·rw [atKey_put_other (by simp [h]),Il n S];simp [h]
theorem CV (n:Int):∀S,has (qL S) (.int .i64 n)=decide (n∈S)
 |[]=>by rfl
 |m::S=>by
  rw [qL]
  by_cases h:n=m
  ·subst h;rw [has_put_same (sX S) (vT n)];simp
  ·rw [has_put_other (by simp [h]),CV n S];simp [h]
theorem AU:∀{S:List Int},S.Nodup->size (qL S)=S.length
 |[],_=>rfl
 |n::S,h=>by
  have hn:=List.nodup_cons.1 h
  rw [qL,size_put (AR S),CV,ai (by simpa using hn.1),AU hn.2];rfl
theorem td {P:Program} {e:TypeId} (he:P.underlying e=some .bool) {v:Value} {z:DataW Unit×List MemPlace} (h:plainElem P e v=some z):∃b,v = .bool b/\z=(.lit (.bool b),[]):=by
 unfold plainElem at h
 rw [he]at h
 cases v <;> simp at h
 exact⟨_,rfl,h.symm⟩
theorem Tryd.K5 (w:World):(zeroValue 4).run Tryd.prog w = .ok (.bool false) w:=cy
theorem Tryd.yU:Keyed Tryd.prog 3:=int_keyed Tryd.underlying3
def ju (w:World) (mb:Nat) (S:List Int):Prop:=w.ownsMap (H:=Unit) Tryd.prog 3 (plainElem Tryd.prog 4) mb S.length (qL S)
theorem wf_i64 (h:i64 n):(Lit.int .i64 n).wf=true:=by
 unfold i64 at h;simp [Lit.wf,IntKind.min,IntKind.max,IntKind.signed,IntKind.bits];exact h
theorem ju.look (h:ju w mb S) (hn:i64 n):(Instr.lookup 145 (.map (some mb)) (.int .i64 n) false).run Tryd.prog w = .ok (.bool (decide (n∈S))) w:=by
 obtain⟨v,ps,hrun,hv⟩:=World.ownsMap.lookup h Tryd.yU Tryd.underlying145 (Tryd.K5 w) (plainElem_bool Tryd.underlying4 false) (keyOf_int_mk Tryd.underlying3 (wf_i64 hn))
 rw [Il]at hv
 obtain⟨b,rfl,e⟩:=td Tryd.underlying4 hv
 simp only [jK,DataW.lit.injEq,Lit.bool.injEq]at e
 rw [hrun,e.1]
theorem ju.len (h:ju w mb S) (hs:S.Nodup) (ty:TypeId):(Builtin.len_ #[145] ty #[.map (some mb)]).run Tryd.prog w = .ok (.int .i64 S.length) w:=by
 rw [World.ownsMap.len h Tryd.underlying145 ty,AU hs]
theorem ju.lt (h:ju w mb S):mb<w.heap.size:=World.ownsMap.lt h
theorem ju.block (h:ju w mb S) (hb:w'.heap[mb]?=w.heap[mb]?):ju w' mb S:=by
 obtain⟨es,clock,h1,F,hs,hD⟩:=h
 exact⟨es,clock,hb.trans h1,F,hs,hD⟩
theorem ju.turn (h:ju w mb S) (ht:aw X w w') (hx:¬X mb):ju w' mb S:=h.block (ht.block mb h.lt hx)
theorem aw.grown {a:World} {row:Option Nat} (h:aw X a w) (hg:w.grownBy w' row) (hr:∀k,row=some k->X k\/a.heap.size<=k):aw X a w':=
 ⟨hg.os.trans h.os,hg.tape.trans h.tape,hg.output.trans h.output,gT h.size hg.size,fun i hi hx=>(hg.block i (mE hi h.size) (fun e=>by rcases hr i e.symm with h1|h1;exact hx h1;omega)).trans (h.block i hi hx)⟩
end
end Go.Proofs.YtmljjfhgciaceaaDoor
namespace Go.Proofs.YtmljjfhgciaceaaDoor
open Go.RowKit
section
set_option maxRecDepth 100000
set_option maxHeartbeats 2000000
theorem Cb {ab aY n cap j:Nat} {i:Int} (h:i=j) (hj:j<n) (w:World):(Instr.indexAt 63 (.slice (some ⟨ab,aY,none⟩) n cap) (.int .i64 i)).run Tryd.prog w = .ok (.pointer (some ⟨ab,aY+j*7,none⟩)) w:=by
 subst h
 go_simp
theorem jQ {r:au} {W w:World} (hb:ah W w):Calls Tryd.prog 37 #[.agg #[.int .i64 r.c, .int .i64 r.s, .int .i64 r.mi, .int .i64 r.ma, .int .i64 r.t, .int .i64 r.l]] w fun e w'=>e = .returned (.int .i64 (aj r))/\ah W w':=
 (gP r w).mono fun e w' ⟨h1,h2⟩=>⟨h1,by rw [<-h2];exact hb.alloc hb.size _⟩
theorem yI {v:Value} {xs:List aA} {lo hi:Int} {w:World} (ha:eQ w v xs) :
  Calls Tryd.prog 114 #[v, .int .i64 lo, .int .i64 hi] w fun e w'=>e = .returned (.bool (qu xs lo hi))/\ah w w':=by
 obtain⟨ao,ca,rfl,a1,a2,a3,a4,a5⟩:=ha
 go_enter Tryd.func114,Tryd.ntmps114
 go_wp2_with fail
 go_loopg [11] xs.length (fun g i wr=>∃k:Nat,k<=xs.length/\g=xs.length-k/\i = .int .i64 k/\Hid (dF (xs.take k) lo hi)/\ah w wr)
 case atStart=>exact⟨0,iN _,rfl,rfl,hdd (by simpa using tD lo hi),aJ _ _⟩
 case round=>
  obtain⟨k,hk,rfl,rfl,HE,di⟩:=hrel
  have hbz:=di.size
  by_cases hlt:k<xs.length
  ·obtain⟨ab,aY,rfl,xD,ac⟩:=a5 af
   obtain⟨c0,c1,c2,c3,c4,c5,c6⟩:=bR di xD ac hlt
   obtain⟨p,hp⟩:∃p:Int,∀ie:0<k,wr.cell? ⟨ab,aY+(k-1)*7,none⟩=some (.int .i64 p)/\xs[k-1].key=p:=by
    by_cases ie:0<k
    ·obtain⟨q0,-⟩:=bR di xD ac (show k-1<xs.length by omega)
     exact⟨_,fun _=>⟨q0,rfl⟩⟩
    ·exact⟨0,fun h=>absurd h ie⟩
   obtain⟨e,he⟩:=bw (xs[k])
   rw [he]at c0 c1 c2 c3 c4 c5 c6
   have EE:=hdd he
   clear ac a5
   by_cases hok:lo<=e.key/\e.key<hi/\(0<k->p<e.key)/\e.is.c≠0
   ·obtain⟨o1,o2,o3,o4⟩:=hok
    have d1:decide (e.key<lo)=false:=by simpa using o1
    have d2:decide (hi<=e.key)=false:=by simpa using o2
    have d5:(e.is.c == 0)=false:=by simpa using o4
    have HP:=hdd hp
    have HS:=hdd fun(h6:aj e.is=0)=>Es hlt HE.out (by rw [he];exact o1) (by rw [he];exact o2) (fun h0=>by rw [he,(hp h0).2];exact o3 h0) (by rw [he];exact o4) (by rw [he];exact h6)
    have HF:=hdd fun(h6:aj e.is≠0)=>xq.2 fun(h:dF xs lo hi)=>h6 (by have:=Bk h hlt;rw [he]at this;exact this.2.2.2.1)
    have O3:=hdd o3
    clear he hp o3 o4
    go_upto_region 4 with (fail)
    go_cut [52] (fun c wx=>∃q:Int,q=aj e.is/\c = .bool (q != 0)/\ah w wx)
    case first=>
     obtain⟨W5,oC⟩:=bQ (wr.alloc (.cells #[.int .i64 e.key, .int .i64 e.is.c, .int .i64 e.is.s, .int .i64 e.is.mi, .int .i64 e.is.ma, .int .i64 e.is.t, .int .i64 e.is.l] 96))
     have qy:ah wr W5:=by rw [oC];exact(aJ _ _).alloc aI _
     have n0:W5.heap[wr.heap.size]?=some (.cells #[.int .i64 e.key, .int .i64 e.is.c, .int .i64 e.is.s, .int .i64 e.is.mi, .int .i64 e.is.ma, .int .i64 e.is.t, .int .i64 e.is.l] 96):=by rw [oC];show (wr.heap.push _)[wr.heap.size]?=_;simp
     obtain⟨s0,s1,s2,s3,s4,s5,s6⟩:W5.cell? ⟨wr.heap.size,0,none⟩=some (.int .i64 e.key)/\W5.cell? ⟨wr.heap.size,1,none⟩=some (.int .i64 e.is.c)/\W5.cell? ⟨wr.heap.size,2,none⟩=some (.int .i64 e.is.s)/\W5.cell? ⟨wr.heap.size,3,none⟩=some (.int .i64 e.is.mi)/\W5.cell? ⟨wr.heap.size,4,none⟩=some (.int .i64 e.is.ma)/\W5.cell? ⟨wr.heap.size,5,none⟩=some (.int .i64 e.is.t)/\W5.cell? ⟨wr.heap.size,6,none⟩=some (.int .i64 e.is.l):=by
      simp [World.cell?,n0]
     have hB:ah w W5.drew:=(Below.trans' di qy di.size).drew
     rw [<-oC]
     by_cases g3:0<k
     ·have d3:decide ((0:Int)<k)=true:=by simpa using g3
      obtain⟨E7,-⟩:=HP.out g3
      have q0:W5.cell? ⟨ab,aY+(k-1)*7,none⟩=some (.int .i64 p):=(qy.cell (p:=⟨ab,_,none⟩) (by show ab<wr.heap.size;omega)).trans E7
      have d4:decide (e.key<=p)=false:=by simpa using O3.out g3
      have kS:=fun w=>Cb (ab:=ab) (aY:=aY) (n:=xs.length) (cap:=ca) (show (k:Int)-1=((k-1:Nat):Int) by omega) af w
      have hw1:IntKind.i64.wrap ((k:Int)-1)=(k:Int)-1:=IntWalk.i64_in _ af
      clear c0 c1 c2 c3 c4 c5 c6 n0 oC qy di E7
      refine wp_region_still_tail 34 cy cy ?_
      (simp only [List.take_succ_cons,List.take_zero,List.drop_succ_cons,List.drop_zero];(repeat ((with_reducible refine wpStill_step (fun K hK=>?_));go_simp;(with_reducible refine hK _ ?_);clear hK K));(with_reducible refine wpStill_nil ?_))
      clear hw1 kS
      change wpList _ _ _ _ _ W5.drew
      go_wp2_with (go_at_call 37;refine(jQ (W:=w) (r:=e.is) hB).mono ?_;rintro e' w1 ⟨rfl,BE⟩)
      go_meet
      exact⟨_,rfl,rfl,BE⟩
     ·obtain rfl:k=0:=af
      clear g3 c0 c1 c2 c3 c4 c5 c6 n0 oC qy di
      refine wp_region_still_tail 34 cy cy ?_
      (simp only [List.take_succ_cons,List.take_zero,List.drop_succ_cons,List.drop_zero];(repeat ((with_reducible refine wpStill_step (fun K hK=>?_));go_simp;(with_reducible refine hK _ ?_);clear hK K));(with_reducible refine wpStill_nil ?_))
      change wpList _ _ _ _ _ W5.drew
      go_wp2_with (go_at_call 37;refine(jQ (W:=w) (r:=e.is) hB).mono ?_;rintro e' w1 ⟨rfl,BE⟩)
      go_meet
      exact⟨_,rfl,rfl,BE⟩
    case rest=>
     obtain⟨q,hq,rfl,KU⟩:=hcut
     by_cases h6:q=0
     ·have d6:(q != 0)=false:=by simp [h6]
      have HE':=hdd (HS.out (by rw [<-hq];exact h6))
      clear hq h6
      go_wp2
      go_roundg (xs.length-(k+1))
      case measure=>omega
      case rel=>exact⟨k+1,af,rfl,by go_num,HE',KU⟩
     ·have d6:(q != 0)=true:=by simp [h6]
      have hxy:=HF.out (by rw [<-hq];exact h6)
      clear hq h6
      go_wp2
      go_ret
      exact⟨dQ hxy.symm,KU⟩
   ·have hxy:qu xs lo hi=false:=xq.2 fun h=>hok (by
     have:=Bk h hlt
     rw [he]at this
     exact⟨this.1,this.2.1,fun h0=>by rw [<-(hp h0).2];exact this.2.2.2.2 h0,this.2.2.1⟩)
    have HP:=hdd hp
    have nK:=hdd hok
    have agF:ab<wr.heap.size:=af
    clear he hp hok
    by_cases g1:e.key<lo
    ·have d1:decide (e.key<lo)=true:=by simpa using g1
     go_wp2
     go_quiet (fail)
     go_wp2
     go_ret
     exact⟨dQ hxy.symm,(by repeat (first|exact aJ _ _|assumption|refine cM ?_ _|refine Below.drew ?_|refine Below.alloc ?_ (by first|omega|(simp;done)|(simp;omega)) _|refine Below.setCell ?_ (by first|omega|(simp;done)|(simp;omega)) _))⟩
    ·have d1:decide (e.key<lo)=false:=by simpa using g1
     by_cases g2:hi<=e.key
     ·have d2:decide (hi<=e.key)=true:=by simpa using g2
      go_wp2
      go_quiet (fail)
      go_wp2
      go_ret
      exact⟨dQ hxy.symm,(by repeat (first|exact aJ _ _|assumption|refine cM ?_ _|refine Below.drew ?_|refine Below.alloc ?_ (by first|omega|(simp;done)|(simp;omega)) _|refine Below.setCell ?_ (by first|omega|(simp;done)|(simp;omega)) _))⟩
     ·have d2:decide (hi<=e.key)=false:=by simpa using g2
      by_cases g3:0<k
      ·have d3:decide ((0:Int)<k)=true:=by simpa using g3
       obtain⟨q0,-⟩:=HP.out g3
       by_cases g4:e.key<=p
       ·have d4:decide (e.key<=p)=true:=by simpa using g4
        have kS:=fun w=>Cb (ab:=ab) (aY:=aY) (n:=xs.length) (cap:=ca) (show (k:Int)-1=((k-1:Nat):Int) by omega) af w
        have hw1:IntKind.i64.wrap ((k:Int)-1)=(k:Int)-1:=IntWalk.i64_in _ af
        go_wp2
        go_quiet (fail)
        go_wp2
        go_ret
        exact⟨dQ hxy.symm,(by repeat (first|exact aJ _ _|assumption|refine cM ?_ _|refine Below.drew ?_|refine Below.alloc ?_ (by first|omega|(simp;done)|(simp;omega)) _|refine Below.setCell ?_ (by first|omega|(simp;done)|(simp;omega)) _))⟩
       ·have d4:decide (e.key<=p)=false:=by simpa using g4
        have d5:(e.is.c == 0)=true:=by
         by_cases h:e.is.c=0
         ·simpa using h
         ·exact absurd ⟨af,af,fun _=>af,h⟩ nK.out
        have kS:=fun w=>Cb (ab:=ab) (aY:=aY) (n:=xs.length) (cap:=ca) (show (k:Int)-1=((k-1:Nat):Int) by omega) af w
        have hw1:IntKind.i64.wrap ((k:Int)-1)=(k:Int)-1:=IntWalk.i64_in _ af
        go_wp2
        go_quiet (fail)
        go_wp2
        go_ret
        exact⟨dQ hxy.symm,(by repeat (first|exact aJ _ _|assumption|refine cM ?_ _|refine Below.drew ?_|refine Below.alloc ?_ (by first|omega|(simp;done)|(simp;omega)) _|refine Below.setCell ?_ (by first|omega|(simp;done)|(simp;omega)) _))⟩
      ·have d3:decide ((0:Int)<k)=false:=by simpa using g3
       have d5:(e.is.c == 0)=true:=by
        by_cases h:e.is.c=0
        ·simpa using h
        ·exact absurd ⟨af,af,fun h=>absurd h g3,h⟩ nK.out
       go_wp2
       go_quiet (fail)
       go_wp2
       go_ret
       exact⟨dQ hxy.symm,(by repeat (first|exact aJ _ _|assumption|refine cM ?_ _|refine Below.drew ?_|refine Below.alloc ?_ (by first|omega|(simp;done)|(simp;omega)) _|refine Below.setCell ?_ (by first|omega|(simp;done)|(simp;omega)) _))⟩
  ·have hxy:qu xs lo hi=true:=pX.2 (Et af HE.out)
   go_wp2
   go_ret
   exact⟨dQ hxy.symm,(by repeat (first|exact aJ _ _|assumption|refine cM ?_ _|refine Below.drew ?_|refine Below.alloc ?_ (by first|omega|(simp;done)|(simp;omega)) _|refine Below.setCell ?_ (by first|omega|(simp;done)|(simp;omega)) _))⟩
end
end Go.Proofs.YtmljjfhgciaceaaDoor
