/- Lemmas of the proof. -/
import Derived.Test.YtmljjfhgciaceaaGreatDoorHd
import Derived.Test.YtmljjfhgciaceaaGreatDoorCz
import Derived.Test.YtmljjfhgciaceaaGreatDoorSX
import Derived.Maps.OwnSet
import Derived.Maps.OwnOps
import Derived.Test.YtmljjfhgciaceaaGreatDoorPA
import Derived.Test.YtmljjfhgciaceaaGreatDoorKG
import Derived.StillTailTactics
import Derived.Deep.RegionHeld3
import Derived.Deep.RegionWith
set_option maxRecDepth 100000
set_option maxHeartbeats 2000000
namespace Go.Proofs.YtmljjfhgciaceaaGreatDoor
open Go.RowKit Go.Maps
section
variable {n:Int} {S:List Int} {mb:Nat} {X:Nat->Prop} {w w':World}
def ur:List Int->DataW Unit
 |[]=> .map []
 |n::S=>(ur S).put (.int .i64 n) (.lit (.bool true))
theorem zF (n:Int):WideAt.IsKeyLit (.int .i64 n):=by first|trivial|simp [WideAt.IsKeyLit]|decide
theorem wV:∀S,IsMap (ur S)
 |[]=>isMap_empty
 |_::S=>(wV S).put _ _
theorem EI:∀S,Tidy (ur S)
 |[]=>tidy_empty
 |_::S=>(EI S).put (zF _) _
theorem M9 (n:Int):∀S,(ur S).atKey (.int .i64 n) (.lit (.bool false)) = .lit (.bool (decide (n∈S)))
 |[]=>by rw [ur,atKey_of_not_has (by rfl)];rfl
 |m::S=>by
  rw [ur];by_cases h:n=m
  ·subst h;rw [atKey_put_same (wV S) (zF n)];simp
  ·rw [atKey_put_other (by simp [h]),M9 n S];simp [h]
theorem Hb (n:Int):∀S,has (ur S) (.int .i64 n)=decide (n∈S)
 |[]=>by rfl
 |m::S=>by
  rw [ur];by_cases h:n=m
  ·subst h;rw [has_put_same (wV S) (zF n)];simp
  ·rw [has_put_other (by simp [h]),Hb n S];simp [h]
theorem EJ:∀{S:List Int},S.Nodup->size (ur S)=S
 |[],_=>rfl
 |n::S,h=>by
  have hn:=List.nodup_cons.1 h;rw [ur,size_put (EI S),Hb,ar (by simpa using hn.1),EJ hn.2];rfl
theorem wZ {P:Program} {e:TypeId} (he:P.underlying e=some .bool) {v:Value} {z:DataW Unit×List MemPlace} (h:plainElem P e v=some z):∃b,v = .bool b/\z=(.lit (.bool b),[]):=by
 unfold plainElem at h;rw [he]at h
 cases v <;> simp at h
 exact⟨_,rfl,h.symm⟩
theorem Tryz.Qq (w:World):(zeroValue 4).run Tryz.prog w = .ok (.bool false) w:=cV
theorem Tryz.Cz:Keyed Tryz.prog 3:=int_keyed Tryz.underlying3
def kX (w:World) (mb:Nat) (S:List Int):Prop:=w.ownsMap (H:=Unit) Tryz.prog 3 (plainElem Tryz.prog 4) mb S (ur S)
theorem wf_i64 (h:i64 n):(Lit.int .i64 n).wf=true:=by
 unfold i64 at h;simp [Lit.wf,IntKind.min,IntKind.max,IntKind.signed,IntKind.bits];exact h
theorem kX.look (h:kX w mb S) (hn:i64 n):(Instr.lookup 175 (.map (some mb)) (af n) false).run Tryz.prog w = .ok (.bool (decide (n∈S))) w:=by
 obtain⟨v,ps,hrun,hv⟩:=World.ownsMap.lookup h Tryz.Cz Tryz.underlying175 (Tryz.Qq w) (plainElem_bool Tryz.underlying4 false) (keyOf_int_mk Tryz.underlying3 (wf_i64 hn));rw [M9]at hv;obtain⟨b,rfl,e⟩:=wZ Tryz.underlying4 hv;simp only [kC,DataW.lit.injEq,Lit.bool.injEq]at e;rw [hrun,e.1]
theorem kX.len (h:kX w mb S) (hs:S.Nodup) (ty:TypeId):(Builtin.len_ #[175] ty #[.map (some mb)]).run Tryz.prog w = .ok (af S) w:=by
 rw [World.ownsMap.len h Tryz.underlying175 ty,EJ hs]
theorem kX.lt (h:kX w mb S):mb<w:=World.ownsMap.lt h
theorem kX.block (h:kX w mb S) (hb:w'.heap[mb]?=w.heap[mb]?):kX w' mb S:=by
 obtain⟨es,clock,h1,F,hs,hD⟩:=h;exact⟨es,clock,hb.trans h1,F,hs,hD⟩
theorem kX.turn (h:kX w mb S) (ht:aA X w w') (hx:¬X mb):kX w' mb S:=h.block (ht.block mb h.lt hx)
theorem aA.grown {a:World} {row:Option Nat} (h:aA X a w) (hg:w.grownBy w' row) (hr:∀k,row=some k->X k\/a.heap.size<=k):aA X a w':=
 ⟨hg.os.trans h.os,hg.tape.trans h.tape,hg.output.trans h.output,fZ h.size hg.size,fun i hi hx=>(hg.block i (oI hi h.size) (fun e=>by rcases hr i e.symm with h1|h1;exact hx h1;omega)).trans (h.block i hi hx)⟩
end
theorem FT {ab aR n cap j:Nat} {i:Int} (h:i=j) (hj:j<n) (w:World):(Instr.indexAt 35 (ah (some (ab,aR)) n cap) (af i)).run Tryz.prog w = .ok (.pointer (some (ab,aR+j*7))) w:=by
 subst h;go_simp
theorem lX {r:ax} {W w:World} (hb:aq W w):Calls Tryz.prog 31 #[.agg #[af r.c,af r.s,af r.mi,af r.ma,af r.t,af r.l]] w fun e w'=>e = .returned (af (av r))/\aq W w':=
 (iY r w).mono fun e w' ⟨h1,h2⟩=>⟨h1,by rw [<-h2];exact hb.alloc hb.size _⟩
theorem Cg {v:Value} {xs:List aH} {lo hi:Int} {w:World} (ha:cX w v xs) :
  Calls Tryz.prog 123 #[v,af lo,af hi] w fun e w'=>e = .returned (.bool (nA xs lo hi))/\aq w w':=by
 obtain⟨ao,ca,rfl,a1,a2,a3,a4,a5⟩:=ha;go_enter Tryz.func123,Tryz.ntmps123;go_wp2_with fail
 go_loopg [11] xs (fun g i wr=>∃k:Nat,k<=xs/\g=xs-k/\i=af k/\Hid (dK (xs.take k) lo hi)/\aq w wr)
 case atStart=>exact⟨0,eY _,rfl,rfl,ag (by simpa using lJ lo hi),aW _ _⟩
 case round=>
  obtain⟨k,hk,rfl,rfl,HE,cT⟩:=hrel;have hbz:=cT.size;by_cases hlt:k<xs
  ·obtain⟨ab,aR,rfl,qy,ac⟩:=a5 ai;obtain⟨c0,c1,c2,c3,c4,c5,c6⟩:=br cT qy ac hlt;obtain⟨p,hp⟩:∃p:Int,∀iy:0<k,(wr,ab,aR+(k-1)*7,p)/\xs[k-1].key=p:=by
    by_cases iy:0<k
    ·obtain⟨q0,-⟩:=br cT qy ac (show k-1<xs by omega);exact⟨_,fun _=>⟨q0,rfl⟩⟩
    ·exact⟨0,fun h=>absurd h iy⟩
   obtain⟨e,he⟩:=bG (xs[k]);rw [he]at c0 c1 c2 c3 c4 c5 c6;have EE:=ag he;clear ac a5;by_cases hok:lo<=e.key/\e.key<hi/\(0<k->p<e.key)/\e.is.c≠0
   ·obtain⟨o1,o2,o3,o4⟩:=hok;have d1:decide (e.key<lo)=false:=(by simpa using o1);have d2:decide (hi<=e.key)=false:=(by simpa using o2);have d5:(e.is.c == 0)=false:=(by simpa using o4);have HP:=ag hp;have HS:=ag fun(h6:av e.is=0)=>AB hlt HE.out (by rw [he];exact o1) (by rw [he];exact o2) (fun h0=>by rw [he,(hp h0).2];exact o3 h0) (by rw [he];exact o4) (by rw [he];exact h6);have HF:=ag fun(h6:av e.is≠0)=>qY.2 fun(h:dK xs lo hi)=>h6 (by have:=vT h hlt;rw [he]at this;exact this.2.2.2.1);have O3:=ag o3;clear he hp o3 o4;go_upto_region 4 with (fail);go_cut [52] (fun c wx=>∃q:Int,q=av e.is/\c = .bool (q != 0)/\aq w wx)
    case first=>
     obtain⟨W5,mD⟩:=cd (wr.alloc (.cells #[af e.key,af e.is.c,af e.is.s,af e.is.mi,af e.is.ma,af e.is.t,af e.is.l] 107));have tS:aq wr W5:=(by rw [mD];exact(aW _ _).alloc aO _);have n0:W5.heap[wr.heap.size]?=some (.cells #[af e.key,af e.is.c,af e.is.s,af e.is.mi,af e.is.ma,af e.is.t,af e.is.l] 107):=(by rw [mD];show (wr.heap.push _)[wr.heap.size]?=_;simp);obtain⟨s0,s1,s2,s3,s4,s5,s6⟩:(W5,wr.heap.size,0,e.key)/\(W5,wr.heap.size,1,e.is.c)/\(W5,wr.heap.size,2,e.is.s)/\(W5,wr.heap.size,3,e.is.mi)/\(W5,wr.heap.size,4,e.is.ma)/\(W5,wr.heap.size,5,e.is.t)/\(W5,wr.heap.size,6,e.is.l):=by
      simp [World.cell?,n0]
     have hB:aq w W5.drew:=(aF cT tS cT.size).drew;rw [<-mD];by_cases g3:0<k
     ·have d3:decide ((0:Int)<k)=true:=(by simpa using g3);obtain⟨Kk,-⟩:=HP g3;have q0:W5.cell? (ab,aR+(k-1)*7)=some (af p):=(tS.cell (p:=⟨ab,_,none⟩) (by show ab<wr;omega)).trans Kk;have d4:decide (e.key<=p)=false:=(by simpa using O3.out g3);have jA:=fun w=>FT (ab:=ab) (aR:=aR) (n:=xs.length) (cap:=ca) (show (k:Int)-1=((k-1:Nat):Int) by omega) ai w;have hw1:IntKind.i64.wrap ((k:Int)-1)=(k:Int)-1:=bI _ ai;clear c0 c1 c2 c3 c4 c5 c6 n0 mD tS cT Kk;refine Dq 34 cV cV ?_
      (simp only [List.take_succ_cons,List.take_zero,List.drop_succ_cons,List.drop_zero];(repeat ((with_reducible refine qx (fun K hK=>?_));go_simp;(with_reducible refine hK _ ?_);clear hK K));(with_reducible refine qw ?_))
      clear hw1 jA;change wpList _ _ _ _ _ W5.drew;go_wp2_with (go_at_call 31;refine(lX (W:=w) (r:=e.is) hB).mono ?_;rintro e' w1 ⟨rfl,BE⟩);go_meet;exact⟨_,rfl,rfl,BE⟩
     ·obtain rfl:k=0:=ai;clear g3 c0 c1 c2 c3 c4 c5 c6 n0 mD tS cT;refine Dq 34 cV cV ?_
      (simp only [List.take_succ_cons,List.take_zero,List.drop_succ_cons,List.drop_zero];(repeat ((with_reducible refine qx (fun K hK=>?_));go_simp;(with_reducible refine hK _ ?_);clear hK K));(with_reducible refine qw ?_))
      change wpList _ _ _ _ _ W5.drew;go_wp2_with (go_at_call 31;refine(lX (W:=w) (r:=e.is) hB).mono ?_;rintro e' w1 ⟨rfl,BE⟩);go_meet;exact⟨_,rfl,rfl,BE⟩
    case rest=>
     obtain⟨q,hq,rfl,LX⟩:=hcut;by_cases h6:q=0
     ·have d6:(q != 0)=false:=(by simp [h6]);have HE':=ag (HS (by rw [<-hq];exact h6));clear hq h6;go_wp2;go_roundg (xs-(k+1))
      case measure=>omega
      case rel=>exact⟨k+1,ai,rfl,by go_num,HE',LX⟩
     ·have d6:(q != 0)=true:=(by simp [h6]);have hxy:=HF (by rw [<-hq];exact h6);clear hq h6;go_wp2;go_ret;exact⟨bz hxy.symm,LX⟩
   ·have hxy:nA xs lo hi=false:=qY.2 fun h=>hok (by
     have:=vT h hlt;rw [he]at this;exact⟨this.1,this.2.1,fun h0=>by rw [<-(hp h0).2];exact this.2.2.2.2 h0,this.2.2.1⟩)
    have HP:=ag hp;have mB:=ag hok;have amH:ab<wr:=ai;clear he hp hok;by_cases g1:e.key<lo
    ·have d1:decide (e.key<lo)=true:=(by simpa using g1);go_wp2;go_quiet (fail);go_wp2;go_ret;exact⟨bz hxy.symm,eV⟩
    ·have d1:decide (e.key<lo)=false:=(by simpa using g1);by_cases g2:hi<=e.key
     ·have d2:decide (hi<=e.key)=true:=(by simpa using g2);go_wp2;go_quiet (fail);go_wp2;go_ret;exact⟨bz hxy.symm,eV⟩
     ·have d2:decide (hi<=e.key)=false:=(by simpa using g2);by_cases g3:0<k
      ·have d3:decide ((0:Int)<k)=true:=(by simpa using g3);obtain⟨q0,-⟩:=HP g3;by_cases g4:e.key<=p
       ·have d4:decide (e.key<=p)=true:=(by simpa using g4);have jA:=fun w=>FT (ab:=ab) (aR:=aR) (n:=xs.length) (cap:=ca) (show (k:Int)-1=((k-1:Nat):Int) by omega) ai w;have hw1:IntKind.i64.wrap ((k:Int)-1)=(k:Int)-1:=bI _ ai;go_wp2;go_quiet (fail);go_wp2;go_ret;exact⟨bz hxy.symm,eV⟩
       ·have d4:decide (e.key<=p)=false:=(by simpa using g4);have d5:(e.is.c == 0)=true:=by
         by_cases h:e.is.c=0
         ·simpa using h
         ·exact absurd ⟨ai,ai,fun _=>ai,h⟩ mB
        have jA:=fun w=>FT (ab:=ab) (aR:=aR) (n:=xs.length) (cap:=ca) (show (k:Int)-1=((k-1:Nat):Int) by omega) ai w;have hw1:IntKind.i64.wrap ((k:Int)-1)=(k:Int)-1:=bI _ ai;go_wp2;go_quiet (fail);go_wp2;go_ret;exact⟨bz hxy.symm,eV⟩
      ·have d3:decide ((0:Int)<k)=false:=(by simpa using g3);have d5:(e.is.c == 0)=true:=by
        by_cases h:e.is.c=0
        ·simpa using h
        ·exact absurd ⟨ai,ai,fun h=>absurd h g3,h⟩ mB
       go_wp2;go_quiet (fail);go_wp2;go_ret;exact⟨bz hxy.symm,eV⟩
  ·have hxy:nA xs lo hi=true:=nL.2 (AE ai HE.out);go_wp2;go_ret;exact⟨bz hxy.symm,eV⟩
end Go.Proofs.YtmljjfhgciaceaaGreatDoor
