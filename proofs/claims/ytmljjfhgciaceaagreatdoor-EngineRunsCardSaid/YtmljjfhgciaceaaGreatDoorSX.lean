/- Lemmas of the proof. -/
import Derived.Test.YtmljjfhgciaceaaGreatDoorHd
import Derived.Test.YtmljjfhgciaceaaGreatDoorCz
import Derived.Test.YtmljjfhgciaceaaGreatDoorKG
import Derived.Test.YtmljjfhgciaceaaGreatDoorPA
import Derived.Deep.RegionHeld3
import Derived.StillTailTactics
import Derived.Deep.CutBlock
import Derived.Laws.OwnMore
import Derived.OwnWalk
set_option maxHeartbeats 2000000
set_option maxRecDepth 100000
namespace Go.Proofs.YtmljjfhgciaceaaGreatDoor
open Go.RowKit
section
variable {xs:List aH} {α:Type} {w wr:World}
theorem br {b off k:Nat} (hb:aq w wr) (hbb:b<w)
  (h:∀i x,xs[i]?=some x->∀j u,(bu x)[j]?=some u->w.cell? (b,off+i*7+j)=some u) (hk:k<xs) :
  wr.cell? (b,off+k*7)=some (af xs[k].key)/\wr.cell? (b,off+k*7+1)=some (af xs[k].is.c)/\wr.cell? (b,off+k*7+2)=some (af xs[k].is.s) /\
  wr.cell? (b,off+k*7+3)=some (af xs[k].is.mi)/\wr.cell? (b,off+k*7+4)=some (af xs[k].is.ma)/\wr.cell? (b,off+k*7+5)=some (af xs[k].is.t) /\
  wr.cell? (b,off+k*7+6)=some (af xs[k].is.l):=by
 have g:∀j u,(bu xs[k])[j]?=some u->wr.cell? (b,off+k*7+j)=some u:=fun j u hu=>
  (hb.cell (p:=⟨b,_,none⟩) hbb).trans (h k xs[k] (by simp [hk]) j u hu)
 exact⟨by simpa using g 0 _ rfl,g 1 _ rfl,g 2 _ rfl,g 3 _ rfl,g 4 _ rfl,g 5 _ rfl,g 6 _ rfl⟩
theorem Rf {b off k:Nat} {xs:List Int} (hb:aq w wr) (hbb:b<w)
  (h:∀i x,xs[i]?=some x->∀j u,(bP x)[j]?=some u->w.cell? (b,off+i*1+j)=some u) (hk:k<xs) :
  wr.cell? (b,off+k)=some (af xs[k]):=by
 have:=(hb.cell (p:=⟨b,_,none⟩) hbb).trans (h k xs[k] (by simp [hk]) 0 _ rfl);simpa using this
theorem pB {xs ys:List α} {k:Nat} (h:xs.take k=ys.take k) (hx:k<xs) (hy:k<ys) (he:xs[k]=ys[k]):xs.take (k+1)=ys.take (k+1):=by
 rw [ja hx,ja hy,h,he]
theorem zy {xs ys:List α} {k:Nat} (hx:k<xs) (hy:k<ys) (he:xs[k]≠ys[k]):xs≠ys:=by
 intro h;subst h;exact he rfl
theorem pZ {va vb:Value} {ys:List aH} (ha:cX w va xs) (hb:cX w vb ys) :
  Calls Tryz.prog 26 #[va,vb] w fun e w'=>e = .returned (.bool (decide (xs=ys)))/\aq w w':=by
 obtain⟨ao,ca,rfl,a1,a2,a3,a4,a5⟩:=ha;obtain⟨bo,cb,rfl,b1,b2,b3,b4,b5⟩:=hb;by_cases hl:xs=ys.length
 ·have hl':((xs.length:Int) != (ys.length:Int))=false:=by simp [hl]
  go_enter Tryz.func26,Tryz.ntmps26;go_wp2_with fail
  go_loopg [5] xs (fun g i wr=>∃k:Nat,k<=xs/\g=xs-k/\i=af k/\Hid (xs.take k=ys.take k)/\aq w wr)
  case atStart=>exact⟨0,eY _,rfl,rfl,ag bh,aW _ _⟩
  case round=>
   obtain⟨k,hk,rfl,rfl,HE,cT⟩:=hrel;by_cases hlt:k<xs
   ·obtain⟨ab,aR,rfl,qy,ac⟩:=a5 ai;obtain⟨bb,Vz,rfl,Zg,bc⟩:=b5 ai;have ir:k<ys:=ai;obtain⟨c0,c1,c2,c3,c4,c5,c6⟩:=br cT qy ac hlt;obtain⟨d0,d1,d2,d3,d4,d5,d6⟩:=br cT Zg bc ir;clear ac bc a5 b5;obtain⟨e,he⟩:=bG (xs[k]);obtain⟨f,hf⟩:=bG (ys[k]);rw [he]at c0 c1 c2 c3 c4 c5 c6;rw [hf]at d0 d1 d2 d3 d4 d5 d6;have EE:=ag he;have FF:=ag hf;have HL:=ag hl;clear he hf hl;have hne:=Ak e f;by_cases DM:e=f
    ·have RQ:(decide (e=f))=true:=(by simp [DM]);have Tk:=ag DM;clear DM;go_wp2;go_quiet (fail);go_wp2;go_roundg (xs-(k+1))
     case measure=>omega
     case rel=>exact⟨k+1,ai,rfl,by go_num,ag (pB HE.out hlt ir (by rw [EE,FF,Tk])),iZ⟩
    ·have RQ:(decide (e=f))=false:=(by simp [DM]);have hxy:decide (xs=ys)=false:=(by simpa using zy hlt ir (by rw [EE,FF];exact DM));clear DM;go_wp2;go_quiet (fail);go_wp2;go_ret;exact⟨bz hxy.symm,iZ⟩
   ·have hxy:decide (xs=ys)=true:=by
     have h1:=HE.out;rw [iM ai,iM ai]at h1;simpa using h1
    have HL:=ag hl;clear hl;go_wp2;go_ret;exact⟨bz hxy.symm,iZ⟩
 ·have hl':((xs.length:Int) != (ys.length:Int))=true:=by simp;omega
  have hxy:decide (xs=ys)=false:=by simp;intro h;subst h;exact hl rfl
  clear hl;go_enter Tryz.func26,Tryz.ntmps26;go_wp2_with fail;go_ret;exact⟨bz hxy.symm,iZ⟩
end
theorem K5 {w wr:World} {b off k:Nat} {xs:List Raw} (hb:aq w wr) (hbb:b<w)
  (h:∀i x,xs[i]?=some x->∀j u,(bS x)[j]?=some u->w.cell? (b,off+i*5+j)=some u) {r:Raw} (hk:xs[k]?=some r) :
  wr.cell? (b,off+k*5)=some (.bool r.leaf)/\wr.cell? (b,off+k*5+1)=some r.ev/\wr.cell? (b,off+k*5+2)=some r.kv/\wr.cell? (b,off+k*5+3)=some r.dv/\wr.cell? (b,off+k*5+4)=some r.bv:=by
 have g:∀j u,(bS r)[j]?=some u->wr.cell? (b,off+k*5+j)=some u:=fun j u hu=>
  (hb.cell (p:=⟨b,_,none⟩) hbb).trans (h k r hk j u hu)
 exact⟨by simpa using g 0 _ rfl,g 1 _ rfl,g 2 _ rfl,g 3 _ rfl,g 4 _ rfl⟩
section
variable {i:Int} {xs:List Nd} {ab aR n cap j:Nat} {x:Nd} {t:Tr} {nv:Value} {w:World}
theorem dU (h:i=j) (hj:j<n) (w:World):(Instr.indexAt 25 (ah (some (ab,aR)) n cap) (af i)).run Tryz.prog w = .ok (.pointer (some (ab,aR+j*5))) w:=by
 subst h;go_simp
theorem jL (h:i=j) (hj:j<n) (w:World):(Instr.indexAt 52 (ah (some (ab,aR)) n cap) (af i)).run Tryz.prog w = .ok (.pointer (some (ab,aR+j))) w:=by
 subst h;go_simp
theorem cN (h:i=j) (hj:j<n) (w:World):(Instr.indexAt 35 (ah (some (ab,aR)) n cap) (af i)).run Tryz.prog w = .ok (.pointer (some (ab,aR+j*7))) w:=by
 subst h;go_simp
theorem bn.get (h:bn w nv xs) {i:Nat} (hi:xs[i]?=some x) :
  ∃nb fV cap r,nv=ah (some ⟨nb,fV,none⟩) xs cap/\nb<w.heap.size/\nS w r x /\
   w.cell? (nb,fV+i*5)=some (.bool r.leaf)/\w.cell? (nb,fV+i*5+1)=some r.ev/\w.cell? (nb,fV+i*5+2)=some r.kv/\w.cell? (nb,fV+i*5+3)=some r.dv/\w.cell? (nb,fV+i*5+4)=some r.bv:=by
 obtain⟨rs,⟨ao,cap,rfl,h1,h2,h3,h4,h5⟩,hl,hn⟩:=h;have jA:=(dW.1 hi).1;obtain⟨nb,fV,rfl,hb,hc⟩:=h5 ai;have hr:rs[i]?=some (rs[i]'(by omega)):=bh;have g:=hc i _ hr;exact⟨nb,fV,cap,rs[i]'(by omega),by rw [hl],hb,hn i _ x hr hi,by simpa using g 0 _ rfl,g 1 _ rfl,g 2 _ rfl,g 3 _ rfl,g 4 _ rfl⟩
theorem bn.len (h:bn w nv xs):(∃ao cap,nv=ah ao xs cap)/\xs.length<=9223372036854775806:=by
 obtain⟨rs,hs,hl,hn⟩:=h;obtain⟨ao,cap,rfl⟩:=hs.isSlice;refine⟨⟨ao,cap,by rw [hl]⟩,?_⟩;obtain⟨_,_,_,_,_,h,_⟩:=hs;omega
theorem gM.get {v:Value} {xs:List Int} (h:gM w v xs) {i:Nat} {x:Int} (hi:xs[i]?=some x) :
  ∃b off cap,v=ah (some ⟨b,off,none⟩) xs cap/\b<w.heap.size/\(w,b,off+i,x):=by
 obtain⟨ao,cap,rfl,h1,h2,h3,h4,h5⟩:=h;have jA:=(dW.1 hi).1;obtain⟨nb,fV,rfl,hb,hc⟩:=h5 ai;exact⟨nb,fV,cap,rfl,hb,by simpa using hc i x hi 0 _ rfl⟩
theorem ct.len {α:Type} {k sz:Nat} {en:α->List Value} {v:Value} {xs:List α} (h:ct k sz en w v xs) (hsz:0<sz):xs.length<=140737488351232:=by
 obtain⟨ao,cap,rfl,h1,h2,h3,h4,h5⟩:=h;have:xs*1<=xs*sz:=Nat.mul_le_mul_left _ hsz;omega
theorem pJ {n:Int} (h:t.dm n=some x):0<=n/\n.toNat<t.nodes/\t.nodes[n.toNat]?=some x:=by
 unfold Tr.dm at h
 split at h
 ·exact⟨‹_›,(dW.1 h).1,h⟩
 ·cases h
theorem JR {n:Int} (h:t.dm n=none):n<0\/(t.nodes.length:Int)<=n:=by
 unfold Tr.dm at h
 split at h
 ·have:=List.getElem?_eq_none_iff.1 h;omega
 ·omega
end
section
variable {e:Ending} {B:Nat} {w w':World}
def Dx (B:Nat) (w:World) (r:Option (List aH)) (e:Ending) (w':World):Prop:=
 Below B w w'/\(match r with|none=>e = .returned (.tuple #[az 0 0,af 1])|some l=>∃v',e = .returned (.tuple #[v',af 0])/\ay B w' v' l)
theorem Kz (hb:Below B w w') (he:e = .returned (.tuple #[az 0 0,af 1])):Dx B w none e w':=⟨hb,he⟩
theorem BJ {l:List aH} {v':Value} (hb:Below B w w') (he:e = .returned (.tuple #[v',af 0])) (ho:ay B w' v' l):Dx B w (some l) e w':=⟨hb,v',he,ho⟩
theorem vg {W w5:World} {T:TypeId} (BE:Below (W.alloc (.cells #[af 0,af 0,af 0,af 0,af 0,af 0] T)).drew.heap.size (W.alloc (.cells #[af 0,af 0,af 0,af 0,af 0,af 0] T)).drew w5) :
  w5.heap[W.heap.size]?=some (.cells #[af 0,af 0,af 0,af 0,af 0,af 0] T)/\(w5,W.heap.size,0)/\(w5,W.heap.size,1)/\(w5,W.heap.size,2)/\(w5,W.heap.size,3)/\(w5,W.heap.size,4)/\(w5,W.heap.size,5)/\∀o,w5.frozen? ⟨W.heap.size,o,none⟩=false:=by
 have h:w5.heap[W.heap.size]?=some (.cells #[af 0,af 0,af 0,af 0,af 0,af 0] T):=(BE.block _ bh).trans (au _ _ rfl);simp [h,World.cell?,World.frozen?]
theorem nT {v:Value} {xs:List aH} {x:aH} (ha:cX w v xs) (hc:∀e∈xs,av e.is=0) (hx:av x.is=0) (hlen:xs.length<=100000) :
  Calls Tryz.prog 49 #[v, .agg #[af x.key,af x.is.c,af x.is.s,af x.is.mi,af x.is.ma,af x.is.t,af x.is.l]] w (Dx w w (gJ xs x)):=by
 obtain⟨ao,ca,rfl,a1,a2,a3,a4,a5⟩:=ha;obtain⟨W0,hW0⟩:=cd (w.alloc (.cells #[af x.key,af x.is.c,af x.is.s,af x.is.mi,af x.is.ma,af x.is.t,af x.is.l] 107));have hb0:aq w W0:=by rw [hW0];exact(aW _ _).alloc aO _
 have hz0:W0=w.heap.size+1:=by rw [hW0];simp
 have k0:W0.heap[w.heap.size]?=some (.cells #[af x.key,af x.is.c,af x.is.s,af x.is.mi,af x.is.ma,af x.is.t,af x.is.l] 107):=by
  rw [hW0];exact au _ _ rfl
 have HX:=ag fun w' (hb:Below (w+1) W0 w')=>(by
  have b0:w'.heap[w.heap.size]?=_:=(hb.block _ ai).trans k0;simp [World.cell?,b0] :
  (w',w.heap.size,0,x.key)/\(w',w.heap.size,1,x.is.c)/\(w',w.heap.size,2,x.is.s)/\(w',w.heap.size,3,x.is.mi)/\(w',w.heap.size,4,x.is.ma)/\(w',w.heap.size,5,x.is.t)/\(w',w.heap.size,6,x.is.l))
 have HB:=ag fun w' (hb:Below (w+1) W0 w')=>(aF hb0 (hb.mono ai) ai:aq w w');have hbW:=ag (aW (w+1) W0);go_enter Tryz.func49,Tryz.ntmps49;go_wp2_with fail;rw [<-hW0];clear hW0 k0
 go_loopg [6,7,8] xs (fun g out dn i wr=>∃(k:Nat) (b:Bool) (es:List aH),k<=xs/\g=xs-k/\i=af k/\dn = .bool b/\ay (w+1) wr out es/\Hid (kF xs x k b es)/\Below (w+1) W0 wr)
 case atStart=>exact⟨0,false,[],eY _,rfl,rfl,rfl,ay.nil _ _,ag (DX xs x),hbW⟩
 case round=>
  obtain⟨k,b,es,hk,rfl,rfl,rfl,hown,rJ,Pp⟩:=hrel;obtain⟨so,sc,rfl⟩:=hown.isSlice;have cT:=HB _ Pp;have hsz:w+1<=wr.heap.size:=by have:=Pp.size;omega
  have hes:es.length<=1000000:=by have:=rJ.out.1;omega
  by_cases hlt:k<xs
  ·obtain⟨ab,aR,rfl,qy,ac⟩:=a5 ai;obtain⟨e,he⟩:=bG (xs[k]);have HE:=ag he;have HCE:=ag (show av e.is=0 by rw [<-he];exact hc _ (eZ hlt));have HK:=ag fun w' (hb:Below (w+1) W0 w')=>(by have:=br (HB _ hb) qy ac hlt;rw [he]at this;exact this :
    (w',ab,aR+k*7,e.key)/\(w',ab,aR+k*7+1,e.is.c)/\(w',ab,aR+k*7+2,e.is.s)/\(w',ab,aR+k*7+3,e.is.mi)/\(w',ab,aR+k*7+4,e.is.ma)/\(w',ab,aR+k*7+5,e.is.t)/\(w',ab,aR+k*7+6,e.is.l))
   obtain⟨c0,c1,c2,c3,c4,c5,c6⟩:=HK _ Pp;obtain⟨x0,x1,x2,x3,x4,x5,x6⟩:=HX _ Pp;clear he ac a5 hc
   cases b with
   |true=>
    go_wp2_with fail;go_quiet (fail);go_wp2_with ((at_builtin;refine cg rfl (.tmp 62) (.tmp 67) rfl (w+1) _ es rfl jY ⟨_,0,none⟩ e rfl (fun j u h=>ik h) hes dI ?_;intro v3 w3 qd hg3;have hb3:=hg3 (w+1) W0 aj aO));go_roundg (xs-(k+1))
    case measure=>omega
    case rel=>exact⟨k+1,true,es++[e],ai,rfl,by go_num,rfl,qd,ag (by rw [<-HE];exact Fy hlt rJ.out),hb3⟩
   |false=>
    by_cases h1:e.key<x.key
    ·have d1:decide (x.key<=e.key)=false:=(by simpa using h1);go_wp2_with fail;go_quiet (fail);go_wp2_with ((at_builtin;refine cg rfl (.tmp 62) (.tmp 67) rfl (w+1) _ es rfl jY ⟨_,0,none⟩ e rfl (fun j u h=>ik h) hes dI ?_;intro v3 w3 qd hg3;have hb3:=hg3 (w+1) W0 aj aO));go_roundg (xs-(k+1))
     case measure=>omega
     case rel=>exact⟨k+1,false,es++[e],ai,rfl,by go_num,rfl,qd,ag (by rw [<-HE];exact Fx hlt rJ.out (by rw [HE];exact h1)),hb3⟩
    ·have d1:decide (x.key<=e.key)=true:=(by simpa using h1);by_cases h2:e.key=x.key
     ·have J9:=ag (Fv hlt rJ.out (by rw [HE];exact h2));have d2:(e.key == x.key)=true:=(by simp [h2]);rw [HE]at J9;obtain⟨J,E,CW⟩:∃J E,bF e.is x.is=(J,E):=⟨_,_,rfl⟩;have HM:=ag fun w'=>(by have:=xU e.is x.is w';rw [CW]at this;exact this :
       Calls Tryz.prog 52 #[.agg #[af e.is.c,af e.is.s,af e.is.mi,af e.is.ma,af e.is.t,af e.is.l], .agg #[af x.is.c,af x.is.s,af x.is.mi,af x.is.ma,af x.is.t,af x.is.l]] w' fun e' w5=>e' = .returned (.tuple #[.agg #[af J.c,af J.s,af J.mi,af J.ma,af J.t,af J.l],af E])/\aq w' w5)
      have ze:=ag CW;clear CW;go_wp2_with fail;go_quiet (fail);go_upto_region 8 with (fail);go_cut [36] (fun c wx=>c = .bool true/\ay (w+1) wx (ah so es sc) es/\Below (w+1) W0 wx)
      case first=>
       go_quiet (fail);go_wp2;go_meet;exact⟨rfl,jY,aj⟩
      case rest=>
       obtain⟨rfl,WC,jf⟩:=hcut;clear c0 c1 c2 c3 c4 c5 c6 x0 x1 x2 x3 x4 x5 x6;obtain⟨W8,mq⟩:=cd (wc);subst mq;have XZ:w+1<=W8.heap.size:=(by have:=jf.size;omega);have BG:=ag fun w' (hb:aq W8 w')=>(aF jf hb XZ:Below (w+1) W0 w');have HO8:=ag fun w' (hb:aq W8 w')=>WC.below hb aO;have HS:=ag fun w' (hb:aq W8 w')=>(by
        obtain⟨-,y1,y2,y3,y4,y5,y6⟩:=HK w' (BG _ hb);exact⟨y1,y2,y3,y4,y5,y6,(HX w' (BG _ hb)).2⟩ :
        (w',ab,aR+k*7+1,e.is.c)/\(w',ab,aR+k*7+2,e.is.s)/\(w',ab,aR+k*7+3,e.is.mi)/\(w',ab,aR+k*7+4,e.is.ma)/\(w',ab,aR+k*7+5,e.is.t)/\(w',ab,aR+k*7+6,e.is.l)/\(w',w.heap.size,1,x.is.c)/\(w',w.heap.size,2,x.is.s)/\(w',w.heap.size,3,x.is.mi)/\(w',w.heap.size,4,x.is.ma)/\(w',w.heap.size,5,x.is.t)/\(w',w.heap.size,6,x.is.l))
       have b0:aq W8 W8.drew:=(aW _ _).drew;have hs0:=HS _ b0;clear WC jf hown Pp cT;go_upto_region 9 with (fail);go_cut [9,10] (fun p c wx=>∃g:Nat,p = .pointer (some (g,0))/\c=af E/\wx.heap[g]?=some (.cells #[af J.c,af J.s,af J.mi,af J.ma,af J.t,af J.l] 39)/\ay (w+1) wx (ah so es sc) es/\Below (w+1) W0 wx)
       case first=>
        go_region_held3 (fun w'=>(w',ab,aR+k*7+1,e.is.c)/\(w',ab,aR+k*7+2,e.is.s)/\(w',ab,aR+k*7+3,e.is.mi)/\(w',ab,aR+k*7+4,e.is.ma)/\(w',ab,aR+k*7+5,e.is.t)/\(w',ab,aR+k*7+6,e.is.l)/\(w',w.heap.size,1,x.is.c)/\(w',w.heap.size,2,x.is.s)/\(w',w.heap.size,3,x.is.mi)/\(w',w.heap.size,4,x.is.ma)/\(w',w.heap.size,5,x.is.t)/\(w',w.heap.size,6,x.is.l))
         (first|with_reducible exact hs0|(with_reducible refine HS.out _ ?_;exact aj))
         (first
          |(go_at_call 52;(with_reducible refine(HM.out _).mono ?_);rintro e' w5 ⟨rfl,BE⟩;guard_hyp BE:Below W8.drew.heap.size W8.drew w5;have cy:aq W8 w5:=aF (show aq W8 _ from aj) BE dI;have LH:=cy.size)
          |(go_at_call 52;(with_reducible refine(HM.out _).mono ?_);rintro e' w5 ⟨rfl,BE⟩;obtain⟨q5,z0,z1,z2,z3,z4,z5,zf⟩:=vg BE;have cy:aq W8 w5:=aF (show aq W8 _ from aj) BE dI;have LH:=cy.size))
        all_goals
         go_wp2_with fail;go_meet;refine⟨_,rfl,rfl,?_,?_,?_⟩
         ·first
          |with_reducible exact au _ _ rfl
          |with_reducible exact jB q5
         ·exact HO8 _ aj
         ·exact BG _ aj
       case rest=>
        obtain⟨g,rfl,rfl,hg,I2,kS⟩:=hcut;have O4:w+1<=wc.heap.size:=(by have:=kS.size;omega);obtain⟨j0,j1,j2,j3,j4,j5⟩:(wc,g,0,J.c)/\(wc,g,1,J.s)/\(wc,g,2,J.mi)/\(wc,g,3,J.ma)/\(wc,g,4,J.t)/\(wc,g,5,J.l):=(by simp [World.cell?,hg]);obtain⟨x0,-⟩:=HX _ kS;by_cases hcc:e.is.c+x.is.c<=1073741824
        ·have hj:(J,E)=_:=ze.symm.trans (qh HCE hx hcc).1;obtain⟨rfl,rfl⟩:=Prod.mk.inj hj;have DA:=ag (J9.1 hcc);generalize e.is.join x.is=J at *;clear hj hcc J9 ze;go_wp2_with ((at_builtin;refine cg rfl (.tmp 51) (.tmp 56) rfl (w+1) _ es rfl jY ⟨_,0,none⟩ ⟨x.key,J⟩ rfl (fun j u h=>ik h) hes dI ?_;intro v3 w3 qd hg3;have hb3:=hg3 (w+1) W0 aj aO));go_roundg (xs-(k+1))
         case measure=>omega
         case rel=>exact⟨k+1,true,es++[⟨x.key,J⟩],ai,rfl,by go_num,rfl,qd,DA,hb3⟩
        ·have hj:(J,E)=_:=ze.symm.trans ((iL HCE hx).trans (ar hcc));obtain⟨rfl,rfl⟩:=Prod.mk.inj hj;have HR:=ag (J9.2 ai);clear hj hcc J9 ze;go_wp2
         go_ret2
         rw [HR];exact Kz (HB _ kS) rfl
     ·have d2:(e.key == x.key)=false:=(by simp [h2]);have DA:=ag (by have:=Fw hlt rJ.out (by rw [HE];omega);rwa [HE]at this:kF xs x (k+1) true (es++[x]++[e]));have agT:(es++[x]).length<=1000000:=(by have:=rJ.out.1;simp;omega);go_wp2_with fail;go_quiet (fail);go_wp2_with fail;go_quiet (fail);go_wp2_with (first
       |(at_builtin;refine cg rfl (.tmp 58) (.tmp 60) rfl (w+1) _ es rfl jY ⟨_,0,none⟩ x rfl (fun j u h=>ik h) hes dI ?_;intro v3 w3 qd hg3;have hb3:=hg3 (w+1) W0 aj aO;obtain⟨y0,y1,y2,y3,y4,y5,y6⟩:=HK _ hb3;have alA:w+1<=w3.heap.size:=(by have:=hb3.size;omega))
       |(at_builtin;refine cg rfl (.tmp 62) (.tmp 67) rfl (w+1) _ (es++[x]) rfl jY ⟨_,0,none⟩ e rfl (fun j u h=>ik h) agT dI ?_;intro v4 w4 Cl hg3;have hb4:=hg3 (w+1) W0 aj aO))
      go_roundg (xs-(k+1))
      case measure=>omega
      case rel=>exact⟨k+1,true,es++[x]++[e],ai,rfl,by go_num,rfl,Cl,DA,hb4⟩
  ·have hkn:xs<=k:=ai;clear a5 hc
   cases b with
   |true=>
    have HR:=ag ((Af hkn).1 rJ.out);go_wp2
    go_ret2
    rw [HR];exact BJ cT rfl (hown.mono ai)
   |false=>
    have HR:=ag ((Af hkn).2 rJ.out);obtain⟨x0,x1,x2,x3,x4,x5,x6⟩:=HX _ Pp;go_wp2_with ((at_builtin;refine cg rfl (.tmp 71) (.tmp 73) rfl (w+1) _ es rfl jY ⟨_,0,none⟩ x rfl (fun j u h=>ik h) hes dI ?_;intro v3 w3 qd hg3;have hb3:=hg3 (w+1) W0 aj aO))
    go_ret2
    rw [HR];exact BJ (HB _ hb3) rfl (qd.mono ai)
end
section
variable {l:List aH}
def nX (B:Nat) (w:World) (r:Option (List aH)) (e:Ending) (w':World):Prop:=
 Below B w w'/\(match r with|none=>e = .returned (.tuple #[az 0 0, .bool false])|some l=>∃v',e = .returned (.tuple #[v', .bool true])/\ay B w' v' l)
theorem Hp {size:Int} {k:Nat} {es:List aH} (hk:k<l) (h:ft ((l.take k).map (bucket size))=some es):ft ((l.take (k+1)).map (bucket size))=gJ es (bucket size l[k]):=by
 rw [ja hk,sH,List.map_cons,List.map_nil,sF,h];rfl
theorem Ho {size:Int} {k:Nat} (h:ft ((l.take k).map (bucket size))=none):bw l size=none:=by
 unfold bw
 conv=>lhs;rw [<-rG k l,sH]
 exact vW h
theorem pY {v:Value} {size:Int} {w:World} (h:cX w v l) (hg:dX l) (hs:0<size) (hs2:size<=3600) :
  Calls Tryz.prog 43 #[v,af size] w (nX w w (bw l size)):=by
 obtain⟨ao,cap,rfl⟩:=h.isSlice;have HE:=ag h;have HG:=ag hg;have hlen:l.length<=50000:=hg.2.2;clear h hg;go_enter Tryz.func43,Tryz.ntmps43;go_wp2_with fail
 go_loopg [6,7] l (fun g out i wr=>∃(k:Nat) (es:List aH),k<=l/\g=l-k/\i=af k/\ay w wr out es/\Hid (ft ((l.take k).map (bucket size))=some es)/\aq w wr)
 case atStart=>exact⟨0,[],eY _,rfl,rfl,ay.nil _ _,ag rfl,aW _ _⟩
 case round=>
  obtain⟨k,es,hk,rfl,rfl,hown,HR,hb⟩:=hrel;obtain⟨so,sc,rfl⟩:=hown.isSlice;have hsz:=hb.size;by_cases hlt:k<l
  ·obtain⟨_,_,hv,-,-,-,-,h5⟩:=HE.out;injection hv with hv1 _ hv3;subst hv1 hv3;obtain⟨eb,cM,ll,pq,jF⟩:=h5 ai;subst ll;obtain⟨y0,y1,y2,y3,y4,y5,y6⟩:=br hb pq jF hlt;obtain⟨y,hy⟩:=bG (l[k]);rw [hy]at y0 y1 y2 y3 y4 y5 y6;have wG:y∈l:=by rw [<-hy];exact eZ hlt
   have kI:=ag (Hp (size:=size) hlt HR.out);rw [hy]at kI;obtain⟨iy,hk1⟩:=HG.2.1 y wG;have hbr:=pG hs (HG.2.1 y wG);obtain⟨M,hM⟩:=bG (y.key%1048576);obtain⟨R,hR⟩:=bG (M%size);have Jd:0<=M/\M<1048576:=ai;have hR0:0<=R/\R<size:=by rw [<-hR];exact⟨Int.emod_nonneg _ ai,Int.emod_lt_of_pos _ hs⟩
   have m1:y.key.tmod 1048576=M:=by rw [tJ iy];exact hM
   have m2:M.tmod size=R:=by rw [tJ Jd.1];exact hR
   have m3:IntKind.i64.wrap M=M:=bI _ ai;have m4:IntKind.i64.wrap R=R:=bI _ ai;have hbk:bucket size y=⟨y.key-R,y.is⟩:=by simp [bucket,hM,hR]
   rw [hbk]at kI hbr;have m5:IntKind.i64.wrap (y.key-R)=y.key-R:=bI _ (by have:=hbr.1;have:=hbr.2;simp only at *;omega);obtain⟨P,hP⟩:=bG (y.key-R);rw [hP]at m5 kI;have DU:=ag (eF hs HG);obtain⟨g1,g2,g3,g4⟩:=qc (P:=(l.take k).map (bucket size)) (by have:=DU.out;rw [<-rG k l,sH]at this;exact this.left) HR.out;have jA:=fun w'=>cN (ab:=eb) (aR:=cM) (n:=l.length) (cap:=cap) (show (k:Int)=((k:Nat):Int) by rfl) hlt w';have HW:=ag fun w' (hb':aq wr w')=>nT (v:=ah so es sc) (xs:=es) (x:=⟨P,y.is⟩) (w:=w') ((hown.below hb' aO).at ai) g2 (HG.1 y wG).2 ai;have hwz:eb<wr:=ai;have hs0:(size == 0)=false:=by simp;omega
   clear jF h5 hy wG hbr hM hR Jd hR0 hbk g1 g2 g3 g4;go_upto_region 6 with (fail);go_cut [9] (fun p wx=>p = .pointer (some (wr,0))/\wx.heap[wr.heap.size]?=some (.cells #[af P,af y.is.c,af y.is.s,af y.is.mi,af y.is.ma,af y.is.t,af y.is.l] 107)/\aq wr wx)
   case first=>
    go_region
    all_goals
     go_wp2;go_meet;refine⟨rfl,?_,aj⟩
     with_reducible refine C9 ?_
     with_reducible exact au _ _ rfl
   case rest=>
    obtain⟨rfl,k8,hbc⟩:=hcut;obtain⟨s0,s1,s2,s3,s4,s5,s6⟩:(wc,wr.heap.size,0,P)/\(wc,wr.heap.size,1,y.is.c)/\(wc,wr.heap.size,2,y.is.s)/\(wc,wr.heap.size,3,y.is.mi)/\(wc,wr.heap.size,4,y.is.ma)/\(wc,wr.heap.size,5,y.is.t)/\(wc,wr.heap.size,6,y.is.l):=(by simp [World.cell?,k8]);have Gw:=ag (HW wc hbc);have hb2:=aF hb hbc hsz;have hz2:=hbc.size;clear y0 y1 y2 y3 y4 y5 y6 k8 jA
    cases hI:gJ es ⟨P,y.is⟩ with
    |none=>
     have HN:=ag (show bw l size=none from Ho (k:=k+1) (by rw [kI];exact hI));rw [hI]at Gw;clear hI;go_wp2_with ((go_at_call 49;(with_reducible refine Gw.out.mono ?_);rintro e w6 ⟨ji,rfl⟩;have cT:=aF hb2 ji ai))
     go_ret2
     rw [HN];exact⟨cT,rfl⟩
    |some es'=>
     have HN:=ag (show ft ((l.take (k+1)).map (bucket size))=some es' by rw [kI];exact hI);rw [hI]at Gw;clear hI;go_wp2_with ((go_at_call 49;(with_reducible refine Gw.out.mono ?_);rintro e w6 ⟨ji,v6,rfl,sM⟩;have cT:=aF hb2 ji ai;obtain⟨s6,c6,rfl⟩:=sM.isSlice));go_roundg (l-(k+1))
     case measure=>omega
     case rel=>exact⟨k+1,es',ai,rfl,by go_num,sM.mono ai,HN,cT⟩
  ·have HN:=ag (show bw l size=some es by
    have:=HR.out;rw [iM ai]at this;exact this)
   go_wp2
   go_ret2
   rw [HN];exact⟨hb,_,rfl,hown⟩
end
theorem qX {r:ax} {W w:World} (hb:aq W w):Calls Tryz.prog 93 #[.agg #[af r.c,af r.s,af r.mi,af r.ma,af r.t,af r.l]] w fun e w'=>e = .returned (af (av r))/\aq W w':=
 (pS r w).mono fun e w' ⟨h1,h2⟩=>⟨h1,by rw [<-h2];exact hb.alloc hb.size _⟩
theorem Rl {ab aR n cap j:Nat} {i:Int} (h:i=j) (hj:j<n) (w:World):(Instr.indexAt 35 (ah (some (ab,aR)) n cap) (af i)).run Tryz.prog w = .ok (.pointer (some (ab,aR+j*7))) w:=by
 subst h;go_simp
theorem Nn {v:Value} {xs:List aH} {lo hi:Int} {w:World} (ha:cX w v xs) (hhi : -9223372036854775808<hi) (ame:hi<=9223372036854775807) :
  Calls Tryz.prog 122 #[v,af lo,af hi] w fun e w'=>e = .returned (.bool (nA xs lo hi))/\aq w w':=by
 obtain⟨ao,ca,rfl,a1,a2,a3,a4,a5⟩:=ha
 ·have hwr:IntKind.i64.wrap (hi-1)=hi-1:=bI _ ai;go_enter Tryz.func122,Tryz.ntmps122;go_wp2_with fail
  go_loopg [7] xs (fun g i wr=>∃k:Nat,k<=xs/\g=xs-k/\i=af k/\Hid (dK (xs.take k) lo hi)/\aq w wr)
  case atStart=>exact⟨0,eY _,rfl,rfl,ag (by simpa using lJ lo hi),aW _ _⟩
  case round=>
   obtain⟨k,hk,rfl,rfl,HE,cT⟩:=hrel;have hbz:=cT.size;by_cases hlt:k<xs
   ·obtain⟨ab,aR,rfl,qy,ac⟩:=a5 ai;obtain⟨c0,c1,c2,c3,c4,c5,c6⟩:=br cT qy ac hlt;obtain⟨p,hp⟩:∃p:Int,∀iy:0<k,(wr,ab,aR+(k-1)*7,p)/\xs[k-1].key=p:=by
     by_cases iy:0<k
     ·obtain⟨q0,-⟩:=br cT qy ac (show k-1<xs by omega);exact⟨_,fun _=>⟨q0,rfl⟩⟩
     ·exact⟨0,fun h=>absurd h iy⟩
    obtain⟨e,he⟩:=bG (xs[k]);rw [he]at c0 c1 c2 c3 c4 c5 c6;have EE:=ag he;clear ac a5;by_cases hok:lo<=e.key/\e.key<hi/\e.is.c≠0/\av e.is=0
    ·obtain⟨o1,o2,o4,o5⟩:=hok;have d1:mn e.key lo (hi-1)=true:=gX.2 ⟨o1,ai⟩;have d5:(e.is.c == 0)=false:=(by simpa using o4);have d6:(av e.is != 0)=false:=(by simp [o5]);have HS:=ag fun(h3:∀iy:0<k,p<e.key)=>AB hlt HE.out (by rw [he];exact o1) (by rw [he];exact o2) (fun h0=>by rw [he,(hp h0).2];exact h3 h0) (by rw [he];exact o4) (by rw [he];exact o5);have HF:=ag fun(h3:∃iy:0<k,e.key<=p)=>qY.2 fun(h:dK xs lo hi)=>by
      obtain⟨h0,h3⟩:=h3;have:=(vT h hlt).2.2.2.2 h0;rw [he,(hp h0).2]at this;omega
     have HP:=ag hp;clear he hp o4 o5;by_cases g3:0<k
     ·have d3:decide ((0:Int)<k)=true:=(by simpa using g3);obtain⟨q0,-⟩:=HP g3;have Wk:∀w1,aq w w1->(w1,ab,aR+(k-1)*7,p)/\(w1,ab,aR+k*7,e.key):=fun w1 hb=>
       ⟨((hb.cell (p:=⟨ab,_,none⟩) qy).trans (cT.cell (p:=⟨ab,_,none⟩) qy).symm).trans q0,((hb.cell (p:=⟨ab,_,none⟩) qy).trans (cT.cell (p:=⟨ab,_,none⟩) qy).symm).trans c0⟩
      have KP:=ag Wk;have jA:=fun w=>Rl (ab:=ab) (aR:=aR) (n:=xs.length) (cap:=ca) (show (k:Int)-1=((k-1:Nat):Int) by omega) ai w;have hw1:IntKind.i64.wrap ((k:Int)-1)=(k:Int)-1:=bI _ ai;clear Wk;by_cases g4:e.key<=p
      ·have d4:decide (e.key<=p)=true:=(by simpa using g4);have hxy:=HF ⟨g3,g4⟩;go_wp2_with (first
       |(go_at_call 51;refine(dH _ _ _ _).mono ?_;rintro e w' ⟨rfl,rfl⟩)
       |(go_at_call 93;refine(qX (W:=w) (r:=e.is) ?_).mono ?_;(exact eV);rintro e' w1 ⟨rfl,BE⟩;obtain⟨q1,q2⟩:=KP _ BE))
       go_quiet (fail);go_wp2;go_ret;exact⟨bz hxy.symm,eV⟩
      ·have d4:decide (e.key<=p)=false:=(by simpa using g4);have HE':=ag (HS fun _=>ai);go_wp2_with (first
       |(go_at_call 51;refine(dH _ _ _ _).mono ?_;rintro e w' ⟨rfl,rfl⟩)
       |(go_at_call 93;refine(qX (W:=w) (r:=e.is) ?_).mono ?_;(exact eV);rintro e' w1 ⟨rfl,BE⟩;obtain⟨q1,q2⟩:=KP _ BE))
       go_quiet (fail);clear jA hw1;go_wp2;go_roundg (xs-(k+1))
       case measure=>omega
       case rel=>exact⟨k+1,ai,rfl,by go_num,HE',eV⟩
     ·obtain rfl:k=0:=ai;have HE':=ag (HS fun h=>absurd h g3);simp only [Nat.zero_mul,Nat.add_zero]at c0 c1 c2 c3 c4 c5 c6;clear g3;go_wp2_with (first
       |(go_at_call 51;refine(dH _ _ _ _).mono ?_;rintro e w' ⟨rfl,rfl⟩)
       |(go_at_call 93;refine(qX (W:=w) (r:=e.is) ?_).mono ?_;(exact eV);rintro e' w1 ⟨rfl,BE⟩))
      go_quiet (fail);go_wp2;go_roundg (xs-(0+1))
      case measure=>omega
      case rel=>exact⟨0+1,ai,rfl,by go_num,HE',eV⟩
    ·have hxy:nA xs lo hi=false:=qY.2 fun h=>hok (by
      have:=vT h hlt;rw [he]at this;exact⟨this.1,this.2.1,this.2.2.1,this.2.2.2.1⟩)
     have mB:=ag hok;clear he hp hok;by_cases g1:lo<=e.key/\e.key<hi
     ·have d1:mn e.key lo (hi-1)=true:=gX.2 ⟨g1.1,ai⟩;obtain⟨o1,o2⟩:=g1;by_cases g2:e.is.c=0
      ·have d5:(e.is.c == 0)=true:=(by simpa using g2);clear g2;go_wp2_with (go_at_call 51;refine(dH _ _ _ _).mono ?_;rintro e w' ⟨rfl,rfl⟩);go_ret;exact⟨bz hxy.symm,eV⟩
      ·have d5:(e.is.c == 0)=false:=(by simpa using g2);have d6:(av e.is != 0)=true:=by
        by_cases h:av e.is=0
        ·exact absurd ⟨o1,o2,g2,h⟩ mB
        ·simpa using h
       clear g2;go_wp2_with (first
        |(go_at_call 51;refine(dH _ _ _ _).mono ?_;rintro e w' ⟨rfl,rfl⟩)
        |(go_at_call 93;refine(qX (W:=w) (r:=e.is) ?_).mono ?_;(exact eV);rintro e' w1 ⟨rfl,BE⟩))
       go_ret;exact⟨bz hxy.symm,BE⟩
     ·have d1:mn e.key lo (hi-1)=false:=nK.2 ai;clear g1;go_wp2_with (go_at_call 51;refine(dH _ _ _ _).mono ?_;rintro e w' ⟨rfl,rfl⟩);go_ret;exact⟨bz hxy.symm,eV⟩
   ·have hxy:nA xs lo hi=true:=nL.2 (AE ai HE.out);go_wp2;go_ret;exact⟨bz hxy.symm,eV⟩
section
variable {e:Ending} {n lo hi d:Int} {S:List Int} {sb N f cap:Nat} {x:Nd} {t:Tr} {nv:Value} {w w' w0:World}
def jc (w:World) (sb N:Nat) (S:List Int):Prop:=sb<w/\∀i:Nat,i<N->w.cell? (sb,i)=some (af (if (i:Int)∈S then 1 else 0))/\w.frozen? ⟨sb,i,none⟩=false
theorem jc.turn (h:jc w sb N S) {X:Nat->Prop} (ht:aA X w w') (hx:¬X sb):jc w' sb N S:=
 ⟨oI h.1 ht.size,fun i hi=>⟨(ht.cell h.1 hx i).trans (h.2 i hi).1,(ht.frozen h.1 hx i).trans (h.2 i hi).2⟩⟩
theorem jc.set (h:jc w sb N S) {j:Nat} (hj:n=j) (hn:j<N):jc (w.setCell (sb,j) (af 1)) sb N (n::S):=by
 refine⟨by rw [aG];exact h.1,fun i hi=>?_⟩;by_cases hij:i=j
 ·subst hij;refine⟨?_,?_⟩
  ·rw [World.cell?_setCell_same' _ _ _ (by rw [(h.2 i hi).1];rfl),aw (by simp [hj])]
  ·rw [<-(h.2 i hi).2];simp [World.frozen?,World.setCell,Array.getElem?_modify]
   cases w.heap[sb]? with
   |none=>rfl
   |some o=>cases o <;> rfl
 ·refine⟨?_,?_⟩
  ·rw [World.cell?_setCell_other _ _ _ _ bh,(h.2 i hi).1];have:((i:Int)∈n::S)↔(i:Int)∈S:=by simp [hj];omega
   simp only [this]
  ·rw [<-(h.2 i hi).2];simp [World.frozen?,World.setCell,Array.getElem?_modify]
   cases w.heap[sb]? with
   |none=>rfl
   |some o=>cases o <;> rfl
def ju (_w0:World) (sb N:Nat) (r:Option (Int×List Int)) (w:World) (e:Ending) (w':World):Prop:=
 aA (·=sb) w w'/\(match r with|none=>e = .returned (af 0)|some (h,S')=>e = .returned (af h)/\jc w' sb N S')
theorem gj (ht:aA (·=sb) w w') (he:e = .returned (af 0)):ju w0 sb N none w e w':=⟨ht,he⟩
theorem zq {h:Int} (ht:aA (·=sb) w w') (he:e = .returned (af h)) (hs:jc w' sb N S):ju w0 sb N (some (h,S)) w e w':=⟨ht,he,hs⟩
theorem CO (h0:bn w0 nv t.nodes) (hd:d=13-f) (hf:f<=12) (hbad:f=0\/t.dm n=none) :
  Calls Tryz.prog 113 #[.agg #[nv,af t.root],af n,af lo,af hi,af d,ah sb N cap] w (ju w0 sb N (cv t f n lo hi S) w):=by
 have hr:cv t f n lo hi S=none:=by
  cases f with
  |zero=>rfl
  |succ f=>exact F3 (by rcases hbad with h|h;cases h;exact h)
 rw [hr];obtain⟨⟨ao,c,rfl⟩,hlen⟩:=h0.len;have hw1:IntKind.i64.wrap ((t.nodes.length:Int)-1)=(t.nodes.length:Int)-1:=bI _ ai;have fin:∀w',ju w0 sb N none w (.returned (af 0)) (w.alloc w'):=fun o=>⟨(aA.refl _ w).alloc o,rfl⟩;by_cases hin:t.dm n=none
 ·have hn:=JR hin;have d1:mn n 0 ((t.nodes.length:Int)-1)=false:=nK.2 ai;have FIN:=ag fin;clear hr hbad hd hin hn fin h0;go_enter Tryz.func113,Tryz.ntmps113;go_wp2_with (go_at_call 51;refine(dH _ _ _ _).mono ?_;rintro e w' ⟨rfl,rfl⟩);go_ret;exact FIN _
 ·obtain rfl:f=0:=by rcases hbad with h|h;exact h;exact absurd h hin
  obtain⟨x,hx⟩:=Option.ne_none_iff_exists'.1 hin;have hn:=pJ hx;have d1:mn n 0 ((t.nodes.length:Int)-1)=true:=gX.2 ai;have d2:(12:Int)<d:=ai;have FIN:=ag fin;clear hr hbad hd hin hn fin h0 hx;go_enter Tryz.func113,Tryz.ntmps113;go_wp2_with (go_at_call 51;refine(dH _ _ _ _).mono ?_;rintro e w' ⟨rfl,rfl⟩);go_ret;exact FIN _
theorem lG {xs:List Nd} (h:bn w0 nv xs) (hb:aq w0 w) {i:Nat} (hi:xs[i]?=some x) :
  ∃nb fV cap ev kv dv bv,nv=ah (some ⟨nb,fV,none⟩) xs cap/\nb<w0.heap.size/\cX w0 ev x.aI/\gM w0 kv x.keys/\gM w0 dv x.kids/\cX w0 bv x.buf /\
   w.cell? (nb,fV+i*5)=some (.bool x.leaf)/\w.cell? (nb,fV+i*5+1)=some ev/\w.cell? (nb,fV+i*5+2)=some kv/\w.cell? (nb,fV+i*5+3)=some dv/\w.cell? (nb,fV+i*5+4)=some bv:=by
 obtain⟨nb,fV,cap,r,e,hnb,⟨h1,h2,h3,h4,h5⟩,c0,c1,c2,c3,c4⟩:=h.get hi;have g:∀o,w.cell? ⟨nb,o,none⟩=w0.cell? ⟨nb,o,none⟩:=fun o=>hb.cell (p:=⟨nb,o,none⟩) hnb;exact⟨nb,fV,cap,r.ev,r.kv,r.dv,r.bv,e,hnb,h2,h3,h4,h5,by rw [g,c0,h1],by rw [g,c1],by rw [g,c2],by rw [g,c3],by rw [g,c4]⟩
theorem I8 (h0:bn w0 nv t.nodes) (hb0:aq w0 w) (GN:w0<=sb) (hs:jc w sb t.nodes S) (hd1:1<=d) (hd:d<=12) (hx:t.dm n=some x) (hbad:n∈S\/¬lo<hi) :
  Calls Tryz.prog 113 #[.agg #[nv,af t.root],af n,af lo,af hi,af d,ah sb t.nodes cap] w (ju w0 sb t.nodes (cv t (f+1) n lo hi S) w):=by
 rw [FZ hx hbad];obtain⟨hn0,yu,tT⟩:=pJ hx;obtain⟨j,hj⟩:∃j:Nat,n=j:=⟨n.toNat,ai⟩;subst hj;rw [Int.toNat_natCast]at yu tT;obtain⟨nb,fV,c,ev,kv,dv,bv,rfl,hnb,hE,hK,hD,hB,c0,c1,c2,c3,c4⟩:=lG h0 hb0 tT;have hlen:=h0.len.2;obtain⟨ae,ne,rfl⟩:=hE.isSlice;obtain⟨ak,nk,rfl⟩:=hK.isSlice;obtain⟨ad,rV,rfl⟩:=hD.isSlice;obtain⟨ab,oN,rfl⟩:=hB.isSlice;obtain⟨s0,s1⟩:=hs.2 j yu;have hsl:=hs.1;have hbz:=hb0.size;have abA:sb≠nb:=ai;have yt:nb<w:=ai;have d1:mn (j:Int) 0 ((t.nodes.length:Int)-1)=true:=gX.2 ai;have hw1:IntKind.i64.wrap ((t.nodes.length:Int)-1)=(t.nodes.length:Int)-1:=bI _ ai;clear hs h0 hb0 hE hK hD hB hx hn0;by_cases hjs:(j:Int)∈S
 ·rw [aw hjs]at s0;clear hbad hjs;go_enter Tryz.func113,Tryz.ntmps113;go_wp2_with (go_at_call 51;refine(dH _ _ _ _).mono ?_;rintro e w' ⟨rfl,rfl⟩);go_ret;exact gj Gl rfl
 ·rw [ar hjs]at s0;have hge:hi<=lo:=by rcases hbad with h|h;exact absurd h hjs;omega
  clear hbad hjs;go_enter Tryz.func113,Tryz.ntmps113;go_wp2_with (go_at_call 51;refine(dH _ _ _ _).mono ?_;rintro e w' ⟨rfl,rfl⟩);go_ret;exact gj Gl rfl
end
theorem I9 {t:Tr} {nv:Value} {w0:World} (h0:bn w0 nv t.nodes) {f:Nat} {n lo hi d:Int} {S:List Int} {w:World} {sb cap:Nat} {x:Nd} (hb0:aq w0 w) (GN:w0<=sb) (hs:jc w sb t.nodes S) (hd0:d=12-f) (hd1:1<=d) (hd:d<=12) (hhi:hi<=9223372036854775807) (hlo:0<=lo) (hx:t.dm n=some x) (Km:n∉S) (hlt:lo<hi) (mP:x.leaf=true) :
  Calls Tryz.prog 113 #[.agg #[nv,af t.root],af n,af lo,af hi,af d,ah sb t.nodes cap] w (ju w0 sb t.nodes (cv t (f+1) n lo hi S) w):=by
 have CJ:jI t n x lo hi->cv t (f+1) n lo hi S=some (d,n::S):=fun h=>by rw [F4 hx Km hlt mP h,hd0]
 have hno:¬jI t n x lo hi->cv t (f+1) n lo hi S=none:=fun h=>CQ hx mP h;obtain⟨hn0,yu,tT⟩:=pJ hx;obtain⟨j,hj⟩:∃j:Nat,n=j:=⟨n.toNat,ai⟩;subst hj;rw [Int.toNat_natCast]at yu tT;obtain⟨nb,fV,c,ev,kv,dv,bv,rfl,hnb,hE,hK,hD,hB,c0,c1,c2,c3,c4⟩:=lG h0 hb0 tT;have hlen:=h0.len.2;obtain⟨ae,ne,rfl⟩:=hE.isSlice;obtain⟨ak,nk,rfl⟩:=hK.isSlice;obtain⟨ad,rV,rfl⟩:=hD.isSlice;obtain⟨ab,oN,rfl⟩:=hB.isSlice;obtain⟨s0,s1⟩:=hs.2 j yu;have hsl:=hs.1;have hbz:=hb0.size;have abA:sb≠nb:=ai;have yt:nb<w:=ai;have d1:mn (j:Int) 0 ((t.nodes.length:Int)-1)=true:=gX.2 ai;have l1:=hE.len bY;have l2:=hK.len bY;have l3:=hD.len bY;have l4:=hB.len bY;rw [ar Km]at s0;rw [mP]at c0;have SN:jc (w.setCell (sb,j) (af 1)) sb t.nodes ((j:Int)::S):=hs.set rfl yu;have HE:=ag fun w' (hb:aq w0 w')=>Nn (lo:=lo) (hi:=hi) (hE.below hb aO) ai hhi;have jP:=ag (Cy (t:=t) (n:=(j:Int)) (x:=x) (lo:=lo) (hi:=hi));have ZN:=ag fun(h:x.aI.length=0)=>(show nA x.aI lo hi=true by rw [yX h];exact nL.2 (lJ lo hi));have xE:=ag CJ;have mB:=ag hno;clear hs h0 hE hK hD hB hx hn0 Km CJ hno mP hd0;generalize x.aI.length=le at *;generalize x.keys.length=lk at *;generalize x.kids.length=ld at *;generalize x.buf.length=lb at *;generalize nA x.aI lo hi=be at *;have hw1:IntKind.i64.wrap ((t.nodes.length:Int)-1)=(t.nodes.length:Int)-1:=bI _ ai;go_enter Tryz.func113,Tryz.ntmps113;go_upto_region 7 with ((go_at_call 51;refine(dH _ _ _ _).mono ?_;rintro e w' ⟨rfl,rfl⟩));clear hw1;obtain⟨W2,hW2⟩:=cd ((((w.setCell (sb,j) (af 1)).alloc (.cells #[ah (some (nb,fV)) t.nodes c,af t.root] 27)).alloc (.cells #[.bool true,ah ae le ne,ah ak lk nk,ah ad ld rV,ah ab lb oN] 125)));have ht2:aA (·=sb) w W2:=by rw [hW2];exact Gl
 have hb2:aq w0 W2:=ht2.below hb0 ai (fun i hi=>ai);have sn2:jc W2 sb t.nodes ((j:Int)::S):=by rw [hW2];exact SN.turn (X:=fun _=>False) (((aA.refl _ _).alloc _).alloc _) (fun h=>h)
 have k0:W2.heap[w.heap.size]?=some (.cells #[ah (some (nb,fV)) t.nodes c,af t.root] 27):=by
  rw [hW2,gy _ _ _ bh];exact au _ _ (by rw [aG])
 have k1:W2.heap[w.heap.size+1]?=some (.cells #[.bool true,ah ae le ne,ah ak lk nk,ah ad ld rV,ah ab lb oN] 125):=by
  rw [hW2];exact au _ _ bh
 have q0:W2.cell? (w,1)=some (af t.root):=by simp [World.cell?,k0]
 obtain⟨x0,x1,x2,x3,x4⟩:W2.cell? (w,1,0)=some (.bool true)/\W2.cell? (w,1,1)=some (ah ae le ne)/\W2.cell? (w,1,2)=some (ah ak lk nk)/\W2.cell? (w,1,3)=some (ah ad ld rV)/\W2.cell? (w,1,4)=some (ah ab lb oN):=by
  simp [World.cell?,k1]
 rw [<-hW2];have GD:=ag (HE W2 hb2);clear hW2 k0 k1 SN s0 s1 c0 c1 c2 c3 c4 hb0 hb2 HE;by_cases g1:lk+ld+lb=0
 ·obtain⟨rfl,rfl,rfl⟩:lk=0/\ld=0/\lb=0:=ai;by_cases g2:le<=6
  ·by_cases g3:le=0
   ·subst g3;have GR:be=true:=ZN rfl;subst GR;by_cases g4:(j:Int)=t.root
    ·have HR:=ag (xE (jP.2 ⟨ai,ai,fun _=>g4,rfl⟩));have dr:((j:Int) != t.root)=false:=(by simp [g4]);clear g1 g2 g4;go_wp2_with ((go_at_call 122;(with_reducible refine GD.out.mono ?_);rintro e' w1 ⟨rfl,BE⟩));go_ret;rw [HR];exact zq (ht2.trans (aA.of BE aO)) rfl (sn2.turn (X:=fun _=>False) (aA.of BE aO) (fun h=>h))
    ·have HR:=ag (mB (fun h=>g4 ((jP.1 h).2.2.1 rfl)));have dr:((j:Int) != t.root)=true:=(by simp [g4]);clear g1 g2 g4;go_wp2;go_ret;rw [HR];exact gj ht2 rfl
   ·have g3':0<le:=ai;have ana:decide (le=0)=false:=by simp [g3]
    cases be with
    |true=>
     have HR:=ag (xE (jP.2 ⟨ai,ai,fun h=>absurd h g3,rfl⟩));clear g1;go_wp2_with ((go_at_call 122;(with_reducible refine GD.out.mono ?_);rintro e' w1 ⟨rfl,BE⟩));go_ret;rw [HR];exact zq (ht2.trans (aA.of BE aO)) rfl (sn2.turn (X:=fun _=>False) (aA.of BE aO) (fun h=>h))
    |false=>
     have HR:=ag (mB (fun h=>by have:=(jP.1 h).2.2.2;cases this));clear g1;go_wp2_with ((go_at_call 122;(with_reducible refine GD.out.mono ?_);rintro e' w1 ⟨rfl,BE⟩));go_ret;rw [HR];exact gj (ht2.trans (aA.of BE aO)) rfl
  ·have HR:=ag (mB (fun h=>g2 (jP.1 h).2.1));have g2':6<le:=ai;clear g1 g2;go_wp2;go_ret;rw [HR];exact gj ht2 rfl
 ·have HR:=ag (mB (fun h=>g1 (jP.1 h).1));have g1':0<lk+ld+lb:=ai;have g1'':(0:Int)<(lk:Int)+ld+lb:=ai;clear g1;go_wp2;go_ret;rw [HR];exact gj ht2 rfl
section
variable {sb:Nat} {t:Tr} {nv:Value} {w0:World}
theorem FY (h0:bn w0 nv t.nodes) {f:Nat} {n lo hi d:Int} {S:List Int} {w:World} {cap:Nat} {x:Nd} (hb0:aq w0 w) (GN:w0<=sb) (hs:jc w sb t.nodes S) (hd0:d=12-f) (hf:f<=11)
  (IH:∀(n lo hi d:Int) (S:List Int) (w:World) (cap:Nat),d=13-f->aq w0 w->jc w sb t.nodes S->hi<=9223372036854775807->0<=lo ->
   Calls Tryz.prog 113 #[.agg #[nv,af t.root],af n,af lo,af hi,af d,ah sb t.nodes cap] w (ju w0 sb t.nodes (cv t f n lo hi S) w))
  (hhi:hi<=9223372036854775807) (hlo:0<=lo) (hx:t.dm n=some x) (Km:n∉S) (hlt:lo<hi) (mP:x.leaf=false) :
  Calls Tryz.prog 113 #[.agg #[nv,af t.root],af n,af lo,af hi,af d,ah sb t.nodes cap] w (ju w0 sb t.nodes (cv t (f+1) n lo hi S) w):=by
 have CJ:mW x lo hi->cv t (f+1) n lo hi S=tR (fun k a b s=>cv t f k a b s) x lo hi x.kids 0 (0,n::S):=fun h=>Eh hx Km hlt mP h;have hno:¬mW x lo hi->cv t (f+1) n lo hi S=none:=fun h=>A9 hx mP h;have hd1:1<=d:=ai;have hd:d<=12:=ai;obtain⟨hn0,yu,tT⟩:=pJ hx;obtain⟨j,hj⟩:∃j:Nat,n=j:=⟨n.toNat,ai⟩;subst hj;rw [Int.toNat_natCast]at yu tT;obtain⟨nb,fV,c,ev,kv,dv,bv,rfl,hnb,hE,hK,hD,hB,c0,c1,c2,c3,c4⟩:=lG h0 hb0 tT;have hlen:=h0.len.2;obtain⟨ae,ne,rfl⟩:=hE.isSlice;obtain⟨ak,nk,rfl⟩:=hK.isSlice;obtain⟨ad,rV,rfl⟩:=hD.isSlice;obtain⟨ab,oN,rfl⟩:=hB.isSlice;obtain⟨s0,s1⟩:=hs.2 j yu;have hsl:=hs.1;have hbz:=hb0.size;have abA:sb≠nb:=ai;have yt:nb<w:=ai;have d1:mn (j:Int) 0 ((t.nodes.length:Int)-1)=true:=gX.2 ai;have l1:=hE.len bY;have l2:=hK.len bY;have l3:=hD.len bY;have l4:=hB.len bY;rw [ar Km]at s0;rw [mP]at c0;have SN:jc (w.setCell (sb,j) (af 1)) sb t.nodes ((j:Int)::S):=hs.set rfl yu;have HE:=ag fun w' (hb:aq w0 w')=>Nn (lo:=lo) (hi:=hi) (hB.below hb aO) ai hhi;have jP:=ag (EZ (x:=x) (lo:=lo) (hi:=hi));have xE:=ag CJ;have mB:=ag hno;have Uh:=ag IH;have ZZ:=ag hd0;have HKEY:=ag fun w' (hb:aq w0 w') (i:Nat) (y:Int) (hy:x.keys[i]?=some y)=>gM.get (hK.below hb aO) hy;have zb:=ag fun w' (hb:aq w0 w') (i:Nat) (y:Int) (hy:x.kids[i]?=some y)=>gM.get (hD.below hb aO) hy;clear hs h0 hE hK hD hB hx hn0 Km CJ hno mP hd0 IH;obtain⟨lk,hlk⟩:=bG (x.keys.length);obtain⟨ld,O9⟩:=bG (x.kids.length);have P6:=ag hlk;have Qk:=ag O9;clear hlk O9;generalize x.aI.length=le at *;generalize x.buf.length=lb at *;generalize nA x.buf lo hi=be at *;rw [P6]at c2 l2 jP;rw [Qk]at c3 l3 jP;have hw1:IntKind.i64.wrap ((t.nodes.length:Int)-1)=(t.nodes.length:Int)-1:=bI _ ai;go_enter Tryz.func113,Tryz.ntmps113;go_upto_region 7 with ((go_at_call 51;refine(dH _ _ _ _).mono ?_;rintro e w' ⟨rfl,rfl⟩));clear hw1;obtain⟨W2,hW2⟩:=cd ((((w.setCell (sb,j) (af 1)).alloc (.cells #[ah (some (nb,fV)) t.nodes c,af t.root] 27)).alloc (.cells #[.bool false,ah ae le ne,ah ak lk nk,ah ad ld rV,ah ab lb oN] 125)));have ht2:aA (·=sb) w W2:=by rw [hW2];exact Gl
 have hb2:aq w0 W2:=ht2.below hb0 ai (fun i hi=>ai);have sn2:jc W2 sb t.nodes ((j:Int)::S):=by rw [hW2];exact SN.turn (X:=fun _=>False) (((aA.refl _ _).alloc _).alloc _) (fun h=>h)
 have k0:W2.heap[w.heap.size]?=some (.cells #[ah (some (nb,fV)) t.nodes c,af t.root] 27):=by
  rw [hW2,gy _ _ _ bh];exact au _ _ (by rw [aG])
 have k1:W2.heap[w.heap.size+1]?=some (.cells #[.bool false,ah ae le ne,ah ak lk nk,ah ad ld rV,ah ab lb oN] 125):=by
  rw [hW2];exact au _ _ bh
 have q0:W2.cell? (w,1)=some (af t.root):=by simp [World.cell?,k0]
 obtain⟨x0,x1,x2,x3,x4⟩:W2.cell? (w,1,0)=some (.bool false)/\W2.cell? (w,1,1)=some (ah ae le ne)/\W2.cell? (w,1,2)=some (ah ak lk nk)/\W2.cell? (w,1,3)=some (ah ad ld rV)/\W2.cell? (w,1,4)=some (ah ab lb oN):=by
  simp [World.cell?,k1]
 rw [<-hW2];have GD:=ag (HE W2 hb2);clear hW2 SN s0 s1 c0 c1 c2 c3 c4 hb0 HE;by_cases hok:mW x lo hi
 ·have HR:=ag (xE hok);obtain⟨e1,e2,e3,e4,e5,e6⟩:=jP.1 hok;subst e1 e6;have d2:mn (ld:Int) 2 4=true:=gX.2 ai;have d3:((lk:Int)+1 != (ld:Int))=false:=by simp;omega
  have e4a:lk+1<=ld:=ai;have e4b:ld<=lk+1:=ai;clear hok e4;go_upto_region 13 with (first
   |(go_at_call 51;(with_reducible refine(dH _ _ _ _).mono ?_);rintro e w' ⟨rfl,rfl⟩)
   |(go_at_call 122;(with_reducible refine GD.out.mono ?_);rintro e' w1 ⟨rfl,BE⟩))
  have HC:=ag fun wr (ht:aA (·=sb) w1 wr)=>(by
   have b0:wr.heap[w.heap.size]?=_:=(ht.block _ (by have:=BE.size;have:=ht2.size;have:=(eJ.1 k0).1;omega) ai).trans ((BE.block _ (eJ.1 k0).1).trans k0);have b1:wr.heap[w.heap.size+1]?=_:=(ht.block _ (by have:=BE.size;have:=(eJ.1 k1).1;omega) ai).trans ((BE.block _ (eJ.1 k1).1).trans k1);simp [World.cell?,b0,b1] :
   (wr.cell? (w,0)=some (ah (some (nb,fV)) t.nodes c)/\(wr,w.heap.size,1,t.root))/\wr.cell? (w,1,2)=some (ah ak lk nk)/\wr.cell? (w,1,3)=some (ah ad ld rV))
  have HB:=ag fun wr (ht:aA (·=sb) w1 wr)=>(aA.below (B:=w0.heap.size) ht (hb2.trans (BE.mono (by have:=hb2.size;omega))) (by have:=hb2.size;have:=BE.size;omega) (fun i hi=>ai):aq w0 wr);have HT:=ag fun wr (ht:aA (·=sb) w1 wr)=>((ht2.trans (aA.of BE aO)).trans ht:aA (·=sb) w wr);have hs1:jc w1 sb t.nodes ((j:Int)::S):=sn2.turn (X:=fun _=>False) (aA.of BE aO) (fun h=>h);clear q0 x0 x1 x2 x3 x4 k0 k1 hb2 sn2 ht2 BE GD mB xE jP hsl;go_wp2_with fail
  go_loopg [14,15,16] ld (fun g a fr i wr=>∃(k:Nat) (D F:Int) (S':List Int),k<=ld/\g=ld-k/\i=af k/\a=af D/\fr=af F/\0<=D/\lo<=F/\Hid (k<ld->F=x.from lo k) /\
   Hid (cv t (f+1) (j:Int) lo hi S=tR (fun k a b s=>cv t f k a b s) x lo hi (x.kids.drop k) k (D,S'))/\aA (·=sb) w1 wr/\jc wr sb t.nodes S')
  case atStart=>exact⟨0,0,lo,(j:Int)::S,eY _,rfl,rfl,rfl,rfl,Int.le_refl _,Int.le_refl _,ag (fun _=>by simp [Nd.from]),ag (by rw [HR];rfl),aA.refl _ _,hs1⟩
  case round=>
   obtain⟨k,D,F,S',hk,rfl,rfl,rfl,rfl,hD0,TJ,HF,Tb,ht,hs'⟩:=hrel;obtain⟨⟨p0,p1⟩,p2,p3⟩:=HC _ ht;by_cases hlt':k<ld
   ·obtain⟨K,hK⟩:∃K,x.kids[k]?=some K:=⟨x.kids[k]'(by rw [Qk];exact hlt'),bh⟩;obtain⟨kb,A6,XR,ke,hkb,hkc⟩:=zb _ (HB _ ht) k K hK;injection ke with XQ Wl XP;subst XQ XP;obtain⟨T,hT⟩:=bG (x.upto hi k);have kI:=ag (Tb.out.trans (Ls (by rw [Qk];exact hlt')));have hKe:x.kids[k]'(by rw [Qk];exact hlt')=K:=(dW.1 hK).2;rw [hKe,HF.out hlt' |>.symm,hT]at kI;have HF':=ag (show k+1<ld->T=x.from lo (k+1)from fun h=>by
     rw [<-hT];have hlk:k<x.keys:=(by have:=P6.out;have:=Qk.out;omega);simp only [Nd.upto,Nd.from,Nat.add_sub_cancel];rw [aw hlk,ar ai])
    have ahr:lk<=ld:=ai;have HUP:Hid ((k<lk->x.keys[k]?=some T)/\(¬k<lk->T=hi)):=ag ⟨fun h=>by
      have hlk:k<x.keys:=(by have:=P6.out;omega);rw [<-hT];simp [Nd.upto,hlk],fun h=>by
      have hlk:¬k<x.keys:=(by have:=P6.out;omega);rw [<-hT];simp [Nd.upto,hlk]⟩
    clear hK hT hKe;go_upto_if 140 with (fail);go_cut [17] (fun v wx=>v=af T/\wr=wx)
    case first=>
     by_cases hk2:k<lk
     ·obtain⟨b2,OE,cap2,e2,YP,hc2⟩:=HKEY _ (HB _ ht) k T (HUP.1 hk2);injection e2 with f1 f2 f3;subst f1 f3;clear f2 Wl;go_wp2;go_meet;exact⟨rfl,rfl⟩
     ·have HTE:=ag (HUP.2 hk2);clear Wl;go_wp2;go_meet;exact⟨by rw [HTE],rfl⟩
    case rest=>
     obtain⟨rfl,rfl⟩:=hcut;by_cases g1:lo<=T/\T<=hi
     ·have d5:mn T lo hi=true:=gX.2 g1;have HD1:=ag (show d+1=13-f by have:=ZZ.out;omega);have g1a:0<=T:=ai;have g1b:T<=9223372036854775807:=ai;have g1c:lo<=T:=g1.1;have hwd:IntKind.i64.wrap (d+1)=d+1:=bI _ ai;have G0:=ag (HB _ ht);have jA:=fun w=>jL (ab:=kb) (aR:=A6) (n:=ld) (cap:=rV) (show (k:Int)=((k:Nat):Int) by rfl) hlt' w
      cases hR:cv t f K F T S' with
      |none=>
       have Gy:=ag (show cv t (f+1) (j:Int) lo hi S=none by rw [kI,aw g1];simp only [hR]);have ie:=ag (Uh K F T (d+1) S' wr.drew cap HD1 G0.drew (hs'.turn (X:=fun _=>False) (aA.refl _ _).drew (fun h=>h)) g1b ai);rw [hR]at ie;clear hR g1;go_upto_region 23 with ((go_at_call 51;(with_reducible refine(dH _ _ _ _).mono ?_);rintro e w' ⟨rfl,rfl⟩));refine Dq 11 cV cV ?_
       (simp only [List.take_succ_cons,List.take_zero,List.drop_succ_cons,List.drop_zero];(repeat ((with_reducible refine qx (fun K hK=>?_));go_simp;(with_reducible refine hK _ ?_);clear hK K));(with_reducible refine qw ?_))
       change wpList _ _ _ _ _ wr.drew;go_wp2_with ((go_at_call 113;(with_reducible refine ie.out.mono ?_);rintro e w2 ⟨ht2,rfl⟩));go_ret;rw [Gy];exact gj ((HT _ ht).trans ((aA.refl _ _).drew.trans ht2)) rfl
      |some p=>
       obtain⟨h,S2⟩:=p;have hpos:=Ay ai hR;obtain⟨hp1,hp2,Kl⟩:=hpos;have HST:=ag (show cv t (f+1) (j:Int) lo hi S=if D=0\/h=D then tR (fun k a b s=>cv t f k a b s) x lo hi (x.kids.drop (k+1)) (k+1) (h,S2)else none by rw [kI,aw g1];simp only [hR]);have ie:=ag (Uh K F T (d+1) S' wr.drew cap HD1 G0.drew (hs'.turn (X:=fun _=>False) (aA.refl _ _).drew (fun h=>h)) g1b ai);rw [hR]at ie;have hz:(h == 0)=false:=(by simp;omega);clear hR g1;by_cases g2:D=0\/h=D
       ·have VL:=ag (HST.trans (aw g2));have hall:D=0\/(D≠0/\h=D):=ai;clear g2 HST;rcases hall with rfl|⟨hall,rfl⟩
        ·go_upto_region 23 with ((go_at_call 51;(with_reducible refine(dH _ _ _ _).mono ?_);rintro e w' ⟨rfl,rfl⟩));refine Dq 11 cV cV ?_
         (simp only [List.take_succ_cons,List.take_zero,List.drop_succ_cons,List.drop_zero];(repeat ((with_reducible refine qx (fun K hK=>?_));go_simp;(with_reducible refine hK _ ?_);clear hK K));(with_reducible refine qw ?_))
         change wpList _ _ _ _ _ wr.drew;clear jA hwd;go_wp2_with ((go_at_call 113;(with_reducible refine ie.out.mono ?_);rintro e w2 ⟨ht2,rfl,hs2⟩));go_roundg (ld-(k+1))
         case measure=>omega
         case rel=>exact⟨k+1,h,T,S2,ai,rfl,by go_num,rfl,rfl,ai,g1c,HF',VL,ht.trans ((aA.refl _ _).drew.trans ht2),hs2⟩
        ·have ajn:0<h:=ai;go_upto_region 23 with ((go_at_call 51;(with_reducible refine(dH _ _ _ _).mono ?_);rintro e w' ⟨rfl,rfl⟩));refine Dq 11 cV cV ?_
         (simp only [List.take_succ_cons,List.take_zero,List.drop_succ_cons,List.drop_zero];(repeat ((with_reducible refine qx (fun K hK=>?_));go_simp;(with_reducible refine hK _ ?_);clear hK K));(with_reducible refine qw ?_))
         change wpList _ _ _ _ _ wr.drew;clear jA hwd;go_wp2_with ((go_at_call 113;(with_reducible refine ie.out.mono ?_);rintro e w2 ⟨ht2,rfl,hs2⟩));go_roundg (ld-(k+1))
         case measure=>omega
         case rel=>exact⟨k+1,h,T,S2,ai,rfl,by go_num,rfl,rfl,ai,g1c,HF',VL,ht.trans ((aA.refl _ _).drew.trans ht2),hs2⟩
       ·have VL:=ag (HST.trans (ar g2));have hall:0<D:=ai;have hne:(h != D)=true:=(by simp;omega);clear g2 HST;go_upto_region 23 with ((go_at_call 51;(with_reducible refine(dH _ _ _ _).mono ?_);rintro e w' ⟨rfl,rfl⟩));refine Dq 11 cV cV ?_
        (simp only [List.take_succ_cons,List.take_zero,List.drop_succ_cons,List.drop_zero];(repeat ((with_reducible refine qx (fun K hK=>?_));go_simp;(with_reducible refine hK _ ?_);clear hK K));(with_reducible refine qw ?_))
        change wpList _ _ _ _ _ wr.drew;clear jA hwd;go_wp2_with ((go_at_call 113;(with_reducible refine ie.out.mono ?_);rintro e w2 ⟨ht2,rfl,hs2⟩));go_ret;rw [VL];exact gj ((HT _ ht).trans ((aA.refl _ _).drew.trans ht2)) rfl
     ·have d5:mn T lo hi=false:=nK.2 ai;have Gy:=ag (show cv t (f+1) (j:Int) lo hi S=none by rw [kI,ar g1]);clear g1;go_wp2_with ((go_at_call 51;(with_reducible refine(dH _ _ _ _).mono ?_);rintro e w' ⟨rfl,rfl⟩));go_ret;rw [Gy];exact gj (HT _ ht) rfl
   ·have Gz:=ag (Tb.out.trans (OT (by rw [Qk];omega)));go_wp2;go_ret;rw [Gz];exact zq (HT _ ht) rfl hs'
 ·have HR:=ag (mB hok);have yz:=jP.out;by_cases g1:le=0
  ·subst g1;by_cases g2:2<=ld/\ld<=4
   ·have d2:mn (ld:Int) 2 4=true:=gX.2 ai;by_cases g3:lk+1=ld
    ·have d3:((lk:Int)+1 != (ld:Int))=false:=(by simp;omega);by_cases g4:lb<=8
     ·have GR:be=false:=by
       cases be with
       |false=>rfl
       |true=>exact absurd (yz.2 ⟨rfl,g2.1,g2.2,g3,g4,rfl⟩) hok
      subst GR;clear hok yz g2 g3 jP;go_wp2_with (first
       |(go_at_call 51;(with_reducible refine(dH _ _ _ _).mono ?_);rintro e w' ⟨rfl,rfl⟩)
       |(go_at_call 122;(with_reducible refine GD.out.mono ?_);rintro e' w1 ⟨rfl,BE⟩))
      go_ret;rw [HR];exact gj (ht2.trans (aA.of BE aO)) rfl
     ·have g4':8<lb:=ai;clear hok yz g2 g3 g4 jP;go_wp2_with ((go_at_call 51;(with_reducible refine(dH _ _ _ _).mono ?_);rintro e w' ⟨rfl,rfl⟩));go_ret;rw [HR];exact gj ht2 rfl
    ·have d3:((lk:Int)+1 != (ld:Int))=true:=(by simp;omega);clear hok yz g2 g3 jP;go_wp2_with ((go_at_call 51;(with_reducible refine(dH _ _ _ _).mono ?_);rintro e w' ⟨rfl,rfl⟩));go_ret;rw [HR];exact gj ht2 rfl
   ·have d2:mn (ld:Int) 2 4=false:=nK.2 ai;clear hok yz g2 jP;go_wp2_with ((go_at_call 51;(with_reducible refine(dH _ _ _ _).mono ?_);rintro e w' ⟨rfl,rfl⟩));go_ret;rw [HR];exact gj ht2 rfl
  ·have g1':0<le:=ai;clear hok yz g1 jP;go_wp2;go_ret;rw [HR];exact gj ht2 rfl
theorem LU (h0:bn w0 nv t.nodes) (GN:w0<=sb):∀(f:Nat),f<=12->∀(n lo hi d:Int) (S:List Int) (w:World) (cap:Nat),d=13-f->aq w0 w->jc w sb t.nodes S->hi<=9223372036854775807->0<=lo ->
  Calls Tryz.prog 113 #[.agg #[nv,af t.root],af n,af lo,af hi,af d,ah sb t.nodes cap] w (ju w0 sb t.nodes (cv t f n lo hi S) w):=by
 intro f
 induction f with
 |zero=>intro _ n lo hi d S w cap hd hb hs hhi hlo;exact CO h0 (cap:=cap) (N:=t.nodes.length) hd ai (.inl rfl)
 |succ f ih=>
  intro hf n lo hi d S w cap hd hb hs hhi hlo
  cases hx:t.dm n with
  |none=>exact CO h0 (cap:=cap) (N:=t.nodes.length) hd hf (.inr hx)
  |some x=>
   by_cases hbad:n∈S\/¬lo<hi
   ·exact I8 h0 hb GN hs ai ai hx hbad
   ·have h1:n∉S:=fun h=>hbad (.inl h);have h2:lo<hi:=Classical.byContradiction fun h=>hbad (.inr h)
    cases hl:x.leaf with
    |true=>exact I9 h0 hb GN hs ai ai ai hhi hlo hx h1 h2 hl
    |false=>exact FY h0 hb GN hs ai ai (fun n lo hi d S w cap=>ih ai n lo hi d S w cap) hhi hlo hx h1 h2 hl
end
section
variable {w:World}
theorem Tryz.abn:(Tryz.prog.info? 3).map (fun i=>(i.zero,i.size,i.bytes))=some (some (af 0),1,8):=cV
theorem Om {B sb n:Nat} {e:TypeId} (h:w.ownsRow B e 1 (ah sb n n) n (madeCells #[af 0] (n*1)).toList):jc w sb n []:=by
 ·obtain⟨hl,⟨h0,_⟩|⟨g,cap,cur,e1,hb,hg,h1,h2,h3,h4⟩⟩:=h
  ·cases h0
  ·injection e1 with e1 e2 e3;injection e1 with e1;injection e1 with e1;subst e1 e3;refine⟨(eJ.1 hg).1,fun i hi=>⟨?_,by simp [World.frozen?,hg]⟩⟩;have hf:(madeCells #[af 0] (n*1)).toList[i]?=some (af 0):=by
    rw [toList_madeCells_one,List.getElem?_replicate,aw ai]
   rw [<-h4,rF,aw ai]at hf;simp only [World.cell?,hg];simpa using hf
theorem DZ {v:Value} {t:Tr} (h:di w v t) :
  Calls Tryz.prog 94 #[v] w fun e w'=>e = .returned (af (aC t))/\aq w w':=by
 obtain⟨nv,rfl,hn⟩:=h;rw [<-Pz];obtain⟨⟨ao,cap,rfl⟩,hlen⟩:=hn.len;by_cases hbig:2000<t.nodes.length
 ·have HR:=ag (show uJ t=1 from aw hbig);go_enter Tryz.func94,Tryz.ntmps94;go_wp2;go_ret;exact⟨ij HR.symm,eV⟩
 ·have hsm:t.nodes.length<=2000:=ai;have HR:=ag (show uJ t=_ from ar hbig);obtain⟨i0,hi,hz0,hz1,hz2⟩:=info_parts Tryz.abn;clear hbig;go_enter Tryz.func94,Tryz.ntmps94;go_upto_region 4 with (first|(at_make;refine wpList_make_full _ rfl _ _ 52 rfl (w+1) 3 i0 (af 0) 1 Tryz.underlying52 hi hz0 hz1 _ _ _ _ t.nodes rfl rfl rfl rfl (by rw [hz2];omega) iI bh ?_;intro w1 hown hgrow));have hw0:(w.alloc (.cells #[ah ao t.nodes cap,af t.root] 27)).heap.size=w+1:=bh;rw [hw0]at hown;have hb1:aq w w1:=nP ((aW _ _).alloc aO _) hgrow bh (fun _ h=>by cases h);have hs1:=Om hown;have q0:w1.cell? (w,0)=some (ah ao t.nodes cap)/\(w1,w.heap.size,1,t.root):=by
   have hk:w1.heap[w.heap.size]?=some (.cells #[ah ao t.nodes cap,af t.root] 27):=(hgrow.block _ bh bh).trans (au _ _ rfl);simp [World.cell?,hk]
  obtain⟨q0,q1⟩:=q0;have ie:=ag (LU hn (sb:=w.heap.size+1) ai 12 aO t.root 0 1099511627776 1 [] w1 t.nodes bY hb1 hs1 ai ai);have hz:=fun h S (e:cv t 12 t.root 0 1099511627776 []=some (h,S))=>(Ay ai e).1;clear hown hgrow hs1 hw0 hi hz0 hz1 hz2 hn
  cases hr:cv t 12 t.root 0 1099511627776 [] with
  |none=>
   rw [hr]at ie;have TX:=ag (show uJ t=7 by rw [HR,hr]);clear hr hz;go_wp2_with ((go_at_call 113;(with_reducible refine ie.out.mono ?_);rintro e w2 ⟨ht2,rfl⟩));go_ret;exact⟨ij TX.symm,ht2.below hb1 hb1.size (fun i hi=>ai)⟩
  |some p=>
   obtain⟨h,S⟩:=p;rw [hr]at ie;have hh:=hz h S hr;have hh0:(h == 0)=false:=by simp;omega
   have TX:=ag (show uJ t=if ∀i:Nat,i<t.nodes->(i:Int)∈S then 0 else 7 by rw [HR,hr]);clear hr hz;go_wp2_with ((go_at_call 113;(with_reducible refine ie.out.mono ?_);rintro e w2 ⟨ht2,rfl,hs2⟩));have hb2:aq w w2:=ht2.below hb1 hb1.size (fun i hi=>ai)
   go_loopg [4] t.nodes (fun g i wr=>∃k:Nat,k<=t.nodes/\g=t.nodes-k/\i=af k/\(∀i:Nat,i<k->(i:Int)∈S)/\w2=wr)
   case atStart=>exact⟨0,eY _,rfl,rfl,fun i hi=>ai,rfl⟩
   case round=>
    obtain⟨k,hk,rfl,rfl,HA,rfl⟩:=hrel;have HA':=ag HA;clear HA;by_cases hlt:k<t.nodes
    ·obtain⟨s0,-⟩:=hs2.2 k hlt;have jA:=fun w'=>jL (ab:=w.heap.size+1) (aR:=0) (n:=t.nodes.length) (cap:=t.nodes.length) (show (k:Int)=((k:Nat):Int) by rfl) hlt w';by_cases hks:(k:Int)∈S
     ·rw [aw hks]at s0;have HS:=ag hks;clear hks;go_wp2;go_roundg (t.nodes-(k+1))
      case measure=>omega
      case rel=>
       refine⟨k+1,ai,rfl,by go_num,fun i hi=>?_,rfl⟩;by_cases h:i=k
       ·rw [h];exact HS
       ·exact HA' i ai
     ·rw [ar hks]at s0;have HS:=ag (show uJ t=7 by rw [TX];exact ar fun h=>hks (h k hlt));clear hks;go_wp2;go_ret;exact⟨ij HS.symm,hb2⟩
    ·have HS:=ag (show uJ t=0 by rw [TX];exact aw fun i hi=>HA' i ai);go_wp2;go_ret;exact⟨ij HS.symm,hb2⟩
end
def kG (B:Nat) (w:World) (f:Int) (r:Option (List aH)) (e:Ending) (w':World):Prop:=
 Below B w w'/\(f≠0->e = .returned (.tuple #[az 0 0,af f]))/\(f=0->match r with|none=>e = .returned (.tuple #[az 0 0,af 1])|some l=>∃v',e = .returned (.tuple #[v',af 0])/\ay B w' v' l)
theorem vX {v:Value} {t:Tr} {lo hi:Int} {w:World} (h:di w v t) :
  Calls Tryz.prog 53 #[v,af lo,af hi] w (kG w w (aC t) (mz t lo hi)):=by
 obtain⟨nv,rfl,hn⟩:=h;obtain⟨⟨ao,cap,rfl⟩,hlen⟩:=hn.len;obtain⟨W0,hW0⟩:=cd (w.alloc (.cells #[ah ao t.nodes cap,af t.root] 27));have hb0:aq w W0:=by rw [hW0];exact(aW _ _).alloc aO _
 have hz0:W0=w.heap.size+1:=by rw [hW0];simp
 have k0:W0.heap[w.heap.size]?=some (.cells #[ah ao t.nodes cap,af t.root] 27):=by
  rw [hW0];exact au _ _ rfl
 have HX:=ag fun w' (hb:Below (w+1) W0 w')=>(by
  have b0:w'.heap[w.heap.size]?=_:=(hb.block _ ai).trans k0;simp [World.cell?,b0] :
  w'.cell? (w,0)=some (ah ao t.nodes cap)/\(w',w.heap.size,1,t.root))
 have HB:=ag fun w' (hb:Below (w+1) W0 w')=>(aF hb0 (hb.mono ai) ai:aq w w');have HG:=ag hn;have HF:=ag (DZ (t:=t) (w:=W0) (v:= .agg #[ah ao t.nodes cap,af t.root]) ⟨_,rfl,hn.below hb0 aO⟩);have k1:W0.cell? (w,0)=some (ah ao t.nodes cap)/\(W0,w.heap.size,1,t.root):=by simp [World.cell?,k0]
 obtain⟨k1,k2⟩:=k1;go_enter Tryz.func53,Tryz.ntmps53;go_upto_region 1 with (fail);rw [<-hW0];clear hW0 k0;by_cases hf:aC t=0
 ·rw [hf]at HF;go_wp2_with ((go_at_call 94;(with_reducible refine HF.out.mono ?_);rintro e w1 ⟨rfl,hb1⟩));have DN:Below (w+1) W0 w1:=hb1.mono ai
  go_loopg [8,9,10] t.nodes (fun g er out i wr=>∃(k:Nat) (es:List aH),k<=t.nodes/\g=t.nodes-k/\i=af k/\er=af 0/\ay (w+1) wr out es/\Hid (∀x,jJ t lo hi k x 0 es)/\Below (w+1) W0 wr)
  case atStart=>exact⟨0,[],eY _,rfl,rfl,rfl,ay.nil _ _,ag (fun x=>Gr t lo hi x),DN⟩
  case round=>
   obtain⟨i,es,hk,rfl,rfl,rfl,hown,rJ,hbW⟩:=hrel;obtain⟨so,sc,rfl⟩:=hown.isSlice;obtain⟨q0,q1⟩:=HX _ hbW;by_cases hlt:i<t.nodes
   ·obtain⟨x,hx⟩:∃x,t.nodes[i]?=some x:=⟨t.nodes[i],by simp [hlt]⟩;obtain⟨nb,fV,cap',r,e0,hnb,⟨-,hE,-,-,hBf⟩,-,r1,-,-,r4⟩:=HG.get hx;injection e0 with e0 _ e2;subst e0 e2;obtain⟨ae,ne,hae⟩:=hE.isSlice;obtain⟨ab,oN,hab⟩:=hBf.isSlice;rw [hae]at r1 hE;rw [hab]at r4 hBf;have hle:=hE.len bY;have hlb:=hBf.len bY;have hall:x.all=x.aI+x.buf.length:=(by simp [Nd.all]);have HC:=ag fun w' (hb:Below (w+1) W0 w')=>aJ (((HB w' hb).cell (p:=(nb,fV+i*5+1)) hnb).trans r1) (((HB w' hb).cell (p:=(nb,fV+i*5+4)) hnb).trans r4);have DG:=ag hE;have HBF:=ag hBf;have HXI:=ag hx;have hwa:IntKind.i64.wrap ((x.aI.length:Int)+(x.buf.length:Int))=(x.aI.length:Int)+(x.buf.length:Int):=bI _ ai;have jh:=fun w'=>dU (ab:=nb) (aR:=fV) (n:=t.nodes.length) (cap:=cap) (show (i:Int)=((i:Nat):Int) by rfl) hlt w';clear hE hBf r1 r4 hae hab hx;go_wp2_with fail
    go_loopg [8,9,11] x.all (fun g er out jj wr2=>∃(k:Nat) (es:List aH),k<=x.all/\g=x.all-k/\jj=af k/\er=af 0/\ay (w+1) wr2 out es/\Hid (jJ t lo hi i x k es)/\Below (w+1) W0 wr2)
    case atStart=>exact⟨0,es,eY _,rfl,rfl,rfl,hown,ag (rJ.out x),hbW⟩
    case round=>
     clear hown hbW q0 q1;obtain⟨k,es,hk2,rfl,rfl,rfl,hown,Kc,hbW⟩:=hrel;obtain⟨so,sc,rfl⟩:=hown.isSlice;obtain⟨q0,q1⟩:=HX _ hbW;obtain⟨c1,c4⟩:=HC _ hbW;have hsz:w+1<=wr.heap.size:=(by have:=hbW.size;omega);have n0:w<wr.heap.size:=ai;have n1:w≠wr.heap.size:=ai;have n2:wr≠w.heap.size:=ai;have n3:nb<wr:=ai;have n4:nb≠wr:=ai;have n5:wr≠nb:=ai;by_cases ir:k<x.all
     ·have tz:(k:Int)<(x.aI.length:Int)+(x.buf.length:Int):=ai;obtain⟨y,hy⟩:=bG (x.all[k]);have HY:=ag hy;clear hy;go_wp2_with fail;go_cut [41] (fun c wx=>c = .bool true/\ay (w+1) wx (ah so es sc) es/\Below (w+1) W0 wx)
      case first=>
       go_quiet (fail);go_wp2;go_meet;exact⟨rfl,jY,aj⟩
      case rest=>
       clear hown hbW q0 q1 c1 c4 hsz n0 n1 n2 n3 n4 n5;obtain⟨rfl,hown,hbW⟩:=hcut;obtain⟨W8,mq⟩:=cd (wc);subst mq;obtain⟨q0,q1⟩:=HX _ hbW;obtain⟨c1,c4⟩:=HC _ hbW;have hsz:w+1<=W8.heap.size:=(by have:=hbW.size;omega);have n0:w<W8.heap.size:=ai;have n3:nb<W8:=ai;go_upto_if 53 with (fail);go_cut [] (fun wx=>wx.heap[W8.heap.size]?=some (.cells #[af y.key,af y.is.c,af y.is.s,af y.is.mi,af y.is.ma,af y.is.t,af y.is.l] 107)/\ay (w+1) wx (ah so es sc) es/\Below (w+1) W0 wx)
       case first=>
        by_cases hke:k<x.aI
        ·have hye:x.aI[k]=y:=(by rw [<-HY];simp [Nd.all,List.getElem_append_left,hke]);obtain⟨ao',ca',hv,-,-,-,-,h5⟩:=DG.out;injection hv with g1 _ g3;subst g1 g3;obtain⟨eb,cM,rfl,pq,jF⟩:=h5 ai;obtain⟨y0,y1,y2,y3,y4,y5,y6⟩:=br (HB _ hbW) pq jF hke;rw [hye]at y0 y1 y2 y3 y4 y5 y6;have n6:eb<W8:=ai;clear jF h5 hye DG HBF;go_wp2;go_meet;refine⟨?_,?_,?_⟩
         ·with_reducible exact au _ _ rfl
         ·exact jY
         ·exact aj
        ·obtain⟨m,hm⟩:=cd (k-x.aI);have hmb:m<x.buf:=ai;have hye:x.buf[m]=y:=by
          rw [<-HY];simp only [Nd.all];rw [List.getElem_append_right ai];congr 1
         obtain⟨ao',ca',hv,-,-,-,-,h5⟩:=HBF.out;injection hv with g1 _ g3;subst g1 g3;obtain⟨eb,cM,rfl,pq,jF⟩:=h5 ai;have hwk:IntKind.i64.wrap ((k:Int)-(x.aI.length:Int))=(k:Int)-(x.aI.length:Int):=bI _ ai;have hkm:(k:Int)-(x.aI.length:Int)=((m:Nat):Int):=(by rw [hm,Int.ofNat_sub ai]);have I6:=fun w'=>cN (ab:=eb) (aR:=cM) (n:=x.buf.length) (cap:=oN) hkm hmb w';clear hkm hm;go_wp2_with fail;obtain⟨W9,xF⟩:=cd (W8.alloc (.cells #[af 0,af 0,af 0,af 0,af 0,af 0,af 0] 107));have kS:Below (w+1) W0 W9:=(by rw [xF];exact aj);have amC:aq W8 W9:=(by rw [xF];exact aj);have k9:W9.heap[W8.heap.size]?=some (.cells #[af 0,af 0,af 0,af 0,af 0,af 0,af 0] 107):=(by rw [xF];exact au _ _ rfl);have f9:∀o,W9.frozen? ⟨W8.heap.size,o,none⟩=false:=fun o=>(by simp [World.frozen?,k9]);obtain⟨z0,z1,z2,z3,z4,z5,z6⟩:(W9,W8.heap.size,0)/\(W9,W8.heap.size,1)/\(W9,W8.heap.size,2)/\(W9,W8.heap.size,3)/\(W9,W8.heap.size,4)/\(W9,W8.heap.size,5)/\(W9,W8.heap.size,6):=(by simp [World.cell?,k9]);rw [<-xF];obtain⟨y0,y1,y2,y3,y4,y5,y6⟩:=br (HB _ kS) pq jF hmb;rw [hye]at y0 y1 y2 y3 y4 y5 y6;clear q0 q1 c1 c4 xF jF h5 hye DG HBF;obtain⟨q0,q1⟩:=HX _ kS;obtain⟨c1,c4⟩:=HC _ kS;refine Dq 17 cV cV ?_
         (simp only [List.take_succ_cons,List.take_zero,List.drop_succ_cons,List.drop_zero];(repeat ((with_reducible refine qx (fun K hK=>?_));go_simp;(with_reducible refine hK _ ?_);clear hK K));(with_reducible refine qw ?_))
         change wpList _ _ _ _ _ W9.drew;go_wp2;go_meet;refine⟨?_,?_,?_⟩
         ·first|(with_reducible exact E4 k9)|(with_reducible refine C9 ?_;with_reducible exact E4 k9)
         ·exact hown.below (show aq W8 _ from aj) aO
         ·exact aj
       case rest=>
        clear hown hbW q0 q1 c1 c4;obtain⟨k8,hown,hbW⟩:=hcut;have O4:w+1<=wc.heap.size:=(by have:=hbW.size;omega);obtain⟨p0,p1,p2,p3,p4,p5,p6⟩:(wc,W8.heap.size,0,y.key)/\(wc,W8.heap.size,1,y.is.c)/\(wc,W8.heap.size,2,y.is.s)/\(wc,W8.heap.size,3,y.is.mi)/\(wc,W8.heap.size,4,y.is.ma)/\(wc,W8.heap.size,5,y.is.t)/\(wc,W8.heap.size,6,y.is.l):=(by simp [World.cell?,k8]);clear k8;by_cases hin:lo<=y.key/\y.key<hi
        ·obtain⟨i1,i2⟩:=hin;have lu:=ag (show aV lo hi (x.all[k]'ir)=true by rw [HY];simp [aV,i1,i2]);obtain⟨hce,alY⟩:=JV hf HXI Kc.out;have Gw:=ag (nT (v:=ah so es sc) (xs:=es) (x:=y) (w:=wc) (hown.at ai) (fun e he=>(hce e he).2) (by rw [<-HY];exact JS hf HXI ir) ai);clear hce
         cases hI:gJ es y with
         |none=>
          have HR:=ag (JU HXI ir Kc.out lu (by rw [HY];exact hI));rw [hI]at Gw;clear hI;go_wp2_with ((go_at_call 49;(with_reducible refine Gw.out.mono ?_);rintro e w6 ⟨ji,rfl⟩))
          go_ret2
          rw [HR];exact⟨aF (HB _ hbW) ji ai,fun h=>by first|exact absurd hf h|exact(h rfl).elim,fun _=>rfl⟩
         |some es'=>
          have AR:=ag (JT ir Kc.out lu (by rw [HY];exact hI));rw [hI]at Gw;clear hI;go_wp2_with ((go_at_call 49;(with_reducible refine Gw.out.mono ?_);rintro e w6 ⟨ji,v6,rfl,sM⟩;obtain⟨s6,c6,rfl⟩:=sM.isSlice));go_roundg (x.all-(k+1))
          case measure=>omega
          case rel=>exact⟨k+1,es',ai,rfl,by go_num,rfl,sM.mono ai,AR,aF hbW ji O4⟩
        ·have lu:=ag (show aV lo hi (x.all[k]'ir)=false by rw [HY];simp only [aV,Bool.and_eq_false_iff,decide_eq_false_iff_not];omega);have AR:=ag (JW ir Kc.out lu);by_cases i1:lo<=y.key
         ·have i2:hi<=y.key:=ai;clear hin;go_wp2;go_roundg (x.all-(k+1))
          case measure=>omega
          case rel=>exact⟨k+1,es,ai,rfl,by go_num,rfl,hown,AR,hbW⟩
         ·have i2:y.key<lo:=ai;clear hin;go_wp2;go_roundg (x.all-(k+1))
          case measure=>omega
          case rel=>exact⟨k+1,es,ai,rfl,by go_num,rfl,hown,AR,hbW⟩
     ·have hge:¬(k:Int)<(x.aI.length:Int)+(x.buf.length:Int):=ai;have Bh:=ag fun z=>JX (y:=z) HXI ai Kc.out;go_wp2_with fail;go_quiet (fail);go_wp2;go_roundg (t.nodes-(i+1))
      case measure=>omega
      case rel=>exact⟨i+1,es,ai,rfl,by go_num,rfl,jY,ag fun z=>Bh z,aj⟩
   ·have HR:=ag (MG (x:=default) ai (rJ.out default));go_wp2
    go_ret2
    rw [HR];exact⟨HB _ hbW,fun h=>by first|exact absurd hf h|exact(h rfl).elim,fun _=>⟨_,rfl,hown.mono ai⟩⟩
 ·have HR:=ag hf;have hf':(aC t != 0)=true:=by simp [hf]
  go_wp2_with ((go_at_call 94;(with_reducible refine HF.out.mono ?_);rintro e w1 ⟨rfl,hb1⟩))
  go_ret2
  exact⟨HB _ (hb1.mono ai),fun _=>rfl,fun h=>absurd h HR⟩
end Go.Proofs.YtmljjfhgciaceaaGreatDoor
