import Derived.Test.YtmljjfhgciaceaaGreatDoorHd
import Derived.Test.YtmljjfhgciaceaaGreatDoorCz
import Derived.Test.YtmljjfhgciaceaaGreatDoorAK
import Derived.Test.YtmljjfhgciaceaaGreatDoorRefCopy
import Derived.Test.YtmljjfhgciaceaaGreatDoorBK
import Derived.Test.YtmljjfhgciaceaaGreatDoorPS
import Derived.Test.YtmljjfhgciaceaaGreatDoorRollC
import Derived.Test.YtmljjfhgciaceaaGreatDoorTG
import Derived.Test.YtmljjfhgciaceaaGreatDoorKB
namespace Go.Proofs.YtmljjfhgciaceaaGreatDoor
open Go.RowKit
set_option maxRecDepth 100000
set_option maxHeartbeats 4000000
variable {b:Ba} {s:ByteArray} {time value:Int} {l:List aH} {w:World}
theorem jS {ops:Array Oper} {rest:List Oper} {o:Oper} {a:Act} {Q:Exit->Act->World->Prop} (hgd:o.guard=none) (s x:Operand)
  (ho:o.op = .call { callee:= .builtin .append,args:=#[s,x],argTypes:=#[24,24] }) (u:Value) (xs:List ByteArray) (hs:a.eval s=az 0 0) (hx:a.eval x=u) (hu:fX w u xs)
  (h:∀v' w',w'.ownsRow w 9 1 v' xs (xs.flatMap jN)->aq w w'->wpList Tryz.prog ops Q rest (a.put o.dst v') w'):wpList Tryz.prog ops Q (o::rest) a w:=by
 obtain⟨i0,z,hi,hz,hz1,hz2,hz3⟩:=cG Tryz.U1;exact wpList_plain hgd fun _ hK=>gu s x ho i0 z Tryz.underlying24 hi hz hz1 hz2 hz3 bY bY dD u xs (sw xs) hs hx hu fun v' w' h1 h2=>hK _ _ (h v' w' h1 h2)
theorem aa0 {T:TypeId}:(w.alloc (.cells #[.string s] T)).cell? (w,0)=some (.string s):=by
 have h:=au w (.cells #[.string s] T) rfl;simp only [World.cell?];rw [h];rfl
def S0 (k:Int):Prop:=0<=k/\k<1099511627776
def Zo (b:Ba) (s:ByteArray) (time value:Int) (w:World) (e:Ending) (w':World):Prop:=aq w w'/\∃no nn nc lo ln lc,e = .returned (.tuple #[ah no nn nc,ah lo ln lc,af (fU b s time value)]) /\
 (fU b s time value=0->∀w'',aQ w w' w''->fX w'' (ah no nn nc) (bH b s)/\cX w'' (ah lo ln lc) (xB b s time value))
theorem NU {K:Int} (hF:gK b s time value=0) (hl:cx b=some l) (hK:jG b s*1048576+time=K) :
  fU b s time value=(match gJ l ⟨K,⟨1,value,value,value,time,value⟩⟩ with|none=>1|some l'=>if bw l' 60=none\/bw l' 3600=none then 1 else 0)/\xB b s time value=ins l ⟨K,⟨1,value,value,value,time,value⟩⟩/\S0 K/\av ⟨1,value,value,value,time,value⟩=0:=by
 obtain⟨-,-,hro,h0,h1,h2,h3,-,hi0,hi1,-⟩:=kE hF;subst hK;refine⟨?_,?_,⟨ai,ai⟩,lQ h0 h1 h2 h3⟩
 ·unfold fU;rw [ar (by simp [hF]),hl];simp only;rw [hro];rfl
 ·unfold xB;rw [hl,hro];rfl
theorem EW {l':List aH} {x:aH} (hr:aY l) (hg:dX l) (hx:av x.is=0) (h1:x.is.c=1) (hk:S0 x.key) (hl:l.length<=30000) (h:gJ l x=some l'):l'=ins l x/\dX l':=by
 rw [yj hr ai]at h
 split at h
 ·rename_i hc
  injection h with h;subst h;exact⟨rfl,qU hr hg.1 (dC hx ai).1 hc,EU hg.2.1 hk,by have:=CA l x;omega⟩
 ·cases h
theorem Df (h:cx b=some l):l.length<=30000:=by
 have h1:=(lM h).1;unfold allT at h1
 split at h1
 ·rename_i hf
  obtain⟨g1,g2⟩:=cZ hf;have h2:=vk g2;have h3:=ub (aV 0 1099511627776) b.t0.all;have h4:=(fL (Dl hf 0 1099511627776).1 h1).2.2.2.1;omega
 ·cases h1
theorem K2 {v:Value} (h:bR w v b) (hst:∀s∈b.names,s.size<=140737488351232) (tu:s.size<=140737488351232) :
  Calls Tryz.prog 20 #[v, .agg #[.string s,af time,af value]] w (Zo b s time value w):=by
 have Kf:=ag fun w' (hb:aq w w')=>rp (h.below hb) hst;have Ew:=ag fun w' (hb:aq w w')=>sy (h.below hb);obtain⟨sa,sc,g0,l0,p0,g1,l1,p1,g2,l2,p2,rfl,hn,dE,T0,T1,T2⟩:=h.open;obtain⟨W0,hW0⟩:=cd ((w.alloc (.cells (aL sa b.names sc g0 l0 p0 g1 l1 p1 g2 l2 p2 b) 30)).alloc (.cells #[.string s,af time,af value] 70));have hb0:aq w W0:=by rw [hW0];exact aj
 have hz0:W0=w.heap.size+2:=by rw [hW0];simp
 have k0:W0.heap[w.heap.size]?=some (.cells (aL sa b.names sc g0 l0 p0 g1 l1 p1 g2 l2 p2 b) 30):=by rw [hW0,gy _ _ _ bh];exact au _ _ rfl
 have k1:W0.heap[w.heap.size+1]?=some (.cells #[.string s,af time,af value] 70):=by rw [hW0];exact au _ _ bh
 have HX:=ag fun W (hb:aq W0 W)=>(by
  have e1:=(hb.block w ai).trans k0;have e2:=(hb.block (w+1) ai).trans k1;simp [World.cell?,e1,e2]:W.cell? (w,0)=some (ah sa b.names sc)/\W.cell? (w,1)=some (ah g0 l0 p0)/\(W,w.heap.size,2,b.t0.root)/\W.cell? (w,3)=some (ah g1 l1 p1)/\(W,w.heap.size,4,b.t1.root)/\W.cell? (w,5)=some (ah g2 l2 p2)/\(W,w.heap.size,6,b.t2.root)/\(W,w.heap.size,7,b.floor)/\W.cell? (w,1,0)=some (.string s)/\(W,w.heap.size+1,1,time)/\(W,w.heap.size+1,2,value))
 have HB:=ag fun w' (hb:aq W0 w')=>(aF hb0 hb hb0.size:aq w w');have Ke:=ag dE;have mY:=ag (Kf W0 hb0);have vZ:=ag fun W=>uv s W tu;have Ub:=ag fun W=>Ov time value W;obtain⟨x0,x1,x2,x3,x4,x5,x6,x7,y0,y1,y2⟩:=HX W0 (aW _ _);clear h dE T0 T1 T2 Kf tu hz0 k1;go_enter Tryz.func20,Tryz.ntmps20;go_upto_region 1 with (fail);rw [<-hW0];clear hW0 k0;by_cases hm:aS b=true
 ·rw [hm]at mY;go_upto_region 3 with (go_at_call 24;(with_reducible refine mY.out.mono ?_);rintro e w1 ⟨rfl,hb1⟩;clear x0 x1 x2 x3 x4 x5 x6 x7 y0 y1 y2;obtain⟨x0,x1,x2,x3,x4,x5,x6,x7,y0,y1,y2⟩:=HX _ hb1);by_cases pR:dt s=true
  ·rw [pR]at vZ;go_upto_region 5 with (go_at_call 46;(with_reducible refine(vZ.out _).mono ?_);rintro e w2 ⟨rfl,hb2⟩);have qo:aq W0 w2:=aF hb1 hb2 hb1.size;have V4:=ag qo;clear x0 x1 x2 x3 x4 x5 x6 x7 y0 y1 y2;obtain⟨x0,x1,x2,x3,x4,x5,x6,x7,y0,y1,y2⟩:=HX _ qo;clear hb1 hb2 qo;by_cases hro:0<=time/\time<=1048575/\-1000000<=value/\value<=1000000
   ·have hrf:ej time value=(⟨1,value,value,value,time,value⟩,0):=aw hro;rw [hrf]at Ub;go_upto_region 6 with (go_at_call 47;(with_reducible refine(Ub.out _).mono ?_);rintro e w3 ⟨rfl,hb3⟩);obtain⟨W4,yH⟩:=cd (w3.alloc (.cells #[af 1,af value,af value,af value,af time,af value] 39));have hb4:aq w3 W4:=(by rw [yH];exact aj);have uZ:=ag (aF V4 (aF hb3 hb4 hb3.size) V4.size);have k4:zj W4 w3 ⟨1,value,value,value,time,value⟩:=(by rw [yH];exact zj.new _ ⟨1,value,value,value,time,value⟩);rw [<-yH];clear x0 x1 x2 x3 x4 x5 x6 x7 y0 y1 y2;obtain⟨x0,x1,x2,x3,x4,x5,x6,x7,y0,y1,y2⟩:=HX _ uZ;have HK4:=ag k4;clear yH hb3 hb4 k4;by_cases hfl:time<b.floor
    ·have HF:=ag (show fU b s time value=8 by
      have hf:gK b s time value=8:=by
       unfold gK;rw [ar (by simp [hm]),ar (by simp [pR]),ar (by rw [hrf];exact jw rfl),aw hfl]
      unfold fU;rw [aw (by rw [hf];decide),hf])
     have d8:decide (time<b.floor)=true:=decide_eq_true hfl;clear hm pR hro hrf hfl;go_upto_region 9 with (at_builtin;refine jS rfl (.const (az 0 0)) (.tmp 41) rfl _ b.names rfl rfl (Ke.below (HB _ uZ) aO) ?_;intro v5 w5 fY cy;obtain⟨vo,vc,rfl⟩:=aU fY);have Ab:=ag (aF uZ cy uZ.size);have TT:=ag (ct.owned dD fY rfl Ke.size:fX w5 (ah vo b.names vc) b.names);have Td:=ag fY;clear x0 x1 x2 x3 x4 x5 x6 x7 y0 y1 y2;obtain⟨x0,x1,x2,x3,x4,x5,x6,x7,y0,y1,y2⟩:=HX _ Ab;clear fY;clear cy;go_wp2_with (go_at_call 48;(with_reducible refine(lR TT.out).mono ?_);rintro e w6 ⟨rfl,U5⟩;obtain rfl:=U5.symm);have cT:=HB _ Ab;refine bW (v:= .tuple #[az 0 0,az 0 0,af 8]) (by simp [results,Tryz.results20,go_sem, *]) rfl ?_;exact⟨cT,none,0,0,none,0,0,by rw [HF],fun h=>by rw [HF]at h;cases h⟩
    ·have d8:decide (time<b.floor)=false:=xA hfl;go_upto_region 9 with (at_builtin;refine jS rfl (.const (az 0 0)) (.tmp 41) rfl _ b.names rfl rfl (Ke.below (HB _ uZ) aO) ?_;intro v5 w5 fY cy;obtain⟨vo,vc,rfl⟩:=aU fY);have Ab:=ag (aF uZ cy uZ.size);have TT:=ag (ct.owned dD fY rfl Ke.size:fX w5 (ah vo b.names vc) b.names);have Td:=ag fY;clear x0 x1 x2 x3 x4 x5 x6 x7 y0 y1 y2;obtain⟨x0,x1,x2,x3,x4,x5,x6,x7,y0,y1,y2⟩:=HX _ Ab;clear fY;have P7:=ag cy;clear cy;go_upto_region 10 with (go_at_call 48;(with_reducible refine(lR TT.out).mono ?_);rintro e w6 ⟨rfl,U5⟩;obtain rfl:=U5.symm);obtain⟨pI,hpI⟩:=bG (bt b.names s);rw [hpI];by_cases hp:pI<0
     ·have dp:decide (pI<0)=true:=decide_eq_true hp;have hln:b.names.length<=16:=(dJ hm).n16;by_cases Kq:16<=b.names.length
      ·have HF:=ag (show fU b s time value=1 by
        have hf:gK b s time value=1:=by
         unfold gK;rw [ar (by simp [hm]),ar (by simp [pR]),ar (by rw [hrf];exact jw rfl),ar ai,aw ⟨ai,Kq⟩]
        unfold fU;rw [aw (by rw [hf];decide),hf])
       have d16:decide ((16:Int)<=(b.names.length:Int))=true:=(by simp;omega);clear hm pR hro hrf hfl Kq hp hpI;go_wp2_with (at_builtin;refine jm rfl (.tmp 58) (.tmp 61) rfl W4 _ b.names rfl (Dn Td _) ⟨_,0,none⟩ s rfl aa0 ai (by have:=P7.size;simp;omega) ?_;intro v8 Wf yr Qd hv8;obtain⟨vo2,vc2,rfl⟩:=aU yr);have cT:=HB _ (show aq W0 Wf from nP (Ab.alloc Ab.size _) Qd (by have:=Ab.size;simp;omega) (fun j hj=>fZ uZ.size (Td.lt j hj).1));refine bW (v:= .tuple #[az 0 0,az 0 0,af 1]) (by simp [results,Tryz.results20,go_sem, *]) rfl ?_;exact⟨cT,none,0,0,none,0,0,by rw [HF],fun h=>by rw [HF]at h;cases h⟩
      ·have TJ:gK b s time value=0:=by
        unfold gK;rw [ar (by simp [hm]),ar (by simp [pR]),ar (by rw [hrf];exact jw rfl),ar ai,ar ai]
       have d16:decide ((16:Int)<=(b.names.length:Int))=false:=(by simp;omega);have hI:jG b s=(b.names.length:Int):=(by unfold jG;rw [aw ai]);have HNV:=ag (show bH b s=b.names++[s] by unfold bH;rw [aw ai]);clear hfl hp hpI Kq;go_upto_region 17 with (at_builtin;refine jm rfl (.tmp 58) (.tmp 61) rfl W4 _ b.names rfl (Dn Td _) ⟨_,0,none⟩ s rfl aa0 ai (by have:=P7.size;simp;omega) ?_;intro v8 Wf yr Qd hv8;obtain⟨vo2,vc2,rfl⟩:=aU yr);have Xp:=ag (show aq W4 Wf from nP (P7.alloc P7.size _) Qd (by have:=P7.size;simp;omega) (fun j hj=>(Td.lt j hj).1));have N4:=ag (aF uZ Xp uZ.size);have ahU:=ag fun w'' (hk:aQ w Wf w'')=>(ct.owned dD (iU yr hk (HB _ uZ).size) bh fk:fX w'' (ah vo2 (b.names+1) vc2) (b.names++[s]));have ZV:=ag (HK4.later Xp);clear x0 x1 x2 x3 x4 x5 x6 x7 y0 y1 y2;obtain⟨x0,x1,x2,x3,x4,x5,x6,x7,y0,y1,y2⟩:=HX _ N4;clear yr Qd hv8;obtain⟨l,hl,hris,Ww,-⟩:=fJ hm;have hsh:=Df hl;have hir:=kE TJ;obtain⟨K,hK⟩:=bG (jG b s*1048576+time);obtain⟨hev,hlv,hpk,hrc⟩:=NU TJ hl hK;have Yk:0<=K/\K<1099511627776:=hpk;have hw1:IntKind.i64.wrap (1048576*(b.names.length:Int))=K-time:=(by rw [<-hI,show 1048576*jG b s=K-time by omega];exact bI _ ai);have hw2:IntKind.i64.wrap (K-time+time)=K:=(by rw [show K-time+time=K by omega];exact bI _ ai);have hw3:IntKind.i64.wrap K=K:=bI _ ai;have Tn:=ag (by have:=Ew Wf (HB _ N4);rw [hl]at this;exact this:Calls Tryz.prog 25 #[.agg (aL sa b.names sc g0 l0 p0 g1 l1 p1 g2 l2 p2 b)] Wf (nX Wf Wf (some l)));have tU:=ag (aJ hev (aJ hlv (aJ hris (aJ Ww (aJ hpk (aJ hrc hsh))))));clear hl hris Ww hsh hir hK hev hlv hpk hrc TJ hm pR hro hrf Yk;go_upto_region 18 with (go_at_call 25;(with_reducible refine Tn.out.mono ?_);rintro e w7a ⟨ow,v7,rfl,Ny⟩;obtain⟨lo7,lc7,rfl⟩:=Ny.isSlice);have Aa:=ag (aF N4 ow N4.size);have Gw:=ag (nT (x:=⟨K,⟨1,value,value,value,time,value⟩⟩) (Ny.at (by have:=tU.2.2.2.2.2.2;omega)) (fun e he=>(tU.2.2.2.1.1 e he).2) tU.2.2.2.2.2.1 (by have:=tU.2.2.2.2.2.2;omega));obtain⟨r0,r1,r2,r3,r4,r5⟩:=(ZV.later ow).cells;clear x0 x1 x2 x3 x4 x5 x6 x7 y0 y1 y2;obtain⟨x0,x1,x2,x3,x4,x5,x6,x7,y0,y1,y2⟩:=HX _ Aa;have HS7:=ag fun w'' hk=>ahU w'' ((aQ.of ow aO).trans hk);clear ow Ny
       cases hins:gJ l ⟨K,⟨1,value,value,value,time,value⟩⟩ with
       |none=>
        rw [hins]at Gw;have HF:=ag (show fU b s time value=1 by rw [tU.1,hins]);clear hins;go_wp2_with (go_at_call 49;(with_reducible refine Gw.out.mono ?_);rintro e w8 ⟨jf,rfl⟩);have cT:=HB _ (aF Aa jf Aa.size);refine bW (v:= .tuple #[az 0 0,az 0 0,af 1]) (by simp [results,Tryz.results20,go_sem, *]) rfl ?_;exact⟨cT,none,0,0,none,0,0,by rw [HF],fun h=>by rw [HF]at h;cases h⟩
       |some l'=>
        obtain⟨hle,Rz⟩:=EW tU.2.2.1 tU.2.2.2.1 tU.2.2.2.2.2.1 rfl tU.2.2.2.2.1 tU.2.2.2.2.2.2 hins;rw [hins]at Gw;have VW:=ag (show fU b s time value=if bw l' 60=none\/bw l' 3600=none then 1 else 0 by rw [tU.1,hins]);have VQ:=ag (show xB b s time value=l' by rw [tU.2.1,hle]);have ZG:=ag Rz;clear hins hle Rz;go_upto_region 19 with (go_at_call 49;(with_reducible refine Gw.out.mono ?_);rintro e w8 ⟨jf,v8,rfl,yr⟩;obtain⟨XL,XM,rfl⟩:=yr.isSlice);have GH:=ag (aF Aa jf Aa.size);have HS8:=ag fun w'' hk=>HS7 w'' ((aQ.of jf aO).trans hk);have HE8:=ag fun w'' (hk:aQ w w8 w'')=>yr.Gp (HB _ Aa).size (by have:=ZG.2.2;omega) hk;clear jf yr r0 r1 r2 r3 r4 r5;clear x0 x1 x2 x3 x4 x5 x6 x7 y0 y1 y2;go_upto_region 22 with (fail)
        go_loopg [13] 2 (fun g iv wr=>∃k:Nat,1<=k/\k<=3/\g=3-k/\iv=af k/\Hid ((2<=k->bw l' 60≠none)/\(3<=k->bw l' 3600≠none))/\aq w8 wr)
        case atStart=>exact⟨1,ai,ai,rfl,rfl,ag ⟨fun h=>absurd h ai,fun h=>absurd h ai⟩,aW _ _⟩
        case round=>
         obtain⟨k,hk1,hk3,rfl,rfl,Kv,hb⟩:=hrel;by_cases hlt:k<3
         ·have tz:(k:Int)<3:=ai;have Zw:=ag (nG k hlt wr);have Eg:0<bp k/\bp k<=3600:=⟨eB k,by unfold bp;split;decide;split <;> decide⟩
          have NZ:=ag fun W (hb':aq w8 W)=>pY ((HE8 _ (aQ.refl _ _)).below hb' aO) ZG Eg.1 Eg.2;obtain⟨Z,hZ⟩:=bG (bp k);rw [hZ]at Zw NZ;have HZ:=ag hZ;clear hZ Eg
          cases I1:bw l' Z with
          |none=>
           have Gy:=ag fun W (hb':aq w8 W)=>(by have:=NZ W hb';rw [I1]at this;exact this:Calls Tryz.prog 43 #[ah XL l' XM,af Z] W (nX W W none));have HF:=ag (show fU b s time value=1 by
            rw [VW];obtain rfl|rfl:k=1\/k=2:=ai
            ·rw [aw (.inl (by rw [<-I1,<-HZ];rfl))]
            ·rw [aw (.inr (by rw [<-I1,<-HZ];rfl))])
           clear I1 NZ;go_wp2_with (first|(go_at_call 44;(with_reducible refine Zw.out.mono ?_);rintro e w9 ⟨rfl,kS⟩;have DW:=ag (aF hb kS hb.size))|(go_at_call 43;(with_reducible refine(Gy.out _ DW.out).mono ?_);rintro e mE ⟨tA,rfl⟩));have cT:=HB _ (aF GH (aF DW tA DW.size) GH.size);refine bW (v:= .tuple #[az 0 0,az 0 0,af 1]) (by simp [results,Tryz.results20,go_sem, *]) rfl ?_;exact⟨cT,none,0,0,none,0,0,by rw [HF],fun h=>by rw [HF]at h;cases h⟩
          |some m=>
           have Gy:=ag fun W (hb':aq w8 W)=>(by have:=NZ W hb';rw [I1]at this;exact this:Calls Tryz.prog 43 #[ah XL l' XM,af Z] W (nX W W (some m)));have ZA:=ag (show (2<=k+1->bw l' 60≠none)/\(3<=k+1->bw l' 3600≠none)from by
            obtain rfl|rfl:k=1\/k=2:=ai
            ·exact⟨fun _=>by rw [show (60:Int)=Z from HZ,I1];simp,fun h=>absurd h ai⟩
            ·exact⟨fun _=>Kv.out.1 ai,fun _=>by rw [show (3600:Int)=Z from HZ,I1];simp⟩)
           clear I1 NZ;go_wp2_with (first|(go_at_call 44;(with_reducible refine Zw.out.mono ?_);rintro e w9 ⟨rfl,kS⟩;have DW:=ag (aF hb kS hb.size))|(go_at_call 43;(with_reducible refine(Gy.out _ DW.out).mono ?_);rintro e mE ⟨tA,v10,rfl,Yb⟩;obtain⟨afG,afH,rfl⟩:=Yb.isSlice));go_roundg (3-(k+1))
           case measure=>omega
           case rel=>exact⟨k+1,ai,ai,rfl,by go_num,ZA,aF DW tA DW.size⟩
         ·obtain rfl:k=3:=ai;have HF:=ag (show fU b s time value=0 by rw [VW,ar];rintro(h|h);exact Kv.out.1 ai h;exact Kv.out.2 ai h);have jQ:=ag (aJ (HB _ (aF GH hb GH.size)) fun w'' hk=>aJ (HS8 w'' ((aQ.of hb aO).trans hk)) (HE8 w'' ((aQ.of hb aO).trans hk)));have Ue:=ag (show bH b s=b.names++[s]from HNV);go_wp2_with fail;refine bW (v:= .tuple #[(ah vo2 (b.names+1) vc2),ah XL l' XM,af 0]) (by simp [results,Tryz.results20,go_sem, *]) rfl ?_;exact⟨jQ.1,_,_,_,_,_,_,by rw [HF],fun _=>by rw [Ue,VQ];exact jQ.2⟩
     ·have dp:decide (pI<0)=false:=xA hp;have TJ:gK b s time value=0:=by
       unfold gK;rw [ar (by simp [hm]),ar (by simp [pR]),ar (by rw [hrf];exact jw rfl),ar ai,ar ai]
      have hI:jG b s=pI:=(by unfold jG;rw [ar ai,hpI]);have HNV:=ag (show bH b s=b.names by unfold bH;rw [ar ai]);have ZV:=ag (HK4.later P7);clear hfl hp hpI;obtain⟨l,hl,hris,Ww,-⟩:=fJ hm;have hsh:=Df hl;have hir:=kE TJ;obtain⟨K,hK⟩:=bG (jG b s*1048576+time);obtain⟨hev,hlv,hpk,hrc⟩:=NU TJ hl hK;have Yk:0<=K/\K<1099511627776:=hpk;have hw1:IntKind.i64.wrap (1048576*(pI))=K-time:=(by rw [<-hI,show 1048576*jG b s=K-time by omega];exact bI _ ai);have hw2:IntKind.i64.wrap (K-time+time)=K:=(by rw [show K-time+time=K by omega];exact bI _ ai);have hw3:IntKind.i64.wrap K=K:=bI _ ai;have Tn:=ag (by have:=Ew w5 (HB _ Ab);rw [hl]at this;exact this:Calls Tryz.prog 25 #[.agg (aL sa b.names sc g0 l0 p0 g1 l1 p1 g2 l2 p2 b)] w5 (nX w5 w5 (some l)));have tU:=ag (aJ hev (aJ hlv (aJ hris (aJ Ww (aJ hpk (aJ hrc hsh))))));clear hl hris Ww hsh hir hK hev hlv hpk hrc TJ hm pR hro hrf Yk;go_upto_region 18 with (go_at_call 25;(with_reducible refine Tn.out.mono ?_);rintro e w7a ⟨ow,v7,rfl,Ny⟩;obtain⟨lo7,lc7,rfl⟩:=Ny.isSlice);have Aa:=ag (aF Ab ow Ab.size);have Gw:=ag (nT (x:=⟨K,⟨1,value,value,value,time,value⟩⟩) (Ny.at (by have:=tU.2.2.2.2.2.2;omega)) (fun e he=>(tU.2.2.2.1.1 e he).2) tU.2.2.2.2.2.1 (by have:=tU.2.2.2.2.2.2;omega));obtain⟨r0,r1,r2,r3,r4,r5⟩:=(ZV.later ow).cells;clear x0 x1 x2 x3 x4 x5 x6 x7 y0 y1 y2;obtain⟨x0,x1,x2,x3,x4,x5,x6,x7,y0,y1,y2⟩:=HX _ Aa;have HS7:=ag fun w'' (hk:aQ w _ w'')=>(ct.owned dD (iU Td ((aQ.of ow aO).trans hk) (HB _ uZ).size) rfl Ke.size:fX w'' (ah vo b.names vc) b.names);clear ow Ny
      cases hins:gJ l ⟨K,⟨1,value,value,value,time,value⟩⟩ with
      |none=>
       rw [hins]at Gw;have HF:=ag (show fU b s time value=1 by rw [tU.1,hins]);clear hins;go_wp2_with (go_at_call 49;(with_reducible refine Gw.out.mono ?_);rintro e w8 ⟨jf,rfl⟩);have cT:=HB _ (aF Aa jf Aa.size);refine bW (v:= .tuple #[az 0 0,az 0 0,af 1]) (by simp [results,Tryz.results20,go_sem, *]) rfl ?_;exact⟨cT,none,0,0,none,0,0,by rw [HF],fun h=>by rw [HF]at h;cases h⟩
      |some l'=>
       obtain⟨hle,Rz⟩:=EW tU.2.2.1 tU.2.2.2.1 tU.2.2.2.2.2.1 rfl tU.2.2.2.2.1 tU.2.2.2.2.2.2 hins;rw [hins]at Gw;have VW:=ag (show fU b s time value=if bw l' 60=none\/bw l' 3600=none then 1 else 0 by rw [tU.1,hins]);have VQ:=ag (show xB b s time value=l' by rw [tU.2.1,hle]);have ZG:=ag Rz;clear hins hle Rz;go_upto_region 19 with (go_at_call 49;(with_reducible refine Gw.out.mono ?_);rintro e w8 ⟨jf,v8,rfl,yr⟩;obtain⟨XL,XM,rfl⟩:=yr.isSlice);have GH:=ag (aF Aa jf Aa.size);have HS8:=ag fun w'' hk=>HS7 w'' ((aQ.of jf aO).trans hk);have HE8:=ag fun w'' (hk:aQ w w8 w'')=>yr.Gp (HB _ Aa).size (by have:=ZG.2.2;omega) hk;clear jf yr r0 r1 r2 r3 r4 r5;clear x0 x1 x2 x3 x4 x5 x6 x7 y0 y1 y2;go_upto_region 22 with (fail)
       go_loopg [13] 2 (fun g iv wr=>∃k:Nat,1<=k/\k<=3/\g=3-k/\iv=af k/\Hid ((2<=k->bw l' 60≠none)/\(3<=k->bw l' 3600≠none))/\aq w8 wr)
       case atStart=>exact⟨1,ai,ai,rfl,rfl,ag ⟨fun h=>absurd h ai,fun h=>absurd h ai⟩,aW _ _⟩
       case round=>
        obtain⟨k,hk1,hk3,rfl,rfl,Kv,hb⟩:=hrel;by_cases hlt:k<3
        ·have tz:(k:Int)<3:=ai;have Zw:=ag (nG k hlt wr);have Eg:0<bp k/\bp k<=3600:=⟨eB k,by unfold bp;split;decide;split <;> decide⟩
         have NZ:=ag fun W (hb':aq w8 W)=>pY ((HE8 _ (aQ.refl _ _)).below hb' aO) ZG Eg.1 Eg.2;obtain⟨Z,hZ⟩:=bG (bp k);rw [hZ]at Zw NZ;have HZ:=ag hZ;clear hZ Eg
         cases I1:bw l' Z with
         |none=>
          have Gy:=ag fun W (hb':aq w8 W)=>(by have:=NZ W hb';rw [I1]at this;exact this:Calls Tryz.prog 43 #[ah XL l' XM,af Z] W (nX W W none));have HF:=ag (show fU b s time value=1 by
           rw [VW];obtain rfl|rfl:k=1\/k=2:=ai
           ·rw [aw (.inl (by rw [<-I1,<-HZ];rfl))]
           ·rw [aw (.inr (by rw [<-I1,<-HZ];rfl))])
          clear I1 NZ;go_wp2_with (first|(go_at_call 44;(with_reducible refine Zw.out.mono ?_);rintro e w9 ⟨rfl,kS⟩;have DW:=ag (aF hb kS hb.size))|(go_at_call 43;(with_reducible refine(Gy.out _ DW.out).mono ?_);rintro e mE ⟨tA,rfl⟩));have cT:=HB _ (aF GH (aF DW tA DW.size) GH.size);refine bW (v:= .tuple #[az 0 0,az 0 0,af 1]) (by simp [results,Tryz.results20,go_sem, *]) rfl ?_;exact⟨cT,none,0,0,none,0,0,by rw [HF],fun h=>by rw [HF]at h;cases h⟩
         |some m=>
          have Gy:=ag fun W (hb':aq w8 W)=>(by have:=NZ W hb';rw [I1]at this;exact this:Calls Tryz.prog 43 #[ah XL l' XM,af Z] W (nX W W (some m)));have ZA:=ag (show (2<=k+1->bw l' 60≠none)/\(3<=k+1->bw l' 3600≠none)from by
           obtain rfl|rfl:k=1\/k=2:=ai
           ·exact⟨fun _=>by rw [show (60:Int)=Z from HZ,I1];simp,fun h=>absurd h ai⟩
           ·exact⟨fun _=>Kv.out.1 ai,fun _=>by rw [show (3600:Int)=Z from HZ,I1];simp⟩)
          clear I1 NZ;go_wp2_with (first|(go_at_call 44;(with_reducible refine Zw.out.mono ?_);rintro e w9 ⟨rfl,kS⟩;have DW:=ag (aF hb kS hb.size))|(go_at_call 43;(with_reducible refine(Gy.out _ DW.out).mono ?_);rintro e mE ⟨tA,v10,rfl,Yb⟩;obtain⟨afG,afH,rfl⟩:=Yb.isSlice));go_roundg (3-(k+1))
          case measure=>omega
          case rel=>exact⟨k+1,ai,ai,rfl,by go_num,ZA,aF DW tA DW.size⟩
        ·obtain rfl:k=3:=ai;have HF:=ag (show fU b s time value=0 by rw [VW,ar];rintro(h|h);exact Kv.out.1 ai h;exact Kv.out.2 ai h);have jQ:=ag (aJ (HB _ (aF GH hb GH.size)) fun w'' hk=>aJ (HS8 w'' ((aQ.of hb aO).trans hk)) (HE8 w'' ((aQ.of hb aO).trans hk)));have Ue:=ag (show bH b s=b.names from HNV);go_wp2_with fail;refine bW (v:= .tuple #[(ah vo b.names vc),ah XL l' XM,af 0]) (by simp [results,Tryz.results20,go_sem, *]) rfl ?_;exact⟨jQ.1,_,_,_,_,_,_,by rw [HF],fun _=>by rw [Ue,VQ];exact jQ.2⟩
   ·have hrf:ej time value=(ax.zero,2):=ar hro;have HF:=ag (show fU b s time value=2 by
     have hf:gK b s time value=2:=by
      unfold gK;rw [ar (by simp [hm]),ar (by simp [pR]),aw (by rw [hrf];decide),hrf]
     unfold fU;rw [aw (by rw [hf];decide),hf])
    rw [hrf]at Ub;clear hm pR hro hrf;go_upto_region 6 with (go_at_call 47;(with_reducible refine(Ub.out _).mono ?_);rintro e w3 ⟨rfl,hb3⟩);obtain⟨W4,yH⟩:=cd (w3.alloc (.cells #[af ax.zero.c,af ax.zero.s,af ax.zero.mi,af ax.zero.ma,af ax.zero.t,af ax.zero.l] 39));have hb4:aq w3 W4:=(by rw [yH];exact aj);have uZ:=ag (aF V4 (aF hb3 hb4 hb3.size) V4.size);rw [<-yH];clear x0 x1 x2 x3 x4 x5 x6 x7 y0 y1 y2;obtain⟨x0,x1,x2,x3,x4,x5,x6,x7,y0,y1,y2⟩:=HX _ uZ;clear yH hb3 hb4;go_upto_region 9 with (at_builtin;refine jS rfl (.const (az 0 0)) (.tmp 41) rfl _ b.names rfl rfl (Ke.below (HB _ uZ) aO) ?_;intro v5 w5 fY cy;obtain⟨vo,vc,rfl⟩:=aU fY);have Ab:=ag (aF uZ cy uZ.size);have TT:=ag (ct.owned dD fY rfl Ke.size:fX w5 (ah vo b.names vc) b.names);have Td:=ag fY;clear x0 x1 x2 x3 x4 x5 x6 x7 y0 y1 y2;obtain⟨x0,x1,x2,x3,x4,x5,x6,x7,y0,y1,y2⟩:=HX _ Ab;clear fY;clear cy;go_wp2_with (go_at_call 48;(with_reducible refine(lR TT.out).mono ?_);rintro e w6 ⟨rfl,U5⟩;obtain rfl:=U5.symm);have cT:=HB _ Ab;refine bW (v:= .tuple #[az 0 0,az 0 0,af 2]) (by simp [results,Tryz.results20,go_sem, *]) rfl ?_;exact⟨cT,none,0,0,none,0,0,by rw [HF],fun h=>by rw [HF]at h;cases h⟩
  ·have pR:dt s=false:=by simpa using pR
   rw [pR]at vZ;have HF:=ag (show fU b s time value=4 by
    have hf:gK b s time value=4:=(by unfold gK;rw [ar (by simp [hm]),aw pR]);unfold fU;rw [aw (by rw [hf];decide),hf])
   clear hm pR;go_wp2_with (go_at_call 46;(with_reducible refine(vZ.out _).mono ?_);rintro e w2 ⟨rfl,hb2⟩);have cT:=HB _ (aF hb1 hb2 hb1.size);refine bW (v:= .tuple #[az 0 0,az 0 0,af 4]) (by simp [results,Tryz.results20,go_sem, *]) rfl ?_;exact⟨cT,none,0,0,none,0,0,by rw [HF],fun h=>by rw [HF]at h;cases h⟩
 ·have hm:aS b=false:=by simpa using hm
  rw [hm]at mY;have HF:=ag (show fU b s time value=7 by
   have hf:gK b s time value=7:=by unfold gK;rw [aw hm]
   unfold fU;rw [aw (by rw [hf];decide),hf])
  clear hm;go_wp2_with (go_at_call 24;(with_reducible refine mY.out.mono ?_);rintro e w1 ⟨rfl,hb1⟩);have cT:=HB _ hb1;refine bW (v:= .tuple #[az 0 0,az 0 0,af 7]) (by simp [results,Tryz.results20,go_sem, *]) rfl ?_;exact⟨cT,none,0,0,none,0,0,by rw [HF],fun h=>by rw [HF]at h;cases h⟩
end Go.Proofs.YtmljjfhgciaceaaGreatDoor
