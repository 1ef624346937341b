import Derived.Test.YtmljjfhgciaceaaDoorHd
import Derived.Test.YtmljjfhgciaceaaDoorAK
import Derived.Test.YtmljjfhgciaceaaDoorRefCopy
import Derived.Test.YtmljjfhgciaceaaDoorBK
import Derived.Test.YtmljjfhgciaceaaDoorPS
import Derived.Test.YtmljjfhgciaceaaDoorRollC
import Derived.Test.YtmljjfhgciaceaaDoorTG
import Derived.Test.YtmljjfhgciaceaaDoorKB
namespace Go.Proofs.YtmljjfhgciaceaaDoor
open Go.RowKit
set_option maxRecDepth 100000
set_option maxHeartbeats 4000000
variable {b:Ba} {s:ByteArray} {time value:Int} {l:List aC} {w:World}
theorem adI {ops:Array Oper} {rest:List Oper} {o:Oper} {a:Act} {Q:Exit->Act->World->Prop} (hgd:o.guard=none) (s x:Operand)
  (ho:o.op = .call { callee:= .builtin .append,args:=#[s,x],argTypes:=#[29,29] }) (u:Value) (xs:List ByteArray) (hs:a.eval s = .slice none 0 0) (hx:a.eval x=u) (hu:jN w u xs)
  (h:∀v' w',w'.ownsRow w.heap.size 9 1 v' xs.length (xs.flatMap jg)->ah w w'->wpList Tryd.prog ops Q rest (a.put o.dst v') w'):wpList Tryd.prog ops Q (o::rest) a w:=by
 obtain⟨i0,z,hi,hz,hz1,hz2,hz3⟩:=cj Tryd.VY
 exact wpList_plain hgd fun _ hK=>adt s x ho i0 z Tryd.underlying29 hi hz hz1 hz2 hz3 aW aW kF u xs (BR xs) hs hx hu fun v' w' h1 h2=>hK _ _ (h v' w' h1 h2)
theorem Pb {T:TypeId}:(w.alloc (.cells #[.string s] T)).cell? ⟨w.heap.size,0,none⟩=some (.string s):=by
 have h:=aj w (.cells #[.string s] T) rfl
 simp only [World.cell?]
 rw [h]
 rfl
def ahO (k:Int):Prop:=0<=k/\k<1099511627776
def aiF (b:Ba) (s:ByteArray) (time value:Int) (w:World) (e:Ending) (w':World):Prop:=ah w w'/\∃no nn nc lo ln lc,e = .returned (.tuple #[.slice no nn nc, .slice lo ln lc, .int .i64 (ny b s time value)]) /\
 (ny b s time value=0->jN w' (.slice no nn nc) (bC b s)/\fu w' (.slice lo ln lc) (Ff b s time value))
theorem ahb {K:Int} (hF:jw b s time value=0) (hl:bY b=some l) (hK:aaj b s*1048576+time=K) :
  ny b s time value=(match jI l ⟨K,⟨1,value,value,value,time,value⟩⟩ with|none=>1|some l'=>if bW l' 60=none\/bW l' 3600=none then 1 else 0)/\Ff b s time value=ins l ⟨K,⟨1,value,value,value,time,value⟩⟩/\ahO K/\aq ⟨1,value,value,value,time,value⟩=0:=by
 obtain⟨-,-,hro,h0,h1,h2,h3,-,hi0,hi1,-⟩:=mS hF
 subst hK
 refine⟨?_,?_,⟨af,af⟩,nT h0 h1 h2 h3⟩
 ·unfold ny;rw [ai (by simp [hF]),hl];simp only;rw [hro];rfl
 ·unfold Ff;rw [hl,hro];rfl
theorem afi {l':List aC} {x:aC} (hr:aT l) (hg:dX l) (hx:aq x.is=0) (h1:x.is.c=1) (hk:ahO x.key) (hl:l.length<=30000) (h:jI l x=some l'):l'=ins l x/\dX l':=by
 rw [yz hr af]at h
 split at h
 ·rename_i hc
  injection h with h
  subst h
  exact⟨rfl,aaY hr hg.1 (dg hx af).1 hc,JX hg.2.1 hk,by have:=GG l x;omega⟩
 ·cases h
theorem af5 (h:bY b=some l):l.length<=30000:=by
 have h1:=(lC h).1
 unfold allT at h1
 split at h1
 ·rename_i hf
  obtain⟨g1,g2⟩:=cS hf
  have h2:=Bk g2
  have h3:=sH (aR 0 1099511627776) b.t0.all
  have h4:=(fR (Fa hf 0 1099511627776).1 h1).2.2.2.1
  omega
 ·cases h1
theorem aiv {v:Value} (h:bO w v b) (hst:∀s∈b.names,s.size<=140737488351232) (xB:s.size<=140737488351232) :
  Calls Tryd.prog 23 #[v, .agg #[.string s, .int .i64 time, .int .i64 value]] w (aiF b s time value w):=by
 have ail:=hdd fun w' (hb:ah w w')=>aeT (h.below hb) hst
 have pc:=hdd fun w' (hb:ah w w')=>af6 (h.below hb)
 obtain⟨sa,sc,g0,l0,p0,g1,l1,p1,g2,l2,p2,rfl,hn,jl,T0,T1,T2⟩:=h.open
 obtain⟨W0,hW0⟩:=bP ((w.alloc (.cells (aG sa b.names.length sc g0 l0 p0 g1 l1 p1 g2 l2 p2 b) 35)).alloc (.cells #[.string s, .int .i64 time, .int .i64 value] 59))
 have hb0:ah w W0:=by rw [hW0];exact ag
 have hz0:W0.heap.size=w.heap.size+2:=by rw [hW0];simp
 have k0:W0.heap[w.heap.size]?=some (.cells (aG sa b.names.length sc g0 l0 p0 g1 l1 p1 g2 l2 p2 b) 35):=by rw [hW0,kW _ _ _ bj];exact aj _ _ rfl
 have k1:W0.heap[w.heap.size+1]?=some (.cells #[.string s, .int .i64 time, .int .i64 value] 59):=by rw [hW0];exact aj _ _ bj
 have HX:=hdd fun W (hb:ah W0 W)=>(by
  have e1:=(hb.block w.heap.size af).trans k0
  have e2:=(hb.block (w.heap.size+1) af).trans k1
  simp [World.cell?,e1,e2]:W.cell? ⟨w.heap.size,0,none⟩=some (.slice sa b.names.length sc)/\W.cell? ⟨w.heap.size,1,none⟩=some (.slice g0 l0 p0)/\W.cell? ⟨w.heap.size,2,none⟩=some (.int .i64 b.t0.root)/\W.cell? ⟨w.heap.size,3,none⟩=some (.slice g1 l1 p1)/\W.cell? ⟨w.heap.size,4,none⟩=some (.int .i64 b.t1.root)/\W.cell? ⟨w.heap.size,5,none⟩=some (.slice g2 l2 p2)/\W.cell? ⟨w.heap.size,6,none⟩=some (.int .i64 b.t2.root)/\W.cell? ⟨w.heap.size,7,none⟩=some (.int .i64 b.floor)/\W.cell? ⟨w.heap.size+1,0,none⟩=some (.string s)/\W.cell? ⟨w.heap.size+1,1,none⟩=some (.int .i64 time)/\W.cell? ⟨w.heap.size+1,2,none⟩=some (.int .i64 value))
 have HB:=hdd fun w' (hb:ah W0 w')=>(Below.trans' hb0 hb hb0.size:ah w w')
 have bp:=hdd jl
 have C0:=hdd (ail.out W0 hb0)
 have xR:=hdd fun W=>aee s W xB
 have N9:=hdd fun W=>ahq time value W
 obtain⟨x0,x1,x2,x3,x4,x5,x6,x7,y0,y1,y2⟩:=HX.out W0 (aI _ _)
 clear h jl T0 T1 T2 ail xB hz0 k1
 go_enter Tryd.func23,Tryd.ntmps23
 go_upto_region 1 with (fail)
 rw [<-hW0]
 clear hW0 k0
 by_cases hm:aO b=true
 ·rw [hm]at C0
  go_upto_region 3 with (go_at_call 43;(with_reducible refine C0.out.mono ?_);rintro e w1 ⟨rfl,hb1⟩;clear x0 x1 x2 x3 x4 x5 x6 x7 y0 y1 y2;obtain⟨x0,x1,x2,x3,x4,x5,x6,x7,y0,y1,y2⟩:=HX.out _ hb1)
  by_cases yB:dL s=true
  ·rw [yB]at xR
   go_upto_region 5 with (go_at_call 44;(with_reducible refine(xR.out _).mono ?_);rintro e w2 ⟨rfl,hb2⟩)
   have tH:ah W0 w2:=Below.trans' hb1 hb2 hb1.size
   have ai8:=hdd tH
   clear x0 x1 x2 x3 x4 x5 x6 x7 y0 y1 y2
   obtain⟨x0,x1,x2,x3,x4,x5,x6,x7,y0,y1,y2⟩:=HX.out _ tH
   clear hb1 hb2 tH
   by_cases hro:0<=time/\time<=1048575/\-1000000<=value/\value<=1000000
   ·have hrf:fF time value=(⟨1,value,value,value,time,value⟩,0):=ar hro
    rw [hrf]at N9
    go_upto_region 6 with (go_at_call 45;(with_reducible refine(N9.out _).mono ?_);rintro e w3 ⟨rfl,hb3⟩)
    obtain⟨W4,BM⟩:=bP (w3.alloc (.cells #[.int .i64 1, .int .i64 value, .int .i64 value, .int .i64 value, .int .i64 time, .int .i64 value] 42))
    have hb4:ah w3 W4:=by rw [BM];exact ag
    have aeG:=hdd (Below.trans' ai8.out (Below.trans' hb3 hb4 hb3.size) ai8.out.size)
    have k4:Az W4 w3.heap.size ⟨1,value,value,value,time,value⟩:=by rw [BM];exact Az.new _ ⟨1,value,value,value,time,value⟩
    rw [<-BM]
    clear x0 x1 x2 x3 x4 x5 x6 x7 y0 y1 y2
    obtain⟨x0,x1,x2,x3,x4,x5,x6,x7,y0,y1,y2⟩:=HX.out _ aeG.out
    have HK4:=hdd k4
    clear BM hb3 hb4 k4
    by_cases hfl:time<b.floor
    ·have HF:=hdd (show ny b s time value=8 by
      have hf:jw b s time value=8:=by
       unfold jw;rw [ai (by simp [hm]),ai (by simp [yB]),ai (by rw [hrf];exact jo rfl),ar hfl]
      unfold ny;rw [ar (by rw [hf];decide),hf])
     have d8:decide (time<b.floor)=true:=decide_eq_true hfl
     clear hm yB hro hrf hfl
     go_upto_region 9 with (at_builtin;refine adI rfl (.const (.slice none 0 0)) (.tmp 41) rfl _ b.names rfl rfl (bp.out.below (HB.out _ aeG.out) aH) ?_;intro v5 w5 iD cu;obtain⟨vo,vc,rfl⟩:=dE iD)
     have aeM:=hdd (Below.trans' aeG.out cu aeG.out.size)
     have Zh:=hdd (dK.owned kF iD rfl bp.out.size:jN w5 (.slice vo b.names.length vc) b.names)
     have Zl:=hdd iD
     clear x0 x1 x2 x3 x4 x5 x6 x7 y0 y1 y2
     obtain⟨x0,x1,x2,x3,x4,x5,x6,x7,y0,y1,y2⟩:=HX.out _ aeM.out
     clear iD
     clear cu
     go_wp2_with (go_at_call 46;(with_reducible refine(aei Zh.out).mono ?_);rintro e w6 ⟨rfl,po⟩;obtain rfl:=po.symm)
     have cZ:=HB.out _ aeM.out
     refine bodyPost_ret (v:= .tuple #[.slice none 0 0, .slice none 0 0, .int .i64 8]) (by simp [results,Tryd.results23,go_sem, *]) rfl ?_
     exact⟨cZ,none,0,0,none,0,0,by rw [HF.out],fun h=>by rw [HF.out]at h;cases h⟩
    ·have d8:decide (time<b.floor)=false:=wJ hfl
     go_upto_region 9 with (at_builtin;refine adI rfl (.const (.slice none 0 0)) (.tmp 41) rfl _ b.names rfl rfl (bp.out.below (HB.out _ aeG.out) aH) ?_;intro v5 w5 iD cu;obtain⟨vo,vc,rfl⟩:=dE iD)
     have aeM:=hdd (Below.trans' aeG.out cu aeG.out.size)
     have Zh:=hdd (dK.owned kF iD rfl bp.out.size:jN w5 (.slice vo b.names.length vc) b.names)
     have Zl:=hdd iD
     clear x0 x1 x2 x3 x4 x5 x6 x7 y0 y1 y2
     obtain⟨x0,x1,x2,x3,x4,x5,x6,x7,y0,y1,y2⟩:=HX.out _ aeM.out
     clear iD
     have Yl:=hdd cu
     clear cu
     go_upto_region 10 with (go_at_call 46;(with_reducible refine(aei Zh.out).mono ?_);rintro e w6 ⟨rfl,po⟩;obtain rfl:=po.symm)
     obtain⟨pI,qs⟩:=bt (aS b.names s)
     rw [qs]
     by_cases hp:pI<0
     ·have dp:decide (pI<0)=true:=decide_eq_true hp
      have Wv:b.names.length<=16:=(dH hm).n16
      by_cases Qf:16<=b.names.length
      ·have HF:=hdd (show ny b s time value=1 by
        have hf:jw b s time value=1:=by
         unfold jw;rw [ai (by simp [hm]),ai (by simp [yB]),ai (by rw [hrf];exact jo rfl),ai af,ar ⟨af,Qf⟩]
        unfold ny;rw [ar (by rw [hf];decide),hf])
       have d16:decide ((16:Int)<=(b.names.length:Int))=true:=by simp;omega
       clear hm yB hro hrf hfl Qf hp qs
       go_wp2_with (at_builtin;refine mX rfl (.tmp 58) (.tmp 61) rfl W4.heap.size _ b.names rfl (World.ownsRow.alloc Zl.out _) ⟨_,0,none⟩ s rfl Pb af (by have:=Yl.out.size;simp;omega) ?_;intro v8 fq Q0 Tc VV;obtain⟨KB,KE,rfl⟩:=dE Q0)
       have cZ:=HB.out _ (show ah W0 fq from Below.grown (aeM.out.alloc aeM.out.size _) Tc (by have:=aeM.out.size;simp;omega) (fun j hj=>ik aeG.out.size (Zl.out.lt j hj).1))
       refine bodyPost_ret (v:= .tuple #[.slice none 0 0, .slice none 0 0, .int .i64 1]) (by simp [results,Tryd.results23,go_sem, *]) rfl ?_
       exact⟨cZ,none,0,0,none,0,0,by rw [HF.out],fun h=>by rw [HF.out]at h;cases h⟩
      ·have Ls:jw b s time value=0:=by
        unfold jw;rw [ai (by simp [hm]),ai (by simp [yB]),ai (by rw [hrf];exact jo rfl),ai af,ai af]
       have d16:decide ((16:Int)<=(b.names.length:Int))=false:=by simp;omega
       have hI:aaj b s=(b.names.length:Int):=by unfold aaj;rw [ar af]
       have HNV:=hdd (show bC b s=b.names++[s] by unfold bC;rw [ar af])
       clear hfl hp qs Qf
       go_upto_region 17 with (at_builtin;refine mX rfl (.tmp 58) (.tmp 61) rfl W4.heap.size _ b.names rfl (World.ownsRow.alloc Zl.out _) ⟨_,0,none⟩ s rfl Pb af (by have:=Yl.out.size;simp;omega) ?_;intro v8 fq Q0 Tc VV;obtain⟨KB,KE,rfl⟩:=dE Q0)
       have ain:=hdd (show ah W4 fq from Below.grown (Yl.out.alloc Yl.out.size _) Tc (by have:=Yl.out.size;simp;omega) (fun j hj=>(Zl.out.lt j hj).1))
       have ahg:=hdd (Below.trans' aeG.out ain.out aeG.out.size)
       have alz:=hdd (dK.owned kF Q0 bj (by simp;omega):jN fq (.slice KB (b.names.length+1) KE) (b.names++[s]))
       have aiJ:=hdd (HK4.out.later ain.out)
       clear x0 x1 x2 x3 x4 x5 x6 x7 y0 y1 y2
       obtain⟨x0,x1,x2,x3,x4,x5,x6,x7,y0,y1,y2⟩:=HX.out _ ahg.out
       clear Q0 Tc VV
       obtain⟨l,hl,hris,qb,-⟩:=iV hm
       have hsh:=af5 hl
       have hir:=mS Ls
       obtain⟨K,hK⟩:=bt (aaj b s*1048576+time)
       obtain⟨hev,hlv,hpk,hrc⟩:=ahb Ls hl hK
       have hkw:0<=K/\K<1099511627776:=hpk
       have hw1:IntKind.i64.wrap (1048576*(b.names.length:Int))=K-time:=by rw [<-hI,show 1048576*aaj b s=K-time by omega];exact IntWalk.i64_in _ af
       have hw2:IntKind.i64.wrap (K-time+time)=K:=by rw [show K-time+time=K by omega];exact IntWalk.i64_in _ af
       have hw3:IntKind.i64.wrap K=K:=IntWalk.i64_in _ af
       have O1:=hdd (by have:=pc.out fq (HB.out _ ahg.out);rw [hl]at this;exact this:Calls Tryd.prog 47 #[.agg (aG sa b.names.length sc g0 l0 p0 g1 l1 p1 g2 l2 p2 b)] fq (Qp fq.heap.size fq (some l)))
       have cd:=hdd (aL hev (aL hlv (aL hris (aL qb (aL hpk (aL hrc hsh))))))
       clear hl hris qb hsh hir hK hev hlv hpk hrc Ls hm yB hro hrf hkw
       go_upto_region 18 with (go_at_call 47;(with_reducible refine O1.out.mono ?_);rintro e w7a ⟨qE,v7,rfl,qa⟩;obtain⟨lo7,lc7,rfl⟩:=qa.isSlice)
       have afa:=hdd (Below.trans' ahg.out qE ahg.out.size)
       have fo:=hdd (adY (x:=⟨K,⟨1,value,value,value,time,value⟩⟩) (qa.at (by have:=cd.out.2.2.2.2.2.2;omega)) (fun e he=>(cd.out.2.2.2.1.1 e he).2) cd.out.2.2.2.2.2.1 (by have:=cd.out.2.2.2.2.2.2;omega))
       obtain⟨r0,r1,r2,r3,r4,r5⟩:=(aiJ.out.later qE).cells
       clear x0 x1 x2 x3 x4 x5 x6 x7 y0 y1 y2
       obtain⟨x0,x1,x2,x3,x4,x5,x6,x7,y0,y1,y2⟩:=HX.out _ afa.out
       have HS7:=hdd (alz.out.below qE aH)
       clear qE qa
       cases hins:jI l ⟨K,⟨1,value,value,value,time,value⟩⟩ with
       |none=>
        rw [hins]at fo
        have HF:=hdd (show ny b s time value=1 by rw [cd.out.1,hins])
        clear hins
        go_wp2_with (go_at_call 48;(with_reducible refine fo.out.mono ?_);rintro e w8 ⟨kS,rfl⟩)
        have cZ:=HB.out _ (Below.trans' afa.out kS afa.out.size)
        refine bodyPost_ret (v:= .tuple #[.slice none 0 0, .slice none 0 0, .int .i64 1]) (by simp [results,Tryd.results23,go_sem, *]) rfl ?_
        exact⟨cZ,none,0,0,none,0,0,by rw [HF.out],fun h=>by rw [HF.out]at h;cases h⟩
       |some l'=>
        obtain⟨hle,ahK⟩:=afi cd.out.2.2.1 cd.out.2.2.2.1 cd.out.2.2.2.2.2.1 rfl cd.out.2.2.2.2.1 cd.out.2.2.2.2.2.2 hins
        rw [hins]at fo
        have fp:=hdd (show ny b s time value=if bW l' 60=none\/bW l' 3600=none then 1 else 0 by rw [cd.out.1,hins])
        have kp:=hdd (show Ff b s time value=l' by rw [cd.out.2.1,hle])
        have ko:=hdd ahK
        clear hins hle ahK
        go_upto_region 19 with (go_at_call 48;(with_reducible refine fo.out.mono ?_);rintro e w8 ⟨kS,v8,rfl,Q0⟩;obtain⟨gg,ib,rfl⟩:=Q0.isSlice)
        have afD:=hdd (Below.trans' afa.out kS afa.out.size)
        have HS8:=hdd (HS7.out.below kS aH)
        have yn:=hdd (Q0.at (by have:=ko.out.2.2;omega))
        clear kS Q0 r0 r1 r2 r3 r4 r5
        clear x0 x1 x2 x3 x4 x5 x6 x7 y0 y1 y2
        go_upto_region 22 with (fail)
        go_loopg [13] 2 (fun g iv wr=>∃k:Nat,1<=k/\k<=3/\g=3-k/\iv = .int .i64 k/\Hid ((2<=k->bW l' 60≠none)/\(3<=k->bW l' 3600≠none))/\ah w8 wr)
        case atStart=>exact⟨1,af,af,rfl,rfl,hdd ⟨fun h=>absurd h af,fun h=>absurd h af⟩,aI _ _⟩
        case round=>
         obtain⟨k,hk1,hk3,rfl,rfl,Ld,hb⟩:=hrel
         by_cases hlt:k<3
         ·have zJ:(k:Int)<3:=af
          have kg:=hdd (ae0 k hlt wr)
          have Ek:0<aQ k/\aQ k<=3600:=⟨ir k,by unfold aQ;split;decide;split <;> decide⟩
          have xo:=hdd fun W (hb':ah w8 W)=>ae1 (yn.out.below hb' aH) ko.out Ek.1 Ek.2
          obtain⟨Z,hZ⟩:=bt (aQ k)
          rw [hZ]at kg xo
          have HZ:=hdd hZ
          clear hZ Ek
          cases od:bW l' Z with
          |none=>
           have vF:=hdd fun W (hb':ah w8 W)=>(by have:=xo.out W hb';rw [od]at this;exact this:Calls Tryd.prog 49 #[.slice gg l'.length ib, .int .i64 Z] W (Qp W.heap.size W none))
           have HF:=hdd (show ny b s time value=1 by
            rw [fp.out]
            obtain rfl|rfl:k=1\/k=2:=af
            ·rw [ar (.inl (by rw [<-od,<-HZ.out];rfl))]
            ·rw [ar (.inr (by rw [<-od,<-HZ.out];rfl))])
           clear od xo
           go_wp2_with (first|(go_at_call 50;(with_reducible refine kg.out.mono ?_);rintro e w9 ⟨rfl,pS⟩;have qD:=hdd (Below.trans' hb pS hb.size))|(go_at_call 49;(with_reducible refine(vF.out _ qD.out).mono ?_);rintro e nQ ⟨zP,rfl⟩))
           have cZ:=HB.out _ (Below.trans' afD.out (Below.trans' qD.out zP qD.out.size) afD.out.size)
           refine bodyPost_ret (v:= .tuple #[.slice none 0 0, .slice none 0 0, .int .i64 1]) (by simp [results,Tryd.results23,go_sem, *]) rfl ?_
           exact⟨cZ,none,0,0,none,0,0,by rw [HF.out],fun h=>by rw [HF.out]at h;cases h⟩
          |some m=>
           have vF:=hdd fun W (hb':ah w8 W)=>(by have:=xo.out W hb';rw [od]at this;exact this:Calls Tryd.prog 49 #[.slice gg l'.length ib, .int .i64 Z] W (Qp W.heap.size W (some m)))
           have aiH:=hdd (show (2<=k+1->bW l' 60≠none)/\(3<=k+1->bW l' 3600≠none)from by
            obtain rfl|rfl:k=1\/k=2:=af
            ·exact⟨fun _=>by rw [show (60:Int)=Z from HZ.out,od];simp,fun h=>absurd h af⟩
            ·exact⟨fun _=>Ld.out.1 af,fun _=>by rw [show (3600:Int)=Z from HZ.out,od];simp⟩)
           clear od xo
           go_wp2_with (first|(go_at_call 50;(with_reducible refine kg.out.mono ?_);rintro e w9 ⟨rfl,pS⟩;have qD:=hdd (Below.trans' hb pS hb.size))|(go_at_call 49;(with_reducible refine(vF.out _ qD.out).mono ?_);rintro e nQ ⟨zP,v10,rfl,aiz⟩;obtain⟨aka,akb,rfl⟩:=aiz.isSlice))
           go_roundg (3-(k+1))
           case measure=>omega
           case rel=>exact⟨k+1,af,af,rfl,by go_num,aiH,Below.trans' qD.out zP qD.out.size⟩
         ·obtain rfl:k=3:=af
          have HF:=hdd (show ny b s time value=0 by rw [fp.out,ai];rintro(h|h);exact Ld.out.1 af h;exact Ld.out.2 af h)
          have kN:=hdd (aL (HB.out _ (Below.trans' afD.out hb afD.out.size)) (aL (HS8.out.below hb aH) (yn.out.below hb aH)))
          have Ca:=hdd (show bC b s=b.names++[s]from HNV.out)
          go_wp2_with fail
          refine bodyPost_ret (v:= .tuple #[(.slice KB (b.names.length+1) KE), .slice gg l'.length ib, .int .i64 0]) (by simp [results,Tryd.results23,go_sem, *]) rfl ?_
          exact⟨kN.out.1,_,_,_,_,_,_,by rw [HF.out],fun _=>by rw [Ca.out,kp.out];exact kN.out.2⟩
     ·have dp:decide (pI<0)=false:=wJ hp
      have Ls:jw b s time value=0:=by
       unfold jw;rw [ai (by simp [hm]),ai (by simp [yB]),ai (by rw [hrf];exact jo rfl),ai af,ai af]
      have hI:aaj b s=pI:=by unfold aaj;rw [ai af,qs]
      have HNV:=hdd (show bC b s=b.names by unfold bC;rw [ai af])
      have aiJ:=hdd (HK4.out.later Yl.out)
      clear hfl hp qs
      obtain⟨l,hl,hris,qb,-⟩:=iV hm
      have hsh:=af5 hl
      have hir:=mS Ls
      obtain⟨K,hK⟩:=bt (aaj b s*1048576+time)
      obtain⟨hev,hlv,hpk,hrc⟩:=ahb Ls hl hK
      have hkw:0<=K/\K<1099511627776:=hpk
      have hw1:IntKind.i64.wrap (1048576*(pI))=K-time:=by rw [<-hI,show 1048576*aaj b s=K-time by omega];exact IntWalk.i64_in _ af
      have hw2:IntKind.i64.wrap (K-time+time)=K:=by rw [show K-time+time=K by omega];exact IntWalk.i64_in _ af
      have hw3:IntKind.i64.wrap K=K:=IntWalk.i64_in _ af
      have O1:=hdd (by have:=pc.out w5 (HB.out _ aeM.out);rw [hl]at this;exact this:Calls Tryd.prog 47 #[.agg (aG sa b.names.length sc g0 l0 p0 g1 l1 p1 g2 l2 p2 b)] w5 (Qp w5.heap.size w5 (some l)))
      have cd:=hdd (aL hev (aL hlv (aL hris (aL qb (aL hpk (aL hrc hsh))))))
      clear hl hris qb hsh hir hK hev hlv hpk hrc Ls hm yB hro hrf hkw
      go_upto_region 18 with (go_at_call 47;(with_reducible refine O1.out.mono ?_);rintro e w7a ⟨qE,v7,rfl,qa⟩;obtain⟨lo7,lc7,rfl⟩:=qa.isSlice)
      have afa:=hdd (Below.trans' aeM.out qE aeM.out.size)
      have fo:=hdd (adY (x:=⟨K,⟨1,value,value,value,time,value⟩⟩) (qa.at (by have:=cd.out.2.2.2.2.2.2;omega)) (fun e he=>(cd.out.2.2.2.1.1 e he).2) cd.out.2.2.2.2.2.1 (by have:=cd.out.2.2.2.2.2.2;omega))
      obtain⟨r0,r1,r2,r3,r4,r5⟩:=(aiJ.out.later qE).cells
      clear x0 x1 x2 x3 x4 x5 x6 x7 y0 y1 y2
      obtain⟨x0,x1,x2,x3,x4,x5,x6,x7,y0,y1,y2⟩:=HX.out _ afa.out
      have HS7:=hdd (Zh.out.below qE aH)
      clear qE qa
      cases hins:jI l ⟨K,⟨1,value,value,value,time,value⟩⟩ with
      |none=>
       rw [hins]at fo
       have HF:=hdd (show ny b s time value=1 by rw [cd.out.1,hins])
       clear hins
       go_wp2_with (go_at_call 48;(with_reducible refine fo.out.mono ?_);rintro e w8 ⟨kS,rfl⟩)
       have cZ:=HB.out _ (Below.trans' afa.out kS afa.out.size)
       refine bodyPost_ret (v:= .tuple #[.slice none 0 0, .slice none 0 0, .int .i64 1]) (by simp [results,Tryd.results23,go_sem, *]) rfl ?_
       exact⟨cZ,none,0,0,none,0,0,by rw [HF.out],fun h=>by rw [HF.out]at h;cases h⟩
      |some l'=>
       obtain⟨hle,ahK⟩:=afi cd.out.2.2.1 cd.out.2.2.2.1 cd.out.2.2.2.2.2.1 rfl cd.out.2.2.2.2.1 cd.out.2.2.2.2.2.2 hins
       rw [hins]at fo
       have fp:=hdd (show ny b s time value=if bW l' 60=none\/bW l' 3600=none then 1 else 0 by rw [cd.out.1,hins])
       have kp:=hdd (show Ff b s time value=l' by rw [cd.out.2.1,hle])
       have ko:=hdd ahK
       clear hins hle ahK
       go_upto_region 19 with (go_at_call 48;(with_reducible refine fo.out.mono ?_);rintro e w8 ⟨kS,v8,rfl,Q0⟩;obtain⟨gg,ib,rfl⟩:=Q0.isSlice)
       have afD:=hdd (Below.trans' afa.out kS afa.out.size)
       have HS8:=hdd (HS7.out.below kS aH)
       have yn:=hdd (Q0.at (by have:=ko.out.2.2;omega))
       clear kS Q0 r0 r1 r2 r3 r4 r5
       clear x0 x1 x2 x3 x4 x5 x6 x7 y0 y1 y2
       go_upto_region 22 with (fail)
       go_loopg [13] 2 (fun g iv wr=>∃k:Nat,1<=k/\k<=3/\g=3-k/\iv = .int .i64 k/\Hid ((2<=k->bW l' 60≠none)/\(3<=k->bW l' 3600≠none))/\ah w8 wr)
       case atStart=>exact⟨1,af,af,rfl,rfl,hdd ⟨fun h=>absurd h af,fun h=>absurd h af⟩,aI _ _⟩
       case round=>
        obtain⟨k,hk1,hk3,rfl,rfl,Ld,hb⟩:=hrel
        by_cases hlt:k<3
        ·have zJ:(k:Int)<3:=af
         have kg:=hdd (ae0 k hlt wr)
         have Ek:0<aQ k/\aQ k<=3600:=⟨ir k,by unfold aQ;split;decide;split <;> decide⟩
         have xo:=hdd fun W (hb':ah w8 W)=>ae1 (yn.out.below hb' aH) ko.out Ek.1 Ek.2
         obtain⟨Z,hZ⟩:=bt (aQ k)
         rw [hZ]at kg xo
         have HZ:=hdd hZ
         clear hZ Ek
         cases od:bW l' Z with
         |none=>
          have vF:=hdd fun W (hb':ah w8 W)=>(by have:=xo.out W hb';rw [od]at this;exact this:Calls Tryd.prog 49 #[.slice gg l'.length ib, .int .i64 Z] W (Qp W.heap.size W none))
          have HF:=hdd (show ny b s time value=1 by
           rw [fp.out]
           obtain rfl|rfl:k=1\/k=2:=af
           ·rw [ar (.inl (by rw [<-od,<-HZ.out];rfl))]
           ·rw [ar (.inr (by rw [<-od,<-HZ.out];rfl))])
          clear od xo
          go_wp2_with (first|(go_at_call 50;(with_reducible refine kg.out.mono ?_);rintro e w9 ⟨rfl,pS⟩;have qD:=hdd (Below.trans' hb pS hb.size))|(go_at_call 49;(with_reducible refine(vF.out _ qD.out).mono ?_);rintro e nQ ⟨zP,rfl⟩))
          have cZ:=HB.out _ (Below.trans' afD.out (Below.trans' qD.out zP qD.out.size) afD.out.size)
          refine bodyPost_ret (v:= .tuple #[.slice none 0 0, .slice none 0 0, .int .i64 1]) (by simp [results,Tryd.results23,go_sem, *]) rfl ?_
          exact⟨cZ,none,0,0,none,0,0,by rw [HF.out],fun h=>by rw [HF.out]at h;cases h⟩
         |some m=>
          have vF:=hdd fun W (hb':ah w8 W)=>(by have:=xo.out W hb';rw [od]at this;exact this:Calls Tryd.prog 49 #[.slice gg l'.length ib, .int .i64 Z] W (Qp W.heap.size W (some m)))
          have aiH:=hdd (show (2<=k+1->bW l' 60≠none)/\(3<=k+1->bW l' 3600≠none)from by
           obtain rfl|rfl:k=1\/k=2:=af
           ·exact⟨fun _=>by rw [show (60:Int)=Z from HZ.out,od];simp,fun h=>absurd h af⟩
           ·exact⟨fun _=>Ld.out.1 af,fun _=>by rw [show (3600:Int)=Z from HZ.out,od];simp⟩)
          clear od xo
          go_wp2_with (first|(go_at_call 50;(with_reducible refine kg.out.mono ?_);rintro e w9 ⟨rfl,pS⟩;have qD:=hdd (Below.trans' hb pS hb.size))|(go_at_call 49;(with_reducible refine(vF.out _ qD.out).mono ?_);rintro e nQ ⟨zP,v10,rfl,aiz⟩;obtain⟨aka,akb,rfl⟩:=aiz.isSlice))
          go_roundg (3-(k+1))
          case measure=>omega
          case rel=>exact⟨k+1,af,af,rfl,by go_num,aiH,Below.trans' qD.out zP qD.out.size⟩
        ·obtain rfl:k=3:=af
         have HF:=hdd (show ny b s time value=0 by rw [fp.out,ai];rintro(h|h);exact Ld.out.1 af h;exact Ld.out.2 af h)
         have kN:=hdd (aL (HB.out _ (Below.trans' afD.out hb afD.out.size)) (aL (HS8.out.below hb aH) (yn.out.below hb aH)))
         have Ca:=hdd (show bC b s=b.names from HNV.out)
         go_wp2_with fail
         refine bodyPost_ret (v:= .tuple #[(.slice vo b.names.length vc), .slice gg l'.length ib, .int .i64 0]) (by simp [results,Tryd.results23,go_sem, *]) rfl ?_
         exact⟨kN.out.1,_,_,_,_,_,_,by rw [HF.out],fun _=>by rw [Ca.out,kp.out];exact kN.out.2⟩
   ·have hrf:fF time value=(aw.zero,2):=ai hro
    have HF:=hdd (show ny b s time value=2 by
     have hf:jw b s time value=2:=by
      unfold jw;rw [ai (by simp [hm]),ai (by simp [yB]),ar (by rw [hrf];decide),hrf]
     unfold ny;rw [ar (by rw [hf];decide),hf])
    rw [hrf]at N9
    clear hm yB hro hrf
    go_upto_region 6 with (go_at_call 45;(with_reducible refine(N9.out _).mono ?_);rintro e w3 ⟨rfl,hb3⟩)
    obtain⟨W4,BM⟩:=bP (w3.alloc (.cells #[.int .i64 aw.zero.c, .int .i64 aw.zero.s, .int .i64 aw.zero.mi, .int .i64 aw.zero.ma, .int .i64 aw.zero.t, .int .i64 aw.zero.l] 42))
    have hb4:ah w3 W4:=by rw [BM];exact ag
    have aeG:=hdd (Below.trans' ai8.out (Below.trans' hb3 hb4 hb3.size) ai8.out.size)
    rw [<-BM]
    clear x0 x1 x2 x3 x4 x5 x6 x7 y0 y1 y2
    obtain⟨x0,x1,x2,x3,x4,x5,x6,x7,y0,y1,y2⟩:=HX.out _ aeG.out
    clear BM hb3 hb4
    go_upto_region 9 with (at_builtin;refine adI rfl (.const (.slice none 0 0)) (.tmp 41) rfl _ b.names rfl rfl (bp.out.below (HB.out _ aeG.out) aH) ?_;intro v5 w5 iD cu;obtain⟨vo,vc,rfl⟩:=dE iD)
    have aeM:=hdd (Below.trans' aeG.out cu aeG.out.size)
    have Zh:=hdd (dK.owned kF iD rfl bp.out.size:jN w5 (.slice vo b.names.length vc) b.names)
    have Zl:=hdd iD
    clear x0 x1 x2 x3 x4 x5 x6 x7 y0 y1 y2
    obtain⟨x0,x1,x2,x3,x4,x5,x6,x7,y0,y1,y2⟩:=HX.out _ aeM.out
    clear iD
    clear cu
    go_wp2_with (go_at_call 46;(with_reducible refine(aei Zh.out).mono ?_);rintro e w6 ⟨rfl,po⟩;obtain rfl:=po.symm)
    have cZ:=HB.out _ aeM.out
    refine bodyPost_ret (v:= .tuple #[.slice none 0 0, .slice none 0 0, .int .i64 2]) (by simp [results,Tryd.results23,go_sem, *]) rfl ?_
    exact⟨cZ,none,0,0,none,0,0,by rw [HF.out],fun h=>by rw [HF.out]at h;cases h⟩
  ·have yB:dL s=false:=by simpa using yB
   rw [yB]at xR
   have HF:=hdd (show ny b s time value=4 by
    have hf:jw b s time value=4:=by unfold jw;rw [ai (by simp [hm]),ar yB]
    unfold ny;rw [ar (by rw [hf];decide),hf])
   clear hm yB
   go_wp2_with (go_at_call 44;(with_reducible refine(xR.out _).mono ?_);rintro e w2 ⟨rfl,hb2⟩)
   have cZ:=HB.out _ (Below.trans' hb1 hb2 hb1.size)
   refine bodyPost_ret (v:= .tuple #[.slice none 0 0, .slice none 0 0, .int .i64 4]) (by simp [results,Tryd.results23,go_sem, *]) rfl ?_
   exact⟨cZ,none,0,0,none,0,0,by rw [HF.out],fun h=>by rw [HF.out]at h;cases h⟩
 ·have hm:aO b=false:=by simpa using hm
  rw [hm]at C0
  have HF:=hdd (show ny b s time value=7 by
   have hf:jw b s time value=7:=by unfold jw;rw [ar hm]
   unfold ny;rw [ar (by rw [hf];decide),hf])
  clear hm
  go_wp2_with (go_at_call 43;(with_reducible refine C0.out.mono ?_);rintro e w1 ⟨rfl,hb1⟩)
  have cZ:=HB.out _ hb1
  refine bodyPost_ret (v:= .tuple #[.slice none 0 0, .slice none 0 0, .int .i64 7]) (by simp [results,Tryd.results23,go_sem, *]) rfl ?_
  exact⟨cZ,none,0,0,none,0,0,by rw [HF.out],fun h=>by rw [HF.out]at h;cases h⟩
end Go.Proofs.YtmljjfhgciaceaaDoor
