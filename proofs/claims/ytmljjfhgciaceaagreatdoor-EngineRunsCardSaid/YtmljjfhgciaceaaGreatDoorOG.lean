/- Lemmas of the proof. -/
import Derived.Test.YtmljjfhgciaceaaGreatDoorHd
import Derived.Test.YtmljjfhgciaceaaGreatDoorCz
import Derived.Test.YtmljjfhgciaceaaGreatDoorBK
import Derived.Test.YtmljjfhgciaceaaGreatDoorPG
import Derived.Test.YtmljjfhgciaceaaGreatDoorPU
set_option maxRecDepth 100000
set_option maxHeartbeats 4000000
namespace Go.Proofs.YtmljjfhgciaceaaGreatDoor
open Go.RowKit
def xd:Tr:=⟨[⟨true,[],[],[],[]⟩],0⟩
theorem Q3:nU xd 12 0 0 1099511627776=some ([0],1):=by
 have h:xd.dm 0=some ⟨true,[],[],[],[]⟩:=rfl;unfold nU;rw [h];simp only;rw [ar bY,aw trivial,aw ⟨rfl,rfl,rfl,bY, .inr rfl,lJ _ _⟩]
theorem Lh:aC xd=0:=xN bY ⟨[0],1,Q3,bh,rfl⟩
theorem Q4 (lo hi:Int):mz xd lo hi=some []:=rfl
theorem xM (w:World):Calls Tryz.prog 33 #[] w fun e w'=>∃g,e = .returned (.agg #[.slice (some ⟨g,0,none⟩) 1 1, .int .i64 0])/\w.heap.size<=g/\g<w'.heap.size/\w'.heap[g]?=some (.cells #[.bool true, .slice none 0 0, .slice none 0 0, .slice none 0 0, .slice none 0 0] 125)/\aq w w':=by
 go_enter Tryz.func33,Tryz.ntmps33;go_wp2;exact bW (v:= .agg #[.slice (some ⟨w.heap.size+1,0,none⟩) 1 1, .int .i64 0]) (by simp [results,Tryz.results33,go_sem]) rfl ⟨_,rfl,ai,bh,by first|(with_reducible exact au _ _ bh)|simp,aj⟩
theorem Ie {w:World} {g:Nat} {T:TypeId} (h:w.heap[g]?=some (.cells #[.bool true,az 0 0,az 0 0,az 0 0,az 0 0] T)):bn w (ah g 1 1) xd.nodes:=by
 refine⟨[⟨true,az 0 0,az 0 0,az 0 0,az 0 0⟩],⟨_,_,rfl,bY,bY,bY,bh,fun _=>⟨g,0,rfl,(eJ.1 h).1,fun i x hx j u hu=>?_⟩⟩,rfl,fun i r x hr hx=>?_⟩
 ·match i,hx with
  |0,hx=>
   simp only [List.getElem?_cons_zero,iJ]at hx;subst hx;simp only [World.cell?,h];simpa [bS] using hu
 ·match i,hr,hx with
  |0,hr,hx=>
   simp only [xd,List.getElem?_cons_zero,iJ]at hr hx;subst hr hx;exact⟨rfl,ct.nil _ _ _ _,ct.nil _ _ _ _,ct.nil _ _ _ _,ct.nil _ _ _ _⟩
section
variable {l:List aH} {t:Tr} {w:World}
theorem Made.kL {k:Nat} (h:Made (l.take k) t) (hk:k<l) (ho:¬∃p,mN l k=some p/\l[k].key<=p) :
  kL t l[k].key l[k].is=if l[k].key<0\/1099511627776<=l[k].key\/l[k].is.c=0 then 2 else if av l[k].is≠0 then av l[k].is else 0:=by
 unfold Go.Proofs.YtmljjfhgciaceaaGreatDoor.kL;rw [ar (by simp [h.1])];by_cases h2:l[k].key<0\/1099511627776<=l[k].key\/l[k].is.c=0
 ·rw [aw h2,aw h2]
 ·rw [ar h2,ar h2];by_cases h3:av l[k].is=0
  ·obtain⟨hz,-⟩:=h.put hk ho h2 h3;have:=(dC h3 ai).2;have hle:(ax.zero:ax).c+l[k].is.c<=1073741824:=by show (0:Int)+_<=_;omega
   simp only [h3,hz,ne_eq,not_true_eq_false,if_false,aw hle]
  ·rw [aw h3,aw h3]
def Zp (l:List aH) (w:World) (x:Ending) (w':World):Prop:=
 aq w w'/\((∃E,E≠0/\(E=jM none l\/(E=1/\2900<l.length))/\x = .returned (.tuple #[nY,af E])) \/
  (jM none l=0/\∃t v,x = .returned (.tuple #[v,af 0])/\(∀w'',aQ (w+1) w' w''->di w'' v t)/\Made l t))
structure S3 (w:World) (tb:Nat) (l:List aH) (k:Nat) (s:Option Addr) (n c:Nat) (t:Tr) (wr:World):Prop where
 below:aq w wr
 size:w<tb
 lt:tb<wr
 z0:wr.cell? (w,0)=some (az 0 0)
 z1:wr.cell? (w,1)=some (af 0)
 zf:∀o,wr.frozen? ⟨w.heap.size,o,none⟩=false
 t0:wr.cell? (tb,0)=some (ah s n c)
 t1:wr.cell? (tb,1)=some (af t.root)
 tf:∀o,wr.frozen? ⟨tb,o,none⟩=false
 tree:∀w'',wr.heap.size<=w''.heap.size->(∀b,w.heap.size<b->b≠tb->b<wr.heap.size->w''.heap[b]?=wr.heap[b]?)->di w'' (.agg #[.slice s n c, .int .i64 t.root]) t
 made:Made (l.take k) t
 aI:jM none l=jM (mN l k) (l.drop k)
theorem S3.later {tb:Nat} {k:Nat} {s:Option Addr} {n c:Nat} {wr w':World} (h:S3 w tb l k s n c t wr) (hb:aq wr w'):S3 w tb l k s n c t w':=by
 have h1:=h.size;have h2:=h.lt;have k0:=rY hb (B:=w.heap.size) ai;have k1:=rY hb (B:=tb) h2;exact⟨aF h.below hb h.below.size,h1,k1.1,(k0.2.1 _).trans h.z0,(k0.2.1 _).trans h.z1,fun o=>(k0.2.2 o).trans (h.zf o),(k1.2.1 _).trans h.t0,(k1.2.1 _).trans h.t1,fun o=>(k1.2.2 o).trans (h.tf o),fun w'' hs hk=>h.tree w'' (fZ hb.size hs) fun b b1 b2 b3=>(hk b b1 b2 (oI b3 hb.size)).trans (hb.block b b3),h.made,h.aI⟩
theorem PB {k:Nat} (h:jM none l=jM (mN l k) (l.drop k)) (hk:l<=k):jM none l=0:=by rw [h,zX hk];rfl
theorem KF {v:Value} (h:cX w v l):Calls Tryz.prog 79 #[v] w (Zp l w):=by
 have HE:=ag h;obtain⟨ao,cap,rfl,a1,a2,a3,a4,a5⟩:=h;obtain⟨W0,hW0⟩:=cd (w.alloc (.cells #[az 0 0,af 0] 27));have hb0:aq w W0:=by rw [hW0];exact aj
 have hz0:W0=w.heap.size+1:=by rw [hW0];simp
 have k0:W0.heap[w.heap.size]?=some (.cells #[az 0 0,af 0] 27):=by rw [hW0];exact au _ _ rfl
 have HN:=ag (xM W0);go_enter Tryz.func79,Tryz.ntmps79;go_upto_region 1 with (fail);rw [<-hW0];clear hW0;go_upto_region 2 with (go_at_call 33;(with_reducible refine HN.out.mono ?_);rintro e w1 ⟨g,rfl,hg1,hg2,hg,hb1⟩);obtain⟨W1,hW1⟩:=cd (w1.alloc (.cells #[ah g 1 1,af 0] 27));have xm:aq w1 W1:=by rw [hW1];exact aj
 have k1:W1.heap[w1.heap.size]?=some (.cells #[ah g 1 1,af 0] 27):=by rw [hW1];exact au _ _ rfl
 have hs1:=hb1.size;have hz1:W1=w1.heap.size+1:=by rw [hW1];simp
 have k01:=(xm.block w ai).trans ((hb1.block w ai).trans k0);have HI:=ag (show S3 w w1 l 0 (some (g,0)) 1 1 xd W1 from
  ⟨aF (aF hb0 hb1 hb0.size) xm ai,ai,ai,by simp [World.cell?,k01],by simp [World.cell?,k01],fun o=>by simp [World.frozen?,k01],by simp [World.cell?,k1],by show W1.cell? (w1,1)=some (af 0);simp [World.cell?,k1],fun o=>by simp [World.frozen?,k1],
   fun w'' hs hk=>⟨_,rfl,Ie ((hk g ai ai ai).trans ((xm.block g hg2).trans hg))⟩,Io,rfl⟩)
 rw [<-hW1];obtain⟨tb,IY⟩:=bG (w1.heap.size);rw [IY]at HI ⊢;clear hW1 k1 hs1 hz1 k01 k0 hb1 xm hg hg1 hg2 hb0 IY;go_wp2_with fail
 go_loopg [12] l (fun g i wr=>∃k:Nat,k<=l/\g=l-k/\i=af k/\Hid (∃s n c t,S3 w tb l k s n c t wr))
 case atStart=>exact⟨0,eY _,rfl,rfl,ag ⟨_,_,_,_,HI⟩⟩
 case round=>
  clear HI;obtain⟨k,hk,rfl,rfl,HR⟩:=hrel;obtain⟨s,n,c,t,hA⟩:=HR.out;by_cases hlt:k<l
  ·obtain⟨ab,aR,rfl,qy,ac⟩:=a5 ai;obtain⟨c0,c1,c2,c3,c4,c5,c6⟩:=br hA.below qy ac hlt;obtain⟨p,hp⟩:∃p:Int,∀iy:0<k,(wr,ab,aR+(k-1)*7,p)/\mN l k=some p:=by
    by_cases iy:0<k
    ·obtain⟨q0,-⟩:=br hA.below qy ac (show k-1<l by omega);refine⟨_,fun _=>⟨q0,?_⟩⟩;unfold mN;rw [ar ai,oZ ai];rfl
    ·exact⟨0,fun h=>absurd h iy⟩
   have hbz:=hA.below.size;have ahc:ab<wr:=ai;have hEA:=Sr hlt;have hPE:=hA.made.kL hlt;have hMP:=hA.made.put hlt;obtain⟨e,he⟩:=bG (l[k]);rw [he]at c0 c1 c2 c3 c4 c5 c6 hEA hPE hMP;obtain⟨W5,mD⟩:=cd (wr.alloc (.cells #[af e.key,af e.is.c,af e.is.s,af e.is.mi,af e.is.ma,af e.is.t,af e.is.l] 107));have tS:aq wr W5:=by rw [mD];exact(aW _ _).alloc aO _
   have n0:W5.heap[wr.heap.size]?=some (.cells #[af e.key,af e.is.c,af e.is.s,af e.is.mi,af e.is.ma,af e.is.t,af e.is.l] 107):=by rw [mD];exact au _ _ rfl
   have vQ:W5=wr.heap.size+1:=by rw [mD];simp
   have HA5:=ag (hA.later tS);have tM:=ag fun(W:World) (hb:aq W5 W)=>(by
    have b0:=(hb.block _ ai).trans n0;simp [World.cell?,b0]:(W,wr.heap.size,0,e.key)/\(W,wr.heap.size,1,e.is.c)/\(W,wr.heap.size,2,e.is.s)/\(W,wr.heap.size,3,e.is.mi)/\(W,wr.heap.size,4,e.is.ma)/\(W,wr.heap.size,5,e.is.t)/\(W,wr.heap.size,6,e.is.l))
   have HEA:=ag hEA;have HPE:=ag hPE;have HMP:=ag hMP;have HP:=ag fun(h:0<k)=>(tS.cell (p:=(ab,aR+(k-1)*7)) ahc).trans (hp h).1;have P6:=ag (show (∃q,mN l k=some q/\e.key<=q)↔0<k/\e.key<=p from by
    by_cases iy:0<k
    ·rw [(hp iy).2];simp [iy]
    ·have:mN l k=none:=(by unfold mN;rw [aw ai]);rw [this];simp;omega)
   have Yr:=fun w'=>cN (ab:=ab) (aR:=aR) (n:=l.length) (cap:=cap) (show (k:Int)=((k:Nat):Int) by rfl) hlt w';clear hA ac a5 he hp hEA hPE hMP n0 tS;go_upto_region 5 with (fail);rw [<-mD];clear mD c0 c1 c2 c3 c4 c5 c6 Yr;go_cut [29] (fun b wx=>∃B:Bool,(B=true↔0<k/\e.key<=p)/\b = .bool B/\aq W5 wx)
   case first=>
    obtain⟨s0,-⟩:=tM _ (aW _ _);by_cases g3:0<k
    ·have d3:decide ((0:Int)<k)=true:=(by simpa using g3);have q0:=HP g3;have jA:=fun w=>cN (ab:=ab) (aR:=aR) (n:=l.length) (cap:=cap) (show (k:Int)-1=((k-1:Nat):Int) by omega) ai w;have hw1:IntKind.i64.wrap ((k:Int)-1)=(k:Int)-1:=bI _ ai;obtain⟨B,hB⟩:=bG (decide (e.key<=p));have HB:=ag (show B=true↔0<k/\e.key<=p by rw [<-hB];simp [g3]);go_quiet (fail);go_wp2;go_meet;exact⟨_,HB,rfl,aj⟩
    ·obtain rfl:k=0:=ai;go_quiet (fail);go_wp2;go_meet;exact⟨false,bh,rfl,aj⟩
   case rest=>
    obtain⟨B,hB,rfl,LX⟩:=hcut;have HLB:=ag (P6.trans hB.symm);have Xq:=ag (HA5.later LX);have hax:=Xq.out;obtain⟨s0,s1,s2,s3,s4,s5,s6⟩:=tM _ LX;have VY:=ag LX;have Zx:=ag hax.aI;have hzx:=LX.size;obtain⟨x0,x1,x2,x3,x4,x5,x6,x7,x8,-,-,-⟩:=hax;clear hB LX P6 HP tM HR
    cases B with
    |true=>
     go_wp2_with fail;have cT:=x0;refine bW (v:= .tuple #[nY,af 8]) (by simp [results,Tryz.results79,go_sem, *]) rfl ⟨aj, .inl ⟨8,bY, .inl ?_,rfl⟩⟩;rw [Zx,HEA,aw (HLB.2 bh)]
    |false=>
     have ho:¬∃q,mN l k=some q/\e.key<=q:=fun h=>(by have:=HLB.1 h;cases this);have adt:=ag (HPE ho);have ZP:=ag (HMP ho);have adF:=ag (show jM none l=if e.key<0\/1099511627776<=e.key\/e.is.c=0 then 2 else if av e.is≠0 then av e.is else jM (mN l (k+1)) (l.drop (k+1)) by rw [Zx,HEA,ar ho]);have PZ:=ag (xK (key:=e.key) (r:=e.is) (Xq.tree _ aO fun _ _ _ _=>rfl) (fun h0=>by
      obtain⟨-,e1,e2,e3,e4,-⟩:=FM h0;exact(ZP ai e4).2.1))
     clear ho HEA HPE HMP Zx;go_upto_region 8 with ((go_at_call 70;(with_reducible refine PZ.out.mono ?_);rintro x w6 ⟨ji,so,n6,c6,rt,E2,rfl,hpf⟩));obtain⟨W7,pF⟩:=cd (w6.alloc (.cells #[ah so n6 c6,af rt] 27));have ow:aq w6 W7:=(by rw [pF];exact aj);have k7:W7.heap[w6.heap.size]?=some (.cells #[ah so n6 c6,af rt] 27):=(by rw [pF];exact au _ _ rfl);have HPF:=ag hpf;have zn:=ag ow;have hx6:=ji.size;have hx7:W7=w6.heap.size+1:=(by rw [pF];simp);have HA7:=ag (Xq.later (aF ji ow hx6));rw [<-pF];clear pF x0 x3 x4 x5 x6 x7 x8 s0 s1 s2 s3 s4 s5 s6 ji ow hpf;obtain⟨x0,-,x2,x3,x4,x5,x6,x7,x8,-,-,-⟩:=HA7.out;by_cases h0:E2=0
     ·subst h0;obtain⟨q0,q1⟩:W7.cell? (w6,0)=some (ah so n6 c6)/\(W7,w6.heap.size,1,rt):=(by simp [World.cell?,k7]);clear k7;go_wp2_with fail;go_roundg (l-(k+1))
      case measure=>omega
      case rel=>
       refine⟨k+1,ai,rfl,by go_num,ag ?_⟩;rcases HPF.out with ⟨p1,p2⟩|⟨p1,t2,h2,l2,p2,p3,p4,⟨-,p5,rfl,p6⟩|⟨p5,-⟩⟩
       ·omega
       ·obtain⟨-,e1,e2,e3,e4,-⟩:=FM p1;have hnb:¬(e.key<0\/1099511627776<=e.key\/e.is.c=0):=ai;obtain⟨-,-,m1,m2,m3⟩:=ZP hnb e4;obtain⟨m4,m5,m6⟩:=m3 t2 p3 p4;have hen:jM none l=jM (mN l (k+1)) (l.drop (k+1)):=(by rw [adF,ar hnb,ar (by simp [e4])]);have ni:∀b,b≠tb->((W7.setCell (tb,0) (ah so n6 c6)).setCell (tb,1) (af t2.root)).heap[b]?=W7.heap[b]?:=fun b hb=>
         (cH _ ⟨tb,_,none⟩ b _ hb).trans (cH _ ⟨tb,_,none⟩ b _ hb)
        have hsz:((W7.setCell (tb,0) (ah so n6 c6)).setCell (tb,1) (af t2.root)).heap.size=W7:=(by simp only [aG]);have hwt:w≠tb:=ai;refine⟨so,n6,c6,t2,⟨(x0.setCell (by show w<=tb;omega) _).setCell (by show w<=tb;omega) _,x1,by rw [hsz];exact x2,(oH (a:=(w,0)) (ni _ hwt)).trans x3,(oH (a:=(w,1)) (ni _ hwt)).trans x4,
         fun o=>(World.frozen?_of_block (a:=⟨w.heap.size,o,none⟩) (ni _ hwt)).trans (x5 o),lY bY (mU x6),mU (lY bY x7),fun o=>by simp [x8],fun w'' hs hk=>p6 w'' ⟨ai,fun b b1 b2=>?_⟩,⟨p5,m4,m1,m2,m6,m5⟩,hen⟩⟩
        rw [hsz]at hk;exact(hk b ai ai ai).trans ((ni b ai).trans (zn.block b b2))
       ·omega
     ·have d2:(E2 != 0)=true:=(by simp [h0]);clear k7;go_wp2_with fail;refine bW (v:= .tuple #[nY,af E2]) (by simp [results,Tryz.results79,go_sem, *]) rfl ⟨aj, .inl ⟨E2,h0,?_,rfl⟩⟩;rcases HPF.out with ⟨p1,p2⟩|⟨p1,t2,h2,l2,p2,p3,p4,⟨p5,-⟩|⟨p5,p6⟩⟩
      ·left;rw [p2,adF,adt];rw [adt]at p1;by_cases c1:e.key<0\/1099511627776<=e.key\/e.is.c=0
       ·rw [aw c1,aw c1]
       ·rw [ar c1]at p1 ⊢;rw [ar c1];by_cases c2:av e.is=0
        ·rw [ar (by simp [c2])]at p1;exact absurd rfl p1
        ·rw [aw c2,aw c2]
      ·exact absurd p5 h0
      ·right;obtain⟨-,e1,e2,e3,e4,-⟩:=FM p1;obtain⟨-,-,-,-,m3⟩:=ZP ai e4;have:=(m3 t2 p3 p4).2.1;have:=p2.grown p6;rw [gh]at *;exact⟨p5,ai⟩
  ·have HE0:=ag (PB hA.aI ai);have hm:=hA.made;rw [iM ai]at hm;have HM:=ag hm;have HT:=ag hA;obtain⟨x0,x1,x2,x3,x4,x5,x6,x7,x8,-,-,-⟩:=hA;clear hm;go_wp2_with fail;refine bW (v:= .tuple #[.agg #[ah s n c,af t.root],af 0]) (by simp [results,Tryz.results79,go_sem, *]) rfl ⟨aj, .inr ⟨HE0,t,_,rfl,?_,HM⟩⟩;intro w'' hw;refine HT.tree _ (fZ (by simp only [aG];omega) hw.1) fun b b1 b2 b3=>?_;refine(hw.2 b ai (by simp only [aG];omega)).trans ?_;exact(cH _ ⟨w.heap.size,_,none⟩ b _ (by show b≠w;omega)).trans (cH _ ⟨w.heap.size,_,none⟩ b _ (by show b≠w;omega))
def Gu (B:Nat) (l:List aH) (w':World) (so:Option Addr) (n c:Nat) (rt E2:Int):Prop:=
 (E2≠0/\n=0/\so=none/\c=0/\rt=0/\(E2=jM none l\/(E2=1/\2900<l.length)))\/(E2=0/\jM none l=0/\∃t,(∀w'',aQ B w' w''->di w'' (.agg #[ah so n c,af rt]) t)/\Made l t)
theorem xL {v:Value} (h:cX w v l):Calls Tryz.prog 79 #[v] w fun x w'=>aq w w'/\∃so n c rt E2,x = .returned (.tuple #[.agg #[ah so n c,af rt],af E2])/\Gu (w+1) l w' so n c rt E2:=by
 refine(KF h).mono ?_;rintro x w' ⟨hb,⟨E,h1,h2,rfl⟩|⟨h1,t,v,rfl,h2,h3⟩⟩
 ·exact⟨hb,none,0,0,0,E,rfl, .inl ⟨h1,rfl,rfl,rfl,rfl,h2⟩⟩
 ·obtain⟨nv,rfl,hn⟩:=h2 w' (aQ.refl _ _);obtain⟨⟨ao,cap,rfl⟩,-⟩:=hn.len;exact⟨hb,_,_,_,_,0,rfl, .inr ⟨rfl,h1,t,h2,h3⟩⟩
end
section
variable {M n c n0 c0 n1 c1 n2 c2:Nat} {s s0 s1 s2:Option Addr} {wr w:World}
def uV (M:Nat) (wr:World) (s:Option Addr) (n c:Nat):Prop:=∃g,s=some ⟨g,0,none⟩/\n=1/\c=1/\M<=g/\g<wr.heap.size/\wr.heap[g]?=some (.cells #[.bool true, .slice none 0 0, .slice none 0 0, .slice none 0 0, .slice none 0 0] 125)
theorem uV.block {w':World} (h:uV M wr s n c) (hz:wr<=w'.heap.size) (hb:∀b,M<=b->b<wr.heap.size->w'.heap[b]?=wr.heap[b]?):uV M w' s n c:=by
 obtain⟨g,h1,h2,h3,h4,h5,h6⟩:=h;exact⟨g,h1,h2,h3,h4,ai,(hb g h4 h5).trans h6⟩
structure J6 (w:World) (s0:Option Addr) (n0 c0:Nat) (s1:Option Addr) (n1 c1:Nat) (s2:Option Addr) (n2 c2:Nat) (wr:World):Prop where
 below:aq w wr
 size:w+2<=wr.heap.size
 res:wr.heap[w.heap.size]?=some (.cells #[az 0 0,az 0 0,af 0,az 0 0,af 0,az 0 0,af 0,af 0] 30)
 box:wr.heap[w.heap.size+1]?=some (.cells #[az 0 0,ah s0 n0 c0,af 0,ah s1 n1 c1,af 0,ah s2 n2 c2,af 0,af 0] 30)
theorem J6.step {w5:World} (h:J6 w s0 n0 c0 s1 n1 c1 s2 n2 c2 wr) (cy:aq wr w5) {o:Nat} {u v:Value} {cs:Array Value}
  (hcs:((#[az 0 0,ah s0 n0 c0,af 0,ah s1 n1 c1,af 0,ah s2 n2 c2,af 0,af 0]:Array Value).setIfInBounds o u).setIfInBounds (o+1) v=cs) :
  aq w ((w5.setCell (w,1,o) u).setCell (w,1,o+1) v)/\w+2<=((w5.setCell (w,1,o) u).setCell (w,1,o+1) v).heap.size /\
   ((w5.setCell (w,1,o) u).setCell (w,1,o+1) v).heap[w.heap.size]?=some (.cells #[az 0 0,az 0 0,af 0,az 0 0,af 0,az 0 0,af 0,af 0] 30) /\
   ((w5.setCell (w,1,o) u).setCell (w,1,o+1) v).heap[w.heap.size+1]?=some (.cells cs 30) /\
   (∀b,w.heap.size+2<=b->((w5.setCell (w,1,o) u).setCell (w,1,o+1) v).heap[b]?=w5.heap[b]?):=by
 have hsz:=h.size;have hs5:=cy.size;have hb:aq w w5:=aF h.below cy h.below.size;refine⟨oF,by simp;omega,?_,?_,fun b hb=>?_⟩
 ·rw [xy _ _ _ _ (by show w≠w.heap.size+1;omega),xy _ _ _ _ (by show w≠w.heap.size+1;omega)];exact(cy.block _ ai).trans h.res
 ·rw [<-hcs];exact aM (aM ((cy.block _ ai).trans h.box))
 ·rw [xy _ _ _ _ (by show b≠w+1;omega),xy _ _ _ _ (by show b≠w+1;omega)]
theorem J6.cells (h:J6 w s0 n0 c0 s1 n1 c1 s2 n2 c2 wr):wr.cell? (w,1,0)=some (az 0 0)/\wr.cell? (w,1,1)=some (ah s0 n0 c0)/\(wr,w.heap.size+1,2)/\wr.cell? (w,1,3)=some (ah s1 n1 c1)/\(wr,w.heap.size+1,4)/\wr.cell? (w,1,5)=some (ah s2 n2 c2)/\(wr,w.heap.size+1,6)/\(wr,w.heap.size+1,7)/\∀o,wr.frozen? ⟨w.heap.size+1,o,none⟩=false:=by
 simp [World.cell?,World.frozen?,h.box]
theorem J6.K4 (h:J6 w s0 n0 c0 s1 n1 c1 s2 n2 c2 wr):wr.cell? (w,0)=some (az 0 0)/\wr.cell? (w,1)=some (az 0 0)/\(wr,w.heap.size,2)/\wr.cell? (w,3)=some (az 0 0)/\(wr,w.heap.size,4)/\wr.cell? (w,5)=some (az 0 0)/\(wr,w.heap.size,6)/\(wr,w.heap.size,7)/\∀o,wr.frozen? ⟨w.heap.size,o,none⟩=false:=by
 simp [World.cell?,World.frozen?,h.res]
def mM:Ba:=⟨[],xd,xd,xd,0⟩
theorem uV.tree (h:uV M wr s n c):bn wr (ah s n c) xd.nodes:=by
 obtain⟨g,rfl,rfl,rfl,_,_,h6⟩:=h;exact Ie h6
theorem yT (w:World):Calls Tryz.prog 16 #[] w fun e w'=>(∃v',e = .returned v'/\∀w'',aQ (w+2) w' w''->bR w'' v' mM)/\aq w w':=by
 have HN:=ag fun w'=>xM w';obtain⟨W0,hW0⟩:=cd ((w.alloc (.cells #[az 0 0,az 0 0,af 0,az 0 0,af 0,az 0 0,af 0,af 0] 30)).alloc (.cells #[az 0 0,az 0 0,af 0,az 0 0,af 0,az 0 0,af 0,af 0] 30));have HST:=ag (show J6 w none 0 0 none 0 0 none 0 0 W0 by
  refine⟨by rw [hW0];exact oF,by rw [hW0];simp,?_,?_⟩
  ·rw [hW0,gy _ _ _ bh];exact au _ _ rfl
  ·rw [hW0];exact au _ _ bh)
 go_enter Tryz.func16,Tryz.ntmps16;go_upto_region 2 with (fail);rw [<-hW0];clear hW0;go_wp2_with fail
 go_loopg [4] 3 (fun g i wr=>∃(k:Nat) (s0:Option Addr) (n0 c0:Nat) (s1:Option Addr) (n1 c1:Nat) (s2:Option Addr) (n2 c2:Nat),k<=3/\g=3-k/\i=af k/\Hid (J6 w s0 n0 c0 s1 n1 c1 s2 n2 c2 wr/\(0<k->uV (w+2) wr s0 n0 c0)/\(1<k->uV (w+2) wr s1 n1 c1)/\(2<k->uV (w+2) wr s2 n2 c2)))
 case atStart=>exact⟨0,_,_,_,_,_,_,_,_,_,ai,rfl,rfl,ag ⟨HST,fun h=>ai,fun h=>ai,fun h=>ai⟩⟩
 case round=>
  clear HST;obtain⟨k,s0,n0,c0,s1,n1,c1,s2,n2,c2,hk,rfl,rfl,HB⟩:=hrel;obtain⟨b0,b1,b2,b3,b4,b5,b6,b7,bf⟩:=HB.out.1.cells;have hsz:=HB.out.1.size;have HMK:=ag (show ∀(w5:World) (gg:Nat),aq wr w5->wr<=gg->gg<w5->w5.heap[gg]?=some (.cells #[.bool true,az 0 0,az 0 0,az 0 0,az 0 0] 125)->∀w6:World,w5<=w6.heap.size->(∀b,w.heap.size+2<=b->w6.heap[b]?=w5.heap[b]?)->uV (w+2) w6 (some (gg,0)) 1 1
   from fun w5 gg _ h1 h2 h3 w6 hz hk=>⟨gg,rfl,rfl,rfl,ai,ai,(hk gg ai).trans h3⟩)
  have HOLD:=ag (show ∀w5:World,aq wr w5->∀w6:World,w5<=w6.heap.size->(∀b,w.heap.size+2<=b->w6.heap[b]?=w5.heap[b]?)->∀s n c,uV (w+2) wr s n c->uV (w+2) w6 s n c
   from fun w5 cy w6 hz hk s n c h=>h.block (w':=w6) (by have:=cy.size;omega) (fun b h1 h2=>(hk b h1).trans (cy.block b h2)))
  by_cases hlt:k<3
  ·obtain rfl|rfl|rfl:k=0\/k=1\/k=2:=ai
   ·go_wp2_with ((go_at_call 33;(with_reducible refine(HN.out _).mono ?_);rintro e w5 ⟨gg,rfl,hg1,hg2,hg3,cy⟩;obtain⟨XT,k2',k3'⟩:=rY cy (B:=w.heap.size+1) ai));go_roundg 2
    case measure=>omega
    case rel=>
     obtain⟨q1,q2,q3,q4,q5⟩:=HB.out.1.step cy (o:=1) (u:=ah gg 1 1) (v:=af 0) rfl;have DK:w5<=((w5.setCell (w,1,1) (ah gg 1 1)).setCell (w,1,1+1) (af 0)).heap.size:=bh;exact⟨1,_,_,_,_,_,_,_,_,_,ai,rfl,by go_num,ag ⟨⟨q1,q2,q3,by simpa using q4⟩,fun _=>HMK w5 gg cy hg1 hg2 hg3 _ DK q5,fun h=>ai,fun h=>ai⟩⟩
   ·go_wp2_with ((go_at_call 33;(with_reducible refine(HN.out _).mono ?_);rintro e w5 ⟨gg,rfl,hg1,hg2,hg3,cy⟩;obtain⟨XT,k2',k3'⟩:=rY cy (B:=w.heap.size+1) ai));go_roundg 1
    case measure=>omega
    case rel=>
     obtain⟨q1,q2,q3,q4,q5⟩:=HB.out.1.step cy (o:=3) (u:=ah gg 1 1) (v:=af 0) rfl;have DK:w5<=((w5.setCell (w,1,3) (ah gg 1 1)).setCell (w,1,3+1) (af 0)).heap.size:=bh;exact⟨2,_,_,_,_,_,_,_,_,_,ai,rfl,by go_num,ag ⟨⟨q1,q2,q3,by simpa using q4⟩,fun _=>HOLD w5 cy _ DK q5 _ _ _ (HB.out.2.1 ai),fun _=>HMK w5 gg cy hg1 hg2 hg3 _ DK q5,fun h=>ai⟩⟩
   ·go_wp2_with ((go_at_call 33;(with_reducible refine(HN.out _).mono ?_);rintro e w5 ⟨gg,rfl,hg1,hg2,hg3,cy⟩;obtain⟨XT,k2',k3'⟩:=rY cy (B:=w.heap.size+1) ai));go_roundg 0
    case measure=>omega
    case rel=>
     obtain⟨q1,q2,q3,q4,q5⟩:=HB.out.1.step cy (o:=5) (u:=ah gg 1 1) (v:=af 0) rfl;have DK:w5<=((w5.setCell (w,1,5) (ah gg 1 1)).setCell (w,1,5+1) (af 0)).heap.size:=bh;exact⟨3,_,_,_,_,_,_,_,_,_,ai,rfl,by go_num,ag ⟨⟨q1,q2,q3,by simpa using q4⟩,fun _=>HOLD w5 cy _ DK q5 _ _ _ (HB.out.2.1 ai),fun _=>HOLD w5 cy _ DK q5 _ _ _ (HB.out.2.2.1 ai),fun _=>HMK w5 gg cy hg1 hg2 hg3 _ DK q5⟩⟩
  ·obtain rfl:k=3:=ai;obtain⟨z0,z1,z2,z3,z4,z5,z6,z7,zf⟩:=HB.out.1.K4;have cT:=HB.out.1.below;have MN:=ag (show ∀w'',wr.heap.size<=w''.heap.size->(∀b,w.heap.size+2<=b->b<wr.heap.size->w''.heap[b]?=wr.heap[b]?)->bR w'' (.agg #[.slice none 0 0, .slice s0 n0 c0, .int .i64 0, .slice s1 n1 c1, .int .i64 0, .slice s2 n2 c2, .int .i64 0, .int .i64 0]) mM from fun w'' hz hk=>
    ⟨_,_,_,_,rfl,ct.nil _ _ _ _,((HB.out.2.1 ai).block hz hk).tree,((HB.out.2.2.1 ai).block hz hk).tree,((HB.out.2.2.2 ai).block hz hk).tree⟩)
   go_wp2;refine bW (v:= .agg #[az 0 0,ah s0 n0 c0,af 0,ah s1 n1 c1,af 0,ah s2 n2 c2,af 0,af 0]) (by simp [results,Tryz.results16,go_sem, *]) rfl ⟨⟨_,rfl,?_⟩,?_⟩
   ·intro w'' hK;refine MN.out _ (fZ bh hK.size) fun b hb hb2=>(hK.block b hb (by simpa using hb2)).trans ?_
    repeat rw [xy _ _ _ _ (by show b≠w;omega)]
   ·exact oF
theorem Cq:allT xd=some []:=by unfold allT;rw [aw Lh];exact Q4 _ _
theorem zx:cx mM=some []:=vV (b:=mM) Cq rfl
theorem UL:qu mM [] 0 []=true:=by
 have h:aS mM=true:=lZ ⟨bY,bY,bY,bY,fun i h=>by simp [mM]at h,[],zx,fun k _=>by
  rw [qP (a:=[]) (c:=[]) rfl (by unfold Ba.tree;split;exact Cq;split <;> exact Cq)];rfl⟩
 exact(zQ (b:=mM) h rfl rfl zx).trans rfl
end
end Go.Proofs.YtmljjfhgciaceaaGreatDoor
