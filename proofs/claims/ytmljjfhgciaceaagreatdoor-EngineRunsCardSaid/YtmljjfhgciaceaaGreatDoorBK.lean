/- Lemmas of the proof. -/
import Derived.Test.YtmljjfhgciaceaaGreatDoorHd
import Derived.Test.YtmljjfhgciaceaaGreatDoorCz
import Derived.Test.YtmljjfhgciaceaaGreatDoorKG
import Derived.Deep.RegionHeld3
import Derived.Deep.CutBlock
import Derived.Lib.SmallJoins
import Derived.Deep.AppendLies
import Derived.Test.YtmljjfhgciaceaaGreatDoorSX
import Derived.Test.YtmljjfhgciaceaaGreatDoorPA
import Derived.Lib.LazyBuf
import Derived.BigQuiet
import Derived.Deep.QuietTactic
set_option maxHeartbeats 4000000
set_option maxRecDepth 100000
namespace Go.Proofs.YtmljjfhgciaceaaGreatDoor
open Go.RowKit Go.ChangeShapes Go.WideShapes Go.ChangeAt Go.Deep
section
variable {c:Int} {l:List Int}
def fx (c:Int):Bool:=decide ((97<=c/\c<=122)\/(48<=c/\c<=57)\/c=46)
theorem wO {k:Nat} (hk:k<l) (ha:(l.take k).all fx=true) (hb:fx l[k]=true):(l.take (k+1)).all fx=true:=by
 rw [ja hk,List.all_append,ha];simp [hb]
def nums (s:ByteArray):List Int:=s.data.toList.map fun b=>(b.toNat:Int)
def dt (s:ByteArray):Bool:=decide (1<=s.size/\s.size<=10) && (nums s).all fx
theorem nums_length (s:ByteArray):(nums s).length=s.size:=by simp [nums]
theorem tj (s:ByteArray):∀c∈nums s,0<=c/\c<=255:=by
 intro c hc;obtain⟨b,_,rfl⟩:=ua.1 hc;have:=b.toNat_lt;omega
theorem Ni (s:ByteArray) {k:Nat} (h:k<s.size):(nums s)[k]'(by rw [nums_length];exact h)=((s[k]'h).toNat:Int):=by
 simp [nums];rfl
theorem XH (h:mn c 97 122=true\/mn c 48 57=true\/(c != 46)=false):fx c=true:=by
 simp only [gX,bne_eq_false_iff_eq]at h;simp [fx];omega
theorem ad6 (h1:¬mn c 97 122=true) (h2:¬mn c 48 57=true) (h3:(c != 46)=true):fx c=false:=by
 simp only [gX,bne_iff_ne,ne_eq]at h1 h2 h3;simp [fx];omega
theorem VC {k:Nat} (hk:k<l) (hb:fx l[k]=false):l.all fx=false:=by
 rw [Bool.eq_false_iff];intro h;have:=rH.1 h l[k] (eZ hk);rw [hb]at this;cases this
theorem uv (s:ByteArray) (w:World) (hs:s.size<=140737488351232):Calls Tryz.prog 46 #[.string s] w fun e w'=>e = .returned (.bool (dt s))/\aq w w':=by
 obtain⟨r,hr⟩:=bG (dt s);rw [hr];have HR:=ag hr;clear hr;go_enter Tryz.func46,Tryz.ntmps46;go_wp2_with fail
 go_loopg [3] s.size (fun g i wr=>∃k:Nat,k<=s.size/\g=s.size-k/\i=af k/\Hid (((nums s).take k).all fx=true)/\aq w wr)
 case atStart=>exact⟨0,eY _,rfl,rfl,ag bh,aW _ _⟩
 case round=>
  obtain⟨k,hk,rfl,rfl,HE,hb⟩:=hrel;by_cases hlt:k<s.size
  ·have hlt':k<(nums s).length:=by rw [nums_length];exact hlt
   have EC:=ag (Ni s hlt);have q0:=(tj s _ (eZ hlt')).1;have q1:=(tj s _ (eZ hlt')).2;rw [Ni s hlt]at q0 q1;have HLT:=ag hlt';clear hlt';go_wp2_with (go_at_call 51;refine(dH _ _ _ _).mono ?_;rintro e w1 ⟨rfl,rfl⟩)
   all_goals first
    |(go_ret
      refine⟨bz ?_,hb⟩;rw [<-HR];simp only [dt,VC HLT.out (by rw [EC];exact ad6 ‹_› ‹_› ‹_›),Bool.and_false])
    |(go_roundg (s.size-(k+1))
      case measure=>omega
      case rel=>exact⟨k+1,ai,rfl,by go_num,ag (wO HLT.out HE.out (by rw [EC.out];first|exact XH (.inl ‹_›)|exact XH (.inr (.inl ‹_›))|exact XH (.inr (.inr ‹_›)))),hb⟩)
  ·have hfin:(nums s).all fx=true:=by have:=HE.out;rwa [iM (by rw [nums_length];omega)]at this
   have hres:mn (s.size:Int) 1 10=r:=by rw [<-HR,Bool.eq_iff_iff];simp [dt,mn,hfin];omega
   have HF:=ag hres;clear hfin hres;go_wp2_with (go_at_call 51;refine(dH _ _ _ _).mono ?_;rintro e w1 ⟨rfl,rfl⟩);go_ret;exact⟨bz HF,hb⟩
end
section
variable {l xs:List Int} {w:World}
theorem tQ (c:Int) (w:World) (h0:0<=c) (h1:c<=255):Calls Tryz.prog 106 #[.int .u8 c] w fun e w'=>e = .returned (.bool (!fx c))/\w=w':=by
 go_enter Tryz.func106,Tryz.ntmps106;go_wp2
 all_goals (go_ret;refine⟨bz ?_,rfl⟩)
 all_goals (rw [Bool.eq_iff_iff];simp [fx];omega)
def jW (l:List Int):Int:=if l.all fx then -1 else(l.findIdx (fun c=>!fx c):Nat)
theorem Ek (h:l.all fx=true):jW l = -1:=by simp [jW,h]
theorem Jp {k:Nat} (hk:k<l) (ha:(l.take k).all fx=true) (hb:fx l[k]=false):jW l=k:=by
 have hn:l.all fx=false:=by
  rw [Bool.eq_false_iff];intro h;have:=rH.1 h l[k] (eZ hk);rw [hb]at this;cases this
 have:l.findIdx (fun c=>!fx c)=k:=by
  rw [List.findIdx_eq hk];refine⟨by simp [hb],fun j hj=>?_⟩;have:=rH.1 ha l[j] (by rw [List.mem_take_iff_getElem];exact⟨j,ai,rfl⟩);simp [this]
 simp [jW,hn,this]
theorem Bc:(decide (0<=jW l)) = !l.all fx:=by
 cases h:l.all fx
 ·simp [jW,h]
 ·simp [jW,h]
def Gi (n:Int):List Value:=[.int .u8 n]
abbrev GL (w:World) (v:Value) (xs:List Int):Prop:=ct 1 1 Gi w v xs
theorem PM {wr:World} {b off k:Nat} (hb:aq w wr) (hbb:b<w)
  (h:∀i x,xs[i]?=some x->∀j u,(Gi x)[j]?=some u->w.cell? (b,off+i*1+j)=some u) (hk:k<xs) :
  wr.cell? (b,off+k)=some (.int .u8 xs[k]):=by
 have:=(hb.cell (p:=⟨b,_,none⟩) hbb).trans (h k xs[k] (by simp [hk]) 0 _ rfl);simpa using this
theorem Ef {v:Value} (ha:GL w v xs) (hq:∀c∈xs,0<=c/\c<=255) :
  Calls Tryz.prog 115 #[v, .func (.func 106) #[] #[]] w fun e w'=>e = .returned (af (jW xs))/\w=w':=by
 obtain⟨ao,ca,rfl,a1,a2,a3,a4,a5⟩:=ha;go_enter Tryz.func115,Tryz.ntmps115;go_wp2_with fail
 go_loopg [5,8] xs (fun g _ i wr=>∃k:Nat,k<=xs/\g=xs-k/\i=af k/\Hid ((xs.take k).all fx=true)/\w=wr)
 case atStart=>exact⟨0,eY _,rfl,rfl,ag bh,rfl⟩
 case round=>
  obtain⟨k,hk,rfl,rfl,HE,rfl⟩:=hrel;by_cases hlt:k<xs
  ·obtain⟨ab,aR,rfl,qy,ac⟩:=a5 ai;have c0:=PM (aW _ _) qy ac hlt;clear ac a5;obtain⟨q0,q1⟩:=hq _ (eZ hlt);obtain⟨c,hc⟩:=bG (xs[k]);rw [hc]at c0 q0 q1;have EC:=ag hc;clear hc
   cases hok:fx c
   ·have hfin:jW xs=k:=Jp hlt HE.out (by rw [EC];exact hok);have HF:=ag hfin;clear hfin;go_wp2_with (go_at_call 106;refine(tQ _ _ ai ai).mono ?_;rintro e w1 ⟨rfl,rfl⟩);go_ret;exact⟨ij HF.symm,rfl⟩
   ·have HK:=ag hok;go_wp2_with (go_at_call 106;refine(tQ _ _ ai ai).mono ?_;rintro e w1 ⟨rfl,rfl⟩);go_roundg (xs-(k+1))
    case measure=>omega
    case rel=>exact⟨k+1,ai,rfl,by go_num,ag (wO hlt HE.out (by rw [EC];exact HK)),rfl⟩
  ·have hfin:jW xs = -1:=Ek (by have:=HE.out;rwa [iM ai]at this);have HF:=ag hfin;clear hfin;go_wp2;go_ret;exact⟨ij HF.symm,rfl⟩
theorem zO {v:Value} (ha:GL w v xs) (hq:∀c∈xs,0<=c/\c<=255) :
  Calls Tryz.prog 105 #[v, .func (.func 106) #[] #[]] w fun e w'=>e = .returned (.bool (!xs.all fx))/\w=w':=by
 obtain⟨z,hz⟩:=bG (jW xs);have hres:decide (0<=z) = !xs.all fx:=by rw [<-hz];exact Bc
 have HR:=ag hres;have h:=Ef ha hq;rw [hz]at h;have H:=ag h;clear h hres hz;go_enter Tryz.func105,Tryz.ntmps105;go_wp2_with (go_at_call 115;refine H.mono ?_;rintro e w1 ⟨rfl,rfl⟩);go_ret;exact⟨bz HR,rfl⟩
end
theorem EG (s:ByteArray):s.toList=s.size:=by rw [ByteArray.toList_eq];simp
theorem XB (s:ByteArray) (cap i:Nat) (h:i<s.size):(bytesRow s cap)[i]?=some (.int .u8 ((nums s)[i]'(by rw [nums_length];exact h))):=by
 have h':i<s.data.size:=h;simp [bytesRow,nums,Array.getElem?_append,h]
theorem JL (s:ByteArray) (w:World) (e:TypeId) (m:Nat×Nat) (cap:Nat) (hc:s.size<=cap) (hm:cap<=9223372036854775807) (hs:s.size<=140737488351232) :
  GL (w.alloc (.cells (bytesRow s cap) e m)).drew (ah w s.size cap) (nums s):=by
 refine⟨some (w,0),cap,by rw [nums_length],by rw [nums_length];exact hc,hm,by rw [nums_length];omega,bh,fun _=>⟨w.heap.size,0,rfl,bh,fun i x hx j u hu=>?_⟩⟩;obtain⟨hi,rfl⟩:=dW.1 hx;rw [nums_length]at hi;have hj:j=0:=by
  have:=(dW.1 hu).1;simp [Gi]at this;omega
 subst hj;simp [Gi]at hu;subst hu;have e1:(w.alloc (.cells (bytesRow s cap) e m)).drew.heap[w.heap.size]?=some (.cells (bytesRow s cap) e m):=by show (w.heap.push _)[w.heap.size]?=_;simp
 simp only [World.cell?,e1];simpa using XB s cap i hi
theorem xX (s:ByteArray) (w:World) (hs:s.size<=140737488351232):Calls Tryz.prog 67 #[.string s] w fun e w'=>e = .returned (.bool (dt s))/\aq w w':=by
 obtain⟨r,hr⟩:=bG (dt s);rw [hr];by_cases h0:s.size=0
 ·have hrf:false=r:=by rw [<-hr];simp [dt,h0]
  have HR:=ag hrf;have CL:s.toList=[]:=yX (by rw [EG];exact h0);clear hrf hr h0;go_enter Tryz.func67,Tryz.ntmps67;go_wp2_with fail;go_ret;exact⟨bz HR,aW _ _⟩
 ·have ag9:¬s.toList=[]:=fun h=>h0 (by rw [<-EG,h];rfl);have CL:s.toList.isEmpty=false:=by simpa using ag9
  by_cases h10:s.size<=10
  ·have hcv:=fun w=>run_bytes_of_string (P:=Tryz.prog) w 9 61 5 s Tryz.underlying9 Tryz.underlying61 Tryz.underlying5;have hrf:(nums s).all fx=r:=by rw [<-hr];simp [dt];intro _;omega
   have HR:=ag hrf;have hcap:=grownCap_ge w s.size 0 5;have WN:=grownCap_le_maxLen w s.size 0 5 iI;have HC:=ag (zO (JL s w 5 ((bytesRow s (grownCap w s.size 0 5)).size,(bytesRow s (grownCap w s.size 0 5)).size+1) _ hcap (by unfold maxLen at WN;omega) hs) (tj s));clear hrf hr hcap WN;go_enter Tryz.func67,Tryz.ntmps67;go_wp2_with (go_at_call 105;refine HC.mono ?_;rintro e w1 ⟨rfl,rfl⟩);go_ret;exact⟨bz HR,iZ⟩
  ·have hrf:false=r:=by rw [<-hr];simp [dt];omega
   have HR:=ag hrf;clear hrf hr;go_enter Tryz.func67,Tryz.ntmps67;go_wp2_with fail;go_ret;exact⟨bz HR,aW _ _⟩
section
variable {r0:Int} {xs:List Nd} {rs:List Raw} {us:List Value} {b o M g B:Nat} {e:TypeId} {w w1 w2 w' W5 wr:World}
theorem vF {n cap k:Nat} (h:w.ownsRow B e 5 (ah g n cap) n (rs.flatMap bS)) (_hn:rs=n) (hk:k<rs) :
  w.cell? (g,k*5)=some (.bool rs[k].leaf)/\w.cell? (g,k*5+1)=some rs[k].ev/\w.cell? (g,k*5+2)=some rs[k].kv/\w.cell? (g,k*5+3)=some rs[k].dv/\w.cell? (g,k*5+4)=some rs[k].bv /\
  ∀o,w.frozen? ⟨g,o,none⟩=false:=by
 obtain⟨hl,⟨h0,_⟩|⟨g',cap',cur,e1,hb,hg,h1,h2,h3,h4⟩⟩:=h
 ·cases h0
 ·cases e1
  have q:∀j u,(bS rs[k])[j]?=some u->w.cell? (g,k*5+j)=some u:=by
   intro j u hu;have hf:=Bu fR (xs:=rs) (i:=k) (x:=rs[k]) (by simp [hk]) hu;rw [<-h4,rF]at hf
   split at hf
   ·simp only [World.cell?,hg];simpa using hf
   ·cases hf
  exact⟨by simpa using q 0 _ rfl,q 1 _ rfl,q 2 _ rfl,q 3 _ rfl,q 4 _ rfl,fun o=>by simp [World.frozen?,hg]⟩
theorem aU {size n:Nat} {v:Value} (h:w.ownsRow B e size v n us):∃ao cap,v=ah ao n cap:=by
 obtain⟨_,⟨rfl,rfl⟩|⟨g,cap,cur,rfl,_⟩⟩:=h
 ·exact⟨_,_,rfl⟩
 ·exact⟨_,_,rfl⟩
theorem jy {size n:Nat} {v:Value} (h:w.ownsRow B e size v n us) (hb:b<B) (u:Value):(w.setCell (b,o) u).ownsRow B e size v n us:=by
 obtain⟨hl,h|⟨g,cap,cur,rfl,h1,h2,h3⟩⟩:=h
 ·exact⟨hl, .inl h⟩
 ·refine⟨hl, .inr ⟨g,cap,cur,rfl,h1,?_,h3⟩⟩;have:b≠g:=ai;simp [World.setCell,Array.getElem?_modify,this,h2]
structure Sep (M g:Nat) (w w':World):Prop where
 size:w<=w'.heap.size
 block:∀b,M<=b->b<w.heap.size->b≠g->w'.heap[b]?=w.heap[b]?
theorem Sep.refl (M g:Nat) (w:World):Sep M g w w:=⟨nu _,fun _ _ _ _=>rfl⟩
theorem Sep.trans (h:Sep M g w w1) (h':Sep M g w1 w2):Sep M g w w2:=
 ⟨fZ h.size h'.size,fun b hm hb hg=>(h'.block b hm (oI hb h.size) hg).trans (h.block b hm hb hg)⟩
theorem Sep.of (h:Below B w w') (hB:w<=B):Sep M g w w':=⟨h.size,fun b _ hb _=>h.block b ai⟩
theorem Sep.set (h:Sep M g w w') (hb:b=g\/b<M) (u:Value):Sep M g w (w'.setCell (b,o) u):=by
 refine⟨by rw [aG];exact h.size,fun j hm hj hg=>?_⟩;have:b≠j:=ai;rw [<-h.block j hm hj hg];simp [World.setCell,Array.getElem?_modify,this]
theorem Sep.drew (h:Sep M g w w'):Sep M g w w'.drew:=⟨h.size,h.block⟩
theorem Hw {size n:Nat} {v:Value} (h:w.ownsRow B e size v n us) (hs:Sep M g w w') (hM:M<=B) (hg:g<B):w'.ownsRow B e size v n us:=by
 obtain⟨hl,h|⟨g',cap,cur,rfl,h1,h2,h3⟩⟩:=h
 ·exact⟨hl, .inl h⟩
 ·exact⟨hl, .inr ⟨g',cap,cur,rfl,h1,(hs.block g' ai (eJ.1 h2).1 ai).trans h2,h3⟩⟩
theorem cL {size n:Nat} {v:Value} (h:w.ownsRow B e size v n us) (hs:aq w w'):w'.ownsRow B e size v n us:=by
 obtain⟨hl,h|⟨g',cap,cur,rfl,h1,h2,h3⟩⟩:=h
 ·exact⟨hl, .inl h⟩
 ·exact⟨hl, .inr ⟨g',cap,cur,rfl,h1,(hs.block g' (eJ.1 h2).1).trans h2,h3⟩⟩
structure aQ (M:Nat) (w w':World):Prop where
 size:w<=w'.heap.size
 block:∀b,M<=b->b<w.heap.size->w'.heap[b]?=w.heap[b]?
theorem aQ.refl (M:Nat) (w:World):aQ M w w:=⟨nu _,fun _ _ _=>rfl⟩
theorem aQ.trans (h:aQ M w w1) (h':aQ M w1 w2):aQ M w w2:=
 ⟨fZ h.size h'.size,fun b hm hb=>(h'.block b hm (oI hb h.size)).trans (h.block b hm hb)⟩
theorem aQ.of (h:Below B w w') (hB:w<=B):aQ M w w':=⟨h.size,fun b _ hb=>h.block b ai⟩
theorem aQ.mono {N:Nat} (h:aQ M w w') (hN:M<=N):aQ N w w':=⟨h.size,fun b hm hb=>h.block b ai hb⟩
theorem aQ.set (h:aQ M w w') {p:Addr} (hb:p.block<M) (u:Value):aQ M w (w'.setCell p u):=by
 refine⟨by rw [aG];exact h.size,fun j hm hj=>?_⟩;rw [<-h.block j hm hj];exact xy w' p u j ai
theorem aQ.drew (h:aQ M w w'):aQ M w w'.drew:=⟨h.size,h.block⟩
theorem aQ.sep (h:aQ M w w'):Sep M g w w':=⟨h.size,fun b hm hb _=>h.block b hm hb⟩
theorem iU {size n:Nat} {v:Value} (h:w.ownsRow B e size v n us) (hs:aQ M w w') (hM:M<=B):w'.ownsRow B e size v n us:=by
 obtain⟨hl,h|⟨g',cap,cur,rfl,h1,h2,h3⟩⟩:=h
 ·exact⟨hl, .inl h⟩
 ·exact⟨hl, .inr ⟨g',cap,cur,rfl,h1,(hs.block g' ai (eJ.1 h2).1).trans h2,h3⟩⟩
theorem yQ {v:Value} {xs:List aH} (h:cX w v xs) (hM:M<=w) (hg:g<w) (h5:aq W5 w) :
  Calls Tryz.prog 89 #[v] w fun e w'=>∃ao cap,e = .returned (ah ao xs cap)/\aq W5 w'/\(Hid (∀w'',Sep M g w' w''->cX w'' (ah ao xs cap) xs))/\aq w w':=
 (fT h).mono fun e w' ⟨v',e1,h1,h2⟩=>by
  obtain⟨ao,cap,rfl⟩:=aU h1;exact⟨ao,cap,e1,aF h5 h2 h5.size,ag (fun w'' hs=>ct.owned cO (Hw h1 hs hM hg) rfl (by obtain⟨_,_,_,_,_,h,_⟩:=h;exact h)),h2⟩
theorem yP {v:Value} {xs:List Int} (h:gM w v xs) (hM:M<=w) (hg:g<w) (h5:aq W5 w) :
  Calls Tryz.prog 90 #[v] w fun e w'=>∃ao cap,e = .returned (ah ao xs cap)/\aq W5 w'/\(Hid (∀w'',Sep M g w' w''->gM w'' (ah ao xs cap) xs))/\aq w w':=
 (eQ h).mono fun e w' ⟨v',e1,h1,h2⟩=>by
  obtain⟨ao,cap,rfl⟩:=aU h1;exact⟨ao,cap,e1,aF h5 h2 h5.size,ag (fun w'' hs=>ct.owned fS (Hw h1 hs hM hg) rfl (by obtain⟨_,_,_,_,_,h,_⟩:=h;exact h)),h2⟩
structure GK (w:World) (rs:List Raw) (xs:List Nd) (gv:Value) (r0:Int) (k:Nat) (wr:World):Prop where
 own:∃rs':List Raw,wr.ownsRow (w+2) 125 5 gv rs (rs'.flatMap bS)/\rs'=rs.length/\(∀(i:Nat) r x,i<k->rs'[i]?=some r->xs[i]?=some x->∀g,gv.ownBlock=some g->∀w',Sep (w+2) g wr w'->nS w' r x)/\∀i:Nat,k<=i->rs'[i]?=rs[i]?
 below:aq w wr
 size:w+2<=wr.heap.size
 c0:wr.cell? (w,0)=some gv
 c1:wr.cell? (w,1)=some (af r0)
 cf:∀o,wr.frozen? ⟨w.heap.size,o,none⟩=false
 d0:∃u,wr.cell? (w,1,0)=some u
 d1:∃u,wr.cell? (w,1,1)=some u
 df:∀o,wr.frozen? ⟨w.heap.size+1,o,none⟩=false
theorem PJ {wl:World} {rs':List Raw} {gc k:Nat} {xk:Nd} (rn:Raw)
  (ho:wr.ownsRow (w+2) 125 5 (ah g rs gc) rs (rs'.flatMap bS)) (hl':rs'=rs.length)
  (hdone:∀(i:Nat) r x,i<k->rs'[i]?=some r->xs[i]?=some x->∀g',(ah g rs gc).ownBlock=some g'->∀w',Sep (w+2) g' wr w'->nS w' r x)
  (hrest:∀i:Nat,k<=i->rs'[i]?=rs[i]?) (hg1:w+2<=g) (hg2:g<wr) (hlt:k<rs) (hxk:xs[k]?=some xk)
  (cT:aq w wr) (_hsz:w+2<=wr.heap.size) (tS:aq wr W5) (B:aq W5 wl)
  (c0:wr.cell? (w,0)=some (ah g rs gc)) (c1:wr.cell? (w,1)=some (af r0)) (cf:∀o,wr.frozen? ⟨w.heap.size,o,none⟩=false)
  {u0 u1:Value} (d0:wr.cell? (w,1,0)=some u0) (d1:wr.cell? (w,1,1)=some u1) (df:∀o,wr.frozen? ⟨w.heap.size+1,o,none⟩=false)
  (HN:∀w'',Sep (w+2) g wl w''->nS w'' rn xk) :
  GK w rs xs (ah g rs gc) r0 (k+1) (((((wl.setCell (g,k*5) (.bool rn.leaf)).setCell (g,k*5+1) rn.ev).setCell (g,k*5+2) rn.kv).setCell (g,k*5+3) rn.dv).setCell (g,k*5+4) rn.bv):=by
 have bl:aq wr wl:=aF tS B tS.size;obtain⟨wx,hwx⟩:=cd ((((((wl.setCell (g,k*5) (.bool rn.leaf)).setCell (g,k*5+1) rn.ev).setCell (g,k*5+2) rn.kv).setCell (g,k*5+3) rn.dv).setCell (g,k*5+4) rn.bv));have hown:wx.ownsRow (w+2) 125 5 (ah g rs gc) rs ((rs'.set k rn).flatMap bS):=by
  rw [hwx];exact td (cL ho bl) hlt hl'.symm
 have abD:Sep (w+2) g wl wx:=by
  rw [hwx];exact((((((Sep.refl _ _ wl).set (.inl rfl) _).set (.inl rfl) _).set (.inl rfl) _).set (.inl rfl) _).set (.inl rfl) _)
 have LX:aq w wx:=by
  rw [hwx];have h0:aq w wl:=aF cT bl cT.size;exact((((h0.setCell np _).setCell np _).setCell np _).setCell np _).setCell np _
 have hblk:∀b,b<w.heap.size+2->wx.heap[b]?=wr.heap[b]?:=fun b hb=>by
  rw [hwx,<-bl.block b ai];have:g≠b:=ai;simp [World.setCell,Array.getElem?_modify,this]
 have hcell:∀b o,b<w.heap.size+2->wx.cell? ⟨b,o,none⟩=wr.cell? ⟨b,o,none⟩:=fun b o hb=>oH (hblk b hb);have hfro:∀b o,b<w.heap.size+2->wx.frozen? ⟨b,o,none⟩=wr.frozen? ⟨b,o,none⟩:=fun b o hb=>World.frozen?_of_block (hblk b hb);have hsx:wl=wx.heap.size:=by rw [hwx];simp
 rw [<-hwx];refine⟨⟨rs'.set k rn,hown,by simp [hl'],fun i r x hi hr hx g' hg' w' hs=>?_,fun i hi=>?_⟩,LX,?_,?_,?_,fun o=>?_,⟨u0,?_⟩,⟨u1,?_⟩,fun o=>?_⟩
 ·have hgg:g=g':=by simpa [Value.ownBlock] using hg'
  subst hgg;by_cases hik:i=k
  ·subst hik;have:r=rn:=by rw [List.getElem?_set_self ai]at hr;simpa using hr.symm
   subst this;rw [hxk]at hx;injection hx with hx;subst hx;exact HN w' (abD.trans hs)
  ·rw [zV ai]at hr;exact hdone i r x ai hr hx g rfl w' (((Sep.of bl aO).trans abD).trans hs)
 ·rw [zV ai];exact hrest i ai
 ·have:=bl.size;omega
 ·rw [hcell _ _ ai];exact c0
 ·rw [hcell _ _ ai];exact c1
 ·rw [hfro _ _ ai];exact cf o
 ·rw [hcell _ _ ai];exact d0
 ·rw [hcell _ _ ai];exact d1
 ·rw [hfro _ _ ai];exact df o
theorem SD {gv:Value} {k:Nat} (h:GK w rs xs gv r0 k wr) (hk:rs<=k) (hl:rs=xs.length) (hs:rs.length*104<=140737488351232) (v0 v1:Value) :
  (∀w'',aQ w ((wr.setCell (w,1,0) v0).setCell (w,1,1) v1) w''->bn w'' gv xs)/\aq w ((wr.setCell (w,1,0) v0).setCell (w,1,1) v1):=by
 obtain⟨⟨rs',ho,hl',hdone,hrest⟩,cT,hsz,-,-,-,-,-,-⟩:=h;refine⟨fun w'' hk'=>?_,?_⟩
 ·have hke:aQ (w+2) wr w'':=((((aQ.refl _ wr).set (by show w.heap.size+1<_;omega) v0).set (by show w.heap.size+1<_;omega) v1).trans (hk'.mono ai));refine⟨rs',ct.owned fR (iU ho hke aO) hl'.symm (by rw [hl'];exact hs),ai,fun i r x hr hx=>?_⟩;have hi:=(dW.1 hr).1;obtain⟨g,cap2,rfl,hg1,hg2⟩:=ho.form ai;exact hdone i r x ai hr hx g rfl _ hke.sep
 ·exact(cT.setCell np _).setCell np _
theorem D4 {nv root:Value} (h:bn w nv xs) (hroot:∃r,root=af r) :
  Calls Tryz.prog 42 #[.agg #[nv,root]] w fun e w'=>∃nz,e = .returned (.agg #[nz,root])/\(∀w'',aQ w w' w''->bn w'' nz xs)/\aq w w':=by
 obtain⟨r0,rfl⟩:=hroot;obtain⟨rs,hs,hr⟩:=id h;have hmax:rs.length<=9223372036854775806:=by obtain⟨_,_,_,_,_,h,_⟩:=hs;omega
 obtain⟨ao,cap,rfl⟩:=hs.isSlice;obtain⟨W0,hW0⟩:=cd ((w.alloc (.cells #[ah ao rs cap,af r0] 27)).alloc (.cells #[az 0 0,af 0] 27));have hb0:aq w W0:=by rw [hW0];exact((aW _ w).alloc aO _).alloc bh _
 have HC:=ag (yO (hs.below hb0 aO) hr.one);rw [hW0]at HC;clear h;go_enter Tryz.func42,Tryz.ntmps42;go_wp2_with (go_at_call 88;refine HC.mono ?_;rintro e w1 ⟨gv,rfl,hown,hb1⟩;obtain⟨go,gc,rfl⟩:=aU hown;obtain⟨p1,p2,p3⟩:=rY hb1 (B:=w.heap.size) np;obtain⟨q1,q2,q3⟩:=rY hb1 (B:=w.heap.size+1) bh);have Y4:w+2<=w1.heap.size:=by have:=hb1.size;simp at this;omega
 go_loopg [12] rs (fun g c wr=>∃k,k<=rs.length/\g=rs.length-k/\c=af k/\GK w rs xs (ah go rs gc) r0 k wr)
 case atStart=>
  refine⟨0,eY _,rfl,rfl,?_⟩;refine⟨⟨rs,jy (by simpa using hown) ai _,rfl,bh,fun i _=>rfl⟩,?_,by simpa [aG] using Y4,?_,?_,?_,?_,?_,?_⟩
  ·refine Below.setCell ?_ np _;exact aF (hW0▸hb0) hb1 np
  all_goals first|(go_simp;done)|(simp [p2,p3,q2,q3];done)|(intro o;go_simp;done)|(intro o;simp [p2,p3,q2,q3];done)
 case round=>
  obtain⟨k,hk,rfl,rfl,HI⟩:=hrel;clear p1 p2 p3 q1 q2 q3 hown hb1 hb0 hW0 HC;by_cases hlt:k<rs
  ·obtain⟨⟨rs',ho,hl',hdone,hrest⟩,cT,hsz,c0,c1,cf,⟨u0,d0⟩,⟨u1,d1⟩,df⟩:=HI;obtain⟨g,cap2,hf,hg1,hg2⟩:=ho.form ai;injection hf with hf _ hcap;subst hf;subst hcap;obtain⟨rk,LI⟩:=bG (rs'[k]'(by omega));obtain⟨e0,e1,e2,e3,e4,ef⟩:=vF ho hl' (by omega:k<rs');rw [LI]at e0 e1 e2 e3 e4;have Qc:k<xs:=by rw [<-hr.1];exact hlt
   obtain⟨xk,hxk⟩:=bG (xs[k]);have IW:xs[k]?=some xk:=by rw [<-hxk];simp [Qc]
   have O5:rs'[k]?=some rk:=by rw [<-LI];simp
   have hN:nS w rk xk:=hr.2 k rk xk ((hrest k aO)▸O5) IW;clear LI;obtain⟨lf,ev,kv,dv,bv⟩:=rk;obtain⟨O8,hE,hK,hD,hB⟩:=hN;obtain⟨a1,n1,rfl⟩:=hE.isSlice;obtain⟨a2,n2,rfl⟩:=hK.isSlice;obtain⟨a3,n3,rfl⟩:=hD.isSlice;obtain⟨a4,n4,rfl⟩:=hB.isSlice;simp only at e0 e1 e2 e3 e4 O8 hE hK hD hB;go_upto_block 1 with (fail);go_cut [] (fun wx=>GK w rs xs (ah g rs gc) r0 (k+1) wx)
   case first=>
    go_upto_region 5 with (fail);obtain⟨W5,mD⟩:=cd (wr.alloc (.cells #[Value.bool xk.leaf,ah a1 xk.aI n1,ah a2 xk.keys n2,ah a3 xk.kids n3,ah a4 xk.buf n4] 125));have tS:aq wr W5:=(by rw [mD];exact(aW _ _).alloc aO _);have z5:W5=wr.heap.size+1:=(by rw [mD];simp);have n0:W5.heap[wr.heap.size]?=some (.cells #[Value.bool xk.leaf,ah a1 xk.aI n1,ah a2 xk.keys n2,ah a3 xk.kids n3,ah a4 xk.buf n4] 125):=(by rw [mD];show (wr.heap.push _)[wr.heap.size]?=_;simp);rw [<-mD];have hn5:∀w',aq W5 w'->w'.heap[wr.heap.size]?=some (.cells #[Value.bool xk.leaf,ah a1 xk.aI n1,ah a2 xk.keys n2,ah a3 xk.kids n3,ah a4 xk.buf n4] 125):=fun w' hb=>(hb.block _ ai).trans n0;have hS:∀w',aq W5 w'->w'.cell? (w,0)=some (ah g rs gc)/\w'.cell? (wr,0)=some (.bool xk.leaf)/\w'.cell? (wr,1)=some (ah a1 xk.aI n1)/\w'.cell? (wr,2)=some (ah a2 xk.keys n2)/\w'.cell? (wr,3)=some (ah a3 xk.kids n3)/\w'.cell? (wr,4)=some (ah a4 xk.buf n4):=fun w' hb=>by
     have hh:=hn5 w' hb;refine⟨?_,by simp [World.cell?,hh],by simp [World.cell?,hh],by simp [World.cell?,hh],by simp [World.cell?,hh],by simp [World.cell?,hh]⟩;rw [(aF tS hb tS.size).cell (p:=⟨w.heap.size,0,none⟩) (by show w.heap.size<wr.heap.size;omega)];exact c0
    have hG:∀w',aq W5 w'->w'.cell? (g,k*5)=some (.bool lf)/\w'.cell? (g,k*5+1)=some (ah a1 xk.aI n1)/\w'.cell? (g,k*5+2)=some (ah a2 xk.keys n2)/\w'.cell? (g,k*5+3)=some (ah a3 xk.kids n3)/\w'.cell? (g,k*5+4)=some (ah a4 xk.buf n4)/\∀o,w'.frozen? ⟨g,o,none⟩=false:=fun w' hb=>by
     have bb:=aF tS hb tS.size;exact⟨(bb.cell (p:=⟨g,_,none⟩) hg2).trans e0,(bb.cell (p:=⟨g,_,none⟩) hg2).trans e1,(bb.cell (p:=⟨g,_,none⟩) hg2).trans e2,(bb.cell (p:=⟨g,_,none⟩) hg2).trans e3,(bb.cell (p:=⟨g,_,none⟩) hg2).trans e4,fun o=>(bb.frozen (p:=⟨g,_,none⟩) hg2).trans (ef o)⟩
    have Qe:∀w',aq W5 w'->aq w w':=fun w' hb=>aF cT (aF tS hb tS.size) cT.size;have hcE:=fun w' (hb:aq W5 w')=>yQ (M:=w.heap.size+2) (g:=g) (hE.below (Qe w' hb) aO) (by have:=hb.size;omega) (by have:=hb.size;omega) hb;have hcK:=fun w' (hb:aq W5 w')=>yP (M:=w.heap.size+2) (g:=g) (hK.below (Qe w' hb) aO) (by have:=hb.size;omega) (by have:=hb.size;omega) hb;have hcD:=fun w' (hb:aq W5 w')=>yP (M:=w.heap.size+2) (g:=g) (hD.below (Qe w' hb) aO) (by have:=hb.size;omega) (by have:=hb.size;omega) hb;have hcB:=fun w' (hb:aq W5 w')=>yQ (M:=w.heap.size+2) (g:=g) (hB.below (Qe w' hb) aO) (by have:=hb.size;omega) (by have:=hb.size;omega) hb;have B0:aq W5 W5.drew:=(aW _ _).drew;have LM:w≠g:=ai;have Yf:wr≠g:=ai;have fE:∀(b:Nat),b≠g->∀(w':World) (o:Nat) (v:Value) (o':Nat),(w'.setCell ⟨g,o,none⟩ v).cell? ⟨b,o',none⟩=w'.cell? ⟨b,o',none⟩:=fun b hb w' o v o'=>oH (by have:g≠b:=Ne.symm hb;simp [World.setCell,Array.getElem?_modify,this]);have CK:=fE _ LM;have abC:=fE _ Yf;clear fE;have hstep:=ag (fun wl (B:aq W5 wl) rn (HN:∀w'',Sep (w+2) g wl w''->nS w'' rn xk)=>PJ rn ho hl' hdone hrest hg1 hg2 hlt IW cT hsz tS B c0 c1 cf d0 d1 df HN);clear hr hs cT hsz ho hl' hdone hrest e0 e1 e2 e3 e4 ef c0 c1 cf d0 d1 df hE hK hD hB tS z5 n0 hn5 Qe mD
    go_region_held3 (fun w'=>w'.cell? (w,0)=some (ah g rs gc)/\w'.cell? (wr,0)=some (.bool xk.leaf)/\w'.cell? (wr,1)=some (ah a1 xk.aI n1)/\w'.cell? (wr,2)=some (ah a2 xk.keys n2)/\w'.cell? (wr,3)=some (ah a3 xk.kids n3)/\w'.cell? (wr,4)=some (ah a4 xk.buf n4))
     (first|exact hS _ (by assumption)|(simp only [CK,abC];exact hS _ (by assumption)))
     (first
      |(go_at_call 89;refine(hcE _ ?_).mono ?_;(assumption);rintro e wE ⟨aE,cE,rfl,BE,HE,bE⟩;obtain⟨x0,x1,x2,x3,x4,xf⟩:=hG _ BE)
      |(go_at_call 90;refine(hcK _ ?_).mono ?_;(assumption);rintro e wK ⟨aK,cK,rfl,BK,HK,bK⟩;obtain⟨x0,x1,x2,x3,x4,xf⟩:=hG _ BK)
      |(go_at_call 90;refine(hcD _ ?_).mono ?_;(assumption);rintro e wD ⟨aD,cD,rfl,BD,HD,bD⟩;obtain⟨x0,x1,x2,x3,x4,xf⟩:=hG _ BD)
      |(go_at_call 89;refine(hcB _ ?_).mono ?_;(assumption);rintro e wB ⟨aB,cB,rfl,BB,HB,bB⟩;obtain⟨x0,x1,x2,x3,x4,xf⟩:=hG _ BB))
    all_goals
     go_wp2_with fail;go_meet;exact hstep _ (by assumption) ⟨xk.leaf,_,_,_,_⟩ (fun w'' hs=>⟨rfl,HE _ (Sep.trans Bz hs),HK.out _ (Sep.trans Bz hs),HD.out _ (Sep.trans Bz hs),HB.out _ (Sep.trans Bz hs)⟩)
   case rest=>
    go_wp2;go_roundg (rs-(k+1))
    case measure=>omega
    case rel=>exact⟨k+1,ai,rfl,by go_num,hcut⟩
  ·have hkk:rs<=k:=ai;have HE:=ag (SD HI hkk hr.1 (by obtain⟨_,_,_,_,_,h,_⟩:=hs;exact h));obtain⟨-,-,-,c0,c1,cf,⟨u0,d0⟩,⟨u1,d1⟩,df⟩:=HI;clear hr hs Y4;go_wp2;exact bW (v:= .agg #[ah go rs gc,af r0]) (by simp [results,Tryz.results42,d0,d1,go_sem]) rfl ⟨_,rfl,HE _ _⟩
end
def jN (s:ByteArray):List Value:=[.string s]
theorem dD (s:ByteArray):(jN s).length=1:=rfl
theorem sw (xs:List ByteArray):∀u∈xs.flatMap jN,u.oneCell'=true:=by
 intro u hu;obtain⟨x,_,hx⟩:=List.mem_flatMap.1 hu;simp [jN]at hx;subst hx;rfl
theorem Tryz.U1:(Tryz.prog.info? 9).map (fun i=>(i.zero.map (fun z=>z.cells.size),i.size,i.bytes))=some (some 1,1,16):=cV
abbrev fX (w:World) (v:Value) (xs:List ByteArray):Prop:=ct 1 16 jN w v xs
def bR (w:World) (v:Value) (b:Ba):Prop:=∃nv a0 a1 a2,v = .agg #[nv,a0,af b.t0.root,a1,af b.t1.root,a2,af b.t2.root,af b.floor]/\fX w nv b.names/\bn w a0 b.t0.nodes/\bn w a1 b.t1.nodes/\bn w a2 b.t2.nodes
theorem yN {v:Value} {xs:List ByteArray} {w:World} (h:ct 1 16 jN w v xs) :
  Calls Tryz.prog 41 #[v] w fun e w'=>∃v',e = .returned v'/\w'.ownsRow w 9 1 v' xs (xs.flatMap jN)/\aq w w':=by
 obtain⟨ao,cap,rfl,h1,h2,h3,h4,h5⟩:=id h;have hnil:∀w,(binOp .eql 24 (ah ao xs cap) (az 0 0)).run Tryz.prog w = .ok (.bool ao.isNone) w:=fun w=>Lib.run_eql_slice_nil w _ _ _ _ _ _ _ Tryz.underlying24
 cases ao with
 |none=>
  have h0:xs.length=0:=by have:=h4 rfl;omega
  obtain rfl:=yX h0;obtain rfl:cap=0:=h4 rfl;clear h4 h5;simp only [Option.isNone_none,List.length_nil]at hnil;go_enter Tryz.func41,Tryz.ntmps41;go_wp2_with fail;go_ret;exact⟨_,rfl,oV _ _ _ _,aW _ _⟩
 |some ad=>
  obtain⟨_,g1,g2⟩:=h.news (dD);obtain⟨i0,z,hi,hz,hz1,hz2,hz3⟩:=cG Tryz.U1;simp only [Option.isNone_some]at hnil;have hown0:(w.alloc (.cells #[] 9)).ownsRow w 9 1 (ah w 0 0) 0 []:=World.ownsRow_made w #[] 0 aO (by simp [maxLen]) bh;clear h4 h5;go_enter Tryz.func41,Tryz.ntmps41;go_wp2_with (at_builtin;refine wpList_append_own _ rfl _ _ 24 rfl w 9 i0 z 1 16 Tryz.underlying24 hi hz hz1 hz2 hz3 bY _ _ _ rfl hown0 ad xs cap (xs.flatMap jN) rfl g1 (fun j u hj=>tG (g2 j u hj)) (sw xs) iI ai bh ?_;intro v' w3 hown' hgrow hv);go_ret;exact⟨v',rfl,by simpa using hown',nP ((aW _ _).alloc aO _) hgrow bh (fun j hj=>(hown0.lt j hj).1)⟩
theorem fW {w:World} {v:Value} {xs:List Nd} (h:bn w v xs):∃ao n cap,v=ah ao n cap:=by
 obtain⟨rs,hs,_⟩:=h;obtain⟨a,c,h⟩:=hs.isSlice;exact⟨a,_,c,h⟩
section
variable {b:Ba} {f:Nat->Value} {nv:Value} {w wr:World}
theorem QR {B C size n:Nat} {e:TypeId} {v:Value} {us:List Value} (h:w.ownsRow B e size v n us) (hC:C<=B):w.ownsRow C e size v n us:=by
 obtain⟨hl,⟨rfl,h0⟩|⟨g,cap,cur,rfl,hB,hg,h1,h2,h3,h4⟩⟩:=h
 ·exact⟨hl, .inl ⟨rfl,h0⟩⟩
 ·exact⟨hl, .inr ⟨g,cap,cur,rfl,ai,hg,h1,h2,h3,h4⟩⟩
structure DJ (w:World) (nv:Value) (b:Ba) (f:Nat->Value) (M:Nat) (k:Nat) (wr:World):Prop where
 below:aq w wr
 size:w+2<=wr.heap.size
 low:w+2<=M
 high:M<=wr
 lt:∀b,nv.ownBlock=some b->b<M
 box:wr.heap[w.heap.size]?=some (.cells #[nv,f 0,af b.t0.root,f 1,af b.t1.root,f 2,af b.t2.root,af b.floor] 30)
 res:wr.heap[w.heap.size+1]?=some (.cells #[az 0 0,az 0 0,af 0,az 0 0,af 0,az 0 0,af 0,af 0] 30)
 names:∀w'',aQ (w+2) wr w''->fX w'' nv b.names
 own:∀w'',aQ (w+2) wr w''->w''.ownsRow (w+2) 9 1 nv b.names (b.names.flatMap jN)
 nd:∀j,j<3->∀w'',(k<=j->aq w w'')->aQ M wr w''->bn w'' (f j) (b.tree j).nodes
section
variable {w:World} {nv:Value} {b:Ba} {f:Nat->Value} {M k:Nat} {wr:World}
theorem DJ.step {a':Value} {w5:World} (h:DJ w nv b f M k wr) (hk3:k<3) (cy:aq wr w5) (HK:∀w'',aQ wr w5 w''->bn w'' a' (b.tree k).nodes) :
  DJ w nv b (upd f k a') M (k+1) ((w5.setCell (w,1+k*2) a').setCell (w,1+k*2+1) (af (b.tree k).root)):=by
 have hsz:=h.size;have hs5:=cy.size;have hb:aq w w5:=aF h.below cy h.below.size;have hp:w<w.heap.size+2:=ai;have K0:aQ (w+2) wr ((w5.setCell (w,1+k*2) a').setCell (w,1+k*2+1) (af (b.tree k).root)):=((aQ.of cy aO).set hp _).set hp _;have yw:=h.low;have ajg:=h.high;refine⟨(hb.setCell aO _).setCell aO _,by simp;omega,yw,by simp;omega,h.lt,?_,?_,fun w'' hk=>h.names w'' (K0.trans hk),fun w'' hk=>h.own w'' (K0.trans hk),fun j hj w'' hb hk=>?_⟩
 ·have h0:=aM (off:=1+k*2+1) (v:=af (b.tree k).root) (aM (off:=1+k*2) (v:=a') ((cy.block _ ai).trans h.box));rw [h0];obtain rfl|rfl|rfl:k=0\/k=1\/k=2:=ai
  all_goals simp [upd,Ba.tree]
 ·rw [xy _ _ _ _ (by show w+1≠w.heap.size;omega),xy _ _ _ _ (by show w+1≠w.heap.size;omega)];exact(cy.block _ ai).trans h.res
 ·by_cases hjk:j=k
  ·subst hjk;rw [iq];exact HK w'' (((((aQ.refl _ _).set hp _).set hp _).mono yw).trans hk |>.mono h.high)
  ·rw [upd_ne _ _ hjk];exact h.nd j hj w'' (fun hkj=>hb ai) ((K0.mono yw).trans hk)
theorem DJ.at (h:DJ w nv b f M k wr) (hk:k<3):wr.cell? (w,1+k*2)=some (f k)/\wr.cell? (w,1+k*2+1)=some (af (b.tree k).root):=by
 have h1:=h.box;obtain rfl|rfl|rfl:k=0\/k=1\/k=2:=ai
 all_goals simp [World.cell?,h1,Ba.tree]
end
theorem DJ.cells {M k:Nat} (h:DJ w nv b f M k wr):wr.cell? (w,0)=some nv/\wr.cell? (w,1)=some (f 0)/\(wr,w.heap.size,2,b.t0.root)/\wr.cell? (w,3)=some (f 1)/\(wr,w.heap.size,4,b.t1.root)/\wr.cell? (w,5)=some (f 2)/\(wr,w.heap.size,6,b.t2.root)/\(wr,w.heap.size,7,b.floor)/\∀o,wr.frozen? ⟨w.heap.size,o,none⟩=false:=by
 simp [World.cell?,World.frozen?,h.box]
theorem DJ.K4 {M k:Nat} (h:DJ w nv b f M k wr):wr.cell? (w,1,0)=some (az 0 0)/\wr.cell? (w,1,1)=some (az 0 0)/\(wr,w.heap.size+1,2)/\wr.cell? (w,1,3)=some (az 0 0)/\(wr,w.heap.size+1,4)/\wr.cell? (w,1,5)=some (az 0 0)/\(wr,w.heap.size+1,6)/\(wr,w.heap.size+1,7)/\∀o,wr.frozen? ⟨w.heap.size+1,o,none⟩=false:=by
 simp [World.cell?,World.frozen?,h.res]
theorem rC {v:Value} (h:bR w v b) :
  Calls Tryz.prog 18 #[v] w fun e w'=>aq w w'/\∃sa sc g0 l0 p0 g1 l1 p1 g2 l2 p2,e = .returned (.agg #[ah sa b.names sc,ah g0 l0 p0,af b.t0.root,ah g1 l1 p1,af b.t1.root,ah g2 l2 p2,af b.t2.root,af b.floor]) /\
   w'.ownsRow (w+2) 9 1 (ah sa b.names sc) b.names (b.names.flatMap jN)/\∃M,w.heap.size+2<=M/\M<=w'.heap.size/\(∀b',(ah sa b.names sc).ownBlock=some b'->b'<M) /\
   (∀w'',aQ M w' w''->bn w'' (ah g0 l0 p0) b.t0.nodes/\bn w'' (ah g1 l1 p1) b.t1.nodes/\bn w'' (ah g2 l2 p2) b.t2.nodes)/\∀w'',aQ (w+2) w' w''->bR w'' (.agg #[ah sa b.names sc,ah g0 l0 p0,af b.t0.root,ah g1 l1 p1,af b.t1.root,ah g2 l2 p2,af b.t2.root,af b.floor]) b:=by
 obtain⟨nv,a0,a1,a2,rfl,hs,h0,h1,h2⟩:=h;obtain⟨sa,sn,sc,rfl⟩:∃a n c,nv=ah a n c:=by obtain⟨a,c,h⟩:=hs.isSlice;exact⟨a,_,c,h⟩
 obtain⟨g0,l0,p0,rfl⟩:=fW h0;obtain⟨g1,l1,p1,rfl⟩:=fW h1;obtain⟨g2,l2,p2,rfl⟩:=fW h2;have HC:=ag fun w' (hb:aq w w')=>yN (hs.below hb aO);obtain⟨W0,hW0⟩:=cd ((w.alloc (.cells #[ah sa sn sc,ah g0 l0 p0,af b.t0.root,ah g1 l1 p1,af b.t1.root,ah g2 l2 p2,af b.t2.root,af b.floor] 30)).alloc (.cells #[az 0 0,az 0 0,af 0,az 0 0,af 0,az 0 0,af 0,af 0] 30));have hb0:aq w W0:=by rw [hW0];exact oF
 have hz0:W0=w.heap.size+2:=by rw [hW0];simp
 have k0:W0.heap[w.heap.size]?=some (.cells #[ah sa sn sc,ah g0 l0 p0,af b.t0.root,ah g1 l1 p1,af b.t1.root,ah g2 l2 p2,af b.t2.root,af b.floor] 30):=by
  rw [hW0,gy _ _ _ bh];exact au _ _ rfl
 have k1:W0.heap[w.heap.size+1]?=some (.cells #[az 0 0,az 0 0,af 0,az 0 0,af 0,az 0 0,af 0,af 0] 30):=by
  rw [hW0];exact au _ _ bh
 have q0:W0.cell? (w,0)=some (ah sa sn sc):=by simp [World.cell?,k0]
 have qf:∀o,W0.frozen? ⟨w.heap.size,o,none⟩=false:=fun o=>by simp [World.frozen?,k0]
 go_enter Tryz.func18,Tryz.ntmps18;go_upto_region 1 with (fail);rw [<-hW0];clear hW0;go_upto_region 2 with ((go_at_call 41;(with_reducible refine(HC.out _ hb0).mono ?_);rintro e w1 ⟨nz,rfl,hown,hb1⟩;obtain⟨s',c',rfl⟩:=aU hown;obtain⟨XT,k2',k3'⟩:=rY hb1 (B:=w.heap.size) ai));obtain⟨W2,hW2⟩:=cd (w1.setCell (w,0) (ah s' b.names c'));have hst:DJ w (ah s' b.names c') b (ny (ah g0 l0 p0) (ah g1 l1 p1) (ah g2 l2 p2)) w1 0 W2:=by
  have cT:aq w w1:=aF hb0 hb1 hb0.size;have hs1:=hb1.size;rw [hW2];refine⟨oF,by simp;omega,ai,bh,fun b hb=>(hown.lt b hb).2,?_,?_,fun w'' hk=>?_,fun w'' hk=>iU (QR hown ai) (((aQ.refl _ _).set (by show w<w.heap.size+2;omega) _).trans hk) aO,fun j hj w'' hb _=>?_⟩
  ·have h0:=aM (off:=0) (v:=ah s' b.names c') ((hb1.block _ ai).trans k0);simpa [ny] using h0
  ·rw [xy _ _ _ _ (by show w+1≠w.heap.size;omega)];exact(hb1.block _ ai).trans k1
  ·refine ct.owned dD (iU hown (((aQ.refl _ _).set (by show w<w.heap.size+2;omega) _).trans hk) ai) rfl ?_;obtain⟨_,_,_,_,_,h,_⟩:=hs;exact h
  ·obtain rfl|rfl|rfl:j=0\/j=1\/j=2:=ai
   ·exact h0.below (hb bY) aO
   ·exact h1.below (hb bY) aO
   ·exact h2.below (hb bY) aO
 rw [<-hW2];have HST:=ag hst;clear hst hW2 k0 k1 q0 qf hown hb1 XT k2' k3' HC h0 h1 h2 hs;go_wp2_with fail
 go_loopg [8] 3 (fun g i wr=>∃(k:Nat) (f:Nat->Value),k<=3/\g=3-k/\i=af k/\Hid (DJ w (ah s' b.names c') b f w1 k wr))
 case atStart=>exact⟨0,_,ai,rfl,rfl,HST⟩
 case round=>
  obtain⟨k,f,hk,rfl,rfl,HB⟩:=hrel;have hsz:=HB.out.size;by_cases hlt:k<3
  ·have tz:(k:Int)<3:=ai;have HT:=ag (D4 (root:=af (b.tree k).root) (HB.out.nd k hlt wr (fun _=>HB.out.below) (aQ.refl _ _)) ⟨_,rfl⟩);obtain⟨g,l,p,hg⟩:=fW (HB.out.nd k hlt wr (fun _=>HB.out.below) (aQ.refl _ _));obtain⟨c1,c2⟩:=HB.out.at hlt;obtain⟨-,-,-,-,-,-,-,-,cf⟩:=HB.out.cells;rw [hg]at c1 HT;obtain⟨r,hr⟩:=bG ((b.tree k).root);rw [hr]at c2 HT;have HS:=ag fun a' w5=>HB.out.step (a':=a') (w5:=w5) hlt;rw [hr]at HS;clear hg hr;go_wp2_with ((go_at_call 42;(with_reducible refine HT.out.mono ?_);rintro e w5 ⟨a',rfl,HK,cy⟩;obtain⟨g',l',p',rfl⟩:=fW (HK w5 (aQ.refl _ _));obtain⟨XT,k2',k3'⟩:=rY cy (B:=w.heap.size) ai));go_roundg (3-(k+1))
   case measure=>omega
   case rel=>exact⟨k+1,_,ai,rfl,by go_num,ag (HS _ _ cy HK)⟩
  ·obtain rfl:k=3:=ai;obtain⟨g0,l0,p0,e0⟩:=fW (HB.out.nd 0 bY wr (fun _=>HB.out.below) (aQ.refl _ _));obtain⟨g1,l1,p1,e1⟩:=fW (HB.out.nd 1 bY wr (fun _=>HB.out.below) (aQ.refl _ _));obtain⟨g2,l2,p2,e2⟩:=fW (HB.out.nd 2 bY wr (fun _=>HB.out.below) (aQ.refl _ _));obtain⟨c0,c1,c2,c3,c4,c5,c6,c7,cf⟩:=HB.out.cells;rw [e0]at c1;rw [e1]at c3;rw [e2]at c5;have HND:=ag (show ∀w'',aQ w1 wr w''->bn w'' (ah g0 l0 p0) b.t0.nodes/\bn w'' (ah g1 l1 p1) b.t1.nodes/\bn w'' (ah g2 l2 p2) b.t2.nodes from fun w'' hk=>⟨e0▸HB.out.nd 0 bY w'' (fun h=>absurd h bY) hk,e1▸HB.out.nd 1 bY w'' (fun h=>absurd h bY) hk,e2▸HB.out.nd 2 bY w'' (fun h=>absurd h bY) hk⟩);obtain⟨z0,z1,z2,z3,z4,z5,z6,z7,zf⟩:=HB.out.K4;have cT:=HB.out.below;have hlo:=HB.out.low;have K1:∀w'',aQ (w+2) wr w''->bR w'' (.agg #[ah s' b.names c',ah g0 l0 p0,af b.t0.root,ah g1 l1 p1,af b.t1.root,ah g2 l2 p2,af b.t2.root,af b.floor]) b:=fun w'' hk=>⟨_,_,_,_,rfl,HB.out.names w'' hk,HND w'' (hk.mono hlo)⟩;have hhi:=HB.out.high;have MN:=ag K1;clear K1 e0 e1 e2;go_wp2;have HO:=HB.out.own;refine bW (v:= .agg #[ah s' b.names c',ah g0 l0 p0,af b.t0.root,ah g1 l1 p1,af b.t1.root,ah g2 l2 p2,af b.t2.root,af b.floor]) (by simp [results,Tryz.results18,go_sem, *]) rfl ⟨?_,_,_,_,_,_,_,_,_,_,_,_,rfl,?_,w1.heap.size,hlo,by simp only [aG];omega,HB.out.lt,fun w'' hk=>HND w'' (aQ.trans ?_ hk),fun w'' hk=>MN w'' (aQ.trans ?_ hk)⟩
   ·exact oF
   ·refine HO _ ?_
    repeat (first|with_reducible exact aQ.refl _ _|with_reducible refine aQ.set ?_ (by show w+1<w.heap.size+2;omega) _)
   ·repeat (first|with_reducible exact aQ.refl _ _|with_reducible refine aQ.set ?_ (by show w+1<w1.heap.size;omega) _)
   ·repeat (first|with_reducible exact aQ.refl _ _|with_reducible refine aQ.set ?_ (by show w+1<w.heap.size+2;omega) _)
end
section
variable {b:Ba} {l:List aH} {w:World}
theorem kG.allT {B:Nat} {t:Tr} {e:Ending} {w':World} (h:kG B w (aC t) (mz t 0 1099511627776) e w') :
  Below B w w'/\(match allT t with|none=>∃E:Int,(E != 0)=true/\e = .returned (.tuple #[az 0 0,af E])|some l=>∃v,e = .returned (.tuple #[v,af 0])/\ay B w' v l):=by
 obtain⟨hb,h1,h2⟩:=h;refine⟨hb,?_⟩;unfold Go.Proofs.YtmljjfhgciaceaaGreatDoor.allT;by_cases hf:aC t=0
 ·have h3:=h2 hf;rw [aw hf]
  cases hr:mz t 0 1099511627776 with
  |none=>rw [hr]at h3;exact⟨1,rfl,h3⟩
  |some l=>rw [hr]at h3;exact h3
 ·rw [ar hf];exact⟨_,by simp [hf],h1 hf⟩
theorem vV (h1:allT b.t0=some l) (h2:l.all (iu b)=true):cx b=some l:=by
 unfold cx;rw [h1];simp only;rw [aw h2]
theorem JN {k:Nat} (h1:allT b.t0=some l) (hk:k<l) (h2:iu b l[k]=false):cx b=none:=by
 unfold cx;rw [h1];simp only;rw [ar];intro h;have:=rH.1 h l[k] (eZ hk);rw [h2]at this;cases this
theorem Ff (h1:allT b.t0=none):cx b=none:=by unfold cx;rw [h1]
abbrev aL (sa:Option Addr) (sn sc:Nat) (g0:Option Addr) (l0 p0:Nat) (g1:Option Addr) (l1 p1:Nat) (g2:Option Addr) (l2 p2:Nat) (b:Ba):Array Value:=
 #[ah sa sn sc,ah g0 l0 p0,af b.t0.root,ah g1 l1 p1,af b.t1.root,ah g2 l2 p2,af b.t2.root,af b.floor]
theorem bR.open {v:Value} (h:bR w v b):∃sa sc g0 l0 p0 g1 l1 p1 g2 l2 p2,v = .agg (aL sa b.names sc g0 l0 p0 g1 l1 p1 g2 l2 p2 b)/\b.names.length<=8796093022208/\fX w (ah sa b.names sc) b.names /\
  (∀w',aq w w'->di w' (.agg #[ah g0 l0 p0,af b.t0.root]) b.t0)/\(∀w',aq w w'->di w' (.agg #[ah g1 l1 p1,af b.t1.root]) b.t1)/\(∀w',aq w w'->di w' (.agg #[ah g2 l2 p2,af b.t2.root]) b.t2):=by
 obtain⟨nv,a0,a1,a2,rfl,s,n0,n1,n2⟩:=h;obtain⟨sa,sc,rfl⟩:=s.isSlice;obtain⟨g0,l0,p0,rfl⟩:=fW n0;obtain⟨g1,l1,p1,rfl⟩:=fW n1;obtain⟨g2,l2,p2,rfl⟩:=fW n2;obtain⟨_,_,_,_,_,h6,_⟩:=id s;exact⟨sa,sc,g0,l0,p0,g1,l1,p1,g2,l2,p2,rfl,ai,s,fun w' hb=>⟨_,rfl,n0.below hb aO⟩,fun w' hb=>⟨_,rfl,n1.below hb aO⟩,fun w' hb=>⟨_,rfl,n2.below hb aO⟩⟩
theorem sy {v:Value} (h:bR w v b) :
  Calls Tryz.prog 25 #[v] w (nX w w (cx b)):=by
 obtain⟨sa,sc,g0,l0,p0,g1,l1,p1,g2,l2,p2,rfl,hn,_,T0,_,_⟩:=h.open;obtain⟨W0,hW0⟩:=cd (w.alloc (.cells (aL sa b.names sc g0 l0 p0 g1 l1 p1 g2 l2 p2 b) 30));have hb0:aq w W0:=by rw [hW0];exact aj
 have hz0:W0=w.heap.size+1:=by rw [hW0];simp
 have k0:W0.heap[w.heap.size]?=some (.cells (aL sa b.names sc g0 l0 p0 g1 l1 p1 g2 l2 p2 b) 30):=by rw [hW0];exact au _ _ rfl
 have HX:=ag fun w' (hb:aq W0 w')=>(by
  have b0:w'.heap[w.heap.size]?=_:=(hb.block _ ai).trans k0;simp [World.cell?,b0] :
  w'.cell? (w,0)=some (ah sa b.names sc)/\(w',w.heap.size,7,b.floor))
 have HB:=ag fun w' (hb:aq W0 w')=>(aF hb0 hb hb0.size:aq w w');have HA:=ag ((vX (lo:=0) (hi:=1099511627776) (T0 W0 hb0)).mono fun e w' hp=>kG.allT hp);obtain⟨c1,c2⟩:W0.cell? (w,1)=some (ah g0 l0 p0)/\(W0,w.heap.size,2,b.t0.root):=by simp [World.cell?,k0]
 clear T0;go_enter Tryz.func25,Tryz.ntmps25;go_upto_region 1 with (fail);rw [<-hW0];clear hW0 k0
 cases hT:allT b.t0 with
 |none=>
  have HN:=ag (Ff hT);rw [hT]at HA;clear hT;go_wp2_with ((go_at_call 53;(with_reducible refine HA.out.mono ?_);rintro e w1 ⟨hb1,E,hE,rfl⟩;have cT:=HB _ hb1))
  go_ret2
  rw [HN];exact⟨cT,rfl⟩
 |some l=>
  have HT:=ag hT;have HG:=ag (fg hT);have hlen:l.length<=50000:=(fg hT).2.2.2;rw [hT]at HA;clear hT;go_upto_region 4 with ((go_at_call 53;(with_reducible refine HA.out.mono ?_);rintro e w1 ⟨hb1,v1,rfl,tW⟩;obtain⟨s1,d1,rfl⟩:=tW.isSlice));have HL:=ag (tW.at ai);have HO:=ag tW;have hz1:=hb1.size;clear c1 c2 tW;go_wp2_with fail
  go_loopg [6] l (fun g i wr=>∃k:Nat,k<=l/\g=l-k/\i=af k/\Hid ((l.take k).all (iu b)=true)/\aq w1 wr)
  case atStart=>exact⟨0,eY _,rfl,rfl,ag rfl,aW _ _⟩
  case round=>
   obtain⟨k,hk,rfl,rfl,HR,hb⟩:=hrel;have hsz:=hb.size;have F6:aq W0 wr:=aF hb1 hb hz1;obtain⟨x0,x7⟩:=HX _ F6;by_cases hlt:k<l
   ·obtain⟨_,_,hv,-,-,-,-,h5⟩:=HL.out;injection hv with hv1 _ hv3;subst hv3;obtain⟨eb,cM,ll,pq,jF⟩:=h5 ai;subst ll;subst hv1;obtain⟨y0,y1,y2,y3,y4,y5,y6⟩:=br hb pq jF hlt;obtain⟨y,hy⟩:=bG (l[k]);rw [hy]at y0 y1 y2 y3 y4 y5 y6;have wG:y∈l:=(by rw [<-hy];exact eZ hlt);obtain⟨iy,hk1⟩:=HG.2.2.1 y wG;have qA:=ag fun(h:iu b y=false)=>JN HT hlt (by rw [hy];exact h);have uY:=ag fun(h:iu b y=true)=>(by rw [ja hlt,List.all_append,HR.out,hy];simp [h]:(l.take (k+1)).all (iu b)=true);obtain⟨M,hM⟩:=bG (y.key%1048576);obtain⟨Q,hQ⟩:=bG (y.key/1048576);have Jd:0<=M/\M<1048576:=ai;have hQ0:0<=Q/\Q<1048576:=ai;have m1:y.key.tmod 1048576=M:=(by rw [tJ iy];exact hM);have m2:y.key.tdiv 1048576=Q:=(by rw [Dw iy];exact hQ);have m3:IntKind.i64.wrap M=M:=bI _ ai;have m4:IntKind.i64.wrap Q=Q:=bI _ ai;have qK:=ag (show iu b y=(decide (Q<b.names) && decide (b.floor<=M) && decide (y.is.t=M)) by simp [iu,hM,hQ]);have jA:=fun w'=>cN (ab:=eb) (aR:=cM) (n:=l.length) (cap:=d1) (show (k:Int)=((k:Nat):Int) by rfl) hlt w';have hwz:eb<wr:=ai;have YM:aq w wr:=HB _ F6;clear jF h5 hy wG hM hQ Jd hQ0 F6;go_upto_region 8 with (fail);by_cases i1:Q<b.names
    ·have e1:decide ((b.names.length:Int)<=Q)=false:=(by simp;omega);by_cases i2:b.floor<=M
     ·have e2:decide (M<b.floor)=false:=(by simp;omega);by_cases i3:y.is.t=M
      ·have e3:(y.is.t != M)=false:=(by simp [i3]);have HGD:=ag (uY (by rw [qK];simp [i1,i2,i3]));clear i1 i2 i3 uY qA qK;go_quiet (fail);go_wp2;go_roundg (l-(k+1))
       case measure=>omega
       case rel=>exact⟨k+1,ai,rfl,by go_num,HGD,aj⟩
      ·have e3:(y.is.t != M)=true:=(by simp [i3]);have DV:=ag (qA (by rw [qK];simp [i3]));clear i1 i2 i3 uY qA qK;go_quiet (fail);go_wp2
       go_ret2
       rw [DV];exact⟨aj,rfl⟩
     ·have e2:decide (M<b.floor)=true:=(by simp;omega);have DV:=ag (qA (by rw [qK];simp [i2]));clear i1 i2 uY qA qK;go_quiet (fail);go_wp2
      go_ret2
      rw [DV];exact⟨aj,rfl⟩
    ·have e1:decide ((b.names.length:Int)<=Q)=true:=(by simp;omega);have DV:=ag (qA (by rw [qK];simp [i1]));clear i1 uY qA qK;go_quiet (fail);go_wp2
     go_ret2
     rw [DV];exact⟨aj,rfl⟩
   ·have HN:=ag (vV HT (by have:=HR.out;rw [iM ai]at this;exact this));have YM:aq w wr:=HB _ F6;have ho:=(HO.below hb aO).mono (show w<=W0.heap.size by omega);clear F6;go_wp2
    go_ret2
    rw [HN];exact⟨YM,_,rfl,ho⟩
end
section
variable {b:Ba} {z:Int} {l:List aH} {t:Tr} {w:World}
def Dy (b:Ba) (i:Nat):Prop:=∀h:i<b.names,dt b.names[i]=true/\∀k (hk:k<i),b.names[k]≠b.names[i]
def BF (b:Ba):Prop:=∀i,Dy b i
structure kj (b:Ba):Prop where
 n16:b.names.length<=16
 fl0:0<=b.floor
 TN:b.floor<=1048575
 Sp:b.floor%3600=0
 names:BF b
 trees:∃l,cx b=some l/\∀k,k<3->kK l (b.tree k) (bp k)=true
open Classical in
noncomputable def aS (b:Ba):Bool:=decide (kj b)
theorem eu (h:¬kj b):aS b=false:=by simp [aS,h]
theorem lZ (h:kj b):aS b=true:=by simp [aS,h]
theorem dJ (h:aS b=true):kj b:=by simpa [aS] using h
theorem nE {wr:World} {b off k:Nat} {xs:List ByteArray} (hb:aq w wr) (hbb:b<w)
  (hc:∀(i:Nat) x,xs[i]?=some x->∀j u,(jN x)[j]?=some u->w.cell? (b,off+i*1+j)=some u) (hk:k<xs):wr.cell? (b,off+k)=some (.string xs[k]):=by
 have:=hc k xs[k] (by simp [hk]) 0 _ rfl;rw [Nat.mul_one,Nat.add_zero]at this;exact(hb.cell (p:=(b,off+k)) hbb).trans this
theorem qV {ab aR n cap j:Nat} {i:Int} (h:i=j) (hj:j<n) (w:World):(Instr.indexAt 24 (ah (some (ab,aR)) n cap) (af i)).run Tryz.prog w = .ok (.pointer (some (ab,aR+j))) w:=by
 subst h;go_simp
theorem BU (s t:ByteArray):(s.toList == t.toList)=decide (s=t):=by
 by_cases h:s=t
 ·subst h;simp
 ·have h2:s.toList≠t.toList:=fun e=>h (by
   rw [ByteArray.toList_eq,ByteArray.toList_eq]at e
   cases s;cases t
   simp only [ByteArray.mk.injEq]at *;exact Array.toList_inj.1 e)
  simp [h,h2]
theorem nG (k:Nat) (hk:k<3) (w:World):Calls Tryz.prog 44 #[af k] w fun e w'=>e = .returned (af (bp k))/\aq w w':=by
 obtain rfl|rfl|rfl:k=0\/k=1\/k=2:=ai
 all_goals
  go_enter Tryz.func44,Tryz.ntmps44;go_wp2;go_ret;exact⟨rfl,aj⟩
theorem bR.below {w':World} {v:Value} (h:bR w v b) (hb:aq w w'):bR w' v b:=by
 obtain⟨nv,a0,a1,a2,rfl,s0,n0,n1,n2⟩:=h;exact⟨nv,a0,a1,a2,rfl,s0.below hb aO,n0.below hb aO,n1.below hb aO,n2.below hb aO⟩
theorem qP {a c:List aH} (h1:bw l z=some a) (h2:allT t=some c):kK l t z=decide (a=c):=by unfold kK;rw [h1,h2]
theorem BP (h1:bw l z=none):kK l t z=false:=by unfold kK;rw [h1]
theorem BO (h1:allT t=none):kK l t z=false:=by unfold kK;rw [h1];cases bw l z <;> rfl
abbrev SzP (i:Int) (k:Nat):Prop:=∀w,Calls Tryz.prog 44 #[af i] w fun e w'=>e = .returned (af (bp k))/\aq w w'
def xD (b:Ba) (l:List aH) (k:Nat) (B:Bool):Prop:=(B=true->∀j,j<k->kK l (b.tree j) (bp j)=true)/\(B=false->aS b=false)
theorem xD.next {k:Nat} (hl:cx b=some l) (h:xD b l k true) (hk:k<3):xD b l (k+1) (kK l (b.tree k) (bp k)):=by
 refine⟨fun hT j hj=>?_,fun hF=>eu fun hB=>?_⟩
 ·by_cases hjk:j=k
  ·subst hjk;exact hT
  ·exact h.1 rfl j ai
 ·obtain⟨l',e,ht⟩:=hB.trees;rw [hl]at e;simp only [iJ]at e;subst e;rw [ht k hk]at hF;cases hF
theorem xD.end (hl:cx b=some l) (h:xD b l 3 true) (h1:b.names.length<=16) (h2:0<=b.floor/\b.floor<=1048575) (h3:b.floor%3600=0) (h4:BF b):aS b=true:=
 lZ ⟨h1,h2.1,h2.2,h3,h4,l,hl,fun k hk=>h.1 rfl k hk⟩
theorem fI (h:cx b=some l):aY l/\dX l:=fg (lM h).1
theorem rp {v:Value} (h:bR w v b) (hst:∀s∈b.names,s.size<=140737488351232) :
  Calls Tryz.prog 24 #[v] w fun e w'=>e = .returned (.bool (aS b))/\aq w w':=by
 obtain⟨sa,sc,g0,l0,p0,g1,l1,p1,g2,l2,p2,rfl,hn,dE,T0,T1,T2⟩:=h.open;obtain⟨W0,hW0⟩:=cd (w.alloc (.cells (aL sa b.names sc g0 l0 p0 g1 l1 p1 g2 l2 p2 b) 30));have hb0:aq w W0:=by rw [hW0];exact aj
 have hz0:W0=w.heap.size+1:=by rw [hW0];simp
 have k0:W0.heap[w.heap.size]?=some (.cells (aL sa b.names sc g0 l0 p0 g1 l1 p1 g2 l2 p2 b) 30):=by rw [hW0];exact au _ _ rfl
 have HX:=ag fun w' (hb:aq W0 w')=>(by
  have b0:w'.heap[w.heap.size]?=_:=(hb.block _ ai).trans k0;simp [World.cell?,b0] :
  w'.cell? (w,0)=some (ah sa b.names sc)/\w'.cell? (w,1)=some (ah g0 l0 p0)/\(w',w.heap.size,2,b.t0.root)/\w'.cell? (w,3)=some (ah g1 l1 p1)/\(w',w.heap.size,4,b.t1.root)/\w'.cell? (w,5)=some (ah g2 l2 p2)/\(w',w.heap.size,6,b.t2.root)/\(w',w.heap.size,7,b.floor))
 have HB:=ag fun w' (hb:aq W0 w')=>(aF hb0 hb hb0.size:aq w w');have Qg:=ag fun w' (hb:aq W0 w')=>(vX (lo:=0) (hi:=1099511627776) (T0 w' (HB w' hb))).mono fun e w' hp=>kG.allT hp;have S9:=ag fun w' (hb:aq W0 w')=>(vX (lo:=0) (hi:=1099511627776) (T1 w' (HB w' hb))).mono fun e w' hp=>kG.allT hp;have uW:=ag fun w' (hb:aq W0 w')=>(vX (lo:=0) (hi:=1099511627776) (T2 w' (HB w' hb))).mono fun e w' hp=>kG.allT hp;have VZ:=ag h;have VM:=ag dE;have HST:=ag hst;obtain⟨x0,x1,x2,x3,x4,x5,x6,x7⟩:=HX W0 (aW _ _);clear T0 T1 T2 h dE hst;go_enter Tryz.func24,Tryz.ntmps24;go_upto_region 1 with (fail);rw [<-hW0];clear hW0 k0;by_cases i1:b.names.length<=16
 ·have e1:decide ((16:Int)<(b.names.length:Int))=false:=by simp;omega
  have Xi:=ag i1;by_cases i2:mn b.floor 0 1048575=true
  ·have ZW:=ag i2;obtain⟨R,hR⟩:=bG (b.floor%3600);have hfl:0<=b.floor/\b.floor<=1048575:=by simpa [mn] using i2
   have VU:=ag hfl;have m1:b.floor.tmod 3600=R:=by rw [tJ hfl.1];exact hR
   have m2:IntKind.i64.wrap R=R:=bI _ ai;have HR:=ag hR;by_cases i3:R=0
   ·have e3:(R != 0)=false:=(by simp [i3]);have HI3:=ag (HR.trans i3);clear i1 i3 hR;go_wp2_with ((go_at_call 51;refine(dH _ _ _ _).mono ?_;rintro e w1 ⟨rfl,rfl⟩));clear x0 x1 x2 x3 x4 x5 x6 x7
    go_loopg [3] b.names (fun g i wr=>∃k:Nat,k<=b.names/\g=b.names-k/\i=af k/\Hid (∀j,j<k->Dy b j)/\aq W0 wr)
    case atStart=>exact⟨0,eY _,rfl,rfl,ag (fun j hj=>ai),aW _ _⟩
    case round=>
     obtain⟨k,hk,rfl,rfl,vZ,hb⟩:=hrel;obtain⟨x0,x1,x2,x3,x4,x5,x6,x7⟩:=HX _ hb;by_cases hlt:k<b.names
     ·obtain⟨_,_,va,-,-,-,-,a5⟩:=VM.out;obtain⟨ab,aR,ha,qy,ac⟩:=a5 ai;injection va with Xv _ Xu;subst Xv Xu ha;have HC:=ag fun w' (hb:aq W0 w') (m:Nat) (hm:m<b.names)=>nE (HB _ hb) qy ac hm;obtain⟨s,hs⟩:=bG (b.names[k]);have e0:=HC _ hb k hlt;rw [hs]at e0;have HS:=ag hs;have jA:=fun w'=>qV (ab:=ab) (aR:=aR) (n:=b.names.length) (cap:=sc) (show (k:Int)=((k:Nat):Int) by rfl) hlt w';have P5:=ag fun w'=>uv s w' (HST s (by rw [<-hs];exact eZ hlt));clear hs a5 ac
      cases pR:dt s with
      |false=>
       have mB:=ag (eu fun h:kj b=>by have:=(h.names k hlt).1;rw [HS,pR]at this;cases this);rw [pR]at P5;clear pR;go_wp2_with ((go_at_call 46;(with_reducible refine(P5.out _).mono ?_);rintro e w2 ⟨rfl,hb2⟩));go_ret;exact⟨bz mB.symm,HB _ (aF hb hb2 hb.size)⟩
      |true=>
       have ZM:=ag pR;rw [pR]at P5;clear pR;go_wp2_with ((go_at_call 46;(with_reducible refine(P5.out _).mono ?_);rintro e w2 ⟨rfl,hb2⟩;have hb3:=aF hb hb2 hb.size));clear x0 x1 x2 x3 x4 x5 x6 x7 e0
       go_loopg [4] k (fun g i wr=>∃m:Nat,m<=k/\g=k-m/\i=af m/\Hid (∀j (hj:j<m) (hjn:j<b.names.length),b.names[j]≠s)/\aq W0 wr)
       case atStart=>exact⟨0,eY _,rfl,rfl,ag (fun j hj=>ai),hb3⟩
       case round=>
        obtain⟨m,hm,rfl,rfl,Uc,hb4⟩:=hrel;obtain⟨x0,x1,x2,x3,x4,x5,x6,x7⟩:=HX _ hb4;by_cases hlm:m<k
        ·have hmn:m<b.names:=ai;obtain⟨s2,hs2⟩:=bG (b.names[m]);have e0:=HC _ hb4 k hlt;rw [HS]at e0;have e2:=HC _ hb4 m hmn;rw [hs2]at e2;have Ka:=ag hs2;have I7:=fun w'=>qV (ab:=ab) (aR:=aR) (n:=b.names.length) (cap:=sc) (show (m:Int)=((m:Nat):Int) by rfl) hmn w';have CL:=BU s2 s;clear hs2;by_cases tu:s2=s
         ·have mB:=ag (eu fun h:kj b=>(h.names k hlt).2 m hlm (by rw [Ka,HS];exact tu));have CM:decide (s2=s)=true:=(by simp [tu]);rw [CM]at CL;clear tu CM;go_wp2_with fail;go_quiet (fail);go_wp2;go_ret;exact⟨bz mB.symm,by have:=HB _ hb4;exact aj⟩
         ·have ai8:=ag (show ∀j (hj:j<m+1) (hjn:j<b.names.length),b.names[j]≠s from fun j hj hjn=>by
           by_cases hjm:j=m
           ·subst hjm;rw [Ka];exact tu
           ·exact Uc.out j ai hjn)
          have CM:decide (s2=s)=false:=(by simp [tu]);rw [CM]at CL;clear tu CM;go_wp2_with fail;go_quiet (fail);go_wp2;go_roundg (k-(m+1))
          case measure=>omega
          case rel=>exact⟨m+1,ai,rfl,by go_num,ai8,aj⟩
        ·have Te:=ag (show ∀j,j<k+1->Dy b j from fun j hj=>by
          by_cases hjk:j=k
          ·subst hjk;exact fun h=>⟨by rw [HS];exact ZM,fun i hi=>by rw [HS];exact Uc.out i ai ai⟩
          ·exact vZ.out j ai)
         go_wp2;go_roundg (b.names-(k+1))
         case measure=>omega
         case rel=>exact⟨k+1,ai,rfl,by go_num,Te,hb4⟩
     ·have Te:=ag (show BF b from fun j h=>vZ.out j ai h);have Ew:=ag (sy (VZ.below (HB _ hb)))
      cases hbk:cx b with
      |none=>
       have mB:=ag (eu fun h:kj b=>by obtain⟨l,e,_⟩:=h.trees;rw [hbk]at e;cases e);rw [hbk]at Ew;clear hbk;go_wp2_with ((go_at_call 25;(with_reducible refine Ew.out.mono ?_);rintro e w5 ⟨lI,rfl⟩;have cy:=aF hb lI hb.size));clear x0 x1 x2 x3 x4 x5 x6 x7
       go_loopg [6,7] 0 (fun g okv kv wr=>g=0/\okv = .bool false/\kv=af 0/\aq W0 wr)
       case atStart=>exact⟨rfl,rfl,rfl,cy⟩
       case round=>
        obtain⟨rfl,rfl,rfl,ji⟩:=hrel;go_wp2;go_ret;exact⟨bz mB.symm,HB _ ji⟩
      |some l=>
       have Tn:=ag hbk;have Th:=ag (fI hbk).2;have hlen:l.length<=50000:=(fI hbk).2.2.2;rw [hbk]at Ew;clear hbk;go_wp2_with ((go_at_call 25;(with_reducible refine Ew.out.mono ?_);rintro e w5 ⟨lI,v5,rfl,fY⟩;have cy:=aF hb lI hb.size;obtain⟨s5,c5,rfl⟩:=fY.isSlice));clear x0 x1 x2 x3 x4 x5 x6 x7
       go_loopg [6,7] 3 (fun g okv kv wr=>∃(k:Nat) (B:Bool),k<=3/\g=3-k/\kv=af k/\okv = .bool B/\Hid (xD b l k B)/\aq w5 wr)
       case atStart=>exact⟨0,true,ai,rfl,rfl,rfl,ag ⟨fun _ j hj=>ai,fun h=>by cases h⟩,aW _ _⟩
       case round=>
        obtain⟨kk,B,hkk,rfl,rfl,rfl,rJ,hbk⟩:=hrel;have Vn:=aF cy hbk cy.size;obtain⟨x0,x1,x2,x3,x4,x5,x6,x7⟩:=HX _ Vn
        cases B with
        |false=>
         have mB:=ag (rJ.out.2 rfl);by_cases hk3:kk<3
         ·go_wp2;go_ret;exact⟨bz mB.symm,HB _ Vn⟩
         ·go_wp2;go_ret;exact⟨bz mB.symm,HB _ Vn⟩
        |true=>
         by_cases hk3:kk<3
         ·obtain⟨K,hK⟩:=cd (kk);have HN:=xD.next Tn rJ.out hk3;have rM:=ag fun w' (hb:aq w5 w')=>pY (size:=bp kk) ((fY.below hb aO).at ai) Th (eB kk) (by unfold bp;split;decide;split <;> decide)
          clear x0 x1 x2 x3 x4 x5 x6 x7;rcases hro:bw l (bp kk)with _|a
          all_goals rcases hal:allT (b.tree kk)with _|c
          all_goals first|rw [BP hro]at HN|rw [BO hal]at HN|(rw [qP hro hal]at HN;have Kv:=ag (aJ (vH (eF (eB kk) Th) hro).2.2 (fg hal).2.2.2))
          all_goals
           have HN:=ag HN;rw [hro]at rM;clear hro;obtain rfl|rfl|rfl:kk=0\/kk=1\/kk=2:=ai
           all_goals
            first|(have GI:=Qg;rw [show allT b.t0=_ from hal]at GI;have ry:=ag (show SzP 0 0 from nG 0 bY))|(have GI:=S9;rw [show allT b.t1=_ from hal]at GI;have ry:=ag (show SzP 1 1 from nG 1 bY))|(have GI:=uW;rw [show allT b.t2=_ from hal]at GI;have ry:=ag (show SzP 2 2 from nG 2 bY))
            clear hal;go_wp2_with (first|(go_at_call 44;(with_reducible refine(ry.out _).mono ?_);rintro e wz ⟨rfl,hbz⟩;have YH:=aF hbk hbz hbk.size)|(go_at_call 43;(with_reducible refine(rM.out _ YH).mono ?_);(first|(rintro e wq ⟨hbq,rfl⟩)|(rintro e wq ⟨hbq,vq,rfl,hoq⟩;obtain⟨sQ,cQ,rfl⟩:=hoq.isSlice));have LY:=aF YH hbq YH.size;have R5:=aF cy LY cy.size;obtain⟨x0,x1,x2,x3,x4,x5,x6,x7⟩:=HX.out _ R5)|(go_at_call 53;(with_reducible refine(GI.out _ R5).mono ?_);(first|(rintro e wa ⟨wJ,E,hE,rfl⟩;have hE2:(E == 0)=false:=by simpa using hE)|(rintro e wa ⟨wJ,va,rfl,Ya⟩;obtain⟨sA,cA,rfl⟩:=Ya.isSlice));have CU:=aF LY wJ LY.size)|(go_at_call 26;(with_reducible refine(pZ ((hoq.below wJ aO).at (by have:=Kv.out.1;omega)) (Ya.at (by have:=Kv.out.2;omega))).mono ?_);rintro e ws ⟨rfl,hbs⟩;have CU:=aF CU hbs CU.size));go_roundg (3-(K+1))
            case measure=>omega
            case rel=>exact⟨K+1,_,ai,rfl,by subst hK;go_num,rfl,by subst hK;exact HN,CU⟩
         ·obtain rfl:kk=3:=ai;have xE:=ag (rJ.out.end Tn Xi VU HI3 Te);go_wp2;go_ret;exact⟨bz xE.symm,HB _ Vn⟩
   ·have e3:(R != 0)=true:=(by simp [i3]);have mB:=ag (eu fun h:kj b=>i3 (HR.symm.trans h.Sp));clear i1 i3 hR;go_wp2_with ((go_at_call 51;refine(dH _ _ _ _).mono ?_;rintro e w1 ⟨rfl,rfl⟩));go_ret;exact⟨bz mB.symm,hb0⟩
  ·have XU:mn b.floor 0 1048575=false:=by simpa using i2
   have mB:=ag (eu fun h:kj b=>i2 (by simp [mn];exact⟨h.fl0,h.TN⟩));clear i1 i2;go_wp2_with ((go_at_call 51;refine(dH _ _ _ _).mono ?_;rintro e w1 ⟨rfl,rfl⟩));go_ret;exact⟨bz mB.symm,hb0⟩
 ·have e1:decide ((16:Int)<(b.names.length:Int))=true:=by simp;omega
  have mB:=ag (eu fun h:kj b=>i1 h.n16);clear i1;go_wp2;go_ret;exact⟨bz mB.symm,hb0⟩
end
section
variable {b:Ba} {fl:Int} {ns:List ByteArray} {l:List aH}
noncomputable def qu (b:Ba) (names:List ByteArray) (floor:Int) (l:List aH):Bool:=aS b && decide (b.floor=floor) && decide (b.names=names) && decide (cx b=some l)
theorem MD (h:aS b=false):qu b ns fl l=false:=by simp [qu,h]
theorem MC (h:b.floor≠fl):qu b ns fl l=false:=by simp [qu,h]
theorem Dh (h:b.names≠ns):qu b ns fl l=false:=by simp [qu,h]
theorem zQ {m:List aH} (h1:aS b=true) (h2:b.floor=fl) (h3:b.names=ns) (h4:cx b=some m):qu b ns fl l=decide (m=l):=by simp [qu,h1,h2,h3,h4]
theorem ME {v nv lv:Value} {w:World} (h:bR w v b) (hst:∀s∈b.names,s.size<=140737488351232) (hns:fX w nv ns) (hl:cX w lv l) :
  Calls Tryz.prog 9 #[v,nv,af fl,lv] w fun e w'=>e = .returned (.bool (qu b ns fl l))/\aq w w':=by
 obtain⟨sa,sc,g0,l0,p0,g1,l1,p1,g2,l2,p2,rfl,hn,dE,T0,T1,T2⟩:=h.open;obtain⟨na,nc,rfl⟩:=hns.isSlice;obtain⟨la,lc,rfl⟩:=hl.isSlice;have hnl:=hns.len bY;obtain⟨W0,hW0⟩:=cd (w.alloc (.cells (aL sa b.names sc g0 l0 p0 g1 l1 p1 g2 l2 p2 b) 30));have hb0:aq w W0:=by rw [hW0];exact aj
 have hz0:W0=w.heap.size+1:=by rw [hW0];simp
 have k0:W0.heap[w.heap.size]?=some (.cells (aL sa b.names sc g0 l0 p0 g1 l1 p1 g2 l2 p2 b) 30):=by rw [hW0];exact au _ _ rfl
 have HX:=ag fun w' (hb:aq W0 w')=>(by
  have b0:w'.heap[w.heap.size]?=_:=(hb.block _ ai).trans k0;simp [World.cell?,b0] :
  w'.cell? (w,0)=some (ah sa b.names sc)/\w'.cell? (w,1)=some (ah g0 l0 p0)/\(w',w.heap.size,2,b.t0.root)/\w'.cell? (w,3)=some (ah g1 l1 p1)/\(w',w.heap.size,4,b.t1.root)/\w'.cell? (w,5)=some (ah g2 l2 p2)/\(w',w.heap.size,6,b.t2.root)/\(w',w.heap.size,7,b.floor))
 have HB:=ag fun w' (hb:aq W0 w')=>(aF hb0 hb hb0.size:aq w w');have VZ:=ag h;have mY:=ag (rp (h.below hb0) hst);have VM:=ag dE;have Ke:=ag hns;have HL:=ag hl;obtain⟨x0,x1,x2,x3,x4,x5,x6,x7⟩:=HX W0 (aW _ _);clear T0 T1 T2 h dE hst hns hl;go_enter Tryz.func9,Tryz.ntmps9;go_upto_region 1 with (fail);rw [<-hW0];clear hW0 k0
 cases hm:aS b with
 |false=>
  have mB:=ag (MD (ns:=ns) (fl:=fl) (l:=l) hm);rw [hm]at mY;clear hm;go_wp2_with ((go_at_call 24;(with_reducible refine mY.out.mono ?_);rintro e w1 ⟨rfl,hb1⟩;obtain⟨x0,x1,x2,x3,x4,x5,x6,x7⟩:=HX _ hb1));go_ret;exact⟨bz mB.symm,HB _ hb1⟩
 |true=>
  have HM:=ag hm;rw [hm]at mY;clear hm;by_cases i1:b.floor=fl
  ·have e1:(b.floor != fl)=false:=by simp [i1]
   have VU:=ag i1;by_cases i2:b.names=ns.length
   ·have e2:((b.names.length:Int) != (ns.length:Int))=false:=(by simp [i2]);have Ud:=ag i2;have hle:ns<=b.names.length:=ai;clear i1 i2;go_wp2_with ((go_at_call 24;(with_reducible refine mY.out.mono ?_);rintro e w1 ⟨rfl,hb1⟩;obtain⟨x0',x1',x2',x3',x4',x5',x6',x7'⟩:=HX _ hb1));clear x0 x1 x2 x3 x4 x5 x6 x7 x0' x1' x2' x3' x4' x5' x6' x7'
    go_loopg [9] ns (fun g i wr=>∃k:Nat,k<=ns/\g=ns-k/\i=af k/\Hid (ns.take k=b.names.take k)/\aq W0 wr)
    case atStart=>exact⟨0,eY _,rfl,rfl,ag rfl,hb1⟩
    case round=>
     obtain⟨k,hk,rfl,rfl,HE,hb⟩:=hrel;obtain⟨x0,x1,x2,x3,x4,x5,x6,x7⟩:=HX _ hb;by_cases hlt:k<ns
     ·obtain⟨_,_,va,-,-,-,-,a5⟩:=VM.out;obtain⟨_,_,vb,-,-,-,-,b5⟩:=Ke.out;have O7:k<b.names:=ai;obtain⟨ab,aR,ha,qy,ac⟩:=a5 ai;obtain⟨bb,Vz,hb',Zg,bc⟩:=b5 ai;injection va with Xv _ Xu;injection vb with vb1 _ vb3;subst Xv Xu vb1 vb3 ha hb';have e0:=nE (HB _ hb) qy ac O7;have e3:=nE (HB _ hb) Zg bc hlt;obtain⟨s,hs⟩:=bG (b.names[k]);obtain⟨t,ht⟩:=bG (ns[k]);rw [hs]at e0;rw [ht]at e3;have HS:=ag hs;have HTT:=ag ht;have jA:=fun w'=>qV (ab:=ab) (aR:=aR) (n:=b.names.length) (cap:=sc) (show (k:Int)=((k:Nat):Int) by rfl) O7 w';have I7:=fun w'=>qV (ab:=bb) (aR:=Vz) (n:=ns.length) (cap:=nc) (show (k:Int)=((k:Nat):Int) by rfl) hlt w';have CL:=BU t s;clear hs ht a5 b5 ac bc;by_cases hts:t=s
      ·have HE2:=ag (pB HE.out hlt O7 (by rw [HS,HTT];exact hts));have CM:decide (t=s)=true:=(by simp [hts]);rw [CM]at CL;have hne:(t.toList != s.toList)=false:=(by simp only [bne,CL];rfl);clear hts CM;go_wp2_with fail;go_quiet (fail);go_wp2;go_roundg (ns-(k+1))
       case measure=>omega
       case rel=>exact⟨k+1,ai,rfl,by go_num,HE2,aj⟩
      ·have mB:=ag (Dh (b:=b) (ns:=ns) (fl:=fl) (l:=l) (fun h=>by subst h;exact hts (HTT.symm.trans HS)));have CM:decide (t=s)=false:=(by simp [hts]);rw [CM]at CL;have hne:(t.toList != s.toList)=true:=(by simp only [bne,CL];rfl);clear hts CM;go_wp2_with fail;go_quiet (fail);go_wp2;go_ret;exact⟨bz mB.symm,by have:=HB _ hb;exact aj⟩
     ·have P4:=ag (show b.names=ns by
       have:=HE.out;rw [iM ai,iM (by have:=Ud.out;omega)]at this;exact this.symm)
      obtain⟨m,hbk⟩:∃m,cx b=some m:=(by obtain⟨m,e,_⟩:=(dJ HM).trees;exact⟨m,e⟩);have Ew:=ag (sy (VZ.below (HB _ hb)));have HEQ:=ag (zQ (l:=l) HM VU P4 hbk);have zH:m.length<=50000:=(fI hbk).2.2.2;have HLB:=ag (HL.below (HB _ hb) aO);rw [hbk]at Ew;clear hbk;go_wp2_with (first
       |(go_at_call 25;(with_reducible refine Ew.out.mono ?_);rintro e w5 ⟨cy,v5,rfl,fY⟩;have lI:=aF hb cy hb.size;obtain⟨s5,c5,rfl⟩:=fY.isSlice;have tM:=ag (pZ (fY.at ai) (HLB.below cy aO)))
       |(go_at_call 26;(with_reducible refine tM.out.mono ?_);rintro e w6 ⟨rfl,ji⟩;have R7:=aF lI ji lI.size))
      go_ret;exact⟨bz HEQ.symm,HB _ R7⟩
   ·have e2:((b.names.length:Int) != (ns.length:Int))=true:=(by simp;omega);have mB:=ag (Dh (b:=b) (ns:=ns) (fl:=fl) (l:=l) (fun h=>i2 (by rw [h])));clear i1 i2;go_wp2_with ((go_at_call 24;(with_reducible refine mY.out.mono ?_);rintro e w1 ⟨rfl,hb1⟩;obtain⟨x0',x1',x2',x3',x4',x5',x6',x7'⟩:=HX _ hb1));go_ret;exact⟨bz mB.symm,HB _ hb1⟩
  ·have e1:(b.floor != fl)=true:=by simp [i1]
   have mB:=ag (MC (b:=b) (ns:=ns) (fl:=fl) (l:=l) i1);clear i1;go_wp2_with ((go_at_call 24;(with_reducible refine mY.out.mono ?_);rintro e w1 ⟨rfl,hb1⟩;obtain⟨x0',x1',x2',x3',x4',x5',x6',x7'⟩:=HX _ hb1));go_ret;exact⟨bz mB.symm,HB _ hb1⟩
end
end Go.Proofs.YtmljjfhgciaceaaGreatDoor
