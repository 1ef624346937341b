/- Texts of mine that come as one: NameR NameMay OpenStr NameB Copy BaseC LawCopies BaseCopy Book BaseMay BaseIs Knows. -/
import Derived.Test.YtmljjfhgciaceaaDoorHd
import Derived.Test.YtmljjfhgciaceaaDoorKG
import Derived.Deep.RegionHeld3
import Derived.Deep.CutBlock
import Derived.Lib.SmallJoins
import Derived.Deep.AppendLies
import Derived.Test.YtmljjfhgciaceaaDoorSX
import Derived.Test.YtmljjfhgciaceaaDoorPA
import Derived.Lib.LazyBuf
import Derived.BigQuiet
import Derived.Deep.QuietTactic
namespace Go.Proofs.YtmljjfhgciaceaaDoor
open Go.RowKit
def gK (c:Int):Bool:=decide ((97<=c/\c<=122)\/(48<=c/\c<=57)\/c=46)
theorem Ay {l:List Int} {k:Nat} (hk:k<l.length) (ha:(l.take k).all gK=true) (hb:gK l[k]=true):(l.take (k+1)).all gK=true:=by
 rw [mn hk,List.all_append,ha];simp [hb]
def nums (s:ByteArray):List Int:=s.data.toList.map fun b=>(b.toNat:Int)
def dG (s:ByteArray):Bool:=decide (1<=s.size/\s.size<=10) && (nums s).all gK
theorem nums_length (s:ByteArray):(nums s).length=s.size:=by simp [nums]
theorem yM (s:ByteArray):∀c∈nums s,0<=c/\c<=255:=by
 intro c hc
 obtain⟨b,_,rfl⟩:=lI.1 hc
 have:=b.toNat_lt
 omega
section
set_option maxHeartbeats 1000000
variable {l xs:List Int} {k:Nat} {w:World}
theorem qp (c:Int) (w:World) (h0:0<=c) (h1:c<=255):Calls Tryd.prog 70 #[.int .u8 c] w fun e w'=>e = .returned (.bool (!gK c))/\w=w':=by
 go_enter Tryd.func70,Tryd.ntmps70
 go_wp2
 all_goals (go_ret;refine⟨dQ ?_,rfl⟩)
 all_goals (rw [Bool.eq_iff_iff];simp [gK];omega)
def iR (l:List Int):Int:=if l.all gK then -1 else(l.findIdx (fun c=>!gK c):Nat)
theorem Au (h:l.all gK=true):iR l = -1:=by simp [iR,h]
theorem En (hk:k<l.length) (ha:(l.take k).all gK=true) (hb:gK l[k]=false):iR l=k:=by
 have hn:l.all gK=false:=by
  rw [Bool.eq_false_iff];intro h
  have:=pA.1 h l[k] (fO hk)
  rw [hb]at this;cases this
 have:l.findIdx (fun c=>!gK c)=k:=by
  rw [List.findIdx_eq hk]
  refine⟨by simp [hb],fun j hj=>?_⟩
  have:=pA.1 ha l[j] (by rw [List.mem_take_iff_getElem];exact⟨j,af,rfl⟩)
  simp [this]
 simp [iR,hn,this]
theorem xL:(decide (0<=iR l)) = !l.all gK:=by
 cases h:l.all gK
 ·simp [iR,h]
 ·simp [iR,h]
def Co (n:Int):List Value:=[.int .u8 n]
abbrev CH (w:World) (v:Value) (xs:List Int):Prop:=dN 1 1 Co w v xs
theorem Kl {wr:World} {b off:Nat} (hb:ah w wr) (hbb:b<w.heap.size)
  (h:∀i x,xs[i]?=some x->∀j u,(Co x)[j]?=some u->w.cell? ⟨b,off+i*1+j,none⟩=some u) (hk:k<xs.length) :
  wr.cell? ⟨b,off+k,none⟩=some (.int .u8 xs[k]):=by
 have:=(hb.cell (p:=⟨b,_,none⟩) hbb).trans (h k xs[k] (by simp [hk]) 0 _ rfl)
 simpa using this
theorem Am {v:Value} (ha:CH w v xs) (hq:∀c∈xs,0<=c/\c<=255) :
  Calls Tryd.prog 90 #[v, .func (.func 70) #[] #[]] w fun e w'=>e = .returned (.int .i64 (iR xs))/\w=w':=by
 obtain⟨ao,ca,rfl,a1,a2,a3,a4,a5⟩:=ha
 go_enter Tryd.func90,Tryd.ntmps90
 go_wp2_with fail
 go_loopg [5,8] xs.length (fun g _ i wr=>∃k:Nat,k<=xs.length/\g=xs.length-k/\i = .int .i64 k/\Hid ((xs.take k).all gK=true)/\w=wr)
 case atStart=>exact⟨0,iN _,rfl,rfl,hdd bq,rfl⟩
 case round=>
  obtain⟨k,hk,rfl,rfl,HE,rfl⟩:=hrel
  by_cases hlt:k<xs.length
  ·obtain⟨ab,aY,rfl,xD,ac⟩:=a5 af
   have c0:=Kl (aJ _ _) xD ac hlt
   clear ac a5
   obtain⟨q0,q1⟩:=hq _ (fO hlt)
   obtain⟨c,hc⟩:=bw (xs[k])
   rw [hc]at c0 q0 q1
   have EC:=hdd hc
   clear hc
   cases hok:gK c
   ·have hfin:iR xs=k:=En hlt HE.out (by rw [EC.out];exact hok)
    have HF:=hdd hfin
    clear hfin
    go_wp2_with (go_at_call 70;refine(qp _ _ af af).mono ?_;rintro e w1 ⟨rfl,rfl⟩)
    go_ret
    exact⟨ia HF.out.symm,rfl⟩
   ·have HK:=hdd hok
    go_wp2_with (go_at_call 70;refine(qp _ _ af af).mono ?_;rintro e w1 ⟨rfl,rfl⟩)
    go_roundg (xs.length-(k+1))
    case measure=>omega
    case rel=>exact⟨k+1,af,rfl,by go_num,hdd (Ay hlt HE.out (by rw [EC.out];exact HK.out)),rfl⟩
  ·have hfin:iR xs = -1:=Au (by have:=HE.out;rwa [kJ af]at this)
   have HF:=hdd hfin
   clear hfin
   go_wp2
   go_ret
   exact⟨ia HF.out.symm,rfl⟩
theorem wk {v:Value} (ha:CH w v xs) (hq:∀c∈xs,0<=c/\c<=255) :
  Calls Tryd.prog 69 #[v, .func (.func 70) #[] #[]] w fun e w'=>e = .returned (.bool (!xs.all gK))/\w=w':=by
 obtain⟨z,hz⟩:=bw (iR xs)
 have hres:decide (0<=z) = !xs.all gK:=by rw [<-hz];exact xL
 have HR:=hdd hres
 have h:=Am ha hq
 rw [hz]at h
 have H:=hdd h
 clear h hres hz
 go_enter Tryd.func69,Tryd.ntmps69
 go_wp2_with (go_at_call 90;refine H.out.mono ?_;rintro e w1 ⟨rfl,rfl⟩)
 go_ret
 exact⟨dQ HR.out,rfl⟩
end
open Go.ChangeShapes Go.WideShapes Go.ChangeAt Go.Deep
end Go.Proofs.YtmljjfhgciaceaaDoor
namespace Go.Proofs.YtmljjfhgciaceaaDoor
open Go.RowKit
section
set_option maxHeartbeats 1000000
theorem AQ (s:ByteArray):s.toList.length=s.size:=by rw [ByteArray.toList_eq];simp
theorem R8 (s:ByteArray) (cap i:Nat) (h:i<s.size):(bytesRow s cap)[i]?=some (.int .u8 ((nums s)[i]'(by rw [nums_length];exact h))):=by
 have h':i<s.data.size:=h
 simp [bytesRow,nums,Array.getElem?_append,h]
theorem EH (s:ByteArray) (w:World) (e:TypeId) (m:Nat×Nat) (cap:Nat) (hc:s.size<=cap) (hm:cap<=9223372036854775807) (hs:s.size<=140737488351232) :
  CH (w.alloc (.cells (bytesRow s cap) e m)).drew (.slice (some ⟨w.heap.size,0,none⟩) s.size cap) (nums s):=by
 refine⟨some ⟨w.heap.size,0,none⟩,cap,by rw [nums_length],by rw [nums_length];exact hc,hm,by rw [nums_length];omega,bq,fun _=>⟨w.heap.size,0,rfl,bq,fun i x hx j u hu=>?_⟩⟩
 obtain⟨hi,rfl⟩:=gH.1 hx
 rw [nums_length]at hi
 have hj:j=0:=by
  have:=(gH.1 hu).1
  simp [Co]at this;omega
 subst hj
 simp [Co]at hu
 subst hu
 have e1:(w.alloc (.cells (bytesRow s cap) e m)).drew.heap[w.heap.size]?=some (.cells (bytesRow s cap) e m):=by show (w.heap.push _)[w.heap.size]?=_;simp
 simp only [World.cell?,e1]
 simpa using R8 s cap i hi
theorem uv (s:ByteArray) (w:World) (hs:s.size<=140737488351232):Calls Tryd.prog 39 #[.string s] w fun e w'=>e = .returned (.bool (dG s))/\ah w w':=by
 obtain⟨r,hr⟩:=bw (dG s)
 rw [hr]
 by_cases h0:s.size=0
 ·have hrf:false=r:=by rw [<-hr];simp [dG,h0]
  have HR:=hdd hrf
  have KQ:s.toList=[]:=xN (by rw [AQ];exact h0)
  clear hrf hr h0
  go_enter Tryd.func39,Tryd.ntmps39
  go_wp2_with fail
  go_ret
  exact⟨dQ HR.out,aJ _ _⟩
 ·have aaq:¬s.toList=[]:=fun h=>h0 (by rw [<-AQ,h];rfl)
  have KQ:s.toList.isEmpty=false:=by simpa using aaq
  by_cases h10:s.size<=10
  ·have hcv:=fun w=>run_bytes_of_string (P:=Tryd.prog) w 9 54 5 s Tryd.underlying9 Tryd.underlying54 Tryd.underlying5
   have hrf:(nums s).all gK=r:=by rw [<-hr];simp [dG];intro _;omega
   have HR:=hdd hrf
   have hcap:=grownCap_ge w s.size 0 5
   have Rc:=grownCap_le_maxLen w s.size 0 5 (by unfold maxLen;omega)
   have HC:=hdd (wk (EH s w 5 ((bytesRow s (grownCap w s.size 0 5)).size,(bytesRow s (grownCap w s.size 0 5)).size+1) _ hcap (by unfold maxLen at Rc;omega) hs) (yM s))
   clear hrf hr hcap Rc
   go_enter Tryd.func39,Tryd.ntmps39
   go_wp2_with (go_at_call 69;refine HC.out.mono ?_;rintro e w1 ⟨rfl,rfl⟩)
   go_ret
   exact⟨dQ HR.out,(by repeat (first|exact aJ _ _|assumption|refine cM ?_ _|refine Below.drew ?_|refine Below.alloc ?_ (by simp <;> omega) _|refine Below.setCell ?_ (by simp <;> omega) _))⟩
  ·have hrf:false=r:=by rw [<-hr];simp [dG];omega
   have HR:=hdd hrf
   clear hrf hr
   go_enter Tryd.func39,Tryd.ntmps39
   go_wp2_with fail
   go_ret
   exact⟨dQ HR.out,aJ _ _⟩
end
section
set_option maxRecDepth 100000
set_option maxHeartbeats 4000000
variable {r0:Int} {xs:List Nd} {rs:List Raw} {us:List Value} {B g k b o M:Nat} {e:TypeId} {w w1 w2 w' W5 wr:World}
theorem vM {n cap:Nat} (h:w.ownsRow B e 5 (.slice (some ⟨g,0,none⟩) n cap) n (rs.flatMap cL)) (_hn:rs.length=n) (hk:k<rs.length) :
  w.cell? ⟨g,k*5,none⟩=some (.bool rs[k].leaf)/\w.cell? ⟨g,k*5+1,none⟩=some rs[k].ev/\w.cell? ⟨g,k*5+2,none⟩=some rs[k].kv/\w.cell? ⟨g,k*5+3,none⟩=some rs[k].dv/\w.cell? ⟨g,k*5+4,none⟩=some rs[k].bv /\
  ∀o,w.frozen? ⟨g,o,none⟩=false:=by
 obtain⟨hl,⟨h0,_⟩|⟨g',cap',cur,e1,hb,hg,h1,h2,h3,h4⟩⟩:=h
 ·cases h0
 ·cases e1
  have q:∀j u,(cL rs[k])[j]?=some u->w.cell? ⟨g,k*5+j,none⟩=some u:=by
   intro j u hu
   have hf:=yh gh (xs:=rs) (i:=k) (x:=rs[k]) (by simp [hk]) hu
   rw [<-h4,qd]at hf
   split at hf
   ·simp only [World.cell?,hg]
    simpa using hf
   ·cases hf
  exact⟨by simpa using q 0 _ rfl,q 1 _ rfl,q 2 _ rfl,q 3 _ rfl,q 4 _ rfl,fun o=>by simp [World.frozen?,hg]⟩
theorem dI {size n:Nat} {v:Value} (h:w.ownsRow B e size v n us):∃ao cap,v = .slice ao n cap:=by
 obtain⟨_,⟨rfl,rfl⟩|⟨g,cap,cur,rfl,_⟩⟩:=h
 ·exact⟨_,_,rfl⟩
 ·exact⟨_,_,rfl⟩
theorem oz {size n:Nat} {v:Value} (h:w.ownsRow B e size v n us) (hb:b<B) (u:Value):(w.setCell ⟨b,o,none⟩ u).ownsRow B e size v n us:=by
 obtain⟨hl,h|⟨g,cap,cur,rfl,h1,h2,h3⟩⟩:=h
 ·exact⟨hl, .inl h⟩
 ·refine⟨hl, .inr ⟨g,cap,cur,rfl,h1,?_,h3⟩⟩
  have:b≠g:=af
  simp [World.setCell,Array.getElem?_modify,this,h2]
structure Sep (M g:Nat) (w w':World):Prop where
 size:w.heap.size<=w'.heap.size
 block:∀b,M<=b->b<w.heap.size->b≠g->w'.heap[b]?=w.heap[b]?
theorem Sep.refl (M g:Nat) (w:World):Sep M g w w:=⟨kK _,fun _ _ _ _=>rfl⟩
theorem Sep.trans (h:Sep M g w w1) (h':Sep M g w1 w2):Sep M g w w2:=
 ⟨gT h.size h'.size,fun b hm hb hg=>(h'.block b hm (mE hb h.size) hg).trans (h.block b hm hb hg)⟩
theorem Sep.of (h:Below B w w') (hB:w.heap.size<=B):Sep M g w w':=⟨h.size,fun b _ hb _=>h.block b af⟩
theorem Sep.set (h:Sep M g w w') (hb:b=g\/b<M) (u:Value):Sep M g w (w'.setCell ⟨b,o,none⟩ u):=by
 refine⟨by rw [ay];exact h.size,fun j hm hj hg=>?_⟩
 have:b≠j:=af
 rw [<-h.block j hm hj hg]
 simp [World.setCell,Array.getElem?_modify,this]
theorem Sep.drew (h:Sep M g w w'):Sep M g w w'.drew:=⟨h.size,h.block⟩
theorem Dd {size n:Nat} {v:Value} (h:w.ownsRow B e size v n us) (hs:Sep M g w w') (hM:M<=B) (hg:g<B):w'.ownsRow B e size v n us:=by
 obtain⟨hl,h|⟨g',cap,cur,rfl,h1,h2,h3⟩⟩:=h
 ·exact⟨hl, .inl h⟩
 ·exact⟨hl, .inr ⟨g',cap,cur,rfl,h1,(hs.block g' af (eW.1 h2).1 af).trans h2,h3⟩⟩
theorem gp {size n:Nat} {v:Value} (h:w.ownsRow B e size v n us) (hs:ah w w'):w'.ownsRow B e size v n us:=by
 obtain⟨hl,h|⟨g',cap,cur,rfl,h1,h2,h3⟩⟩:=h
 ·exact⟨hl, .inl h⟩
 ·exact⟨hl, .inr ⟨g',cap,cur,rfl,h1,(hs.block g' (eW.1 h2).1).trans h2,h3⟩⟩
structure aP (M:Nat) (w w':World):Prop where
 size:w.heap.size<=w'.heap.size
 block:∀b,M<=b->b<w.heap.size->w'.heap[b]?=w.heap[b]?
theorem aP.refl (M:Nat) (w:World):aP M w w:=⟨kK _,fun _ _ _=>rfl⟩
theorem aP.trans (h:aP M w w1) (h':aP M w1 w2):aP M w w2:=
 ⟨gT h.size h'.size,fun b hm hb=>(h'.block b hm (mE hb h.size)).trans (h.block b hm hb)⟩
theorem aP.of (h:Below B w w') (hB:w.heap.size<=B):aP M w w':=⟨h.size,fun b _ hb=>h.block b af⟩
theorem aP.mono {N:Nat} (h:aP M w w') (hN:M<=N):aP N w w':=⟨h.size,fun b hm hb=>h.block b af hb⟩
theorem aP.set (h:aP M w w') {p:Addr} (hb:p.block<M) (u:Value):aP M w (w'.setCell p u):=by
 refine⟨by rw [ay];exact h.size,fun j hm hj=>?_⟩
 rw [<-h.block j hm hj];exact qc w' p u j af
theorem aP.drew (h:aP M w w'):aP M w w'.drew:=⟨h.size,h.block⟩
theorem aP.sep (h:aP M w w'):Sep M g w w':=⟨h.size,fun b hm hb _=>h.block b hm hb⟩
theorem oX {size n:Nat} {v:Value} (h:w.ownsRow B e size v n us) (hs:aP M w w') (hM:M<=B):w'.ownsRow B e size v n us:=by
 obtain⟨hl,h|⟨g',cap,cur,rfl,h1,h2,h3⟩⟩:=h
 ·exact⟨hl, .inl h⟩
 ·exact⟨hl, .inr ⟨g',cap,cur,rfl,h1,(hs.block g' af (eW.1 h2).1).trans h2,h3⟩⟩
theorem uU {v:Value} {xs:List aA} (h:eQ w v xs) (hM:M<=w.heap.size) (hg:g<w.heap.size) (h5:ah W5 w) :
  Calls Tryd.prog 88 #[v] w fun e w'=>∃ao cap,e = .returned (.slice ao xs.length cap)/\ah W5 w'/\(Hid (∀w'',Sep M g w' w''->eQ w'' (.slice ao xs.length cap) xs))/\ah w w':=
 (eV h).mono fun e w' ⟨v',e1,h1,h2⟩=>by
  obtain⟨ao,cap,rfl⟩:=dI h1
  exact⟨ao,cap,e1,Below.trans' h5 h2 h5.size,hdd (fun w'' hs=>dN.owned dg (Dd h1 hs hM hg) rfl (by obtain⟨_,_,_,_,_,h,_⟩:=h;exact h)),h2⟩
theorem uT {v:Value} {xs:List Int} (h:gu w v xs) (hM:M<=w.heap.size) (hg:g<w.heap.size) (h5:ah W5 w) :
  Calls Tryd.prog 92 #[v] w fun e w'=>∃ao cap,e = .returned (.slice ao xs.length cap)/\ah W5 w'/\(Hid (∀w'',Sep M g w' w''->gu w'' (.slice ao xs.length cap) xs))/\ah w w':=
 (dV h).mono fun e w' ⟨v',e1,h1,h2⟩=>by
  obtain⟨ao,cap,rfl⟩:=dI h1
  exact⟨ao,cap,e1,Below.trans' h5 h2 h5.size,hdd (fun w'' hs=>dN.owned kE (Dd h1 hs hM hg) rfl (by obtain⟨_,_,_,_,_,h,_⟩:=h;exact h)),h2⟩
structure CG (w:World) (rs:List Raw) (xs:List Nd) (gv:Value) (r0:Int) (k:Nat) (wr:World):Prop where
 own:∃rs':List Raw,wr.ownsRow (w.heap.size+2) 119 5 gv rs.length (rs'.flatMap cL)/\rs'.length=rs.length/\(∀(i:Nat) r x,i<k->rs'[i]?=some r->xs[i]?=some x->∀g,gv.ownBlock=some g->∀w',Sep (w.heap.size+2) g wr w'->lN w' r x)/\∀i:Nat,k<=i->rs'[i]?=rs[i]?
 below:ah w wr
 size:w.heap.size+2<=wr.heap.size
 c0:wr.cell? ⟨w.heap.size,0,none⟩=some gv
 c1:wr.cell? ⟨w.heap.size,1,none⟩=some (.int .i64 r0)
 cf:∀o,wr.frozen? ⟨w.heap.size,o,none⟩=false
 d0:∃u,wr.cell? ⟨w.heap.size+1,0,none⟩=some u
 d1:∃u,wr.cell? ⟨w.heap.size+1,1,none⟩=some u
 df:∀o,wr.frozen? ⟨w.heap.size+1,o,none⟩=false
theorem Kj {wl:World} {rs':List Raw} {gc:Nat} {xk:Nd} (rn:Raw)
  (ho:wr.ownsRow (w.heap.size+2) 119 5 (.slice (some ⟨g,0,none⟩) rs.length gc) rs.length (rs'.flatMap cL)) (hl':rs'.length=rs.length)
  (hdone:∀(i:Nat) r x,i<k->rs'[i]?=some r->xs[i]?=some x->∀g',(Value.slice (some ⟨g,0,none⟩) rs.length gc).ownBlock=some g'->∀w',Sep (w.heap.size+2) g' wr w'->lN w' r x)
  (hrest:∀i:Nat,k<=i->rs'[i]?=rs[i]?) (hg1:w.heap.size+2<=g) (hg2:g<wr.heap.size) (hlt:k<rs.length) (hxk:xs[k]?=some xk)
  (di:ah w wr) (_hsz:w.heap.size+2<=wr.heap.size) (qy:ah wr W5) (B:ah W5 wl)
  (c0:wr.cell? ⟨w.heap.size,0,none⟩=some (.slice (some ⟨g,0,none⟩) rs.length gc)) (c1:wr.cell? ⟨w.heap.size,1,none⟩=some (.int .i64 r0)) (cf:∀o,wr.frozen? ⟨w.heap.size,o,none⟩=false)
  {u0 u1:Value} (d0:wr.cell? ⟨w.heap.size+1,0,none⟩=some u0) (d1:wr.cell? ⟨w.heap.size+1,1,none⟩=some u1) (df:∀o,wr.frozen? ⟨w.heap.size+1,o,none⟩=false)
  (HN:∀w'',Sep (w.heap.size+2) g wl w''->lN w'' rn xk) :
  CG w rs xs (.slice (some ⟨g,0,none⟩) rs.length gc) r0 (k+1) (((((wl.setCell ⟨g,k*5,none⟩ (.bool rn.leaf)).setCell ⟨g,k*5+1,none⟩ rn.ev).setCell ⟨g,k*5+2,none⟩ rn.kv).setCell ⟨g,k*5+3,none⟩ rn.dv).setCell ⟨g,k*5+4,none⟩ rn.bv):=by
 have bl:ah wr wl:=Below.trans' qy B qy.size
 obtain⟨wx,hwx⟩:=bQ ((((((wl.setCell ⟨g,k*5,none⟩ (.bool rn.leaf)).setCell ⟨g,k*5+1,none⟩ rn.ev).setCell ⟨g,k*5+2,none⟩ rn.kv).setCell ⟨g,k*5+3,none⟩ rn.dv).setCell ⟨g,k*5+4,none⟩ rn.bv))
 have hown:wx.ownsRow (w.heap.size+2) 119 5 (.slice (some ⟨g,0,none⟩) rs.length gc) rs.length ((rs'.set k rn).flatMap cL):=by
  rw [hwx];exact pP (gp ho bl) hlt hl'.symm
 have Wl:Sep (w.heap.size+2) g wl wx:=by
  rw [hwx];exact((((((Sep.refl _ _ wl).set (.inl rfl) _).set (.inl rfl) _).set (.inl rfl) _).set (.inl rfl) _).set (.inl rfl) _)
 have KU:ah w wx:=by
  rw [hwx]
  have h0:ah w wl:=Below.trans' di bl di.size
  exact((((h0.setCell (by simp <;> omega) _).setCell (by simp <;> omega) _).setCell (by simp <;> omega) _).setCell (by simp <;> omega) _).setCell (by simp <;> omega) _
 have hblk:∀b,b<w.heap.size+2->wx.heap[b]?=wr.heap[b]?:=fun b hb=>by
  rw [hwx,<-bl.block b af]
  have:g≠b:=af
  simp [World.setCell,Array.getElem?_modify,this]
 have hcell:∀b o,b<w.heap.size+2->wx.cell? ⟨b,o,none⟩=wr.cell? ⟨b,o,none⟩:=fun b o hb=>World.cell?_of_block (hblk b hb)
 have hfro:∀b o,b<w.heap.size+2->wx.frozen? ⟨b,o,none⟩=wr.frozen? ⟨b,o,none⟩:=fun b o hb=>World.frozen?_of_block (hblk b hb)
 have hsx:wl.heap.size=wx.heap.size:=by rw [hwx];simp
 rw [<-hwx]
 refine⟨⟨rs'.set k rn,hown,by simp [hl'],fun i r x hi hr hx g' hg' w' hs=>?_,fun i hi=>?_⟩,KU,?_,?_,?_,fun o=>?_,⟨u0,?_⟩,⟨u1,?_⟩,fun o=>?_⟩
 ·have hgg:g=g':=by simpa [Value.ownBlock] using hg'
  subst hgg
  by_cases hik:i=k
  ·subst hik
   have:r=rn:=by rw [List.getElem?_set_self af]at hr;simpa using hr.symm
   subst this
   rw [hxk]at hx
   injection hx with hx;subst hx
   exact HN w' (Wl.trans hs)
  ·rw [Az af]at hr
   exact hdone i r x af hr hx g rfl w' (((Sep.of bl aI).trans Wl).trans hs)
 ·rw [Az af];exact hrest i af
 ·have:=bl.size;omega
 ·rw [hcell _ _ af];exact c0
 ·rw [hcell _ _ af];exact c1
 ·rw [hfro _ _ af];exact cf o
 ·rw [hcell _ _ af];exact d0
 ·rw [hcell _ _ af];exact d1
 ·rw [hfro _ _ af];exact df o
theorem Nu {gv:Value} (h:CG w rs xs gv r0 k wr) (hk:rs.length<=k) (hl:rs.length=xs.length) (hs:rs.length*104<=140737488351232) (v0 v1:Value) :
  (∀w'',aP w.heap.size ((wr.setCell ⟨w.heap.size+1,0,none⟩ v0).setCell ⟨w.heap.size+1,1,none⟩ v1) w''->bu w'' gv xs)/\ah w ((wr.setCell ⟨w.heap.size+1,0,none⟩ v0).setCell ⟨w.heap.size+1,1,none⟩ v1):=by
 obtain⟨⟨rs',ho,hl',hdone,hrest⟩,di,hsz,-,-,-,-,-,-⟩:=h
 refine⟨fun w'' hk'=>?_,?_⟩
 ·have hke:aP (w.heap.size+2) wr w'':=((((aP.refl _ wr).set (by show w.heap.size+1<_;omega) v0).set (by show w.heap.size+1<_;omega) v1).trans (hk'.mono af))
  refine⟨rs',dN.owned gh (oX ho hke aI) hl'.symm (by rw [hl'];exact hs),af,fun i r x hr hx=>?_⟩
  have hi:=(gH.1 hr).1
  obtain⟨g,cap2,rfl,hg1,hg2⟩:=ho.form af
  exact hdone i r x af hr hx g rfl _ hke.sep
 ·exact(di.setCell (by simp <;> omega) _).setCell (by simp <;> omega) _
theorem oh {nv root:Value} (h:bu w nv xs) (hroot:∃r,root = .int .i64 r) :
  Calls Tryd.prog 72 #[.agg #[nv,root]] w fun e w'=>∃kX,e = .returned (.agg #[kX,root])/\(∀w'',aP w.heap.size w' w''->bu w'' kX xs)/\ah w w':=by
 obtain⟨r0,rfl⟩:=hroot
 obtain⟨rs,hs,hr⟩:=id h
 have hmax:rs.length<=9223372036854775806:=by obtain⟨_,_,_,_,_,h,_⟩:=hs;omega
 obtain⟨ao,cap,rfl⟩:=hs.isSlice
 obtain⟨W0,hW0⟩:=bQ ((w.alloc (.cells #[.slice ao rs.length cap, .int .i64 r0] 32)).alloc (.cells #[.slice none 0 0, .int .i64 0] 32))
 have hb0:ah w W0:=by rw [hW0];exact((aJ _ w).alloc aI _).alloc bq _
 have HC:=hdd (uS (hs.below hb0 aI) hr.one)
 rw [hW0]at HC
 clear h
 go_enter Tryd.func72,Tryd.ntmps72
 go_wp2_with (go_at_call 91;refine HC.out.mono ?_;rintro e w1 ⟨gv,rfl,hown,hb1⟩;obtain⟨go,gc,rfl⟩:=dI hown;obtain⟨p1,p2,p3⟩:=nr hb1 (B:=w.heap.size) (by simp <;> omega);obtain⟨q1,q2,q3⟩:=nr hb1 (B:=w.heap.size+1) bq)
 have TM:w.heap.size+2<=w1.heap.size:=by have:=hb1.size;simp at this;omega
 go_loopg [12] rs.length (fun g c wr=>∃k,k<=rs.length/\g=rs.length-k/\c = .int .i64 k/\CG w rs xs (.slice go rs.length gc) r0 k wr)
 case atStart=>
  refine⟨0,iN _,rfl,rfl,?_⟩
  refine⟨⟨rs,oz (by simpa using hown) af _,rfl,bq,fun i _=>rfl⟩,?_,by simpa [ay] using TM,?_,?_,?_,?_,?_,?_⟩
  ·refine Below.setCell ?_ (by simp <;> omega) _
   exact Below.trans' (hW0▸hb0) hb1 (by simp <;> omega)
  all_goals first|(go_simp;done)|(simp [p2,p3,q2,q3];done)|(intro o;go_simp;done)|(intro o;simp [p2,p3,q2,q3];done)
 case round=>
  obtain⟨k,hk,rfl,rfl,HI⟩:=hrel
  clear p1 p2 p3 q1 q2 q3 hown hb1 hb0 hW0 HC
  by_cases hlt:k<rs.length
  ·obtain⟨⟨rs',ho,hl',hdone,hrest⟩,di,hsz,c0,c1,cf,⟨u0,d0⟩,⟨u1,d1⟩,df⟩:=HI
   obtain⟨g,cap2,hf,hg1,hg2⟩:=ho.form af
   injection hf with hf _ hcap
   subst hf;subst hcap
   obtain⟨rk,Su⟩:=bw (rs'[k]'(by omega))
   obtain⟨e0,e1,e2,e3,e4,ef⟩:=vM ho hl' (by omega:k<rs'.length)
   rw [Su]at e0 e1 e2 e3 e4
   have Q4:k<xs.length:=by rw [<-hr.1];exact hlt
   obtain⟨xk,hxk⟩:=bw (xs[k])
   have Mr:xs[k]?=some xk:=by rw [<-hxk];simp [Q4]
   have Ss:rs'[k]?=some rk:=by rw [<-Su];simp
   have hN:lN w rk xk:=hr.2 k rk xk ((hrest k aI)▸Ss) Mr
   clear Su
   obtain⟨lf,ev,kv,dv,bv⟩:=rk
   obtain⟨Oz,hE,hK,hD,hB⟩:=hN
   obtain⟨a1,n1,rfl⟩:=hE.isSlice
   obtain⟨a2,n2,rfl⟩:=hK.isSlice
   obtain⟨a3,n3,rfl⟩:=hD.isSlice
   obtain⟨a4,n4,rfl⟩:=hB.isSlice
   simp only at e0 e1 e2 e3 e4 Oz hE hK hD hB
   go_upto_block 1 with (fail)
   go_cut [] (fun wx=>CG w rs xs (.slice (some ⟨g,0,none⟩) rs.length gc) r0 (k+1) wx)
   case first=>
    go_upto_region 5 with (fail)
    obtain⟨W5,oC⟩:=bQ (wr.alloc (.cells #[Value.bool xk.leaf,Value.slice a1 xk.aF.length n1,Value.slice a2 xk.keys.length n2,Value.slice a3 xk.kids.length n3,Value.slice a4 xk.buf.length n4] 119))
    have qy:ah wr W5:=by rw [oC];exact(aJ _ _).alloc aI _
    have z5:W5.heap.size=wr.heap.size+1:=by rw [oC];simp
    have n0:W5.heap[wr.heap.size]?=some (.cells #[Value.bool xk.leaf,Value.slice a1 xk.aF.length n1,Value.slice a2 xk.keys.length n2,Value.slice a3 xk.kids.length n3,Value.slice a4 xk.buf.length n4] 119):=by rw [oC];show (wr.heap.push _)[wr.heap.size]?=_;simp
    rw [<-oC]
    have hn5:∀w',ah W5 w'->w'.heap[wr.heap.size]?=some (.cells #[Value.bool xk.leaf,Value.slice a1 xk.aF.length n1,Value.slice a2 xk.keys.length n2,Value.slice a3 xk.kids.length n3,Value.slice a4 xk.buf.length n4] 119):=fun w' hb=>(hb.block _ af).trans n0
    have hS:∀w',ah W5 w'->w'.cell? ⟨w.heap.size,0,none⟩=some (.slice (some ⟨g,0,none⟩) rs.length gc)/\w'.cell? ⟨wr.heap.size,0,none⟩=some (.bool xk.leaf)/\w'.cell? ⟨wr.heap.size,1,none⟩=some (.slice a1 xk.aF.length n1)/\w'.cell? ⟨wr.heap.size,2,none⟩=some (.slice a2 xk.keys.length n2)/\w'.cell? ⟨wr.heap.size,3,none⟩=some (.slice a3 xk.kids.length n3)/\w'.cell? ⟨wr.heap.size,4,none⟩=some (.slice a4 xk.buf.length n4):=fun w' hb=>by
     have hh:=hn5 w' hb
     refine⟨?_,by simp [World.cell?,hh],by simp [World.cell?,hh],by simp [World.cell?,hh],by simp [World.cell?,hh],by simp [World.cell?,hh]⟩
     rw [(Below.trans' qy hb qy.size).cell (p:=⟨w.heap.size,0,none⟩) (by show w.heap.size<wr.heap.size;omega)];exact c0
    have hG:∀w',ah W5 w'->w'.cell? ⟨g,k*5,none⟩=some (.bool lf)/\w'.cell? ⟨g,k*5+1,none⟩=some (.slice a1 xk.aF.length n1)/\w'.cell? ⟨g,k*5+2,none⟩=some (.slice a2 xk.keys.length n2)/\w'.cell? ⟨g,k*5+3,none⟩=some (.slice a3 xk.kids.length n3)/\w'.cell? ⟨g,k*5+4,none⟩=some (.slice a4 xk.buf.length n4)/\∀o,w'.frozen? ⟨g,o,none⟩=false:=fun w' hb=>by
     have bb:=Below.trans' qy hb qy.size
     exact⟨(bb.cell (p:=⟨g,_,none⟩) hg2).trans e0,(bb.cell (p:=⟨g,_,none⟩) hg2).trans e1,(bb.cell (p:=⟨g,_,none⟩) hg2).trans e2,(bb.cell (p:=⟨g,_,none⟩) hg2).trans e3,(bb.cell (p:=⟨g,_,none⟩) hg2).trans e4,fun o=>(bb.frozen (p:=⟨g,_,none⟩) hg2).trans (ef o)⟩
    have KV:∀w',ah W5 w'->ah w w':=fun w' hb=>Below.trans' di (Below.trans' qy hb qy.size) di.size
    have hcE:=fun w' (hb:ah W5 w')=>uU (M:=w.heap.size+2) (g:=g) (hE.below (KV w' hb) aI) (by have:=hb.size;omega) (by have:=hb.size;omega) hb
    have hcK:=fun w' (hb:ah W5 w')=>uT (M:=w.heap.size+2) (g:=g) (hK.below (KV w' hb) aI) (by have:=hb.size;omega) (by have:=hb.size;omega) hb
    have hcD:=fun w' (hb:ah W5 w')=>uT (M:=w.heap.size+2) (g:=g) (hD.below (KV w' hb) aI) (by have:=hb.size;omega) (by have:=hb.size;omega) hb
    have hcB:=fun w' (hb:ah W5 w')=>uU (M:=w.heap.size+2) (g:=g) (hB.below (KV w' hb) aI) (by have:=hb.size;omega) (by have:=hb.size;omega) hb
    have B0:ah W5 W5.drew:=(aJ _ _).drew
    have Gw:w.heap.size≠g:=af
    have SP:wr.heap.size≠g:=af
    have eD:∀(b:Nat),b≠g->∀(w':World) (o:Nat) (v:Value) (o':Nat),(w'.setCell ⟨g,o,none⟩ v).cell? ⟨b,o',none⟩=w'.cell? ⟨b,o',none⟩:=fun b hb w' o v o'=>World.cell?_of_block (by have:g≠b:=Ne.symm hb;simp [World.setCell,Array.getElem?_modify,this])
    have zb:=eD _ Gw
    have Wj:=eD _ SP
    clear eD
    have hstep:=hdd (fun wl (B:ah W5 wl) rn (HN:∀w'',Sep (w.heap.size+2) g wl w''->lN w'' rn xk)=>Kj rn ho hl' hdone hrest hg1 hg2 hlt Mr di hsz qy B c0 c1 cf d0 d1 df HN)
    clear hr hs di hsz ho hl' hdone hrest e0 e1 e2 e3 e4 ef c0 c1 cf d0 d1 df hE hK hD hB qy z5 n0 hn5 KV oC
    go_region_held3 (fun w'=>w'.cell? ⟨w.heap.size,0,none⟩=some (.slice (some ⟨g,0,none⟩) rs.length gc)/\w'.cell? ⟨wr.heap.size,0,none⟩=some (.bool xk.leaf)/\w'.cell? ⟨wr.heap.size,1,none⟩=some (.slice a1 xk.aF.length n1)/\w'.cell? ⟨wr.heap.size,2,none⟩=some (.slice a2 xk.keys.length n2)/\w'.cell? ⟨wr.heap.size,3,none⟩=some (.slice a3 xk.kids.length n3)/\w'.cell? ⟨wr.heap.size,4,none⟩=some (.slice a4 xk.buf.length n4))
     (first|exact hS _ (by assumption)|(simp only [zb,Wj];exact hS _ (by assumption)))
     (first
      |(go_at_call 88;refine(hcE _ ?_).mono ?_;(assumption);rintro e wE ⟨aE,cE,rfl,BE,HE,bE⟩;obtain⟨x0,x1,x2,x3,x4,xf⟩:=hG _ BE)
      |(go_at_call 92;refine(hcK _ ?_).mono ?_;(assumption);rintro e wK ⟨aK,cK,rfl,BK,HK,bK⟩;obtain⟨x0,x1,x2,x3,x4,xf⟩:=hG _ BK)
      |(go_at_call 92;refine(hcD _ ?_).mono ?_;(assumption);rintro e wD ⟨aD,cD,rfl,BD,HD,bD⟩;obtain⟨x0,x1,x2,x3,x4,xf⟩:=hG _ BD)
      |(go_at_call 88;refine(hcB _ ?_).mono ?_;(assumption);rintro e wB ⟨aB,cB,rfl,BB,HB,bB⟩;obtain⟨x0,x1,x2,x3,x4,xf⟩:=hG _ BB))
    all_goals
     go_wp2_with fail
     go_meet
     exact hstep.out _ (by assumption) ⟨xk.leaf,_,_,_,_⟩ (fun w'' hs=>⟨rfl,HE.out _ (Sep.trans (by first|exact Sep.refl _ _ _|exact Sep.of (by assumption) aI|(refine Sep.trans (Sep.of (by assumption) aI) ?_;first|exact Sep.of (by assumption) aI|(refine Sep.trans (Sep.of (by assumption) aI) ?_;exact Sep.of (by assumption) aI))) hs),HK.out _ (Sep.trans (by first|exact Sep.refl _ _ _|exact Sep.of (by assumption) aI|(refine Sep.trans (Sep.of (by assumption) aI) ?_;first|exact Sep.of (by assumption) aI|(refine Sep.trans (Sep.of (by assumption) aI) ?_;exact Sep.of (by assumption) aI))) hs),HD.out _ (Sep.trans (by first|exact Sep.refl _ _ _|exact Sep.of (by assumption) aI|(refine Sep.trans (Sep.of (by assumption) aI) ?_;first|exact Sep.of (by assumption) aI|(refine Sep.trans (Sep.of (by assumption) aI) ?_;exact Sep.of (by assumption) aI))) hs),HB.out _ (Sep.trans (by first|exact Sep.refl _ _ _|exact Sep.of (by assumption) aI|(refine Sep.trans (Sep.of (by assumption) aI) ?_;first|exact Sep.of (by assumption) aI|(refine Sep.trans (Sep.of (by assumption) aI) ?_;exact Sep.of (by assumption) aI))) hs)⟩)
   case rest=>
    go_wp2
    go_roundg (rs.length-(k+1))
    case measure=>omega
    case rel=>exact⟨k+1,af,rfl,by go_num,hcut⟩
  ·have hkk:rs.length<=k:=af
   have HE:=hdd (Nu HI hkk hr.1 (by obtain⟨_,_,_,_,_,h,_⟩:=hs;exact h))
   obtain⟨-,-,-,c0,c1,cf,⟨u0,d0⟩,⟨u1,d1⟩,df⟩:=HI
   clear hr hs TM
   go_wp2
   exact bodyPost_ret (v:= .agg #[.slice go rs.length gc, .int .i64 r0]) (by simp [results,Tryd.results72,d0,d1,go_sem]) rfl ⟨_,rfl,HE.out _ _⟩
end
section
set_option maxRecDepth 100000
set_option maxHeartbeats 1000000
def jg (s:ByteArray):List Value:=[.string s]
theorem kD (s:ByteArray):(jg s).length=1:=rfl
theorem Bn (xs:List ByteArray):∀u∈xs.flatMap jg,u.oneCell'=true:=by
 intro u hu
 obtain⟨x,_,hx⟩:=List.mem_flatMap.1 hu
 simp [jg]at hx
 subst hx;rfl
theorem Tryd.V7:(Tryd.prog.info? 9).map (fun i=>(i.zero.map (fun z=>z.cells.size),i.size,i.bytes))=some (some 1,1,16):=cy
abbrev jM (w:World) (v:Value) (xs:List ByteArray):Prop:=dN 1 16 jg w v xs
def bN (w:World) (v:Value) (b:Ba):Prop:=∃nv a0 a1 a2,v = .agg #[nv,a0, .int .i64 b.t0.root,a1, .int .i64 b.t1.root,a2, .int .i64 b.t2.root, .int .i64 b.floor]/\jM w nv b.names/\bu w a0 b.t0.nodes/\bu w a1 b.t1.nodes/\bu w a2 b.t2.nodes
theorem uR {v:Value} {xs:List ByteArray} {w:World} (h:dN 1 16 jg w v xs) :
  Calls Tryd.prog 71 #[v] w fun e w'=>∃v',e = .returned v'/\w'.ownsRow w.heap.size 9 1 v' xs.length (xs.flatMap jg)/\ah w w':=by
 obtain⟨ao,cap,rfl,h1,h2,h3,h4,h5⟩:=id h
 have hnil:∀w,(binOp .eql 29 (.slice ao xs.length cap) (.slice none 0 0)).run Tryd.prog w = .ok (.bool ao.isNone) w:=fun w=>Lib.run_eql_slice_nil w _ _ _ _ _ _ _ Tryd.underlying29
 cases ao with
 |none=>
  have h0:xs.length=0:=by have:=h4 rfl;omega
  obtain rfl:=xN h0
  obtain rfl:cap=0:=h4 rfl
  clear h4 h5
  simp only [Option.isNone_none,List.length_nil]at hnil
  go_enter Tryd.func71,Tryd.ntmps71
  go_wp2_with fail
  go_ret
  exact⟨_,rfl,World.ownsRow_nil _ _ _ _,aJ _ _⟩
 |some ad=>
  obtain⟨_,g1,g2⟩:=h.news (kD)
  obtain⟨i0,z,hi,hz,hz1,hz2,hz3⟩:=cC Tryd.V7
  simp only [Option.isNone_some]at hnil
  have hown0:(w.alloc (.cells #[] 9)).ownsRow w.heap.size 9 1 (.slice (some ⟨w.heap.size,0,none⟩) 0 0) 0 []:=World.ownsRow_made w #[] 0 aI (by simp [maxLen]) bq
  clear h4 h5
  go_enter Tryd.func71,Tryd.ntmps71
  go_wp2_with (at_builtin;refine wpList_append_own _ rfl _ _ 29 rfl w.heap.size 9 i0 z 1 16 Tryd.underlying29 hi hz hz1 hz2 hz3 aW _ _ _ rfl hown0 ad xs.length cap (xs.flatMap jg) rfl g1 (fun j u hj=>pY (g2 j u hj)) (Bn xs) (by unfold maxLen;omega) af bq ?_;intro v' w3 hown' hgrow hv)
  go_ret
  exact⟨v',rfl,by simpa using hown',Below.grown ((aJ _ _).alloc aI _) hgrow bq (fun j hj=>(hown0.lt j hj).1)⟩
end
theorem eA {w:World} {v:Value} {xs:List Nd} (h:bu w v xs):∃ao n cap,v = .slice ao n cap:=by
 obtain⟨rs,hs,_⟩:=h;obtain⟨a,c,h⟩:=hs.isSlice;exact⟨a,_,c,h⟩
section
set_option maxRecDepth 100000
set_option maxHeartbeats 1000000
variable {b:Ba} {M k:Nat} {nv a0 a1 a2 a':Value} {w wr w5:World}
theorem LO {B C size n:Nat} {e:TypeId} {v:Value} {us:List Value} (h:w.ownsRow B e size v n us) (hC:C<=B):w.ownsRow C e size v n us:=by
 obtain⟨hl,⟨rfl,h0⟩|⟨g,cap,cur,rfl,hB,hg,h1,h2,h3,h4⟩⟩:=h
 ·exact⟨hl, .inl ⟨rfl,h0⟩⟩
 ·exact⟨hl, .inr ⟨g,cap,cur,rfl,af,hg,h1,h2,h3,h4⟩⟩
structure tR (w:World) (nv:Value) (b:Ba) (a0 a1 a2:Value) (M:Nat) (k:Nat) (wr:World):Prop where
 below:ah w wr
 size:w.heap.size+2<=wr.heap.size
 low:w.heap.size+2<=M
 high:M<=wr.heap.size
 lt:∀b,nv.ownBlock=some b->b<M
 box:wr.heap[w.heap.size]?=some (.cells #[nv,a0, .int .i64 b.t0.root,a1, .int .i64 b.t1.root,a2, .int .i64 b.t2.root, .int .i64 b.floor] 35)
 res:wr.heap[w.heap.size+1]?=some (.cells #[.slice none 0 0, .slice none 0 0, .int .i64 0, .slice none 0 0, .int .i64 0, .slice none 0 0, .int .i64 0, .int .i64 0] 35)
 names:∀w'',aP (w.heap.size+2) wr w''->jM w'' nv b.names
 own:∀w'',aP (w.heap.size+2) wr w''->w''.ownsRow (w.heap.size+2) 9 1 nv b.names.length (b.names.flatMap jg)
 n0:∀w'',(k<=0->ah w w'')->aP M wr w''->bu w'' a0 b.t0.nodes
 n1:∀w'',(k<=1->ah w w'')->aP M wr w''->bu w'' a1 b.t1.nodes
 n2:∀w'',(k<=2->ah w w'')->aP M wr w''->bu w'' a2 b.t2.nodes
theorem tR.step0 (h:tR w nv b a0 a1 a2 M 0 wr) (cx:ah wr w5) (HK:∀w'',aP wr.heap.size w5 w''->bu w'' a' b.t0.nodes) :
  tR w nv b a' a1 a2 M 1 ((w5.setCell ⟨w.heap.size,1,none⟩ a').setCell ⟨w.heap.size,2,none⟩ (.int .i64 b.t0.root)):=by
 have hsz:=h.size
 have hs5:=cx.size
 have hb:ah w w5:=Below.trans' h.below cx h.below.size
 have hp:w.heap.size<w.heap.size+2:=af
 have K0:aP (w.heap.size+2) wr ((w5.setCell ⟨w.heap.size,1,none⟩ a').setCell ⟨w.heap.size,2,none⟩ (.int .i64 b.t0.root)):=((aP.of cx aI).set hp _).set hp _
 have qA:=h.low
 have Q6:=h.high
 refine⟨(by repeat (first|with_reducible exact aJ _ _|with_reducible assumption|with_reducible refine cM ?_ _|with_reducible refine Below.drew ?_|with_reducible refine Below.alloc ?_ (by first|omega|(simp;done)|(simp;omega)) _|with_reducible refine Below.setCell ?_ (by first|omega|(simp;done)|(simp;omega)) _)),by simp;omega,qA,by simp;omega,h.lt,?_,?_,fun w'' hk=>h.names w'' (K0.trans hk),fun w'' hk=>h.own w'' (K0.trans hk),fun w'' hb hk=>HK w'' (((((aP.refl _ _).set hp _).set hp _).mono qA).trans hk |>.mono h.high),fun w'' hb hk=>h.n1 w'' (fun _=>hb aW) ((K0.mono qA).trans hk),fun w'' hb hk=>h.n2 w'' (fun _=>hb aW) ((K0.mono qA).trans hk)⟩
 ·have h0:=heap_setCell_same (off:=2) (v:= .int .i64 b.t0.root) (heap_setCell_same (off:=1) (v:=a') ((cx.block _ af).trans h.box))
  simpa using h0
 ·rw [qc _ _ _ _ (by show w.heap.size+1≠w.heap.size;omega),qc _ _ _ _ (by show w.heap.size+1≠w.heap.size;omega)]
  exact(cx.block _ af).trans h.res
theorem tR.CU (h:tR w nv b a0 a1 a2 M 1 wr) (cx:ah wr w5) (HK:∀w'',aP wr.heap.size w5 w''->bu w'' a' b.t1.nodes) :
  tR w nv b a0 a' a2 M 2 ((w5.setCell ⟨w.heap.size,3,none⟩ a').setCell ⟨w.heap.size,4,none⟩ (.int .i64 b.t1.root)):=by
 have hsz:=h.size
 have hs5:=cx.size
 have hb:ah w w5:=Below.trans' h.below cx h.below.size
 have hp:w.heap.size<w.heap.size+2:=af
 have K0:aP (w.heap.size+2) wr ((w5.setCell ⟨w.heap.size,3,none⟩ a').setCell ⟨w.heap.size,4,none⟩ (.int .i64 b.t1.root)):=((aP.of cx aI).set hp _).set hp _
 have qA:=h.low
 have Q6:=h.high
 refine⟨(by repeat (first|with_reducible exact aJ _ _|with_reducible assumption|with_reducible refine cM ?_ _|with_reducible refine Below.drew ?_|with_reducible refine Below.alloc ?_ (by first|omega|(simp;done)|(simp;omega)) _|with_reducible refine Below.setCell ?_ (by first|omega|(simp;done)|(simp;omega)) _)),by simp;omega,qA,by simp;omega,h.lt,?_,?_,fun w'' hk=>h.names w'' (K0.trans hk),fun w'' hk=>h.own w'' (K0.trans hk),fun w'' _ hk=>h.n0 w'' (fun h=>absurd h aW) ((K0.mono qA).trans hk),fun w'' hb hk=>HK w'' (((((aP.refl _ _).set hp _).set hp _).mono qA).trans hk |>.mono h.high),fun w'' hb hk=>h.n2 w'' (fun _=>hb aW) ((K0.mono qA).trans hk)⟩
 ·have h0:=heap_setCell_same (off:=4) (v:= .int .i64 b.t1.root) (heap_setCell_same (off:=3) (v:=a') ((cx.block _ af).trans h.box))
  simpa using h0
 ·rw [qc _ _ _ _ (by show w.heap.size+1≠w.heap.size;omega),qc _ _ _ _ (by show w.heap.size+1≠w.heap.size;omega)]
  exact(cx.block _ af).trans h.res
theorem tR.CT (h:tR w nv b a0 a1 a2 M 2 wr) (cx:ah wr w5) (HK:∀w'',aP wr.heap.size w5 w''->bu w'' a' b.t2.nodes) :
  tR w nv b a0 a1 a' M 3 ((w5.setCell ⟨w.heap.size,5,none⟩ a').setCell ⟨w.heap.size,6,none⟩ (.int .i64 b.t2.root)):=by
 have hsz:=h.size
 have hs5:=cx.size
 have hb:ah w w5:=Below.trans' h.below cx h.below.size
 have hp:w.heap.size<w.heap.size+2:=af
 have K0:aP (w.heap.size+2) wr ((w5.setCell ⟨w.heap.size,5,none⟩ a').setCell ⟨w.heap.size,6,none⟩ (.int .i64 b.t2.root)):=((aP.of cx aI).set hp _).set hp _
 have qA:=h.low
 have Q6:=h.high
 refine⟨(by repeat (first|with_reducible exact aJ _ _|with_reducible assumption|with_reducible refine cM ?_ _|with_reducible refine Below.drew ?_|with_reducible refine Below.alloc ?_ (by first|omega|(simp;done)|(simp;omega)) _|with_reducible refine Below.setCell ?_ (by first|omega|(simp;done)|(simp;omega)) _)),by simp;omega,qA,by simp;omega,h.lt,?_,?_,fun w'' hk=>h.names w'' (K0.trans hk),fun w'' hk=>h.own w'' (K0.trans hk),fun w'' _ hk=>h.n0 w'' (fun h=>absurd h aW) ((K0.mono qA).trans hk),fun w'' _ hk=>h.n1 w'' (fun h=>absurd h aW) ((K0.mono qA).trans hk),fun w'' hb hk=>HK w'' (((((aP.refl _ _).set hp _).set hp _).mono qA).trans hk |>.mono h.high)⟩
 ·have h0:=heap_setCell_same (off:=6) (v:= .int .i64 b.t2.root) (heap_setCell_same (off:=5) (v:=a') ((cx.block _ af).trans h.box))
  simpa using h0
 ·rw [qc _ _ _ _ (by show w.heap.size+1≠w.heap.size;omega),qc _ _ _ _ (by show w.heap.size+1≠w.heap.size;omega)]
  exact(cx.block _ af).trans h.res
theorem tR.cells (h:tR w nv b a0 a1 a2 M k wr):wr.cell? ⟨w.heap.size,0,none⟩=some nv/\wr.cell? ⟨w.heap.size,1,none⟩=some a0/\wr.cell? ⟨w.heap.size,2,none⟩=some (.int .i64 b.t0.root)/\wr.cell? ⟨w.heap.size,3,none⟩=some a1/\wr.cell? ⟨w.heap.size,4,none⟩=some (.int .i64 b.t1.root)/\wr.cell? ⟨w.heap.size,5,none⟩=some a2/\wr.cell? ⟨w.heap.size,6,none⟩=some (.int .i64 b.t2.root)/\wr.cell? ⟨w.heap.size,7,none⟩=some (.int .i64 b.floor)/\∀o,wr.frozen? ⟨w.heap.size,o,none⟩=false:=by
 simp [World.cell?,World.frozen?,h.box]
theorem tR.FP (h:tR w nv b a0 a1 a2 M k wr):wr.cell? ⟨w.heap.size+1,0,none⟩=some (.slice none 0 0)/\wr.cell? ⟨w.heap.size+1,1,none⟩=some (.slice none 0 0)/\wr.cell? ⟨w.heap.size+1,2,none⟩=some (.int .i64 0)/\wr.cell? ⟨w.heap.size+1,3,none⟩=some (.slice none 0 0)/\wr.cell? ⟨w.heap.size+1,4,none⟩=some (.int .i64 0)/\wr.cell? ⟨w.heap.size+1,5,none⟩=some (.slice none 0 0)/\wr.cell? ⟨w.heap.size+1,6,none⟩=some (.int .i64 0)/\wr.cell? ⟨w.heap.size+1,7,none⟩=some (.int .i64 0)/\∀o,wr.frozen? ⟨w.heap.size+1,o,none⟩=false:=by
 simp [World.cell?,World.frozen?,h.res]
theorem oH {v:Value} (h:bN w v b) :
  Calls Tryd.prog 40 #[v] w fun e w'=>ah w w'/\∃sa sc g0 l0 p0 g1 l1 p1 g2 l2 p2,e = .returned (.agg #[.slice sa b.names.length sc, .slice g0 l0 p0, .int .i64 b.t0.root, .slice g1 l1 p1, .int .i64 b.t1.root, .slice g2 l2 p2, .int .i64 b.t2.root, .int .i64 b.floor]) /\
   w'.ownsRow (w.heap.size+2) 9 1 (.slice sa b.names.length sc) b.names.length (b.names.flatMap jg)/\∃M,w.heap.size+2<=M/\M<=w'.heap.size/\(∀b',(Value.slice sa b.names.length sc).ownBlock=some b'->b'<M) /\
   (∀w'',aP M w' w''->bu w'' (.slice g0 l0 p0) b.t0.nodes/\bu w'' (.slice g1 l1 p1) b.t1.nodes/\bu w'' (.slice g2 l2 p2) b.t2.nodes)/\∀w'',aP (w.heap.size+2) w' w''->bN w'' (.agg #[.slice sa b.names.length sc, .slice g0 l0 p0, .int .i64 b.t0.root, .slice g1 l1 p1, .int .i64 b.t1.root, .slice g2 l2 p2, .int .i64 b.t2.root, .int .i64 b.floor]) b:=by
 obtain⟨nv,a0,a1,a2,rfl,hs,h0,h1,h2⟩:=h
 obtain⟨sa,sn,sc,rfl⟩:∃a n c,nv = .slice a n c:=by obtain⟨a,c,h⟩:=hs.isSlice;exact⟨a,_,c,h⟩
 obtain⟨g0,l0,p0,rfl⟩:=eA h0
 obtain⟨g1,l1,p1,rfl⟩:=eA h1
 obtain⟨g2,l2,p2,rfl⟩:=eA h2
 have HC:=hdd fun w' (hb:ah w w')=>uR (hs.below hb aI)
 obtain⟨W0,hW0⟩:=bQ ((w.alloc (.cells #[.slice sa sn sc, .slice g0 l0 p0, .int .i64 b.t0.root, .slice g1 l1 p1, .int .i64 b.t1.root, .slice g2 l2 p2, .int .i64 b.t2.root, .int .i64 b.floor] 35)).alloc (.cells #[.slice none 0 0, .slice none 0 0, .int .i64 0, .slice none 0 0, .int .i64 0, .slice none 0 0, .int .i64 0, .int .i64 0] 35))
 have hb0:ah w W0:=by rw [hW0];exact(by repeat (first|with_reducible exact aJ _ _|with_reducible assumption|with_reducible refine cM ?_ _|with_reducible refine Below.drew ?_|with_reducible refine Below.alloc ?_ (by first|omega|(simp;done)|(simp;omega)) _|with_reducible refine Below.setCell ?_ (by first|omega|(simp;done)|(simp;omega)) _))
 have hz0:W0.heap.size=w.heap.size+2:=by rw [hW0];simp
 have k0:W0.heap[w.heap.size]?=some (.cells #[.slice sa sn sc, .slice g0 l0 p0, .int .i64 b.t0.root, .slice g1 l1 p1, .int .i64 b.t1.root, .slice g2 l2 p2, .int .i64 b.t2.root, .int .i64 b.floor] 35):=by
  rw [hW0,lJ _ _ _ bq];exact aq _ _ rfl
 have k1:W0.heap[w.heap.size+1]?=some (.cells #[.slice none 0 0, .slice none 0 0, .int .i64 0, .slice none 0 0, .int .i64 0, .slice none 0 0, .int .i64 0, .int .i64 0] 35):=by
  rw [hW0];exact aq _ _ bq
 have q0:W0.cell? ⟨w.heap.size,0,none⟩=some (.slice sa sn sc):=by simp [World.cell?,k0]
 have qf:∀o,W0.frozen? ⟨w.heap.size,o,none⟩=false:=fun o=>by simp [World.frozen?,k0]
 go_enter Tryd.func40,Tryd.ntmps40
 go_upto_region 1 with (fail)
 rw [<-hW0]
 clear hW0
 go_upto_region 2 with ((go_at_call 71;(with_reducible refine(HC.out _ hb0).mono ?_);rintro e w1 ⟨kX,rfl,hown,hb1⟩;obtain⟨s',c',rfl⟩:=dI hown;obtain⟨PB,Sj,Si⟩:=nr hb1 (B:=w.heap.size) af))
 obtain⟨W2,hW2⟩:=bQ (w1.setCell ⟨w.heap.size,0,none⟩ (.slice s' b.names.length c'))
 have hst:tR w (.slice s' b.names.length c') b (.slice g0 l0 p0) (.slice g1 l1 p1) (.slice g2 l2 p2) w1.heap.size 0 W2:=by
  have di:ah w w1:=Below.trans' hb0 hb1 hb0.size
  have hs1:=hb1.size
  rw [hW2]
  refine⟨(by repeat (first|with_reducible exact aJ _ _|with_reducible assumption|with_reducible refine cM ?_ _|with_reducible refine Below.drew ?_|with_reducible refine Below.alloc ?_ (by first|omega|(simp;done)|(simp;omega)) _|with_reducible refine Below.setCell ?_ (by first|omega|(simp;done)|(simp;omega)) _)),by simp;omega,af,bq,fun b hb=>(hown.lt b hb).2,?_,?_,fun w'' hk=>?_,fun w'' hk=>oX (LO hown af) (((aP.refl _ _).set (by show w.heap.size<w.heap.size+2;omega) _).trans hk) aI,fun w'' hb _=>h0.below (hb aW) aI,fun w'' hb _=>h1.below (hb aW) aI,fun w'' hb _=>h2.below (hb aW) aI⟩
  ·have h0:=heap_setCell_same (off:=0) (v:= .slice s' b.names.length c') ((hb1.block _ af).trans k0)
   simpa using h0
  ·rw [qc _ _ _ _ (by show w.heap.size+1≠w.heap.size;omega)]
   exact(hb1.block _ af).trans k1
  ·refine dN.owned kD (oX hown (((aP.refl _ _).set (by show w.heap.size<w.heap.size+2;omega) _).trans hk) af) rfl ?_
   obtain⟨_,_,_,_,_,h,_⟩:=hs;exact h
 rw [<-hW2]
 have HST:=hdd hst
 clear hst hW2 k0 k1 q0 qf hown hb1 PB Sj Si HC h0 h1 h2 hs
 go_wp2_with fail
 go_loopg [8] 3 (fun g i wr=>∃(k:Nat) (a0 a1 a2:Value),k<=3/\g=3-k/\i = .int .i64 k/\Hid (tR w (.slice s' b.names.length c') b a0 a1 a2 w1.heap.size k wr))
 case atStart=>exact⟨0,_,_,_,af,rfl,rfl,HST⟩
 case round=>
  obtain⟨k,a0,a1,a2,hk,rfl,rfl,HB⟩:=hrel
  obtain⟨g0,l0,p0,rfl⟩:=eA (HB.out.n0 wr (fun _=>HB.out.below) (aP.refl _ _))
  obtain⟨g1,l1,p1,rfl⟩:=eA (HB.out.n1 wr (fun _=>HB.out.below) (aP.refl _ _))
  obtain⟨g2,l2,p2,rfl⟩:=eA (HB.out.n2 wr (fun _=>HB.out.below) (aP.refl _ _))
  obtain⟨c0,c1,c2,c3,c4,c5,c6,c7,cf⟩:=HB.out.cells
  have hsz:=HB.out.size
  by_cases hlt:k<3
  ·obtain rfl|rfl|rfl:k=0\/k=1\/k=2:=af
   ·have HT:=hdd (oh (root:= .int .i64 b.t0.root) (HB.out.n0 wr (fun _=>HB.out.below) (aP.refl _ _)) ⟨_,rfl⟩)
    go_wp2_with ((go_at_call 72;(with_reducible refine HT.out.mono ?_);rintro e w5 ⟨a',rfl,HK,cx⟩;obtain⟨g',l',p',rfl⟩:=eA (HK w5 (aP.refl _ _));obtain⟨PB,Sj,Si⟩:=nr cx (B:=w.heap.size) af))
    go_roundg 2
    case measure=>omega
    case rel=>exact⟨1,(.slice g' l' p'),(.slice g1 l1 p1),(.slice g2 l2 p2),af,rfl,by go_num,hdd (HB.out.step0 cx HK)⟩
   ·have HT:=hdd (oh (root:= .int .i64 b.t1.root) (HB.out.n1 wr (fun _=>HB.out.below) (aP.refl _ _)) ⟨_,rfl⟩)
    go_wp2_with ((go_at_call 72;(with_reducible refine HT.out.mono ?_);rintro e w5 ⟨a',rfl,HK,cx⟩;obtain⟨g',l',p',rfl⟩:=eA (HK w5 (aP.refl _ _));obtain⟨PB,Sj,Si⟩:=nr cx (B:=w.heap.size) af))
    go_roundg 1
    case measure=>omega
    case rel=>exact⟨2,(.slice g0 l0 p0),(.slice g' l' p'),(.slice g2 l2 p2),af,rfl,by go_num,hdd (HB.out.CU cx HK)⟩
   ·have HT:=hdd (oh (root:= .int .i64 b.t2.root) (HB.out.n2 wr (fun _=>HB.out.below) (aP.refl _ _)) ⟨_,rfl⟩)
    go_wp2_with ((go_at_call 72;(with_reducible refine HT.out.mono ?_);rintro e w5 ⟨a',rfl,HK,cx⟩;obtain⟨g',l',p',rfl⟩:=eA (HK w5 (aP.refl _ _));obtain⟨PB,Sj,Si⟩:=nr cx (B:=w.heap.size) af))
    go_roundg 0
    case measure=>omega
    case rel=>exact⟨3,(.slice g0 l0 p0),(.slice g1 l1 p1),(.slice g' l' p'),af,rfl,by go_num,hdd (HB.out.CT cx HK)⟩
  ·obtain rfl:k=3:=af
   obtain⟨z0,z1,z2,z3,z4,z5,z6,z7,zf⟩:=HB.out.FP
   have di:=HB.out.below
   have hlo:=HB.out.low
   have K1:∀w'',aP (w.heap.size+2) wr w''->bN w'' (.agg #[.slice s' b.names.length c', .slice g0 l0 p0, .int .i64 b.t0.root, .slice g1 l1 p1, .int .i64 b.t1.root, .slice g2 l2 p2, .int .i64 b.t2.root, .int .i64 b.floor]) b:=fun w'' hk=>⟨_,_,_,_,rfl,HB.out.names w'' hk,HB.out.n0 w'' (fun h=>absurd h aW) (hk.mono hlo),HB.out.n1 w'' (fun h=>absurd h aW) (hk.mono hlo),HB.out.n2 w'' (fun h=>absurd h aW) (hk.mono hlo)⟩
   have RB:=hdd (show ∀w'',aP w1.heap.size wr w''->bu w'' (.slice g0 l0 p0) b.t0.nodes/\bu w'' (.slice g1 l1 p1) b.t1.nodes/\bu w'' (.slice g2 l2 p2) b.t2.nodes from fun w'' hk=>⟨HB.out.n0 w'' (fun h=>absurd h aW) hk,HB.out.n1 w'' (fun h=>absurd h aW) hk,HB.out.n2 w'' (fun h=>absurd h aW) hk⟩)
   have hhi:=HB.out.high
   have Hz:=hdd K1
   clear K1
   go_wp2
   have HO:=HB.out.own
   refine bodyPost_ret (v:= .agg #[.slice s' b.names.length c', .slice g0 l0 p0, .int .i64 b.t0.root, .slice g1 l1 p1, .int .i64 b.t1.root, .slice g2 l2 p2, .int .i64 b.t2.root, .int .i64 b.floor]) (by simp [results,Tryd.results40,go_sem, *]) rfl ⟨?_,_,_,_,_,_,_,_,_,_,_,_,rfl,?_,w1.heap.size,hlo,by simp only [ay];omega,HB.out.lt,fun w'' hk=>RB.out w'' (aP.trans ?_ hk),fun w'' hk=>Hz.out w'' (aP.trans ?_ hk)⟩
   ·exact(by repeat (first|with_reducible exact aJ _ _|with_reducible assumption|with_reducible refine cM ?_ _|with_reducible refine Below.drew ?_|with_reducible refine Below.alloc ?_ (by first|omega|(simp;done)|(simp;omega)) _|with_reducible refine Below.setCell ?_ (by first|omega|(simp;done)|(simp;omega)) _))
   ·refine HO _ ?_
    repeat (first|with_reducible exact aP.refl _ _|with_reducible refine aP.set ?_ (by show w.heap.size+1<w.heap.size+2;omega) _)
   ·repeat (first|with_reducible exact aP.refl _ _|with_reducible refine aP.set ?_ (by show w.heap.size+1<w1.heap.size;omega) _)
   ·repeat (first|with_reducible exact aP.refl _ _|with_reducible refine aP.set ?_ (by show w.heap.size+1<w.heap.size+2;omega) _)
end
section
variable {b:Ba} {l:List aA} {w:World}
theorem n9.allT {B:Nat} {t:Tr} {e:Ending} {w':World} (h:n9 B w (ax t) (kH t 0 1099511627776) e w') :
  Below B w w'/\(match allT t with|none=>∃E:Int,(E != 0)=true/\e = .returned (.tuple #[.slice none 0 0, .int .i64 E])|some l=>∃v,e = .returned (.tuple #[v, .int .i64 0])/\av B w' v l):=by
 obtain⟨hb,h1,h2⟩:=h
 refine⟨hb,?_⟩
 unfold Go.Proofs.YtmljjfhgciaceaaDoor.allT
 by_cases hf:ax t=0
 ·have h3:=h2 hf
  rw [ar hf]
  cases hr:kH t 0 1099511627776 with
  |none=>rw [hr]at h3;exact⟨1,rfl,h3⟩
  |some l=>rw [hr]at h3;exact h3
 ·rw [ai hf];exact⟨_,by simp [hf],h1 hf⟩
theorem uX (h1:allT b.t0=some l) (h2:l.all (jm b)=true):bW b=some l:=by
 unfold bW;rw [h1];simp only;rw [ar h2]
theorem Nz {k:Nat} (h1:allT b.t0=some l) (hk:k<l.length) (h2:jm b l[k]=false):bW b=none:=by
 unfold bW;rw [h1];simp only;rw [ai]
 intro h;have:=pA.1 h l[k] (fO hk);rw [h2]at this;cases this
theorem Km (h1:allT b.t0=none):bW b=none:=by unfold bW;rw [h1]
abbrev aH (sa:Option Addr) (sn sc:Nat) (g0:Option Addr) (l0 p0:Nat) (g1:Option Addr) (l1 p1:Nat) (g2:Option Addr) (l2 p2:Nat) (b:Ba):Array Value:=
 #[.slice sa sn sc, .slice g0 l0 p0, .int .i64 b.t0.root, .slice g1 l1 p1, .int .i64 b.t1.root, .slice g2 l2 p2, .int .i64 b.t2.root, .int .i64 b.floor]
theorem bN.open {v:Value} (h:bN w v b):∃sa sc g0 l0 p0 g1 l1 p1 g2 l2 p2,v = .agg (aH sa b.names.length sc g0 l0 p0 g1 l1 p1 g2 l2 p2 b)/\b.names.length<=8796093022208/\jM w (.slice sa b.names.length sc) b.names /\
  (∀w',ah w w'->bL w' (.agg #[.slice g0 l0 p0, .int .i64 b.t0.root]) b.t0)/\(∀w',ah w w'->bL w' (.agg #[.slice g1 l1 p1, .int .i64 b.t1.root]) b.t1)/\(∀w',ah w w'->bL w' (.agg #[.slice g2 l2 p2, .int .i64 b.t2.root]) b.t2):=by
 obtain⟨nv,a0,a1,a2,rfl,s,n0,n1,n2⟩:=h
 obtain⟨sa,sc,rfl⟩:=s.isSlice
 obtain⟨g0,l0,p0,rfl⟩:=eA n0
 obtain⟨g1,l1,p1,rfl⟩:=eA n1
 obtain⟨g2,l2,p2,rfl⟩:=eA n2
 obtain⟨_,_,_,_,_,h6,_⟩:=id s
 exact⟨sa,sc,g0,l0,p0,g1,l1,p1,g2,l2,p2,rfl,af,s,fun w' hb=>⟨_,rfl,n0.below hb aI⟩,fun w' hb=>⟨_,rfl,n1.below hb aI⟩,fun w' hb=>⟨_,rfl,n2.below hb aI⟩⟩
end
section
variable {b:Ba} {z:Int} {l:List aA} {k:Nat} {t:Tr} {w:World}
def Hq (b:Ba) (i:Nat):Prop:=∀h:i<b.names.length,dG b.names[i]=true/\∀k (hk:k<i),b.names[k]≠b.names[i]
def Cy (b:Ba):Prop:=∀i,Hq b i
structure nD (b:Ba):Prop where
 n16:b.names.length<=16
 Zb:0<=b.floor
 XM:b.floor<=1048575
 fl2:b.floor%3600=0
 names:Cy b
 trees:∃l,bW b=some l/\∀k,k<3->fL l (b.tree k) (aR k)=true
open Classical in
noncomputable def aQ (b:Ba):Bool:=decide (nD b)
theorem il (h:¬nD b):aQ b=false:=by simp [aQ,h]
theorem jS (h:nD b):aQ b=true:=by simp [aQ,h]
theorem dJ (h:aQ b=true):nD b:=by simpa [aQ] using h
theorem vG {wr:World} {b off:Nat} {xs:List ByteArray} (hb:ah w wr) (hbb:b<w.heap.size)
  (hc:∀(i:Nat) x,xs[i]?=some x->∀j u,(jg x)[j]?=some u->w.cell? ⟨b,off+i*1+j,none⟩=some u) (hk:k<xs.length):wr.cell? ⟨b,off+k,none⟩=some (.string xs[k]):=by
 have:=hc k xs[k] (by simp [hk]) 0 _ rfl
 rw [Nat.mul_one,Nat.add_zero]at this
 exact(hb.cell (p:=⟨b,off+k,none⟩) hbb).trans this
theorem Ca {ab aY n cap j:Nat} {i:Int} (h:i=j) (hj:j<n) (w:World):(Instr.indexAt 29 (.slice (some ⟨ab,aY,none⟩) n cap) (.int .i64 i)).run Tryd.prog w = .ok (.pointer (some ⟨ab,aY+j,none⟩)) w:=by
 subst h
 go_simp
theorem Lh (s t:ByteArray):(s.toList == t.toList)=decide (s=t):=by
 by_cases h:s=t
 ·subst h;simp
 ·have h2:s.toList≠t.toList:=fun e=>h (by
   rw [ByteArray.toList_eq,ByteArray.toList_eq]at e
   cases s;cases t
   simp only [ByteArray.mk.injEq]at *
   exact Array.toList_inj.1 e)
  simp [h,h2]
theorem bN.below {w':World} {v:Value} (h:bN w v b) (hb:ah w w'):bN w' v b:=by
 obtain⟨nv,a0,a1,a2,rfl,s0,n0,n1,n2⟩:=h
 exact⟨nv,a0,a1,a2,rfl,s0.below hb aI,n0.below hb aI,n1.below hb aI,n2.below hb aI⟩
theorem lV {a c:List aA} (h1:bU l z=some a) (h2:allT t=some c):fL l t z=decide (a=c):=by unfold fL;rw [h1,h2]
theorem sU (h1:bU l z=none):fL l t z=false:=by unfold fL;rw [h1]
theorem sS (h1:allT t=none):fL l t z=false:=by unfold fL;rw [h1];cases bU l z <;> rfl
def zS (b:Ba) (l:List aA) (k:Nat) (B:Bool):Prop:=(B=true->∀j,j<k->fL l (b.tree j) (aR j)=true)/\(B=false->aQ b=false)
theorem zS.next (hl:bW b=some l) (h:zS b l k true) (hk:k<3):zS b l (k+1) (fL l (b.tree k) (aR k)):=by
 refine⟨fun hT j hj=>?_,fun hF=>il fun hB=>?_⟩
 ·by_cases hjk:j=k
  ·subst hjk;exact hT
  ·exact h.1 rfl j af
 ·obtain⟨l',e,ht⟩:=hB.trees
  rw [hl]at e
  simp only [iE]at e
  subst e
  rw [ht k hk]at hF;cases hF
theorem zS.end (hl:bW b=some l) (h:zS b l 3 true) (h1:b.names.length<=16) (h2:0<=b.floor/\b.floor<=1048575) (h3:b.floor%3600=0) (h4:Cy b):aQ b=true:=
 jS ⟨h1,h2.1,h2.2,h3,h4,l,hl,fun k hk=>h.1 rfl k hk⟩
theorem gq (h:bW b=some l):aV l/\dY l:=fI (lC h).1
end
noncomputable def Cs (b:Ba) (names:List ByteArray) (floor:Int) (l:List aA):Bool:=aQ b && decide (b.floor=floor) && decide (b.names=names) && decide (bW b=some l)
theorem Kq {b:Ba} {ns:List ByteArray} {fl:Int} {l m:List aA} (h1:aQ b=true) (h2:b.floor=fl) (h3:b.names=ns) (h4:bW b=some m):Cs b ns fl l=decide (m=l):=by simp [Cs,h1,h2,h3,h4]
end Go.Proofs.YtmljjfhgciaceaaDoor
