/- Texts of mine that come as one: NameR NameMay OpenStr NameB Copy BaseC LawCopies BaseCopy Book BaseMay BaseIs. -/
import Derived.Test.YtmljjfhgciaceaaDoorHd
import Derived.Test.YtmljjfhgciaceaaDoorKG
import Derived.Deep.RegionHeld3
import Derived.Deep.CutBlock
import Derived.Lib.SmallJoins
import Derived.Deep.AppendLies
import Derived.Test.YtmljjfhgciaceaaDoorSX
import Derived.Test.YtmljjfhgciaceaaDoorPA
import Derived.Lib.LazyBuf
import Derived.BigQuiet
import Derived.Deep.QuietTactic
namespace Go.Proofs.YtmljjfhgciaceaaDoor
open Go.RowKit
section
set_option maxHeartbeats 1000000
variable {c:Int} {l:List Int} {k:Nat}
def iM (c:Int):Bool:=decide ((97<=c/\c<=122)\/(48<=c/\c<=57)\/c=46)
theorem Bb (hk:k<l.length) (ha:(l.take k).all iM=true) (hb:iM l[k]=true):(l.take (k+1)).all iM=true:=by
 rw [kK hk,List.all_append,ha];simp [hb]
def nums (s:ByteArray):List Int:=s.data.toList.map fun b=>(b.toNat:Int)
def dL (s:ByteArray):Bool:=decide (1<=s.size/\s.size<=10) && (nums s).all iM
theorem nums_length (s:ByteArray):(nums s).length=s.size:=by simp [nums]
theorem zk (s:ByteArray):∀c∈nums s,0<=c/\c<=255:=by
 intro c hc
 obtain⟨b,_,rfl⟩:=wN.1 hc
 have:=b.toNat_lt
 omega
theorem ah5 (s:ByteArray) (h:k<s.size):(nums s)[k]'(by rw [nums_length];exact h)=((s[k]'h).toNat:Int):=by
 simp [nums];rfl
theorem aiw (h:av c 97 122=true\/av c 48 57=true\/(c != 46)=false):iM c=true:=by
 simp only [acY,bne_eq_false_iff_eq]at h;simp [iM];omega
theorem ajk (h1:¬av c 97 122=true) (h2:¬av c 48 57=true) (h3:(c != 46)=true):iM c=false:=by
 simp only [acY,bne_iff_ne,ne_eq]at h1 h2 h3;simp [iM];omega
theorem ai1 (hk:k<l.length) (hb:iM l[k]=false):l.all iM=false:=by
 rw [Bool.eq_false_iff];intro h
 have:=nK.1 h l[k] (fP hk)
 rw [hb]at this;cases this
theorem aee (s:ByteArray) (w:World) (hs:s.size<=140737488351232):Calls Tryd.prog 44 #[.string s] w fun e w'=>e = .returned (.bool (dL s))/\ah w w':=by
 obtain⟨r,hr⟩:=bt (dL s)
 rw [hr]
 have HR:=hdd hr
 clear hr
 go_enter Tryd.func44,Tryd.ntmps44
 go_wp2_with fail
 go_loopg [3] s.size (fun g i wr=>∃k:Nat,k<=s.size/\g=s.size-k/\i = .int .i64 k/\Hid (((nums s).take k).all iM=true)/\ah w wr)
 case atStart=>exact⟨0,jd _,rfl,rfl,hdd bj,aI _ _⟩
 case round=>
  obtain⟨k,hk,rfl,rfl,HE,hb⟩:=hrel
  by_cases hlt:k<s.size
  ·have hlt':k<(nums s).length:=by rw [nums_length];exact hlt
   have EC:=hdd (ah5 s hlt)
   have q0:=(zk s _ (fP hlt')).1
   have q1:=(zk s _ (fP hlt')).2
   rw [ah5 s hlt]at q0 q1
   have HLT:=hdd hlt'
   clear hlt'
   go_wp2_with (go_at_call 76;refine(ac2 _ _ _ _).mono ?_;rintro e w1 ⟨rfl,rfl⟩)
   all_goals first
    |(go_ret
      refine⟨dP ?_,hb⟩
      rw [<-HR.out]
      simp only [dL,ai1 HLT.out (by rw [EC.out];exact ajk ‹_› ‹_› ‹_›),Bool.and_false])
    |(go_roundg (s.size-(k+1))
      case measure=>omega
      case rel=>exact⟨k+1,af,rfl,by go_num,hdd (Bb HLT.out HE.out (by rw [EC.out];first|exact aiw (.inl ‹_›)|exact aiw (.inr (.inl ‹_›))|exact aiw (.inr (.inr ‹_›)))),hb⟩)
  ·have hfin:(nums s).all iM=true:=by have:=HE.out;rwa [lI (by rw [nums_length];omega)]at this
   have hres:av (s.size:Int) 1 10=r:=by rw [<-HR.out,Bool.eq_iff_iff];simp [dL,av,hfin];omega
   have HF:=hdd hres
   clear hfin hres
   go_wp2_with (go_at_call 76;refine(ac2 _ _ _ _).mono ?_;rintro e w1 ⟨rfl,rfl⟩)
   go_ret
   exact⟨dP HF.out,hb⟩
end
section
set_option maxHeartbeats 1000000
variable {l xs:List Int} {k:Nat} {w:World}
theorem qp (c:Int) (w:World) (h0:0<=c) (h1:c<=255):Calls Tryd.prog 70 #[.int .u8 c] w fun e w'=>e = .returned (.bool (!iM c))/\w=w':=by
 go_enter Tryd.func70,Tryd.ntmps70
 go_wp2
 all_goals (go_ret;refine⟨dP ?_,rfl⟩)
 all_goals (rw [Bool.eq_iff_iff];simp [iM];omega)
def iQ (l:List Int):Int:=if l.all iM then -1 else(l.findIdx (fun c=>!iM c):Nat)
theorem A0 (h:l.all iM=true):iQ l = -1:=by simp [iQ,h]
theorem EK (hk:k<l.length) (ha:(l.take k).all iM=true) (hb:iM l[k]=false):iQ l=k:=by
 have hn:l.all iM=false:=by
  rw [Bool.eq_false_iff];intro h
  have:=nK.1 h l[k] (fP hk)
  rw [hb]at this;cases this
 have:l.findIdx (fun c=>!iM c)=k:=by
  rw [List.findIdx_eq hk]
  refine⟨by simp [hb],fun j hj=>?_⟩
  have:=nK.1 ha l[j] (by rw [List.mem_take_iff_getElem];exact⟨j,af,rfl⟩)
  simp [this]
 simp [iQ,hn,this]
theorem yg:(decide (0<=iQ l)) = !l.all iM:=by
 cases h:l.all iM
 ·simp [iQ,h]
 ·simp [iQ,h]
def CP (n:Int):List Value:=[.int .u8 n]
abbrev C6 (w:World) (v:Value) (xs:List Int):Prop:=dK 1 1 CP w v xs
theorem Kv {wr:World} {b off:Nat} (hb:ah w wr) (hbb:b<w.heap.size)
  (h:∀i x,xs[i]?=some x->∀j u,(CP x)[j]?=some u->w.cell? ⟨b,off+i*1+j,none⟩=some u) (hk:k<xs.length) :
  wr.cell? ⟨b,off+k,none⟩=some (.int .u8 xs[k]):=by
 have:=(hb.cell (p:=⟨b,_,none⟩) hbb).trans (h k xs[k] (by simp [hk]) 0 _ rfl)
 simpa using this
theorem AU {v:Value} (ha:C6 w v xs) (hq:∀c∈xs,0<=c/\c<=255) :
  Calls Tryd.prog 90 #[v, .func (.func 70) #[] #[]] w fun e w'=>e = .returned (.int .i64 (iQ xs))/\w=w':=by
 obtain⟨ao,ca,rfl,a1,a2,a3,a4,a5⟩:=ha
 go_enter Tryd.func90,Tryd.ntmps90
 go_wp2_with fail
 go_loopg [5,8] xs.length (fun g _ i wr=>∃k:Nat,k<=xs.length/\g=xs.length-k/\i = .int .i64 k/\Hid ((xs.take k).all iM=true)/\w=wr)
 case atStart=>exact⟨0,jd _,rfl,rfl,hdd bj,rfl⟩
 case round=>
  obtain⟨k,hk,rfl,rfl,HE,rfl⟩:=hrel
  by_cases hlt:k<xs.length
  ·obtain⟨ab,aV,rfl,sO,ac⟩:=a5 af
   have c0:=Kv (aI _ _) sO ac hlt
   clear ac a5
   obtain⟨q0,q1⟩:=hq _ (fP hlt)
   obtain⟨c,hc⟩:=bt (xs[k])
   rw [hc]at c0 q0 q1
   have EC:=hdd hc
   clear hc
   cases hok:iM c
   ·have hfin:iQ xs=k:=EK hlt HE.out (by rw [EC.out];exact hok)
    have HF:=hdd hfin
    clear hfin
    go_wp2_with (go_at_call 70;refine(qp _ _ af af).mono ?_;rintro e w1 ⟨rfl,rfl⟩)
    go_ret
    exact⟨gZ HF.out.symm,rfl⟩
   ·have HK:=hdd hok
    go_wp2_with (go_at_call 70;refine(qp _ _ af af).mono ?_;rintro e w1 ⟨rfl,rfl⟩)
    go_roundg (xs.length-(k+1))
    case measure=>omega
    case rel=>exact⟨k+1,af,rfl,by go_num,hdd (Bb hlt HE.out (by rw [EC.out];exact HK.out)),rfl⟩
  ·have hfin:iQ xs = -1:=A0 (by have:=HE.out;rwa [lI af]at this)
   have HF:=hdd hfin
   clear hfin
   go_wp2
   go_ret
   exact⟨gZ HF.out.symm,rfl⟩
theorem wF {v:Value} (ha:C6 w v xs) (hq:∀c∈xs,0<=c/\c<=255) :
  Calls Tryd.prog 69 #[v, .func (.func 70) #[] #[]] w fun e w'=>e = .returned (.bool (!xs.all iM))/\w=w':=by
 obtain⟨z,hz⟩:=bt (iQ xs)
 have hres:decide (0<=z) = !xs.all iM:=by rw [<-hz];exact yg
 have HR:=hdd hres
 have h:=AU ha hq
 rw [hz]at h
 have H:=hdd h
 clear h hres hz
 go_enter Tryd.func69,Tryd.ntmps69
 go_wp2_with (go_at_call 90;refine H.out.mono ?_;rintro e w1 ⟨rfl,rfl⟩)
 go_ret
 exact⟨dP HR.out,rfl⟩
end
open Go.ChangeShapes Go.WideShapes Go.ChangeAt Go.Deep
end Go.Proofs.YtmljjfhgciaceaaDoor
namespace Go.Proofs.YtmljjfhgciaceaaDoor
open Go.RowKit
section
set_option maxHeartbeats 1000000
theorem Bq (s:ByteArray):s.toList.length=s.size:=by rw [ByteArray.toList_eq];simp
theorem R9 (s:ByteArray) (cap i:Nat) (h:i<s.size):(bytesRow s cap)[i]?=some (.int .u8 ((nums s)[i]'(by rw [nums_length];exact h))):=by
 have h':i<s.data.size:=h
 simp [bytesRow,nums,Array.getElem?_append,h]
theorem E4 (s:ByteArray) (w:World) (e:TypeId) (m:Nat×Nat) (cap:Nat) (hc:s.size<=cap) (hm:cap<=9223372036854775807) (hs:s.size<=140737488351232) :
  C6 (w.alloc (.cells (bytesRow s cap) e m)).drew (.slice (some ⟨w.heap.size,0,none⟩) s.size cap) (nums s):=by
 refine⟨some ⟨w.heap.size,0,none⟩,cap,by rw [nums_length],by rw [nums_length];exact hc,hm,by rw [nums_length];omega,bj,fun _=>⟨w.heap.size,0,rfl,bj,fun i x hx j u hu=>?_⟩⟩
 obtain⟨hi,rfl⟩:=gJ.1 hx
 rw [nums_length]at hi
 have hj:j=0:=by
  have:=(gJ.1 hu).1
  simp [CP]at this;omega
 subst hj
 simp [CP]at hu
 subst hu
 have e1:(w.alloc (.cells (bytesRow s cap) e m)).drew.heap[w.heap.size]?=some (.cells (bytesRow s cap) e m):=by show (w.heap.push _)[w.heap.size]?=_;simp
 simp only [World.cell?,e1]
 simpa using R9 s cap i hi
theorem uv (s:ByteArray) (w:World) (hs:s.size<=140737488351232):Calls Tryd.prog 39 #[.string s] w fun e w'=>e = .returned (.bool (dL s))/\ah w w':=by
 obtain⟨r,hr⟩:=bt (dL s)
 rw [hr]
 by_cases h0:s.size=0
 ·have hrf:false=r:=by rw [<-hr];simp [dL,h0]
  have HR:=hdd hrf
  have K5:s.toList=[]:=wO (by rw [Bq];exact h0)
  clear hrf hr h0
  go_enter Tryd.func39,Tryd.ntmps39
  go_wp2_with fail
  go_ret
  exact⟨dP HR.out,aI _ _⟩
 ·have aak:¬s.toList=[]:=fun h=>h0 (by rw [<-Bq,h];rfl)
  have K5:s.toList.isEmpty=false:=by simpa using aak
  by_cases h10:s.size<=10
  ·have hcv:=fun w=>run_bytes_of_string (P:=Tryd.prog) w 9 54 5 s Tryd.underlying9 Tryd.underlying54 Tryd.underlying5
   have hrf:(nums s).all iM=r:=by rw [<-hr];simp [dL];intro _;omega
   have HR:=hdd hrf
   have hcap:=grownCap_ge w s.size 0 5
   have Rh:=grownCap_le_maxLen w s.size 0 5 (by unfold maxLen;omega)
   have HC:=hdd (wF (E4 s w 5 ((bytesRow s (grownCap w s.size 0 5)).size,(bytesRow s (grownCap w s.size 0 5)).size+1) _ hcap (by unfold maxLen at Rh;omega) hs) (zk s))
   clear hrf hr hcap Rh
   go_enter Tryd.func39,Tryd.ntmps39
   go_wp2_with (go_at_call 69;refine HC.out.mono ?_;rintro e w1 ⟨rfl,rfl⟩)
   go_ret
   exact⟨dP HR.out,(by repeat (first|exact aI _ _|assumption|refine cJ ?_ _|refine Below.drew ?_|refine Below.alloc ?_ (by simp <;> omega) _|refine Below.setCell ?_ (by simp <;> omega) _))⟩
  ·have hrf:false=r:=by rw [<-hr];simp [dL];omega
   have HR:=hdd hrf
   clear hrf hr
   go_enter Tryd.func39,Tryd.ntmps39
   go_wp2_with fail
   go_ret
   exact⟨dP HR.out,aI _ _⟩
end
section
set_option maxRecDepth 100000
set_option maxHeartbeats 4000000
variable {r0:Int} {xs:List Nd} {rs:List Raw} {us:List Value} {B g k b o M:Nat} {e:TypeId} {w w1 w2 w' W5 wr:World}
theorem vQ {n cap:Nat} (h:w.ownsRow B e 5 (.slice (some ⟨g,0,none⟩) n cap) n (rs.flatMap cI)) (_hn:rs.length=n) (hk:k<rs.length) :
  w.cell? ⟨g,k*5,none⟩=some (.bool rs[k].leaf)/\w.cell? ⟨g,k*5+1,none⟩=some rs[k].ev/\w.cell? ⟨g,k*5+2,none⟩=some rs[k].kv/\w.cell? ⟨g,k*5+3,none⟩=some rs[k].dv/\w.cell? ⟨g,k*5+4,none⟩=some rs[k].bv /\
  ∀o,w.frozen? ⟨g,o,none⟩=false:=by
 obtain⟨hl,⟨h0,_⟩|⟨g',cap',cur,e1,hb,hg,h1,h2,h3,h4⟩⟩:=h
 ·cases h0
 ·cases e1
  have q:∀j u,(cI rs[k])[j]?=some u->w.cell? ⟨g,k*5+j,none⟩=some u:=by
   intro j u hu
   have hf:=yF gh (xs:=rs) (i:=k) (x:=rs[k]) (by simp [hk]) hu
   rw [<-h4,qg]at hf
   split at hf
   ·simp only [World.cell?,hg]
    simpa using hf
   ·cases hf
  exact⟨by simpa using q 0 _ rfl,q 1 _ rfl,q 2 _ rfl,q 3 _ rfl,q 4 _ rfl,fun o=>by simp [World.frozen?,hg]⟩
theorem dE {size n:Nat} {v:Value} (h:w.ownsRow B e size v n us):∃ao cap,v = .slice ao n cap:=by
 obtain⟨_,⟨rfl,rfl⟩|⟨g,cap,cur,rfl,_⟩⟩:=h
 ·exact⟨_,_,rfl⟩
 ·exact⟨_,_,rfl⟩
theorem ow {size n:Nat} {v:Value} (h:w.ownsRow B e size v n us) (hb:b<B) (u:Value):(w.setCell ⟨b,o,none⟩ u).ownsRow B e size v n us:=by
 obtain⟨hl,h|⟨g,cap,cur,rfl,h1,h2,h3⟩⟩:=h
 ·exact⟨hl, .inl h⟩
 ·refine⟨hl, .inr ⟨g,cap,cur,rfl,h1,?_,h3⟩⟩
  have:b≠g:=af
  simp [World.setCell,Array.getElem?_modify,this,h2]
structure Sep (M g:Nat) (w w':World):Prop where
 size:w.heap.size<=w'.heap.size
 block:∀b,M<=b->b<w.heap.size->b≠g->w'.heap[b]?=w.heap[b]?
theorem Sep.refl (M g:Nat) (w:World):Sep M g w w:=⟨km _,fun _ _ _ _=>rfl⟩
theorem Sep.trans (h:Sep M g w w1) (h':Sep M g w1 w2):Sep M g w w2:=
 ⟨ik h.size h'.size,fun b hm hb hg=>(h'.block b hm (mQ hb h.size) hg).trans (h.block b hm hb hg)⟩
theorem Sep.of (h:Below B w w') (hB:w.heap.size<=B):Sep M g w w':=⟨h.size,fun b _ hb _=>h.block b af⟩
theorem Sep.set (h:Sep M g w w') (hb:b=g\/b<M) (u:Value):Sep M g w (w'.setCell ⟨b,o,none⟩ u):=by
 refine⟨by rw [aA];exact h.size,fun j hm hj hg=>?_⟩
 have:b≠j:=af
 rw [<-h.block j hm hj hg]
 simp [World.setCell,Array.getElem?_modify,this]
theorem Sep.drew (h:Sep M g w w'):Sep M g w w'.drew:=⟨h.size,h.block⟩
theorem Dv {size n:Nat} {v:Value} (h:w.ownsRow B e size v n us) (hs:Sep M g w w') (hM:M<=B) (hg:g<B):w'.ownsRow B e size v n us:=by
 obtain⟨hl,h|⟨g',cap,cur,rfl,h1,h2,h3⟩⟩:=h
 ·exact⟨hl, .inl h⟩
 ·exact⟨hl, .inr ⟨g',cap,cur,rfl,h1,(hs.block g' af (eI.1 h2).1 af).trans h2,h3⟩⟩
theorem gu {size n:Nat} {v:Value} (h:w.ownsRow B e size v n us) (hs:ah w w'):w'.ownsRow B e size v n us:=by
 obtain⟨hl,h|⟨g',cap,cur,rfl,h1,h2,h3⟩⟩:=h
 ·exact⟨hl, .inl h⟩
 ·exact⟨hl, .inr ⟨g',cap,cur,rfl,h1,(hs.block g' (eI.1 h2).1).trans h2,h3⟩⟩
structure aM (M:Nat) (w w':World):Prop where
 size:w.heap.size<=w'.heap.size
 block:∀b,M<=b->b<w.heap.size->w'.heap[b]?=w.heap[b]?
theorem aM.refl (M:Nat) (w:World):aM M w w:=⟨km _,fun _ _ _=>rfl⟩
theorem aM.trans (h:aM M w w1) (h':aM M w1 w2):aM M w w2:=
 ⟨ik h.size h'.size,fun b hm hb=>(h'.block b hm (mQ hb h.size)).trans (h.block b hm hb)⟩
theorem aM.of (h:Below B w w') (hB:w.heap.size<=B):aM M w w':=⟨h.size,fun b _ hb=>h.block b af⟩
theorem aM.mono {N:Nat} (h:aM M w w') (hN:M<=N):aM N w w':=⟨h.size,fun b hm hb=>h.block b af hb⟩
theorem aM.set (h:aM M w w') {p:Addr} (hb:p.block<M) (u:Value):aM M w (w'.setCell p u):=by
 refine⟨by rw [aA];exact h.size,fun j hm hj=>?_⟩
 rw [<-h.block j hm hj];exact qd w' p u j af
theorem aM.drew (h:aM M w w'):aM M w w'.drew:=⟨h.size,h.block⟩
theorem aM.sep (h:aM M w w'):Sep M g w w':=⟨h.size,fun b hm hb _=>h.block b hm hb⟩
theorem oY {size n:Nat} {v:Value} (h:w.ownsRow B e size v n us) (hs:aM M w w') (hM:M<=B):w'.ownsRow B e size v n us:=by
 obtain⟨hl,h|⟨g',cap,cur,rfl,h1,h2,h3⟩⟩:=h
 ·exact⟨hl, .inl h⟩
 ·exact⟨hl, .inr ⟨g',cap,cur,rfl,h1,(hs.block g' af (eI.1 h2).1).trans h2,h3⟩⟩
theorem uT {v:Value} {xs:List aC} (h:fu w v xs) (hM:M<=w.heap.size) (hg:g<w.heap.size) (h5:ah W5 w) :
  Calls Tryd.prog 88 #[v] w fun e w'=>∃ao cap,e = .returned (.slice ao xs.length cap)/\ah W5 w'/\(Hid (∀w'',Sep M g w' w''->fu w'' (.slice ao xs.length cap) xs))/\ah w w':=
 (acz h).mono fun e w' ⟨v',e1,h1,h2⟩=>by
  obtain⟨ao,cap,rfl⟩:=dE h1
  exact⟨ao,cap,e1,Below.trans' h5 h2 h5.size,hdd (fun w'' hs=>dK.owned cX (Dv h1 hs hM hg) rfl (by obtain⟨_,_,_,_,_,h,_⟩:=h;exact h)),h2⟩
theorem uS {v:Value} {xs:List Int} (h:gy w v xs) (hM:M<=w.heap.size) (hg:g<w.heap.size) (h5:ah W5 w) :
  Calls Tryd.prog 92 #[v] w fun e w'=>∃ao cap,e = .returned (.slice ao xs.length cap)/\ah W5 w'/\(Hid (∀w'',Sep M g w' w''->gy w'' (.slice ao xs.length cap) xs))/\ah w w':=
 (dU h).mono fun e w' ⟨v',e1,h1,h2⟩=>by
  obtain⟨ao,cap,rfl⟩:=dE h1
  exact⟨ao,cap,e1,Below.trans' h5 h2 h5.size,hdd (fun w'' hs=>dK.owned kG (Dv h1 hs hM hg) rfl (by obtain⟨_,_,_,_,_,h,_⟩:=h;exact h)),h2⟩
structure C4 (w:World) (rs:List Raw) (xs:List Nd) (gv:Value) (r0:Int) (k:Nat) (wr:World):Prop where
 own:∃fO:List Raw,wr.ownsRow (w.heap.size+2) 119 5 gv rs.length (fO.flatMap cI)/\fO.length=rs.length/\(∀(i:Nat) r x,i<k->fO[i]?=some r->xs[i]?=some x->∀g,gv.ownBlock=some g->∀w',Sep (w.heap.size+2) g wr w'->lL w' r x)/\∀i:Nat,k<=i->fO[i]?=rs[i]?
 below:ah w wr
 size:w.heap.size+2<=wr.heap.size
 c0:wr.cell? ⟨w.heap.size,0,none⟩=some gv
 c1:wr.cell? ⟨w.heap.size,1,none⟩=some (.int .i64 r0)
 cf:∀o,wr.frozen? ⟨w.heap.size,o,none⟩=false
 d0:∃u,wr.cell? ⟨w.heap.size+1,0,none⟩=some u
 d1:∃u,wr.cell? ⟨w.heap.size+1,1,none⟩=some u
 df:∀o,wr.frozen? ⟨w.heap.size+1,o,none⟩=false
theorem Kt {wl:World} {fO:List Raw} {gc:Nat} {xk:Nd} (rn:Raw)
  (ho:wr.ownsRow (w.heap.size+2) 119 5 (.slice (some ⟨g,0,none⟩) rs.length gc) rs.length (fO.flatMap cI)) (hl':fO.length=rs.length)
  (hdone:∀(i:Nat) r x,i<k->fO[i]?=some r->xs[i]?=some x->∀g',(Value.slice (some ⟨g,0,none⟩) rs.length gc).ownBlock=some g'->∀w',Sep (w.heap.size+2) g' wr w'->lL w' r x)
  (hrest:∀i:Nat,k<=i->fO[i]?=rs[i]?) (hg1:w.heap.size+2<=g) (hg2:g<wr.heap.size) (hlt:k<rs.length) (hxk:xs[k]?=some xk)
  (cZ:ah w wr) (_hsz:w.heap.size+2<=wr.heap.size) (qx:ah wr W5) (B:ah W5 wl)
  (c0:wr.cell? ⟨w.heap.size,0,none⟩=some (.slice (some ⟨g,0,none⟩) rs.length gc)) (c1:wr.cell? ⟨w.heap.size,1,none⟩=some (.int .i64 r0)) (cf:∀o,wr.frozen? ⟨w.heap.size,o,none⟩=false)
  {u0 u1:Value} (d0:wr.cell? ⟨w.heap.size+1,0,none⟩=some u0) (d1:wr.cell? ⟨w.heap.size+1,1,none⟩=some u1) (df:∀o,wr.frozen? ⟨w.heap.size+1,o,none⟩=false)
  (HN:∀w'',Sep (w.heap.size+2) g wl w''->lL w'' rn xk) :
  C4 w rs xs (.slice (some ⟨g,0,none⟩) rs.length gc) r0 (k+1) (((((wl.setCell ⟨g,k*5,none⟩ (.bool rn.leaf)).setCell ⟨g,k*5+1,none⟩ rn.ev).setCell ⟨g,k*5+2,none⟩ rn.kv).setCell ⟨g,k*5+3,none⟩ rn.dv).setCell ⟨g,k*5+4,none⟩ rn.bv):=by
 have bl:ah wr wl:=Below.trans' qx B qx.size
 obtain⟨wx,hwx⟩:=bP ((((((wl.setCell ⟨g,k*5,none⟩ (.bool rn.leaf)).setCell ⟨g,k*5+1,none⟩ rn.ev).setCell ⟨g,k*5+2,none⟩ rn.kv).setCell ⟨g,k*5+3,none⟩ rn.dv).setCell ⟨g,k*5+4,none⟩ rn.bv))
 have hown:wx.ownsRow (w.heap.size+2) 119 5 (.slice (some ⟨g,0,none⟩) rs.length gc) rs.length ((fO.set k rn).flatMap cI):=by
  rw [hwx];exact pM (gu ho bl) hlt hl'.symm
 have Wd:Sep (w.heap.size+2) g wl wx:=by
  rw [hwx];exact((((((Sep.refl _ _ wl).set (.inl rfl) _).set (.inl rfl) _).set (.inl rfl) _).set (.inl rfl) _).set (.inl rfl) _)
 have K8:ah w wx:=by
  rw [hwx]
  have h0:ah w wl:=Below.trans' cZ bl cZ.size
  exact((((h0.setCell (by simp <;> omega) _).setCell (by simp <;> omega) _).setCell (by simp <;> omega) _).setCell (by simp <;> omega) _).setCell (by simp <;> omega) _
 have hblk:∀b,b<w.heap.size+2->wx.heap[b]?=wr.heap[b]?:=fun b hb=>by
  rw [hwx,<-bl.block b af]
  have:g≠b:=af
  simp [World.setCell,Array.getElem?_modify,this]
 have hcell:∀b o,b<w.heap.size+2->wx.cell? ⟨b,o,none⟩=wr.cell? ⟨b,o,none⟩:=fun b o hb=>World.cell?_of_block (hblk b hb)
 have hfro:∀b o,b<w.heap.size+2->wx.frozen? ⟨b,o,none⟩=wr.frozen? ⟨b,o,none⟩:=fun b o hb=>World.frozen?_of_block (hblk b hb)
 have hsx:wl.heap.size=wx.heap.size:=by rw [hwx];simp
 rw [<-hwx]
 refine⟨⟨fO.set k rn,hown,by simp [hl'],fun i r x hi hr hx g' hg' w' hs=>?_,fun i hi=>?_⟩,K8,?_,?_,?_,fun o=>?_,⟨u0,?_⟩,⟨u1,?_⟩,fun o=>?_⟩
 ·have hgg:g=g':=by simpa [Value.ownBlock] using hg'
  subst hgg
  by_cases hik:i=k
  ·subst hik
   have:r=rn:=by rw [List.getElem?_set_self af]at hr;simpa using hr.symm
   subst this
   rw [hxk]at hx
   injection hx with hx;subst hx
   exact HN w' (Wd.trans hs)
  ·rw [Bc af]at hr
   exact hdone i r x af hr hx g rfl w' (((Sep.of bl aH).trans Wd).trans hs)
 ·rw [Bc af];exact hrest i af
 ·have:=bl.size;omega
 ·rw [hcell _ _ af];exact c0
 ·rw [hcell _ _ af];exact c1
 ·rw [hfro _ _ af];exact cf o
 ·rw [hcell _ _ af];exact d0
 ·rw [hcell _ _ af];exact d1
 ·rw [hfro _ _ af];exact df o
theorem Nx {gv:Value} (h:C4 w rs xs gv r0 k wr) (hk:rs.length<=k) (hl:rs.length=xs.length) (hs:rs.length*104<=140737488351232) (v0 v1:Value) :
  (∀w'',aM w.heap.size ((wr.setCell ⟨w.heap.size+1,0,none⟩ v0).setCell ⟨w.heap.size+1,1,none⟩ v1) w''->bz w'' gv xs)/\ah w ((wr.setCell ⟨w.heap.size+1,0,none⟩ v0).setCell ⟨w.heap.size+1,1,none⟩ v1):=by
 obtain⟨⟨fO,ho,hl',hdone,hrest⟩,cZ,hsz,-,-,-,-,-,-⟩:=h
 refine⟨fun w'' hk'=>?_,?_⟩
 ·have su:aM (w.heap.size+2) wr w'':=((((aM.refl _ wr).set (by show w.heap.size+1<_;omega) v0).set (by show w.heap.size+1<_;omega) v1).trans (hk'.mono af))
  refine⟨fO,dK.owned gh (oY ho su aH) hl'.symm (by rw [hl'];exact hs),af,fun i r x hr hx=>?_⟩
  have hi:=(gJ.1 hr).1
  obtain⟨g,cap2,rfl,hg1,hg2⟩:=ho.form af
  exact hdone i r x af hr hx g rfl _ su.sep
 ·exact(cZ.setCell (by simp <;> omega) _).setCell (by simp <;> omega) _
theorem n9 {nv root:Value} (h:bz w nv xs) (hroot:∃r,root = .int .i64 r) :
  Calls Tryd.prog 72 #[.agg #[nv,root]] w fun e w'=>∃kY,e = .returned (.agg #[kY,root])/\(∀w'',aM w.heap.size w' w''->bz w'' kY xs)/\ah w w':=by
 obtain⟨r0,rfl⟩:=hroot
 obtain⟨rs,hs,hr⟩:=id h
 have hmax:rs.length<=9223372036854775806:=by obtain⟨_,_,_,_,_,h,_⟩:=hs;omega
 obtain⟨ao,cap,rfl⟩:=hs.isSlice
 obtain⟨W0,hW0⟩:=bP ((w.alloc (.cells #[.slice ao rs.length cap, .int .i64 r0] 32)).alloc (.cells #[.slice none 0 0, .int .i64 0] 32))
 have hb0:ah w W0:=by rw [hW0];exact((aI _ w).alloc aH _).alloc bj _
 have HC:=hdd (uR (hs.below hb0 aH) hr.one)
 rw [hW0]at HC
 clear h
 go_enter Tryd.func72,Tryd.ntmps72
 go_wp2_with (go_at_call 91;refine HC.out.mono ?_;rintro e w1 ⟨gv,rfl,hown,hb1⟩;obtain⟨go,gc,rfl⟩:=dE hown;obtain⟨p1,p2,p3⟩:=nj hb1 (B:=w.heap.size) (by simp <;> omega);obtain⟨q1,q2,q3⟩:=nj hb1 (B:=w.heap.size+1) bj)
 have TQ:w.heap.size+2<=w1.heap.size:=by have:=hb1.size;simp at this;omega
 go_loopg [12] rs.length (fun g c wr=>∃k,k<=rs.length/\g=rs.length-k/\c = .int .i64 k/\C4 w rs xs (.slice go rs.length gc) r0 k wr)
 case atStart=>
  refine⟨0,jd _,rfl,rfl,?_⟩
  refine⟨⟨rs,ow (by simpa using hown) af _,rfl,bj,fun i _=>rfl⟩,?_,by simpa [aA] using TQ,?_,?_,?_,?_,?_,?_⟩
  ·refine Below.setCell ?_ (by simp <;> omega) _
   exact Below.trans' (hW0▸hb0) hb1 (by simp <;> omega)
  all_goals first|(go_simp;done)|(simp [p2,p3,q2,q3];done)|(intro o;go_simp;done)|(intro o;simp [p2,p3,q2,q3];done)
 case round=>
  obtain⟨k,hk,rfl,rfl,HI⟩:=hrel
  clear p1 p2 p3 q1 q2 q3 hown hb1 hb0 hW0 HC
  by_cases hlt:k<rs.length
  ·obtain⟨⟨fO,ho,hl',hdone,hrest⟩,cZ,hsz,c0,c1,cf,⟨u0,d0⟩,⟨u1,d1⟩,df⟩:=HI
   obtain⟨g,cap2,hf,hg1,hg2⟩:=ho.form af
   injection hf with hf _ hcap
   subst hf;subst hcap
   obtain⟨rk,Sw⟩:=bt (fO[k]'(by omega))
   obtain⟨e0,e1,e2,e3,e4,ef⟩:=vQ ho hl' (by omega:k<fO.length)
   rw [Sw]at e0 e1 e2 e3 e4
   have Ra:k<xs.length:=by rw [<-hr.1];exact hlt
   obtain⟨xk,hxk⟩:=bt (xs[k])
   have Mz:xs[k]?=some xk:=by rw [<-hxk];simp [Ra]
   have Sv:fO[k]?=some rk:=by rw [<-Sw];simp
   have hN:lL w rk xk:=hr.2 k rk xk ((hrest k aH)▸Sv) Mz
   clear Sw
   obtain⟨lf,ev,kv,dv,bv⟩:=rk
   obtain⟨Ox,hE,hK,hD,hB⟩:=hN
   obtain⟨a1,n1,rfl⟩:=hE.isSlice
   obtain⟨a2,n2,rfl⟩:=hK.isSlice
   obtain⟨a3,n3,rfl⟩:=hD.isSlice
   obtain⟨a4,n4,rfl⟩:=hB.isSlice
   simp only at e0 e1 e2 e3 e4 Ox hE hK hD hB
   go_upto_block 1 with (fail)
   go_cut [] (fun wx=>C4 w rs xs (.slice (some ⟨g,0,none⟩) rs.length gc) r0 (k+1) wx)
   case first=>
    go_upto_region 5 with (fail)
    obtain⟨W5,mN⟩:=bP (wr.alloc (.cells #[Value.bool xk.leaf,Value.slice a1 xk.aF.length n1,Value.slice a2 xk.keys.length n2,Value.slice a3 xk.kids.length n3,Value.slice a4 xk.buf.length n4] 119))
    have qx:ah wr W5:=by rw [mN];exact(aI _ _).alloc aH _
    have z5:W5.heap.size=wr.heap.size+1:=by rw [mN];simp
    have n0:W5.heap[wr.heap.size]?=some (.cells #[Value.bool xk.leaf,Value.slice a1 xk.aF.length n1,Value.slice a2 xk.keys.length n2,Value.slice a3 xk.kids.length n3,Value.slice a4 xk.buf.length n4] 119):=by rw [mN];show (wr.heap.push _)[wr.heap.size]?=_;simp
    rw [<-mN]
    have hn5:∀w',ah W5 w'->w'.heap[wr.heap.size]?=some (.cells #[Value.bool xk.leaf,Value.slice a1 xk.aF.length n1,Value.slice a2 xk.keys.length n2,Value.slice a3 xk.kids.length n3,Value.slice a4 xk.buf.length n4] 119):=fun w' hb=>(hb.block _ af).trans n0
    have hS:∀w',ah W5 w'->w'.cell? ⟨w.heap.size,0,none⟩=some (.slice (some ⟨g,0,none⟩) rs.length gc)/\w'.cell? ⟨wr.heap.size,0,none⟩=some (.bool xk.leaf)/\w'.cell? ⟨wr.heap.size,1,none⟩=some (.slice a1 xk.aF.length n1)/\w'.cell? ⟨wr.heap.size,2,none⟩=some (.slice a2 xk.keys.length n2)/\w'.cell? ⟨wr.heap.size,3,none⟩=some (.slice a3 xk.kids.length n3)/\w'.cell? ⟨wr.heap.size,4,none⟩=some (.slice a4 xk.buf.length n4):=fun w' hb=>by
     have hh:=hn5 w' hb
     refine⟨?_,by simp [World.cell?,hh],by simp [World.cell?,hh],by simp [World.cell?,hh],by simp [World.cell?,hh],by simp [World.cell?,hh]⟩
     rw [(Below.trans' qx hb qx.size).cell (p:=⟨w.heap.size,0,none⟩) (by show w.heap.size<wr.heap.size;omega)];exact c0
    have hG:∀w',ah W5 w'->w'.cell? ⟨g,k*5,none⟩=some (.bool lf)/\w'.cell? ⟨g,k*5+1,none⟩=some (.slice a1 xk.aF.length n1)/\w'.cell? ⟨g,k*5+2,none⟩=some (.slice a2 xk.keys.length n2)/\w'.cell? ⟨g,k*5+3,none⟩=some (.slice a3 xk.kids.length n3)/\w'.cell? ⟨g,k*5+4,none⟩=some (.slice a4 xk.buf.length n4)/\∀o,w'.frozen? ⟨g,o,none⟩=false:=fun w' hb=>by
     have bb:=Below.trans' qx hb qx.size
     exact⟨(bb.cell (p:=⟨g,_,none⟩) hg2).trans e0,(bb.cell (p:=⟨g,_,none⟩) hg2).trans e1,(bb.cell (p:=⟨g,_,none⟩) hg2).trans e2,(bb.cell (p:=⟨g,_,none⟩) hg2).trans e3,(bb.cell (p:=⟨g,_,none⟩) hg2).trans e4,fun o=>(bb.frozen (p:=⟨g,_,none⟩) hg2).trans (ef o)⟩
    have K9:∀w',ah W5 w'->ah w w':=fun w' hb=>Below.trans' cZ (Below.trans' qx hb qx.size) cZ.size
    have ek:=fun w' (hb:ah W5 w')=>uT (M:=w.heap.size+2) (g:=g) (hE.below (K9 w' hb) aH) (by have:=hb.size;omega) (by have:=hb.size;omega) hb
    have hcK:=fun w' (hb:ah W5 w')=>uS (M:=w.heap.size+2) (g:=g) (hK.below (K9 w' hb) aH) (by have:=hb.size;omega) (by have:=hb.size;omega) hb
    have hcD:=fun w' (hb:ah W5 w')=>uS (M:=w.heap.size+2) (g:=g) (hD.below (K9 w' hb) aH) (by have:=hb.size;omega) (by have:=hb.size;omega) hb
    have hcB:=fun w' (hb:ah W5 w')=>uT (M:=w.heap.size+2) (g:=g) (hB.below (K9 w' hb) aH) (by have:=hb.size;omega) (by have:=hb.size;omega) hb
    have B0:ah W5 W5.drew:=(aI _ _).drew
    have GQ:w.heap.size≠g:=af
    have SR:wr.heap.size≠g:=af
    have ey:∀(b:Nat),b≠g->∀(w':World) (o:Nat) (v:Value) (o':Nat),(w'.setCell ⟨g,o,none⟩ v).cell? ⟨b,o',none⟩=w'.cell? ⟨b,o',none⟩:=fun b hb w' o v o'=>World.cell?_of_block (by have:g≠b:=Ne.symm hb;simp [World.setCell,Array.getElem?_modify,this])
    have zC:=ey _ GQ
    have Wc:=ey _ SR
    clear ey
    have hstep:=hdd (fun wl (B:ah W5 wl) rn (HN:∀w'',Sep (w.heap.size+2) g wl w''->lL w'' rn xk)=>Kt rn ho hl' hdone hrest hg1 hg2 hlt Mz cZ hsz qx B c0 c1 cf d0 d1 df HN)
    clear hr hs cZ hsz ho hl' hdone hrest e0 e1 e2 e3 e4 ef c0 c1 cf d0 d1 df hE hK hD hB qx z5 n0 hn5 K9 mN
    go_region_held3 (fun w'=>w'.cell? ⟨w.heap.size,0,none⟩=some (.slice (some ⟨g,0,none⟩) rs.length gc)/\w'.cell? ⟨wr.heap.size,0,none⟩=some (.bool xk.leaf)/\w'.cell? ⟨wr.heap.size,1,none⟩=some (.slice a1 xk.aF.length n1)/\w'.cell? ⟨wr.heap.size,2,none⟩=some (.slice a2 xk.keys.length n2)/\w'.cell? ⟨wr.heap.size,3,none⟩=some (.slice a3 xk.kids.length n3)/\w'.cell? ⟨wr.heap.size,4,none⟩=some (.slice a4 xk.buf.length n4))
     (first|exact hS _ (by assumption)|(simp only [zC,Wc];exact hS _ (by assumption)))
     (first
      |(go_at_call 88;refine(ek _ ?_).mono ?_;(assumption);rintro e wE ⟨aE,cE,rfl,BE,HE,bE⟩;obtain⟨x0,x1,x2,x3,x4,xf⟩:=hG _ BE)
      |(go_at_call 92;refine(hcK _ ?_).mono ?_;(assumption);rintro e wK ⟨aK,cK,rfl,BK,HK,bK⟩;obtain⟨x0,x1,x2,x3,x4,xf⟩:=hG _ BK)
      |(go_at_call 92;refine(hcD _ ?_).mono ?_;(assumption);rintro e wD ⟨aD,cD,rfl,BD,HD,bD⟩;obtain⟨x0,x1,x2,x3,x4,xf⟩:=hG _ BD)
      |(go_at_call 88;refine(hcB _ ?_).mono ?_;(assumption);rintro e wB ⟨aB,cB,rfl,BB,HB,bB⟩;obtain⟨x0,x1,x2,x3,x4,xf⟩:=hG _ BB))
    all_goals
     go_wp2_with fail
     go_meet
     exact hstep.out _ (by assumption) ⟨xk.leaf,_,_,_,_⟩ (fun w'' hs=>⟨rfl,HE.out _ (Sep.trans (by first|exact Sep.refl _ _ _|exact Sep.of (by assumption) aH|(refine Sep.trans (Sep.of (by assumption) aH) ?_;first|exact Sep.of (by assumption) aH|(refine Sep.trans (Sep.of (by assumption) aH) ?_;exact Sep.of (by assumption) aH))) hs),HK.out _ (Sep.trans (by first|exact Sep.refl _ _ _|exact Sep.of (by assumption) aH|(refine Sep.trans (Sep.of (by assumption) aH) ?_;first|exact Sep.of (by assumption) aH|(refine Sep.trans (Sep.of (by assumption) aH) ?_;exact Sep.of (by assumption) aH))) hs),HD.out _ (Sep.trans (by first|exact Sep.refl _ _ _|exact Sep.of (by assumption) aH|(refine Sep.trans (Sep.of (by assumption) aH) ?_;first|exact Sep.of (by assumption) aH|(refine Sep.trans (Sep.of (by assumption) aH) ?_;exact Sep.of (by assumption) aH))) hs),HB.out _ (Sep.trans (by first|exact Sep.refl _ _ _|exact Sep.of (by assumption) aH|(refine Sep.trans (Sep.of (by assumption) aH) ?_;first|exact Sep.of (by assumption) aH|(refine Sep.trans (Sep.of (by assumption) aH) ?_;exact Sep.of (by assumption) aH))) hs)⟩)
   case rest=>
    go_wp2
    go_roundg (rs.length-(k+1))
    case measure=>omega
    case rel=>exact⟨k+1,af,rfl,by go_num,hcut⟩
  ·have hkk:rs.length<=k:=af
   have HE:=hdd (Nx HI hkk hr.1 (by obtain⟨_,_,_,_,_,h,_⟩:=hs;exact h))
   obtain⟨-,-,-,c0,c1,cf,⟨u0,d0⟩,⟨u1,d1⟩,df⟩:=HI
   clear hr hs TQ
   go_wp2
   exact bodyPost_ret (v:= .agg #[.slice go rs.length gc, .int .i64 r0]) (by simp [results,Tryd.results72,d0,d1,go_sem]) rfl ⟨_,rfl,HE.out _ _⟩
end
section
set_option maxRecDepth 100000
set_option maxHeartbeats 1000000
def jg (s:ByteArray):List Value:=[.string s]
theorem kF (s:ByteArray):(jg s).length=1:=rfl
theorem BR (xs:List ByteArray):∀u∈xs.flatMap jg,u.oneCell'=true:=by
 intro u hu
 obtain⟨x,_,hx⟩:=List.mem_flatMap.1 hu
 simp [jg]at hx
 subst hx;rfl
theorem Tryd.VY:(Tryd.prog.info? 9).map (fun i=>(i.zero.map (fun z=>z.cells.size),i.size,i.bytes))=some (some 1,1,16):=bT
abbrev jN (w:World) (v:Value) (xs:List ByteArray):Prop:=dK 1 16 jg w v xs
def bO (w:World) (v:Value) (b:Ba):Prop:=∃nv a0 a1 a2,v = .agg #[nv,a0, .int .i64 b.t0.root,a1, .int .i64 b.t1.root,a2, .int .i64 b.t2.root, .int .i64 b.floor]/\jN w nv b.names/\bz w a0 b.t0.nodes/\bz w a1 b.t1.nodes/\bz w a2 b.t2.nodes
theorem uQ {v:Value} {xs:List ByteArray} {w:World} (h:dK 1 16 jg w v xs) :
  Calls Tryd.prog 71 #[v] w fun e w'=>∃v',e = .returned v'/\w'.ownsRow w.heap.size 9 1 v' xs.length (xs.flatMap jg)/\ah w w':=by
 obtain⟨ao,cap,rfl,h1,h2,h3,h4,h5⟩:=id h
 have hnil:∀w,(binOp .eql 29 (.slice ao xs.length cap) (.slice none 0 0)).run Tryd.prog w = .ok (.bool ao.isNone) w:=fun w=>Lib.run_eql_slice_nil w _ _ _ _ _ _ _ Tryd.underlying29
 cases ao with
 |none=>
  have h0:xs.length=0:=by have:=h4 rfl;omega
  obtain rfl:=wO h0
  obtain rfl:cap=0:=h4 rfl
  clear h4 h5
  simp only [Option.isNone_none,List.length_nil]at hnil
  go_enter Tryd.func71,Tryd.ntmps71
  go_wp2_with fail
  go_ret
  exact⟨_,rfl,World.ownsRow_nil _ _ _ _,aI _ _⟩
 |some ad=>
  obtain⟨_,g1,g2⟩:=h.news (kF)
  obtain⟨i0,z,hi,hz,hz1,hz2,hz3⟩:=cj Tryd.VY
  simp only [Option.isNone_some]at hnil
  have hown0:(w.alloc (.cells #[] 9)).ownsRow w.heap.size 9 1 (.slice (some ⟨w.heap.size,0,none⟩) 0 0) 0 []:=World.ownsRow_made w #[] 0 aH (by simp [maxLen]) bj
  clear h4 h5
  go_enter Tryd.func71,Tryd.ntmps71
  go_wp2_with (at_builtin;refine wpList_append_own _ rfl _ _ 29 rfl w.heap.size 9 i0 z 1 16 Tryd.underlying29 hi hz hz1 hz2 hz3 aW _ _ _ rfl hown0 ad xs.length cap (xs.flatMap jg) rfl g1 (fun j u hj=>nu (g2 j u hj)) (BR xs) (by unfold maxLen;omega) af bj ?_;intro v' w3 hown' hgrow hv)
  go_ret
  exact⟨v',rfl,by simpa using hown',Below.grown ((aI _ _).alloc aH _) hgrow bj (fun j hj=>(hown0.lt j hj).1)⟩
end
theorem aa9 {w:World} {v:Value} {xs:List Nd} (h:bz w v xs):∃ao n cap,v = .slice ao n cap:=by
 obtain⟨rs,hs,_⟩:=h;obtain⟨a,c,h⟩:=hs.isSlice;exact⟨a,_,c,h⟩
section
set_option maxRecDepth 100000
set_option maxHeartbeats 1000000
variable {b:Ba} {M k:Nat} {nv a0 a1 a2 a':Value} {w wr w5:World}
theorem LY {B C size n:Nat} {e:TypeId} {v:Value} {us:List Value} (h:w.ownsRow B e size v n us) (hC:C<=B):w.ownsRow C e size v n us:=by
 obtain⟨hl,⟨rfl,h0⟩|⟨g,cap,cur,rfl,hB,hg,h1,h2,h3,h4⟩⟩:=h
 ·exact⟨hl, .inl ⟨rfl,h0⟩⟩
 ·exact⟨hl, .inr ⟨g,cap,cur,rfl,af,hg,h1,h2,h3,h4⟩⟩
structure tT (w:World) (nv:Value) (b:Ba) (a0 a1 a2:Value) (M:Nat) (k:Nat) (wr:World):Prop where
 below:ah w wr
 size:w.heap.size+2<=wr.heap.size
 low:w.heap.size+2<=M
 high:M<=wr.heap.size
 lt:∀b,nv.ownBlock=some b->b<M
 box:wr.heap[w.heap.size]?=some (.cells #[nv,a0, .int .i64 b.t0.root,a1, .int .i64 b.t1.root,a2, .int .i64 b.t2.root, .int .i64 b.floor] 35)
 res:wr.heap[w.heap.size+1]?=some (.cells #[.slice none 0 0, .slice none 0 0, .int .i64 0, .slice none 0 0, .int .i64 0, .slice none 0 0, .int .i64 0, .int .i64 0] 35)
 names:∀w'',aM (w.heap.size+2) wr w''->jN w'' nv b.names
 own:∀w'',aM (w.heap.size+2) wr w''->w''.ownsRow (w.heap.size+2) 9 1 nv b.names.length (b.names.flatMap jg)
 n0:∀w'',(k<=0->ah w w'')->aM M wr w''->bz w'' a0 b.t0.nodes
 n1:∀w'',(k<=1->ah w w'')->aM M wr w''->bz w'' a1 b.t1.nodes
 n2:∀w'',(k<=2->ah w w'')->aM M wr w''->bz w'' a2 b.t2.nodes
theorem tT.step0 (h:tT w nv b a0 a1 a2 M 0 wr) (cu:ah wr w5) (HK:∀w'',aM wr.heap.size w5 w''->bz w'' a' b.t0.nodes) :
  tT w nv b a' a1 a2 M 1 ((w5.setCell ⟨w.heap.size,1,none⟩ a').setCell ⟨w.heap.size,2,none⟩ (.int .i64 b.t0.root)):=by
 have hsz:=h.size
 have hs5:=cu.size
 have hb:ah w w5:=Below.trans' h.below cu h.below.size
 have hp:w.heap.size<w.heap.size+2:=af
 have K0:aM (w.heap.size+2) wr ((w5.setCell ⟨w.heap.size,1,none⟩ a').setCell ⟨w.heap.size,2,none⟩ (.int .i64 b.t0.root)):=((aM.of cu aH).set hp _).set hp _
 have qz:=h.low
 have Rb:=h.high
 refine⟨(by repeat (first|with_reducible exact aI _ _|with_reducible assumption|with_reducible refine cJ ?_ _|with_reducible refine Below.drew ?_|with_reducible refine Below.alloc ?_ (by first|omega|(simp;done)|(simp;omega)) _|with_reducible refine Below.setCell ?_ (by first|omega|(simp;done)|(simp;omega)) _)),by simp;omega,qz,by simp;omega,h.lt,?_,?_,fun w'' hk=>h.names w'' (K0.trans hk),fun w'' hk=>h.own w'' (K0.trans hk),fun w'' hb hk=>HK w'' (((((aM.refl _ _).set hp _).set hp _).mono qz).trans hk |>.mono h.high),fun w'' hb hk=>h.n1 w'' (fun _=>hb aW) ((K0.mono qz).trans hk),fun w'' hb hk=>h.n2 w'' (fun _=>hb aW) ((K0.mono qz).trans hk)⟩
 ·have h0:=heap_setCell_same (off:=2) (v:= .int .i64 b.t0.root) (heap_setCell_same (off:=1) (v:=a') ((cu.block _ af).trans h.box))
  simpa using h0
 ·rw [qd _ _ _ _ (by show w.heap.size+1≠w.heap.size;omega),qd _ _ _ _ (by show w.heap.size+1≠w.heap.size;omega)]
  exact(cu.block _ af).trans h.res
theorem tT.Dh (h:tT w nv b a0 a1 a2 M 1 wr) (cu:ah wr w5) (HK:∀w'',aM wr.heap.size w5 w''->bz w'' a' b.t1.nodes) :
  tT w nv b a0 a' a2 M 2 ((w5.setCell ⟨w.heap.size,3,none⟩ a').setCell ⟨w.heap.size,4,none⟩ (.int .i64 b.t1.root)):=by
 have hsz:=h.size
 have hs5:=cu.size
 have hb:ah w w5:=Below.trans' h.below cu h.below.size
 have hp:w.heap.size<w.heap.size+2:=af
 have K0:aM (w.heap.size+2) wr ((w5.setCell ⟨w.heap.size,3,none⟩ a').setCell ⟨w.heap.size,4,none⟩ (.int .i64 b.t1.root)):=((aM.of cu aH).set hp _).set hp _
 have qz:=h.low
 have Rb:=h.high
 refine⟨(by repeat (first|with_reducible exact aI _ _|with_reducible assumption|with_reducible refine cJ ?_ _|with_reducible refine Below.drew ?_|with_reducible refine Below.alloc ?_ (by first|omega|(simp;done)|(simp;omega)) _|with_reducible refine Below.setCell ?_ (by first|omega|(simp;done)|(simp;omega)) _)),by simp;omega,qz,by simp;omega,h.lt,?_,?_,fun w'' hk=>h.names w'' (K0.trans hk),fun w'' hk=>h.own w'' (K0.trans hk),fun w'' _ hk=>h.n0 w'' (fun h=>absurd h aW) ((K0.mono qz).trans hk),fun w'' hb hk=>HK w'' (((((aM.refl _ _).set hp _).set hp _).mono qz).trans hk |>.mono h.high),fun w'' hb hk=>h.n2 w'' (fun _=>hb aW) ((K0.mono qz).trans hk)⟩
 ·have h0:=heap_setCell_same (off:=4) (v:= .int .i64 b.t1.root) (heap_setCell_same (off:=3) (v:=a') ((cu.block _ af).trans h.box))
  simpa using h0
 ·rw [qd _ _ _ _ (by show w.heap.size+1≠w.heap.size;omega),qd _ _ _ _ (by show w.heap.size+1≠w.heap.size;omega)]
  exact(cu.block _ af).trans h.res
theorem tT.Dg (h:tT w nv b a0 a1 a2 M 2 wr) (cu:ah wr w5) (HK:∀w'',aM wr.heap.size w5 w''->bz w'' a' b.t2.nodes) :
  tT w nv b a0 a1 a' M 3 ((w5.setCell ⟨w.heap.size,5,none⟩ a').setCell ⟨w.heap.size,6,none⟩ (.int .i64 b.t2.root)):=by
 have hsz:=h.size
 have hs5:=cu.size
 have hb:ah w w5:=Below.trans' h.below cu h.below.size
 have hp:w.heap.size<w.heap.size+2:=af
 have K0:aM (w.heap.size+2) wr ((w5.setCell ⟨w.heap.size,5,none⟩ a').setCell ⟨w.heap.size,6,none⟩ (.int .i64 b.t2.root)):=((aM.of cu aH).set hp _).set hp _
 have qz:=h.low
 have Rb:=h.high
 refine⟨(by repeat (first|with_reducible exact aI _ _|with_reducible assumption|with_reducible refine cJ ?_ _|with_reducible refine Below.drew ?_|with_reducible refine Below.alloc ?_ (by first|omega|(simp;done)|(simp;omega)) _|with_reducible refine Below.setCell ?_ (by first|omega|(simp;done)|(simp;omega)) _)),by simp;omega,qz,by simp;omega,h.lt,?_,?_,fun w'' hk=>h.names w'' (K0.trans hk),fun w'' hk=>h.own w'' (K0.trans hk),fun w'' _ hk=>h.n0 w'' (fun h=>absurd h aW) ((K0.mono qz).trans hk),fun w'' _ hk=>h.n1 w'' (fun h=>absurd h aW) ((K0.mono qz).trans hk),fun w'' hb hk=>HK w'' (((((aM.refl _ _).set hp _).set hp _).mono qz).trans hk |>.mono h.high)⟩
 ·have h0:=heap_setCell_same (off:=6) (v:= .int .i64 b.t2.root) (heap_setCell_same (off:=5) (v:=a') ((cu.block _ af).trans h.box))
  simpa using h0
 ·rw [qd _ _ _ _ (by show w.heap.size+1≠w.heap.size;omega),qd _ _ _ _ (by show w.heap.size+1≠w.heap.size;omega)]
  exact(cu.block _ af).trans h.res
theorem tT.cells (h:tT w nv b a0 a1 a2 M k wr):wr.cell? ⟨w.heap.size,0,none⟩=some nv/\wr.cell? ⟨w.heap.size,1,none⟩=some a0/\wr.cell? ⟨w.heap.size,2,none⟩=some (.int .i64 b.t0.root)/\wr.cell? ⟨w.heap.size,3,none⟩=some a1/\wr.cell? ⟨w.heap.size,4,none⟩=some (.int .i64 b.t1.root)/\wr.cell? ⟨w.heap.size,5,none⟩=some a2/\wr.cell? ⟨w.heap.size,6,none⟩=some (.int .i64 b.t2.root)/\wr.cell? ⟨w.heap.size,7,none⟩=some (.int .i64 b.floor)/\∀o,wr.frozen? ⟨w.heap.size,o,none⟩=false:=by
 simp [World.cell?,World.frozen?,h.box]
theorem tT.Gc (h:tT w nv b a0 a1 a2 M k wr):wr.cell? ⟨w.heap.size+1,0,none⟩=some (.slice none 0 0)/\wr.cell? ⟨w.heap.size+1,1,none⟩=some (.slice none 0 0)/\wr.cell? ⟨w.heap.size+1,2,none⟩=some (.int .i64 0)/\wr.cell? ⟨w.heap.size+1,3,none⟩=some (.slice none 0 0)/\wr.cell? ⟨w.heap.size+1,4,none⟩=some (.int .i64 0)/\wr.cell? ⟨w.heap.size+1,5,none⟩=some (.slice none 0 0)/\wr.cell? ⟨w.heap.size+1,6,none⟩=some (.int .i64 0)/\wr.cell? ⟨w.heap.size+1,7,none⟩=some (.int .i64 0)/\∀o,wr.frozen? ⟨w.heap.size+1,o,none⟩=false:=by
 simp [World.cell?,World.frozen?,h.res]
theorem oF {v:Value} (h:bO w v b) :
  Calls Tryd.prog 40 #[v] w fun e w'=>ah w w'/\∃sa sc g0 l0 p0 g1 l1 p1 g2 l2 p2,e = .returned (.agg #[.slice sa b.names.length sc, .slice g0 l0 p0, .int .i64 b.t0.root, .slice g1 l1 p1, .int .i64 b.t1.root, .slice g2 l2 p2, .int .i64 b.t2.root, .int .i64 b.floor]) /\
   w'.ownsRow (w.heap.size+2) 9 1 (.slice sa b.names.length sc) b.names.length (b.names.flatMap jg)/\∃M,w.heap.size+2<=M/\M<=w'.heap.size/\(∀b',(Value.slice sa b.names.length sc).ownBlock=some b'->b'<M) /\
   (∀w'',aM M w' w''->bz w'' (.slice g0 l0 p0) b.t0.nodes/\bz w'' (.slice g1 l1 p1) b.t1.nodes/\bz w'' (.slice g2 l2 p2) b.t2.nodes)/\∀w'',aM (w.heap.size+2) w' w''->bO w'' (.agg #[.slice sa b.names.length sc, .slice g0 l0 p0, .int .i64 b.t0.root, .slice g1 l1 p1, .int .i64 b.t1.root, .slice g2 l2 p2, .int .i64 b.t2.root, .int .i64 b.floor]) b:=by
 obtain⟨nv,a0,a1,a2,rfl,hs,h0,h1,h2⟩:=h
 obtain⟨sa,sn,sc,rfl⟩:∃a n c,nv = .slice a n c:=by obtain⟨a,c,h⟩:=hs.isSlice;exact⟨a,_,c,h⟩
 obtain⟨g0,l0,p0,rfl⟩:=aa9 h0
 obtain⟨g1,l1,p1,rfl⟩:=aa9 h1
 obtain⟨g2,l2,p2,rfl⟩:=aa9 h2
 have HC:=hdd fun w' (hb:ah w w')=>uQ (hs.below hb aH)
 obtain⟨W0,hW0⟩:=bP ((w.alloc (.cells #[.slice sa sn sc, .slice g0 l0 p0, .int .i64 b.t0.root, .slice g1 l1 p1, .int .i64 b.t1.root, .slice g2 l2 p2, .int .i64 b.t2.root, .int .i64 b.floor] 35)).alloc (.cells #[.slice none 0 0, .slice none 0 0, .int .i64 0, .slice none 0 0, .int .i64 0, .slice none 0 0, .int .i64 0, .int .i64 0] 35))
 have hb0:ah w W0:=by rw [hW0];exact(by repeat (first|with_reducible exact aI _ _|with_reducible assumption|with_reducible refine cJ ?_ _|with_reducible refine Below.drew ?_|with_reducible refine Below.alloc ?_ (by first|omega|(simp;done)|(simp;omega)) _|with_reducible refine Below.setCell ?_ (by first|omega|(simp;done)|(simp;omega)) _))
 have hz0:W0.heap.size=w.heap.size+2:=by rw [hW0];simp
 have k0:W0.heap[w.heap.size]?=some (.cells #[.slice sa sn sc, .slice g0 l0 p0, .int .i64 b.t0.root, .slice g1 l1 p1, .int .i64 b.t1.root, .slice g2 l2 p2, .int .i64 b.t2.root, .int .i64 b.floor] 35):=by
  rw [hW0,kW _ _ _ bj];exact aj _ _ rfl
 have k1:W0.heap[w.heap.size+1]?=some (.cells #[.slice none 0 0, .slice none 0 0, .int .i64 0, .slice none 0 0, .int .i64 0, .slice none 0 0, .int .i64 0, .int .i64 0] 35):=by
  rw [hW0];exact aj _ _ bj
 have q0:W0.cell? ⟨w.heap.size,0,none⟩=some (.slice sa sn sc):=by simp [World.cell?,k0]
 have qf:∀o,W0.frozen? ⟨w.heap.size,o,none⟩=false:=fun o=>by simp [World.frozen?,k0]
 go_enter Tryd.func40,Tryd.ntmps40
 go_upto_region 1 with (fail)
 rw [<-hW0]
 clear hW0
 go_upto_region 2 with ((go_at_call 71;(with_reducible refine(HC.out _ hb0).mono ?_);rintro e w1 ⟨kY,rfl,hown,hb1⟩;obtain⟨s',c',rfl⟩:=dE hown;obtain⟨Pz,Sk,Sj⟩:=nj hb1 (B:=w.heap.size) af))
 obtain⟨W2,hW2⟩:=bP (w1.setCell ⟨w.heap.size,0,none⟩ (.slice s' b.names.length c'))
 have hst:tT w (.slice s' b.names.length c') b (.slice g0 l0 p0) (.slice g1 l1 p1) (.slice g2 l2 p2) w1.heap.size 0 W2:=by
  have cZ:ah w w1:=Below.trans' hb0 hb1 hb0.size
  have hs1:=hb1.size
  rw [hW2]
  refine⟨(by repeat (first|with_reducible exact aI _ _|with_reducible assumption|with_reducible refine cJ ?_ _|with_reducible refine Below.drew ?_|with_reducible refine Below.alloc ?_ (by first|omega|(simp;done)|(simp;omega)) _|with_reducible refine Below.setCell ?_ (by first|omega|(simp;done)|(simp;omega)) _)),by simp;omega,af,bj,fun b hb=>(hown.lt b hb).2,?_,?_,fun w'' hk=>?_,fun w'' hk=>oY (LY hown af) (((aM.refl _ _).set (by show w.heap.size<w.heap.size+2;omega) _).trans hk) aH,fun w'' hb _=>h0.below (hb aW) aH,fun w'' hb _=>h1.below (hb aW) aH,fun w'' hb _=>h2.below (hb aW) aH⟩
  ·have h0:=heap_setCell_same (off:=0) (v:= .slice s' b.names.length c') ((hb1.block _ af).trans k0)
   simpa using h0
  ·rw [qd _ _ _ _ (by show w.heap.size+1≠w.heap.size;omega)]
   exact(hb1.block _ af).trans k1
  ·refine dK.owned kF (oY hown (((aM.refl _ _).set (by show w.heap.size<w.heap.size+2;omega) _).trans hk) af) rfl ?_
   obtain⟨_,_,_,_,_,h,_⟩:=hs;exact h
 rw [<-hW2]
 have HST:=hdd hst
 clear hst hW2 k0 k1 q0 qf hown hb1 Pz Sk Sj HC h0 h1 h2 hs
 go_wp2_with fail
 go_loopg [8] 3 (fun g i wr=>∃(k:Nat) (a0 a1 a2:Value),k<=3/\g=3-k/\i = .int .i64 k/\Hid (tT w (.slice s' b.names.length c') b a0 a1 a2 w1.heap.size k wr))
 case atStart=>exact⟨0,_,_,_,af,rfl,rfl,HST⟩
 case round=>
  obtain⟨k,a0,a1,a2,hk,rfl,rfl,HB⟩:=hrel
  obtain⟨g0,l0,p0,rfl⟩:=aa9 (HB.out.n0 wr (fun _=>HB.out.below) (aM.refl _ _))
  obtain⟨g1,l1,p1,rfl⟩:=aa9 (HB.out.n1 wr (fun _=>HB.out.below) (aM.refl _ _))
  obtain⟨g2,l2,p2,rfl⟩:=aa9 (HB.out.n2 wr (fun _=>HB.out.below) (aM.refl _ _))
  obtain⟨c0,c1,c2,c3,c4,c5,c6,c7,cf⟩:=HB.out.cells
  have hsz:=HB.out.size
  by_cases hlt:k<3
  ·obtain rfl|rfl|rfl:k=0\/k=1\/k=2:=af
   ·have HT:=hdd (n9 (root:= .int .i64 b.t0.root) (HB.out.n0 wr (fun _=>HB.out.below) (aM.refl _ _)) ⟨_,rfl⟩)
    go_wp2_with ((go_at_call 72;(with_reducible refine HT.out.mono ?_);rintro e w5 ⟨a',rfl,HK,cu⟩;obtain⟨g',l',p',rfl⟩:=aa9 (HK w5 (aM.refl _ _));obtain⟨Pz,Sk,Sj⟩:=nj cu (B:=w.heap.size) af))
    go_roundg 2
    case measure=>omega
    case rel=>exact⟨1,(.slice g' l' p'),(.slice g1 l1 p1),(.slice g2 l2 p2),af,rfl,by go_num,hdd (HB.out.step0 cu HK)⟩
   ·have HT:=hdd (n9 (root:= .int .i64 b.t1.root) (HB.out.n1 wr (fun _=>HB.out.below) (aM.refl _ _)) ⟨_,rfl⟩)
    go_wp2_with ((go_at_call 72;(with_reducible refine HT.out.mono ?_);rintro e w5 ⟨a',rfl,HK,cu⟩;obtain⟨g',l',p',rfl⟩:=aa9 (HK w5 (aM.refl _ _));obtain⟨Pz,Sk,Sj⟩:=nj cu (B:=w.heap.size) af))
    go_roundg 1
    case measure=>omega
    case rel=>exact⟨2,(.slice g0 l0 p0),(.slice g' l' p'),(.slice g2 l2 p2),af,rfl,by go_num,hdd (HB.out.Dh cu HK)⟩
   ·have HT:=hdd (n9 (root:= .int .i64 b.t2.root) (HB.out.n2 wr (fun _=>HB.out.below) (aM.refl _ _)) ⟨_,rfl⟩)
    go_wp2_with ((go_at_call 72;(with_reducible refine HT.out.mono ?_);rintro e w5 ⟨a',rfl,HK,cu⟩;obtain⟨g',l',p',rfl⟩:=aa9 (HK w5 (aM.refl _ _));obtain⟨Pz,Sk,Sj⟩:=nj cu (B:=w.heap.size) af))
    go_roundg 0
    case measure=>omega
    case rel=>exact⟨3,(.slice g0 l0 p0),(.slice g1 l1 p1),(.slice g' l' p'),af,rfl,by go_num,hdd (HB.out.Dg cu HK)⟩
  ·obtain rfl:k=3:=af
   obtain⟨z0,z1,z2,z3,z4,z5,z6,z7,zf⟩:=HB.out.Gc
   have cZ:=HB.out.below
   have hlo:=HB.out.low
   have K1:∀w'',aM (w.heap.size+2) wr w''->bO w'' (.agg #[.slice s' b.names.length c', .slice g0 l0 p0, .int .i64 b.t0.root, .slice g1 l1 p1, .int .i64 b.t1.root, .slice g2 l2 p2, .int .i64 b.t2.root, .int .i64 b.floor]) b:=fun w'' hk=>⟨_,_,_,_,rfl,HB.out.names w'' hk,HB.out.n0 w'' (fun h=>absurd h aW) (hk.mono hlo),HB.out.n1 w'' (fun h=>absurd h aW) (hk.mono hlo),HB.out.n2 w'' (fun h=>absurd h aW) (hk.mono hlo)⟩
   have RH:=hdd (show ∀w'',aM w1.heap.size wr w''->bz w'' (.slice g0 l0 p0) b.t0.nodes/\bz w'' (.slice g1 l1 p1) b.t1.nodes/\bz w'' (.slice g2 l2 p2) b.t2.nodes from fun w'' hk=>⟨HB.out.n0 w'' (fun h=>absurd h aW) hk,HB.out.n1 w'' (fun h=>absurd h aW) hk,HB.out.n2 w'' (fun h=>absurd h aW) hk⟩)
   have hhi:=HB.out.high
   have Ij:=hdd K1
   clear K1
   go_wp2
   have HO:=HB.out.own
   refine bodyPost_ret (v:= .agg #[.slice s' b.names.length c', .slice g0 l0 p0, .int .i64 b.t0.root, .slice g1 l1 p1, .int .i64 b.t1.root, .slice g2 l2 p2, .int .i64 b.t2.root, .int .i64 b.floor]) (by simp [results,Tryd.results40,go_sem, *]) rfl ⟨?_,_,_,_,_,_,_,_,_,_,_,_,rfl,?_,w1.heap.size,hlo,by simp only [aA];omega,HB.out.lt,fun w'' hk=>RH.out w'' (aM.trans ?_ hk),fun w'' hk=>Ij.out w'' (aM.trans ?_ hk)⟩
   ·exact(by repeat (first|with_reducible exact aI _ _|with_reducible assumption|with_reducible refine cJ ?_ _|with_reducible refine Below.drew ?_|with_reducible refine Below.alloc ?_ (by first|omega|(simp;done)|(simp;omega)) _|with_reducible refine Below.setCell ?_ (by first|omega|(simp;done)|(simp;omega)) _))
   ·refine HO _ ?_
    repeat (first|with_reducible exact aM.refl _ _|with_reducible refine aM.set ?_ (by show w.heap.size+1<w.heap.size+2;omega) _)
   ·repeat (first|with_reducible exact aM.refl _ _|with_reducible refine aM.set ?_ (by show w.heap.size+1<w1.heap.size;omega) _)
   ·repeat (first|with_reducible exact aM.refl _ _|with_reducible refine aM.set ?_ (by show w.heap.size+1<w.heap.size+2;omega) _)
end
section
set_option maxRecDepth 100000
set_option maxHeartbeats 1000000
variable {b:Ba} {l:List aC} {w:World}
theorem nZ.allT {B:Nat} {t:Tr} {e:Ending} {w':World} (h:nZ B w (ax t) (kI t 0 1099511627776) e w') :
  Below B w w'/\(match allT t with|none=>∃E:Int,(E != 0)=true/\e = .returned (.tuple #[.slice none 0 0, .int .i64 E])|some l=>∃v,e = .returned (.tuple #[v, .int .i64 0])/\au B w' v l):=by
 obtain⟨hb,h1,h2⟩:=h
 refine⟨hb,?_⟩
 unfold Go.Proofs.YtmljjfhgciaceaaDoor.allT
 by_cases hf:ax t=0
 ·have h3:=h2 hf
  rw [ar hf]
  cases hr:kI t 0 1099511627776 with
  |none=>rw [hr]at h3;exact⟨1,rfl,h3⟩
  |some l=>rw [hr]at h3;exact h3
 ·rw [ai hf];exact⟨_,by simp [hf],h1 hf⟩
theorem uW (h1:allT b.t0=some l) (h2:l.all (jn b)=true):bY b=some l:=by
 unfold bY;rw [h1];simp only;rw [ar h2]
theorem NB {k:Nat} (h1:allT b.t0=some l) (hk:k<l.length) (h2:jn b l[k]=false):bY b=none:=by
 unfold bY;rw [h1];simp only;rw [ai]
 intro h;have:=nK.1 h l[k] (fP hk);rw [h2]at this;cases this
theorem Kw (h1:allT b.t0=none):bY b=none:=by unfold bY;rw [h1]
abbrev aG (sa:Option Addr) (sn sc:Nat) (g0:Option Addr) (l0 p0:Nat) (g1:Option Addr) (l1 p1:Nat) (g2:Option Addr) (l2 p2:Nat) (b:Ba):Array Value:=
 #[.slice sa sn sc, .slice g0 l0 p0, .int .i64 b.t0.root, .slice g1 l1 p1, .int .i64 b.t1.root, .slice g2 l2 p2, .int .i64 b.t2.root, .int .i64 b.floor]
theorem bO.open {v:Value} (h:bO w v b):∃sa sc g0 l0 p0 g1 l1 p1 g2 l2 p2,v = .agg (aG sa b.names.length sc g0 l0 p0 g1 l1 p1 g2 l2 p2 b)/\b.names.length<=8796093022208/\jN w (.slice sa b.names.length sc) b.names /\
  (∀w',ah w w'->bM w' (.agg #[.slice g0 l0 p0, .int .i64 b.t0.root]) b.t0)/\(∀w',ah w w'->bM w' (.agg #[.slice g1 l1 p1, .int .i64 b.t1.root]) b.t1)/\(∀w',ah w w'->bM w' (.agg #[.slice g2 l2 p2, .int .i64 b.t2.root]) b.t2):=by
 obtain⟨nv,a0,a1,a2,rfl,s,n0,n1,n2⟩:=h
 obtain⟨sa,sc,rfl⟩:=s.isSlice
 obtain⟨g0,l0,p0,rfl⟩:=aa9 n0
 obtain⟨g1,l1,p1,rfl⟩:=aa9 n1
 obtain⟨g2,l2,p2,rfl⟩:=aa9 n2
 obtain⟨_,_,_,_,_,h6,_⟩:=id s
 exact⟨sa,sc,g0,l0,p0,g1,l1,p1,g2,l2,p2,rfl,af,s,fun w' hb=>⟨_,rfl,n0.below hb aH⟩,fun w' hb=>⟨_,rfl,n1.below hb aH⟩,fun w' hb=>⟨_,rfl,n2.below hb aH⟩⟩
theorem af6 {v:Value} (h:bO w v b) :
  Calls Tryd.prog 47 #[v] w (Qp w.heap.size w (bY b)):=by
 obtain⟨sa,sc,g0,l0,p0,g1,l1,p1,g2,l2,p2,rfl,hn,_,T0,_,_⟩:=h.open
 obtain⟨W0,hW0⟩:=bP (w.alloc (.cells (aG sa b.names.length sc g0 l0 p0 g1 l1 p1 g2 l2 p2 b) 35))
 have hb0:ah w W0:=by rw [hW0];exact ag
 have hz0:W0.heap.size=w.heap.size+1:=by rw [hW0];simp
 have k0:W0.heap[w.heap.size]?=some (.cells (aG sa b.names.length sc g0 l0 p0 g1 l1 p1 g2 l2 p2 b) 35):=by rw [hW0];exact aj _ _ rfl
 have HX:=hdd fun w' (hb:ah W0 w')=>(by
  have b0:w'.heap[w.heap.size]?=_:=(hb.block _ af).trans k0
  simp [World.cell?,b0] :
  w'.cell? ⟨w.heap.size,0,none⟩=some (.slice sa b.names.length sc)/\w'.cell? ⟨w.heap.size,7,none⟩=some (.int .i64 b.floor))
 have HB:=hdd fun w' (hb:ah W0 w')=>(Below.trans' hb0 hb hb0.size:ah w w')
 have HA:=hdd ((aeA (lo:=0) (hi:=1099511627776) (T0 W0 hb0)).mono fun e w' hp=>nZ.allT hp)
 obtain⟨c1,c2⟩:W0.cell? ⟨w.heap.size,1,none⟩=some (.slice g0 l0 p0)/\W0.cell? ⟨w.heap.size,2,none⟩=some (.int .i64 b.t0.root):=by simp [World.cell?,k0]
 clear T0
 go_enter Tryd.func47,Tryd.ntmps47
 go_upto_region 1 with (fail)
 rw [<-hW0]
 clear hW0 k0
 cases hT:allT b.t0 with
 |none=>
  have HN:=hdd (Kw hT)
  rw [hT]at HA
  clear hT
  go_wp2_with ((go_at_call 77;(with_reducible refine HA.out.mono ?_);rintro e w1 ⟨hb1,E,hE,rfl⟩;have cZ:=HB.out _ hb1))
  go_ret2
  rw [HN.out]
  exact⟨cZ,rfl⟩
 |some l=>
  have HT:=hdd hT
  have HG:=hdd (fB hT)
  have hlen:l.length<=50000:=(fB hT).2.2.2
  rw [hT]at HA
  clear hT
  go_upto_region 4 with ((go_at_call 77;(with_reducible refine HA.out.mono ?_);rintro e w1 ⟨hb1,v1,rfl,AW⟩;obtain⟨s1,d1,rfl⟩:=AW.isSlice))
  have HL:=hdd (AW.at af)
  have HO:=hdd AW
  have hz1:=hb1.size
  clear c1 c2 AW
  go_wp2_with fail
  go_loopg [6] l.length (fun g i wr=>∃k:Nat,k<=l.length/\g=l.length-k/\i = .int .i64 k/\Hid ((l.take k).all (jn b)=true)/\ah w1 wr)
  case atStart=>exact⟨0,jd _,rfl,rfl,hdd rfl,aI _ _⟩
  case round=>
   obtain⟨k,hk,rfl,rfl,HR,hb⟩:=hrel
   have hsz:=hb.size
   have Tt:ah W0 wr:=Below.trans' hb1 hb hz1
   obtain⟨x0,x7⟩:=HX.out _ Tt
   by_cases hlt:k<l.length
   ·obtain⟨_,_,hv,-,-,-,-,h5⟩:=HL.out
    injection hv with hv1 _ hv3
    subst hv3
    obtain⟨eb,eB,lA,si,nE⟩:=h5 af
    subst lA
    subst hv1
    obtain⟨y0,y1,y2,y3,y4,y5,y6⟩:=bU hb si nE hlt
    obtain⟨y,hy⟩:=bt (l[k])
    rw [hy]at y0 y1 y2 y3 y4 y5 y6
    have C7:y∈l:=by rw [<-hy];exact fP hlt
    obtain⟨im,hk1⟩:=HG.out.2.2.1 y C7
    have tS:=hdd fun(h:jn b y=false)=>NB HT.out hlt (by rw [hy];exact h)
    have Fs:=hdd fun(h:jn b y=true)=>(by rw [kK hlt,List.all_append,HR.out,hy];simp [h]:(l.take (k+1)).all (jn b)=true)
    obtain⟨M,hM⟩:=bt (y.key%1048576)
    obtain⟨Q,hQ⟩:=bt (y.key/1048576)
    have Lb:0<=M/\M<1048576:=af
    have Vc:0<=Q/\Q<1048576:=af
    have m1:y.key.tmod 1048576=M:=by rw [yj im];exact hM
    have m2:y.key.tdiv 1048576=Q:=by rw [Bf im];exact hQ
    have m3:IntKind.i64.wrap M=M:=IntWalk.i64_in _ af
    have m4:IntKind.i64.wrap Q=Q:=IntWalk.i64_in _ af
    have nA:=hdd (show jn b y=(decide (Q<b.names.length) && decide (b.floor<=M) && decide (y.is.t=M)) by simp [jn,hM,hQ])
    have jS:=fun w'=>dw (ab:=eb) (aV:=eB) (n:=l.length) (cap:=d1) (show (k:Int)=((k:Nat):Int) by rfl) hlt w'
    have hwz:eb<wr.heap.size:=af
    have YU:ah w wr:=HB.out _ Tt
    clear nE h5 hy C7 hM hQ Lb Vc Tt
    go_upto_region 8 with (fail)
    by_cases i1:Q<b.names.length
    ·have e1:decide ((b.names.length:Int)<=Q)=false:=by simp;omega
     by_cases i2:b.floor<=M
     ·have e2:decide (M<b.floor)=false:=by simp;omega
      by_cases i3:y.is.t=M
      ·have e3:(y.is.t != M)=false:=by simp [i3]
       have HGD:=hdd (Fs.out (by rw [nA.out];simp [i1,i2,i3]))
       clear i1 i2 i3 Fs tS nA
       go_quiet (fail)
       go_wp2
       go_roundg (l.length-(k+1))
       case measure=>omega
       case rel=>exact⟨k+1,af,rfl,by go_num,HGD,ag⟩
      ·have e3:(y.is.t != M)=true:=by simp [i3]
       have FJ:=hdd (tS.out (by rw [nA.out];simp [i3]))
       clear i1 i2 i3 Fs tS nA
       go_quiet (fail)
       go_wp2
       go_ret2
       rw [FJ.out]
       exact⟨ag,rfl⟩
     ·have e2:decide (M<b.floor)=true:=by simp;omega
      have FJ:=hdd (tS.out (by rw [nA.out];simp [i2]))
      clear i1 i2 Fs tS nA
      go_quiet (fail)
      go_wp2
      go_ret2
      rw [FJ.out]
      exact⟨ag,rfl⟩
    ·have e1:decide ((b.names.length:Int)<=Q)=true:=by simp;omega
     have FJ:=hdd (tS.out (by rw [nA.out];simp [i1]))
     clear i1 Fs tS nA
     go_quiet (fail)
     go_wp2
     go_ret2
     rw [FJ.out]
     exact⟨ag,rfl⟩
   ·have HN:=hdd (uW HT.out (by have:=HR.out;rw [lI af]at this;exact this))
    have YU:ah w wr:=HB.out _ Tt
    have ho:=(HO.out.below hb aH).mono (show w.heap.size<=W0.heap.size by omega)
    clear Tt
    go_wp2
    go_ret2
    rw [HN.out]
    exact⟨YU,_,rfl,ho⟩
end
section
set_option maxRecDepth 100000
set_option maxHeartbeats 4000000
variable {b:Ba} {z:Int} {l:List aC} {k:Nat} {t:Tr} {w:World}
def H9 (b:Ba) (i:Nat):Prop:=∀h:i<b.names.length,dL b.names[i]=true/\∀k (hk:k<i),b.names[k]≠b.names[i]
def CX (b:Ba):Prop:=∀i,H9 b i
structure nB (b:Ba):Prop where
 n16:b.names.length<=16
 Y9:0<=b.floor
 XC:b.floor<=1048575
 fl2:b.floor%3600=0
 names:CX b
 trees:∃l,bY b=some l/\∀k,k<3->fE l (b.tree k) (aQ k)=true
open Classical in
noncomputable def aO (b:Ba):Bool:=decide (nB b)
theorem ij (h:¬nB b):aO b=false:=by simp [aO,h]
theorem jX (h:nB b):aO b=true:=by simp [aO,h]
theorem dH (h:aO b=true):nB b:=by simpa [aO] using h
theorem vL {wr:World} {b off:Nat} {xs:List ByteArray} (hb:ah w wr) (hbb:b<w.heap.size)
  (hc:∀(i:Nat) x,xs[i]?=some x->∀j u,(jg x)[j]?=some u->w.cell? ⟨b,off+i*1+j,none⟩=some u) (hk:k<xs.length):wr.cell? ⟨b,off+k,none⟩=some (.string xs[k]):=by
 have:=hc k xs[k] (by simp [hk]) 0 _ rfl
 rw [Nat.mul_one,Nat.add_zero]at this
 exact(hb.cell (p:=⟨b,off+k,none⟩) hbb).trans this
theorem CA {ab aV n cap j:Nat} {i:Int} (h:i=j) (hj:j<n) (w:World):(Instr.indexAt 29 (.slice (some ⟨ab,aV,none⟩) n cap) (.int .i64 i)).run Tryd.prog w = .ok (.pointer (some ⟨ab,aV+j,none⟩)) w:=by
 subst h
 go_simp
theorem Lv (s t:ByteArray):(s.toList == t.toList)=decide (s=t):=by
 by_cases h:s=t
 ·subst h;simp
 ·have h2:s.toList≠t.toList:=fun e=>h (by
   rw [ByteArray.toList_eq,ByteArray.toList_eq]at e
   cases s;cases t
   simp only [ByteArray.mk.injEq]at *
   exact Array.toList_inj.1 e)
  simp [h,h2]
theorem ae0 (k:Nat) (hk:k<3) (w:World):Calls Tryd.prog 50 #[.int .i64 k] w fun e w'=>e = .returned (.int .i64 (aQ k))/\ah w w':=by
 obtain rfl|rfl|rfl:k=0\/k=1\/k=2:=af
 all_goals
  go_enter Tryd.func50,Tryd.ntmps50
  go_wp2
  go_ret
  exact⟨rfl,ag⟩
theorem bO.below {w':World} {v:Value} (h:bO w v b) (hb:ah w w'):bO w' v b:=by
 obtain⟨nv,a0,a1,a2,rfl,s0,n0,n1,n2⟩:=h
 exact⟨nv,a0,a1,a2,rfl,s0.below hb aH,n0.below hb aH,n1.below hb aH,n2.below hb aH⟩
theorem lU {a c:List aC} (h1:bW l z=some a) (h2:allT t=some c):fE l t z=decide (a=c):=by unfold fE;rw [h1,h2]
theorem sZ (h1:bW l z=none):fE l t z=false:=by unfold fE;rw [h1]
theorem sY (h1:allT t=none):fE l t z=false:=by unfold fE;rw [h1];cases bW l z <;> rfl
def Au (b:Ba) (l:List aC) (k:Nat) (B:Bool):Prop:=(B=true->∀j,j<k->fE l (b.tree j) (aQ j)=true)/\(B=false->aO b=false)
theorem Au.next (hl:bY b=some l) (h:Au b l k true) (hk:k<3):Au b l (k+1) (fE l (b.tree k) (aQ k)):=by
 refine⟨fun hT j hj=>?_,fun hF=>ij fun hB=>?_⟩
 ·by_cases hjk:j=k
  ·subst hjk;exact hT
  ·exact h.1 rfl j af
 ·obtain⟨l',e,ht⟩:=hB.trees
  rw [hl]at e
  simp only [iw]at e
  subst e
  rw [ht k hk]at hF;cases hF
theorem Au.end (hl:bY b=some l) (h:Au b l 3 true) (h1:b.names.length<=16) (h2:0<=b.floor/\b.floor<=1048575) (h3:b.floor%3600=0) (h4:CX b):aO b=true:=
 jX ⟨h1,h2.1,h2.2,h3,h4,l,hl,fun k hk=>h.1 rfl k hk⟩
theorem gw (h:bY b=some l):aT l/\dX l:=fB (lC h).1
theorem aeT {v:Value} (h:bO w v b) (hst:∀s∈b.names,s.size<=140737488351232) :
  Calls Tryd.prog 43 #[v] w fun e w'=>e = .returned (.bool (aO b))/\ah w w':=by
 obtain⟨sa,sc,g0,l0,p0,g1,l1,p1,g2,l2,p2,rfl,hn,jl,T0,T1,T2⟩:=h.open
 obtain⟨W0,hW0⟩:=bP (w.alloc (.cells (aG sa b.names.length sc g0 l0 p0 g1 l1 p1 g2 l2 p2 b) 35))
 have hb0:ah w W0:=by rw [hW0];exact ag
 have hz0:W0.heap.size=w.heap.size+1:=by rw [hW0];simp
 have k0:W0.heap[w.heap.size]?=some (.cells (aG sa b.names.length sc g0 l0 p0 g1 l1 p1 g2 l2 p2 b) 35):=by rw [hW0];exact aj _ _ rfl
 have HX:=hdd fun w' (hb:ah W0 w')=>(by
  have b0:w'.heap[w.heap.size]?=_:=(hb.block _ af).trans k0
  simp [World.cell?,b0] :
  w'.cell? ⟨w.heap.size,0,none⟩=some (.slice sa b.names.length sc)/\w'.cell? ⟨w.heap.size,1,none⟩=some (.slice g0 l0 p0)/\w'.cell? ⟨w.heap.size,2,none⟩=some (.int .i64 b.t0.root)/\w'.cell? ⟨w.heap.size,3,none⟩=some (.slice g1 l1 p1)/\w'.cell? ⟨w.heap.size,4,none⟩=some (.int .i64 b.t1.root)/\w'.cell? ⟨w.heap.size,5,none⟩=some (.slice g2 l2 p2)/\w'.cell? ⟨w.heap.size,6,none⟩=some (.int .i64 b.t2.root)/\w'.cell? ⟨w.heap.size,7,none⟩=some (.int .i64 b.floor))
 have HB:=hdd fun w' (hb:ah W0 w')=>(Below.trans' hb0 hb hb0.size:ah w w')
 have Lc:=hdd fun w' (hb:ah W0 w')=>(aeA (lo:=0) (hi:=1099511627776) (T0 w' (HB.out w' hb))).mono fun e w' hp=>nZ.allT hp
 have ym:=hdd fun w' (hb:ah W0 w')=>(aeA (lo:=0) (hi:=1099511627776) (T1 w' (HB.out w' hb))).mono fun e w' hp=>nZ.allT hp
 have bf:=hdd fun w' (hb:ah W0 w')=>(aeA (lo:=0) (hi:=1099511627776) (T2 w' (HB.out w' hb))).mono fun e w' hp=>nZ.allT hp
 have K3:=hdd h
 have XL:=hdd jl
 have HST:=hdd hst
 obtain⟨x0,x1,x2,x3,x4,x5,x6,x7⟩:=HX.out W0 (aI _ _)
 clear T0 T1 T2 h jl hst
 go_enter Tryd.func43,Tryd.ntmps43
 go_upto_region 1 with (fail)
 rw [<-hW0]
 clear hW0 k0
 by_cases i1:b.names.length<=16
 ·have e1:decide ((16:Int)<(b.names.length:Int))=false:=by simp;omega
  have RH:=hdd i1
  by_cases i2:av b.floor 0 1048575=true
  ·have Vs:=hdd i2
   obtain⟨R,hR⟩:=bt (b.floor%3600)
   have hfl:0<=b.floor/\b.floor<=1048575:=by simpa [av] using i2
   have Il:=hdd hfl
   have m1:b.floor.tmod 3600=R:=by rw [yj hfl.1];exact hR
   have m2:IntKind.i64.wrap R=R:=IntWalk.i64_in _ af
   have HR:=hdd hR
   by_cases i3:R=0
   ·have e3:(R != 0)=false:=by simp [i3]
    have HI3:=hdd (HR.out.trans i3)
    clear i1 i3 hR
    go_wp2_with ((go_at_call 76;refine(ac2 _ _ _ _).mono ?_;rintro e w1 ⟨rfl,rfl⟩))
    clear x0 x1 x2 x3 x4 x5 x6 x7
    go_loopg [3] b.names.length (fun g i wr=>∃k:Nat,k<=b.names.length/\g=b.names.length-k/\i = .int .i64 k/\Hid (∀j,j<k->H9 b j)/\ah W0 wr)
    case atStart=>exact⟨0,jd _,rfl,rfl,hdd (fun j hj=>af),aI _ _⟩
    case round=>
     obtain⟨k,hk,rfl,rfl,xR,hb⟩:=hrel
     obtain⟨x0,x1,x2,x3,x4,x5,x6,x7⟩:=HX.out _ hb
     by_cases hlt:k<b.names.length
     ·obtain⟨_,_,va,-,-,-,-,a5⟩:=XL.out
      obtain⟨ab,aV,ha,sO,ac⟩:=a5 af
      injection va with ZF _ ZE
      subst ZF ZE ha
      have HC:=hdd fun w' (hb:ah W0 w') (m:Nat) (hm:m<b.names.length)=>vL (HB.out _ hb) sO ac hm
      obtain⟨s,hs⟩:=bt (b.names[k])
      have e0:=HC.out _ hb k hlt
      rw [hs]at e0
      have HS:=hdd hs
      have jS:=fun w'=>CA (ab:=ab) (aV:=aV) (n:=b.names.length) (cap:=sc) (show (k:Int)=((k:Nat):Int) by rfl) hlt w'
      have RG:=hdd fun w'=>aee s w' (HST.out s (by rw [<-hs];exact fP hlt))
      clear hs a5 ac
      cases yB:dL s with
      |false=>
       have nI:=hdd (ij fun h:nB b=>by have:=(h.names k hlt).1;rw [HS.out,yB]at this;cases this)
       rw [yB]at RG
       clear yB
       go_wp2_with ((go_at_call 44;(with_reducible refine(RG.out _).mono ?_);rintro e w2 ⟨rfl,hb2⟩))
       go_ret
       exact⟨dP nI.out.symm,HB.out _ (Below.trans' hb hb2 hb.size)⟩
      |true=>
       have acf:=hdd yB
       rw [yB]at RG
       clear yB
       go_wp2_with ((go_at_call 44;(with_reducible refine(RG.out _).mono ?_);rintro e w2 ⟨rfl,hb2⟩;have hb3:=Below.trans' hb hb2 hb.size))
       clear x0 x1 x2 x3 x4 x5 x6 x7 e0
       go_loopg [4] k (fun g i wr=>∃m:Nat,m<=k/\g=k-m/\i = .int .i64 m/\Hid (∀j (hj:j<m) (hjn:j<b.names.length),b.names[j]≠s)/\ah W0 wr)
       case atStart=>exact⟨0,jd _,rfl,rfl,hdd (fun j hj=>af),hb3⟩
       case round=>
        obtain⟨m,hm,rfl,rfl,Ux,hb4⟩:=hrel
        obtain⟨x0,x1,x2,x3,x4,x5,x6,x7⟩:=HX.out _ hb4
        by_cases hlm:m<k
        ·have hmn:m<b.names.length:=af
         obtain⟨s2,hs2⟩:=bt (b.names[m])
         have e0:=HC.out _ hb4 k hlt
         rw [HS.out]at e0
         have e2:=HC.out _ hb4 m hmn
         rw [hs2]at e2
         have Ul:=hdd hs2
         have MQ:=fun w'=>CA (ab:=ab) (aV:=aV) (n:=b.names.length) (cap:=sc) (show (m:Int)=((m:Nat):Int) by rfl) hmn w'
         have K5:=Lv s2 s
         clear hs2
         by_cases xB:s2=s
         ·have nI:=hdd (ij fun h:nB b=>(h.names k hlt).2 m hlm (by rw [Ul.out,HS.out];exact xB))
          have We:decide (s2=s)=true:=by simp [xB]
          rw [We]at K5
          clear xB We
          go_wp2_with fail
          go_quiet (fail)
          go_wp2
          go_ret
          exact⟨dP nI.out.symm,by have:=HB.out _ hb4;exact ag⟩
         ·have alK:=hdd (show ∀j (hj:j<m+1) (hjn:j<b.names.length),b.names[j]≠s from fun j hj hjn=>by
           by_cases hjm:j=m
           ·subst hjm;rw [Ul.out];exact xB
           ·exact Ux.out j af hjn)
          have We:decide (s2=s)=false:=by simp [xB]
          rw [We]at K5
          clear xB We
          go_wp2_with fail
          go_quiet (fail)
          go_wp2
          go_roundg (k-(m+1))
          case measure=>omega
          case rel=>exact⟨m+1,af,rfl,by go_num,alK,ag⟩
        ·have ach:=hdd (show ∀j,j<k+1->H9 b j from fun j hj=>by
          by_cases hjk:j=k
          ·subst hjk;exact fun h=>⟨by rw [HS.out];exact acf.out,fun i hi=>by rw [HS.out];exact Ux.out i af af⟩
          ·exact xR.out j af)
         go_wp2
         go_roundg (b.names.length-(k+1))
         case measure=>omega
         case rel=>exact⟨k+1,af,rfl,by go_num,ach,hb4⟩
     ·have ach:=hdd (show CX b from fun j h=>xR.out j af h)
      have pc:=hdd (af6 (K3.out.below (HB.out _ hb)))
      cases hbk:bY b with
      |none=>
       have nI:=hdd (ij fun h:nB b=>by obtain⟨l,e,_⟩:=h.trees;rw [hbk]at e;cases e)
       rw [hbk]at pc
       clear hbk
       go_wp2_with ((go_at_call 47;(with_reducible refine pc.out.mono ?_);rintro e w5 ⟨eK,rfl⟩;have cu:=Below.trans' hb eK hb.size))
       clear x0 x1 x2 x3 x4 x5 x6 x7
       go_loopg [6,7] 0 (fun g Rw kv wr=>g=0/\Rw = .bool false/\kv = .int .i64 0/\ah W0 wr)
       case atStart=>exact⟨rfl,rfl,rfl,cu⟩
       case round=>
        obtain⟨rfl,rfl,rfl,jf⟩:=hrel
        go_wp2
        go_ret
        exact⟨dP nI.out.symm,HB.out _ jf⟩
      |some l=>
       have O1:=hdd hbk
       have Qw:=hdd (gw hbk).2
       have hlen:l.length<=50000:=(gw hbk).2.2.2
       rw [hbk]at pc
       clear hbk
       go_wp2_with ((go_at_call 47;(with_reducible refine pc.out.mono ?_);rintro e w5 ⟨eK,v5,rfl,iD⟩;have cu:=Below.trans' hb eK hb.size;obtain⟨s5,c5,rfl⟩:=iD.isSlice))
       clear x0 x1 x2 x3 x4 x5 x6 x7
       go_loopg [6,7] 3 (fun g Rw kv wr=>∃(k:Nat) (B:Bool),k<=3/\g=3-k/\kv = .int .i64 k/\Rw = .bool B/\Hid (Au b l k B)/\ah w5 wr)
       case atStart=>exact⟨0,true,af,rfl,rfl,rfl,hdd ⟨fun _ j hj=>af,fun h=>by cases h⟩,aI _ _⟩
       case round=>
        obtain⟨kk,B,hkk,rfl,rfl,rfl,Ie,hbk⟩:=hrel
        have ahZ:=Below.trans' cu hbk cu.size
        obtain⟨x0,x1,x2,x3,x4,x5,x6,x7⟩:=HX.out _ ahZ
        cases B with
        |false=>
         have nI:=hdd (Ie.out.2 rfl)
         by_cases hk3:kk<3
         ·go_wp2
          go_ret
          exact⟨dP nI.out.symm,HB.out _ ahZ⟩
         ·go_wp2
          go_ret
          exact⟨dP nI.out.symm,HB.out _ ahZ⟩
        |true=>
         obtain rfl|rfl|rfl|rfl:kk=0\/kk=1\/kk=2\/kk=3:=af
         ·have nN:=hdd (show ∀w,Calls Tryd.prog 50 #[.int .i64 0] w fun e w'=>e = .returned (.int .i64 (aQ 0))/\ah w w' from ae0 0 aW)
          have AE:=hdd (Au.next (k:=0) O1.out Ie.out aW)
          have nY:=hdd fun w' (hb:ah w5 w')=>ae1 (size:=aQ 0) ((iD.below hb aH).at af) Qw.out aW aW
          have rM:=hdd fun w' (hb:ah W0 w')=>Lc.out w' hb
          clear x0 x1 x2 x3 x4 x5 x6 x7
          cases hro:bW l (aQ 0) with
          |none=>
           have sS:=hdd (sZ (t:=b.tree 0) hro)
           rw [hro]at nY
           clear hro
           cases hal:allT b.t0 with
           |none=>
            rw [hal]at rM
            clear hal
            go_wp2_with (first|(go_at_call 50;(with_reducible refine(nN.out _).mono ?_);rintro e wz ⟨rfl,hbz⟩;have adb:=Below.trans' hbk hbz hbk.size)|(go_at_call 49;(with_reducible refine(nY.out _ adb).mono ?_);rintro e wq ⟨uI,rfl⟩;have dS:=Below.trans' adb uI adb.size;have fZ:=Below.trans' cu dS cu.size;obtain⟨x0,x1,x2,x3,x4,x5,x6,x7⟩:=HX.out _ fZ)|(go_at_call 77;(with_reducible refine(rM.out _ fZ).mono ?_);rintro e wa ⟨je,E,hE,rfl⟩;have gN:=Below.trans' dS je dS.size))
            go_roundg (3-(0+1))
            case measure=>omega
            case rel=>exact⟨0+1,false,af,rfl,by go_num,rfl,hdd (by have:=AE.out;rw [sS.out]at this;exact this),gN⟩
           |some c=>
            rw [hal]at rM
            clear hal
            go_wp2_with (first|(go_at_call 50;(with_reducible refine(nN.out _).mono ?_);rintro e wz ⟨rfl,hbz⟩;have adb:=Below.trans' hbk hbz hbk.size)|(go_at_call 49;(with_reducible refine(nY.out _ adb).mono ?_);rintro e wq ⟨uI,rfl⟩;have dS:=Below.trans' adb uI adb.size;have fZ:=Below.trans' cu dS cu.size;obtain⟨x0,x1,x2,x3,x4,x5,x6,x7⟩:=HX.out _ fZ)|(go_at_call 77;(with_reducible refine(rM.out _ fZ).mono ?_);rintro e wa ⟨je,va,rfl,zH⟩;have gN:=Below.trans' dS je dS.size;obtain⟨sA,cA,rfl⟩:=zH.isSlice))
            go_roundg (3-(0+1))
            case measure=>omega
            case rel=>exact⟨0+1,false,af,rfl,by go_num,rfl,hdd (by have:=AE.out;rw [sS.out]at this;exact this),gN⟩
          |some a=>
           rw [hro]at nY
           have Ld:=hdd (oV (eu (ir 0) Qw.out) hro)
           cases hal:allT b.t0 with
           |none=>
            have sS:=hdd (show fE l (b.tree 0) (aQ 0)=false from sY hal)
            rw [hal]at rM
            clear hal hro
            go_wp2_with (first|(go_at_call 50;(with_reducible refine(nN.out _).mono ?_);rintro e wz ⟨rfl,hbz⟩;have adb:=Below.trans' hbk hbz hbk.size)|(go_at_call 49;(with_reducible refine(nY.out _ adb).mono ?_);rintro e wq ⟨uI,vq,rfl,zG⟩;have dS:=Below.trans' adb uI adb.size;have fZ:=Below.trans' cu dS cu.size;obtain⟨x0,x1,x2,x3,x4,x5,x6,x7⟩:=HX.out _ fZ;obtain⟨sQ,cQ,rfl⟩:=zG.isSlice)|(go_at_call 77;(with_reducible refine(rM.out _ fZ).mono ?_);rintro e wa ⟨je,E,hE,rfl⟩;have gN:=Below.trans' dS je dS.size;have hE2:(E == 0)=false:=by simpa using hE))
            go_roundg (3-(0+1))
            case measure=>omega
            case rel=>exact⟨0+1,false,af,rfl,by go_num,rfl,hdd (by have:=AE.out;rw [sS.out]at this;exact this),gN⟩
           |some c=>
            have sS:=hdd (show fE l (b.tree 0) (aQ 0)=decide (a=c)from lU hro hal)
            have yr:=hdd (fB hal)
            rw [hal]at rM
            clear hal hro
            go_wp2_with (first|(go_at_call 50;(with_reducible refine(nN.out _).mono ?_);rintro e wz ⟨rfl,hbz⟩;have adb:=Below.trans' hbk hbz hbk.size)|(go_at_call 49;(with_reducible refine(nY.out _ adb).mono ?_);rintro e wq ⟨uI,vq,rfl,zG⟩;have dS:=Below.trans' adb uI adb.size;have fZ:=Below.trans' cu dS cu.size;obtain⟨x0,x1,x2,x3,x4,x5,x6,x7⟩:=HX.out _ fZ;obtain⟨sQ,cQ,rfl⟩:=zG.isSlice)|(go_at_call 77;(with_reducible refine(rM.out _ fZ).mono ?_);rintro e wa ⟨je,va,rfl,zH⟩;have gN:=Below.trans' dS je dS.size;obtain⟨sA,cA,rfl⟩:=zH.isSlice;have qF:=hdd (adn ((zG.below je aH).at (by have:=Ld.out.2.2;omega)) (zH.at (by have:=yr.out.2.2.2;omega))))|(go_at_call 52;(with_reducible refine qF.out.mono ?_);rintro e ws ⟨rfl,hbs⟩;have uH:=Below.trans' gN hbs gN.size))
            go_roundg (3-(0+1))
            case measure=>omega
            case rel=>exact⟨0+1,(decide (a=c)),af,rfl,by go_num,rfl,hdd (by have:=AE.out;rw [sS.out]at this;exact this),uH⟩
         ·have nN:=hdd (show ∀w,Calls Tryd.prog 50 #[.int .i64 1] w fun e w'=>e = .returned (.int .i64 (aQ 1))/\ah w w' from ae0 1 aW)
          have AE:=hdd (Au.next (k:=1) O1.out Ie.out aW)
          have nY:=hdd fun w' (hb:ah w5 w')=>ae1 (size:=aQ 1) ((iD.below hb aH).at af) Qw.out aW aW
          have rM:=hdd fun w' (hb:ah W0 w')=>ym.out w' hb
          clear x0 x1 x2 x3 x4 x5 x6 x7
          cases hro:bW l (aQ 1) with
          |none=>
           have sS:=hdd (sZ (t:=b.tree 1) hro)
           rw [hro]at nY
           clear hro
           cases hal:allT b.t1 with
           |none=>
            rw [hal]at rM
            clear hal
            go_wp2_with (first|(go_at_call 50;(with_reducible refine(nN.out _).mono ?_);rintro e wz ⟨rfl,hbz⟩;have adb:=Below.trans' hbk hbz hbk.size)|(go_at_call 49;(with_reducible refine(nY.out _ adb).mono ?_);rintro e wq ⟨uI,rfl⟩;have dS:=Below.trans' adb uI adb.size;have fZ:=Below.trans' cu dS cu.size;obtain⟨x0,x1,x2,x3,x4,x5,x6,x7⟩:=HX.out _ fZ)|(go_at_call 77;(with_reducible refine(rM.out _ fZ).mono ?_);rintro e wa ⟨je,E,hE,rfl⟩;have gN:=Below.trans' dS je dS.size))
            go_roundg (3-(1+1))
            case measure=>omega
            case rel=>exact⟨1+1,false,af,rfl,by go_num,rfl,hdd (by have:=AE.out;rw [sS.out]at this;exact this),gN⟩
           |some c=>
            rw [hal]at rM
            clear hal
            go_wp2_with (first|(go_at_call 50;(with_reducible refine(nN.out _).mono ?_);rintro e wz ⟨rfl,hbz⟩;have adb:=Below.trans' hbk hbz hbk.size)|(go_at_call 49;(with_reducible refine(nY.out _ adb).mono ?_);rintro e wq ⟨uI,rfl⟩;have dS:=Below.trans' adb uI adb.size;have fZ:=Below.trans' cu dS cu.size;obtain⟨x0,x1,x2,x3,x4,x5,x6,x7⟩:=HX.out _ fZ)|(go_at_call 77;(with_reducible refine(rM.out _ fZ).mono ?_);rintro e wa ⟨je,va,rfl,zH⟩;have gN:=Below.trans' dS je dS.size;obtain⟨sA,cA,rfl⟩:=zH.isSlice))
            go_roundg (3-(1+1))
            case measure=>omega
            case rel=>exact⟨1+1,false,af,rfl,by go_num,rfl,hdd (by have:=AE.out;rw [sS.out]at this;exact this),gN⟩
          |some a=>
           rw [hro]at nY
           have Ld:=hdd (oV (eu (ir 1) Qw.out) hro)
           cases hal:allT b.t1 with
           |none=>
            have sS:=hdd (show fE l (b.tree 1) (aQ 1)=false from sY hal)
            rw [hal]at rM
            clear hal hro
            go_wp2_with (first|(go_at_call 50;(with_reducible refine(nN.out _).mono ?_);rintro e wz ⟨rfl,hbz⟩;have adb:=Below.trans' hbk hbz hbk.size)|(go_at_call 49;(with_reducible refine(nY.out _ adb).mono ?_);rintro e wq ⟨uI,vq,rfl,zG⟩;have dS:=Below.trans' adb uI adb.size;have fZ:=Below.trans' cu dS cu.size;obtain⟨x0,x1,x2,x3,x4,x5,x6,x7⟩:=HX.out _ fZ;obtain⟨sQ,cQ,rfl⟩:=zG.isSlice)|(go_at_call 77;(with_reducible refine(rM.out _ fZ).mono ?_);rintro e wa ⟨je,E,hE,rfl⟩;have gN:=Below.trans' dS je dS.size;have hE2:(E == 0)=false:=by simpa using hE))
            go_roundg (3-(1+1))
            case measure=>omega
            case rel=>exact⟨1+1,false,af,rfl,by go_num,rfl,hdd (by have:=AE.out;rw [sS.out]at this;exact this),gN⟩
           |some c=>
            have sS:=hdd (show fE l (b.tree 1) (aQ 1)=decide (a=c)from lU hro hal)
            have yr:=hdd (fB hal)
            rw [hal]at rM
            clear hal hro
            go_wp2_with (first|(go_at_call 50;(with_reducible refine(nN.out _).mono ?_);rintro e wz ⟨rfl,hbz⟩;have adb:=Below.trans' hbk hbz hbk.size)|(go_at_call 49;(with_reducible refine(nY.out _ adb).mono ?_);rintro e wq ⟨uI,vq,rfl,zG⟩;have dS:=Below.trans' adb uI adb.size;have fZ:=Below.trans' cu dS cu.size;obtain⟨x0,x1,x2,x3,x4,x5,x6,x7⟩:=HX.out _ fZ;obtain⟨sQ,cQ,rfl⟩:=zG.isSlice)|(go_at_call 77;(with_reducible refine(rM.out _ fZ).mono ?_);rintro e wa ⟨je,va,rfl,zH⟩;have gN:=Below.trans' dS je dS.size;obtain⟨sA,cA,rfl⟩:=zH.isSlice;have qF:=hdd (adn ((zG.below je aH).at (by have:=Ld.out.2.2;omega)) (zH.at (by have:=yr.out.2.2.2;omega))))|(go_at_call 52;(with_reducible refine qF.out.mono ?_);rintro e ws ⟨rfl,hbs⟩;have uH:=Below.trans' gN hbs gN.size))
            go_roundg (3-(1+1))
            case measure=>omega
            case rel=>exact⟨1+1,(decide (a=c)),af,rfl,by go_num,rfl,hdd (by have:=AE.out;rw [sS.out]at this;exact this),uH⟩
         ·have nN:=hdd (show ∀w,Calls Tryd.prog 50 #[.int .i64 2] w fun e w'=>e = .returned (.int .i64 (aQ 2))/\ah w w' from ae0 2 aW)
          have AE:=hdd (Au.next (k:=2) O1.out Ie.out aW)
          have nY:=hdd fun w' (hb:ah w5 w')=>ae1 (size:=aQ 2) ((iD.below hb aH).at af) Qw.out aW aW
          have rM:=hdd fun w' (hb:ah W0 w')=>bf.out w' hb
          clear x0 x1 x2 x3 x4 x5 x6 x7
          cases hro:bW l (aQ 2) with
          |none=>
           have sS:=hdd (sZ (t:=b.tree 2) hro)
           rw [hro]at nY
           clear hro
           cases hal:allT b.t2 with
           |none=>
            rw [hal]at rM
            clear hal
            go_wp2_with (first|(go_at_call 50;(with_reducible refine(nN.out _).mono ?_);rintro e wz ⟨rfl,hbz⟩;have adb:=Below.trans' hbk hbz hbk.size)|(go_at_call 49;(with_reducible refine(nY.out _ adb).mono ?_);rintro e wq ⟨uI,rfl⟩;have dS:=Below.trans' adb uI adb.size;have fZ:=Below.trans' cu dS cu.size;obtain⟨x0,x1,x2,x3,x4,x5,x6,x7⟩:=HX.out _ fZ)|(go_at_call 77;(with_reducible refine(rM.out _ fZ).mono ?_);rintro e wa ⟨je,E,hE,rfl⟩;have gN:=Below.trans' dS je dS.size))
            go_roundg (3-(2+1))
            case measure=>omega
            case rel=>exact⟨2+1,false,af,rfl,by go_num,rfl,hdd (by have:=AE.out;rw [sS.out]at this;exact this),gN⟩
           |some c=>
            rw [hal]at rM
            clear hal
            go_wp2_with (first|(go_at_call 50;(with_reducible refine(nN.out _).mono ?_);rintro e wz ⟨rfl,hbz⟩;have adb:=Below.trans' hbk hbz hbk.size)|(go_at_call 49;(with_reducible refine(nY.out _ adb).mono ?_);rintro e wq ⟨uI,rfl⟩;have dS:=Below.trans' adb uI adb.size;have fZ:=Below.trans' cu dS cu.size;obtain⟨x0,x1,x2,x3,x4,x5,x6,x7⟩:=HX.out _ fZ)|(go_at_call 77;(with_reducible refine(rM.out _ fZ).mono ?_);rintro e wa ⟨je,va,rfl,zH⟩;have gN:=Below.trans' dS je dS.size;obtain⟨sA,cA,rfl⟩:=zH.isSlice))
            go_roundg (3-(2+1))
            case measure=>omega
            case rel=>exact⟨2+1,false,af,rfl,by go_num,rfl,hdd (by have:=AE.out;rw [sS.out]at this;exact this),gN⟩
          |some a=>
           rw [hro]at nY
           have Ld:=hdd (oV (eu (ir 2) Qw.out) hro)
           cases hal:allT b.t2 with
           |none=>
            have sS:=hdd (show fE l (b.tree 2) (aQ 2)=false from sY hal)
            rw [hal]at rM
            clear hal hro
            go_wp2_with (first|(go_at_call 50;(with_reducible refine(nN.out _).mono ?_);rintro e wz ⟨rfl,hbz⟩;have adb:=Below.trans' hbk hbz hbk.size)|(go_at_call 49;(with_reducible refine(nY.out _ adb).mono ?_);rintro e wq ⟨uI,vq,rfl,zG⟩;have dS:=Below.trans' adb uI adb.size;have fZ:=Below.trans' cu dS cu.size;obtain⟨x0,x1,x2,x3,x4,x5,x6,x7⟩:=HX.out _ fZ;obtain⟨sQ,cQ,rfl⟩:=zG.isSlice)|(go_at_call 77;(with_reducible refine(rM.out _ fZ).mono ?_);rintro e wa ⟨je,E,hE,rfl⟩;have gN:=Below.trans' dS je dS.size;have hE2:(E == 0)=false:=by simpa using hE))
            go_roundg (3-(2+1))
            case measure=>omega
            case rel=>exact⟨2+1,false,af,rfl,by go_num,rfl,hdd (by have:=AE.out;rw [sS.out]at this;exact this),gN⟩
           |some c=>
            have sS:=hdd (show fE l (b.tree 2) (aQ 2)=decide (a=c)from lU hro hal)
            have yr:=hdd (fB hal)
            rw [hal]at rM
            clear hal hro
            go_wp2_with (first|(go_at_call 50;(with_reducible refine(nN.out _).mono ?_);rintro e wz ⟨rfl,hbz⟩;have adb:=Below.trans' hbk hbz hbk.size)|(go_at_call 49;(with_reducible refine(nY.out _ adb).mono ?_);rintro e wq ⟨uI,vq,rfl,zG⟩;have dS:=Below.trans' adb uI adb.size;have fZ:=Below.trans' cu dS cu.size;obtain⟨x0,x1,x2,x3,x4,x5,x6,x7⟩:=HX.out _ fZ;obtain⟨sQ,cQ,rfl⟩:=zG.isSlice)|(go_at_call 77;(with_reducible refine(rM.out _ fZ).mono ?_);rintro e wa ⟨je,va,rfl,zH⟩;have gN:=Below.trans' dS je dS.size;obtain⟨sA,cA,rfl⟩:=zH.isSlice;have qF:=hdd (adn ((zG.below je aH).at (by have:=Ld.out.2.2;omega)) (zH.at (by have:=yr.out.2.2.2;omega))))|(go_at_call 52;(with_reducible refine qF.out.mono ?_);rintro e ws ⟨rfl,hbs⟩;have uH:=Below.trans' gN hbs gN.size))
            go_roundg (3-(2+1))
            case measure=>omega
            case rel=>exact⟨2+1,(decide (a=c)),af,rfl,by go_num,rfl,hdd (by have:=AE.out;rw [sS.out]at this;exact this),uH⟩
         ·have Ib:=hdd (Ie.out.end O1.out RH.out Il.out HI3.out ach.out)
          go_wp2
          go_ret
          exact⟨dP Ib.out.symm,HB.out _ ahZ⟩
   ·have e3:(R != 0)=true:=by simp [i3]
    have nI:=hdd (ij fun h:nB b=>i3 (HR.out.symm.trans h.fl2))
    clear i1 i3 hR
    go_wp2_with ((go_at_call 76;refine(ac2 _ _ _ _).mono ?_;rintro e w1 ⟨rfl,rfl⟩))
    go_ret
    exact⟨dP nI.out.symm,hb0⟩
  ·have UU:av b.floor 0 1048575=false:=by simpa using i2
   have nI:=hdd (ij fun h:nB b=>i2 (by simp [av];exact⟨h.Y9,h.XC⟩))
   clear i1 i2
   go_wp2_with ((go_at_call 76;refine(ac2 _ _ _ _).mono ?_;rintro e w1 ⟨rfl,rfl⟩))
   go_ret
   exact⟨dP nI.out.symm,hb0⟩
 ·have e1:decide ((16:Int)<(b.names.length:Int))=true:=by simp;omega
  have nI:=hdd (ij fun h:nB b=>i1 h.n16)
  clear i1
  go_wp2
  go_ret
  exact⟨dP nI.out.symm,hb0⟩
end
section
set_option maxRecDepth 100000
set_option maxHeartbeats 2000000
variable {b:Ba} {fl:Int} {ns:List ByteArray} {l:List aC}
noncomputable def CR (b:Ba) (names:List ByteArray) (floor:Int) (l:List aC):Bool:=aO b && decide (b.floor=floor) && decide (b.names=names) && decide (bY b=some l)
theorem agZ (h:aO b=false):CR b ns fl l=false:=by simp [CR,h]
theorem agR (h:b.floor≠fl):CR b ns fl l=false:=by simp [CR,h]
theorem af7 (h:b.names≠ns):CR b ns fl l=false:=by simp [CR,h]
theorem Kz {m:List aC} (h1:aO b=true) (h2:b.floor=fl) (h3:b.names=ns) (h4:bY b=some m):CR b ns fl l=decide (m=l):=by simp [CR,h1,h2,h3,h4]
theorem aiE {v nv lv:Value} {w:World} (h:bO w v b) (hst:∀s∈b.names,s.size<=140737488351232) (hns:jN w nv ns) (hl:fu w lv l) :
  Calls Tryd.prog 27 #[v,nv, .int .i64 fl,lv] w fun e w'=>e = .returned (.bool (CR b ns fl l))/\ah w w':=by
 obtain⟨sa,sc,g0,l0,p0,g1,l1,p1,g2,l2,p2,rfl,hn,jl,T0,T1,T2⟩:=h.open
 obtain⟨na,nc,rfl⟩:=hns.isSlice
 obtain⟨la,lc,rfl⟩:=hl.isSlice
 have hnl:=hns.len aW
 obtain⟨W0,hW0⟩:=bP (w.alloc (.cells (aG sa b.names.length sc g0 l0 p0 g1 l1 p1 g2 l2 p2 b) 35))
 have hb0:ah w W0:=by rw [hW0];exact ag
 have hz0:W0.heap.size=w.heap.size+1:=by rw [hW0];simp
 have k0:W0.heap[w.heap.size]?=some (.cells (aG sa b.names.length sc g0 l0 p0 g1 l1 p1 g2 l2 p2 b) 35):=by rw [hW0];exact aj _ _ rfl
 have HX:=hdd fun w' (hb:ah W0 w')=>(by
  have b0:w'.heap[w.heap.size]?=_:=(hb.block _ af).trans k0
  simp [World.cell?,b0] :
  w'.cell? ⟨w.heap.size,0,none⟩=some (.slice sa b.names.length sc)/\w'.cell? ⟨w.heap.size,1,none⟩=some (.slice g0 l0 p0)/\w'.cell? ⟨w.heap.size,2,none⟩=some (.int .i64 b.t0.root)/\w'.cell? ⟨w.heap.size,3,none⟩=some (.slice g1 l1 p1)/\w'.cell? ⟨w.heap.size,4,none⟩=some (.int .i64 b.t1.root)/\w'.cell? ⟨w.heap.size,5,none⟩=some (.slice g2 l2 p2)/\w'.cell? ⟨w.heap.size,6,none⟩=some (.int .i64 b.t2.root)/\w'.cell? ⟨w.heap.size,7,none⟩=some (.int .i64 b.floor))
 have HB:=hdd fun w' (hb:ah W0 w')=>(Below.trans' hb0 hb hb0.size:ah w w')
 have K3:=hdd h
 have C0:=hdd (aeT (h.below hb0) hst)
 have XL:=hdd jl
 have bp:=hdd hns
 have HL:=hdd hl
 obtain⟨x0,x1,x2,x3,x4,x5,x6,x7⟩:=HX.out W0 (aI _ _)
 clear T0 T1 T2 h jl hst hns hl
 go_enter Tryd.func27,Tryd.ntmps27
 go_upto_region 1 with (fail)
 rw [<-hW0]
 clear hW0 k0
 cases hm:aO b with
 |false=>
  have nI:=hdd (agZ (ns:=ns) (fl:=fl) (l:=l) hm)
  rw [hm]at C0
  clear hm
  go_wp2_with ((go_at_call 43;(with_reducible refine C0.out.mono ?_);rintro e w1 ⟨rfl,hb1⟩;obtain⟨x0,x1,x2,x3,x4,x5,x6,x7⟩:=HX.out _ hb1))
  go_ret
  exact⟨dP nI.out.symm,HB.out _ hb1⟩
 |true=>
  have HM:=hdd hm
  rw [hm]at C0
  clear hm
  by_cases i1:b.floor=fl
  ·have e1:(b.floor != fl)=false:=by simp [i1]
   have Il:=hdd i1
   by_cases i2:b.names.length=ns.length
   ·have e2:((b.names.length:Int) != (ns.length:Int))=false:=by simp [i2]
    have Aw:=hdd i2
    have hle:ns.length<=b.names.length:=af
    clear i1 i2
    go_wp2_with ((go_at_call 43;(with_reducible refine C0.out.mono ?_);rintro e w1 ⟨rfl,hb1⟩;obtain⟨VA,ZC,ZB,ZA,Kp,Kn,H5,H4⟩:=HX.out _ hb1))
    clear x0 x1 x2 x3 x4 x5 x6 x7 VA ZC ZB ZA Kp Kn H5 H4
    go_loopg [9] ns.length (fun g i wr=>∃k:Nat,k<=ns.length/\g=ns.length-k/\i = .int .i64 k/\Hid (ns.take k=b.names.take k)/\ah W0 wr)
    case atStart=>exact⟨0,jd _,rfl,rfl,hdd rfl,hb1⟩
    case round=>
     obtain⟨k,hk,rfl,rfl,HE,hb⟩:=hrel
     obtain⟨x0,x1,x2,x3,x4,x5,x6,x7⟩:=HX.out _ hb
     by_cases hlt:k<ns.length
     ·obtain⟨_,_,va,-,-,-,-,a5⟩:=XL.out
      obtain⟨_,_,vb,-,-,-,-,b5⟩:=bp.out
      have Wu:k<b.names.length:=af
      obtain⟨ab,aV,ha,sO,ac⟩:=a5 af
      obtain⟨bb,ahh,hb',ub,bc⟩:=b5 af
      injection va with ZF _ ZE
      injection vb with vb1 _ Mo
      subst ZF ZE vb1 Mo ha hb'
      have e0:=vL (HB.out _ hb) sO ac Wu
      have e3:=vL (HB.out _ hb) ub bc hlt
      obtain⟨s,hs⟩:=bt (b.names[k])
      obtain⟨t,ht⟩:=bt (ns[k])
      rw [hs]at e0
      rw [ht]at e3
      have HS:=hdd hs
      have HTT:=hdd ht
      have jS:=fun w'=>CA (ab:=ab) (aV:=aV) (n:=b.names.length) (cap:=sc) (show (k:Int)=((k:Nat):Int) by rfl) Wu w'
      have MQ:=fun w'=>CA (ab:=bb) (aV:=ahh) (n:=ns.length) (cap:=nc) (show (k:Int)=((k:Nat):Int) by rfl) hlt w'
      have K5:=Lv t s
      clear hs ht a5 b5 ac bc
      by_cases hts:t=s
      ·have Yh:=hdd (Ck HE.out hlt Wu (by rw [HS.out,HTT.out];exact hts))
       have We:decide (t=s)=true:=by simp [hts]
       rw [We]at K5
       have hne:(t.toList != s.toList)=false:=by simp only [bne,K5];rfl
       clear hts We
       go_wp2_with fail
       go_quiet (fail)
       go_wp2
       go_roundg (ns.length-(k+1))
       case measure=>omega
       case rel=>exact⟨k+1,af,rfl,by go_num,Yh,ag⟩
      ·have nI:=hdd (af7 (b:=b) (ns:=ns) (fl:=fl) (l:=l) (fun h=>by subst h;exact hts (HTT.out.symm.trans HS.out)))
       have We:decide (t=s)=false:=by simp [hts]
       rw [We]at K5
       have hne:(t.toList != s.toList)=true:=by simp only [bne,K5];rfl
       clear hts We
       go_wp2_with fail
       go_quiet (fail)
       go_wp2
       go_ret
       exact⟨dP nI.out.symm,by have:=HB.out _ hb;exact ag⟩
     ·have Oa:=hdd (show b.names=ns by
       have:=HE.out
       rw [lI af,lI (by have:=Aw.out;omega)]at this
       exact this.symm)
      obtain⟨m,hbk⟩:∃m,bY b=some m:=by obtain⟨m,e,_⟩:=(dH HM.out).trees;exact⟨m,e⟩
      have pc:=hdd (af6 (K3.out.below (HB.out _ hb)))
      have HEQ:=hdd (Kz (l:=l) HM.out Il.out Oa.out hbk)
      have AX:m.length<=50000:=(gw hbk).2.2.2
      have HLB:=hdd (HL.out.below (HB.out _ hb) aH)
      rw [hbk]at pc
      clear hbk
      go_wp2_with (first
       |(go_at_call 47;(with_reducible refine pc.out.mono ?_);rintro e w5 ⟨cu,v5,rfl,iD⟩;have eK:=Below.trans' hb cu hb.size;obtain⟨s5,c5,rfl⟩:=iD.isSlice;have qF:=hdd (adn (iD.at af) (HLB.out.below cu aH)))
       |(go_at_call 52;(with_reducible refine qF.out.mono ?_);rintro e w6 ⟨rfl,jf⟩;have aeh:=Below.trans' eK jf eK.size))
      go_ret
      exact⟨dP HEQ.out.symm,HB.out _ aeh⟩
   ·have e2:((b.names.length:Int) != (ns.length:Int))=true:=by simp;omega
    have nI:=hdd (af7 (b:=b) (ns:=ns) (fl:=fl) (l:=l) (fun h=>i2 (by rw [h])))
    clear i1 i2
    go_wp2_with ((go_at_call 43;(with_reducible refine C0.out.mono ?_);rintro e w1 ⟨rfl,hb1⟩;obtain⟨VA,ZC,ZB,ZA,Kp,Kn,H5,H4⟩:=HX.out _ hb1))
    go_ret
    exact⟨dP nI.out.symm,HB.out _ hb1⟩
  ·have e1:(b.floor != fl)=true:=by simp [i1]
   have nI:=hdd (agR (b:=b) (ns:=ns) (fl:=fl) (l:=l) i1)
   clear i1
   go_wp2_with ((go_at_call 43;(with_reducible refine C0.out.mono ?_);rintro e w1 ⟨rfl,hb1⟩;obtain⟨VA,ZC,ZB,ZA,Kp,Kn,H5,H4⟩:=HX.out _ hb1))
   go_ret
   exact⟨dP nI.out.symm,HB.out _ hb1⟩
end
end Go.Proofs.YtmljjfhgciaceaaDoor
