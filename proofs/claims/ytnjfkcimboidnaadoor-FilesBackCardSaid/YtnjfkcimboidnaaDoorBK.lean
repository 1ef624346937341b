/- Texts of mine that come as one: NameR NameMay OpenStr NameB Copy BaseC LawCopies BaseCopy Book BaseMay BaseIs Knows. -/
import Derived.Test.YtnjfkcimboidnaaDoorKG
import Derived.Deep.RegionHeld3
import Derived.Deep.CutBlock
import Derived.Lib.SmallJoins
import Derived.Deep.AppendLies
import Derived.Test.YtnjfkcimboidnaaDoorSX
import Derived.Test.YtnjfkcimboidnaaDoorPA
import Derived.Lib.LazyBuf
import Derived.BigQuiet
import Derived.Deep.QuietTactic
/- The walk of the reference's NameMay. -/
namespace Go.Proofs.YtnjfkcimboidnaaDoor
open Go.RowKit
def okByte (c:Int):Bool:=decide ((97≤c∧c≤122)∨(48≤c∧c≤57)∨c=46)
theorem all_take_step {l:List Int} {k:Nat} (hk:k<l.length) (ha:(l.take k).all okByte=true) (hb:okByte l[k]=true):(l.take (k+1)).all okByte=true:=by
 rw [List.take_succ_eq_append_getElem hk,List.all_append,ha];simp [hb]
def nums (s:ByteArray):List Int:=s.data.toList.map fun b=>(b.toNat:Int)
def nameMay (s:ByteArray):Bool:=decide (1≤s.size∧s.size≤10) && (nums s).all okByte
theorem nums_length (s:ByteArray):(nums s).length=s.size:=by simp [nums]
theorem nums_range (s:ByteArray):∀c∈nums s,0≤c∧c≤255:=by
 intro c hc
 obtain⟨b,_,rfl⟩:=List.mem_map.1 hc
 have:=b.toNat_lt
 omega
end Go.Proofs.YtnjfkcimboidnaaDoor

/- The walks of base.Name, of the library's ContainsFunc and IndexFunc at its closure, and of the reference's NameMay. -/
namespace Go.Proofs.YtnjfkcimboidnaaDoor
open Go.RowKit
set_option maxHeartbeats 1000000 in
theorem nameClosure_any (c:Int) (w:World) (h0:0≤c) (h1:c≤255):Calls Tryd.prog 80 #[.int .u8 c] w fun e w'=>e = .returned (.bool (!okByte c))∧w=w':=by
 go_enter Tryd.func80,Tryd.ntmps80
 go_wp2
 all_goals (go_ret;refine⟨ret_bool ?_,rfl⟩)
 all_goals (rw [Bool.eq_iff_iff];simp [okByte];omega)
def firstBad (l:List Int):Int:=if l.all okByte then -1 else(l.findIdx (fun c=>!okByte c):Nat)
theorem firstBad_none {l:List Int} (h:l.all okByte=true):firstBad l = -1:=by simp [firstBad,h]
theorem firstBad_at {l:List Int} {k:Nat} (hk:k<l.length) (ha:(l.take k).all okByte=true) (hb:okByte l[k]=false):firstBad l=k:=by
 have hn:l.all okByte=false:=by
  rw [Bool.eq_false_iff];intro h
  have:=List.all_eq_true.1 h l[k] (List.getElem_mem hk)
  rw [hb]at this;cases this
 have:l.findIdx (fun c=>!okByte c)=k:=by
  rw [List.findIdx_eq hk]
  refine⟨by simp [hb],fun j hj=>?_⟩
  have:=List.all_eq_true.1 ha l[j] (by rw [List.mem_take_iff_getElem];exact⟨j,by omega,rfl⟩)
  simp [this]
 simp [firstBad,hn,this]
theorem firstBad_nonneg {l:List Int}:(decide (0≤firstBad l)) = !l.all okByte:=by
 cases h:l.all okByte
 ·simp [firstBad,h]
 ·simp [firstBad,h]
def enByte (n:Int):List Value:=[.int .u8 n]
abbrev BytesAt (w:World) (v:Value) (xs:List Int):Prop:=SlAt 1 1 enByte w v xs
theorem byte_cell {w wr:World} {b off k:Nat} {xs:List Int} (hb:Below w.heap.size w wr) (hbb:b<w.heap.size)
  (h:∀i x,xs[i]?=some x→∀j u,(enByte x)[j]?=some u→w.cell? ⟨b,off+i*1+j,none⟩=some u) (hk:k<xs.length) :
  wr.cell? ⟨b,off+k,none⟩=some (.int .u8 xs[k]):=by
 have:=(hb.cell (p:=⟨b,_,none⟩) hbb).trans (h k xs[k] (by simp [hk]) 0 _ rfl)
 simpa using this
set_option maxHeartbeats 1000000 in
theorem indexFunc_any {v:Value} {xs:List Int} {w:World} (ha:BytesAt w v xs) (hq:∀c∈xs,0≤c∧c≤255) :
  Calls Tryd.prog 94 #[v, .func (.func 80) #[] #[]] w fun e w'=>e = .returned (.int .i64 (firstBad xs))∧w=w':=by
 obtain⟨ao,ca,rfl,a1,a2,a3,a4,a5⟩:=ha
 go_enter Tryd.func94,Tryd.ntmps94
 go_wp2_with fail
 go_loopg [5,8] xs.length (fun g _ i wr=>∃k:Nat,k≤xs.length∧g=xs.length-k∧i = .int .i64 k∧Hid ((xs.take k).all okByte=true)∧w=wr)
 case atStart=>exact⟨0,Nat.zero_le _,rfl,rfl,Lib.hid (by simp),rfl⟩
 case round=>
  obtain⟨k,hk,rfl,rfl,HE,rfl⟩:=hrel
  by_cases hlt:k<xs.length
  ·obtain⟨ab,aoff,rfl,abb,ac⟩:=a5 (by omega)
   have c0:=byte_cell (Below.refl _ _) abb ac hlt
   clear ac a5
   obtain⟨q0,q1⟩:=hq _ (List.getElem_mem hlt)
   obtain⟨c,hc⟩:∃c,xs[k]=c:=⟨_,rfl⟩
   rw [hc]at c0 q0 q1
   have EC:=Lib.hid hc
   clear hc
   cases hok:okByte c
   ·have hfin:firstBad xs=k:=firstBad_at hlt HE.out (by rw [EC.out];exact hok)
    have HF:=Lib.hid hfin
    clear hfin
    go_wp2_with (go_at_call 80;refine(nameClosure_any _ _ (by omega) (by omega)).mono ?_;rintro e w1 ⟨rfl,rfl⟩)
    go_ret
    exact⟨ret_int HF.out.symm,rfl⟩
   ·have HK:=Lib.hid hok
    go_wp2_with (go_at_call 80;refine(nameClosure_any _ _ (by omega) (by omega)).mono ?_;rintro e w1 ⟨rfl,rfl⟩)
    go_roundg (xs.length-(k+1))
    case measure=>omega
    case rel=>exact⟨k+1,by omega,rfl,by go_num,Lib.hid (all_take_step hlt HE.out (by rw [EC.out];exact HK.out)),rfl⟩
  ·have hfin:firstBad xs = -1:=firstBad_none (by have:=HE.out;rwa [List.take_of_length_le (by omega)]at this)
   have HF:=Lib.hid hfin
   clear hfin
   go_wp2
   go_ret
   exact⟨ret_int HF.out.symm,rfl⟩
theorem containsFunc_any {v:Value} {xs:List Int} {w:World} (ha:BytesAt w v xs) (hq:∀c∈xs,0≤c∧c≤255) :
  Calls Tryd.prog 79 #[v, .func (.func 80) #[] #[]] w fun e w'=>e = .returned (.bool (!xs.all okByte))∧w=w':=by
 obtain⟨z,hz⟩:∃z,firstBad xs=z:=⟨_,rfl⟩
 have hres:decide (0≤z) = !xs.all okByte:=by rw [←hz];exact firstBad_nonneg
 have HR:=Lib.hid hres
 have h:=indexFunc_any ha hq
 rw [hz]at h
 have H:=Lib.hid h
 clear h hres hz
 go_enter Tryd.func79,Tryd.ntmps79
 go_wp2_with (go_at_call 94;refine H.out.mono ?_;rintro e w1 ⟨rfl,rfl⟩)
 go_ret
 exact⟨ret_bool HR.out,rfl⟩
end Go.Proofs.YtnjfkcimboidnaaDoor

/- Arguments that are strings, read as data. -/
namespace Go.Proofs.YtnjfkcimboidnaaDoor
open Go.ChangeShapes Go.WideShapes Go.ChangeAt Go.RowKit Go.Deep
end Go.Proofs.YtnjfkcimboidnaaDoor

/- The walks of base.Name, of the reference's NameMay, and of the law BaseNames. -/
namespace Go.Proofs.YtnjfkcimboidnaaDoor
open Go.RowKit
theorem size_list (s:ByteArray):s.toList.length=s.size:=by rw [ByteArray.toList_eq];simp
theorem row_at (s:ByteArray) (cap i:Nat) (h:i<s.size):(bytesRow s cap)[i]?=some (.int .u8 ((nums s)[i]'(by rw [nums_length];exact h))):=by
 have h':i<s.data.size:=h
 simp [bytesRow,nums,Array.getElem?_append,h]
theorem bytesAt_new (s:ByteArray) (w:World) (e:TypeId) (m:Nat×Nat) (cap:Nat) (hc:s.size≤cap) (hm:cap≤9223372036854775807) (hs:s.size≤140737488351232) :
  BytesAt (w.alloc (.cells (bytesRow s cap) e m)).drew (.slice (some ⟨w.heap.size,0,none⟩) s.size cap) (nums s):=by
 refine⟨some ⟨w.heap.size,0,none⟩,cap,by rw [nums_length],by rw [nums_length];exact hc,hm,by rw [nums_length];omega,by simp,fun _=>⟨w.heap.size,0,rfl,by simp,fun i x hx j u hu=>?_⟩⟩
 obtain⟨hi,rfl⟩:=List.getElem?_eq_some_iff.1 hx
 rw [nums_length]at hi
 have hj:j=0:=by
  have:=(List.getElem?_eq_some_iff.1 hu).1
  simp [enByte]at this;omega
 subst hj
 simp [enByte]at hu
 subst hu
 have e1:(w.alloc (.cells (bytesRow s cap) e m)).drew.heap[w.heap.size]?=some (.cells (bytesRow s cap) e m):=by show (w.heap.push _)[w.heap.size]?=_;simp
 simp only [World.cell?,e1]
 simpa using row_at s cap i hi
set_option maxHeartbeats 1000000 in
theorem name_any (s:ByteArray) (w:World) (hs:s.size≤140737488351232):Calls Tryd.prog 53 #[.string s] w fun e w'=>e = .returned (.bool (nameMay s))∧Below w.heap.size w w':=by
 obtain⟨r,hr⟩:∃r,nameMay s=r:=⟨_,rfl⟩
 rw [hr]
 by_cases h0:s.size=0
 ·have hrf:false=r:=by rw [←hr];simp [nameMay,h0]
  have HR:=Lib.hid hrf
  have hse:s.toList=[]:=List.eq_nil_of_length_eq_zero (by rw [size_list];exact h0)
  clear hrf hr h0
  go_enter Tryd.func53,Tryd.ntmps53
  go_wp2_with fail
  go_ret
  exact⟨ret_bool HR.out,Below.refl _ _⟩
 ·have hse2:¬s.toList=[]:=fun h=>h0 (by rw [←size_list,h];rfl)
  have hse:s.toList.isEmpty=false:=by simpa using hse2
  by_cases h10:s.size≤10
  ·have hcv:=fun w=>run_bytes_of_string (P:=Tryd.prog) w 9 54 5 s Tryd.underlying9 Tryd.underlying54 Tryd.underlying5
   have hrf:(nums s).all okByte=r:=by rw [←hr];simp [nameMay];intro _;omega
   have HR:=Lib.hid hrf
   have hcap:=grownCap_ge w s.size 0 5
   have hcap2:=grownCap_le_maxLen w s.size 0 5 (by unfold maxLen;omega)
   have HC:=Lib.hid (containsFunc_any (bytesAt_new s w 5 ((bytesRow s (grownCap w s.size 0 5)).size,(bytesRow s (grownCap w s.size 0 5)).size+1) _ hcap (by unfold maxLen at hcap2;omega) hs) (nums_range s))
   clear hrf hr hcap hcap2
   go_enter Tryd.func53,Tryd.ntmps53
   go_wp2_with (go_at_call 79;refine HC.out.mono ?_;rintro e w1 ⟨rfl,rfl⟩)
   go_ret
   exact⟨ret_bool HR.out,(by repeat (first|exact Below.refl _ _|assumption|refine below_dn ?_ _|refine Below.drew ?_|refine Below.alloc ?_ (by simp <;> omega) _|refine Below.setCell ?_ (by simp <;> omega) _))⟩
  ·have hrf:false=r:=by rw [←hr];simp [nameMay];omega
   have HR:=Lib.hid hrf
   clear hrf hr
   go_enter Tryd.func53,Tryd.ntmps53
   go_wp2_with fail
   go_ret
   exact⟨ret_bool HR.out,Below.refl _ _⟩
end Go.Proofs.YtnjfkcimboidnaaDoor

/- The walk of tree.Copy. -/
namespace Go.Proofs.YtnjfkcimboidnaaDoor
open Go.RowKit
theorem raw_cells {w:World} {B g n cap k:Nat} {e:TypeId} {rs:List Raw} (h:w.ownsRow B e 5 (.slice (some ⟨g,0,none⟩) n cap) n (rs.flatMap enRaw)) (_hn:rs.length=n) (hk:k<rs.length) :
  w.cell? ⟨g,k*5,none⟩=some (.bool rs[k].leaf)∧w.cell? ⟨g,k*5+1,none⟩=some rs[k].ev∧w.cell? ⟨g,k*5+2,none⟩=some rs[k].kv∧w.cell? ⟨g,k*5+3,none⟩=some rs[k].dv∧w.cell? ⟨g,k*5+4,none⟩=some rs[k].bv ∧
  ∀o,w.frozen? ⟨g,o,none⟩=false:=by
 obtain⟨hl,⟨h0,_⟩|⟨g',cap',cur,e1,hb,hg,h1,h2,h3,h4⟩⟩:=h
 ·cases h0
 ·cases e1
  have q:∀j u,(enRaw rs[k])[j]?=some u→w.cell? ⟨g,k*5+j,none⟩=some u:=by
   intro j u hu
   have hf:=flat_at enRaw_length (xs:=rs) (i:=k) (x:=rs[k]) (by simp [hk]) hu
   rw [←h4,List.getElem?_take]at hf
   split at hf
   ·simp only [World.cell?,hg]
    simpa using hf
   ·cases hf
  exact⟨by simpa using q 0 _ rfl,q 1 _ rfl,q 2 _ rfl,q 3 _ rfl,q 4 _ rfl,fun o=>by simp [World.frozen?,hg]⟩
theorem owns_slice {w:World} {B size n:Nat} {e:TypeId} {v:Value} {us:List Value} (h:w.ownsRow B e size v n us):∃ao cap,v = .slice ao n cap:=by
 obtain⟨_,⟨rfl,rfl⟩|⟨g,cap,cur,rfl,_⟩⟩:=h
 ·exact⟨_,_,rfl⟩
 ·exact⟨_,_,rfl⟩
theorem owns_setOther {w:World} {B size n:Nat} {e:TypeId} {v:Value} {us:List Value} (h:w.ownsRow B e size v n us) {b o:Nat} (hb:b<B) (u:Value):(w.setCell ⟨b,o,none⟩ u).ownsRow B e size v n us:=by
 obtain⟨hl,h|⟨g,cap,cur,rfl,h1,h2,h3⟩⟩:=h
 ·exact⟨hl, .inl h⟩
 ·refine⟨hl, .inr ⟨g,cap,cur,rfl,h1,?_,h3⟩⟩
  have:b≠g:=by omega
  simp [World.setCell,Array.getElem?_modify,this,h2]
structure Sep (M g:Nat) (w w':World):Prop where
 size:w.heap.size≤w'.heap.size
 block:∀b,M≤b→b<w.heap.size→b≠g→w'.heap[b]?=w.heap[b]?
theorem Sep.refl (M g:Nat) (w:World):Sep M g w w:=⟨Nat.le_refl _,fun _ _ _ _=>rfl⟩
theorem Sep.trans {M g:Nat} {w w1 w2:World} (h:Sep M g w w1) (h':Sep M g w1 w2):Sep M g w w2:=
 ⟨Nat.le_trans h.size h'.size,fun b hm hb hg=>(h'.block b hm (Nat.lt_of_lt_of_le hb h.size) hg).trans (h.block b hm hb hg)⟩
theorem Sep.of {M g B:Nat} {w w':World} (h:Below B w w') (hB:w.heap.size≤B):Sep M g w w':=⟨h.size,fun b _ hb _=>h.block b (by omega)⟩
theorem Sep.set {M g:Nat} {w w':World} (h:Sep M g w w') {b o:Nat} (hb:b=g∨b<M) (u:Value):Sep M g w (w'.setCell ⟨b,o,none⟩ u):=by
 refine⟨by rw [heap_setCell_size];exact h.size,fun j hm hj hg=>?_⟩
 have:b≠j:=by omega
 rw [←h.block j hm hj hg]
 simp [World.setCell,Array.getElem?_modify,this]
theorem Sep.drew {M g:Nat} {w w':World} (h:Sep M g w w'):Sep M g w w'.drew:=⟨h.size,h.block⟩
theorem owns_sep {w w':World} {M g B size n:Nat} {e:TypeId} {v:Value} {us:List Value} (h:w.ownsRow B e size v n us) (hs:Sep M g w w') (hM:M≤B) (hg:g<B):w'.ownsRow B e size v n us:=by
 obtain⟨hl,h|⟨g',cap,cur,rfl,h1,h2,h3⟩⟩:=h
 ·exact⟨hl, .inl h⟩
 ·exact⟨hl, .inr ⟨g',cap,cur,rfl,h1,(hs.block g' (by omega) (Array.getElem?_eq_some_iff.1 h2).1 (by omega)).trans h2,h3⟩⟩
theorem owns_below {w w':World} {B size n:Nat} {e:TypeId} {v:Value} {us:List Value} (h:w.ownsRow B e size v n us) (hs:Below w.heap.size w w'):w'.ownsRow B e size v n us:=by
 obtain⟨hl,h|⟨g',cap,cur,rfl,h1,h2,h3⟩⟩:=h
 ·exact⟨hl, .inl h⟩
 ·exact⟨hl, .inr ⟨g',cap,cur,rfl,h1,(hs.block g' (Array.getElem?_eq_some_iff.1 h2).1).trans h2,h3⟩⟩
structure Keep (M:Nat) (w w':World):Prop where
 size:w.heap.size≤w'.heap.size
 block:∀b,M≤b→b<w.heap.size→w'.heap[b]?=w.heap[b]?
theorem Keep.refl (M:Nat) (w:World):Keep M w w:=⟨Nat.le_refl _,fun _ _ _=>rfl⟩
theorem Keep.trans {M:Nat} {w w1 w2:World} (h:Keep M w w1) (h':Keep M w1 w2):Keep M w w2:=
 ⟨Nat.le_trans h.size h'.size,fun b hm hb=>(h'.block b hm (Nat.lt_of_lt_of_le hb h.size)).trans (h.block b hm hb)⟩
theorem Keep.of {M B:Nat} {w w':World} (h:Below B w w') (hB:w.heap.size≤B):Keep M w w':=⟨h.size,fun b _ hb=>h.block b (by omega)⟩
theorem Keep.mono {M N:Nat} {w w':World} (h:Keep M w w') (hN:M≤N):Keep N w w':=⟨h.size,fun b hm hb=>h.block b (by omega) hb⟩
theorem Keep.set {M:Nat} {w w':World} (h:Keep M w w') {p:Addr} (hb:p.block<M) (u:Value):Keep M w (w'.setCell p u):=by
 refine⟨by rw [heap_setCell_size];exact h.size,fun j hm hj=>?_⟩
 rw [←h.block j hm hj];exact Below.heap_setCell w' p u j (by omega)
theorem Keep.drew {M:Nat} {w w':World} (h:Keep M w w'):Keep M w w'.drew:=⟨h.size,h.block⟩
theorem Keep.sep {M g:Nat} {w w':World} (h:Keep M w w'):Sep M g w w':=⟨h.size,fun b hm hb _=>h.block b hm hb⟩
theorem owns_keep {w w':World} {M B size n:Nat} {e:TypeId} {v:Value} {us:List Value} (h:w.ownsRow B e size v n us) (hs:Keep M w w') (hM:M≤B):w'.ownsRow B e size v n us:=by
 obtain⟨hl,h|⟨g',cap,cur,rfl,h1,h2,h3⟩⟩:=h
 ·exact⟨hl, .inl h⟩
 ·exact⟨hl, .inr ⟨g',cap,cur,rfl,h1,(hs.block g' (by omega) (Array.getElem?_eq_some_iff.1 h2).1).trans h2,h3⟩⟩
theorem cloneEnt_sep {v:Value} {xs:List Ent} {w W5:World} {M g:Nat} (h:EntsAt w v xs) (hM:M≤w.heap.size) (hg:g<w.heap.size) (h5:Below W5.heap.size W5 w) :
  Calls Tryd.prog 72 #[v] w fun e w'=>∃ao cap,e = .returned (.slice ao xs.length cap)∧Below W5.heap.size W5 w'∧(Hid (∀w'',Sep M g w' w''→EntsAt w'' (.slice ao xs.length cap) xs))∧Below w.heap.size w w':=
 (cloneEnt_any h).mono fun e w' ⟨v',e1,h1,h2⟩=>by
  obtain⟨ao,cap,rfl⟩:=owns_slice h1
  exact⟨ao,cap,e1,Below.trans' h5 h2 h5.size,Lib.hid (fun w'' hs=>SlAt.owned enEnt_length (owns_sep h1 hs hM hg) rfl (by obtain⟨_,_,_,_,_,h,_⟩:=h;exact h)),h2⟩
theorem cloneInt_sep {v:Value} {xs:List Int} {w W5:World} {M g:Nat} (h:IntsAt w v xs) (hM:M≤w.heap.size) (hg:g<w.heap.size) (h5:Below W5.heap.size W5 w) :
  Calls Tryd.prog 88 #[v] w fun e w'=>∃ao cap,e = .returned (.slice ao xs.length cap)∧Below W5.heap.size W5 w'∧(Hid (∀w'',Sep M g w' w''→IntsAt w'' (.slice ao xs.length cap) xs))∧Below w.heap.size w w':=
 (cloneInt_any h).mono fun e w' ⟨v',e1,h1,h2⟩=>by
  obtain⟨ao,cap,rfl⟩:=owns_slice h1
  exact⟨ao,cap,e1,Below.trans' h5 h2 h5.size,Lib.hid (fun w'' hs=>SlAt.owned enInt_length (owns_sep h1 hs hM hg) rfl (by obtain⟨_,_,_,_,_,h,_⟩:=h;exact h)),h2⟩
structure CopyAt (w:World) (rs:List Raw) (xs:List Nd) (gv:Value) (r0:Int) (k:Nat) (wr:World):Prop where
 own:∃rs':List Raw,wr.ownsRow (w.heap.size+2) 133 5 gv rs.length (rs'.flatMap enRaw)∧rs'.length=rs.length∧(∀(i:Nat) r x,i<k→rs'[i]?=some r→xs[i]?=some x→∀g,gv.ownBlock=some g→∀w',Sep (w.heap.size+2) g wr w'→NodeAt w' r x)∧∀i:Nat,k≤i→rs'[i]?=rs[i]?
 below:Below w.heap.size w wr
 size:w.heap.size+2≤wr.heap.size
 c0:wr.cell? ⟨w.heap.size,0,none⟩=some gv
 c1:wr.cell? ⟨w.heap.size,1,none⟩=some (.int .i64 r0)
 cf:∀o,wr.frozen? ⟨w.heap.size,o,none⟩=false
 d0:∃u,wr.cell? ⟨w.heap.size+1,0,none⟩=some u
 d1:∃u,wr.cell? ⟨w.heap.size+1,1,none⟩=some u
 df:∀o,wr.frozen? ⟨w.heap.size+1,o,none⟩=false
theorem copy_step {w wr W5 wl:World} {rs rs':List Raw} {xs:List Nd} {g gc k:Nat} {r0:Int} {xk:Nd} (rn:Raw)
  (ho:wr.ownsRow (w.heap.size+2) 133 5 (.slice (some ⟨g,0,none⟩) rs.length gc) rs.length (rs'.flatMap enRaw)) (hl':rs'.length=rs.length)
  (hdone:∀(i:Nat) r x,i<k→rs'[i]?=some r→xs[i]?=some x→∀g',(Value.slice (some ⟨g,0,none⟩) rs.length gc).ownBlock=some g'→∀w',Sep (w.heap.size+2) g' wr w'→NodeAt w' r x)
  (hrest:∀i:Nat,k≤i→rs'[i]?=rs[i]?) (hg1:w.heap.size+2≤g) (hg2:g<wr.heap.size) (hlt:k<rs.length) (hxk:xs[k]?=some xk)
  (hbw:Below w.heap.size w wr) (_hsz:w.heap.size+2≤wr.heap.size) (hw5:Below wr.heap.size wr W5) (B:Below W5.heap.size W5 wl)
  (c0:wr.cell? ⟨w.heap.size,0,none⟩=some (.slice (some ⟨g,0,none⟩) rs.length gc)) (c1:wr.cell? ⟨w.heap.size,1,none⟩=some (.int .i64 r0)) (cf:∀o,wr.frozen? ⟨w.heap.size,o,none⟩=false)
  {u0 u1:Value} (d0:wr.cell? ⟨w.heap.size+1,0,none⟩=some u0) (d1:wr.cell? ⟨w.heap.size+1,1,none⟩=some u1) (df:∀o,wr.frozen? ⟨w.heap.size+1,o,none⟩=false)
  (HN:∀w'',Sep (w.heap.size+2) g wl w''→NodeAt w'' rn xk) :
  CopyAt w rs xs (.slice (some ⟨g,0,none⟩) rs.length gc) r0 (k+1) (((((wl.setCell ⟨g,k*5,none⟩ (.bool rn.leaf)).setCell ⟨g,k*5+1,none⟩ rn.ev).setCell ⟨g,k*5+2,none⟩ rn.kv).setCell ⟨g,k*5+3,none⟩ rn.dv).setCell ⟨g,k*5+4,none⟩ rn.bv):=by
 have bl:Below wr.heap.size wr wl:=Below.trans' hw5 B hw5.size
 obtain⟨wx,hwx⟩:∃wx,wx=(((((wl.setCell ⟨g,k*5,none⟩ (.bool rn.leaf)).setCell ⟨g,k*5+1,none⟩ rn.ev).setCell ⟨g,k*5+2,none⟩ rn.kv).setCell ⟨g,k*5+3,none⟩ rn.dv).setCell ⟨g,k*5+4,none⟩ rn.bv):=⟨_,rfl⟩
 have hown:wx.ownsRow (w.heap.size+2) 133 5 (.slice (some ⟨g,0,none⟩) rs.length gc) rs.length ((rs'.set k rn).flatMap enRaw):=by
  rw [hwx];exact ownsRow_set5 (owns_below ho bl) hlt hl'.symm
 have hsep:Sep (w.heap.size+2) g wl wx:=by
  rw [hwx];exact((((((Sep.refl _ _ wl).set (.inl rfl) _).set (.inl rfl) _).set (.inl rfl) _).set (.inl rfl) _).set (.inl rfl) _)
 have hbx:Below w.heap.size w wx:=by
  rw [hwx]
  have h0:Below w.heap.size w wl:=Below.trans' hbw bl hbw.size
  exact((((h0.setCell (by simp <;> omega) _).setCell (by simp <;> omega) _).setCell (by simp <;> omega) _).setCell (by simp <;> omega) _).setCell (by simp <;> omega) _
 have hblk:∀b,b<w.heap.size+2→wx.heap[b]?=wr.heap[b]?:=fun b hb=>by
  rw [hwx,←bl.block b (by omega)]
  have:g≠b:=by omega
  simp [World.setCell,Array.getElem?_modify,this]
 have hcell:∀b o,b<w.heap.size+2→wx.cell? ⟨b,o,none⟩=wr.cell? ⟨b,o,none⟩:=fun b o hb=>World.cell?_of_block (hblk b hb)
 have hfro:∀b o,b<w.heap.size+2→wx.frozen? ⟨b,o,none⟩=wr.frozen? ⟨b,o,none⟩:=fun b o hb=>World.frozen?_of_block (hblk b hb)
 have hsx:wl.heap.size=wx.heap.size:=by rw [hwx];simp
 rw [←hwx]
 refine⟨⟨rs'.set k rn,hown,by simp [hl'],fun i r x hi hr hx g' hg' w' hs=>?_,fun i hi=>?_⟩,hbx,?_,?_,?_,fun o=>?_,⟨u0,?_⟩,⟨u1,?_⟩,fun o=>?_⟩
 ·have hgg:g=g':=by simpa [Value.ownBlock] using hg'
  subst hgg
  by_cases hik:i=k
  ·subst hik
   have:r=rn:=by rw [List.getElem?_set_self (by omega)]at hr;simpa using hr.symm
   subst this
   rw [hxk]at hx
   injection hx with hx;subst hx
   exact HN w' (hsep.trans hs)
  ·rw [List.getElem?_set_ne (by omega)]at hr
   exact hdone i r x (by omega) hr hx g rfl w' (((Sep.of bl (Nat.le_refl _)).trans hsep).trans hs)
 ·rw [List.getElem?_set_ne (by omega)];exact hrest i (by omega)
 ·have:=bl.size;omega
 ·rw [hcell _ _ (by omega)];exact c0
 ·rw [hcell _ _ (by omega)];exact c1
 ·rw [hfro _ _ (by omega)];exact cf o
 ·rw [hcell _ _ (by omega)];exact d0
 ·rw [hcell _ _ (by omega)];exact d1
 ·rw [hfro _ _ (by omega)];exact df o
theorem copy_end {w wr:World} {rs:List Raw} {xs:List Nd} {gv:Value} {r0:Int} {k:Nat} (h:CopyAt w rs xs gv r0 k wr) (hk:rs.length≤k) (hl:rs.length=xs.length) (hs:rs.length*104≤140737488351232) (v0 v1:Value) :
  (∀w'',Keep w.heap.size ((wr.setCell ⟨w.heap.size+1,0,none⟩ v0).setCell ⟨w.heap.size+1,1,none⟩ v1) w''→NodesAt w'' gv xs)∧Below w.heap.size w ((wr.setCell ⟨w.heap.size+1,0,none⟩ v0).setCell ⟨w.heap.size+1,1,none⟩ v1):=by
 obtain⟨⟨rs',ho,hl',hdone,hrest⟩,hbw,hsz,-,-,-,-,-,-⟩:=h
 refine⟨fun w'' hk'=>?_,?_⟩
 ·have hke:Keep (w.heap.size+2) wr w'':=((((Keep.refl _ wr).set (by show w.heap.size+1<_;omega) v0).set (by show w.heap.size+1<_;omega) v1).trans (hk'.mono (by omega)))
  refine⟨rs',SlAt.owned enRaw_length (owns_keep ho hke (Nat.le_refl _)) hl'.symm (by rw [hl'];exact hs),by omega,fun i r x hr hx=>?_⟩
  have hi:=(List.getElem?_eq_some_iff.1 hr).1
  obtain⟨g,cap2,rfl,hg1,hg2⟩:=ho.form (by omega)
  exact hdone i r x (by omega) hr hx g rfl _ hke.sep
 ·exact(hbw.setCell (by simp <;> omega) _).setCell (by simp <;> omega) _
set_option maxRecDepth 100000 in
set_option maxHeartbeats 4000000 in
theorem treeCopy_keep {nv root:Value} {xs:List Nd} {w:World} (h:NodesAt w nv xs) (hroot:∃r,root = .int .i64 r) :
  Calls Tryd.prog 74 #[.agg #[nv,root]] w fun e w'=>∃nv',e = .returned (.agg #[nv',root])∧(∀w'',Keep w.heap.size w' w''→NodesAt w'' nv' xs)∧Below w.heap.size w w':=by
 obtain⟨r0,rfl⟩:=hroot
 obtain⟨rs,hs,hr⟩:=id h
 have hmax:rs.length≤9223372036854775806:=by obtain⟨_,_,_,_,_,h,_⟩:=hs;omega
 obtain⟨ao,cap,rfl⟩:=hs.isSlice
 obtain⟨W0,hW0⟩:∃W0,W0=(w.alloc (.cells #[.slice ao rs.length cap, .int .i64 r0] 32)).alloc (.cells #[.slice none 0 0, .int .i64 0] 32):=⟨_,rfl⟩
 have hb0:Below w.heap.size w W0:=by rw [hW0];exact((Below.refl _ w).alloc (Nat.le_refl _) _).alloc (by simp) _
 have HC:=Lib.hid (cloneRaw_any (hs.below hb0 (Nat.le_refl _)) hr.one)
 rw [hW0]at HC
 clear h
 go_enter Tryd.func74,Tryd.ntmps74
 go_wp2_with (go_at_call 87;refine HC.out.mono ?_;rintro e w1 ⟨gv,rfl,hown,hb1⟩;obtain⟨go,gc,rfl⟩:=owns_slice hown;obtain⟨p1,p2,p3⟩:=keep1 hb1 (B:=w.heap.size) (by simp <;> omega);obtain⟨q1,q2,q3⟩:=keep1 hb1 (B:=w.heap.size+1) (by simp))
 have hB2:w.heap.size+2≤w1.heap.size:=by have:=hb1.size;simp at this;omega
 go_loopg [12] rs.length (fun g c wr=>∃k,k≤rs.length∧g=rs.length-k∧c = .int .i64 k∧CopyAt w rs xs (.slice go rs.length gc) r0 k wr)
 case atStart=>
  refine⟨0,Nat.zero_le _,rfl,rfl,?_⟩
  refine⟨⟨rs,owns_setOther (by simpa using hown) (by omega) _,rfl,by simp,fun i _=>rfl⟩,?_,by simpa [heap_setCell_size] using hB2,?_,?_,?_,?_,?_,?_⟩
  ·refine Below.setCell ?_ (by simp <;> omega) _
   exact Below.trans' (hW0▸hb0) hb1 (by simp <;> omega)
  all_goals first|(go_simp;done)|(simp [p2,p3,q2,q3];done)|(intro o;go_simp;done)|(intro o;simp [p2,p3,q2,q3];done)
 case round=>
  obtain⟨k,hk,rfl,rfl,HI⟩:=hrel
  clear p1 p2 p3 q1 q2 q3 hown hb1 hb0 hW0 HC
  by_cases hlt:k<rs.length
  ·obtain⟨⟨rs',ho,hl',hdone,hrest⟩,hbw,hsz,c0,c1,cf,⟨u0,d0⟩,⟨u1,d1⟩,df⟩:=HI
   obtain⟨g,cap2,hf,hg1,hg2⟩:=ho.form (by omega)
   injection hf with hf _ hcap
   subst hf;subst hcap
   obtain⟨rk,hrk⟩:∃rk,rs'[k]'(by omega)=rk:=⟨_,rfl⟩
   obtain⟨e0,e1,e2,e3,e4,ef⟩:=raw_cells ho hl' (by omega:k<rs'.length)
   rw [hrk]at e0 e1 e2 e3 e4
   have hkx:k<xs.length:=by rw [←hr.1];exact hlt
   obtain⟨xk,hxk⟩:∃xk,xs[k]=xk:=⟨_,rfl⟩
   have hxk':xs[k]?=some xk:=by rw [←hxk];simp [hkx]
   have hrk':rs'[k]?=some rk:=by rw [←hrk];simp
   have hN:NodeAt w rk xk:=hr.2 k rk xk ((hrest k (Nat.le_refl _))▸hrk') hxk'
   clear hrk
   obtain⟨lf,ev,kv,dv,bv⟩:=rk
   obtain⟨hlf,hE,hK,hD,hB⟩:=hN
   obtain⟨a1,n1,rfl⟩:=hE.isSlice
   obtain⟨a2,n2,rfl⟩:=hK.isSlice
   obtain⟨a3,n3,rfl⟩:=hD.isSlice
   obtain⟨a4,n4,rfl⟩:=hB.isSlice
   simp only at e0 e1 e2 e3 e4 hlf hE hK hD hB
   go_upto_block 1 with (fail)
   go_cut [] (fun wx=>CopyAt w rs xs (.slice (some ⟨g,0,none⟩) rs.length gc) r0 (k+1) wx)
   case first=>
    go_upto_region 5 with (fail)
    obtain⟨W5,hW5⟩:∃W5,W5=wr.alloc (.cells #[Value.bool xk.leaf,Value.slice a1 xk.ents.length n1,Value.slice a2 xk.keys.length n2,Value.slice a3 xk.kids.length n3,Value.slice a4 xk.buf.length n4] 133):=⟨_,rfl⟩
    have hw5:Below wr.heap.size wr W5:=by rw [hW5];exact(Below.refl _ _).alloc (Nat.le_refl _) _
    have z5:W5.heap.size=wr.heap.size+1:=by rw [hW5];simp
    have n0:W5.heap[wr.heap.size]?=some (.cells #[Value.bool xk.leaf,Value.slice a1 xk.ents.length n1,Value.slice a2 xk.keys.length n2,Value.slice a3 xk.kids.length n3,Value.slice a4 xk.buf.length n4] 133):=by rw [hW5];show (wr.heap.push _)[wr.heap.size]?=_;simp
    rw [←hW5]
    have hn5:∀w',Below W5.heap.size W5 w'→w'.heap[wr.heap.size]?=some (.cells #[Value.bool xk.leaf,Value.slice a1 xk.ents.length n1,Value.slice a2 xk.keys.length n2,Value.slice a3 xk.kids.length n3,Value.slice a4 xk.buf.length n4] 133):=fun w' hb=>(hb.block _ (by omega)).trans n0
    have hS:∀w',Below W5.heap.size W5 w'→w'.cell? ⟨w.heap.size,0,none⟩=some (.slice (some ⟨g,0,none⟩) rs.length gc)∧w'.cell? ⟨wr.heap.size,0,none⟩=some (.bool xk.leaf)∧w'.cell? ⟨wr.heap.size,1,none⟩=some (.slice a1 xk.ents.length n1)∧w'.cell? ⟨wr.heap.size,2,none⟩=some (.slice a2 xk.keys.length n2)∧w'.cell? ⟨wr.heap.size,3,none⟩=some (.slice a3 xk.kids.length n3)∧w'.cell? ⟨wr.heap.size,4,none⟩=some (.slice a4 xk.buf.length n4):=fun w' hb=>by
     have hh:=hn5 w' hb
     refine⟨?_,by simp [World.cell?,hh],by simp [World.cell?,hh],by simp [World.cell?,hh],by simp [World.cell?,hh],by simp [World.cell?,hh]⟩
     rw [(Below.trans' hw5 hb hw5.size).cell (p:=⟨w.heap.size,0,none⟩) (by show w.heap.size<wr.heap.size;omega)];exact c0
    have hG:∀w',Below W5.heap.size W5 w'→w'.cell? ⟨g,k*5,none⟩=some (.bool lf)∧w'.cell? ⟨g,k*5+1,none⟩=some (.slice a1 xk.ents.length n1)∧w'.cell? ⟨g,k*5+2,none⟩=some (.slice a2 xk.keys.length n2)∧w'.cell? ⟨g,k*5+3,none⟩=some (.slice a3 xk.kids.length n3)∧w'.cell? ⟨g,k*5+4,none⟩=some (.slice a4 xk.buf.length n4)∧∀o,w'.frozen? ⟨g,o,none⟩=false:=fun w' hb=>by
     have bb:=Below.trans' hw5 hb hw5.size
     exact⟨(bb.cell (p:=⟨g,_,none⟩) hg2).trans e0,(bb.cell (p:=⟨g,_,none⟩) hg2).trans e1,(bb.cell (p:=⟨g,_,none⟩) hg2).trans e2,(bb.cell (p:=⟨g,_,none⟩) hg2).trans e3,(bb.cell (p:=⟨g,_,none⟩) hg2).trans e4,fun o=>(bb.frozen (p:=⟨g,_,none⟩) hg2).trans (ef o)⟩
    have hbA:∀w',Below W5.heap.size W5 w'→Below w.heap.size w w':=fun w' hb=>Below.trans' hbw (Below.trans' hw5 hb hw5.size) hbw.size
    have hcE:=fun w' (hb:Below W5.heap.size W5 w')=>cloneEnt_sep (M:=w.heap.size+2) (g:=g) (hE.below (hbA w' hb) (Nat.le_refl _)) (by have:=hb.size;omega) (by have:=hb.size;omega) hb
    have hcK:=fun w' (hb:Below W5.heap.size W5 w')=>cloneInt_sep (M:=w.heap.size+2) (g:=g) (hK.below (hbA w' hb) (Nat.le_refl _)) (by have:=hb.size;omega) (by have:=hb.size;omega) hb
    have hcD:=fun w' (hb:Below W5.heap.size W5 w')=>cloneInt_sep (M:=w.heap.size+2) (g:=g) (hD.below (hbA w' hb) (Nat.le_refl _)) (by have:=hb.size;omega) (by have:=hb.size;omega) hb
    have hcB:=fun w' (hb:Below W5.heap.size W5 w')=>cloneEnt_sep (M:=w.heap.size+2) (g:=g) (hB.below (hbA w' hb) (Nat.le_refl _)) (by have:=hb.size;omega) (by have:=hb.size;omega) hb
    have B0:Below W5.heap.size W5 W5.drew:=(Below.refl _ _).drew
    have hne1:w.heap.size≠g:=by omega
    have hne2:wr.heap.size≠g:=by omega
    have hset:∀(b:Nat),b≠g→∀(w':World) (o:Nat) (v:Value) (o':Nat),(w'.setCell ⟨g,o,none⟩ v).cell? ⟨b,o',none⟩=w'.cell? ⟨b,o',none⟩:=fun b hb w' o v o'=>World.cell?_of_block (by have:g≠b:=Ne.symm hb;simp [World.setCell,Array.getElem?_modify,this])
    have hset1:=hset _ hne1
    have hset2:=hset _ hne2
    clear hset
    have hstep:=Lib.hid (fun wl (B:Below W5.heap.size W5 wl) rn (HN:∀w'',Sep (w.heap.size+2) g wl w''→NodeAt w'' rn xk)=>copy_step rn ho hl' hdone hrest hg1 hg2 hlt hxk' hbw hsz hw5 B c0 c1 cf d0 d1 df HN)
    clear hr hs hbw hsz ho hl' hdone hrest e0 e1 e2 e3 e4 ef c0 c1 cf d0 d1 df hE hK hD hB hw5 z5 n0 hn5 hbA hW5
    go_region_held3 (fun w'=>w'.cell? ⟨w.heap.size,0,none⟩=some (.slice (some ⟨g,0,none⟩) rs.length gc)∧w'.cell? ⟨wr.heap.size,0,none⟩=some (.bool xk.leaf)∧w'.cell? ⟨wr.heap.size,1,none⟩=some (.slice a1 xk.ents.length n1)∧w'.cell? ⟨wr.heap.size,2,none⟩=some (.slice a2 xk.keys.length n2)∧w'.cell? ⟨wr.heap.size,3,none⟩=some (.slice a3 xk.kids.length n3)∧w'.cell? ⟨wr.heap.size,4,none⟩=some (.slice a4 xk.buf.length n4))
     (first|exact hS _ (by assumption)|(simp only [hset1,hset2];exact hS _ (by assumption)))
     (first
      |(go_at_call 72;refine(hcE _ ?_).mono ?_;(assumption);rintro e wE ⟨aE,cE,rfl,BE,HE,bE⟩;obtain⟨x0,x1,x2,x3,x4,xf⟩:=hG _ BE)
      |(go_at_call 88;refine(hcK _ ?_).mono ?_;(assumption);rintro e wK ⟨aK,cK,rfl,BK,HK,bK⟩;obtain⟨x0,x1,x2,x3,x4,xf⟩:=hG _ BK)
      |(go_at_call 88;refine(hcD _ ?_).mono ?_;(assumption);rintro e wD ⟨aD,cD,rfl,BD,HD,bD⟩;obtain⟨x0,x1,x2,x3,x4,xf⟩:=hG _ BD)
      |(go_at_call 72;refine(hcB _ ?_).mono ?_;(assumption);rintro e wB ⟨aB,cB,rfl,BB,HB,bB⟩;obtain⟨x0,x1,x2,x3,x4,xf⟩:=hG _ BB))
    all_goals
     go_wp2_with fail
     go_meet
     exact hstep.out _ (by assumption) ⟨xk.leaf,_,_,_,_⟩ (fun w'' hs=>⟨rfl,HE.out _ (Sep.trans (by first|exact Sep.refl _ _ _|exact Sep.of (by assumption) (Nat.le_refl _)|(refine Sep.trans (Sep.of (by assumption) (Nat.le_refl _)) ?_;first|exact Sep.of (by assumption) (Nat.le_refl _)|(refine Sep.trans (Sep.of (by assumption) (Nat.le_refl _)) ?_;exact Sep.of (by assumption) (Nat.le_refl _)))) hs),HK.out _ (Sep.trans (by first|exact Sep.refl _ _ _|exact Sep.of (by assumption) (Nat.le_refl _)|(refine Sep.trans (Sep.of (by assumption) (Nat.le_refl _)) ?_;first|exact Sep.of (by assumption) (Nat.le_refl _)|(refine Sep.trans (Sep.of (by assumption) (Nat.le_refl _)) ?_;exact Sep.of (by assumption) (Nat.le_refl _)))) hs),HD.out _ (Sep.trans (by first|exact Sep.refl _ _ _|exact Sep.of (by assumption) (Nat.le_refl _)|(refine Sep.trans (Sep.of (by assumption) (Nat.le_refl _)) ?_;first|exact Sep.of (by assumption) (Nat.le_refl _)|(refine Sep.trans (Sep.of (by assumption) (Nat.le_refl _)) ?_;exact Sep.of (by assumption) (Nat.le_refl _)))) hs),HB.out _ (Sep.trans (by first|exact Sep.refl _ _ _|exact Sep.of (by assumption) (Nat.le_refl _)|(refine Sep.trans (Sep.of (by assumption) (Nat.le_refl _)) ?_;first|exact Sep.of (by assumption) (Nat.le_refl _)|(refine Sep.trans (Sep.of (by assumption) (Nat.le_refl _)) ?_;exact Sep.of (by assumption) (Nat.le_refl _)))) hs)⟩)
   case rest=>
    go_wp2
    go_roundg (rs.length-(k+1))
    case measure=>omega
    case rel=>exact⟨k+1,by omega,rfl,by go_num,hcut⟩
  ·have hkk:rs.length≤k:=by omega
   have HE:=Lib.hid (copy_end HI hkk hr.1 (by obtain⟨_,_,_,_,_,h,_⟩:=hs;exact h))
   obtain⟨-,-,-,c0,c1,cf,⟨u0,d0⟩,⟨u1,d1⟩,df⟩:=HI
   clear hr hs hB2
   go_wp2
   exact bodyPost_ret (v:= .agg #[.slice go rs.length gc, .int .i64 r0]) (by simp [results,Tryd.results74,d0,d1,go_sem]) rfl ⟨_,rfl,HE.out _ _⟩
end Go.Proofs.YtnjfkcimboidnaaDoor

/- Bases in memory; slices.Clone of strings. -/
namespace Go.Proofs.YtnjfkcimboidnaaDoor
open Go.RowKit
def enStr (s:ByteArray):List Value:=[.string s]
theorem enStr_length (s:ByteArray):(enStr s).length=1:=rfl
theorem enStr_one (xs:List ByteArray):∀u∈xs.flatMap enStr,u.oneCell'=true:=by
 intro u hu
 obtain⟨x,_,hx⟩:=List.mem_flatMap.1 hu
 simp [enStr]at hx
 subst hx;rfl
theorem Tryd.iStr:(Tryd.prog.info? 9).map (fun i=>(i.zero.map (fun z=>z.cells.size),i.size,i.bytes))=some (some 1,1,16):=by kernel_rfl
abbrev StrsAt (w:World) (v:Value) (xs:List ByteArray):Prop:=SlAt 1 16 enStr w v xs
def BaseAt (w:World) (v:Value) (b:Ba):Prop:=∃nv a0 a1 a2,v = .agg #[nv,a0, .int .i64 b.t0.root,a1, .int .i64 b.t1.root,a2, .int .i64 b.t2.root, .int .i64 b.floor]∧StrsAt w nv b.names∧NodesAt w a0 b.t0.nodes∧NodesAt w a1 b.t1.nodes∧NodesAt w a2 b.t2.nodes
set_option maxRecDepth 100000 in
set_option maxHeartbeats 1000000 in
theorem cloneStr_any {v:Value} {xs:List ByteArray} {w:World} (h:SlAt 1 16 enStr w v xs) :
  Calls Tryd.prog 84 #[v] w fun e w'=>∃v',e = .returned v'∧w'.ownsRow w.heap.size 9 1 v' xs.length (xs.flatMap enStr)∧Below w.heap.size w w':=by
 obtain⟨ao,cap,rfl,h1,h2,h3,h4,h5⟩:=id h
 have hnil:∀w,(binOp .eql 29 (.slice ao xs.length cap) (.slice none 0 0)).run Tryd.prog w = .ok (.bool ao.isNone) w:=fun w=>Lib.run_eql_slice_nil w _ _ _ _ _ _ _ Tryd.underlying29
 cases ao with
 |none=>
  have h0:xs.length=0:=by have:=h4 rfl;omega
  obtain rfl:=List.eq_nil_of_length_eq_zero h0
  obtain rfl:cap=0:=h4 rfl
  clear h4 h5
  simp only [Option.isNone_none,List.length_nil]at hnil
  go_enter Tryd.func84,Tryd.ntmps84
  go_wp2_with fail
  go_ret
  exact⟨_,rfl,World.ownsRow_nil _ _ _ _,Below.refl _ _⟩
 |some ad=>
  obtain⟨_,g1,g2⟩:=h.news (enStr_length)
  obtain⟨i0,z,hi,hz,hz1,hz2,hz3⟩:=info_some Tryd.iStr
  simp only [Option.isNone_some]at hnil
  have hown0:(w.alloc (.cells #[] 9)).ownsRow w.heap.size 9 1 (.slice (some ⟨w.heap.size,0,none⟩) 0 0) 0 []:=World.ownsRow_made w #[] 0 (Nat.le_refl _) (by simp [maxLen]) (by simp)
  clear h4 h5
  go_enter Tryd.func84,Tryd.ntmps84
  go_wp2_with (at_builtin;refine wpList_append_own _ rfl _ _ 29 rfl w.heap.size 9 i0 z 1 16 Tryd.underlying29 hi hz hz1 hz2 hz3 (by decide) _ _ _ rfl hown0 ad xs.length cap (xs.flatMap enStr) rfl g1 (fun j u hj=>cell_alloc (g2 j u hj)) (enStr_one xs) (by unfold maxLen;omega) (by omega) (by simp) ?_;intro v' w3 hown' hgrow hv)
  go_ret
  exact⟨v',rfl,by simpa using hown',Below.grown ((Below.refl _ _).alloc (Nat.le_refl _) _) hgrow (by simp) (fun j hj=>(hown0.lt j hj).1)⟩
end Go.Proofs.YtnjfkcimboidnaaDoor

/- The law TreeCopies over a tree in memory. -/
namespace Go.Proofs.YtnjfkcimboidnaaDoor
open Go.RowKit
theorem nodes_slice {w:World} {v:Value} {xs:List Nd} (h:NodesAt w v xs):∃ao n cap,v = .slice ao n cap:=by
 obtain⟨rs,hs,_⟩:=h;obtain⟨a,c,h⟩:=hs.isSlice;exact⟨a,_,c,h⟩
end Go.Proofs.YtnjfkcimboidnaaDoor

/- The walk of base.Copy. -/
namespace Go.Proofs.YtnjfkcimboidnaaDoor
open Go.RowKit
theorem owns_low {w:World} {B C size n:Nat} {e:TypeId} {v:Value} {us:List Value} (h:w.ownsRow B e size v n us) (hC:C≤B):w.ownsRow C e size v n us:=by
 obtain⟨hl,⟨rfl,h0⟩|⟨g,cap,cur,rfl,hB,hg,h1,h2,h3,h4⟩⟩:=h
 ·exact⟨hl, .inl ⟨rfl,h0⟩⟩
 ·exact⟨hl, .inr ⟨g,cap,cur,rfl,by omega,hg,h1,h2,h3,h4⟩⟩
structure BcAt (w:World) (nv:Value) (b:Ba) (a0 a1 a2:Value) (M:Nat) (k:Nat) (wr:World):Prop where
 below:Below w.heap.size w wr
 size:w.heap.size+2≤wr.heap.size
 low:w.heap.size+2≤M
 high:M≤wr.heap.size
 lt:∀b,nv.ownBlock=some b→b<M
 box:wr.heap[w.heap.size]?=some (.cells #[nv,a0, .int .i64 b.t0.root,a1, .int .i64 b.t1.root,a2, .int .i64 b.t2.root, .int .i64 b.floor] 35)
 res:wr.heap[w.heap.size+1]?=some (.cells #[.slice none 0 0, .slice none 0 0, .int .i64 0, .slice none 0 0, .int .i64 0, .slice none 0 0, .int .i64 0, .int .i64 0] 35)
 names:∀w'',Keep (w.heap.size+2) wr w''→StrsAt w'' nv b.names
 own:∀w'',Keep (w.heap.size+2) wr w''→w''.ownsRow (w.heap.size+2) 9 1 nv b.names.length (b.names.flatMap enStr)
 n0:∀w'',(k≤0→Below w.heap.size w w'')→Keep M wr w''→NodesAt w'' a0 b.t0.nodes
 n1:∀w'',(k≤1→Below w.heap.size w w'')→Keep M wr w''→NodesAt w'' a1 b.t1.nodes
 n2:∀w'',(k≤2→Below w.heap.size w w'')→Keep M wr w''→NodesAt w'' a2 b.t2.nodes
theorem BcAt.step0 {w:World} {nv:Value} {b:Ba} {a0 a1 a2 a':Value} {M:Nat} {wr w5:World} (h:BcAt w nv b a0 a1 a2 M 0 wr) (hb5:Below wr.heap.size wr w5) (HK:∀w'',Keep wr.heap.size w5 w''→NodesAt w'' a' b.t0.nodes) :
  BcAt w nv b a' a1 a2 M 1 ((w5.setCell ⟨w.heap.size,1,none⟩ a').setCell ⟨w.heap.size,2,none⟩ (.int .i64 b.t0.root)):=by
 have hsz:=h.size
 have hs5:=hb5.size
 have hb:Below w.heap.size w w5:=Below.trans' h.below hb5 h.below.size
 have hp:w.heap.size<w.heap.size+2:=by omega
 have K0:Keep (w.heap.size+2) wr ((w5.setCell ⟨w.heap.size,1,none⟩ a').setCell ⟨w.heap.size,2,none⟩ (.int .i64 b.t0.root)):=((Keep.of hb5 (Nat.le_refl _)).set hp _).set hp _
 have hlow:=h.low
 have hhigh:=h.high
 refine⟨(by repeat (first|with_reducible exact Below.refl _ _|with_reducible assumption|with_reducible refine below_dn ?_ _|with_reducible refine Below.drew ?_|with_reducible refine Below.alloc ?_ (by first|omega|(simp;done)|(simp;omega)) _|with_reducible refine Below.setCell ?_ (by first|omega|(simp;done)|(simp;omega)) _)),by simp;omega,hlow,by simp;omega,h.lt,?_,?_,fun w'' hk=>h.names w'' (K0.trans hk),fun w'' hk=>h.own w'' (K0.trans hk),fun w'' hb hk=>HK w'' (((((Keep.refl _ _).set hp _).set hp _).mono hlow).trans hk |>.mono h.high),fun w'' hb hk=>h.n1 w'' (fun _=>hb (by decide)) ((K0.mono hlow).trans hk),fun w'' hb hk=>h.n2 w'' (fun _=>hb (by decide)) ((K0.mono hlow).trans hk)⟩
 ·have h0:=heap_setCell_same (off:=2) (v:= .int .i64 b.t0.root) (heap_setCell_same (off:=1) (v:=a') ((hb5.block _ (by omega)).trans h.box))
  simpa using h0
 ·rw [Below.heap_setCell _ _ _ _ (by show w.heap.size+1≠w.heap.size;omega),Below.heap_setCell _ _ _ _ (by show w.heap.size+1≠w.heap.size;omega)]
  exact(hb5.block _ (by omega)).trans h.res
theorem BcAt.step1 {w:World} {nv:Value} {b:Ba} {a0 a1 a2 a':Value} {M:Nat} {wr w5:World} (h:BcAt w nv b a0 a1 a2 M 1 wr) (hb5:Below wr.heap.size wr w5) (HK:∀w'',Keep wr.heap.size w5 w''→NodesAt w'' a' b.t1.nodes) :
  BcAt w nv b a0 a' a2 M 2 ((w5.setCell ⟨w.heap.size,3,none⟩ a').setCell ⟨w.heap.size,4,none⟩ (.int .i64 b.t1.root)):=by
 have hsz:=h.size
 have hs5:=hb5.size
 have hb:Below w.heap.size w w5:=Below.trans' h.below hb5 h.below.size
 have hp:w.heap.size<w.heap.size+2:=by omega
 have K0:Keep (w.heap.size+2) wr ((w5.setCell ⟨w.heap.size,3,none⟩ a').setCell ⟨w.heap.size,4,none⟩ (.int .i64 b.t1.root)):=((Keep.of hb5 (Nat.le_refl _)).set hp _).set hp _
 have hlow:=h.low
 have hhigh:=h.high
 refine⟨(by repeat (first|with_reducible exact Below.refl _ _|with_reducible assumption|with_reducible refine below_dn ?_ _|with_reducible refine Below.drew ?_|with_reducible refine Below.alloc ?_ (by first|omega|(simp;done)|(simp;omega)) _|with_reducible refine Below.setCell ?_ (by first|omega|(simp;done)|(simp;omega)) _)),by simp;omega,hlow,by simp;omega,h.lt,?_,?_,fun w'' hk=>h.names w'' (K0.trans hk),fun w'' hk=>h.own w'' (K0.trans hk),fun w'' _ hk=>h.n0 w'' (fun h=>absurd h (by decide)) ((K0.mono hlow).trans hk),fun w'' hb hk=>HK w'' (((((Keep.refl _ _).set hp _).set hp _).mono hlow).trans hk |>.mono h.high),fun w'' hb hk=>h.n2 w'' (fun _=>hb (by decide)) ((K0.mono hlow).trans hk)⟩
 ·have h0:=heap_setCell_same (off:=4) (v:= .int .i64 b.t1.root) (heap_setCell_same (off:=3) (v:=a') ((hb5.block _ (by omega)).trans h.box))
  simpa using h0
 ·rw [Below.heap_setCell _ _ _ _ (by show w.heap.size+1≠w.heap.size;omega),Below.heap_setCell _ _ _ _ (by show w.heap.size+1≠w.heap.size;omega)]
  exact(hb5.block _ (by omega)).trans h.res
theorem BcAt.step2 {w:World} {nv:Value} {b:Ba} {a0 a1 a2 a':Value} {M:Nat} {wr w5:World} (h:BcAt w nv b a0 a1 a2 M 2 wr) (hb5:Below wr.heap.size wr w5) (HK:∀w'',Keep wr.heap.size w5 w''→NodesAt w'' a' b.t2.nodes) :
  BcAt w nv b a0 a1 a' M 3 ((w5.setCell ⟨w.heap.size,5,none⟩ a').setCell ⟨w.heap.size,6,none⟩ (.int .i64 b.t2.root)):=by
 have hsz:=h.size
 have hs5:=hb5.size
 have hb:Below w.heap.size w w5:=Below.trans' h.below hb5 h.below.size
 have hp:w.heap.size<w.heap.size+2:=by omega
 have K0:Keep (w.heap.size+2) wr ((w5.setCell ⟨w.heap.size,5,none⟩ a').setCell ⟨w.heap.size,6,none⟩ (.int .i64 b.t2.root)):=((Keep.of hb5 (Nat.le_refl _)).set hp _).set hp _
 have hlow:=h.low
 have hhigh:=h.high
 refine⟨(by repeat (first|with_reducible exact Below.refl _ _|with_reducible assumption|with_reducible refine below_dn ?_ _|with_reducible refine Below.drew ?_|with_reducible refine Below.alloc ?_ (by first|omega|(simp;done)|(simp;omega)) _|with_reducible refine Below.setCell ?_ (by first|omega|(simp;done)|(simp;omega)) _)),by simp;omega,hlow,by simp;omega,h.lt,?_,?_,fun w'' hk=>h.names w'' (K0.trans hk),fun w'' hk=>h.own w'' (K0.trans hk),fun w'' _ hk=>h.n0 w'' (fun h=>absurd h (by decide)) ((K0.mono hlow).trans hk),fun w'' _ hk=>h.n1 w'' (fun h=>absurd h (by decide)) ((K0.mono hlow).trans hk),fun w'' hb hk=>HK w'' (((((Keep.refl _ _).set hp _).set hp _).mono hlow).trans hk |>.mono h.high)⟩
 ·have h0:=heap_setCell_same (off:=6) (v:= .int .i64 b.t2.root) (heap_setCell_same (off:=5) (v:=a') ((hb5.block _ (by omega)).trans h.box))
  simpa using h0
 ·rw [Below.heap_setCell _ _ _ _ (by show w.heap.size+1≠w.heap.size;omega),Below.heap_setCell _ _ _ _ (by show w.heap.size+1≠w.heap.size;omega)]
  exact(hb5.block _ (by omega)).trans h.res
theorem BcAt.cells {w:World} {nv:Value} {b:Ba} {a0 a1 a2:Value} {M k:Nat} {wr:World} (h:BcAt w nv b a0 a1 a2 M k wr):wr.cell? ⟨w.heap.size,0,none⟩=some nv∧wr.cell? ⟨w.heap.size,1,none⟩=some a0∧wr.cell? ⟨w.heap.size,2,none⟩=some (.int .i64 b.t0.root)∧wr.cell? ⟨w.heap.size,3,none⟩=some a1∧wr.cell? ⟨w.heap.size,4,none⟩=some (.int .i64 b.t1.root)∧wr.cell? ⟨w.heap.size,5,none⟩=some a2∧wr.cell? ⟨w.heap.size,6,none⟩=some (.int .i64 b.t2.root)∧wr.cell? ⟨w.heap.size,7,none⟩=some (.int .i64 b.floor)∧∀o,wr.frozen? ⟨w.heap.size,o,none⟩=false:=by
 simp [World.cell?,World.frozen?,h.box]
theorem BcAt.rcells {w:World} {nv:Value} {b:Ba} {a0 a1 a2:Value} {M k:Nat} {wr:World} (h:BcAt w nv b a0 a1 a2 M k wr):wr.cell? ⟨w.heap.size+1,0,none⟩=some (.slice none 0 0)∧wr.cell? ⟨w.heap.size+1,1,none⟩=some (.slice none 0 0)∧wr.cell? ⟨w.heap.size+1,2,none⟩=some (.int .i64 0)∧wr.cell? ⟨w.heap.size+1,3,none⟩=some (.slice none 0 0)∧wr.cell? ⟨w.heap.size+1,4,none⟩=some (.int .i64 0)∧wr.cell? ⟨w.heap.size+1,5,none⟩=some (.slice none 0 0)∧wr.cell? ⟨w.heap.size+1,6,none⟩=some (.int .i64 0)∧wr.cell? ⟨w.heap.size+1,7,none⟩=some (.int .i64 0)∧∀o,wr.frozen? ⟨w.heap.size+1,o,none⟩=false:=by
 simp [World.cell?,World.frozen?,h.res]
set_option maxRecDepth 100000 in
set_option maxHeartbeats 1000000 in
theorem baseCopy_keep {v:Value} {b:Ba} {w:World} (h:BaseAt w v b) :
  Calls Tryd.prog 63 #[v] w fun e w'=>Below w.heap.size w w'∧∃sa sc g0 l0 p0 g1 l1 p1 g2 l2 p2,e = .returned (.agg #[.slice sa b.names.length sc, .slice g0 l0 p0, .int .i64 b.t0.root, .slice g1 l1 p1, .int .i64 b.t1.root, .slice g2 l2 p2, .int .i64 b.t2.root, .int .i64 b.floor]) ∧
   w'.ownsRow (w.heap.size+2) 9 1 (.slice sa b.names.length sc) b.names.length (b.names.flatMap enStr)∧∃M,w.heap.size+2≤M∧M≤w'.heap.size∧(∀b',(Value.slice sa b.names.length sc).ownBlock=some b'→b'<M) ∧
   (∀w'',Keep M w' w''→NodesAt w'' (.slice g0 l0 p0) b.t0.nodes∧NodesAt w'' (.slice g1 l1 p1) b.t1.nodes∧NodesAt w'' (.slice g2 l2 p2) b.t2.nodes)∧∀w'',Keep (w.heap.size+2) w' w''→BaseAt w'' (.agg #[.slice sa b.names.length sc, .slice g0 l0 p0, .int .i64 b.t0.root, .slice g1 l1 p1, .int .i64 b.t1.root, .slice g2 l2 p2, .int .i64 b.t2.root, .int .i64 b.floor]) b:=by
 obtain⟨nv,a0,a1,a2,rfl,hs,h0,h1,h2⟩:=h
 obtain⟨sa,sn,sc,rfl⟩:∃a n c,nv = .slice a n c:=by obtain⟨a,c,h⟩:=hs.isSlice;exact⟨a,_,c,h⟩
 obtain⟨g0,l0,p0,rfl⟩:=nodes_slice h0
 obtain⟨g1,l1,p1,rfl⟩:=nodes_slice h1
 obtain⟨g2,l2,p2,rfl⟩:=nodes_slice h2
 have HC:=Lib.hid fun w' (hb:Below w.heap.size w w')=>cloneStr_any (hs.below hb (Nat.le_refl _))
 obtain⟨W0,hW0⟩:∃W0,W0=(w.alloc (.cells #[.slice sa sn sc, .slice g0 l0 p0, .int .i64 b.t0.root, .slice g1 l1 p1, .int .i64 b.t1.root, .slice g2 l2 p2, .int .i64 b.t2.root, .int .i64 b.floor] 35)).alloc (.cells #[.slice none 0 0, .slice none 0 0, .int .i64 0, .slice none 0 0, .int .i64 0, .slice none 0 0, .int .i64 0, .int .i64 0] 35):=⟨_,rfl⟩
 have hb0:Below w.heap.size w W0:=by rw [hW0];exact(by repeat (first|with_reducible exact Below.refl _ _|with_reducible assumption|with_reducible refine below_dn ?_ _|with_reducible refine Below.drew ?_|with_reducible refine Below.alloc ?_ (by first|omega|(simp;done)|(simp;omega)) _|with_reducible refine Below.setCell ?_ (by first|omega|(simp;done)|(simp;omega)) _))
 have hz0:W0.heap.size=w.heap.size+2:=by rw [hW0];simp
 have k0:W0.heap[w.heap.size]?=some (.cells #[.slice sa sn sc, .slice g0 l0 p0, .int .i64 b.t0.root, .slice g1 l1 p1, .int .i64 b.t1.root, .slice g2 l2 p2, .int .i64 b.t2.root, .int .i64 b.floor] 35):=by
  rw [hW0,Below.heap_alloc _ _ _ (by simp)];exact heap_new _ _ rfl
 have k1:W0.heap[w.heap.size+1]?=some (.cells #[.slice none 0 0, .slice none 0 0, .int .i64 0, .slice none 0 0, .int .i64 0, .slice none 0 0, .int .i64 0, .int .i64 0] 35):=by
  rw [hW0];exact heap_new _ _ (by simp)
 have q0:W0.cell? ⟨w.heap.size,0,none⟩=some (.slice sa sn sc):=by simp [World.cell?,k0]
 have qf:∀o,W0.frozen? ⟨w.heap.size,o,none⟩=false:=fun o=>by simp [World.frozen?,k0]
 go_enter Tryd.func63,Tryd.ntmps63
 go_upto_region 1 with (fail)
 rw [←hW0]
 clear hW0
 go_upto_region 2 with ((go_at_call 84;(with_reducible refine(HC.out _ hb0).mono ?_);rintro e w1 ⟨nv',rfl,hown,hb1⟩;obtain⟨s',c',rfl⟩:=owns_slice hown;obtain⟨k1',k2',k3'⟩:=keep1 hb1 (B:=w.heap.size) (by omega)))
 obtain⟨W2,hW2⟩:∃W2,W2=w1.setCell ⟨w.heap.size,0,none⟩ (.slice s' b.names.length c'):=⟨_,rfl⟩
 have hst:BcAt w (.slice s' b.names.length c') b (.slice g0 l0 p0) (.slice g1 l1 p1) (.slice g2 l2 p2) w1.heap.size 0 W2:=by
  have hbw:Below w.heap.size w w1:=Below.trans' hb0 hb1 hb0.size
  have hs1:=hb1.size
  rw [hW2]
  refine⟨(by repeat (first|with_reducible exact Below.refl _ _|with_reducible assumption|with_reducible refine below_dn ?_ _|with_reducible refine Below.drew ?_|with_reducible refine Below.alloc ?_ (by first|omega|(simp;done)|(simp;omega)) _|with_reducible refine Below.setCell ?_ (by first|omega|(simp;done)|(simp;omega)) _)),by simp;omega,by omega,by simp,fun b hb=>(hown.lt b hb).2,?_,?_,fun w'' hk=>?_,fun w'' hk=>owns_keep (owns_low hown (by omega)) (((Keep.refl _ _).set (by show w.heap.size<w.heap.size+2;omega) _).trans hk) (Nat.le_refl _),fun w'' hb _=>h0.below (hb (by decide)) (Nat.le_refl _),fun w'' hb _=>h1.below (hb (by decide)) (Nat.le_refl _),fun w'' hb _=>h2.below (hb (by decide)) (Nat.le_refl _)⟩
  ·have h0:=heap_setCell_same (off:=0) (v:= .slice s' b.names.length c') ((hb1.block _ (by omega)).trans k0)
   simpa using h0
  ·rw [Below.heap_setCell _ _ _ _ (by show w.heap.size+1≠w.heap.size;omega)]
   exact(hb1.block _ (by omega)).trans k1
  ·refine SlAt.owned enStr_length (owns_keep hown (((Keep.refl _ _).set (by show w.heap.size<w.heap.size+2;omega) _).trans hk) (by omega)) rfl ?_
   obtain⟨_,_,_,_,_,h,_⟩:=hs;exact h
 rw [←hW2]
 have HST:=Lib.hid hst
 clear hst hW2 k0 k1 q0 qf hown hb1 k1' k2' k3' HC h0 h1 h2 hs
 go_wp2_with fail
 go_loopg [8] 3 (fun g i wr=>∃(k:Nat) (a0 a1 a2:Value),k≤3∧g=3-k∧i = .int .i64 k∧Hid (BcAt w (.slice s' b.names.length c') b a0 a1 a2 w1.heap.size k wr))
 case atStart=>exact⟨0,_,_,_,by omega,rfl,rfl,HST⟩
 case round=>
  obtain⟨k,a0,a1,a2,hk,rfl,rfl,HB⟩:=hrel
  obtain⟨g0,l0,p0,rfl⟩:=nodes_slice (HB.out.n0 wr (fun _=>HB.out.below) (Keep.refl _ _))
  obtain⟨g1,l1,p1,rfl⟩:=nodes_slice (HB.out.n1 wr (fun _=>HB.out.below) (Keep.refl _ _))
  obtain⟨g2,l2,p2,rfl⟩:=nodes_slice (HB.out.n2 wr (fun _=>HB.out.below) (Keep.refl _ _))
  obtain⟨c0,c1,c2,c3,c4,c5,c6,c7,cf⟩:=HB.out.cells
  have hsz:=HB.out.size
  by_cases hlt:k<3
  ·obtain rfl|rfl|rfl:k=0∨k=1∨k=2:=by omega
   ·have HT:=Lib.hid (treeCopy_keep (root:= .int .i64 b.t0.root) (HB.out.n0 wr (fun _=>HB.out.below) (Keep.refl _ _)) ⟨_,rfl⟩)
    go_wp2_with ((go_at_call 74;(with_reducible refine HT.out.mono ?_);rintro e w5 ⟨a',rfl,HK,hb5⟩;obtain⟨g',l',p',rfl⟩:=nodes_slice (HK w5 (Keep.refl _ _));obtain⟨k1',k2',k3'⟩:=keep1 hb5 (B:=w.heap.size) (by omega)))
    go_roundg 2
    case measure=>omega
    case rel=>exact⟨1,(.slice g' l' p'),(.slice g1 l1 p1),(.slice g2 l2 p2),by omega,rfl,by go_num,Lib.hid (HB.out.step0 hb5 HK)⟩
   ·have HT:=Lib.hid (treeCopy_keep (root:= .int .i64 b.t1.root) (HB.out.n1 wr (fun _=>HB.out.below) (Keep.refl _ _)) ⟨_,rfl⟩)
    go_wp2_with ((go_at_call 74;(with_reducible refine HT.out.mono ?_);rintro e w5 ⟨a',rfl,HK,hb5⟩;obtain⟨g',l',p',rfl⟩:=nodes_slice (HK w5 (Keep.refl _ _));obtain⟨k1',k2',k3'⟩:=keep1 hb5 (B:=w.heap.size) (by omega)))
    go_roundg 1
    case measure=>omega
    case rel=>exact⟨2,(.slice g0 l0 p0),(.slice g' l' p'),(.slice g2 l2 p2),by omega,rfl,by go_num,Lib.hid (HB.out.step1 hb5 HK)⟩
   ·have HT:=Lib.hid (treeCopy_keep (root:= .int .i64 b.t2.root) (HB.out.n2 wr (fun _=>HB.out.below) (Keep.refl _ _)) ⟨_,rfl⟩)
    go_wp2_with ((go_at_call 74;(with_reducible refine HT.out.mono ?_);rintro e w5 ⟨a',rfl,HK,hb5⟩;obtain⟨g',l',p',rfl⟩:=nodes_slice (HK w5 (Keep.refl _ _));obtain⟨k1',k2',k3'⟩:=keep1 hb5 (B:=w.heap.size) (by omega)))
    go_roundg 0
    case measure=>omega
    case rel=>exact⟨3,(.slice g0 l0 p0),(.slice g1 l1 p1),(.slice g' l' p'),by omega,rfl,by go_num,Lib.hid (HB.out.step2 hb5 HK)⟩
  ·obtain rfl:k=3:=by omega
   obtain⟨z0,z1,z2,z3,z4,z5,z6,z7,zf⟩:=HB.out.rcells
   have hbw:=HB.out.below
   have hlo:=HB.out.low
   have K1:∀w'',Keep (w.heap.size+2) wr w''→BaseAt w'' (.agg #[.slice s' b.names.length c', .slice g0 l0 p0, .int .i64 b.t0.root, .slice g1 l1 p1, .int .i64 b.t1.root, .slice g2 l2 p2, .int .i64 b.t2.root, .int .i64 b.floor]) b:=fun w'' hk=>⟨_,_,_,_,rfl,HB.out.names w'' hk,HB.out.n0 w'' (fun h=>absurd h (by decide)) (hk.mono hlo),HB.out.n1 w'' (fun h=>absurd h (by decide)) (hk.mono hlo),HB.out.n2 w'' (fun h=>absurd h (by decide)) (hk.mono hlo)⟩
   have HN1:=Lib.hid (show ∀w'',Keep w1.heap.size wr w''→NodesAt w'' (.slice g0 l0 p0) b.t0.nodes∧NodesAt w'' (.slice g1 l1 p1) b.t1.nodes∧NodesAt w'' (.slice g2 l2 p2) b.t2.nodes from fun w'' hk=>⟨HB.out.n0 w'' (fun h=>absurd h (by decide)) hk,HB.out.n1 w'' (fun h=>absurd h (by decide)) hk,HB.out.n2 w'' (fun h=>absurd h (by decide)) hk⟩)
   have hhi:=HB.out.high
   have HK1:=Lib.hid K1
   clear K1
   go_wp2
   have HO:=HB.out.own
   refine bodyPost_ret (v:= .agg #[.slice s' b.names.length c', .slice g0 l0 p0, .int .i64 b.t0.root, .slice g1 l1 p1, .int .i64 b.t1.root, .slice g2 l2 p2, .int .i64 b.t2.root, .int .i64 b.floor]) (by simp [results,Tryd.results63,go_sem, *]) rfl ⟨?_,_,_,_,_,_,_,_,_,_,_,_,rfl,?_,w1.heap.size,hlo,by simp only [heap_setCell_size];omega,HB.out.lt,fun w'' hk=>HN1.out w'' (Keep.trans ?_ hk),fun w'' hk=>HK1.out w'' (Keep.trans ?_ hk)⟩
   ·exact(by repeat (first|with_reducible exact Below.refl _ _|with_reducible assumption|with_reducible refine below_dn ?_ _|with_reducible refine Below.drew ?_|with_reducible refine Below.alloc ?_ (by first|omega|(simp;done)|(simp;omega)) _|with_reducible refine Below.setCell ?_ (by first|omega|(simp;done)|(simp;omega)) _))
   ·refine HO _ ?_
    repeat (first|with_reducible exact Keep.refl _ _|with_reducible refine Keep.set ?_ (by show w.heap.size+1<w.heap.size+2;omega) _)
   ·repeat (first|with_reducible exact Keep.refl _ _|with_reducible refine Keep.set ?_ (by show w.heap.size+1<w1.heap.size;omega) _)
   ·repeat (first|with_reducible exact Keep.refl _ _|with_reducible refine Keep.set ?_ (by show w.heap.size+1<w.heap.size+2;omega) _)
end Go.Proofs.YtnjfkcimboidnaaDoor

/- The walk of the document's Book: what is known of points. -/
namespace Go.Proofs.YtnjfkcimboidnaaDoor
open Go.RowKit
theorem AllPost.allT {B:Nat} {w:World} {t:Tr} {e:Ending} {w':World} (h:AllPost B w (treeFault t) (allR t 0 1099511627776) e w') :
  Below B w w'∧(match allT t with|none=>∃E:Int,(E != 0)=true∧e = .returned (.tuple #[.slice none 0 0, .int .i64 E])|some l=>∃v,e = .returned (.tuple #[v, .int .i64 0])∧OwnEnts B w' v l):=by
 obtain⟨hb,h1,h2⟩:=h
 refine⟨hb,?_⟩
 unfold Go.Proofs.YtnjfkcimboidnaaDoor.allT
 by_cases hf:treeFault t=0
 ·have h3:=h2 hf
  rw [if_pos hf]
  cases hr:allR t 0 1099511627776 with
  |none=>rw [hr]at h3;exact⟨1,rfl,h3⟩
  |some l=>rw [hr]at h3;exact h3
 ·rw [if_neg hf];exact⟨_,by simp [hf],h1 hf⟩
theorem book_ok {b:Ba} {l:List Ent} (h1:allT b.t0=some l) (h2:l.all (bookOk b)=true):bookR b=some l:=by
 unfold bookR;rw [h1];simp only;rw [if_pos h2]
theorem book_bad {b:Ba} {l:List Ent} {k:Nat} (h1:allT b.t0=some l) (hk:k<l.length) (h2:bookOk b l[k]=false):bookR b=none:=by
 unfold bookR;rw [h1];simp only;rw [if_neg]
 intro h;have:=List.all_eq_true.1 h l[k] (List.getElem_mem hk);rw [h2]at this;cases this
theorem book_none {b:Ba} (h1:allT b.t0=none):bookR b=none:=by unfold bookR;rw [h1]
abbrev baCells (sa:Option Addr) (sn sc:Nat) (g0:Option Addr) (l0 p0:Nat) (g1:Option Addr) (l1 p1:Nat) (g2:Option Addr) (l2 p2:Nat) (b:Ba):Array Value:=
 #[.slice sa sn sc, .slice g0 l0 p0, .int .i64 b.t0.root, .slice g1 l1 p1, .int .i64 b.t1.root, .slice g2 l2 p2, .int .i64 b.t2.root, .int .i64 b.floor]
theorem BaseAt.open {w:World} {v:Value} {b:Ba} (h:BaseAt w v b):∃sa sc g0 l0 p0 g1 l1 p1 g2 l2 p2,v = .agg (baCells sa b.names.length sc g0 l0 p0 g1 l1 p1 g2 l2 p2 b)∧b.names.length≤8796093022208∧StrsAt w (.slice sa b.names.length sc) b.names ∧
  (∀w',Below w.heap.size w w'→TreeAt w' (.agg #[.slice g0 l0 p0, .int .i64 b.t0.root]) b.t0)∧(∀w',Below w.heap.size w w'→TreeAt w' (.agg #[.slice g1 l1 p1, .int .i64 b.t1.root]) b.t1)∧(∀w',Below w.heap.size w w'→TreeAt w' (.agg #[.slice g2 l2 p2, .int .i64 b.t2.root]) b.t2):=by
 obtain⟨nv,a0,a1,a2,rfl,s,n0,n1,n2⟩:=h
 obtain⟨sa,sc,rfl⟩:=s.isSlice
 obtain⟨g0,l0,p0,rfl⟩:=nodes_slice n0
 obtain⟨g1,l1,p1,rfl⟩:=nodes_slice n1
 obtain⟨g2,l2,p2,rfl⟩:=nodes_slice n2
 obtain⟨_,_,_,_,_,h6,_⟩:=id s
 exact⟨sa,sc,g0,l0,p0,g1,l1,p1,g2,l2,p2,rfl,by omega,s,fun w' hb=>⟨_,rfl,n0.below hb (Nat.le_refl _)⟩,fun w' hb=>⟨_,rfl,n1.below hb (Nat.le_refl _)⟩,fun w' hb=>⟨_,rfl,n2.below hb (Nat.le_refl _)⟩⟩
end Go.Proofs.YtnjfkcimboidnaaDoor

/- The walk of the document's BaseMay: may a base be? -/
namespace Go.Proofs.YtnjfkcimboidnaaDoor
open Go.RowKit
def NameAt (b:Ba) (i:Nat):Prop:=∀h:i<b.names.length,nameMay b.names[i]=true∧∀k (hk:k<i),b.names[k]≠b.names[i]
def NamesOk (b:Ba):Prop:=∀i,NameAt b i
structure BaseOk (b:Ba):Prop where
 n16:b.names.length≤16
 fl0:0≤b.floor
 fl1:b.floor≤1048575
 fl2:b.floor%3600=0
 names:NamesOk b
 trees:∃l,bookR b=some l∧∀k,k<3→treeOk l (b.tree k) (szOf k)=true
open Classical in
noncomputable def baseMay (b:Ba):Bool:=decide (BaseOk b)
theorem baseMay_no {b:Ba} (h:¬BaseOk b):baseMay b=false:=by simp [baseMay,h]
theorem baseMay_yes {b:Ba} (h:BaseOk b):baseMay b=true:=by simp [baseMay,h]
theorem baseMay_ok {b:Ba} (h:baseMay b=true):BaseOk b:=by simpa [baseMay] using h
theorem strs_cell {w wr:World} {b off k:Nat} {xs:List ByteArray} (hb:Below w.heap.size w wr) (hbb:b<w.heap.size)
  (hc:∀(i:Nat) x,xs[i]?=some x→∀j u,(enStr x)[j]?=some u→w.cell? ⟨b,off+i*1+j,none⟩=some u) (hk:k<xs.length):wr.cell? ⟨b,off+k,none⟩=some (.string xs[k]):=by
 have:=hc k xs[k] (by simp [hk]) 0 _ rfl
 rw [Nat.mul_one,Nat.add_zero]at this
 exact(hb.cell (p:=⟨b,off+k,none⟩) hbb).trans this
theorem idx_str {ab aoff n cap j:Nat} {i:Int} (h:i=j) (hj:j<n) (w:World):(Instr.indexAt 29 (.slice (some ⟨ab,aoff,none⟩) n cap) (.int .i64 i)).run Tryd.prog w = .ok (.pointer (some ⟨ab,aoff+j,none⟩)) w:=by
 subst h
 go_simp
theorem str_eq (s t:ByteArray):(s.toList == t.toList)=decide (s=t):=by
 by_cases h:s=t
 ·subst h;simp
 ·have h2:s.toList≠t.toList:=fun e=>h (by
   rw [ByteArray.toList_eq,ByteArray.toList_eq]at e
   cases s;cases t
   simp only [ByteArray.mk.injEq]at *
   exact Array.toList_inj.1 e)
  simp [h,h2]
theorem BaseAt.below {w w':World} {v:Value} {b:Ba} (h:BaseAt w v b) (hb:Below w.heap.size w w'):BaseAt w' v b:=by
 obtain⟨nv,a0,a1,a2,rfl,s0,n0,n1,n2⟩:=h
 exact⟨nv,a0,a1,a2,rfl,s0.below hb (Nat.le_refl _),n0.below hb (Nat.le_refl _),n1.below hb (Nat.le_refl _),n2.below hb (Nat.le_refl _)⟩
theorem treeOk_some {l a c:List Ent} {t:Tr} {z:Int} (h1:rolledR l z=some a) (h2:allT t=some c):treeOk l t z=decide (a=c):=by unfold treeOk;rw [h1,h2]
theorem treeOk_no1 {l:List Ent} {t:Tr} {z:Int} (h1:rolledR l z=none):treeOk l t z=false:=by unfold treeOk;rw [h1]
theorem treeOk_no2 {l:List Ent} {t:Tr} {z:Int} (h1:allT t=none):treeOk l t z=false:=by unfold treeOk;rw [h1];cases rolledR l z <;> rfl
def MayRel (b:Ba) (l:List Ent) (k:Nat) (B:Bool):Prop:=(B=true→∀j,j<k→treeOk l (b.tree j) (szOf j)=true)∧(B=false→baseMay b=false)
theorem MayRel.next {b:Ba} {l:List Ent} {k:Nat} (hl:bookR b=some l) (h:MayRel b l k true) (hk:k<3):MayRel b l (k+1) (treeOk l (b.tree k) (szOf k)):=by
 refine⟨fun hT j hj=>?_,fun hF=>baseMay_no fun hB=>?_⟩
 ·by_cases hjk:j=k
  ·subst hjk;exact hT
  ·exact h.1 rfl j (by omega)
 ·obtain⟨l',e,ht⟩:=hB.trees
  rw [hl]at e
  simp only [Option.some.injEq]at e
  subst e
  rw [ht k hk]at hF;cases hF
theorem MayRel.end {b:Ba} {l:List Ent} (hl:bookR b=some l) (h:MayRel b l 3 true) (h1:b.names.length≤16) (h2:0≤b.floor∧b.floor≤1048575) (h3:b.floor%3600=0) (h4:NamesOk b):baseMay b=true:=
 baseMay_yes ⟨h1,h2.1,h2.2,h3,h4,l,hl,fun k hk=>h.1 rfl k hk⟩
theorem bookR_good {b:Ba} {l:List Ent} (h:bookR b=some l):Rising l∧PGood l:=allT_good (bookR_some h).1
end Go.Proofs.YtnjfkcimboidnaaDoor

/- The walk of the document's BaseIs: is a base the one with these names, this floor, and these points known? -/
namespace Go.Proofs.YtnjfkcimboidnaaDoor
open Go.RowKit
noncomputable def baseIs (b:Ba) (names:List ByteArray) (floor:Int) (l:List Ent):Bool:=baseMay b && decide (b.floor=floor) && decide (b.names=names) && decide (bookR b=some l)
theorem baseIs_eq {b:Ba} {ns:List ByteArray} {fl:Int} {l m:List Ent} (h1:baseMay b=true) (h2:b.floor=fl) (h3:b.names=ns) (h4:bookR b=some m):baseIs b ns fl l=decide (m=l):=by simp [baseIs,h1,h2,h3,h4]
end Go.Proofs.YtnjfkcimboidnaaDoor

/- The walks of 'knows' and of tree.New; the law TreeNew. -/
namespace Go.Proofs.YtnjfkcimboidnaaDoor
open Go.RowKit
end Go.Proofs.YtnjfkcimboidnaaDoor
