/- Texts of mine that come as one: MadeP MadeK Made FitP. -/
import Derived.Test.YtnjfkcimboidnaaDoorPC
import Derived.Test.YtnjfkcimboidnaaDoorKE
import Derived.Test.YtnjfkcimboidnaaDoorPU
import Derived.Test.YtnjfkcimboidnaaDoorDP
import Derived.Test.YtnjfkcimboidnaaDoorOG
import Derived.Test.YtnjfkcimboidnaaDoorAQ
import Derived.Test.YtnjfkcimboidnaaDoorKG
import Derived.Test.YtnjfkcimboidnaaDoorMerged
import Derived.Test.YtnjfkcimboidnaaDoorSO
import Derived.Deep.CutBlock
/- file.made: entries as those of buckets, where they may not be good; which models come back. Plain. -/
namespace Go.Proofs.YtnjfkcimboidnaaDoor
def ReadL (l:List Ent):Prop:=Rising l∧(∀e∈l,0≤e.key∧e.key<1099511627776)∧l.length≤10000
def MidL (l:List Ent) (size:Int) (k:Nat) (es:List Ent):Prop:=(size=1∧es=l.take k)∨(PGood l∧bagC ((l.take k).map (bucket size))=some es)
theorem MidL.start (l:List Ent) (size:Int) (hg:size=1∨PGood l):MidL l size 0 []:=by
 rcases hg with h|h
 ·exact .inl ⟨h,rfl⟩
 ·exact .inr ⟨h,rfl⟩
section
variable {l es:List Ent} {size:Int} {k:Nat}
theorem MidL.rise (h:MidL l size k es) (hs:size=1∨size=60∨size=3600) (hr:ReadL l):Rising es∧es.length≤k:=by
 rcases h with ⟨-,rfl⟩|⟨hg,hb⟩
 ·exact⟨hr.1.sublist (List.take_sublist _ _),by rw [List.length_take];omega⟩
 ·have hP:PGood ((l.take k).map (bucket size)):=by
   have:=bucket_good (show 0<size by omega) hg;rw [←List.take_append_drop k l,List.map_append]at this;exact this.left
  obtain⟨h1,h2,h3,h4,h5⟩:=bagC_some hP.1 hb
  exact⟨h5,by rw [List.length_map,List.length_take]at h4;omega⟩
theorem MidL.keys (h:MidL l size k es) (hs:size=1∨size=60∨size=3600) (hr:ReadL l) (hk:k<l.length):∀e∈es,e.key≤(bucket size l[k]).key:=by
 rcases h with ⟨rfl,rfl⟩|⟨hg,hb⟩
 ·intro e he
  obtain⟨i,hi,rfl⟩:=List.getElem_of_mem he
  rw [List.length_take]at hi
  rw [List.getElem_take]
  have:=List.pairwise_iff_getElem.1 hr.1 i k (by omega) hk (by omega)
  rw [bucket_one];omega
 ·exact rolled_keys hs hr.1 hg hk hb
theorem MidL.new (h:MidL l size k es) (hs:size=1∨size=60∨size=3600) (hk:k<l.length) (hn:∀e∈es,e.key<(bucket size l[k]).key):MidL l size (k+1) (es++[bucket size l[k]]):=by
 rcases h with ⟨rfl,rfl⟩|⟨hg,hb⟩
 ·exact .inl ⟨rfl,by rw [List.take_succ_eq_append_getElem hk,bucket_one]⟩
 ·exact .inr ⟨hg,(rolledP_step hk hb).trans (insC_end hn)⟩
theorem MidL.old (h:MidL l size k es) (hs:size=1∨size=60∨size=3600) (hr:ReadL l) (hk:k<l.length) {j:Nat} (hj:es.length=j+1) (he:(es[j]'(by omega)).key=(bucket size l[k]).key) :
  PGood l∧rollCheck (es[j]'(by omega)).is=0∧rollCheck l[k].is=0∧((es[j]'(by omega)).is.c+l[k].is.c≤1073741824→MidL l size (k+1) (es.set j ⟨(es[j]'(by omega)).key,(es[j]'(by omega)).is.join l[k].is⟩))∧(¬(es[j]'(by omega)).is.c+l[k].is.c≤1073741824→rolledR l size=none):=by
 rcases h with ⟨rfl,rfl⟩|⟨hg,hb⟩
 ·exfalso
  rw [List.getElem_take,bucket_one]at he
  rw [List.length_take]at hj
  have:=List.pairwise_iff_getElem.1 hr.1 j k (by omega) hk (by omega)
  omega
 ·have hP:PGood ((l.take k).map (bucket size)):=by
   have:=bucket_good (show 0<size by omega) hg;rw [←List.take_append_drop k l,List.map_append]at this;exact this.left
  obtain⟨h1,h2,h3,h4,h5⟩:=bagC_some hP.1 hb
  have hx:=(hg.1 _ (List.getElem_mem hk)).2
  have hst:=rolledP_step (size:=size) hk hb
  have hio:=insC_old (x:=bucket size l[k]) (i:=j) (by omega) h5 (posE_last h5 hj he) he
  refine⟨hg,(h3 _ (List.getElem_mem _)).2,hx,fun hc=> .inr ⟨hg,?_⟩,fun hc=>?_⟩
  ·rw [hst,hio,he];exact if_pos hc
  ·exact rolledP_stop (k:=k+1) (by rw [hst,hio];exact if_neg hc)
end
def MadeBad (ns:List ByteArray) (fl:Int) (l:List Ent):Prop:=
 (∃k,k<3∧PGood l∧rolledR l (szOf k)=none)∨(∃k es,k<3∧MidL l (szOf k) l.length es∧(entsE none es≠0∨2900<es.length)) ∨
 (∃T:Nat→Tr,(∀k,k<3→∃es,MidL l (szOf k) l.length es∧Made es (T k))∧baseMay ⟨ns,T 0,T 1,T 2,fl⟩=false)
structure MadeOk (ns:List ByteArray) (fl:Int) (l:List Ent) (T:Nat→Tr):Prop where
 may:baseMay ⟨ns,T 0,T 1,T 2,fl⟩=true
 tree:∀k,k<3→∃es,MidL l (szOf k) l.length es∧Made es (T k)
theorem MadeOk.book {ns:List ByteArray} {fl:Int} {l:List Ent} {T:Nat→Tr} (h:MadeOk ns fl l T) (hl:Rising l):bookR ⟨ns,T 0,T 1,T 2,fl⟩=some l:=by
 obtain⟨es,h1,h2⟩:=h.tree 0 (by decide)
 have hes:es=l:=by
  rcases h1 with ⟨-,h1⟩|⟨hg,h1⟩
  ·rw [h1,List.take_length]
  ·rw [List.take_length,show szOf 0=1 from rfl,map_bucket_one]at h1
   obtain⟨h3,-⟩:=bagC_some hg.1 h1
   rw [h3,bag_self hl hg.1.goods]
 subst hes
 have h3:=h2.knows
 obtain⟨l',hl',-⟩:=base_trees h.may
 have h4:=(bookR_some hl').1
 have:l'=es:=Option.some.inj (h4.symm.trans h3)
 rw [←this];exact hl'
structure Fit (ns:List ByteArray) (fl:Int) (l:List Ent):Prop where
 n16:ns.length≤16
 may:∀s∈ns,nameMay s=true
 nd:ns.Nodup
 f0:0≤fl∧fl≤1048575
 f3:fl%3600=0
 rise:Rising l
 good:PGood l
 few:l.length≤2900
 cnt:allC l≤1073741824
 ok:∀e∈l,e.key/1048576<ns.length∧fl≤e.key%1048576∧e.is.t=e.key%1048576
theorem entsE_ok:∀{l:List Ent} {p:Option Int},Rising l→Checked l→(∀e∈l,0≤e.key∧e.key<1099511627776)→(∀k,p=some k→∀e∈l,k<e.key)→entsE p l=0
 |[],_,_,_,_,_=>by unfold entsE;rfl
 |e::l,p,hr,hc,hk,hp=>by
  have h1:=List.pairwise_cons.1 hr
  have h2:=hc e (by simp)
  have h3:=hk e (by simp)
  unfold entsE
  rw [if_neg,if_neg (by omega),if_neg (not_not_intro h2.2)]
  ·exact entsE_ok h1.2 (fun x hx=>hc x (by simp [hx])) (fun x hx=>hk x (by simp [hx])) fun k hkk x hx=>by
    injection hkk with hkk;subst hkk;exact h1.1 x hx
  ·rintro⟨k,hk1,hk2⟩
   have:=hp k hk1 e (by simp)
   omega
theorem Fit.rolled {ns:List ByteArray} {fl:Int} {l:List Ent} (h:Fit ns fl l) (k:Nat):rolledR l (szOf k)=some (bag (l.map (bucket (szOf k)))):=by
 have hb:=(bucket_good (szOf_pos k) h.good).1
 unfold rolledR
 rw [bagC_eq hb,if_pos]
 refine small_of_allC hb.goods ?_
 rw [allC_bucket];exact h.cnt
theorem Fit.mid {ns:List ByteArray} {fl:Int} {l es:List Ent} (h:Fit ns fl l) {k:Nat} (hm:MidL l (szOf k) l.length es):es=bag (l.map (bucket (szOf k))):=by
 rcases hm with ⟨h1,h2⟩|⟨-,h2⟩
 ·rw [h2,List.take_length,h1,map_bucket_one,bag_self h.rise h.good.1.goods]
 ·rw [List.take_length]at h2
  exact Option.some.inj (h2.symm.trans (h.rolled k))
theorem Fit.bag {ns:List ByteArray} {fl:Int} {l:List Ent} (h:Fit ns fl l) (k:Nat):PGood (bag (l.map (bucket (szOf k))))∧Rising (bag (l.map (bucket (szOf k))))∧(bag (l.map (bucket (szOf k)))).length≤2900:=by
 have hb:=bucket_good (szOf_pos k) h.good
 have hr:=h.rolled k
 unfold rolledR at hr
 obtain⟨h1,h2,h3,h4,h5⟩:=bagC_some hb.1 hr
 refine⟨pgood_bag hb hr,h5,?_⟩
 rw [List.length_map]at h4
 have:=h.few;omega
theorem Fit.base {ns:List ByteArray} {fl:Int} {l:List Ent} (h:Fit ns fl l) {T:Nat→Tr} (hT:∀k,k<3→allT (T k)=some (Go.Proofs.YtnjfkcimboidnaaDoor.bag (l.map (bucket (szOf k))))):baseMay ⟨ns,T 0,T 1,T 2,fl⟩=true∧bookR ⟨ns,T 0,T 1,T 2,fl⟩=some l:=by
 have h0:allT (T 0)=some l:=by rw [hT 0 (by decide),show szOf 0=1 from rfl,map_bucket_one,bag_self h.rise h.good.1.goods]
 have hb:bookR ⟨ns,T 0,T 1,T 2,fl⟩=some l:=by
  refine book_ok h0 (List.all_eq_true.2 fun e he=>?_)
  have:=h.ok e he
  simp [bookOk]
  exact⟨⟨this.1,this.2.1⟩,this.2.2⟩
 refine⟨baseMay_yes ⟨h.n16,h.f0.1,h.f0.2,h.f3,fun i hi=>⟨h.may _ (List.getElem_mem hi),fun k hk=>?_⟩,⟨l,hb,fun k hk=>?_⟩⟩,hb⟩
 ·have hi':i<ns.length:=hi
  exact List.pairwise_iff_getElem.1 h.nd k i (by omega) hi' hk
 ·have e:(⟨ns,T 0,T 1,T 2,fl⟩:Ba).tree k=T k:=by
   obtain rfl|rfl|rfl:k=0∨k=1∨k=2:=by omega
   all_goals rfl
  rw [treeOk_some (h.rolled k) (by rw [e];exact hT k hk)]
  simp
theorem Fit.not_bad {ns:List ByteArray} {fl:Int} {l:List Ent} (h:Fit ns fl l):¬MadeBad ns fl l:=by
 rintro(⟨k,-,-,h1⟩|⟨k,es,-,h1,h2⟩|⟨T,h1,h2⟩)
 ·rw [h.rolled k]at h1;cases h1
 ·obtain rfl:=h.mid h1
  obtain⟨g1,g2,g3⟩:=h.bag k
  rcases h2 with h2|h2
  ·exact h2 (entsE_ok g2 g1.1 g1.2.1 fun k hk=>by cases hk)
  ·omega
 ·have:=(h.base (T:=T) fun k hk=>by
   obtain⟨es,h3,h4⟩:=h1 k hk
   obtain rfl:=h.mid h3
   exact h4.knows).1
  rw [h2]at this;cases this
theorem Fit.bst {ns:List ByteArray} {fl:Int} {l:List Ent} (h:Fit ns fl l) {T:Nat→Tr} (ht:MadeOk ns fl l T) {N:Nat} (hN:l.length≤N) (hc:allC l≤N):Bst ⟨ns,T 0,T 1,T 2,fl⟩ l N:=by
 refine⟨ht.may,ht.book h.rise,fun k hk=>?_,hc⟩
 obtain⟨es,h1,h2⟩:=ht.tree k hk
 obtain rfl:=h.mid h1
 have e:(⟨ns,T 0,T 1,T 2,fl⟩:Ba).tree k=T k:=by
  obtain rfl|rfl|rfl:k=0∨k=1∨k=2:=by omega
  all_goals rfl
 rw [e]
 have h3:=h2.2.2.2.2.2
 have h4:(Go.Proofs.YtnjfkcimboidnaaDoor.bag (l.map (bucket (szOf k)))).length≤l.length:=by
  have:=@bagQ_len (l.map (bucket (szOf k))) []
  rw [List.length_map]at this
  unfold Go.Proofs.YtnjfkcimboidnaaDoor.bag
  simpa using this
 omega
end Go.Proofs.YtnjfkcimboidnaaDoor

/- What file.made's loop keeps. -/
namespace Go.Proofs.YtnjfkcimboidnaaDoor
open Go.RowKit
def upd {α:Type} (f:Nat→α) (k:Nat) (v:α):Nat→α:=fun j=>if j=k then v else f j
theorem upd_at {α:Type} (f:Nat→α) (k:Nat) (v:α):upd f k v k=v:=if_pos rfl
theorem upd_ne {α:Type} (f:Nat→α) {k j:Nat} (v:α) (h:j≠k):upd f k v j=f j:=if_neg h
structure MdK (w:World) (ns:List ByteArray) (fl:Int) (l:List Ent) (sn:Option Addr) (sc:Nat) (g:Nat→Option Addr) (n c:Nat→Nat) (r:Nat→Int) (T:Nat→Tr) (k:Nat) (wr:World):Prop where
 below:Below w.heap.size w wr
 size:w.heap.size+3≤wr.heap.size
 res:wr.heap[w.heap.size]?=some (.cells zeroBC 35)
 box:wr.heap[w.heap.size+1]?=some (.cells #[.slice sn ns.length sc, .slice (g 0) (n 0) (c 0), .int .i64 (r 0), .slice (g 1) (n 1) (c 1), .int .i64 (r 1), .slice (g 2) (n 2) (c 2), .int .i64 (r 2), .int .i64 fl] 35)
 sz:wr.heap[w.heap.size+2]?=some (.cells #[.int .i64 1, .int .i64 60, .int .i64 3600] 3)
 tr:∀j,j<k→(∃es,MidL l (szOf j) l.length es∧Made es (T j))∧∀w'',Keep (w.heap.size+2) wr w''→TreeAt w'' (.agg #[.slice (g j) (n j) (c j), .int .i64 (r j)]) (T j)
section
variable {w:World} {ns:List ByteArray} {fl:Int} {l:List Ent} {sn:Option Addr} {sc:Nat} {g:Nat→Option Addr} {n c:Nat→Nat} {r:Nat→Int} {T:Nat→Tr} {k:Nat} {wr wx:World}
theorem MdK.later (h:MdK w ns fl l sn sc g n c r T k wr) (hb:Below wr.heap.size wr wx):MdK w ns fl l sn sc g n c r T k wx:=
 ⟨Below.trans' h.below hb h.below.size,Nat.le_trans h.size hb.size,(hb.block _ (by have:=h.size;omega)).trans h.res,(hb.block _ (by have:=h.size;omega)).trans h.box,(hb.block _ (by have:=h.size;omega)).trans h.sz,
  fun j hj=>⟨(h.tr j hj).1,fun w'' hw=>(h.tr j hj).2 w'' ((Keep.of hb (Nat.le_refl _)).trans hw)⟩⟩
theorem MdK.cells (h:MdK w ns fl l sn sc g n c r T k wr):wr.cell? ⟨w.heap.size+1,0,none⟩=some (.slice sn ns.length sc)∧wr.cell? ⟨w.heap.size+1,1,none⟩=some (.slice (g 0) (n 0) (c 0))∧wr.cell? ⟨w.heap.size+1,2,none⟩=some (.int .i64 (r 0))∧wr.cell? ⟨w.heap.size+1,3,none⟩=some (.slice (g 1) (n 1) (c 1))∧wr.cell? ⟨w.heap.size+1,4,none⟩=some (.int .i64 (r 1))∧wr.cell? ⟨w.heap.size+1,5,none⟩=some (.slice (g 2) (n 2) (c 2))∧wr.cell? ⟨w.heap.size+1,6,none⟩=some (.int .i64 (r 2))∧wr.cell? ⟨w.heap.size+1,7,none⟩=some (.int .i64 fl)∧∀o,wr.frozen? ⟨w.heap.size+1,o,none⟩=false:=by
 have h1:=h.box
 simp [World.cell?,World.frozen?,h1]
theorem MdK.zero (h:MdK w ns fl l sn sc g n c r T k wr):wr.cell? ⟨w.heap.size,0,none⟩=some (.slice none 0 0)∧wr.cell? ⟨w.heap.size,1,none⟩=some (.slice none 0 0)∧wr.cell? ⟨w.heap.size,2,none⟩=some (.int .i64 0)∧wr.cell? ⟨w.heap.size,3,none⟩=some (.slice none 0 0)∧wr.cell? ⟨w.heap.size,4,none⟩=some (.int .i64 0)∧wr.cell? ⟨w.heap.size,5,none⟩=some (.slice none 0 0)∧wr.cell? ⟨w.heap.size,6,none⟩=some (.int .i64 0)∧wr.cell? ⟨w.heap.size,7,none⟩=some (.int .i64 0)∧∀o,wr.frozen? ⟨w.heap.size,o,none⟩=false:=by
 have h1:=h.res
 simp [World.cell?,World.frozen?,h1,zeroBC]
theorem MdK.at (h:MdK w ns fl l sn sc g n c r T k wr) (hk:k<3):wr.cell? ⟨w.heap.size+2,k,none⟩=some (.int .i64 (szOf k))∧(∃u,wr.cell? ⟨w.heap.size+1,1+k*2,none⟩=some u)∧∃u,wr.cell? ⟨w.heap.size+1,1+k*2+1,none⟩=some u:=by
 have h1:=h.box
 have h2:=h.sz
 obtain rfl|rfl|rfl:k=0∨k=1∨k=2:=by omega
 all_goals simp [World.cell?,h1,h2,szOf]
theorem MdK.good (h:MdK w ns fl l sn sc g n c r T k wr) (hr:ReadL l):szOf k=1∨PGood l:=by
 cases k with
 |zero=>exact .inl rfl
 |succ k=>
  obtain⟨⟨es,h1,h2⟩,-⟩:=h.tr 0 (by omega)
  rcases h1 with ⟨-,h1⟩|⟨h1,-⟩
  ·rw [List.take_length]at h1
   subst h1
   exact .inr ⟨h2.2.2.2.1,hr.2.1,by have:=hr.2.2;omega⟩
  ·exact .inr h1
theorem MdK.step {B:Nat} {w0:World} {so:Option Addr} {nn cc:Nat} {rt:Int} {t:Tr} {es:List Ent} (h:MdK w ns fl l sn sc g n c r T k wr) (hk:k<3) (hB:w.heap.size+2≤B) (hkp:Keep B w0 wr) (ht:∀w'',Keep B w0 w''→TreeAt w'' (.agg #[.slice so nn cc, .int .i64 rt]) t) (hm:MidL l (szOf k) l.length es) (hd:Made es t) :
  MdK w ns fl l sn sc (upd g k so) (upd n k nn) (upd c k cc) (upd r k rt) (upd T k t) (k+1) ((wr.setCell ⟨w.heap.size+1,1+k*2,none⟩ (.slice so nn cc)).setCell ⟨w.heap.size+1,1+k*2+1,none⟩ (.int .i64 rt)):=by
 have hs:=h.size
 have hne:∀b,b≠w.heap.size+1→((wr.setCell ⟨w.heap.size+1,1+k*2,none⟩ (.slice so nn cc)).setCell ⟨w.heap.size+1,1+k*2+1,none⟩ (.int .i64 rt)).heap[b]?=wr.heap[b]?:=fun b hb=>
  (heap_setCell_other _ ⟨w.heap.size+1,_,none⟩ b _ hb).trans (heap_setCell_other _ ⟨w.heap.size+1,_,none⟩ b _ hb)
 have hkw:Keep (w.heap.size+2) wr ((wr.setCell ⟨w.heap.size+1,1+k*2,none⟩ (.slice so nn cc)).setCell ⟨w.heap.size+1,1+k*2+1,none⟩ (.int .i64 rt)):=((Keep.refl _ _).set (by show w.heap.size+1<_;omega) _).set (by show w.heap.size+1<_;omega) _
 refine⟨(h.below.setCell (by show w.heap.size≤w.heap.size+1;omega) _).setCell (by show w.heap.size≤w.heap.size+1;omega) _,by simp only [heap_setCell_size];exact hs,(hne _ (by omega)).trans h.res,?_,(hne _ (by omega)).trans h.sz,fun j hj=>?_⟩
 ·have h1:=heap_setCell_same (off:=1+k*2+1) (v:= .int .i64 rt) (heap_setCell_same (off:=1+k*2) (v:= .slice so nn cc) h.box)
  rw [h1]
  obtain rfl|rfl|rfl:k=0∨k=1∨k=2:=by omega
  all_goals simp [upd]
 ·by_cases hjk:j=k
  ·subst hjk
   rw [upd_at,upd_at,upd_at,upd_at,upd_at]
   exact⟨⟨es,hm,hd⟩,fun w'' hw=>ht w'' (hkp.trans ((hkw.trans hw).mono hB))⟩
  ·rw [upd_ne _ _ hjk,upd_ne _ _ hjk,upd_ne _ _ hjk,upd_ne _ _ hjk,upd_ne _ _ hjk]
   exact⟨(h.tr j (by omega)).1,fun w'' hw=>(h.tr j (by omega)).2 w'' (hkw.trans hw)⟩
theorem MdK.base (h:MdK w ns fl l sn sc g n c r T 3 wr):r 0=(T 0).root∧r 1=(T 1).root∧r 2=(T 2).root∧∀w'',StrsAt w'' (.slice sn ns.length sc) ns→Keep (w.heap.size+2) wr w''→BaseAt w'' (.agg #[.slice sn ns.length sc, .slice (g 0) (n 0) (c 0), .int .i64 (T 0).root, .slice (g 1) (n 1) (c 1), .int .i64 (T 1).root, .slice (g 2) (n 2) (c 2), .int .i64 (T 2).root, .int .i64 fl]) ⟨ns,T 0,T 1,T 2,fl⟩:=by
 have key:∀j,j<3→r j=(T j).root∧∀w'',Keep (w.heap.size+2) wr w''→NodesAt w'' (.slice (g j) (n j) (c j)) (T j).nodes:=fun j hj=>by
  have h1:=(h.tr j hj).2
  have hx:∀w'',Keep (w.heap.size+2) wr w''→r j=(T j).root∧NodesAt w'' (.slice (g j) (n j) (c j)) (T j).nodes:=fun w'' hw=>by
   obtain⟨nv,e,hn⟩:=h1 w'' hw
   simp only [Value.agg.injEq,Array.mk.injEq,List.cons.injEq,Value.int.injEq,and_true,true_and]at e
   exact⟨e.2,e.1▸hn⟩
  exact⟨(hx wr (Keep.refl _ _)).1,fun w'' hw=>(hx w'' hw).2⟩
 exact⟨(key 0 (by decide)).1,(key 1 (by decide)).1,(key 2 (by decide)).1,fun w'' hs hw=>⟨_,_,_,_,rfl,hs,(key 0 (by decide)).2 w'' hw,(key 1 (by decide)).2 w'' hw,(key 2 (by decide)).2 w'' hw⟩⟩
end
def MadePost (ns:List ByteArray) (fl:Int) (l:List Ent) (nv:Value) (w:World) (x:Ending) (w':World):Prop:=
 Below w.heap.size w w'∧((∃E,E≠0∧x = .returned (.tuple #[zeroB, .int .i64 E])∧MadeBad ns fl l) ∨
  ∃sn sc g0 l0 p0 g1 l1 p1 g2 l2 p2,∃T:Nat→Tr,nv = .slice sn ns.length sc∧x = .returned (.tuple #[.agg (baCells sn ns.length sc g0 l0 p0 g1 l1 p1 g2 l2 p2 ⟨ns,T 0,T 1,T 2,fl⟩), .int .i64 0])∧MadeOk ns fl l T ∧
   ∀w'',StrsAt w'' nv ns→Keep (w.heap.size+2) w' w''→BaseAt w'' (.agg (baCells sn ns.length sc g0 l0 p0 g1 l1 p1 g2 l2 p2 ⟨ns,T 0,T 1,T 2,fl⟩)) ⟨ns,T 0,T 1,T 2,fl⟩)
end Go.Proofs.YtnjfkcimboidnaaDoor

/- The walk of file.made. -/
namespace Go.Proofs.YtnjfkcimboidnaaDoor
open Go.RowKit
theorem below_set8' {B xb:Nat} {w w0:World} (h:Below B w w0) (hx:B≤xb) (v0 v1 v2 v3 v4 v5 v6 v7:Value):Below B w ((((((((w0.setCell ⟨xb,0,none⟩ v0).setCell ⟨xb,1,none⟩ v1).setCell ⟨xb,2,none⟩ v2).setCell ⟨xb,3,none⟩ v3).setCell ⟨xb,4,none⟩ v4).setCell ⟨xb,5,none⟩ v5).setCell ⟨xb,6,none⟩ v6).setCell ⟨xb,7,none⟩ v7):=
 (((((((h.setCell hx _).setCell hx _).setCell hx _).setCell hx _).setCell hx _).setCell hx _).setCell hx _).setCell hx _
theorem keep_set8 {M xb:Nat} {wx:World} (hx:xb<M) (v0 v1 v2 v3 v4 v5 v6 v7:Value):Keep M wx ((((((((wx.setCell ⟨xb,0,none⟩ v0).setCell ⟨xb,1,none⟩ v1).setCell ⟨xb,2,none⟩ v2).setCell ⟨xb,3,none⟩ v3).setCell ⟨xb,4,none⟩ v4).setCell ⟨xb,5,none⟩ v5).setCell ⟨xb,6,none⟩ v6).setCell ⟨xb,7,none⟩ v7):=
 ((((((((Keep.refl M wx).set hx _).set hx _).set hx _).set hx _).set hx _).set hx _).set hx _).set hx _
theorem szOf_is (k:Nat):szOf k=1∨szOf k=60∨szOf k=3600:=by unfold szOf;split;exact .inl rfl;split;exact .inr (.inl rfl);exact .inr (.inr rfl)
set_option maxRecDepth 100000 in
set_option maxHeartbeats 8000000 in
theorem made_any {nv lv:Value} {ns:List ByteArray} {fl:Int} {l:List Ent} {w:World} (hn:StrsAt w nv ns) (hl:EntsAt w lv l) (hr:ReadL l) (hst:∀s∈ns,s.size≤140737488351232) (hsz:SizesAt w) :
  Calls Tryd.prog 44 #[nv, .int .i64 fl,lv] w (MadePost ns fl l nv w):=by
 obtain⟨sn,sc,rfl⟩:∃sn sc,nv = .slice sn ns.length sc:=by obtain⟨ao,cap,h,-⟩:=hn;exact⟨ao,cap,h⟩
 obtain⟨ao,cap,rfl⟩:=hl.isSlice
 have HN:=Lib.hid hn
 have HL:=Lib.hid hl
 have HR:=Lib.hid hr
 have HSZ:=Lib.hid (And.intro hst hsz)
 obtain⟨W0,hW0⟩:∃W0,W0=((w.alloc (.cells zeroBC 35)).alloc (.cells #[.slice sn ns.length sc, .slice none 0 0, .int .i64 0, .slice none 0 0, .int .i64 0, .slice none 0 0, .int .i64 0, .int .i64 fl] 35)).alloc (.cells #[.int .i64 1, .int .i64 60, .int .i64 3600] 3):=⟨_,rfl⟩
 have HI:=Lib.hid (show MdK w ns fl l sn sc (fun _=>none) (fun _=>0) (fun _=>0) (fun _=>0) (fun _=>⟨[],0⟩) 0 W0 by
  refine⟨by rw [hW0];exact belowAuto,by rw [hW0];simp,?_,?_,?_,fun j hj=>absurd hj (Nat.not_lt_zero _)⟩
  ·rw [hW0,Below.heap_alloc _ _ _ (by simp <;> omega),Below.heap_alloc _ _ _ (by simp <;> omega)];exact heap_new _ _ rfl
  ·rw [hW0,Below.heap_alloc _ _ _ (by simp)];exact heap_new _ _ (by simp)
  ·rw [hW0];exact heap_new _ _ (by simp))
 clear hn hl hr hst hsz
 go_enter Tryd.func44,Tryd.ntmps44
 go_upto_region 3 with (fail)
 rw [←hW0]
 clear hW0
 go_wp2_with fail
 go_loopg [24] 3 (fun gk i wr=>∃k:Nat,k≤3∧gk=3-k∧i = .int .i64 k∧Hid (∃g n c r T,MdK w ns fl l sn sc g n c r T k wr))
 case atStart=>exact⟨0,by omega,rfl,rfl,Lib.hid ⟨_,_,_,_,_,HI.out⟩⟩
 case round=>
  clear HI
  obtain⟨k,hk,rfl,rfl,HM⟩:=hrel
  obtain⟨wo,rfl⟩:∃x,x=wr:=⟨_,rfl⟩
  obtain⟨g,n,c,r,T,hm⟩:=HM.out
  have HM:=Lib.hid hm
  by_cases hlt:k<3
  ·obtain⟨hsk,-,-⟩:=hm.at hlt
   have hgood:=hm.good HR.out
   have hsi:=szOf_is k
   obtain⟨S,hS⟩:∃S,szOf k=S:=⟨_,rfl⟩
   rw [hS]at hsk hgood hsi
   have HS:=Lib.hid hS
   have HSI:=Lib.hid hsi
   have hix:=fun w'=>idx_int (ab:=w.heap.size+2) (aoff:=0) (n:=3) (cap:=3) (show (k:Int)=((k:Nat):Int) by rfl) hlt w'
   have hll:=HR.out.2.2
   have hlt3:(k:Int)<3:=by omega
   clear hm hS hsi
   go_wp2_with fail
   go_loopg [11,31] l.length (fun g2 ov i wi=>∃(q:Nat) (es:List Ent),q≤l.length∧g2=l.length-q∧i = .int .i64 q∧OwnEnts wo.heap.size wi ov es∧Hid (MidL l S q es)∧Hid (Below wo.heap.size wo wi))
   case atStart=>exact⟨0,[],Nat.zero_le _,rfl,rfl,OwnEnts.nil _ _,Lib.hid (MidL.start l S hgood),Lib.hid (Below.refl _ _)⟩
   case round=>
    obtain⟨q,es,hq,rfl,rfl,hown,HI,HB⟩:=hrel
    obtain⟨so,oc,rfl⟩:=hown.isSlice
    by_cases hlq:q<l.length
    ·obtain⟨_,_,hv,-,-,-,-,h5⟩:=HL.out
     injection hv with hv1 _ hv3
     subst hv1 hv3
     obtain⟨eb,eoff,hla,heb,hec⟩:=h5 (by omega)
     subst hla
     have hwsz:=HM.out.size
     have hbsz:=HB.out.size
     have hbwr:=Below.trans' HM.out.below HB.out HM.out.below.size
     obtain⟨y0,y1,y2,y3,y4,y5,y6⟩:=ent_cells hbwr heb hec hlq
     have HKY:=Lib.hid (HI.out.keys HSI.out HR.out hlq)
     have HNW:=Lib.hid (fun hn=>HI.out.new HSI.out hlq hn)
     have HOL:=Lib.hid (fun j hj he=>HI.out.old HSI.out HR.out hlq (j:=j) hj he)
     have HRE:=Lib.hid (HI.out.rise HSI.out HR.out)
     have hyr:=HR.out.2.1 _ (List.getElem_mem hlq)
     obtain⟨y,hy⟩:∃y,l[q]=y:=⟨_,rfl⟩
     rw [hy]at y0 y1 y2 y3 y4 y5 y6 HKY HNW HOL hyr
     have hsp:0<S∧S≤3600:=by have:=HSI.out;omega
     obtain⟨M,hM⟩:∃M,y.key%1048576=M:=⟨_,rfl⟩
     have hM0:0≤M∧M<1048576:=by omega
     obtain⟨RR,hRR⟩:∃R,M%S=R:=⟨_,rfl⟩
     have hR0:0≤RR∧RR<S:=by rw [←hRR];exact⟨Int.emod_nonneg _ (by omega),Int.emod_lt_of_pos _ hsp.1⟩
     obtain⟨P,hP⟩:∃P,y.key-RR=P:=⟨_,rfl⟩
     have hbk:bucket S y=⟨P,y.is⟩:=by simp [bucket,hM,hRR,hP]
     rw [hbk]at HKY HNW HOL
     have m1:y.key.tmod 1048576=M:=by rw [Int.tmod_eq_emod_of_nonneg hyr.1];exact hM
     have m2:M.tmod S=RR:=by rw [Int.tmod_eq_emod_of_nonneg hM0.1];exact hRR
     have m3:IntKind.i64.wrap M=M:=IntWalk.i64_in _ (by omega)
     have m4:IntKind.i64.wrap RR=RR:=IntWalk.i64_in _ (by omega)
     have m5:IntKind.i64.wrap (y.key-RR)=P:=by rw [hP];exact IntWalk.i64_in _ (by omega)
     have hs0:(S == 0)=false:=by simp;omega
     have hs0':¬S=0:=by omega
     have hixq:=fun w'=>idx_ents (ab:=eb) (aoff:=eoff) (n:=l.length) (cap:=cap) (show (q:Int)=((q:Nat):Int) by rfl) hlq w'
     have hebw:eb<wr.heap.size:=by have:=HM.out.below.size;omega
     clear hy hM hRR hP hbk hec h5 hyr hM0 hR0
     go_upto_region 9 with (fail)
     obtain⟨W1,hW1⟩:∃W',W'=wr.alloc (.cells #[.int .i64 y.key, .int .i64 y.is.c, .int .i64 y.is.s, .int .i64 y.is.mi, .int .i64 y.is.ma, .int .i64 y.is.t, .int .i64 y.is.l] 96):=⟨_,rfl⟩
     have hb1:Below wr.heap.size wr W1:=by rw [hW1];exact belowAuto
     have k1:W1.heap[wr.heap.size]?=some (.cells #[.int .i64 y.key, .int .i64 y.is.c, .int .i64 y.is.s, .int .i64 y.is.mi, .int .i64 y.is.ma, .int .i64 y.is.t, .int .i64 y.is.l] 96):=by rw [hW1];exact heap_new _ _ rfl
     have hz1:W1.heap.size=wr.heap.size+1:=by rw [hW1];simp
     have HK1:=Lib.hid (And.intro hb1 (And.intro k1 hz1))
     obtain⟨x0,x1,x2,x3,x4,x5,x6⟩:W1.cell? ⟨wr.heap.size,0,none⟩=some (.int .i64 y.key)∧W1.cell? ⟨wr.heap.size,1,none⟩=some (.int .i64 y.is.c)∧W1.cell? ⟨wr.heap.size,2,none⟩=some (.int .i64 y.is.s)∧W1.cell? ⟨wr.heap.size,3,none⟩=some (.int .i64 y.is.mi)∧W1.cell? ⟨wr.heap.size,4,none⟩=some (.int .i64 y.is.ma)∧W1.cell? ⟨wr.heap.size,5,none⟩=some (.int .i64 y.is.t)∧W1.cell? ⟨wr.heap.size,6,none⟩=some (.int .i64 y.is.l):=by simp [World.cell?,k1]
     have xf:∀o,W1.drew.frozen? ⟨wr.heap.size,o,none⟩=false:=by intro o;have k1':W1.drew.heap[wr.heap.size]?=_:=k1;simp [World.frozen?,k1']
     have x0d:W1.drew.cell? ⟨wr.heap.size,0,none⟩=some (.int .i64 y.key):=x0
     rw [←hW1]
     clear hW1 hb1 k1 hz1 y0 y1 y2 y3 y4 y5 y6 hixq
     refine wp_region_schedG [(0,1),(1,0),(2,1),(3,0),(4,1),(5,1),(6,1),(7,1),(8,1),(9,3)] 9
      (fun W=>W.cell? ⟨wr.heap.size,0,none⟩=some (.int .i64 y.key)) (by kernel_rfl) (by kernel_rfl) x0d ?_
     (simp only [pickS,List.filterMap_cons,List.filterMap_nil,List.getElem?_cons_zero,List.getElem?_cons_succ,Option.map_some])
     (repeat (first|((refine schedG_pure (v:=?_) ?_ (fun W=>?_) ?_);rotate_left;(focus (first|exact wanted_bare rfl _|exact wanted_yes rfl rfl rfl rfl));(focus (go_simp;(try with_reducible rfl);done));(try simp only [Act.put,List.setIfInBounds_toArray,List.set_cons_zero,List.set_cons_succ]))|((refine schedG_read (v:=?_) ?_ (fun W hW=>?_) ?_);rotate_left;(focus (first|exact wanted_bare rfl _|exact wanted_yes rfl rfl rfl rfl));(focus ((try dsimp only at hW);go_simp;(try with_reducible rfl);done));(try simp only [Act.put,List.setIfInBounds_toArray,List.set_cons_zero,List.set_cons_succ]))|((refine schedG_skip ?_ ?_);(focus exact wanted_no rfl rfl rfl rfl);(try simp only [Act.put,List.setIfInBounds_toArray,List.set_cons_zero,List.set_cons_succ]))))
     refine schedG_last ?_ (fun K hK=>?_)
     (focus (first|exact wanted_bare rfl _|exact wanted_yes rfl rfl rfl rfl))
     go_simp
     refine hK _ _ ?_
     clear hK K
     refine schedG_end ?_
     obtain⟨V2,hV2⟩:∃V,V=(W1.setCell ⟨wr.heap.size,0,none⟩ (.int .i64 P)).drew:=⟨_,rfl⟩
     have kp:V2.heap[wr.heap.size]?=some (.cells #[.int .i64 P, .int .i64 y.is.c, .int .i64 y.is.s, .int .i64 y.is.mi, .int .i64 y.is.ma, .int .i64 y.is.t, .int .i64 y.is.l] 96):=by
      rw [hV2];exact heap_setCell_same HK1.out.2.1
     have hb2:Below wr.heap.size wr V2:=by rw [hV2];exact(HK1.out.1.setCell (Nat.le_refl _) _).drew
     have hz2:V2.heap.size=wr.heap.size+1:=by rw [hV2];show (W1.setCell _ _).heap.size=_;rw [heap_setCell_size];exact HK1.out.2.2
     have HB2:=Lib.hid hb2
     have HK2:=Lib.hid (And.intro kp hz2)
     have hown2:OwnEnts wo.heap.size V2 (.slice so es.length oc) es:=hown.below hb2 (Nat.le_refl _)
     obtain⟨yb,hyb⟩:∃yb,wr.heap.size=yb:=⟨_,rfl⟩
     rw [hyb]at kp HK2
     obtain⟨z0,z1,z2,z3,z4,z5,z6⟩:V2.cell? ⟨yb,0,none⟩=some (.int .i64 P)∧V2.cell? ⟨yb,1,none⟩=some (.int .i64 y.is.c)∧V2.cell? ⟨yb,2,none⟩=some (.int .i64 y.is.s)∧V2.cell? ⟨yb,3,none⟩=some (.int .i64 y.is.mi)∧V2.cell? ⟨yb,4,none⟩=some (.int .i64 y.is.ma)∧V2.cell? ⟨yb,5,none⟩=some (.int .i64 y.is.t)∧V2.cell? ⟨yb,6,none⟩=some (.int .i64 y.is.l):=by simp [World.cell?,kp]
     rw [←hV2,hyb]
     clear hV2 hb2 kp hz2 x0 x1 x2 x3 x4 x5 x6 xf x0d m1 m2 m3 m4 m5 hs0 hs0' HK1
     have hel:=HRE.out.2
     have hes:es.length≤1000000:=by omega
     obtain h0|⟨j,hj⟩:es.length=0∨∃j,es.length=j+1:=by cases h:es.length;exact .inl rfl;exact .inr ⟨_,rfl⟩
     ·obtain rfl:=List.eq_nil_of_length_eq_zero h0
      have HN2:=Lib.hid (show MidL l S (q+1) [⟨P,y.is⟩]from HNW.out (fun e he=>by cases he))
      have n1:IntKind.i64.wrap (0-1) = -1:=by decide
      have hcz:(([]:List Ent).length:Nat)=0:=rfl
      rw [hcz]at hown2 ⊢
      clear h0 hcz HOL HNW HKY hel
      go_upto_region 11 with (fail)
      refine wp_region_schedG [(0,1),(1,1),(2,1),(3,1),(4,1),(5,1),(6,1),(7,0),(8,1),(9,0),(10,1),(11,3)] 11
       (fun _=>True) (by kernel_rfl) (by kernel_rfl) trivial ?_
      (simp only [pickS,List.filterMap_cons,List.filterMap_nil,List.getElem?_cons_zero,List.getElem?_cons_succ,Option.map_some])
      (repeat (first|((refine schedG_pure (v:=?_) ?_ (fun W=>?_) ?_);rotate_left;(focus (first|exact wanted_bare rfl _|exact wanted_yes rfl rfl rfl rfl));(focus (go_simp;(try with_reducible rfl);done));(try simp only [Act.put,List.setIfInBounds_toArray,List.set_cons_zero,List.set_cons_succ]))|((refine schedG_read (v:=?_) ?_ (fun W hW=>?_) ?_);rotate_left;(focus (first|exact wanted_bare rfl _|exact wanted_yes rfl rfl rfl rfl));(focus ((try dsimp only at hW);go_simp;(try with_reducible rfl);done));(try simp only [Act.put,List.setIfInBounds_toArray,List.set_cons_zero,List.set_cons_succ]))|((refine schedG_skip ?_ ?_);(focus exact wanted_no rfl rfl rfl rfl);(try simp only [Act.put,List.setIfInBounds_toArray,List.set_cons_zero,List.set_cons_succ]))))
      refine schedG_last ?_ (fun K hK=>?_)
      (focus (first|exact wanted_bare rfl _|exact wanted_yes rfl rfl rfl rfl))
      go_simp
      refine hK _ _ ?_
      clear hK K
      refine schedG_end ?_
      have hbo:Below wo.heap.size wo V2:=(Below.trans' HB.out HB2.out hbsz);have hbos:=hbo.size
      go_wp2_with ((at_builtin;refine wpList_append_ent rfl (.tmp 78) (.tmp 80) rfl wo.heap.size _ [] rfl (by repeat (first|assumption|with_reducible refine OwnEnts.alloc ?_ _|with_reducible refine OwnEnts.drewN ?_ _|with_reducible refine OwnEnts.drew ?_)) ⟨_,0,none⟩ ⟨P,y.is⟩ rfl (fun j u h=>ent_new h) (by simp) (by first|omega|(simp;done)|(simp;omega)|(simp [drew_size];done)|(simp [drew_size];omega)) ?_;intro v3 w3 own3 hg3;have hb3:=hg3 wo.heap.size wo belowAuto (Nat.le_refl _)))
      go_roundg (l.length-(q+1))
      case measure=>omega
      case rel=>exact⟨q+1,_,hlq,rfl,by go_num,own3,HN2,Lib.hid hb3⟩
     ·have n1:IntKind.i64.wrap ((es.length:Int)-1)=(j:Int):=by rw [hj];rw [show (((j+1:Nat):Int)-1)=(j:Int) by omega];exact IntWalk.i64_in _ (by omega)
      have hj0:(0:Int)≤(j:Int):=by omega
      have hjl:j<es.length:=by omega
      obtain⟨hl,⟨h0,h0'⟩|⟨og,cap',cur,hv,hBg,hog,-⟩⟩:=id hown2.row
      ·omega
      injection hv with hv1 _ hv3
      subst hv1 hv3
      have hgc:og<V2.heap.size:=(hown2.lt og rfl).2
      obtain⟨_,_,hv,-,-,-,-,h5'⟩:=hown2.at (by omega)
      injection hv with hv1 _ hv3
      subst hv3
      obtain⟨eb2,eoff2,hla,heb2,hec2⟩:=h5' (by omega)
      rw [←hv1]at hla
      obtain⟨rfl,rfl⟩:og=eb2∧0=eoff2:=by injection hla with hla;injection hla with a1 a2;exact⟨a1,a2⟩
      obtain⟨o0,o1,o2,o3,o4,o5,o6⟩:=ent_cells (Below.refl _ _) heb2 hec2 hjl
      simp only [Nat.zero_add]at o0 o1 o2 o3 o4 o5 o6
      have hixe:=fun w'=>idx_ents (ab:=og) (aoff:=0) (n:=es.length) (cap:=oc) (show (j:Int)=((j:Nat):Int) by rfl) hjl w'
      simp only [Nat.zero_add]at hixe
      have hky:=HKY.out _ (List.getElem_mem hjl)
      have HOLJ:=Lib.hid (HOL.out j hj)
      have HNJ:=Lib.hid (show es[j].key<P→MidL l S (q+1) (es++[⟨P,y.is⟩])from fun hlt=>HNW.out fun e he=>by
       obtain⟨t,ht,rfl⟩:=List.getElem_of_mem he
       by_cases htj:t=j
       ·subst htj;exact hlt
       ·have h2:=List.pairwise_iff_getElem.1 HRE.out.1 t j ht hjl (by omega)
        show _<P;omega)
      have hky:es[j].key≤P:=hky
      have HSETL:=Lib.hid (fun(wz:World) (Y:Roll) (ho:OwnEnts wo.heap.size wz (.slice (some ⟨og,0,none⟩) es.length oc) es)=>ho.set (y:=Y) hjl)
      obtain⟨zz,hzz⟩:∃z,es[j]=z:=⟨_,rfl⟩
      rw [hzz]at o0 o1 o2 o3 o4 o5 o6 hky HOLJ HNJ HSETL
      have hyl2:yb<V2.heap.size:=by rw [HK2.out.2];omega
      clear hec2 h5' hzz hla hv1 hl HOL HNW HKY hel hj
      by_cases hkk:zz.key=P
      ·have e3:(zz.key == P)=true:=by simp [hkk]
       obtain⟨hpg,hck,hcy,hset,hnone⟩:=HOLJ.out hkk
       have HOK:=Lib.hid (And.intro hpg (And.intro hck (And.intro hcy (And.intro hset hnone))))
       go_upto_region 11 with (fail)
       refine wp_region_schedG [(0,1),(1,1),(2,1),(3,1),(4,1),(5,1),(6,1),(7,0),(8,1),(9,0),(10,1),(11,3)] 11
        (fun W=>W.cell? ⟨yb,0,none⟩=some (.int .i64 P)∧W.cell? ⟨og,j*7,none⟩=some (.int .i64 zz.key)) (by kernel_rfl) (by kernel_rfl) ⟨z0,o0⟩ ?_
       (simp only [pickS,List.filterMap_cons,List.filterMap_nil,List.getElem?_cons_zero,List.getElem?_cons_succ,Option.map_some])
       (repeat (first|((refine schedG_pure (v:=?_) ?_ (fun W=>?_) ?_);rotate_left;(focus (first|exact wanted_bare rfl _|exact wanted_yes rfl rfl rfl rfl));(focus (go_simp;(try with_reducible rfl);done));(try simp only [Act.put,List.setIfInBounds_toArray,List.set_cons_zero,List.set_cons_succ]))|((refine schedG_read (v:=?_) ?_ (fun W hW=>?_) ?_);rotate_left;(focus (first|exact wanted_bare rfl _|exact wanted_yes rfl rfl rfl rfl));(focus ((try dsimp only at hW);go_simp;(try with_reducible rfl);done));(try simp only [Act.put,List.setIfInBounds_toArray,List.set_cons_zero,List.set_cons_succ]))|((refine schedG_skip ?_ ?_);(focus exact wanted_no rfl rfl rfl rfl);(try simp only [Act.put,List.setIfInBounds_toArray,List.set_cons_zero,List.set_cons_succ]))))
       refine schedG_last ?_ (fun K hK=>?_)
       (focus (first|exact wanted_bare rfl _|exact wanted_yes rfl rfl rfl rfl))
       go_simp
       refine hK _ _ ?_
       clear hK K
       refine schedG_end ?_
       obtain⟨V3,hV3⟩:∃V,V=V2.drew:=⟨_,rfl⟩
       have hb3:Below V2.heap.size V2 V3:=by rw [hV3];exact(Below.refl _ _).drew
       have hz3:V3.heap.size=V2.heap.size:=by rw [hV3];rfl
       rw [←hV3]
       obtain⟨u,hu⟩:∃u,zz.is=u:=⟨_,rfl⟩
       rw [hu]at o1 o2 o3 o4 o5 o6 HOK
       obtain⟨J,E,hJE⟩:∃J E,rollMerge u y.is=(J,E):=⟨_,_,rfl⟩
       have HJE:=Lib.hid hJE
       have HMG:=Lib.hid fun w'=>(by have:=merge_any u y.is w';rw [hJE]at this;exact this :
        Calls Tryd.prog 19 #[.agg #[.int .i64 u.c, .int .i64 u.s, .int .i64 u.mi, .int .i64 u.ma, .int .i64 u.t, .int .i64 u.l], .agg #[.int .i64 y.is.c, .int .i64 y.is.s, .int .i64 y.is.mi, .int .i64 y.is.ma, .int .i64 y.is.t, .int .i64 y.is.l]] w' fun e' w5=>e' = .returned (.tuple #[.agg #[.int .i64 J.c, .int .i64 J.s, .int .i64 J.mi, .int .i64 J.ma, .int .i64 J.t, .int .i64 J.l], .int .i64 E])∧Below w'.heap.size w' w5)
       have HS3:=Lib.hid fun W (hb:Below V3.heap.size V3 W)=>(by
        have gc:∀b o,b<V2.heap.size→W.cell? ⟨b,o,none⟩=V2.cell? ⟨b,o,none⟩:=fun b o h=>(hb.cell (p:=⟨b,o,none⟩) (by show b<_;omega)).trans (hb3.cell (p:=⟨b,o,none⟩) h)
        rw [gc _ _ hyl2,gc _ _ hyl2,gc _ _ hyl2,gc _ _ hyl2,gc _ _ hyl2,gc _ _ hyl2,gc _ _ hgc,gc _ _ hgc,gc _ _ hgc,gc _ _ hgc,gc _ _ hgc,gc _ _ hgc]
        exact⟨z1,z2,z3,z4,z5,z6,o1,o2,o3,o4,o5,o6⟩:W.cell? ⟨yb,1,none⟩=some (.int .i64 y.is.c)∧W.cell? ⟨yb,2,none⟩=some (.int .i64 y.is.s)∧W.cell? ⟨yb,3,none⟩=some (.int .i64 y.is.mi)∧W.cell? ⟨yb,4,none⟩=some (.int .i64 y.is.ma)∧W.cell? ⟨yb,5,none⟩=some (.int .i64 y.is.t)∧W.cell? ⟨yb,6,none⟩=some (.int .i64 y.is.l)∧W.cell? ⟨og,j*7+1,none⟩=some (.int .i64 u.c)∧W.cell? ⟨og,j*7+2,none⟩=some (.int .i64 u.s)∧W.cell? ⟨og,j*7+3,none⟩=some (.int .i64 u.mi)∧W.cell? ⟨og,j*7+4,none⟩=some (.int .i64 u.ma)∧W.cell? ⟨og,j*7+5,none⟩=some (.int .i64 u.t)∧W.cell? ⟨og,j*7+6,none⟩=some (.int .i64 u.l))
       have HO3:=Lib.hid (And.intro (hown2.below hb3 (Nat.le_refl _)) (Below.trans' (Below.trans' HB.out HB2.out hbsz) hb3 (by have:=HB2.out.size;omega)))
       have hog3:og<V3.heap.size:=by omega
       have HZ3:=Lib.hid hz3
       clear hz3 hV3 hb3 hJE hu hpg hck hcy hset hnone z0 z1 z2 z3 z4 z5 z6 o0 o1 o2 o3 o4 o5 o6 n1 hj0 e3 HOLJ HNJ hown hown2 hkk
       go_upto_region 12 with (fail)
       go_cut [15,16] (fun p c wx=>∃g2:Nat,p = .pointer (some ⟨g2,0,none⟩)∧c = .int .i64 E∧Hid (wx.heap[g2]?=some (.cells #[.int .i64 J.c, .int .i64 J.s, .int .i64 J.mi, .int .i64 J.ma, .int .i64 J.t, .int .i64 J.l] 42)∧V3.heap.size≤g2∧Below V3.heap.size V3 wx))
       case first=>
        refine wp_region_fork (Sch.of [(0,1),(1,1),(2,1),(3,1),(4,0),(5,1),(6,0)] (.fork 7 11 (Sch.of [(8,1),(9,1),(10,1)] (Sch.of [(11,2),(12,3),(13,1)] .nil)) (Sch.of [(7,2),(8,1),(9,1),(10,1),(12,3),(13,1)] .nil))) 12
         (fun W=>W.cell? ⟨yb,1,none⟩=some (.int .i64 y.is.c)∧W.cell? ⟨yb,2,none⟩=some (.int .i64 y.is.s)∧W.cell? ⟨yb,3,none⟩=some (.int .i64 y.is.mi)∧W.cell? ⟨yb,4,none⟩=some (.int .i64 y.is.ma)∧W.cell? ⟨yb,5,none⟩=some (.int .i64 y.is.t)∧W.cell? ⟨yb,6,none⟩=some (.int .i64 y.is.l)∧W.cell? ⟨og,j*7+1,none⟩=some (.int .i64 u.c)∧W.cell? ⟨og,j*7+2,none⟩=some (.int .i64 u.s)∧W.cell? ⟨og,j*7+3,none⟩=some (.int .i64 u.mi)∧W.cell? ⟨og,j*7+4,none⟩=some (.int .i64 u.ma)∧W.cell? ⟨og,j*7+5,none⟩=some (.int .i64 u.t)∧W.cell? ⟨og,j*7+6,none⟩=some (.int .i64 u.l)) (by kernel_rfl) (by kernel_rfl) (HS3.out _ (Below.refl _ _).drew) ?_
        simp only [Sch.of]
        have B_w0:Below V3.heap.size V3 V3.drew:=(Below.refl _ _).drew
        (repeat (first|((refine fork_pure (v:=?_) rfl rfl (fun W=>?_) ?_);rotate_left;focus (go_simp;(try with_reducible rfl);done))|((refine fork_read (v:=?_) rfl rfl (fun W hW=>?_) ?_);rotate_left;focus ((try dsimp only at hW);go_simp;(try with_reducible rfl);done))))
        refine fork_both rfl rfl rfl rfl (fun K hK=>?_) (fun K hK=>?_)
        ·skip
         go_simp
         (with_reducible refine(HMG.out _).mono ?_)
         rintro e w1 ⟨rfl,hb_w1⟩
         go_simp
         have B_w1:Below V3.heap.size V3 w1:=Below.trans' B_w0 hb_w1 B_w0.size
         try (have KT:=(hb_w1.block tb (by have:=(Array.getElem?_eq_some_iff.1 KT).1;omega)).trans KT)
         refine hK _ _ (HS3.out _ B_w1) ?_
         clear hK K
         (repeat (first|((refine fork_pure (v:=?_) rfl rfl (fun W=>?_) ?_);rotate_left;focus (go_simp;(try with_reducible rfl);done))|((refine fork_read (v:=?_) rfl rfl (fun W hW=>?_) ?_);rotate_left;focus ((try dsimp only at hW);go_simp;(try with_reducible rfl);done))))
         refine fork_does rfl rfl (fun K hK=>?_)
         go_simp
         obtain⟨W2,hW⟩:∃W',W'=w1.alloc (.cells #[.int .i64 0, .int .i64 0, .int .i64 0, .int .i64 0, .int .i64 0, .int .i64 0] 42):=⟨_,rfl⟩
         have hba:Below w1.heap.size w1 W2:=by rw [hW];exact belowAuto
         have B_W2:Below V3.heap.size V3 W2:=Below.trans' B_w1 hba (B_w1.size)
         have KT:W2.heap[w1.heap.size]?=some (.cells #[.int .i64 0, .int .i64 0, .int .i64 0, .int .i64 0, .int .i64 0, .int .i64 0] 42):=by rw [hW];exact heap_new _ _ rfl
         rw [←hW]
         obtain⟨tb,htb⟩:∃tb,w1.heap.size=tb:=⟨_,rfl⟩
         have hlo:V3.heap.size≤tb:=by rw [←htb];exact B_w1.size
         rw [htb]at KT ⊢
         refine hK _ _ (HS3.out _ B_W2) ?_
         clear hK K
         clear hW hba
         (repeat (first|((refine fork_pure (v:=?_) rfl rfl (fun W=>?_) ?_);rotate_left;focus (go_simp;(try with_reducible rfl);done))|((refine fork_read (v:=?_) rfl rfl (fun W hW=>?_) ?_);rotate_left;focus ((try dsimp only at hW);go_simp;(try with_reducible rfl);done))))
         obtain⟨k0,k1,k2,k3,k4,k5,kf⟩:W2.cell? ⟨tb,0,none⟩=some (.int .i64 0)∧W2.cell? ⟨tb,1,none⟩=some (.int .i64 0)∧W2.cell? ⟨tb,2,none⟩=some (.int .i64 0)∧W2.cell? ⟨tb,3,none⟩=some (.int .i64 0)∧W2.cell? ⟨tb,4,none⟩=some (.int .i64 0)∧W2.cell? ⟨tb,5,none⟩=some (.int .i64 0)∧∀o,W2.frozen? ⟨tb,o,none⟩=false:=by simp [World.cell?,World.frozen?,KT]
         have HKT:=Lib.hid KT
         clear KT
         refine fork_last rfl rfl (fun K hK=>?_)
         go_simp
         refine hK _ _ ?_
         clear hK K
         (repeat (first|((refine fork_pure (v:=?_) rfl rfl (fun W=>?_) ?_);rotate_left;focus (go_simp;(try with_reducible rfl);done))|((refine fork_read (v:=?_) rfl rfl (fun W hW=>?_) ?_);rotate_left;focus ((try dsimp only at hW);go_simp;(try with_reducible rfl);done))))
         refine fork_end ?_
         go_wp2_with fail
         go_meet
         exact⟨tb,rfl,rfl,Lib.hid ⟨heap_set6 HKT.out,hlo,((((((B_W2.setCell (p:=⟨tb,0,none⟩) hlo (.int .i64 J.c)).setCell (p:=⟨tb,1,none⟩) hlo (.int .i64 J.s)).setCell (p:=⟨tb,2,none⟩) hlo (.int .i64 J.mi)).setCell (p:=⟨tb,3,none⟩) hlo (.int .i64 J.ma)).setCell (p:=⟨tb,4,none⟩) hlo (.int .i64 J.t)).setCell (p:=⟨tb,5,none⟩) hlo (.int .i64 J.l))⟩⟩
        ·skip
         go_simp
         obtain⟨W1,hW⟩:∃W',W'=(V3.alloc (.cells #[.int .i64 0, .int .i64 0, .int .i64 0, .int .i64 0, .int .i64 0, .int .i64 0] 42)).drew:=⟨_,rfl⟩
         have hba:Below V3.heap.size V3 W1:=by rw [hW];exact belowAuto
         have B_W1:Below V3.heap.size V3 W1:=Below.trans' (Below.refl _ _) hba (Nat.le_refl _)
         have KT:W1.heap[V3.heap.size]?=some (.cells #[.int .i64 0, .int .i64 0, .int .i64 0, .int .i64 0, .int .i64 0, .int .i64 0] 42):=by rw [hW];exact heap_new _ _ rfl
         rw [←hW]
         obtain⟨tb,htb⟩:∃tb,V3.heap.size=tb:=⟨_,rfl⟩
         have hlo:V3.heap.size≤tb:=by rw [←htb];exact Nat.le_refl _
         rw [htb]at KT ⊢
         refine hK _ _ (HS3.out _ B_W1) ?_
         clear hK K
         clear hW hba
         (repeat (first|((refine fork_pure (v:=?_) rfl rfl (fun W=>?_) ?_);rotate_left;focus (go_simp;(try with_reducible rfl);done))|((refine fork_read (v:=?_) rfl rfl (fun W hW=>?_) ?_);rotate_left;focus ((try dsimp only at hW);go_simp;(try with_reducible rfl);done))))
         refine fork_does rfl rfl (fun K hK=>?_)
         go_simp
         (with_reducible refine(HMG.out _).mono ?_)
         rintro e w2 ⟨rfl,hb_w2⟩
         go_simp
         have B_w2:Below V3.heap.size V3 w2:=Below.trans' B_W1 hb_w2 B_W1.size
         try (have KT:=(hb_w2.block tb (by have:=(Array.getElem?_eq_some_iff.1 KT).1;omega)).trans KT)
         refine hK _ _ (HS3.out _ B_w2) ?_
         clear hK K
         (repeat (first|((refine fork_pure (v:=?_) rfl rfl (fun W=>?_) ?_);rotate_left;focus (go_simp;(try with_reducible rfl);done))|((refine fork_read (v:=?_) rfl rfl (fun W hW=>?_) ?_);rotate_left;focus ((try dsimp only at hW);go_simp;(try with_reducible rfl);done))))
         obtain⟨k0,k1,k2,k3,k4,k5,kf⟩:w2.cell? ⟨tb,0,none⟩=some (.int .i64 0)∧w2.cell? ⟨tb,1,none⟩=some (.int .i64 0)∧w2.cell? ⟨tb,2,none⟩=some (.int .i64 0)∧w2.cell? ⟨tb,3,none⟩=some (.int .i64 0)∧w2.cell? ⟨tb,4,none⟩=some (.int .i64 0)∧w2.cell? ⟨tb,5,none⟩=some (.int .i64 0)∧∀o,w2.frozen? ⟨tb,o,none⟩=false:=by simp [World.cell?,World.frozen?,KT]
         have HKT:=Lib.hid KT
         clear KT
         refine fork_last rfl rfl (fun K hK=>?_)
         go_simp
         refine hK _ _ ?_
         clear hK K
         (repeat (first|((refine fork_pure (v:=?_) rfl rfl (fun W=>?_) ?_);rotate_left;focus (go_simp;(try with_reducible rfl);done))|((refine fork_read (v:=?_) rfl rfl (fun W hW=>?_) ?_);rotate_left;focus ((try dsimp only at hW);go_simp;(try with_reducible rfl);done))))
         refine fork_end ?_
         go_wp2_with fail
         go_meet
         exact⟨tb,rfl,rfl,Lib.hid ⟨heap_set6 HKT.out,hlo,((((((B_w2.setCell (p:=⟨tb,0,none⟩) hlo (.int .i64 J.c)).setCell (p:=⟨tb,1,none⟩) hlo (.int .i64 J.s)).setCell (p:=⟨tb,2,none⟩) hlo (.int .i64 J.mi)).setCell (p:=⟨tb,3,none⟩) hlo (.int .i64 J.ma)).setCell (p:=⟨tb,4,none⟩) hlo (.int .i64 J.t)).setCell (p:=⟨tb,5,none⟩) hlo (.int .i64 J.l))⟩⟩
       case rest=>
        obtain⟨g2,rfl,rfl,HG2⟩:=hcut
        have hown3:OwnEnts wo.heap.size wc (.slice (some ⟨og,0,none⟩) es.length oc) es:=HO3.out.1.below HG2.out.2.2 (Nat.le_refl _)
        have hbo3:=Below.trans' HO3.out.2 HG2.out.2.2 HO3.out.2.size
        have hzc:=HG2.out.2.2.size
        obtain⟨j0,j1,j2,j3,j4,j5,-⟩:=zero_cells HG2.out.1
        obtain⟨-,-,-,-,-,-,o1,o2,o3,o4,o5,o6⟩:=HS3.out _ HG2.out.2.2
        have hfr:∀o,wc.frozen? ⟨og,o,none⟩=false:=World.ownsRow.frozenAt hown3.row
        have hgg:g2≠og:=by have:=HG2.out.2.1;omega
        have hgg':¬og=g2:=fun h=>hgg h.symm
        have HKP:=Lib.hid HOK.out
        by_cases hcc:u.c+y.is.c≤1073741824
        ·obtain⟨rfl,rfl⟩:=Prod.mk.inj (HJE.out.symm.trans (merge_ok HOK.out.2.1 HOK.out.2.2.1 hcc).1)
         have HI2:=Lib.hid (HOK.out.2.2.2.1 hcc)
         have HSET:=HSETL.out wc (u.join y.is) hown3
         generalize u.join y.is=J at *
         have HSET:=Lib.hid HSET
         clear hcc HJE HMG HOK HKP HSETL
         go_wp2_with fail
         go_roundg (l.length-(q+1))
         case measure=>omega
         case rel=>exact⟨q+1,_,hlq,rfl,by go_num,HSET.out,HI2,Lib.hid (by
          have hlo:wo.heap.size≤og:=(hown3.lt og rfl).1
          exact(((((hbo3.setCell (p:=⟨og,_,none⟩) hlo _).setCell (p:=⟨og,_,none⟩) hlo _).setCell (p:=⟨og,_,none⟩) hlo _).setCell (p:=⟨og,_,none⟩) hlo _).setCell (p:=⟨og,_,none⟩) hlo _).setCell (p:=⟨og,_,none⟩) hlo _)⟩
        ·obtain⟨rfl,rfl⟩:=Prod.mk.inj (HJE.out.symm.trans ((merge_fine HOK.out.2.1 HOK.out.2.2.1).trans (if_neg hcc)))
         have HBAD:=Lib.hid (show MadeBad ns fl l from .inl ⟨k,hlt,HOK.out.1,by rw [HS.out];exact HOK.out.2.2.2.2 hcc⟩)
         have HMD:=Lib.hid (HM.out.later hbo3)
         obtain⟨r0,r1,r2,r3,r4,r5,r6,r7,rf⟩:=HMD.out.zero
         clear hcc HJE HMG HOK HKP HSETL
         go_wp2_with fail
         exact bodyPost_ret (v:= .tuple #[zeroB, .int .i64 7]) (by simp [results,Tryd.results44,go_sem, *]) rfl ⟨below_set8' HMD.out.below (Nat.le_refl _) _ _ _ _ _ _ _ _, .inl ⟨7,by decide,rfl,HBAD.out⟩⟩
      ·have e3:(zz.key == P)=false:=by simpa using hkk
       have HN2:=Lib.hid (HNJ.out (by omega))
       clear HOLJ HNJ HSETL hkk
       go_upto_region 11 with (fail)
       refine wp_region_schedG [(0,1),(1,1),(2,1),(3,1),(4,1),(5,1),(6,1),(7,0),(8,1),(9,0),(10,1),(11,3)] 11
        (fun W=>W.cell? ⟨yb,0,none⟩=some (.int .i64 P)∧W.cell? ⟨og,j*7,none⟩=some (.int .i64 zz.key)) (by kernel_rfl) (by kernel_rfl) ⟨z0,o0⟩ ?_
       (simp only [pickS,List.filterMap_cons,List.filterMap_nil,List.getElem?_cons_zero,List.getElem?_cons_succ,Option.map_some])
       (repeat (first|((refine schedG_pure (v:=?_) ?_ (fun W=>?_) ?_);rotate_left;(focus (first|exact wanted_bare rfl _|exact wanted_yes rfl rfl rfl rfl));(focus (go_simp;(try with_reducible rfl);done));(try simp only [Act.put,List.setIfInBounds_toArray,List.set_cons_zero,List.set_cons_succ]))|((refine schedG_read (v:=?_) ?_ (fun W hW=>?_) ?_);rotate_left;(focus (first|exact wanted_bare rfl _|exact wanted_yes rfl rfl rfl rfl));(focus ((try dsimp only at hW);go_simp;(try with_reducible rfl);done));(try simp only [Act.put,List.setIfInBounds_toArray,List.set_cons_zero,List.set_cons_succ]))|((refine schedG_skip ?_ ?_);(focus exact wanted_no rfl rfl rfl rfl);(try simp only [Act.put,List.setIfInBounds_toArray,List.set_cons_zero,List.set_cons_succ]))))
       refine schedG_last ?_ (fun K hK=>?_)
       (focus (first|exact wanted_bare rfl _|exact wanted_yes rfl rfl rfl rfl))
       go_simp
       refine hK _ _ ?_
       clear hK K
       refine schedG_end ?_
       have hbo:Below wo.heap.size wo V2:=(Below.trans' HB.out HB2.out hbsz);have hbos:=hbo.size
       go_wp2_with ((at_builtin;refine wpList_append_ent rfl (.tmp 78) (.tmp 80) rfl wo.heap.size _ es rfl (by repeat (first|assumption|with_reducible refine OwnEnts.alloc ?_ _|with_reducible refine OwnEnts.drewN ?_ _|with_reducible refine OwnEnts.drew ?_)) ⟨_,0,none⟩ ⟨P,y.is⟩ rfl (fun j u h=>ent_new h) hes (by first|omega|(simp;done)|(simp;omega)|(simp [drew_size];done)|(simp [drew_size];omega)) ?_;intro v3 w3 own3 hg3;have hb3:=hg3 wo.heap.size wo belowAuto (Nat.le_refl _)))
       go_roundg (l.length-(q+1))
       case measure=>omega
       case rel=>exact⟨q+1,_,hlq,rfl,by go_num,own3,HN2,Lib.hid hb3⟩
    ·have hqe:q=l.length:=by omega
     subst hqe
     have hbsz:=HB.out.size
     have hwsz:=HM.out.size
     have hMi:=HI.out
     have hre:=hMi.rise HSI.out HR.out
     have HOF:=Lib.hid (treeOf_formK (hown.at (by omega)))
     have hok0:=Lib.hid (And.intro HB.out hMi)
     clear hown HL hix
     go_upto_region 19 with (go_at_call 69;(with_reducible refine HOF.out.mono ?_);rintro e w5 ⟨hb5,ot,tn,tc,rt,E2,rfl,hform⟩;have HFM:=Lib.hid hform;clear hform)
     obtain⟨V5,hV5⟩:∃V,V=w5.alloc (.cells #[.slice ot tn tc, .int .i64 rt] 32):=⟨_,rfl⟩
     have hb5':Below w5.heap.size w5 V5:=by rw [hV5];exact belowAuto
     have k5:V5.heap[w5.heap.size]?=some (.cells #[.slice ot tn tc, .int .i64 rt] 32):=by rw [hV5];exact heap_new _ _ rfl
     have hz5:V5.heap.size=w5.heap.size+1:=by rw [hV5];simp
     have hb05:Below wo.heap.size wo V5:=Below.trans' (Below.trans' HB.out hb5 hbsz) hb5' (by have:=hb5.size;omega)
     have HM5:=Lib.hid (HM.out.later hb05)
     have HKP:=Lib.hid (show Keep (wr.heap.size+1) w5 V5 from Keep.of hb5' (Nat.le_refl _))
     obtain⟨t0,t1⟩:V5.cell? ⟨w5.heap.size,0,none⟩=some (.slice ot tn tc)∧V5.cell? ⟨w5.heap.size,1,none⟩=some (.int .i64 rt):=by simp [World.cell?,k5]
     obtain⟨r0,r1,r2,r3,r4,r5,r6,r7,rf⟩:=HM5.out.zero
     rw [←hV5]
     obtain⟨qb,hqb⟩:∃qb,w5.heap.size=qb:=⟨_,rfl⟩
     have HW5:=Lib.hid hb5
     rw [hqb]at t0 t1 ⊢
     have hqn:qb≠w.heap.size+1:=by have:=hb5.size;omega
     have hqn':¬w.heap.size+1=qb:=by omega
     clear hV5 hb5' k5 hz5 hb05 hb5 hqb HOF
     by_cases hE1:E2=1
     ·have HBAD:=Lib.hid (show MadeBad ns fl l by
       rcases HFM.out with ⟨h1,-,-,-,-,h2⟩|⟨h1,-⟩
       ·exact .inr (.inl ⟨k,es,hlt,by rw [HS.out];exact hMi,by rcases h2 with h2|h2;exact .inl (h2▸h1);exact .inr h2.2⟩)
       ·omega)
      subst hE1
      clear HFM
      go_wp2_with fail
      exact bodyPost_ret (v:= .tuple #[zeroB, .int .i64 1]) (by simp [results,Tryd.results44,go_sem, *]) rfl ⟨below_set8' HM5.out.below (Nat.le_refl _) _ _ _ _ _ _ _ _, .inl ⟨1,by decide,rfl,HBAD.out⟩⟩
     ·by_cases hE0:E2=0
      ·subst hE0
       obtain⟨t,ht,hmd⟩:∃t,(∀w'',Keep (wr.heap.size+1) w5 w''→TreeAt w'' (.agg #[.slice ot tn tc, .int .i64 rt]) t)∧Made es t:=by
        rcases HFM.out with ⟨h1,-⟩|⟨-,-,t,h2,h3⟩
        ·exact absurd rfl h1
        ·exact⟨t,h2,h3⟩
       have HST:=Lib.hid (HM5.out.step hlt (B:=wr.heap.size+1) (by omega) HKP.out ht (by rw [HS.out];exact hMi) hmd)
       obtain⟨-,⟨u1,c1⟩,⟨u2,c2⟩⟩:=HM5.out.at hlt
       have cf:=HM5.out.cells.2.2.2.2.2.2.2.2
       have hkw:IntKind.i64.wrap ((k:Int)+1)=(k:Int)+1:=IntWalk.i64_in _ (by omega)
       clear HFM ht hmd r0 r1 r2 r3 r4 r5 r6 r7 rf hE1
       go_wp2_with fail
       go_roundg (3-(k+1))
       case measure=>omega
       case rel=>exact⟨k+1,by omega,rfl,by go_num,Lib.hid ⟨_,_,_,_,_,HST.out⟩⟩
      ·have HBAD:=Lib.hid (show MadeBad ns fl l by
        rcases HFM.out with ⟨h1,-,-,-,-,h2⟩|⟨h1,-⟩
        ·exact .inr (.inl ⟨k,es,hlt,by rw [HS.out];exact hMi,by rcases h2 with h2|h2;exact .inl (h2▸h1);exact .inr h2.2⟩)
        ·omega)
       have e1:(E2 == 1)=false:=by simpa using hE1
       have e0:(E2 != 0)=true:=by simpa using hE0
       clear HFM
       go_wp2_with fail
       exact bodyPost_ret (v:= .tuple #[zeroB, .int .i64 7]) (by simp [results,Tryd.results44,go_sem, *]) rfl ⟨below_set8' HM5.out.below (Nat.le_refl _) _ _ _ _ _ _ _ _, .inl ⟨7,by decide,rfl,HBAD.out⟩⟩
  ·obtain rfl:k=3:=by omega
   obtain⟨q0,q1,q2,hbase⟩:=hm.base
   obtain⟨b0,b1,b2,b3,b4,b5,b6,b7,bf⟩:=hm.cells
   rw [q0]at b2
   rw [q1]at b4
   rw [q2]at b6
   have HBS:=Lib.hid hbase
   have HST:=Lib.hid (fun W (hb:Below w.heap.size w W)=>HN.out.below hb (Nat.le_refl _))
   have HCK:=Lib.hid (baseCheck_any (hbase wo (HN.out.below hm.below (Nat.le_refl _)) (Keep.refl _ _)) HSZ.out.1 (HSZ.out.2.below hm.below))
   clear hm hbase q0 q1 q2
   by_cases hmay:baseMay ⟨ns,T 0,T 1,T 2,fl⟩=true
   ·rw [show checkE ⟨ns,T 0,T 1,T 2,fl⟩=0 by unfold checkE;rw [if_pos hmay]]at HCK
    have HOK:=Lib.hid (show MadeOk ns fl l T from ⟨hmay,fun k hk=>(HM.out.tr k hk).1⟩)
    clear hmay
    go_upto_region 27 with (go_at_call 26;(with_reducible refine HCK.out.mono ?_);rintro e w6 ⟨rfl,hb6⟩)
    have HM6:=Lib.hid (HM.out.later hb6)
    have HK6:=Lib.hid (Keep.of (M:=w.heap.size+2) hb6 (Nat.le_refl _))
    obtain⟨r0,r1,r2,r3,r4,r5,r6,r7,rf⟩:=HM6.out.zero
    clear b0 b1 b2 b3 b4 b5 b6 b7 bf hb6
    obtain⟨q0,q1,q2,-⟩:=HM6.out.base
    obtain⟨b0,b1,b2,b3,b4,b5,b6,b7,bf⟩:=HM6.out.cells
    rw [q0]at b2
    rw [q1]at b4
    rw [q2]at b6
    have hne:w.heap.size≠w.heap.size+1:=by omega
    have hne':¬w.heap.size+1=w.heap.size:=by omega
    clear q0 q1 q2
    go_wp2_with fail
    exact bodyPost_ret (v:= .tuple #[.agg (baCells sn ns.length sc (g 0) (n 0) (c 0) (g 1) (n 1) (c 1) (g 2) (n 2) (c 2) ⟨ns,T 0,T 1,T 2,fl⟩), .int .i64 0]) (by simp [results,Tryd.results44,go_sem, *]) rfl ⟨below_set8' HM6.out.below (Nat.le_refl _) _ _ _ _ _ _ _ _, .inr ⟨sn,sc,_,_,_,_,_,_,_,_,_,T,rfl,rfl,HOK.out,fun w'' hs hw=>HBS.out w'' hs (HK6.out.trans ((keep_set8 (by omega) _ _ _ _ _ _ _ _).trans hw))⟩⟩
   ·rw [show checkE ⟨ns,T 0,T 1,T 2,fl⟩=7 by unfold checkE;rw [if_neg hmay]]at HCK
    have HBAD:=Lib.hid (show MadeBad ns fl l from .inr (.inr ⟨T,fun k hk=>(HM.out.tr k hk).1,by simpa using hmay⟩))
    clear hmay
    go_upto_region 26 with (go_at_call 26;(with_reducible refine HCK.out.mono ?_);rintro e w6 ⟨rfl,hb6⟩)
    have HM6:=Lib.hid (HM.out.later hb6)
    obtain⟨r0,r1,r2,r3,r4,r5,r6,r7,rf⟩:=HM6.out.zero
    clear b0 b1 b2 b3 b4 b5 b6 b7 bf hb6
    go_wp2_with fail
    exact bodyPost_ret (v:= .tuple #[zeroB, .int .i64 7]) (by simp [results,Tryd.results44,go_sem, *]) rfl ⟨below_set8' HM6.out.below (Nat.le_refl _) _ _ _ _ _ _ _ _, .inl ⟨7,by decide,rfl,HBAD.out⟩⟩
end Go.Proofs.YtnjfkcimboidnaaDoor

/- A model's bytes are read back as the model. Plain. -/
namespace Go.Proofs.YtnjfkcimboidnaaDoor
theorem Fit.ents {ns:List ByteArray} {fl:Int} {l:List Ent} (h:Fit ns fl l):∀e∈l,EntFit e:=fun e he=>by
 obtain⟨h1,h2⟩:=good_check (h.good.1 e he).2 (h.good.1 e he).1
 obtain⟨k1,k2⟩:=h.good.2.1 e he
 obtain⟨-,-,ht⟩:=h.ok e he
 have hs:=good_sum h1 h2
 obtain⟨q0,q1,q2,q3,q4,q5,q6,q7,q8,-⟩:=h1
 exact⟨k1,k2,q0,by omega,ht,by omega,by omega,by omega,by omega⟩
theorem nameMay_size {s:ByteArray} (h:nameMay s=true):s.size≤10:=by
 simp [nameMay]at h
 omega
theorem bytesM_bytes (ns:List ByteArray) (fl:Int) (l:List Ent):AllBytes (bytesM ns fl l):=by
 have h:=bytes_bytes ⟨ns,default,default,default,fl⟩ l
 rw [bytesL_eq]at h
 exact h
theorem fileL_bytes (ns:List ByteArray) (fl:Int) (l:List Ent):AllBytes (bytesM ns fl l++sealL (bytesM ns fl l)):=(bytesM_bytes ns fl l).app (seal_bytes _)
theorem Fit.short {ns:List ByteArray} {fl:Int} {l:List Ent} (h:Fit ns fl l) (hl:l.length≤500):(bytesM ns fl l++sealL (bytesM ns fl l)).length≤100000:=by
 have h1:=ents_len (last:=0) h.good (Int.le_refl 0)
 have h2:=names_len (ns:=ns) fun s hs=>nameMay_size (h.may s hs)
 have h3:=h.n16
 have h4:=sevens_nine (n:=ns.length) (by omega)
 have h5:=sevens_nine (n:=fl.toNat) (by have:=h.f0;omega)
 have h6:=sevens_nine (n:=l.length) (by omega)
 rw [List.length_append,seal_len]
 unfold bytesM
 simp only [List.length_append,List.length_cons,List.length_nil]
 omega
theorem Fit.dec {ns:List ByteArray} {fl:Int} {l:List Ent} (h:Fit ns fl l) (hl:l.length≤500) {bs:List Int} (hbs:bs=bytesM ns fl l++sealL (bytesM ns fl l)) :
  decE bs=0∧(bodyN (bodyOf bs)).2=ns∧(bodyN (bodyOf bs)).1.num.2=fl∧(bodyE (bodyOf bs)).2=l:=
 dec_back h.n16 (fun s hs=>nameMay_size (h.may s hs)) h.f0.1 (by have:=h.f0;omega) (by omega) h.ents h.rise hbs (by have:=h.short hl;rw [hbs];omega)
end Go.Proofs.YtnjfkcimboidnaaDoor
