/- The law FilesOnce. -/
import Derived.Test.YtnjfkcimboidnaaDoorDK
import Derived.Test.YtnjfkcimboidnaaDoorBG
namespace Go.Proofs.YtnjfkcimboidnaaDoor
open Go.RowKit
def DecForm (bs:List Int) (w':World) (sa:Option Addr) (nn sc:Nat) (g0:Option Addr) (l0 p0:Nat) (r0:Int) (g1:Option Addr) (l1 p1:Nat) (r1:Int) (g2:Option Addr) (l2 p2:Nat) (r2 fl E2:Int):Prop:=
 (E2≠0∧nn=0)∨(E2=0∧∃b' l,BaseAt w' (.agg #[.slice sa nn sc, .slice g0 l0 p0, .int .i64 r0, .slice g1 l1 p1, .int .i64 r1, .slice g2 l2 p2, .int .i64 r2, .int .i64 fl]) b'∧baseMay b'=true∧bookR b'=some l∧l.length≤10000∧bs.length≤200000∧bs=bytesL b' l++sealL (bytesL b' l))
theorem decode_form {v:Value} {bs:List Int} {w:World} (h:ByteSl w v bs) (hb:AllBytes bs) (hsz:SizesAt w) :
  Calls Tryd.prog 22 #[v] w fun x w'=>Below w.heap.size w w'∧∃sa nn sc g0 l0 p0 r0 g1 l1 p1 r1 g2 l2 p2 r2 fl E2,x = .returned (.tuple #[.agg #[.slice sa nn sc, .slice g0 l0 p0, .int .i64 r0, .slice g1 l1 p1, .int .i64 r1, .slice g2 l2 p2, .int .i64 r2, .int .i64 fl], .int .i64 E2])∧DecForm bs w' sa nn sc g0 l0 p0 r0 g1 l1 p1 r1 g2 l2 p2 r2 fl E2:=by
 refine(decode_any h hb hsz).mono ?_
 rintro x w' ⟨hb1,⟨E,hE,rfl,-⟩|⟨hd,sn,sc,g0,l0,p0,g1,l1,p1,g2,l2,p2,T,rfl,hok,hba⟩⟩
 ·exact⟨hb1,none,0,0,none,0,0,0,none,0,0,0,none,0,0,0,0,E,rfl, .inl ⟨hE,rfl⟩⟩
 ·obtain⟨e1,-,e3,e4,-,-,e7⟩:=dec_ok hb hd
  refine⟨hb1,_,_,_,_,_,_,_,_,_,_,_,_,_,_,_,_,_,rfl, .inr ⟨rfl,_,_,hba w' (Keep.refl _ _),hok.may,hok.book e4.2.1,e3,e7,?_⟩⟩
  rw [bytesL_eq];exact e1
theorem enc_again {bs:List Int} {b:Ba} {l:List Ent} (h1:baseMay b=true) (h2:bookR b=some l) (h3:l.length≤10000) (h4:bs.length≤200000) (h5:bs=bytesL b l++sealL (bytesL b l)):encE b=0∧encL b=bs:=by
 have hl:bs.length=(bytesL b l).length+4:=by
  have:=congrArg List.length h5
  rw [List.length_append,seal_len]at this
  exact this
 obtain⟨e1,e2⟩:=encE_ok h1 h2 (by omega) (by omega)
 exact⟨e1,e2.trans h5.symm⟩
set_option maxRecDepth 100000 in
set_option maxHeartbeats 4000000 in
theorem filesOnce_any {v:Value} {bs:List Int} {w:World} (h:ByteSl w v bs) (hb:AllBytes bs) (hsz:SizesAt w) :
  Calls Tryd.prog 6 #[v] w fun e w'=>e = .returned (.bool true)∧Below w.heap.size w w':=by
 have HD:=Lib.hid (decode_form h hb hsz)
 have HSZ:=Lib.hid hsz
 have HSL:=Lib.hid h
 obtain⟨ao,cap,rfl,-⟩:=h
 clear hsz
 go_enter Tryd.func6,Tryd.ntmps6
 go_upto_region 2 with (go_at_call 22;(with_reducible refine HD.out.mono ?_);rintro e w1 ⟨hb1,sa,nn,sc,g0,l0,p0,r0,g1,l1,p1,r1,g2,l2,p2,r2,fl,E2,rfl,hform⟩;have HF:=Lib.hid hform;have HB1:=Lib.hid hb1;clear hform hb1)
 obtain⟨W1,hW1⟩:∃W1,W1=w1.alloc (.cells #[.slice sa nn sc, .slice g0 l0 p0, .int .i64 r0, .slice g1 l1 p1, .int .i64 r1, .slice g2 l2 p2, .int .i64 r2, .int .i64 fl] 35):=⟨_,rfl⟩
 have hb1:Below w1.heap.size w1 W1:=by rw [hW1];exact belowAuto
 have k1:W1.heap[w1.heap.size]?=some (.cells #[.slice sa nn sc, .slice g0 l0 p0, .int .i64 r0, .slice g1 l1 p1, .int .i64 r1, .slice g2 l2 p2, .int .i64 r2, .int .i64 fl] 35):=by rw [hW1];exact heap_new _ _ rfl
 obtain⟨c0,c1,c2,c3,c4,c5,c6,c7,-⟩:=base_box k1
 have HW1:=Lib.hid hb1
 have HBW:=Lib.hid (Below.trans' HB1.out hb1 HB1.out.size)
 rw [←hW1]
 clear hW1 hb1 k1
 rcases HF.out with ⟨hE,rfl⟩|⟨rfl,b',l,hba,h1,h2,h3,h4,h5⟩
 ·have hE':(E2 != 0)=true:=by simpa using hE
  go_wp2_with fail
  go_ret
  exact⟨rfl,HBW.out⟩
 ·obtain⟨e1,e2⟩:=enc_again h1 h2 h3 h4 h5
  have hENC:=encode_any (hba.below HW1.out) (fun s hs=>by have:=names_small h1 s hs;omega) (HSZ.out.below HBW.out)
  rw [e1,e2]at hENC
  have HENC:=Lib.hid hENC
  have hpos:0<bs.length:=by rw [h5,List.length_append,seal_len];omega
  have HPOS:=Lib.hid hpos
  have HLEN:=Lib.hid h4
  obtain⟨S,hS⟩:∃S,strOfNums bs=S:=⟨_,rfl⟩
  have HS:=Lib.hid hS
  clear e1 e2 hENC hba h1 h2 h3 h4 h5 hS hb HF
  obtain⟨_,_,hv,-,-,-,-,q5⟩:=HSL.out
  obtain⟨ab,aoff,ha,-⟩:=q5 hpos
  injection hv with hv1 _ hv3
  subst hv1 hv3 ha
  clear q5 hpos
  go_upto_region 5 with (go_at_call 23;(with_reducible refine HENC.out.mono ?_);rintro e w2 ⟨hb2,v2,rfl,ho2⟩)
  have hsl:=ho2.at (by have:=HLEN.out;omega)
  obtain⟨_,_,rfl,-,-,-,-,q5⟩:=hsl
  obtain⟨gb,goff,rfl,-⟩:=q5 HPOS.out
  have hs1:=ByteSl.str (ho2.at (by have:=HLEN.out;omega))
  have HBE:=Lib.hid (Below.trans' HBW.out hb2 HBW.out.size)
  have hs2:=ByteSl.str (HSL.out.below HBE.out (Nat.le_refl _))
  rw [HS.out]at hs1 hs2
  clear q5 ho2 hb2 c0 c1 c2 c3 c4 c5 c6 c7
  go_wp2_with fail
  go_ret
  exact⟨rfl,HBE.out⟩
end Go.Proofs.YtnjfkcimboidnaaDoor
