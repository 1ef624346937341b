import Derived.Test.YtmljjfhgciaceaaDoorHd
import Derived.Test.YtmljjfhgciaceaaDoorEG
import Derived.Deep.DeepAppendWide
import Derived.Lib.AppendZeros
namespace Go.Proofs.YtmljjfhgciaceaaDoor
open Go.RowKit
set_option maxRecDepth 100000
set_option maxHeartbeats 4000000
variable {Ls:List (List Ac)} {w:World}
theorem Kc (n:Nat) (hn:n<=1000) (w:World):Calls Tryd.prog 67 #[.slice none 0 0, .int .i64 n] w fun e w'=>
  ah w w'/\∃so c,e = .returned (.slice so 0 c)/\bN w.heap.size w' (.slice so 0 c) []:=by
 obtain⟨i0,z,hi,hz,hz1,hz2,hz3⟩:=cj Tryd.PH
 have h1:¬((n:Int)<0):=af
 have h3:IntKind.i64.wrap (n:Int)=n:=IntWalk.i64_in _ af
 by_cases h0:n=0
 ·subst h0
  go_enter Tryd.func67,Tryd.ntmps67
  go_wp2_with fail
  go_ret
  exact⟨ag,_,_,rfl,bN.nil _ _⟩
 ·obtain⟨G,hG⟩:=bP (grownCap w n 0 26)
  have Y5:n<=G:=by rw [hG];exact grownCap_ge w _ _ _
  have TH:G<=maxLen:=by rw [hG];exact grownCap_le_maxLen w n 0 26 (by unfold maxLen;omega)
  obtain⟨row,hrow⟩:=bP (Builtin.zeroCells z.cells n++Builtin.zeroCells z.cells (G-n))
  have hrl:row.size=G*6:=by rw [hrow,Array.size_append,size_zeroCells,size_zeroCells,hz3];omega
  obtain⟨W1,hW1⟩:=bP (w.drew.alloc (.cells row 26))
  have Su:∀ty,(Builtin.append_ #[23,3] ty #[.slice none 0 0, .int .i64 (n:Int)]).run Tryd.prog w = .ok (.slice (some ⟨w.heap.size,0,none⟩) n G) W1:=fun ty=>by
   have h:=Lib.run_append_nil_zeros w 23 3 ty 26 i0 z .i64 .i64 Tryd.underlying23 Tryd.underlying3 hi hz n af af af (by rw [hz2];omega)
   rw [h,hW1,hrow,hG]
  have h4:(n:Int)>0:=af
  have afV:n<=9223372036854775807:=af
  have HB:=hdd (show ah w W1 by rw [hW1];exact ag)
  have HO:=hdd (show bN w.heap.size W1 (.slice (some ⟨w.heap.size,0,none⟩) 0 G) []from ⟨⟨rfl, .inr ⟨w.heap.size,G,row,rfl,km _,by rw [hW1];exact aj w.drew _ rfl,jd _,TH,hrl,bj⟩⟩⟩)
  clear hG hrow hrl hW1 hi hz hz1 hz2 hz3
  go_enter Tryd.func67,Tryd.ntmps67
  go_wp2_with (at_builtin;refine Lib.wpList_append_run _ rfl (.tmp 20) (.tmp 21) 23 3 rfl _ _ rfl rfl _ _ (Su _) ?_)
  go_ret
  exact⟨HB.out,_,_,rfl,HO.out⟩
theorem sW {ops:Array Oper} {rest:List Oper} {o:Oper} {a:Act} {Q:Exit->Act->World->Prop} (hgd:o.guard=none) (s x:Operand)
  (ho:o.op = .call { callee:= .builtin .append,args:=#[s,x],argTypes:=#[23,23] }) (B C:Nat) (v u:Value) (xs ys:List Ac) (hs:a.eval s=v) (hx:a.eval x=u) (hv:bN B w v xs) (hu:bN C w u ys)
  (hlen:xs.length+ys.length<=1000000) (hbase:B<=w.heap.size) (h:∀v' w',bN B w' v' (xs++ys)->w.grownBy w' v.ownBlock->wpList Tryd.prog ops Q rest (a.put o.dst v') w'):wpList Tryd.prog ops Q (o::rest) a w:=by
 obtain⟨i0,z,hi,hz,hz1,hz2,hz3⟩:=cj Tryd.PH
 have he:(xs++ys).flatMap pq=xs.flatMap pq++ys.flatMap pq:=bj
 obtain⟨hul,⟨rfl,h0⟩|⟨g,cap,cur,rfl,hB,hg,h1,h2,h3,h4⟩⟩:=hu.row
 ·obtain rfl:ys=[]:=List.length_eq_zero_iff.1 h0
  obtain⟨so,sc,rfl⟩:=hv.isSlice
  have hc:xs.length<=sc:=by
   obtain⟨-,⟨e,h0⟩|⟨g,cap,cur,e,hB,hg,h1,h2,h3,h4⟩⟩:=hv.row
   ·injection e with _ h2 h3;omega
   ·injection e with _ _ h3;omega
  have hr:∀ty,(Builtin.append_ #[23,23] ty #[.slice so xs.length sc, .slice none 0 0]).run Tryd.prog w = .ok (.slice so xs.length sc) w:=fun ty=>by
   cases so <;> simp [Builtin.append_,run_underlying Tryd.underlying23,Go.sizeOf,typeInfo,hi,Builtin.lenOf,Builtin.firstCells,storeCells,hc]
  refine Lib.wpList_append_run _ hgd s x 23 23 ho _ _ hs hx _ _ (hr _) (h _ _ (by rw [oL];exact hv) ⟨rfl,rfl,rfl,km _,fun _ _ _=>rfl⟩)
 ·refine Go.wpList_append_own_wide w hgd s x 23 ho B 26 i0 z 6 56 Tryd.underlying23 hi hz hz1 hz2 hz3 aW v xs.length _ hs hv.row ⟨g,0,none⟩ ys.length cap (ys.flatMap pq) hx hul (fun j u hu=>?_) (Ab ys) (by unfold maxLen;omega) af hbase ?_
  ·have ha:Addr.add ⟨g,0,none⟩ j=⟨g,j,none⟩:=by simp [Addr.add];omega
   rw [ha]
   rw [<-h4,qg]at hu
   split at hu
   ·simp only [World.cell?,hg]
    simpa using hu
   ·cases hu
  ·intro v' w' hown' hgr _
   refine h v' w' ⟨?_⟩ hgr
   rw [he,dO]
   exact hown'
theorem Jd {k:Nat} (hk:k<Ls.length):(Ls.take (k+1)).flatten=(Ls.take k).flatten++Ls[k]:=by
 rw [kK hk,List.flatten_append];simp
theorem TZ (hs:∀l∈Ls,l.length<=200):Ls.flatten.length<=Ls.length*200:=by
 induction Ls with
 |nil=>simp
 |cons a l ih=>
  have h1:=ih fun x hx=>hs x (by simp [hx])
  have h2:=hs a bj
  simp only [List.flatten_cons,dO,gp];omega
theorem Hs {B g cap:Nat} {T:TypeId} {vs:List Value} (hg:w.heap[g]?=some (.cells vs.toArray T)) (hl:vs.length=Ls.length) (h3:Ls.length<=4)
  (hv:∀k (h:k<Ls.length) (h':k<vs.length),bN B w vs[k] Ls[k]) (hs:∀l∈Ls,l.length<=200) :
  Calls Tryd.prog 35 #[.slice (some ⟨g,0,none⟩) Ls.length cap] w fun e w'=>
   ah w w'/\∃so c,e = .returned (.slice so Ls.flatten.length c)/\bN w.heap.size w' (.slice so Ls.flatten.length c) Ls.flatten:=by
 have hgl:=(eI.1 hg).1
 have HC:=hdd (show ∀W,ah w W->∀k (h:k<vs.length),W.cell? ⟨g,k,none⟩=some vs[k]from fun W hb k h=>(hb.cell (p:=⟨g,k,none⟩) hgl).trans (by simp [World.cell?,hg,h]))
 have HV:=hdd hv
 have HFT:=hdd fun k=>TZ (Ls:=Ls.take k) fun l hl=>hs l (wM hl)
 have UB:=hdd fun k (h:k<Ls.length)=>hs Ls[k] (fP h)
 have Bh:=hdd fun(k:Nat) (h:k<Ls.length) (W:World)=>(by go_simp:(Instr.indexAt 116 (.slice (some ⟨g,0,none⟩) Ls.length cap) (.int .i64 (k:Int))).run Tryd.prog W = .ok (.pointer (some ⟨g,0+k*1,none⟩)) W)
 clear hg hv hs
 go_enter Tryd.func35,Tryd.ntmps35
 go_upto_region 3 with (fail)
 go_loopg [3,11] Ls.length (fun m sz i wr=>∃k:Nat,k<=Ls.length/\m=Ls.length-k/\i = .int .i64 k/\sz = .int .i64 ((Ls.take k).flatten.length:Int)/\ah w wr)
 case atStart=>exact⟨0,jd _,rfl,rfl,bj,ag⟩
 case round=>
  obtain⟨k,hk,rfl,rfl,rfl,hb⟩:=hrel
  by_cases hlt:k<Ls.length
  ·have zJ:(k:Int)<(Ls.length:Int):=af
   obtain⟨ao,cp,hvk⟩:=(HV.out k hlt af).isSlice
   have hc:=HC.out wr hb k af
   rw [hvk]at hc
   have hft:=HFT.out k
   have hll:=UB.out k hlt
   have htk:=congrArg List.length (Jd hlt)
   rw [dO]at htk
   obtain⟨N,hN⟩:=bt ((Ls.take k).flatten.length)
   obtain⟨M,hM⟩:=bt (Ls[k].length)
   rw [hN]at hft htk ⊢
   rw [hM]at hc hll htk
   rw [eP]at hft
   have ab0:N<=800:=af
   have jS:=Bh.out k hlt
   have hw:IntKind.i64.wrap ((N:Int)+(M:Int))=(N:Int)+(M:Int):=IntWalk.i64_in _ af
   have hn0:¬((N:Int)+(M:Int)<0):=af
   have sS:=hdd htk
   have HB:=hdd hb
   clear hft hvk hN hM htk hb
   go_wp2_with fail
   go_roundg (Ls.length-(k+1))
   case measure=>omega
   case rel=>exact⟨k+1,af,rfl,by go_num,by rw [sS.out];simp,HB.out⟩
  ·obtain rfl:k=Ls.length:=af
   have hft:=HFT.out Ls.length
   rw [List.take_length]at hft ⊢
   obtain⟨F,hF⟩:=bt (Ls.flatten)
   rw [hF]at hft ⊢
   have HF:=hdd hF
   have hG:=Kc F.length af wr
   have HG:=hdd hG
   have HB:=hdd hb
   clear hF hG hft hb
   go_upto_region 11 with (go_at_call 67;(with_reducible refine HG.out.mono ?_);rintro e w2 ⟨hb2,so,sc,rfl,hown⟩)
   have wU:=hdd (hown.mono HB.out.size)
   have gI:=hdd (Below.trans' HB.out hb2 HB.out.size)
   clear hown hb2 HG
   obtain⟨wo,rfl⟩:=bP (wr)
   go_loopg [6,27] Ls.length (fun m ov i wr=>∃k:Nat,k<=Ls.length/\m=Ls.length-k/\i = .int .i64 k/\bN w.heap.size wr ov (Ls.take k).flatten/\ah w wr)
   case atStart=>exact⟨0,jd _,rfl,rfl,wU.out,gI.out⟩
   case round=>
    obtain⟨k,hk,rfl,rfl,ho,hb⟩:=hrel
    obtain⟨so,sc,rfl⟩:=ho.isSlice
    by_cases hlt:k<Ls.length
    ·have zJ:(k:Int)<(Ls.length:Int):=af
     have hu:=(HV.out k hlt af).below hb aH
     obtain⟨ao,cp,hvk⟩:=hu.isSlice
     have hc:=HC.out wr hb k af
     rw [hvk]at hc hu
     have hft:=HFT.out k
     have hll:=UB.out k hlt
     have htk:=Jd hlt
     rw [eP]at hft
     obtain⟨N,hN⟩:=bt ((Ls.take k).flatten)
     obtain⟨M,hM⟩:=bt (Ls[k])
     rw [hN]at hft htk ho ⊢
     rw [hM]at hc hll htk hu
     have ab0:N.length<=800:=af
     have jS:=Bh.out k hlt
     have sS:=hdd htk
     have sU:=hdd hb
     have HO:=hdd ho
     have HU:=hdd hu
     have HZ:=hdd hb.size
     clear hft hvk hN hM htk hb ho hu
     go_wp2_with (at_builtin;refine sW rfl (.tmp 31) (.tmp 32) rfl w.heap.size B _ _ N M rfl rfl HO.out HU.out af HZ.out ?_;intro v4 w4 pN hg4)
     go_roundg (Ls.length-(k+1))
     case measure=>omega
     case rel=>exact⟨k+1,af,rfl,by go_num,by rw [sS.out];exact pN,Below.grown sU.out hg4 HZ.out (fun j hj=>(HO.out.lt j hj).1)⟩
    ·obtain rfl:k=Ls.length:=af
     rw [List.take_length,HF.out]at ho
     rw [List.take_length,HF.out]
     have sU:=hdd hb
     have HO:=hdd ho
     clear ho hb
     go_wp2_with fail
     go_ret
     rw [HF.out]
     exact⟨sU.out,_,_,rfl,HO.out⟩
end Go.Proofs.YtmljjfhgciaceaaDoor
