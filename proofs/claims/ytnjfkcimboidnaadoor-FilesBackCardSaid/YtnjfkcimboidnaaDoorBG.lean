/- Texts of mine that come as one: FileP Bytes Enc Seal Encode. -/
import Derived.Test.YtnjfkcimboidnaaDoorBK
import Derived.Laws.Bits128
import Derived.Lib.EndianBits
import Derived.Lib.AppendStr
import Derived.Laws.BytesArg
import Derived.Lib.SlBytesConst
import Derived.Maps.AppendAt
import Derived.Test.YtnjfkcimboidnaaDoorSR
import Derived.Test.YtnjfkcimboidnaaDoorPC
import Derived.Test.YtnjfkcimboidnaaDoorPS
/- Bases as bytes: what the document computes. No program in sight. -/
namespace Go.Proofs.YtnjfkcimboidnaaDoor
def sevensL (n:Nat):List Int:=if n<128 then [(n:Int)] else(128+(n%128:Nat):Int)::sevensL (n/128)
termination_by n
theorem sevens_low {n:Nat} (h:n<128):sevensL n=[(n:Int)]:=by rw [sevensL,if_pos h]
theorem sevens_high {n:Nat} (h:¬n<128):sevensL n=(128+(n%128:Nat):Int)::sevensL (n/128):=by rw [sevensL,if_neg h]
theorem sevens_len:∀(k n:Nat),n<128 ^ (k+1)→(sevensL n).length≤k+1
 |0,n,h=>by rw [sevens_low (by simpa using h)];simp
 |k+1,n,h=>by
  by_cases hn:n<128
  ·rw [sevens_low hn];simp
  ·rw [sevens_high hn,List.length_cons]
   have:n/128<128 ^ (k+1):=by
    rw [Nat.div_lt_iff_lt_mul (by decide)]
    rw [Nat.pow_succ]at h;exact h
   have:=sevens_len k (n/128) this
   omega
theorem sevens_nine {n:Nat} (h:n<9223372036854775808):(sevensL n).length≤9:=sevens_len 8 n (by simpa using h)
theorem sevens_pos (n:Nat):0<(sevensL n).length:=by
 rw [sevensL];split <;> simp
theorem sevens_bytes:∀(n:Nat),∀c∈sevensL n,0≤c∧c≤255:=by
 intro n
 induction n using Nat.strongRecOn with
 |_ n ih=>
  by_cases hn:n<128
  ·rw [sevens_low hn];intro c hc;simp at hc;omega
  ·rw [sevens_high hn]
   intro c hc
   rcases List.mem_cons.1 hc with rfl|hc
   ·omega
   ·exact ih (n/128) (by omega) c hc
def zigsL (n:Int):List Int:=if n<0 then sevensL (-2*n-1).toNat else sevensL (2*n).toNat
def namesL (ns:List ByteArray):List Int:=ns.flatMap fun s=>sevensL s.size++nums s
def entL (last:Int) (e:Ent):List Int:=sevensL (e.key-last).toNat++sevensL e.is.c.toNat++zigsL e.is.s++zigsL e.is.mi++zigsL e.is.ma++zigsL e.is.l
def entsL:Int→List Ent→List Int
 |_,[]=>[]
 |last,e::l=>entL last e++entsL e.key l
def bytesL (b:Ba) (l:List Ent):List Int:=[119,110]++sevensL b.names.length++namesL b.names++sevensL b.floor.toNat++sevensL l.length++entsL 0 l
def sealStep (p:Int×Int) (c:Int):Int×Int:=((p.1+c)%65521,(p.2+(p.1+c)%65521)%65521)
def sealXY (bs:List Int):Int×Int:=bs.foldl sealStep (1,0)
def sealL (bs:List Int):List Int:=[(sealXY bs).2/256,(sealXY bs).2%256,(sealXY bs).1/256,(sealXY bs).1%256]
noncomputable def encE (b:Ba):Int:=
 if baseMay b=false then 7 else match bookR b with|none=>0|some l=>if 10000<l.length then 1 else if 200000<(bytesL b l).length+4 then 1 else 0
noncomputable def encL (b:Ba):List Int:=
 if baseMay b=false then []else match bookR b with|none=>[]|some l=>if 10000<l.length then []else if 200000<(bytesL b l).length+4 then []else bytesL b l++sealL (bytesL b l)
theorem seal_range (bs:List Int):∀(p:Int×Int),(0≤p.1∧p.1<65521∧0≤p.2∧p.2<65521)→(0≤(bs.foldl sealStep p).1∧(bs.foldl sealStep p).1<65521∧0≤(bs.foldl sealStep p).2∧(bs.foldl sealStep p).2<65521):=by
 induction bs with
 |nil=>intro p hp;exact hp
 |cons c bs ih=>
  intro p hp
  rw [List.foldl_cons]
  refine ih _ ?_
  unfold sealStep
  simp only
  omega
theorem sealXY_range (bs:List Int):0≤(sealXY bs).1∧(sealXY bs).1<65521∧0≤(sealXY bs).2∧(sealXY bs).2<65521:=seal_range bs (1,0) (by decide)
theorem sealXY_step {bs:List Int} {k:Nat} (hk:k<bs.length):sealXY (bs.take (k+1))=sealStep (sealXY (bs.take k)) bs[k]:=by
 unfold sealXY;rw [List.take_succ_eq_append_getElem hk,List.foldl_append];rfl
def AllBytes (l:List Int):Prop:=∀c∈l,0≤c∧c≤255
theorem AllBytes.app {a b:List Int} (ha:AllBytes a) (hb:AllBytes b):AllBytes (a++b):=fun c hc=>by
 rcases List.mem_append.1 hc with h|h
 ·exact ha c h
 ·exact hb c h
theorem zigs_bytes (n:Int):AllBytes (zigsL n):=by unfold zigsL;split <;> exact sevens_bytes _
theorem seal_bytes (bs:List Int):AllBytes (sealL bs):=by
 have:=sealXY_range bs
 intro c hc
 simp [sealL]at hc
 omega
theorem names_bytes (ns:List ByteArray):AllBytes (namesL ns):=fun c hc=>by
 obtain⟨s,_,hs⟩:=List.mem_flatMap.1 hc
 exact(AllBytes.app (sevens_bytes _) (nums_range s)) c hs
theorem ents_bytes:∀(l:List Ent) (last:Int),AllBytes (entsL last l)
 |[],_=>fun c hc=>by cases hc
 |e::l,last=>AllBytes.app (((((AllBytes.app (sevens_bytes _) (sevens_bytes _)).app (zigs_bytes _)).app (zigs_bytes _)).app (zigs_bytes _)).app (zigs_bytes _)) (ents_bytes l e.key)
theorem bytes_bytes (b:Ba) (l:List Ent):AllBytes (bytesL b l):=
 ((((AllBytes.app (fun c hc=>by simp at hc;omega) (sevens_bytes _)).app (names_bytes _)).app (sevens_bytes _)).app (sevens_bytes _)).app (ents_bytes l 0)
theorem zigs_len {n:Int} (h1 : -4611686018427387903≤n) (h2:n<4611686018427387904):(zigsL n).length≤9:=by
 unfold zigsL
 split
 ·exact sevens_nine (by omega)
 ·exact sevens_nine (by omega)
theorem names_len:∀{ns:List ByteArray},(∀s∈ns,s.size≤10)→(namesL ns).length≤19*ns.length
 |[],_=>by simp [namesL]
 |s::ns,h=>by
  have h1:=h s (by simp)
  have h2:=names_len (ns:=ns) fun x hx=>h x (by simp [hx])
  have h3:=sevens_nine (n:=s.size) (by omega)
  have e:namesL (s::ns)=(sevensL s.size++nums s)++namesL ns:=rfl
  rw [e,List.length_append,List.length_append,nums_length,List.length_cons]
  omega
theorem ents_len:∀{l:List Ent} {last:Int},PGood l→0≤last→(entsL last l).length≤54*l.length
 |[],_,_,_=>by simp [entsL]
 |e::l,last,h,hl=>by
  obtain⟨g1,g2⟩:=h.2.1 e (by simp)
  have hc:=h.1 e (by simp)
  obtain⟨hg,hcc⟩:=good_check hc.2 hc.1
  have hs:=good_sum hg hcc
  have h2:=ents_len (l:=l) (last:=e.key) ⟨fun x hx=>h.1 x (by simp [hx]),fun x hx=>h.2.1 x (by simp [hx]),by have:=h.2.2;simp at this;omega⟩ g1
  obtain⟨k0,k1,k2,k3,k4,k5,k6,_⟩:=hg
  have a1:=sevens_nine (n:=(e.key-last).toNat) (by omega)
  have a2:=sevens_nine (n:=e.is.c.toNat) (by omega)
  have a3:=zigs_len (n:=e.is.s) (by omega) (by omega)
  have a4:=zigs_len (n:=e.is.mi) (by omega) (by omega)
  have a5:=zigs_len (n:=e.is.ma) (by omega) (by omega)
  have a6:=zigs_len (n:=e.is.l) (by omega) (by omega)
  simp only [entsL,entL,List.length_append,List.length_cons]
  omega
end Go.Proofs.YtnjfkcimboidnaaDoor

/- Bytes in memory; append to bytes; numbers as bytes: file.number, file.signed. -/
namespace Go.Proofs.YtnjfkcimboidnaaDoor
open Go.RowKit
def enB (n:Int):List Value:=[.int .u8 n]
theorem enB_length (n:Int):(enB n).length=1:=rfl
theorem enB_one (xs:List Int):∀u∈xs.flatMap enB,u.oneCell'=true:=by
 intro u hu
 obtain⟨x,_,hx⟩:=List.mem_flatMap.1 hu
 simp [enB]at hx
 subst hx;rfl
theorem enB_flat (xs:List Int):xs.flatMap enB=xs.map (Value.int .u8):=by
 induction xs with
 |nil=>rfl
 |cons x xs ih=>rw [List.flatMap_cons,ih];rfl
theorem enB_flat_length (xs:List Int):(xs.flatMap enB).length=xs.length:=by rw [enB_flat,List.length_map]
abbrev ByteSl (w:World) (v:Value) (xs:List Int):Prop:=SlAt 1 1 enB w v xs
theorem Tryd.iByte:(Tryd.prog.info? 5).map (fun i=>(i.zero.map (fun z=>z.cells.size),i.size,i.bytes))=some (some 1,1,1):=by kernel_rfl
theorem Tryd.zByte:(Tryd.prog.info? 5).map (fun i=>(i.zero,i.size,i.bytes))=some (some (.int .u8 0),1,1):=by kernel_rfl
structure OwnBytes (B:Nat) (w:World) (v:Value) (es:List Int):Prop where
 row:w.ownsRow B 5 1 v es.length (es.flatMap enB)
theorem OwnBytes.nil (B:Nat) (w:World):OwnBytes B w (.slice none 0 0) []:=⟨World.ownsRow_nil _ _ _ _⟩
theorem OwnBytes.alloc {B:Nat} {w:World} {v:Value} {es:List Int} (h:OwnBytes B w v es) (o:Obj):OwnBytes B (w.alloc o) v es:=⟨World.ownsRow.alloc h.row o⟩
theorem OwnBytes.block {B:Nat} {w w':World} {v:Value} {es:List Int} (h:OwnBytes B w v es) (hb:∀g,v.ownBlock=some g→w'.heap[g]?=w.heap[g]?):OwnBytes B w' v es:=by
 obtain⟨hl,⟨rfl,h0⟩|⟨g,cap,cur,rfl,hB,hg,h1,h2,h3,h4⟩⟩:=h.row
 ·exact⟨⟨hl, .inl ⟨rfl,h0⟩⟩⟩
 ·exact⟨⟨hl, .inr ⟨g,cap,cur,rfl,hB,(hb g rfl).trans hg,h1,h2,h3,h4⟩⟩⟩
theorem OwnBytes.drew {B:Nat} {w:World} {v:Value} {es:List Int} (h:OwnBytes B w v es):OwnBytes B w.drew v es:=h.block fun _ _=>rfl
theorem OwnBytes.drewN {B:Nat} {w:World} {v:Value} {es:List Int} (h:OwnBytes B w v es) (n:Nat):OwnBytes B (w.drewN n) v es:=h.block fun _ _=>rfl
theorem OwnBytes.lt {B:Nat} {w:World} {v:Value} {es:List Int} (h:OwnBytes B w v es):∀g,v.ownBlock=some g→B≤g∧g<w.heap.size:=World.ownsRow.lt h.row
theorem OwnBytes.below {B C:Nat} {w w':World} {v:Value} {es:List Int} (h:OwnBytes B w v es) (hb:Below C w w') (hC:w.heap.size≤C):OwnBytes B w' v es:=h.block fun g hg=>hb.block g (by have:=(h.lt g hg).2;omega)
theorem OwnBytes.mono {B C:Nat} {w:World} {v:Value} {es:List Int} (h:OwnBytes B w v es) (hC:C≤B):OwnBytes C w v es:=by
 obtain⟨hl,⟨rfl,h0⟩|⟨g,cap,cur,rfl,hB,hg,h1,h2,h3,h4⟩⟩:=h.row
 ·exact⟨⟨hl, .inl ⟨rfl,h0⟩⟩⟩
 ·exact⟨⟨hl, .inr ⟨g,cap,cur,rfl,by omega,hg,h1,h2,h3,h4⟩⟩⟩
theorem OwnBytes.at {B:Nat} {w:World} {v:Value} {es:List Int} (h:OwnBytes B w v es) (hs:es.length≤1000000):ByteSl w v es:=SlAt.owned enB_length h.row rfl (by omega)
theorem OwnBytes.isSlice {B:Nat} {w:World} {v:Value} {es:List Int} (h:OwnBytes B w v es):∃ao cap,v = .slice ao es.length cap:=by
 obtain⟨hl,⟨rfl,h0⟩|⟨g,cap,cur,rfl,_⟩⟩:=h.row
 ·exact⟨none,0,by rw [h0]⟩
 ·exact⟨_,_,rfl⟩
theorem wpList_append_bytes {w:World} {ops:Array Oper} {rest:List Oper} {o:Oper} {a:Act} {Q:Exit→Act→World→Prop} (hgd:o.guard=none) (s x:Operand)
  (ho:o.op = .call { callee:= .builtin .append,args:=#[s,x],argTypes:=#[54,54] }) (B:Nat) (v:Value) (es:List Int) (hs:a.eval s=v) (hown:OwnBytes B w v es)
  (ad:Addr) (m c:Nat) (ys:List Int) (hm:m=ys.length) (hx:a.eval x = .slice (some ad) m c) (hnews:∀j u,(ys.flatMap enB)[j]?=some u→w.cell? (ad.add j)=some u) (hlen:es.length≤1000000) (hlen2:ys.length≤1000000) (hbase:B≤w.heap.size)
  (h:∀v' w',OwnBytes B w' v' (es++ys)→Turn (fun b=>v.ownBlock=some b) w w'→(∀b,v'.ownBlock=some b→v.ownBlock=some b∨w.heap.size≤b)→wpList Tryd.prog ops Q rest (a.put o.dst v') w'):wpList Tryd.prog ops Q (o::rest) a w:=by
 subst hm
 obtain⟨i0,z,hi,hz,hz1,hz2,hz3⟩:=info_some Tryd.iByte
 refine wpList_append_own_at w hgd s x 54 ho B 5 i0 z 1 1 Tryd.underlying54 hi hz hz1 hz2 hz3 (by decide) v es.length _ hs hown.row ad ys.length c (ys.flatMap enB) hx (by rw [enB_flat_length];omega) hnews (enB_one ys) (by unfold maxLen;omega) (by omega) hbase ?_
 intro v' w' hown' hg _ hloc
 refine h v' w' ?_ (Turn.grown (Turn.refl _ _) hg (fun k hk=> .inl hk)) (fun b hb=>by
  rcases hloc with h|h
  ·exact .inl (h.symm.trans hb)
  ·rw [hb]at h;injection h with h;exact .inr (by omega))
 have:(es++ys).flatMap enB=es.flatMap enB++ys.flatMap enB:=by simp
 refine⟨?_⟩
 rw [this,List.length_append]
 exact hown'
theorem strCells_nums (s:ByteArray):Lib.strCells s=(nums s).flatMap enB:=by
 rw [enB_flat];simp [Lib.strCells,nums]
theorem wpList_append_str {w:World} {ops:Array Oper} {rest:List Oper} {o:Oper} {a:Act} {Q:Exit→Act→World→Prop} (hgd:o.guard=none) (s x:Operand)
  (ho:o.op = .call { callee:= .builtin .append,args:=#[s,x],argTypes:=#[54,9] }) (B:Nat) (v:Value) (es:List Int) (hs:a.eval s=v) (hown:OwnBytes B w v es)
  (st:ByteArray) (hx:a.eval x = .string st) (hlen:es.length≤1000000) (hlen2:st.size≤1000000) (hbase:B≤w.heap.size)
  (h:∀v' w',OwnBytes B w' v' (es++nums st)→(∀C W,Below C W w→C≤B→Below C W w')→wpList Tryd.prog ops Q rest (a.put o.dst v') w'):wpList Tryd.prog ops Q (o::rest) a w:=by
 obtain⟨i0,hi,hz,hz1,hz2⟩:∃i0,Tryd.prog.info? 5=some i0∧i0.zero=some (.int .u8 0)∧i0.size=1∧i0.bytes=1:=by
  have:=Tryd.zByte
  cases h:Tryd.prog.info? 5 with
  |none=>rw [h]at this;cases this
  |some i=>rw [h]at this;simp at this;exact⟨i,rfl,this.1,this.2.1,this.2.2⟩
 refine Lib.wpList_append_own_string w hgd s x 54 9 ho B 5 i0 Tryd.underlying54 Tryd.underlying9 hi hz hz1 hz2 v es.length _ hs hown.row st hx (by unfold maxLen;omega) (by omega) hbase ?_
 intro v' w' hown' hg _
 refine h v' w' ?_ fun C W hb hC=>Below.grown hb hg (by omega) (fun j hj=>by have:=(hown.lt j hj).1;omega)
 refine⟨?_⟩
 rw [List.flatMap_append,List.length_append,nums_length,←strCells_nums]
 exact hown'
theorem byte_new {w:World} {C:Array Value} {T:TypeId} {j:Nat} {u:Value} (h:C[j]?=some u):(w.alloc (.cells C T)).cell? (Addr.add ⟨w.heap.size,0,none⟩ j)=some u:=by
 have ha:Addr.add ⟨w.heap.size,0,none⟩ j=⟨w.heap.size,j,none⟩:=by simp [Addr.add];omega
 have hk:(w.alloc (.cells C T)).heap[w.heap.size]?=some (.cells C T):=by show (w.heap.push _)[w.heap.size]?=_;simp
 rw [ha];simp only [World.cell?,hk];exact h
theorem i64_or128 (n:Int):bits .or .i64 (n%128) 128=128+n%128:=by
 rw [bits_join_low .i64 63 (by decide) (fun n h0 h1=>IntWalk.i64_in _ (by omega)) 7 (n%128) 128 (by omega) (by omega) (by omega) (by omega) (by omega) (by omega)];omega
theorem u8_wrap {n:Int} (h0:0≤n) (h1:n≤255):IntKind.u8.wrap n=n:=by
 rw [IntKind.wrap_u8];omega
def BytesPost (B:Nat) (w:World) (v:Value) (xs:List Int) (e:Ending) (w':World):Prop:=
 Turn (fun b=>v.ownBlock=some b) w w'∧∃v',e = .returned v'∧OwnBytes B w' v' xs∧∀b,v'.ownBlock=some b→v.ownBlock=some b∨w.heap.size≤b
set_option maxRecDepth 100000 in
set_option maxHeartbeats 1000000 in
theorem number_any {B:Nat} {v:Value} {xs:List Int} {n:Int} {w:World} (hown:OwnBytes B w v xs) (hB:B≤w.heap.size) (hn:0≤n) (hn2:n<9223372036854775808) (hlen:xs.length≤990000) :
  Calls Tryd.prog 46 #[v, .int .i64 n] w (BytesPost B w v (xs++sevensL n.toNat)):=by
 obtain⟨ao,cap,rfl⟩:=hown.isSlice
 obtain⟨m,rfl⟩:=Int.eq_ofNat_of_zero_le hn
 have HT:=Lib.hid (show (xs++sevensL m).length≤990009 by rw [List.length_append];have:=sevens_nine (n:=m) (by omega);omega)
 go_enter Tryd.func46,Tryd.ntmps46
 go_wp2_with fail
 go_loopg [0,1] m (fun g bv nv wr=>∃(k:Nat) (ys:List Int),g=k∧nv = .int .i64 k∧k<9223372036854775808∧OwnBytes B wr bv ys∧Hid (ys++sevensL k=xs++sevensL m)∧Hid (Turn (fun b=>(Value.slice ao xs.length cap).ownBlock=some b) w wr)∧Hid (∀b,bv.ownBlock=some b→(Value.slice ao xs.length cap).ownBlock=some b∨w.heap.size≤b))
 case atStart=>exact⟨m,xs,rfl,rfl,by omega,hown,Lib.hid rfl,Lib.hid (Turn.refl _ _),Lib.hid fun b hb=> .inl hb⟩
 case round=>
  obtain⟨k,ys,hgk,rfl,hk,ho,HY,HTU,HLO⟩:=hrel
  obtain rfl:=hgk.symm
  obtain⟨so,sc,rfl⟩:=ho.isSlice
  have hsz:B≤wr.heap.size:=Nat.le_trans hB HTU.out.size
  have hyl:ys.length≤1000000:=by
   have h1:=HT.out
   rw [←HY.out,List.length_append]at h1
   omega
  have hsl:(1:Nat)≤1000000:=by omega
  have HTT:=Lib.hid fun w2 (w3:World) (ht:Turn (fun b=>(Value.slice so ys.length sc).ownBlock=some b) w2 w3) (h2:Below wr.heap.size wr w2)=>(Turn.trans' (Turn.trans' HTU.out (Turn.of (X:=fun _=>False) h2 (Nat.le_refl _)) (fun _ _ h=>h.elim)) ht (fun i hi hx=>by
   rcases HLO.out i hx with h|h
   ·exact h
   ·omega):Turn (fun b=>(Value.slice ao xs.length cap).ownBlock=some b) w w3)
  have HLL:=Lib.hid fun(w2:World) (v3:Value) (h2:wr.heap.size≤w2.heap.size) (hl:∀b,v3.ownBlock=some b→(Value.slice so ys.length sc).ownBlock=some b∨w2.heap.size≤b)=>(fun b hb=>by
   have:=HTU.out.size
   rcases hl b hb with h|h
   ·exact HLO.out b h
   ·exact .inr (by omega):∀b,v3.ownBlock=some b→(Value.slice ao xs.length cap).ownBlock=some b∨w.heap.size≤b)
  by_cases hlt:k<128
  ·have hd:decide ((127:Int)<(k:Int))=false:=by simp;omega
   have HE:=Lib.hid (show ys++[(k:Int)]=xs++sevensL m by rw [←HY.out,sevens_low hlt])
   have hw:IntKind.u8.wrap (k:Int)=(k:Int):=u8_wrap (by omega) (by omega)
   clear hlt
   go_wp2_with ((at_builtin;refine wpList_append_bytes rfl (.tmp 16) (.tmp 19) rfl B _ ys rfl (by repeat (first|assumption|with_reducible refine OwnBytes.alloc ?_ _|with_reducible refine OwnBytes.drewN ?_ _|with_reducible refine OwnBytes.drew ?_)) ⟨_,0,none⟩ 1 1 [(k:Int)] rfl rfl (fun j u h=>byte_new (by simpa [enB] using h)) hyl hsl (by first|omega|(simp;done)|(simp;omega)|(simp [drew_size];done)|(simp [drew_size];omega)) ?_;intro v3 w3 own3 ht3 hl3;have hb3:=HTT.out _ _ ht3 belowAuto;have hq3:=HLL.out _ _ (by first|omega|(simp;done)|(simp;omega)|(simp [drew_size];done)|(simp [drew_size];omega)) hl3))
   go_ret
   rw [HE.out]at own3
   exact⟨hb3,_,rfl,own3,hq3⟩
  ·have hd:decide ((127:Int)<(k:Int))=true:=by simp;omega
   have HE:=Lib.hid (show (ys++[128+(k:Int)%128])++sevensL (k/128)=xs++sevensL m by
    rw [←HY.out,sevens_high hlt,List.append_assoc];simp)
   have a1:=i64_and127 (k:Int)
   have a2:=i64_or128 (k:Int)
   have hw:IntKind.u8.wrap (128+(k:Int)%128)=128+(k:Int)%128:=u8_wrap (by omega) (by omega)
   clear hlt
   go_wp2_with ((at_builtin;refine wpList_append_bytes rfl (.tmp 7) (.tmp 12) rfl B _ ys rfl (by repeat (first|assumption|with_reducible refine OwnBytes.alloc ?_ _|with_reducible refine OwnBytes.drewN ?_ _|with_reducible refine OwnBytes.drew ?_)) ⟨_,0,none⟩ 1 1 [128+(k:Int)%128] rfl rfl (fun j u h=>byte_new (by simpa [enB] using h)) hyl hsl (by first|omega|(simp;done)|(simp;omega)|(simp [drew_size];done)|(simp [drew_size];omega)) ?_;intro v3 w3 own3 ht3 hl3;have hb3:=HTT.out _ _ ht3 belowAuto;have hq3:=HLL.out _ _ (by first|omega|(simp;done)|(simp;omega)|(simp [drew_size];done)|(simp [drew_size];omega)) hl3))
   go_roundg (k/128)
   case measure=>have:=of_decide_eq_true hd;omega
   case rel=>exact⟨k/128,ys++[128+(k:Int)%128],rfl,int_eq (by omega),by omega,own3,HE,Lib.hid hb3,Lib.hid hq3⟩
theorem BytesPost.below {B:Nat} {w:World} {v:Value} {xs:List Int} {e:Ending} {w':World} (h:BytesPost B w v xs e w') (hv:∀b,v.ownBlock=some b→B≤b) (hB:B≤w.heap.size):Below B w w':=h.1.below (Below.refl _ _) hB (fun i hi=>hv i hi)
end Go.Proofs.YtnjfkcimboidnaaDoor

/- The walks of file.signed, file.sum; of the document's sevens, zigs, SealOf. -/
namespace Go.Proofs.YtnjfkcimboidnaaDoor
open Go.RowKit
theorem OwnBytes.made {B:Nat} {w:World} {C:Array Value} {ys:List Int} {n:Nat} (hC:C.toList=ys.flatMap enB) (hn:n=ys.length) (hl:ys.length≤1000000) (hB:B≤w.heap.size):OwnBytes B (w.alloc (.cells C 5)) (.slice (some ⟨w.heap.size,0,none⟩) n n) ys:=by
 subst hn
 have hs:C.size=ys.length:=by
  have:=congrArg List.length hC
  rw [enB_flat_length]at this;simpa using this
 refine⟨⟨by rw [enB_flat_length];omega, .inr ⟨w.heap.size,ys.length,C,rfl,hB,?_,Nat.le_refl _,by unfold maxLen;omega,by omega,?_⟩⟩⟩
 ·show (w.heap.push _)[w.heap.size]?=_;simp
 ·rw [List.take_of_length_le (by simp;omega)];exact hC
theorem OwnBytes.cells {B:Nat} {w:World} {g n cap:Nat} {xs:List Int} (h:OwnBytes B w (.slice (some ⟨g,0,none⟩) n cap) xs) (hl:0<xs.length):∀j u,(xs.flatMap enB)[j]?=some u→w.cell? (Addr.add ⟨g,0,none⟩ j)=some u:=by
 obtain⟨_,⟨hv,h0⟩|⟨g',cap',cur,hv,_,hg,_,_,_,h4⟩⟩:=h.row
 ·omega
 ·injection hv with hv1 _ _
  injection hv1 with hv1
  injection hv1 with hv1 _
  subst hv1
  intro j u hj
  rw [←h4,List.getElem?_take]at hj
  split at hj
  ·have ha:Addr.add ⟨g,0,none⟩ j=⟨g,j,none⟩:=by simp [Addr.add];omega
   rw [ha];simp only [World.cell?,hg];simpa using hj
  ·cases hj
theorem OwnBytes.form {B:Nat} {w:World} {v:Value} {xs:List Int} (h:OwnBytes B w v xs) (hl:0<xs.length):∃g cap,v = .slice (some ⟨g,0,none⟩) xs.length cap:=Joins.ownsRow_form h.row hl
set_option maxRecDepth 100000 in
set_option maxHeartbeats 1000000 in
theorem number_lit {g:Nat} {w:World} (n:Nat) (hn:n<128) (hg:w.heap[g]?=some (.cells #[.int .u8 119, .int .u8 110] 5 (2,3))) :
  Calls Tryd.prog 46 #[.slice (some ⟨g,0,none⟩) 2 2, .int .i64 n] w fun e w'=>Below w.heap.size w w'∧∃v',e = .returned v'∧OwnBytes w.heap.size w' v' ([119,110]++sevensL n):=by
 obtain⟨i0,z,hi,hz,hz1,hz2,hz3⟩:=info_some Tryd.iByte
 have hgz:g<w.heap.size:=(Array.getElem?_eq_some_iff.1 hg).1
 have hcell:∀w',Below w.heap.size w w'→∀b,(some ⟨g,0,none⟩:Option Addr)=some b→∀j u,([119,110].flatMap enB)[j]?=some u→w'.cell? (b.add j)=some u:=fun w' hb b hbe j u hj=>by
  injection hbe with hbe
  subst hbe
  have ha:Addr.add ⟨g,0,none⟩ j=⟨g,j,none⟩:=by simp [Addr.add];omega
  have h1:w'.heap[g]?=_:=(hb.block _ hgz).trans hg
  rw [ha];simp only [World.cell?,h1];simpa [enB] using hj
 have HC:=Lib.hid hcell
 have HE:=Lib.hid (sevens_low hn)
 have hd:decide ((127:Int)<(n:Int))=false:=by simp;omega
 have hw:IntKind.u8.wrap (n:Int)=(n:Int):=u8_wrap (by omega) (by omega)
 clear hcell hn
 go_enter Tryd.func46,Tryd.ntmps46
 go_wp2_with fail
 go_loopg [0,1] 0 (fun g' bv nv wr=>bv = .slice (some ⟨g,0,none⟩) 2 2∧nv = .int .i64 n∧wr=w)
 case atStart=>exact⟨rfl,rfl,rfl⟩
 case round=>
  obtain⟨rfl,rfl,hwr⟩:=hrel
  obtain rfl:=hwr.symm
  go_wp2_with ((at_builtin;refine wpList_append_grows _ rfl (.tmp 16) (.tmp 19) 54 rfl 5 i0 z 1 1 Tryd.underlying54 hi hz hz1 hz2 hz3 (by decide) (some ⟨g,0,none⟩) 2 2 ([119,110].flatMap enB) rfl (fun h=>by cases h) rfl (HC.out _ belowAuto) ⟨_,0,none⟩ 1 1 ([(n:Int)].flatMap enB) rfl rfl (fun j u h=>byte_new (by simpa [enB] using h)) (enB_one _) (by omega) (by unfold maxLen;omega) (by omega) ?_;intro v3 w3 own3 hg3;have hb3:Below w.heap.size w w3:=Below.grown (show Below w.heap.size w _ from belowAuto) hg3 (by first|omega|(simp;done)|(simp;omega)|(simp [drew_size];done)|(simp [drew_size];omega)) (fun k hk=>by cases hk)))
  go_ret
  refine⟨hb3,_,rfl,?_⟩
  rw [HE.out]
  refine⟨?_⟩
  have:=Joins.ownsRow_le own3 (show w.heap.size≤_ from (by first|omega|(simp;done)|(simp;omega)|(simp [drew_size];done)|(simp [drew_size];omega)))
  simpa [enB] using this
set_option maxRecDepth 100000 in
set_option maxHeartbeats 1000000 in
theorem signed_any {B:Nat} {v:Value} {xs:List Int} {n:Int} {w:World} (hown:OwnBytes B w v xs) (hB:B≤w.heap.size) (hn : -4611686018427387903≤n) (hn2:n<4611686018427387904) (hlen:xs.length≤990000) :
  Calls Tryd.prog 47 #[v, .int .i64 n] w (BytesPost B w v (xs++zigsL n)):=by
 obtain⟨ao,cap,rfl⟩:=hown.isSlice
 by_cases hlt:n<0
 ·have hd:decide (n<0)=true:=by simp [hlt]
  have m1:IntKind.i64.wrap (-2*n) = -2*n:=IntWalk.i64_in _ (by omega)
  have m2:IntKind.i64.wrap (-2*n-1) = -2*n-1:=IntWalk.i64_in _ (by omega)
  have HN:=Lib.hid (number_any (n:=-2*n-1) hown hB (by omega) (by omega) hlen)
  have HE:=Lib.hid (show zigsL n=sevensL (-2*n-1).toNat by unfold zigsL;rw [if_pos hlt])
  clear hlt hn hn2
  go_enter Tryd.func47,Tryd.ntmps47
  go_wp2_with ((go_at_call 46;(with_reducible refine HN.out.mono ?_);rintro e w3 ⟨hb3,v3,rfl,ho3,hl3⟩))
  go_ret
  rw [HE.out]
  exact⟨hb3,_,rfl,ho3,hl3⟩
 ·have hd:decide (n<0)=false:=by simp;omega
  have m1:IntKind.i64.wrap (2*n)=2*n:=IntWalk.i64_in _ (by omega)
  have HN:=Lib.hid (number_any (n:=2*n) hown hB (by omega) (by omega) hlen)
  have HE:=Lib.hid (show zigsL n=sevensL (2*n).toNat by unfold zigsL;rw [if_neg hlt])
  clear hlt hn hn2
  go_enter Tryd.func47,Tryd.ntmps47
  go_wp2_with ((go_at_call 46;(with_reducible refine HN.out.mono ?_);rintro e w3 ⟨hb3,v3,rfl,ho3,hl3⟩))
  go_ret
  rw [HE.out]
  exact⟨hb3,_,rfl,ho3,hl3⟩
end Go.Proofs.YtnjfkcimboidnaaDoor

/- The walks of file.sum and of the document's SealOf. -/
namespace Go.Proofs.YtnjfkcimboidnaaDoor
open Go.RowKit
theorem idx_bytes {ab aoff n cap j:Nat} {i:Int} (h:i=j) (hj:j<n) (w:World):(Instr.indexAt 54 (.slice (some ⟨ab,aoff,none⟩) n cap) (.int .i64 i)).run Tryd.prog w = .ok (.pointer (some ⟨ab,aoff+j,none⟩)) w:=by
 subst h
 go_simp
theorem byteSl_cell {w:World} {b off k:Nat} {xs:List Int} (h:∀i x,xs[i]?=some x→∀j u,(enB x)[j]?=some u→w.cell? ⟨b,off+i*1+j,none⟩=some u) (hk:k<xs.length):w.cell? ⟨b,off+k,none⟩=some (.int .u8 xs[k]):=by
 have:=h k xs[k] (by simp [hk]) 0 _ rfl
 simpa using this
theorem seal_join {x y:Int} (h0:0≤x) (h1:x<65536) (h2:0≤y) (h3:y<65536):bits .or .i64 (y*65536) x=y*65536+x:=by
 rw [bits_join .i64 63 (by decide) (fun n h0 h1=>IntWalk.i64_in _ (by omega)) 16 (y*65536) x (by omega) (by omega) (by omega) h0 (by omega) (by omega)]
set_option maxRecDepth 100000 in
set_option maxHeartbeats 1000000 in
theorem sum_any {v:Value} {xs:List Int} {w:World} (h:ByteSl w v xs) (hx:AllBytes xs) :
  Calls Tryd.prog 39 #[v] w fun e w'=>e = .returned (.int .i64 ((sealXY xs).2*65536+(sealXY xs).1))∧w'=w:=by
 obtain⟨ao,cap,rfl,a1,a2,a3,a4,a5⟩:=h
 have HX:=Lib.hid hx
 clear hx
 go_enter Tryd.func39,Tryd.ntmps39
 go_wp2_with fail
 go_loopg [3,4,9] xs.length (fun g xv yv i wr=>∃(k:Nat) (x y:Int),k≤xs.length∧g=xs.length-k∧i = .int .i64 k∧xv = .int .i64 x∧yv = .int .i64 y∧Hid (sealXY (xs.take k)=(x,y))∧wr=w)
 case atStart=>exact⟨0,1,0,Nat.zero_le _,rfl,rfl,rfl,rfl,Lib.hid rfl,rfl⟩
 case round=>
  obtain⟨k,x,y,hk,rfl,rfl,rfl,rfl,HS,hwr⟩:=hrel
  obtain rfl:=hwr.symm
  have hr:=sealXY_range (xs.take k)
  rw [HS.out]at hr
  obtain⟨r1,r2,r3,r4⟩:=hr
  simp only at r1 r2 r3 r4
  by_cases hlt:k<xs.length
  ·obtain⟨ab,aoff,rfl,abb,ac⟩:=a5 (by omega)
   have e0:=byteSl_cell ac hlt
   obtain⟨c,hc⟩:∃c,xs[k]=c:=⟨_,rfl⟩
   rw [hc]at e0
   have hcr:=HX.out c (by rw [←hc];exact List.getElem_mem hlt)
   obtain⟨X,hX⟩:∃X,(x+c)%65521=X:=⟨_,rfl⟩
   obtain⟨Y,hY⟩:∃Y,(y+X)%65521=Y:=⟨_,rfl⟩
   have HN:=Lib.hid (show sealXY (xs.take (k+1))=(X,Y) by rw [sealXY_step hlt,HS.out,hc];simp [sealStep,hX,hY])
   have hix:=fun w'=>idx_bytes (ab:=ab) (aoff:=aoff) (n:=xs.length) (cap:=cap) (show (k:Int)=((k:Nat):Int) by rfl) hlt w'
   have c1:IntKind.i64.wrap c=c:=IntWalk.i64_in _ (by omega)
   have c2:IntKind.i64.wrap (x+c)=x+c:=IntWalk.i64_in _ (by omega)
   have c3:(x+c).tmod 65521=X:=by rw [Int.tmod_eq_emod_of_nonneg (by omega)];exact hX
   have c4:IntKind.i64.wrap X=X:=IntWalk.i64_in _ (by omega)
   have c5:IntKind.i64.wrap (y+X)=y+X:=IntWalk.i64_in _ (by omega)
   have c6:(y+X).tmod 65521=Y:=by rw [Int.tmod_eq_emod_of_nonneg (by omega)];exact hY
   have c7:IntKind.i64.wrap Y=Y:=IntWalk.i64_in _ (by omega)
   clear ac a5 hc hX hY
   go_wp2
   go_roundg (xs.length-(k+1))
   case measure=>omega
   case rel=>exact⟨k+1,X,Y,by omega,rfl,by go_num,rfl,rfl,HN,rfl⟩
  ·have HE:=Lib.hid (show sealXY xs=(x,y) by rw [←HS.out,List.take_of_length_le (by omega)])
   have c1:IntKind.i64.wrap (y*65536)=y*65536:=IntWalk.i64_in _ (by omega)
   have c2:IntKind.i64.wrap (y*2 ^ 16)=y*65536:=c1
   have c3:=seal_join (x:=x) (y:=y) r1 (by omega) r3 (by omega)
   go_wp2
   go_ret
   rw [HE.out]
   exact⟨rfl,rfl⟩
end Go.Proofs.YtnjfkcimboidnaaDoor

/- The walk of file.Encode. -/
namespace Go.Proofs.YtnjfkcimboidnaaDoor
open Go.RowKit
def EncPost (B:Nat) (w:World) (bs:List Int) (E:Int) (e:Ending) (w':World):Prop:=Below B w w'∧∃v,e = .returned (.tuple #[v, .int .i64 E])∧OwnBytes B w' v bs
theorem namesL_step {ns:List ByteArray} {k:Nat} (hk:k<ns.length):namesL (ns.take (k+1))=namesL (ns.take k)++(sevensL ns[k].size++nums ns[k]):=by
 unfold namesL;rw [List.take_succ_eq_append_getElem hk,List.flatMap_append,List.flatMap_singleton]
theorem entsL_step {l:List Ent} {k:Nat} {last:Int} (hk:k<l.length):entsL last (l.drop k)=entL last l[k]++entsL l[k].key (l.drop (k+1)):=by
 rw [List.drop_eq_getElem_cons hk];rfl
theorem encE_may {b:Ba} (h:baseMay b=false):encE b=7∧encL b=[]:=by unfold encE encL;rw [if_pos h,if_pos h];exact⟨rfl,rfl⟩
theorem encE_many {b:Ba} {l:List Ent} (h:baseMay b=true) (hl:bookR b=some l) (h2:10000<l.length):encE b=1∧encL b=[]:=by
 unfold encE encL;rw [if_neg (by rw [h];decide),if_neg (by rw [h];decide),hl];simp only;rw [if_pos h2,if_pos h2];exact⟨rfl,rfl⟩
theorem encE_long {b:Ba} {l:List Ent} (h:baseMay b=true) (hl:bookR b=some l) (h2:¬10000<l.length) (h3:200000<(bytesL b l).length+4):encE b=1∧encL b=[]:=by
 unfold encE encL;rw [if_neg (by rw [h];decide),if_neg (by rw [h];decide),hl];simp only;rw [if_neg h2,if_neg h2,if_pos h3,if_pos h3];exact⟨rfl,rfl⟩
theorem encE_ok {b:Ba} {l:List Ent} (h:baseMay b=true) (hl:bookR b=some l) (h2:¬10000<l.length) (h3:¬200000<(bytesL b l).length+4):encE b=0∧encL b=bytesL b l++sealL (bytesL b l):=by
 unfold encE encL;rw [if_neg (by rw [h];decide),if_neg (by rw [h];decide),hl];simp only;rw [if_neg h2,if_neg h2,if_neg h3,if_neg h3];exact⟨rfl,rfl⟩
theorem name_small {b:Ba} (h:baseMay b=true) {k:Nat} (hk:k<b.names.length):b.names[k].size≤10:=by
 have:=((baseMay_ok h).names k hk).1
 simp [nameMay]at this
 omega
theorem names_small {b:Ba} (h:baseMay b=true):∀s∈b.names,s.size≤10:=fun s hs=>by
 obtain⟨k,hk,rfl⟩:=List.getElem_of_mem hs
 exact name_small h hk
set_option maxRecDepth 100000 in
set_option maxHeartbeats 8000000 in
theorem encode_any {v:Value} {b:Ba} {w:World} (h:BaseAt w v b) (hst:∀s∈b.names,s.size≤140737488351232) (hsz:SizesAt w) :
  Calls Tryd.prog 23 #[v] w (EncPost w.heap.size w (encL b) (encE b)):=by
 have HCK:=Lib.hid fun w' (hb:Below w.heap.size w w')=>baseCheck_any (h.below hb) hst (hsz.below hb)
 obtain⟨sa,sc,g0,l0,p0,g1,l1,p1,g2,l2,p2,rfl,hn,hnames,T0,T1,T2⟩:=h.open
 obtain⟨W0,hW0⟩:∃W0,W0=w.alloc (.cells (baCells sa b.names.length sc g0 l0 p0 g1 l1 p1 g2 l2 p2 b) 35):=⟨_,rfl⟩
 have hb0:Below w.heap.size w W0:=by rw [hW0];exact belowAuto
 have hz0:W0.heap.size=w.heap.size+1:=by rw [hW0];simp
 have k0:W0.heap[w.heap.size]?=some (.cells (baCells sa b.names.length sc g0 l0 p0 g1 l1 p1 g2 l2 p2 b) 35):=by rw [hW0];exact heap_new _ _ rfl
 have HX:=Lib.hid fun w' (hb:Below W0.heap.size W0 w')=>(by
  have b0:w'.heap[w.heap.size]?=_:=(hb.block _ (by omega)).trans k0
  simp [World.cell?,b0] :
  w'.cell? ⟨w.heap.size,0,none⟩=some (.slice sa b.names.length sc)∧w'.cell? ⟨w.heap.size,1,none⟩=some (.slice g0 l0 p0)∧w'.cell? ⟨w.heap.size,2,none⟩=some (.int .i64 b.t0.root)∧w'.cell? ⟨w.heap.size,3,none⟩=some (.slice g1 l1 p1)∧w'.cell? ⟨w.heap.size,4,none⟩=some (.int .i64 b.t1.root)∧w'.cell? ⟨w.heap.size,5,none⟩=some (.slice g2 l2 p2)∧w'.cell? ⟨w.heap.size,6,none⟩=some (.int .i64 b.t2.root)∧w'.cell? ⟨w.heap.size,7,none⟩=some (.int .i64 b.floor))
 have HB:=Lib.hid fun w' (hb:Below W0.heap.size W0 w')=>(Below.trans' hb0 hb hb0.size:Below w.heap.size w w')
 obtain⟨x0,x1,x2,x3,x4,x5,x6,x7⟩:=HX.out W0 (Below.refl _ _)
 have HT0:=Lib.hid fun w' (hb:Below W0.heap.size W0 w')=>(all_any (lo:=0) (hi:=1099511627776) (T0 w' (HB.out w' hb))).mono fun e w' hp=>AllPost.allT hp
 have HSN:=Lib.hid hnames
 clear h hst hsz hnames T0 T1 T2
 go_enter Tryd.func23,Tryd.ntmps23
 go_upto_region 1 with (fail)
 rw [←hW0]
 clear hW0 k0
 cases hmay:baseMay b with
 |false=>
  have hc:checkE b=7:=checkE_no hmay
  have HR:=Lib.hid (encE_may hmay)
  rw [hc]at HCK
  clear hc hmay
  go_wp2_with ((go_at_call 26;(with_reducible refine(HCK.out _ hb0).mono ?_);rintro e w1 ⟨rfl,hb1⟩))
  go_ret2
  rw [HR.out.1,HR.out.2]
  exact⟨HB.out _ hb1,_,rfl,OwnBytes.nil _ _⟩
 |true=>
  have hc:checkE b=0:=checkE_yes hmay
  rw [hc]at HCK
  obtain⟨l,hl,hrise,hg,-⟩:=base_knows hmay
  have hal:=(bookR_some hl).1
  rw [hal]at HT0
  have HMAY:=Lib.hid hmay
  have HL:=Lib.hid hl
  have HRI:=Lib.hid hrise
  have HG:=Lib.hid hg
  have hll:l.length≤50000:=hg.2.2
  clear hc hmay hl hrise hg hal
  go_upto_region 7 with (first|(go_at_call 26;(with_reducible refine(HCK.out _ hb0).mono ?_);rintro e w1 ⟨rfl,hb1⟩;obtain⟨x0,x1,x2,x3,x4,x5,x6,x7⟩:=HX.out _ hb1)|(go_at_call 45;(with_reducible refine(HT0.out _ hb1).mono ?_);rintro e w2 ⟨hb2,v2,rfl,ho2⟩;have hb02:=Below.trans' hb1 hb2 hb1.size;obtain⟨s2,c2,rfl⟩:=ho2.isSlice))
  have hbw2:=HB.out _ hb02
  by_cases hm:10000<l.length
  ·have hmd:decide ((10000:Int)<(l.length:Int))=true:=by simp;omega
   have HR:=Lib.hid (encE_many HMAY.out HL.out hm)
   clear hm
   go_wp2
   go_ret2
   rw [HR.out.1,HR.out.2]
   exact⟨hbw2,_,rfl,OwnBytes.nil _ _⟩
  ·have hmd:decide ((10000:Int)<(l.length:Int))=false:=by simp;omega
   have HM:=Lib.hid hm
   have HEN:=Lib.hid (ho2.at (by omega))
   have HN16:=Lib.hid (baseMay_ok HMAY.out).n16
   have HF0:=Lib.hid (And.intro (baseMay_ok HMAY.out).fl0 (baseMay_ok HMAY.out).fl1)
   have HNS:=Lib.hid (names_small HMAY.out)
   clear hm ho2 x0 x1 x2 x3 x4 x5 x6 x7
   obtain⟨x0,x1,x2,x3,x4,x5,x6,x7⟩:=HX.out _ hb02
   go_upto_region 9 with (fail)
   clear hmd
   obtain⟨W3,hW3⟩:∃W3,W3=w2.alloc (.cells #[.int .u8 119, .int .u8 110] 5 (2,3)):=⟨_,rfl⟩
   have hb3:Below w2.heap.size w2 W3:=by rw [hW3];exact belowAuto
   have hb03:Below W0.heap.size W0 W3:=Below.trans' hb02 hb3 hb02.size
   have k3:W3.heap[w2.heap.size]?=some (.cells #[.int .u8 119, .int .u8 110] 5 (2,3)):=by rw [hW3];exact heap_new _ _ rfl
   have hz3:W3.heap.size=w2.heap.size+1:=by rw [hW3];simp
   have HN:=Lib.hid (number_lit (w:=W3) (g:=w2.heap.size) b.names.length (by have:=HN16.out;omega) k3)
   have HX3:=Lib.hid fun w' (hb:Below W3.heap.size W3 w')=>HX.out w' (Below.trans' hb03 hb hb03.size)
   have HB3:=Lib.hid fun w' (hb:Below W3.heap.size W3 w')=>HB.out w' (Below.trans' hb03 hb hb03.size)
   have HB2:=Lib.hid fun w' (hb:Below W3.heap.size W3 w')=>(Below.trans' hb3 hb hb3.size:Below w2.heap.size w2 w')
   have hcv:(convert 54 54 (.slice (some ⟨w2.heap.size,0,none⟩) 2 2)).run Tryd.prog (w2.alloc (.cells #[.int .u8 119, .int .u8 110] 5)) = .ok (.slice (some ⟨w2.heap.size,0,none⟩) 2 2) W3:=by
    rw [hW3];exact Joins.run_convert_bytes_const_at (P:=Tryd.prog) w2 54 5 #[.int .u8 119, .int .u8 110] 2 2 w2.heap.size rfl Tryd.underlying54 Tryd.underlying5
   obtain⟨x0',-⟩:=HX3.out _ (Below.refl _ _)
   clear hW3 k3
   go_upto_region 10 with ((go_at_call 46;(with_reducible refine HN.out.mono ?_);rintro e w4 ⟨hb4,v4,rfl,ho4⟩))
   clear x0' hcv x0 x1 x2 x3 x4 x5 x6 x7
   obtain⟨x0,x1,x2,x3,x4,x5,x6,x7⟩:=HX3.out _ hb4
   obtain⟨P0,hP0⟩:∃P0,[119,110]++sevensL b.names.length=P0:=⟨_,rfl⟩
   have HP0:=Lib.hid hP0
   have hl0:P0.length≤11:=by rw [←hP0,List.length_append];have:=sevens_nine (n:=b.names.length) (by have:=HN16.out;omega);simp;omega
   rw [hP0]at ho4
   clear hP0
   obtain⟨so4,sc4,rfl⟩:=ho4.isSlice
   go_upto_region 11 with (fail)
   go_loopg [7,43] b.names.length (fun g bv i wr=>∃k:Nat,k≤b.names.length∧g=b.names.length-k∧i = .int .i64 k∧OwnBytes W3.heap.size wr bv (P0++namesL (b.names.take k))∧Below W3.heap.size W3 wr)
   case atStart=>exact⟨0,Nat.zero_le _,rfl,rfl,by simpa [namesL] using ho4,hb4⟩
   case round=>
    clear x0 x1 x2 x3 x4 x5 x6 x7 ho4 hb4
    obtain⟨k,hk,rfl,rfl,ho,hb⟩:=hrel
    have hsz:=hb.size
    obtain⟨P,hP⟩:∃P,P0++namesL (b.names.take k)=P:=⟨_,rfl⟩
    rw [hP]at ho
    obtain⟨so,sc',rfl⟩:=ho.isSlice
    obtain⟨x0,-,-,-,-,-,-,x7⟩:=HX3.out _ hb
    have hln:P.length≤400:=by
     have h1:=names_len (ns:=b.names.take k) fun s hs=>HNS.out s (List.mem_of_mem_take hs)
     rw [List.length_take]at h1
     have:=HN16.out
     rw [←hP,List.length_append];omega
    have HP:=Lib.hid hP
    clear hP
    by_cases hlt:k<b.names.length
    ·obtain⟨_,_,va,-,-,-,-,a5⟩:=HSN.out
     obtain⟨ab,aoff,hA,abb,ac⟩:=a5 (by omega)
     injection va with va1 _ va3
     subst va1 va3 hA
     have e0:=strs_cell (HB3.out _ hb) abb ac hlt
     obtain⟨s,hs⟩:∃s,b.names[k]=s:=⟨_,rfl⟩
     rw [hs]at e0
     have hss:=HNS.out s (by rw [←hs];exact List.getElem_mem hlt)
     have HST:=Lib.hid (namesL_step hlt)
     rw [hs]at HST
     have hix:=fun w'=>idx_str (ab:=ab) (aoff:=aoff) (n:=b.names.length) (cap:=sc) (show (k:Int)=((k:Nat):Int) by rfl) hlt w'
     obtain⟨P2,hP2⟩:∃P2,P++sevensL s.size=P2:=⟨_,rfl⟩
     have HE:=Lib.hid (show P2++nums s=P0++namesL (b.names.take (k+1)) by rw [HST.out,←hP2,←HP.out];simp)
     have hNUM:Calls Tryd.prog 46 #[.slice so P.length sc', .int .i64 s.size] wr (BytesPost W3.heap.size wr (.slice so P.length sc') (P++sevensL s.size)):=number_any (n:=(s.size:Int)) ho hsz (by omega) (by omega) (by omega)
     have hln2:P2.length≤1000000:=by rw [←hP2,List.length_append];have:=sevens_nine (n:=s.size) (by omega);omega
     rw [hP2]at hNUM
     have HNUM:=Lib.hid hNUM
     have hss2:s.size≤1000000:=by omega
     have HV:=Lib.hid fun g hg=>(ho.lt g hg).1
     clear hs a5 ac hss hln hP2 hNUM
     go_wp2_with (first
      |(go_at_call 46;(with_reducible refine HNUM.out.mono ?_);intro e w5 h5;have hb5:=hb.trans (h5.below HV.out hsz);obtain⟨-,v5,rfl,ho5,-⟩:=h5;obtain⟨s5,c5,rfl⟩:=ho5.isSlice;have hz5:=hb5.size)
      |(at_builtin;refine wpList_append_str rfl (.tmp 50) (.tmp 51) rfl W3.heap.size _ P2 rfl ho5 s rfl hln2 hss2 hz5 ?_;intro v6 w6 own6 hg6;have hb6:=hg6 W3.heap.size W3 hb5 (Nat.le_refl _)))
     go_roundg (b.names.length-(k+1))
     case measure=>omega
     case rel=>exact⟨k+1,by omega,rfl,by go_num,by rw [←HE.out];exact own6,hb6⟩
    ·have hPn:P=P0++namesL b.names:=by rw [←HP.out,List.take_of_length_le (by omega)]
     have HPN:=Lib.hid hPn
     obtain⟨F,hF⟩:∃F:Nat,b.floor=F:=⟨b.floor.toNat,by have:=HF0.out;omega⟩
     have hFr:F≤1048575:=by have:=HF0.out;omega
     have HF:=Lib.hid hF
     rw [hF]at x7
     obtain⟨P2,hP2⟩:∃P2,P++sevensL F=P2:=⟨_,rfl⟩
     obtain⟨P1,hP1⟩:∃P1,P2++sevensL l.length=P1:=⟨_,rfl⟩
     have hl2:P2.length≤410:=by
      have h1:=sevens_nine (n:=F) (by omega)
      rw [←hP2,List.length_append];omega
     have hl1:P1.length≤420:=by
      have h2:=sevens_nine (n:=l.length) (by omega)
      rw [←hP1,List.length_append];omega
     have hN1:Calls Tryd.prog 46 #[.slice so P.length sc', .int .i64 F] wr (BytesPost W3.heap.size wr (.slice so P.length sc') (P++sevensL F)):=number_any (n:=(F:Int)) ho hsz (by omega) (by omega) (by omega)
     have hN2:∀w5 (v5:Value) (ho5:OwnBytes W3.heap.size w5 v5 P2) (hz5:W3.heap.size≤w5.heap.size),Calls Tryd.prog 46 #[v5, .int .i64 l.length] w5 (BytesPost W3.heap.size w5 v5 (P2++sevensL l.length)):=fun w5 v5 ho5 hz5=>number_any (n:=(l.length:Int)) ho5 hz5 (by omega) (by omega) (by omega)
     have HBY:=Lib.hid (show P1++entsL 0 l=bytesL b l by rw [←hP1,←hP2,HPN.out,←HP0.out];unfold bytesL;rw [HF.out];simp)
     rw [hP2]at hN1
     rw [hP1]at hN2
     have HN1:=Lib.hid hN1
     have HN2:=Lib.hid hN2
     have HV:=Lib.hid fun g hg=>(ho.lt g hg).1
     clear hPn hF hP1 hP2 hN1 hN2
     go_upto_region 16 with (first
      |(go_at_call 46;(with_reducible refine HN1.out.mono ?_);intro e w5 h5;have hb5:=hb.trans (h5.below HV.out hsz);obtain⟨-,v5,rfl,ho5,-⟩:=h5;obtain⟨s5,c5,rfl⟩:=ho5.isSlice;have hz5:=hb5.size)
      |(go_at_call 46;(with_reducible refine(HN2.out _ _ ho5 hz5).mono ?_);intro e w6 h6;have hb6:=hb5.trans (h6.below (fun g hg=>(ho5.lt g hg).1) hz5);obtain⟨-,v6,rfl,ho6,-⟩:=h6;obtain⟨s6,c6,rfl⟩:=ho6.isSlice))
     have hTot:=ents_len (last:=0) HG.out (Int.le_refl 0)
     have hT2:(entsL 0 l).length≤540000:=by have:=HM.out;omega
     clear ho hb hsz hz5 hb5 ho5 x0 x7 hln hTot
     go_upto_region 18 with (fail)
     go_loopg [7,10,63] l.length (fun g bv lv i wr=>∃(k:Nat) (last:Int) (pre:List Int),k≤l.length∧g=l.length-k∧i = .int .i64 k∧lv = .int .i64 last∧OwnBytes W3.heap.size wr bv (P1++pre)∧Hid (entsL 0 l=pre++entsL last (l.drop k))∧Hid (0≤last∧∀e∈l.drop k,last≤e.key)∧Below W3.heap.size W3 wr)
     case atStart=>exact⟨0,0,[],Nat.zero_le _,rfl,rfl,rfl,by simpa using ho6,Lib.hid rfl,Lib.hid ⟨Int.le_refl 0,fun e he=>(HG.out.2.1 e he).1⟩,hb6⟩
     case round=>
      clear ho6 hb6
      obtain⟨k,last,pre,hk,rfl,rfl,rfl,ho,HPRE,HLAST,hb⟩:=hrel
      have hsz:=hb.size
      have hpl:pre.length≤540000:=by
       have:=congrArg List.length HPRE.out
       rw [List.length_append]at this;omega
      obtain⟨Q,hQ⟩:∃Q,P1++pre=Q:=⟨_,rfl⟩
      rw [hQ]at ho
      have hql:Q.length≤541000:=by rw [←hQ,List.length_append];omega
      have HQ:=Lib.hid hQ
      obtain⟨so,sc',rfl⟩:=ho.isSlice
      clear hQ hpl
      by_cases hlt:k<l.length
      ·obtain⟨_,_,hv,-,-,-,-,h5⟩:=HEN.out
       injection hv with hv1 _ hv3
       subst hv1 hv3
       obtain⟨eb,eoff,hla,heb,hec⟩:=h5 (by omega)
       subst hla
       obtain⟨y0,y1,y2,y3,y4,y5,y6⟩:=ent_cells (HB2.out _ hb) heb hec hlt
       obtain⟨y,hy⟩:∃y,l[k]=y:=⟨_,rfl⟩
       rw [hy]at y0 y1 y2 y3 y4 y5 y6
       have hyl:y∈l:=by rw [←hy];exact List.getElem_mem hlt
       have hyd:y∈l.drop k:=by rw [List.drop_eq_getElem_cons hlt,hy];simp
       obtain⟨hk0,hk1⟩:=HG.out.2.1 y hyl
       obtain⟨hgd,hcc⟩:=good_check (HG.out.1 y hyl).2 (HG.out.1 y hyl).1
       have hsm:=good_sum hgd hcc
       obtain⟨g0',g1',g2',g3',g4',g5',g6',-⟩:=hgd
       have hla1:=HLAST.out.1
       have hla2:=HLAST.out.2 y hyd
       have HST:=Lib.hid (entsL_step (last:=last) hlt)
       rw [hy]at HST
       have HNL:=Lib.hid (show 0≤y.key∧∀e∈l.drop (k+1),y.key≤e.key from ⟨hk0,fun e he=>by
        obtain⟨i,hi,rfl⟩:=List.getElem_of_mem he
        rw [List.getElem_drop]
        have h1:=List.pairwise_iff_getElem.1 HRI.out k (k+1+i) hlt (by rw [List.length_drop]at hi;omega) (by omega)
        rw [hy]at h1;omega⟩)
       have m1:IntKind.i64.wrap (y.key-last)=y.key-last:=IntWalk.i64_in _ (by omega)
       have hix:=fun w'=>idx_ents (ab:=eb) (aoff:=eoff) (n:=l.length) (cap:=c2) (show (k:Int)=((k:Nat):Int) by rfl) hlt w'
       have hwz:eb<wr.heap.size:=by have:=(HB2.out _ hb).size;omega
       obtain⟨W1,hW1⟩:∃W1,W1=wr.alloc (.cells #[.int .i64 y.key, .int .i64 y.is.c, .int .i64 y.is.s, .int .i64 y.is.mi, .int .i64 y.is.ma, .int .i64 y.is.t, .int .i64 y.is.l] 96):=⟨_,rfl⟩
       have hb1':Below W3.heap.size W3 W1:=by rw [hW1];exact belowAuto
       have hz1:W1.heap.size=wr.heap.size+1:=by rw [hW1];simp
       have k1:W1.heap[wr.heap.size]?=some (.cells #[.int .i64 y.key, .int .i64 y.is.c, .int .i64 y.is.s, .int .i64 y.is.mi, .int .i64 y.is.ma, .int .i64 y.is.t, .int .i64 y.is.l] 96):=by rw [hW1];exact heap_new _ _ rfl
       have HYC:=Lib.hid fun(w':World) (X:Nat→Prop) (ht:Turn X W1 w') (hX:¬X wr.heap.size)=>(by
        have b0:w'.heap[wr.heap.size]?=_:=(ht.block _ (by omega) hX).trans k1
        simp [World.cell?,b0]:w'.cell? ⟨wr.heap.size,0,none⟩=some (.int .i64 y.key)∧w'.cell? ⟨wr.heap.size,1,none⟩=some (.int .i64 y.is.c)∧w'.cell? ⟨wr.heap.size,2,none⟩=some (.int .i64 y.is.s)∧w'.cell? ⟨wr.heap.size,3,none⟩=some (.int .i64 y.is.mi)∧w'.cell? ⟨wr.heap.size,4,none⟩=some (.int .i64 y.is.ma)∧w'.cell? ⟨wr.heap.size,5,none⟩=some (.int .i64 y.is.t)∧w'.cell? ⟨wr.heap.size,6,none⟩=some (.int .i64 y.is.l))
       have ho1:OwnBytes W3.heap.size W1 (.slice so Q.length sc') Q:=by rw [hW1];exact ho.alloc _
       have hnb:(Value.slice so Q.length sc').ownBlock≠some wr.heap.size:=fun h=>by have:=(ho.lt _ h).2;omega
       obtain⟨q0,q1,q2,q3,q4,q5,q6⟩:=HYC.out W1 (fun _=>False) (Turn.refl _ _) (fun h=>h)
       obtain⟨Q1,hQ1⟩:∃Q1,Q++sevensL (y.key-last).toNat=Q1:=⟨_,rfl⟩
       obtain⟨Q2,hQ2⟩:∃Q2,Q1++sevensL y.is.c.toNat=Q2:=⟨_,rfl⟩
       have hl1':Q1.length≤541009:=by rw [←hQ1,List.length_append];have:=sevens_nine (n:=(y.key-last).toNat) (by omega);omega
       have hl2':Q2.length≤541018:=by rw [←hQ2,List.length_append];have:=sevens_nine (n:=y.is.c.toNat) (by omega);omega
       have hN1:=number_any (n:=y.key-last) ho1 hb1'.size (by omega) (by omega) (by omega)
       have hN2:∀w5 (v5:Value) (ho5:OwnBytes W3.heap.size w5 v5 Q1) (hz5:W3.heap.size≤w5.heap.size),Calls Tryd.prog 46 #[v5, .int .i64 y.is.c] w5 (BytesPost W3.heap.size w5 v5 (Q1++sevensL y.is.c.toNat)):=fun w5 v5 ho5 hz5=>number_any (n:=y.is.c) ho5 hz5 (by omega) (by omega) (by omega)
       rw [hQ1]at hN1
       rw [hQ2]at hN2
       have HN1:=Lib.hid hN1
       have HN2:=Lib.hid hN2
       have HQQ:=Lib.hid (show Q2=P1++(pre++(sevensL (y.key-last).toNat++sevensL y.is.c.toNat)) by rw [←hQ2,←hQ1,←HQ.out];simp)
       have HV1:=Lib.hid fun g hg=>(ho1.lt g hg).1
       have HNB:=Lib.hid hnb
       clear hec h5 hy hyl hyd hQ1 hQ2 hN1 hN2 hnb
       go_upto_region 20 with (fail)
       rw [←hW1]
       clear hW1 k1 ho y0 y1 y2 y3 y4 y5 y6
       go_upto_region 21 with ((go_at_call 46;(with_reducible refine HN1.out.mono ?_);intro e w5 h5;have hb5:=hb1'.trans (h5.below HV1.out hb1'.size);obtain⟨ht5,v5,rfl,ho5,hl5⟩:=h5;obtain⟨s5,c5,rfl⟩:=ho5.isSlice;have hz5:=hb5.size))
       have hnb5:(Value.slice s5 Q1.length c5).ownBlock≠some wr.heap.size:=fun h=>by
        rcases hl5 _ h with h'|h'
        ·exact HNB.out h'
        ·omega
       clear q0 q1 q2 q3 q4 q5 q6
       obtain⟨q0,q1,q2,q3,q4,q5,q6⟩:=HYC.out w5 _ ht5 HNB.out
       have hzz5:wr.heap.size<w5.heap.size:=by have:=ht5.size;omega
       have HNB5:=Lib.hid hnb5
       clear hnb5 hl5
       go_upto_region 23 with ((go_at_call 46;(with_reducible refine(HN2.out _ _ ho5 hz5).mono ?_);intro e w6 h6;have hb6:=hb5.trans (h6.below (fun g hg=>(ho5.lt g hg).1) hz5);obtain⟨ht6,v6,rfl,ho6,hl6⟩:=h6;obtain⟨s6,c6,rfl⟩:=ho6.isSlice;have hz6:=hb6.size))
       have ht56:Turn (fun x=>(Value.slice so Q.length sc').ownBlock=some x∨(Value.slice s5 Q1.length c5).ownBlock=some x) W1 w6:=
        (ht5.mono (fun i _ h=> .inl h)).trans' ht6 (fun i _ h=> .inr h)
       clear q0 q1 q2 q3 q4 q5 q6
       obtain⟨q0,q1,q2,q3,q4,q5,q6⟩:=HYC.out w6 _ ht56 (fun h=>h.elim HNB.out HNB5.out)
       obtain⟨Z,hZ⟩:∃Z,[y.is.s,y.is.mi,y.is.ma,y.is.l]=Z:=⟨_,rfl⟩
       have hZl:Z.length=4:=by rw [←hZ];rfl
       have HZB:=Lib.hid (show ∀n∈Z,-4611686018427387903≤n∧n<4611686018427387904 from fun n hn=>by rw [←hZ]at hn;simp at hn;omega)
       obtain⟨W7,hW7⟩:∃W7,W7=w6.alloc (.cells #[.int .i64 y.is.s, .int .i64 y.is.mi, .int .i64 y.is.ma, .int .i64 y.is.l] 3):=⟨_,rfl⟩
       have hb7:Below W3.heap.size W3 W7:=by rw [hW7];exact belowAuto
       have hz7:W7.heap.size=w6.heap.size+1:=by rw [hW7];simp
       have k7:W7.heap[w6.heap.size]?=some (.cells #[.int .i64 y.is.s, .int .i64 y.is.mi, .int .i64 y.is.ma, .int .i64 y.is.l] 3):=by rw [hW7];exact heap_new _ _ rfl
       have HZC:=Lib.hid fun(w':World) (X:Nat→Prop) (ht:Turn X W7 w') (hX:¬X w6.heap.size) (j:Nat) (hj:j<Z.length)=>(by
        have b0:w'.heap[w6.heap.size]?=_:=(ht.block _ (by omega) hX).trans k7
        subst hZ
        match j,hj with
        |0,_=>simp [World.cell?,b0]
        |1,_=>simp [World.cell?,b0]
        |2,_=>simp [World.cell?,b0]
        |3,_=>simp [World.cell?,b0]:w'.cell? ⟨w6.heap.size,j,none⟩=some (.int .i64 Z[j]))
       have ho7:OwnBytes W3.heap.size W7 (.slice s6 Q2.length c6) Q2:=by rw [hW7];exact ho6.alloc _
       have hnb6:(Value.slice s6 Q2.length c6).ownBlock≠some w6.heap.size:=fun h=>by have:=(ho6.lt _ h).2;omega
       have HNB6:=Lib.hid hnb6
       have HEL:=Lib.hid (show P1++(pre++entL last y)=Q2++Z.flatMap zigsL by rw [HQQ.out,←hZ];simp [entL])
       have HEN2:=Lib.hid (show entsL 0 l=(pre++entL last y)++entsL y.key (l.drop (k+1)) by rw [HPRE.out,HST.out];simp)
       have HV6:=Lib.hid fun g hg=>(ho7.lt g hg).1
       have HB7:=Lib.hid hb7
       clear hnb6 hZ ho6 ht6 hl6 hb6 ht56 ht5 ho5 hb5 HYC HN1 HN2 hzz5 hz5
       go_upto_region 24 with (fail)
       rw [←hW7]
       clear hW7 k7 q0 q1 q2 q3 q4 q5 q6
       go_loopg [7,94] 4 (fun g bv i wr2=>∃(j:Nat) (bs:List Int),j≤4∧g=4-j∧i = .int .i64 j∧OwnBytes W3.heap.size wr2 bv bs∧Hid (bs=Q2++(Z.take j).flatMap zigsL)∧bs.length≤541018+9*j∧Hid (Turn (fun x=>(Value.slice s6 Q2.length c6).ownBlock=some x) W7 wr2)∧Hid (∀x,bv.ownBlock=some x→(Value.slice s6 Q2.length c6).ownBlock=some x∨W7.heap.size≤x))
       case atStart=>exact⟨0,Q2,by omega,rfl,rfl,ho7,Lib.hid (by simp),by omega,Lib.hid (Turn.refl _ _),Lib.hid fun x hx=> .inl hx⟩
       case round=>
        obtain⟨j,bs,hj,rfl,rfl,hob,HBS,hbl,HTU,HLO⟩:=hrel
        obtain⟨so8,sc8,rfl⟩:=hob.isSlice
        have hbw:=HTU.out.below HB7.out (by have:=HB7.out.size;omega) (fun i hi=>HV6.out i hi)
        have hsz8:=hbw.size
        by_cases hj4:j<4
        ·have hjz:j<Z.length:=by omega
         have e0:=HZC.out wr _ HTU.out HNB6.out j hjz
         obtain⟨n,hn⟩:∃n,Z[j]=n:=⟨_,rfl⟩
         rw [hn]at e0
         obtain⟨n1,n2⟩:=HZB.out n (by rw [←hn];exact List.getElem_mem hjz)
         have hix:=fun w'=>idx_int (ab:=w6.heap.size) (aoff:=0) (n:=4) (cap:=4) (show (j:Int)=((j:Nat):Int) by rfl) hj4 w'
         simp only [Nat.zero_add]at hix
         obtain⟨bs2,hbs2⟩:∃bs2,bs++zigsL n=bs2:=⟨_,rfl⟩
         have hN8:=signed_any (n:=n) hob hsz8 n1 n2 (by omega)
         rw [hbs2]at hN8
         have HN8:=Lib.hid hN8
         have HB2':=Lib.hid (show bs2=Q2++(Z.take (j+1)).flatMap zigsL by
          rw [List.take_succ_eq_append_getElem hjz,List.flatMap_append,hn,←hbs2,HBS.out];simp)
         have hbl2:bs2.length≤541018+9*(j+1):=by rw [←hbs2,List.length_append];have:=zigs_len (n:=n) n1 n2;omega
         clear hn hbs2 hN8 hjz
         go_wp2_with ((go_at_call 47;(with_reducible refine HN8.out.mono ?_);rintro e w9 ⟨ht9,v9,rfl,ho9,hl9⟩;obtain⟨s9,c9,rfl⟩:=ho9.isSlice))
         go_roundg (4-(j+1))
         case measure=>omega
         case rel=>
          refine⟨j+1,bs2,by omega,rfl,by go_num,ho9,HB2',hbl2,Lib.hid (HTU.out.trans' ht9 fun i hi hx=>?_),Lib.hid fun x hx=>?_⟩
          ·rcases HLO.out i hx with h|h
           ·exact h
           ·omega
          ·rcases hl9 x hx with h|h
           ·exact HLO.out x h
           ·exact .inr (by have:=HTU.out.size;omega)
        ·have hj':j=4:=by omega
         have HFIN:=Lib.hid (show bs=P1++(pre++entL last y) by rw [HBS.out,HEL.out,List.take_of_length_le (by omega)])
         go_wp2
         go_roundg (l.length-(k+1))
         case measure=>omega
         case rel=>exact⟨k+1,y.key,pre++entL last y,by omega,rfl,by go_num,rfl,by rw [←HFIN.out];exact hob,HEN2,HNL,hbw⟩
      ·have hall:Q=bytesL b l:=by
        have h1:=HPRE.out
        rw [List.drop_eq_nil_of_le (by omega)]at h1
        have h2:entsL last []=[]:=by cases l <;> rfl
        rw [h2,List.append_nil]at h1
        rw [←HQ.out,←h1,HBY.out]
       have HALL:=Lib.hid hall
       have HBB:=Lib.hid (bytes_bytes b l)
       rw [←hall]at HBB
       have hsr:=sealXY_range Q
       obtain⟨p,hp⟩:∃p,sealXY Q=p:=⟨_,rfl⟩
       obtain⟨X,Y⟩:=p
       rw [hp]at hsr
       obtain⟨r1,r2,r3,r4⟩:=hsr
       simp only at r1 r2 r3 r4
       have hS:=sum_any (ho.at (by omega)) HBB.out
       rw [hp]at hS
       obtain⟨N,hN⟩:∃N,Y*65536+X=N:=⟨_,rfl⟩
       rw [show ((X,Y):Int×Int).2*65536+((X,Y):Int×Int).1=N from hN]at hS
       have HS:=Lib.hid hS
       have HSL:=Lib.hid (show sealL Q=[Y/256,Y%256,X/256,X%256] by simp [sealL,hp])
       have lw:IntKind.i64.wrap ((Q.length:Int)+4)=(Q.length:Int)+4:=IntWalk.i64_in _ (by omega)
       have u1:IntKind.u8.wrap (N/16777216)=Y/256:=by rw [IntKind.wrap_u8];omega
       have u2:IntKind.u8.wrap (N/65536)=Y%256:=by rw [IntKind.wrap_u8];omega
       have u3:IntKind.u8.wrap (N/256)=X/256:=by rw [IntKind.wrap_u8];omega
       have u4:IntKind.u8.wrap N=X%256:=by rw [IntKind.wrap_u8];omega
       have hbwr:=HB3.out _ hb
       obtain⟨A1,hA1⟩:∃A1,Y/256=A1:=⟨_,rfl⟩
       obtain⟨A2,hA2⟩:∃A2,Y%256=A2:=⟨_,rfl⟩
       obtain⟨A3,hA3⟩:∃A3,X/256=A3:=⟨_,rfl⟩
       obtain⟨A4,hA4⟩:∃A4,X%256=A4:=⟨_,rfl⟩
       rw [hA1]at u1 HSL
       rw [hA2]at u2 HSL
       rw [hA3]at u3 HSL
       rw [hA4]at u4 HSL
       have hql2:Q.length≤1000000:=by omega
       clear hall hp hS hN hA1 hA2 hA3 hA4 r1 r2 r3 r4
       by_cases hlong:200000<Q.length+4
       ·have hd:decide ((200000:Int)<(Q.length:Int)+4)=true:=by simp;omega
        have HR:=Lib.hid (encE_long HMAY.out HL.out HM.out (by rw [←HALL.out];exact hlong))
        clear hlong
        go_wp2_with ((go_at_call 39;(with_reducible refine HS.out.mono ?_);rintro e w9 ⟨rfl,hw9⟩;obtain rfl:=hw9.symm))
        go_ret2
        rw [HR.out.1,HR.out.2]
        exact⟨hbwr,_,rfl,OwnBytes.nil _ _⟩
       ·have hd:decide ((200000:Int)<(Q.length:Int)+4)=false:=by simp;omega
        have HR:=Lib.hid (encE_ok HMAY.out HL.out HM.out (by rw [←HALL.out];exact hlong))
        rw [←HALL.out,HSL.out]at HR
        clear hlong
        have hz9:w.heap.size≤W3.heap.size:=by have:=(HB3.out _ (Below.refl _ _)).size;omega
        have hV9:=Lib.hid fun g hg=>(ho.lt g hg).1
        go_wp2_with (first
         |(go_at_call 39;(with_reducible refine HS.out.mono ?_);rintro e w9 ⟨rfl,hw9⟩;obtain rfl:=hw9.symm)
         |(at_builtin;refine wpList_append_bytes rfl (.tmp 109) (.tmp 121) rfl W3.heap.size _ Q rfl (by repeat (first|assumption|with_reducible refine OwnBytes.alloc ?_ _|with_reducible refine OwnBytes.drewN ?_ _|with_reducible refine OwnBytes.drew ?_)) ⟨_,0,none⟩ 4 4 [A1,A2,A3,A4] rfl rfl (fun j u h=>byte_new (by simpa [enB] using h)) hql2 (by simp) (by first|omega|(simp;done)|(simp;omega)|(simp [drew_size];done)|(simp [drew_size];omega)) ?_;intro v9 w9 own9 ht9 _;have hb9:Below W3.heap.size W3 w9:=ht9.below (show Below W3.heap.size W3 _ from belowAuto) (by first|omega|(simp;done)|(simp;omega)|(simp [drew_size];done)|(simp [drew_size];omega)) (fun i hi=>hV9.out i hi)))
        go_ret2
        rw [HR.out.1,HR.out.2]
        exact⟨HB3.out _ hb9,_,rfl,own9.mono hz9⟩
end Go.Proofs.YtnjfkcimboidnaaDoor
