/- Texts of mine that come as one: FileP Bytes Enc Seal Encode. -/
import Derived.Test.YtmljjfhgciaceaaGreatDoorHd
import Derived.Test.YtmljjfhgciaceaaGreatDoorBK
import Derived.Laws.Bits128
import Derived.Lib.EndianBits
import Derived.Lib.AppendStr
import Derived.Laws.BytesArg
import Derived.Lib.SlBytesConst
import Derived.Maps.AppendAt
import Derived.Test.YtmljjfhgciaceaaGreatDoorSR
import Derived.Test.YtmljjfhgciaceaaGreatDoorPC
import Derived.Test.YtmljjfhgciaceaaGreatDoorPS
namespace Go.Proofs.YtmljjfhgciaceaaGreatDoor
section
variable {n:Nat}
def az (n:Nat):List Int:=if n<128 then [(n:Int)] else(128+(n%128:Nat):Int)::az (n/128)
termination_by n
theorem jE (h:n<128):az n=[(n:Int)]:=by rw [az,ar h]
theorem lV (h:¬n<128):az n=(128+(n%128:Nat):Int)::az (n/128):=by rw [az,ai h]
theorem yI:∀(k n:Nat),n<128 ^ (k+1)->(az n).length<=k+1
 |0,n,h=>by rw [jE (by simpa using h)];simp
 |k+1,n,h=>by
  by_cases hn:n<128
  ·rw [jE hn];simp
  ·rw [lV hn,fR]
   have:n/128<128 ^ (k+1):=by
    rw [Nat.div_lt_iff_lt_mul aY]
    rw [Nat.pow_succ]at h;exact h
   have:=yI k (n/128) this
   omega
theorem cd (h:n<9223372036854775808):(az n).length<=9:=yI 8 n (by simpa using h)
theorem sZ (n:Nat):0<(az n).length:=by
 rw [az];split <;> simp
theorem gX:∀(n:Nat),∀c∈az n,0<=c/\c<=255:=by
 intro n
 induction n using Nat.strongRecOn with
 |_ n ih=>
  by_cases hn:n<128
  ·rw [jE hn];intro c hc;simp at hc;omega
  ·rw [lV hn]
   intro c hc
   rcases eZ.1 hc with rfl|hc
   ·omega
   ·exact ih (n/128) af c hc
def dz (n:Int):List Int:=if n<0 then az (-2*n-1).toNat else az (2*n).toNat
def cL (ns:List ByteArray):List Int:=ns.flatMap fun s=>az s.size++nums s
def uR (last:Int) (e:aA):List Int:=az (e.key-last).toNat++az e.is.c.toNat++dz e.is.s++dz e.is.mi++dz e.is.ma++dz e.is.l
def dO:Int->List aA->List Int
 |_,[]=>[]
 |last,e::l=>uR last e++dO e.key l
def jl (b:Ba) (l:List aA):List Int:=[119,110]++az b.names.length++cL b.names++az b.floor.toNat++az l.length++dO 0 l
def lW (p:Int×Int) (c:Int):Int×Int:=((p.1+c)%65521,(p.2+(p.1+c)%65521)%65521)
def gq (bs:List Int):Int×Int:=bs.foldl lW (1,0)
def ki (bs:List Int):List Int:=[(gq bs).2/256,(gq bs).2%256,(gq bs).1/256,(gq bs).1%256]
noncomputable def AG (b:Ba):Int:=
 if aR b=false then 7 else match bX b with|none=>0|some l=>if 10000<l.length then 1 else if 200000<(jl b l).length+4 then 1 else 0
noncomputable def AF (b:Ba):List Int:=
 if aR b=false then []else match bX b with|none=>[]|some l=>if 10000<l.length then []else if 200000<(jl b l).length+4 then []else jl b l++ki (jl b l)
theorem FJ (bs:List Int):∀(p:Int×Int),(0<=p.1/\p.1<65521/\0<=p.2/\p.2<65521)->(0<=(bs.foldl lW p).1/\(bs.foldl lW p).1<65521/\0<=(bs.foldl lW p).2/\(bs.foldl lW p).2<65521):=by
 induction bs with
 |nil=>intro p hp;exact hp
 |cons c bs ih=>
  intro p hp
  rw [List.foldl_cons]
  refine ih _ ?_
  unfold lW
  simp only
  omega
theorem mL (bs:List Int):0<=(gq bs).1/\(gq bs).1<65521/\0<=(gq bs).2/\(gq bs).2<65521:=FJ bs (1,0) aY
theorem C4 {bs:List Int} {k:Nat} (hk:k<bs.length):gq (bs.take (k+1))=lW (gq (bs.take k)) bs[k]:=by
 unfold gq;rw [mf hk,List.foldl_append];rfl
def aP (l:List Int):Prop:=∀c∈l,0<=c/\c<=255
theorem aP.app {a b:List Int} (ha:aP a) (hb:aP b):aP (a++b):=fun c hc=>by
 rcases kH.1 hc with h|h
 ·exact ha c h
 ·exact hb c h
theorem pC (n:Int):aP (dz n):=by unfold dz;split <;> exact gX _
theorem FL (bs:List Int):aP (ki bs):=by
 have:=mL bs
 intro c hc
 simp [ki]at hc
 omega
theorem Ds (ns:List ByteArray):aP (cL ns):=fun c hc=>by
 obtain⟨s,_,hs⟩:=List.mem_flatMap.1 hc
 exact(aP.app (gX _) (yR s)) c hs
theorem zJ:∀(l:List aA) (last:Int),aP (dO last l)
 |[],_=>fun c hc=>by cases hc
 |e::l,last=>aP.app (((((aP.app (gX _) (gX _)).app (pC _)).app (pC _)).app (pC _)).app (pC _)) (zJ l e.key)
theorem xw (b:Ba) (l:List aA):aP (jl b l):=
 ((((aP.app (fun c hc=>by simp at hc;omega) (gX _)).app (Ds _)).app (gX _)).app (gX _)).app (zJ l 0)
theorem qI {n:Int} (h1 : -4611686018427387903<=n) (h2:n<4611686018427387904):(dz n).length<=9:=by
 unfold dz
 split
 ·exact cd af
 ·exact cd af
theorem rW:∀{ns:List ByteArray},(∀s∈ns,s.size<=10)->(cL ns).length<=19*ns.length
 |[],_=>by simp [cL]
 |s::ns,h=>by
  have h1:=h s bt
  have h2:=rW (ns:=ns) fun x hx=>h x (by simp [hx])
  have h3:=cd (n:=s.size) af
  have e:cL (s::ns)=(az s.size++nums s)++cL ns:=rfl
  rw [e,eO,eO,nums_length,fR]
  omega
theorem uQ:∀{l:List aA} {last:Int},dY l->0<=last->(dO last l).length<=54*l.length
 |[],_,_,_=>by simp [dO]
 |e::l,last,h,hl=>by
  obtain⟨g1,g2⟩:=h.2.1 e bt
  have hc:=h.1 e bt
  obtain⟨hg,hcc⟩:=cp hc.2 hc.1
  have hs:=rq hg hcc
  have h2:=uQ (l:=l) (last:=e.key) ⟨fun x hx=>h.1 x (by simp [hx]),fun x hx=>h.2.1 x (by simp [hx]),by have:=h.2.2;simp at this;omega⟩ g1
  obtain⟨k0,k1,k2,k3,k4,k5,k6,_⟩:=hg
  have a1:=cd (n:=(e.key-last).toNat) af
  have a2:=cd (n:=e.is.c.toNat) af
  have a3:=qI (n:=e.is.s) af af
  have a4:=qI (n:=e.is.mi) af af
  have a5:=qI (n:=e.is.ma) af af
  have a6:=qI (n:=e.is.l) af af
  simp only [dO,uR,eO,fR]
  omega
end
open Go.RowKit
section
set_option maxRecDepth 100000
set_option maxHeartbeats 1000000
variable {a:Act} {ops:Array Oper} {Q:Exit->Act->World->Prop} {n:Int} {es xs:List Int} {rest:List Oper} {B C:Nat} {o:Oper} {w w':World}
def xt (n:Int):List Value:=[.int .u8 n]
theorem Hc (n:Int):(xt n).length=1:=rfl
theorem I2 (xs:List Int):∀u∈xs.flatMap xt,u.oneCell'=true:=by
 intro u hu
 obtain⟨x,_,hx⟩:=List.mem_flatMap.1 hu
 simp [xt]at hx
 subst hx;rfl
theorem ED (xs:List Int):xs.flatMap xt=xs.map (Value.int .u8):=by
 induction xs with
 |nil=>rfl
 |cons x xs ih=>rw [gI,ih];rfl
theorem mA (xs:List Int):(xs.flatMap xt).length=xs.length:=by rw [ED,po]
abbrev fF (w:World) (v:Value) (xs:List Int):Prop:=dN 1 1 xt w v xs
theorem Tryz.QW:(Tryz.prog.info? 5).map (fun i=>(i.zero.map (fun z=>z.cells.size),i.size,i.bytes))=some (some 1,1,1):=cv
theorem Tryz.VJ:(Tryz.prog.info? 5).map (fun i=>(i.zero,i.size,i.bytes))=some (some (.int .u8 0),1,1):=cv
structure aC (B:Nat) (w:World) (v:Value) (es:List Int):Prop where
 row:w.ownsRow B 5 1 v es.length (es.flatMap xt)
theorem aC.nil (B:Nat) (w:World):aC B w (.slice none 0 0) []:=⟨World.ownsRow_nil _ _ _ _⟩
theorem aC.alloc {v:Value} (h:aC B w v es) (o:Obj):aC B (w.alloc o) v es:=⟨World.ownsRow.alloc h.row o⟩
theorem aC.block {v:Value} (h:aC B w v es) (hb:∀g,v.ownBlock=some g->w'.heap[g]?=w.heap[g]?):aC B w' v es:=by
 obtain⟨hl,⟨rfl,h0⟩|⟨g,cap,cur,rfl,hB,hg,h1,h2,h3,h4⟩⟩:=h.row
 ·exact⟨⟨hl, .inl ⟨rfl,h0⟩⟩⟩
 ·exact⟨⟨hl, .inr ⟨g,cap,cur,rfl,hB,(hb g rfl).trans hg,h1,h2,h3,h4⟩⟩⟩
theorem aC.drew {v:Value} (h:aC B w v es):aC B w.drew v es:=h.block fun _ _=>rfl
theorem aC.drewN {v:Value} (h:aC B w v es) (n:Nat):aC B (w.drewN n) v es:=h.block fun _ _=>rfl
theorem aC.lt {v:Value} (h:aC B w v es):∀g,v.ownBlock=some g->B<=g/\g<w.heap.size:=World.ownsRow.lt h.row
theorem aC.below {v:Value} (h:aC B w v es) (hb:Below C w w') (hC:w.heap.size<=C):aC B w' v es:=h.block fun g hg=>hb.block g (by have:=(h.lt g hg).2;omega)
theorem aC.mono {v:Value} (h:aC B w v es) (hC:C<=B):aC C w v es:=by
 obtain⟨hl,⟨rfl,h0⟩|⟨g,cap,cur,rfl,hB,hg,h1,h2,h3,h4⟩⟩:=h.row
 ·exact⟨⟨hl, .inl ⟨rfl,h0⟩⟩⟩
 ·exact⟨⟨hl, .inr ⟨g,cap,cur,rfl,af,hg,h1,h2,h3,h4⟩⟩⟩
theorem aC.at {v:Value} (h:aC B w v es) (hs:es.length<=1000000):fF w v es:=dN.owned Hc h.row rfl af
theorem aC.isSlice {v:Value} (h:aC B w v es):∃ao cap,v = .slice ao es.length cap:=by
 obtain⟨hl,⟨rfl,h0⟩|⟨g,cap,cur,rfl,_⟩⟩:=h.row
 ·exact⟨none,0,by rw [h0]⟩
 ·exact⟨_,_,rfl⟩
theorem jh (hgd:o.guard=none) (s x:Operand)
  (ho:o.op = .call { callee:= .builtin .append,args:=#[s,x],argTypes:=#[61,61] }) (B:Nat) (v:Value) (es:List Int) (hs:a.eval s=v) (hown:aC B w v es)
  (ad:Addr) (m c:Nat) (ys:List Int) (hm:m=ys.length) (hx:a.eval x = .slice (some ad) m c) (hnews:∀j u,(ys.flatMap xt)[j]?=some u->w.cell? (ad.add j)=some u) (hlen:es.length<=1000000) (Ra:ys.length<=1000000) (hbase:B<=w.heap.size)
  (h:∀v' w',aC B w' v' (es++ys)->aw (fun b=>v.ownBlock=some b) w w'->(∀b,v'.ownBlock=some b->v.ownBlock=some b\/w.heap.size<=b)->wpList Tryz.prog ops Q rest (a.put o.dst v') w'):wpList Tryz.prog ops Q (o::rest) a w:=by
 subst hm
 obtain⟨i0,z,hi,hz,hz1,hz2,hz3⟩:=cG Tryz.QW
 refine wpList_append_own_at w hgd s x 61 ho B 5 i0 z 1 1 Tryz.underlying61 hi hz hz1 hz2 hz3 aY v es.length _ hs hown.row ad ys.length c (ys.flatMap xt) hx (by rw [mA];omega) hnews (I2 ys) (by unfold maxLen;omega) af hbase ?_
 intro v' w' hown' hg _ hloc
 refine h v' w' ?_ (aw.grown (aw.refl _ _) hg (fun k hk=> .inl hk)) (fun b hb=>by
  rcases hloc with h|h
  ·exact .inl (h.symm.trans hb)
  ·rw [hb]at h;injection h with h;exact .inr af)
 have:(es++ys).flatMap xt=es.flatMap xt++ys.flatMap xt:=bt
 refine⟨?_⟩
 rw [this,eO]
 exact hown'
theorem Al (s:ByteArray):Lib.strCells s=(nums s).flatMap xt:=by
 rw [ED];simp [Lib.strCells,nums]
theorem ua (hgd:o.guard=none) (s x:Operand)
  (ho:o.op = .call { callee:= .builtin .append,args:=#[s,x],argTypes:=#[61,9] }) (B:Nat) (v:Value) (es:List Int) (hs:a.eval s=v) (hown:aC B w v es)
  (st:ByteArray) (hx:a.eval x = .string st) (hlen:es.length<=1000000) (Ra:st.size<=1000000) (hbase:B<=w.heap.size)
  (h:∀v' w',aC B w' v' (es++nums st)->(∀C W,Below C W w->C<=B->Below C W w')->wpList Tryz.prog ops Q rest (a.put o.dst v') w'):wpList Tryz.prog ops Q (o::rest) a w:=by
 obtain⟨i0,hi,hz,hz1,hz2⟩:∃i0,Tryz.prog.info? 5=some i0/\i0.zero=some (.int .u8 0)/\i0.size=1/\i0.bytes=1:=by
  have:=Tryz.VJ
  cases h:Tryz.prog.info? 5 with
  |none=>rw [h]at this;cases this
  |some i=>rw [h]at this;simp at this;exact⟨i,rfl,this.1,this.2.1,this.2.2⟩
 refine Lib.wpList_append_own_string w hgd s x 61 9 ho B 5 i0 Tryz.underlying61 Tryz.underlying9 hi hz hz1 hz2 v es.length _ hs hown.row st hx (by unfold maxLen;omega) af hbase ?_
 intro v' w' hown' hg _
 refine h v' w' ?_ fun C W hb hC=>Below.grown hb hg af (fun j hj=>by have:=(hown.lt j hj).1;omega)
 refine⟨?_⟩
 rw [sF,eO,nums_length,<-Al]
 exact hown'
theorem uY {C:Array Value} {T:TypeId} {j:Nat} {u:Value} (h:C[j]?=some u):(w.alloc (.cells C T)).cell? (Addr.add ⟨w.heap.size,0,none⟩ j)=some u:=by
 have ha:Addr.add ⟨w.heap.size,0,none⟩ j=⟨w.heap.size,j,none⟩:=by simp [Addr.add];omega
 have hk:(w.alloc (.cells C T)).heap[w.heap.size]?=some (.cells C T):=by show (w.heap.push _)[w.heap.size]?=_;simp
 rw [ha];simp only [World.cell?,hk];exact h
theorem JV (n:Int):bits .or .i64 (n%128) 128=128+n%128:=by
 rw [bits_join_low .i64 63 aY (fun n h0 h1=>IntWalk.i64_in _ af) 7 (n%128) 128 af af af af af af];omega
theorem BN (h0:0<=n) (h1:n<=255):IntKind.u8.wrap n=n:=by
 rw [IntKind.wrap_u8];omega
def jY (B:Nat) (w:World) (v:Value) (xs:List Int) (e:Ending) (w':World):Prop:=
 aw (fun b=>v.ownBlock=some b) w w'/\∃v',e = .returned v'/\aC B w' v' xs/\∀b,v'.ownBlock=some b->v.ownBlock=some b\/w.heap.size<=b
theorem jG {v:Value} (hown:aC B w v xs) (hB:B<=w.heap.size) (hn:0<=n) (tW:n<9223372036854775808) (hlen:xs.length<=990000) :
  Calls Tryz.prog 80 #[v, .int .i64 n] w (jY B w v (xs++az n.toNat)):=by
 obtain⟨ao,cap,rfl⟩:=hown.isSlice
 obtain⟨m,rfl⟩:=Int.eq_ofNat_of_zero_le hn
 have HT:=hdd (show (xs++az m).length<=990009 by rw [eO];have:=cd (n:=m) af;omega)
 go_enter Tryz.func80,Tryz.ntmps80
 go_wp2_with fail
 go_loopg [0,1] m (fun g bv nv wr=>∃(k:Nat) (ys:List Int),g=k/\nv = .int .i64 k/\k<9223372036854775808/\aC B wr bv ys/\Hid (ys++az k=xs++az m)/\Hid (aw (fun b=>(Value.slice ao xs.length cap).ownBlock=some b) w wr)/\Hid (∀b,bv.ownBlock=some b->(Value.slice ao xs.length cap).ownBlock=some b\/w.heap.size<=b))
 case atStart=>exact⟨m,xs,rfl,rfl,af,hown,hdd rfl,hdd (aw.refl _ _),hdd fun b hb=> .inl hb⟩
 case round=>
  obtain⟨k,ys,Fa,rfl,hk,ho,HY,KI,Fj⟩:=hrel
  obtain rfl:=Fa.symm
  obtain⟨so,sc,rfl⟩:=ho.isSlice
  have hsz:B<=wr.heap.size:=im hB KI.out.size
  have CN:ys.length<=1000000:=by
   have h1:=HT.out
   rw [<-HY.out,eO]at h1
   omega
  have hsl:(1:Nat)<=1000000:=af
  have HTT:=hdd fun w2 (w3:World) (ht:aw (fun b=>(Value.slice so ys.length sc).ownBlock=some b) w2 w3) (h2:ah wr w2)=>(aw.trans' (aw.trans' KI.out (aw.of (X:=fun _=>False) h2 aI) (fun _ _ h=>h.elim)) ht (fun i hi hx=>by
   rcases Fj.out i hx with h|h
   ·exact h
   ·omega):aw (fun b=>(Value.slice ao xs.length cap).ownBlock=some b) w w3)
  have ZF:=hdd fun(w2:World) (v3:Value) (h2:wr.heap.size<=w2.heap.size) (hl:∀b,v3.ownBlock=some b->(Value.slice so ys.length sc).ownBlock=some b\/w2.heap.size<=b)=>(fun b hb=>by
   have:=KI.out.size
   rcases hl b hb with h|h
   ·exact Fj.out b h
   ·exact .inr af:∀b,v3.ownBlock=some b->(Value.slice ao xs.length cap).ownBlock=some b\/w.heap.size<=b)
  by_cases hlt:k<128
  ·have hd:decide ((127:Int)<(k:Int))=false:=by simp;omega
   have HE:=hdd (show ys++[(k:Int)]=xs++az m by rw [<-HY.out,jE hlt])
   have hw:IntKind.u8.wrap (k:Int)=(k:Int):=BN af af
   clear hlt
   go_wp2_with ((at_builtin;refine jh rfl (.tmp 16) (.tmp 19) rfl B _ ys rfl (by repeat (first|assumption|with_reducible refine aC.alloc ?_ _|with_reducible refine aC.drewN ?_ _|with_reducible refine aC.drew ?_)) ⟨_,0,none⟩ 1 1 [(k:Int)] rfl rfl (fun j u h=>uY (by simpa [xt] using h)) CN hsl (by first|omega|(simp;done)|(simp;omega)|(simp [aN];done)|(simp [aN];omega)) ?_;intro v3 w3 uu Ox P4;have hb3:=HTT.out _ _ Ox ag;have hq3:=ZF.out _ _ (by first|omega|(simp;done)|(simp;omega)|(simp [aN];done)|(simp [aN];omega)) P4))
   go_ret
   rw [HE.out]at uu
   exact⟨hb3,_,rfl,uu,hq3⟩
  ·have hd:decide ((127:Int)<(k:Int))=true:=by simp;omega
   have HE:=hdd (show (ys++[128+(k:Int)%128])++az (k/128)=xs++az m by
    rw [<-HY.out,lV hlt,jn];simp)
   have a1:=i64_and127 (k:Int)
   have a2:=JV (k:Int)
   have hw:IntKind.u8.wrap (128+(k:Int)%128)=128+(k:Int)%128:=BN af af
   clear hlt
   go_wp2_with ((at_builtin;refine jh rfl (.tmp 7) (.tmp 12) rfl B _ ys rfl (by repeat (first|assumption|with_reducible refine aC.alloc ?_ _|with_reducible refine aC.drewN ?_ _|with_reducible refine aC.drew ?_)) ⟨_,0,none⟩ 1 1 [128+(k:Int)%128] rfl rfl (fun j u h=>uY (by simpa [xt] using h)) CN hsl (by first|omega|(simp;done)|(simp;omega)|(simp [aN];done)|(simp [aN];omega)) ?_;intro v3 w3 uu Ox P4;have hb3:=HTT.out _ _ Ox ag;have hq3:=ZF.out _ _ (by first|omega|(simp;done)|(simp;omega)|(simp [aN];done)|(simp [aN];omega)) P4))
   go_roundg (k/128)
   case measure=>have:=iY hd;omega
   case rel=>exact⟨k/128,ys++[128+(k:Int)%128],rfl,int_eq af,af,uu,HE,hdd hb3,hdd hq3⟩
theorem jY.below {v:Value} {e:Ending} (h:jY B w v xs e w') (hv:∀b,v.ownBlock=some b->B<=b) (hB:B<=w.heap.size):Below B w w':=h.1.below (aL _ _) hB (fun i hi=>hv i hi)
end
section
set_option maxRecDepth 100000
set_option maxHeartbeats 1000000
variable {xs:List Int} {B n g:Nat} {w:World}
theorem aC.made {C:Array Value} {ys:List Int} (hC:C.toList=ys.flatMap xt) (hn:n=ys.length) (hl:ys.length<=1000000) (hB:B<=w.heap.size):aC B (w.alloc (.cells C 5)) (.slice (some ⟨w.heap.size,0,none⟩) n n) ys:=by
 subst hn
 have hs:C.size=ys.length:=by
  have:=congrArg List.length hC
  rw [mA]at this;simpa using this
 refine⟨⟨by rw [mA];omega, .inr ⟨w.heap.size,ys.length,C,rfl,hB,?_,kT _,by unfold maxLen;omega,af,?_⟩⟩⟩
 ·show (w.heap.push _)[w.heap.size]?=_;simp
 ·rw [kI (by simp;omega)];exact hC
theorem aC.cells {cap:Nat} (h:aC B w (.slice (some ⟨g,0,none⟩) n cap) xs) (hl:0<xs.length):∀j u,(xs.flatMap xt)[j]?=some u->w.cell? (Addr.add ⟨g,0,none⟩ j)=some u:=by
 obtain⟨_,⟨hv,h0⟩|⟨g',cap',cur,hv,_,hg,_,_,_,h4⟩⟩:=h.row
 ·omega
 ·injection hv with hv1 _ _
  injection hv1 with hv1
  injection hv1 with hv1 _
  subst hv1
  intro j u hj
  rw [<-h4,qE]at hj
  split at hj
  ·have ha:Addr.add ⟨g,0,none⟩ j=⟨g,j,none⟩:=by simp [Addr.add];omega
   rw [ha];simp only [World.cell?,hg];simpa using hj
  ·cases hj
theorem aC.form {v:Value} (h:aC B w v xs) (hl:0<xs.length):∃g cap,v = .slice (some ⟨g,0,none⟩) xs.length cap:=Joins.ownsRow_form h.row hl
theorem FY (n:Nat) (hn:n<128) (hg:w.heap[g]?=some (.cells #[.int .u8 119, .int .u8 110] 5 (2,3))) :
  Calls Tryz.prog 80 #[.slice (some ⟨g,0,none⟩) 2 2, .int .i64 n] w fun e w'=>ah w w'/\∃v',e = .returned v'/\aC w.heap.size w' v' ([119,110]++az n):=by
 obtain⟨i0,z,hi,hz,hz1,hz2,hz3⟩:=cG Tryz.QW
 have Vk:g<w.heap.size:=(eP.1 hg).1
 have hcell:∀w',ah w w'->∀b,(some ⟨g,0,none⟩:Option Addr)=some b->∀j u,([119,110].flatMap xt)[j]?=some u->w'.cell? (b.add j)=some u:=fun w' hb b TC j u hj=>by
  injection TC with TC
  subst TC
  have ha:Addr.add ⟨g,0,none⟩ j=⟨g,j,none⟩:=by simp [Addr.add];omega
  have h1:w'.heap[g]?=_:=(hb.block _ Vk).trans hg
  rw [ha];simp only [World.cell?,h1];simpa [xt] using hj
 have HC:=hdd hcell
 have HE:=hdd (jE hn)
 have hd:decide ((127:Int)<(n:Int))=false:=by simp;omega
 have hw:IntKind.u8.wrap (n:Int)=(n:Int):=BN af af
 clear hcell hn
 go_enter Tryz.func80,Tryz.ntmps80
 go_wp2_with fail
 go_loopg [0,1] 0 (fun g' bv nv wr=>bv = .slice (some ⟨g,0,none⟩) 2 2/\nv = .int .i64 n/\wr=w)
 case atStart=>exact⟨rfl,rfl,rfl⟩
 case round=>
  obtain⟨rfl,rfl,hwr⟩:=hrel
  obtain rfl:=hwr.symm
  go_wp2_with ((at_builtin;refine wpList_append_grows _ rfl (.tmp 16) (.tmp 19) 61 rfl 5 i0 z 1 1 Tryz.underlying61 hi hz hz1 hz2 hz3 aY (some ⟨g,0,none⟩) 2 2 ([119,110].flatMap xt) rfl (fun h=>by cases h) rfl (HC.out _ ag) ⟨_,0,none⟩ 1 1 ([(n:Int)].flatMap xt) rfl rfl (fun j u h=>uY (by simpa [xt] using h)) (I2 _) af (by unfold maxLen;omega) af ?_;intro v3 w3 uu hg3;have hb3:ah w w3:=Below.grown (show ah w _ from ag) hg3 (by first|omega|(simp;done)|(simp;omega)|(simp [aN];done)|(simp [aN];omega)) (fun k hk=>by cases hk)))
  go_ret
  refine⟨hb3,_,rfl,?_⟩
  rw [HE.out]
  refine⟨?_⟩
  have:=Joins.ownsRow_le uu (show w.heap.size<=_ from (by first|omega|(simp;done)|(simp;omega)|(simp [aN];done)|(simp [aN];omega)))
  simpa [xt] using this
theorem FC {v:Value} {n:Int} (hown:aC B w v xs) (hB:B<=w.heap.size) (hn : -4611686018427387903<=n) (tW:n<4611686018427387904) (hlen:xs.length<=990000) :
  Calls Tryz.prog 81 #[v, .int .i64 n] w (jY B w v (xs++dz n)):=by
 obtain⟨ao,cap,rfl⟩:=hown.isSlice
 by_cases hlt:n<0
 ·have hd:decide (n<0)=true:=by simp [hlt]
  have m1:IntKind.i64.wrap (-2*n) = -2*n:=IntWalk.i64_in _ af
  have m2:IntKind.i64.wrap (-2*n-1) = -2*n-1:=IntWalk.i64_in _ af
  have HN:=hdd (jG (n:=-2*n-1) hown hB af af hlen)
  have HE:=hdd (show dz n=az (-2*n-1).toNat by unfold dz;rw [ar hlt])
  clear hlt hn tW
  go_enter Tryz.func81,Tryz.ntmps81
  go_wp2_with ((go_at_call 80;(with_reducible refine HN.out.mono ?_);rintro e w3 ⟨hb3,v3,rfl,kW,P4⟩))
  go_ret
  rw [HE.out]
  exact⟨hb3,_,rfl,kW,P4⟩
 ·have hd:decide (n<0)=false:=by simp;omega
  have m1:IntKind.i64.wrap (2*n)=2*n:=IntWalk.i64_in _ af
  have HN:=hdd (jG (n:=2*n) hown hB af af hlen)
  have HE:=hdd (show dz n=az (2*n).toNat by unfold dz;rw [ai hlt])
  clear hlt hn tW
  go_enter Tryz.func81,Tryz.ntmps81
  go_wp2_with ((go_at_call 80;(with_reducible refine HN.out.mono ?_);rintro e w3 ⟨hb3,v3,rfl,kW,P4⟩))
  go_ret
  rw [HE.out]
  exact⟨hb3,_,rfl,kW,P4⟩
end
section
set_option maxRecDepth 100000
set_option maxHeartbeats 1000000
variable {xs:List Int} {w:World}
theorem mV {ab bp n cap j:Nat} {i:Int} (h:i=j) (hj:j<n) (w:World):(Instr.indexAt 61 (.slice (some ⟨ab,bp,none⟩) n cap) (.int .i64 i)).run Tryz.prog w = .ok (.pointer (some ⟨ab,bp+j,none⟩)) w:=by
 subst h
 go_simp
theorem l9 {b off k:Nat} (h:∀i x,xs[i]?=some x->∀j u,(xt x)[j]?=some u->w.cell? ⟨b,off+i*1+j,none⟩=some u) (hk:k<xs.length):w.cell? ⟨b,off+k,none⟩=some (.int .u8 xs[k]):=by
 have:=h k xs[k] (by simp [hk]) 0 _ rfl
 simpa using this
theorem Jr {x y:Int} (h0:0<=x) (h1:x<65536) (h2:0<=y) (h3:y<65536):bits .or .i64 (y*65536) x=y*65536+x:=by
 rw [bits_join .i64 63 aY (fun n h0 h1=>IntWalk.i64_in _ af) 16 (y*65536) x af af af h0 af af]
theorem Io {v:Value} (h:fF w v xs) (hx:aP xs) :
  Calls Tryz.prog 82 #[v] w fun e w'=>e = .returned (.int .i64 ((gq xs).2*65536+(gq xs).1))/\w'=w:=by
 obtain⟨ao,cap,rfl,a1,a2,a3,a4,a5⟩:=h
 have HX:=hdd hx
 clear hx
 go_enter Tryz.func82,Tryz.ntmps82
 go_wp2_with fail
 go_loopg [3,4,9] xs.length (fun g xv yv i wr=>∃(k:Nat) (x y:Int),k<=xs.length/\g=xs.length-k/\i = .int .i64 k/\xv = .int .i64 x/\yv = .int .i64 y/\Hid (gq (xs.take k)=(x,y))/\wr=w)
 case atStart=>exact⟨0,1,0,jf _,rfl,rfl,rfl,rfl,hdd rfl,rfl⟩
 case round=>
  obtain⟨k,x,y,hk,rfl,rfl,rfl,rfl,HS,hwr⟩:=hrel
  obtain rfl:=hwr.symm
  have hr:=mL (xs.take k)
  rw [HS.out]at hr
  obtain⟨r1,r2,r3,r4⟩:=hr
  simp only at r1 r2 r3 r4
  by_cases hlt:k<xs.length
  ·obtain⟨ab,bp,rfl,xD,ac⟩:=a5 af
   have e0:=l9 ac hlt
   obtain⟨c,hc⟩:=bC (xs[k])
   rw [hc]at e0
   have hcr:=HX.out c (by rw [<-hc];exact gj hlt)
   obtain⟨X,hX⟩:=bC ((x+c)%65521)
   obtain⟨Y,hY⟩:=bC ((y+X)%65521)
   have HN:=hdd (show gq (xs.take (k+1))=(X,Y) by rw [C4 hlt,HS.out,hc];simp [lW,hX,hY])
   have lA:=fun w'=>mV (ab:=ab) (bp:=bp) (n:=xs.length) (cap:=cap) (show (k:Int)=((k:Nat):Int) by rfl) hlt w'
   have c1:IntKind.i64.wrap c=c:=IntWalk.i64_in _ af
   have c2:IntKind.i64.wrap (x+c)=x+c:=IntWalk.i64_in _ af
   have c3:(x+c).tmod 65521=X:=by rw [xR af];exact hX
   have c4:IntKind.i64.wrap X=X:=IntWalk.i64_in _ af
   have c5:IntKind.i64.wrap (y+X)=y+X:=IntWalk.i64_in _ af
   have c6:(y+X).tmod 65521=Y:=by rw [xR af];exact hY
   have c7:IntKind.i64.wrap Y=Y:=IntWalk.i64_in _ af
   clear ac a5 hc hX hY
   go_wp2
   go_roundg (xs.length-(k+1))
   case measure=>omega
   case rel=>exact⟨k+1,X,Y,af,rfl,by go_num,rfl,rfl,HN,rfl⟩
  ·have HE:=hdd (show gq xs=(x,y) by rw [<-HS.out,kI af])
   have c1:IntKind.i64.wrap (y*65536)=y*65536:=IntWalk.i64_in _ af
   have c2:IntKind.i64.wrap (y*2 ^ 16)=y*65536:=c1
   have c3:=Jr (x:=x) (y:=y) r1 af r3 af
   go_wp2
   go_ret
   rw [HE.out]
   exact⟨rfl,rfl⟩
end
section
set_option maxRecDepth 100000
set_option maxHeartbeats 8000000
variable {b:Ba} {l:List aA} {k:Nat}
def QK (B:Nat) (w:World) (bs:List Int) (E:Int) (e:Ending) (w':World):Prop:=Below B w w'/\∃v,e = .returned (.tuple #[v, .int .i64 E])/\aC B w' v bs
theorem Dt {ns:List ByteArray} (hk:k<ns.length):cL (ns.take (k+1))=cL (ns.take k)++(az ns[k].size++nums ns[k]):=by
 unfold cL;rw [mf hk,sF,List.flatMap_singleton]
theorem G8 {last:Int} (hk:k<l.length):dO last (l.drop k)=uR last l[k]++dO l[k].key (l.drop (k+1)):=by
 rw [vh hk];rfl
theorem Nq (h:aR b=false):AG b=7/\AF b=[]:=by unfold AG AF;rw [ar h,ar h];exact⟨rfl,rfl⟩
theorem Kg (h:aR b=true) (hl:bX b=some l) (h2:10000<l.length):AG b=1/\AF b=[]:=by
 unfold AG AF;rw [ai (by rw [h];decide),ai (by rw [h];decide),hl];simp only;rw [ar h2,ar h2];exact⟨rfl,rfl⟩
theorem Kh (h:aR b=true) (hl:bX b=some l) (h2:¬10000<l.length) (h3:200000<(jl b l).length+4):AG b=1/\AF b=[]:=by
 unfold AG AF;rw [ai (by rw [h];decide),ai (by rw [h];decide),hl];simp only;rw [ai h2,ai h2,ar h3,ar h3];exact⟨rfl,rfl⟩
theorem I1 (h:aR b=true) (hl:bX b=some l) (h2:¬10000<l.length) (h3:¬200000<(jl b l).length+4):AG b=0/\AF b=jl b l++ki (jl b l):=by
 unfold AG AF;rw [ai (by rw [h];decide),ai (by rw [h];decide),hl];simp only;rw [ai h2,ai h2,ai h3,ai h3];exact⟨rfl,rfl⟩
theorem F8 (h:aR b=true) (hk:k<b.names.length):b.names[k].size<=10:=by
 have:=((dK h).names k hk).1
 simp [dG]at this
 omega
theorem nS (h:aR b=true):∀s∈b.names,s.size<=10:=fun s hs=>by
 obtain⟨k,hk,rfl⟩:=kS hs
 exact F8 h hk
theorem Hb {v:Value} {w:World} (h:bQ w v b) (hst:∀s∈b.names,s.size<=140737488351232) (hsz:bS w) :
  Calls Tryz.prog 39 #[v] w (QK w.heap.size w (AF b) (AG b)):=by
 have iC:=hdd fun w' (hb:ah w w')=>fH (h.below hb) hst (hsz.below hb)
 obtain⟨sa,sc,g0,l0,p0,g1,l1,p1,g2,l2,p2,rfl,hn,jk,T0,T1,T2⟩:=h.open
 obtain⟨W0,hW0⟩:=bR (w.alloc (.cells (aJ sa b.names.length sc g0 l0 p0 g1 l1 p1 g2 l2 p2 b) 30))
 have hb0:ah w W0:=by rw [hW0];exact ag
 have hz0:W0.heap.size=w.heap.size+1:=by rw [hW0];simp
 have k0:W0.heap[w.heap.size]?=some (.cells (aJ sa b.names.length sc g0 l0 p0 g1 l1 p1 g2 l2 p2 b) 30):=by rw [hW0];exact aq _ _ rfl
 have HX:=hdd fun w' (hb:ah W0 w')=>(by
  have b0:w'.heap[w.heap.size]?=_:=(hb.block _ af).trans k0
  simp [World.cell?,b0] :
  w'.cell? ⟨w.heap.size,0,none⟩=some (.slice sa b.names.length sc)/\w'.cell? ⟨w.heap.size,1,none⟩=some (.slice g0 l0 p0)/\w'.cell? ⟨w.heap.size,2,none⟩=some (.int .i64 b.t0.root)/\w'.cell? ⟨w.heap.size,3,none⟩=some (.slice g1 l1 p1)/\w'.cell? ⟨w.heap.size,4,none⟩=some (.int .i64 b.t1.root)/\w'.cell? ⟨w.heap.size,5,none⟩=some (.slice g2 l2 p2)/\w'.cell? ⟨w.heap.size,6,none⟩=some (.int .i64 b.t2.root)/\w'.cell? ⟨w.heap.size,7,none⟩=some (.int .i64 b.floor))
 have HB:=hdd fun w' (hb:ah W0 w')=>(Below.trans' hb0 hb hb0.size:ah w w')
 obtain⟨x0,x1,x2,x3,x4,x5,x6,x7⟩:=HX.out W0 (aL _ _)
 have K4:=hdd fun w' (hb:ah W0 w')=>(iJ (lo:=0) (hi:=1099511627776) (T0 w' (HB.out w' hb))).mono fun e w' hp=>nX.allT hp
 have X4:=hdd jk
 clear h hst hsz jk T0 T1 T2
 go_enter Tryz.func39,Tryz.ntmps39
 go_upto_region 1 with (fail)
 rw [<-hW0]
 clear hW0 k0
 cases qA:aR b with
 |false=>
  have hc:kE b=7:=cS qA
  have HR:=hdd (Nq qA)
  rw [hc]at iC
  clear hc qA
  go_wp2_with ((go_at_call 66;(with_reducible refine(iC.out _ hb0).mono ?_);rintro e w1 ⟨rfl,hb1⟩))
  go_ret2
  rw [HR.out.1,HR.out.2]
  exact⟨HB.out _ hb1,_,rfl,aC.nil _ _⟩
 |true=>
  have hc:kE b=0:=dW qA
  rw [hc]at iC
  obtain⟨l,hl,hrise,hg,-⟩:=iW qA
  have hal:=(lC hl).1
  rw [hal]at K4
  have CH:=hdd qA
  have HL:=hdd hl
  have HRI:=hdd hrise
  have HG:=hdd hg
  have hll:l.length<=50000:=hg.2.2
  clear hc qA hl hrise hg hal
  go_upto_region 7 with (first|(go_at_call 66;(with_reducible refine(iC.out _ hb0).mono ?_);rintro e w1 ⟨rfl,hb1⟩;obtain⟨x0,x1,x2,x3,x4,x5,x6,x7⟩:=HX.out _ hb1)|(go_at_call 74;(with_reducible refine(K4.out _ hb1).mono ?_);rintro e w2 ⟨hb2,v2,rfl,Ay⟩;have tF:=Below.trans' hb1 hb2 hb1.size;obtain⟨s2,c2,rfl⟩:=Ay.isSlice))
  have abv:=HB.out _ tF
  by_cases hm:10000<l.length
  ·have WK:decide ((10000:Int)<(l.length:Int))=true:=by simp;omega
   have HR:=hdd (Kg CH.out HL.out hm)
   clear hm
   go_wp2
   go_ret2
   rw [HR.out.1,HR.out.2]
   exact⟨abv,_,rfl,aC.nil _ _⟩
  ·have WK:decide ((10000:Int)<(l.length:Int))=false:=by simp;omega
   have HM:=hdd hm
   have RU:=hdd (Ay.at af)
   have UG:=hdd (dK CH.out).n16
   have Yr:=hdd (aO (dK CH.out).Zh (dK CH.out).XR)
   have HNS:=hdd (nS CH.out)
   clear hm Ay x0 x1 x2 x3 x4 x5 x6 x7
   obtain⟨x0,x1,x2,x3,x4,x5,x6,x7⟩:=HX.out _ tF
   go_upto_region 9 with (fail)
   clear WK
   obtain⟨W3,hW3⟩:=bR (w2.alloc (.cells #[.int .u8 119, .int .u8 110] 5 (2,3)))
   have hb3:ah w2 W3:=by rw [hW3];exact ag
   have Qd:ah W0 W3:=Below.trans' tF hb3 tF.size
   have k3:W3.heap[w2.heap.size]?=some (.cells #[.int .u8 119, .int .u8 110] 5 (2,3)):=by rw [hW3];exact aq _ _ rfl
   have hz3:W3.heap.size=w2.heap.size+1:=by rw [hW3];simp
   have HN:=hdd (FY (w:=W3) (g:=w2.heap.size) b.names.length (by have:=UG.out;omega) k3)
   have RB:=hdd fun w' (hb:ah W3 w')=>HX.out w' (Below.trans' Qd hb Qd.size)
   have xF:=hdd fun w' (hb:ah W3 w')=>HB.out w' (Below.trans' Qd hb Qd.size)
   have mq:=hdd fun w' (hb:ah W3 w')=>(Below.trans' hb3 hb hb3.size:ah w2 w')
   have hcv:(convert 61 61 (.slice (some ⟨w2.heap.size,0,none⟩) 2 2)).run Tryz.prog (w2.alloc (.cells #[.int .u8 119, .int .u8 110] 5)) = .ok (.slice (some ⟨w2.heap.size,0,none⟩) 2 2) W3:=by
    rw [hW3];exact Joins.run_convert_bytes_const_at (P:=Tryz.prog) w2 61 5 #[.int .u8 119, .int .u8 110] 2 2 w2.heap.size rfl Tryz.underlying61 Tryz.underlying5
   obtain⟨VK,-⟩:=RB.out _ (aL _ _)
   clear hW3 k3
   go_upto_region 10 with ((go_at_call 80;(with_reducible refine HN.out.mono ?_);rintro e w4 ⟨hb4,v4,rfl,ye⟩))
   clear VK hcv x0 x1 x2 x3 x4 x5 x6 x7
   obtain⟨x0,x1,x2,x3,x4,x5,x6,x7⟩:=RB.out _ hb4
   obtain⟨P0,TN⟩:=bC ([119,110]++az b.names.length)
   have tZ:=hdd TN
   have hl0:P0.length<=11:=by rw [<-TN,eO];have:=cd (n:=b.names.length) (by have:=UG.out;omega);simp;omega
   rw [TN]at ye
   clear TN
   obtain⟨so4,sc4,rfl⟩:=ye.isSlice
   go_upto_region 11 with (fail)
   go_loopg [7,43] b.names.length (fun g bv i wr=>∃k:Nat,k<=b.names.length/\g=b.names.length-k/\i = .int .i64 k/\aC W3.heap.size wr bv (P0++cL (b.names.take k))/\ah W3 wr)
   case atStart=>exact⟨0,jf _,rfl,rfl,by simpa [cL] using ye,hb4⟩
   case round=>
    clear x0 x1 x2 x3 x4 x5 x6 x7 ye hb4
    obtain⟨k,hk,rfl,rfl,ho,hb⟩:=hrel
    have hsz:=hb.size
    obtain⟨P,hP⟩:=bC (P0++cL (b.names.take k))
    rw [hP]at ho
    obtain⟨so,sJ,rfl⟩:=ho.isSlice
    obtain⟨x0,-,-,-,-,-,-,x7⟩:=RB.out _ hb
    have WM:P.length<=400:=by
     have h1:=rW (ns:=b.names.take k) fun s hs=>HNS.out s (xP hs)
     rw [fx]at h1
     have:=UG.out
     rw [<-hP,eO];omega
    have HP:=hdd hP
    clear hP
    by_cases hlt:k<b.names.length
    ·obtain⟨_,_,va,-,-,-,-,a5⟩:=X4.out
     obtain⟨ab,bp,hA,xD,ac⟩:=a5 af
     injection va with ZQ _ ZP
     subst ZQ ZP hA
     have e0:=vI (xF.out _ hb) xD ac hlt
     obtain⟨s,hs⟩:=bC (b.names[k])
     rw [hs]at e0
     have xj:=HNS.out s (by rw [<-hs];exact gj hlt)
     have HST:=hdd (Dt hlt)
     rw [hs]at HST
     have lA:=fun w'=>Ch (ab:=ab) (bp:=bp) (n:=b.names.length) (cap:=sc) (show (k:Int)=((k:Nat):Int) by rfl) hlt w'
     obtain⟨P2,Qh⟩:=bC (P++az s.size)
     have HE:=hdd (show P2++nums s=P0++cL (b.names.take (k+1)) by rw [HST.out,<-Qh,<-HP.out];simp)
     have TP:Calls Tryz.prog 80 #[.slice so P.length sJ, .int .i64 s.size] wr (jY W3.heap.size wr (.slice so P.length sJ) (P++az s.size)):=jG (n:=(s.size:Int)) ho hsz af af af
     have aaS:P2.length<=1000000:=by rw [<-Qh,eO];have:=cd (n:=s.size) af;omega
     rw [Qh]at TP
     have acr:=hdd TP
     have aat:s.size<=1000000:=af
     have HV:=hdd fun g hg=>(ho.lt g hg).1
     clear hs a5 ac xj WM Qh TP
     go_wp2_with (first
      |(go_at_call 80;(with_reducible refine acr.out.mono ?_);intro e w5 h5;have cz:=hb.trans (h5.below HV.out hsz);obtain⟨-,v5,rfl,iD,-⟩:=h5;obtain⟨s5,c5,rfl⟩:=iD.isSlice;have kO:=cz.size)
      |(at_builtin;refine ua rfl (.tmp 50) (.tmp 51) rfl W3.heap.size _ P2 rfl iD s rfl aaS aat kO ?_;intro v6 w6 Z6 WT;have jt:=WT W3.heap.size W3 cz aI))
     go_roundg (b.names.length-(k+1))
     case measure=>omega
     case rel=>exact⟨k+1,af,rfl,by go_num,by rw [<-HE.out];exact Z6,jt⟩
    ·have hPn:P=P0++cL b.names:=by rw [<-HP.out,kI af]
     have HPN:=hdd hPn
     obtain⟨F,hF⟩:∃F:Nat,b.floor=F:=⟨b.floor.toNat,by have:=Yr.out;omega⟩
     have hFr:F<=1048575:=by have:=Yr.out;omega
     have HF:=hdd hF
     rw [hF]at x7
     obtain⟨P2,Qh⟩:=bC (P++az F)
     obtain⟨P1,Zc⟩:=bC (P2++az l.length)
     have hl2:P2.length<=410:=by
      have h1:=cd (n:=F) af
      rw [<-Qh,eO];omega
     have P5:P1.length<=420:=by
      have h2:=cd (n:=l.length) af
      rw [<-Zc,eO];omega
     have TQ:Calls Tryz.prog 80 #[.slice so P.length sJ, .int .i64 F] wr (jY W3.heap.size wr (.slice so P.length sJ) (P++az F)):=jG (n:=(F:Int)) ho hsz af af af
     have K2:∀w5 (v5:Value) (iD:aC W3.heap.size w5 v5 P2) (kO:W3.heap.size<=w5.heap.size),Calls Tryz.prog 80 #[v5, .int .i64 l.length] w5 (jY W3.heap.size w5 v5 (P2++az l.length)):=fun w5 v5 iD kO=>jG (n:=(l.length:Int)) iD kO af af af
     have HBY:=hdd (show P1++dO 0 l=jl b l by rw [<-Zc,<-Qh,HPN.out,<-tZ.out];unfold jl;rw [HF.out];simp)
     rw [Qh]at TQ
     rw [Zc]at K2
     have RQ:=hdd TQ
     have Fi:=hdd K2
     have HV:=hdd fun g hg=>(ho.lt g hg).1
     clear hPn hF Zc Qh TQ K2
     go_upto_region 16 with (first
      |(go_at_call 80;(with_reducible refine RQ.out.mono ?_);intro e w5 h5;have cz:=hb.trans (h5.below HV.out hsz);obtain⟨-,v5,rfl,iD,-⟩:=h5;obtain⟨s5,c5,rfl⟩:=iD.isSlice;have kO:=cz.size)
      |(go_at_call 80;(with_reducible refine(Fi.out _ _ iD kO).mono ?_);intro e w6 h6;have jt:=cz.trans (h6.below (fun g hg=>(iD.lt g hg).1) kO);obtain⟨-,v6,rfl,Cl,-⟩:=h6;obtain⟨s6,c6,rfl⟩:=Cl.isSlice))
     have abB:=uQ (last:=0) HG.out (Int.le_refl 0)
     have hT2:(dO 0 l).length<=540000:=by have:=HM.out;omega
     clear ho hb hsz kO cz iD x0 x7 WM abB
     go_upto_region 18 with (fail)
     go_loopg [7,10,63] l.length (fun g bv lv i wr=>∃(k:Nat) (last:Int) (pre:List Int),k<=l.length/\g=l.length-k/\i = .int .i64 k/\lv = .int .i64 last/\aC W3.heap.size wr bv (P1++pre)/\Hid (dO 0 l=pre++dO last (l.drop k))/\Hid (0<=last/\∀e∈l.drop k,last<=e.key)/\ah W3 wr)
     case atStart=>exact⟨0,0,[],jf _,rfl,rfl,rfl,by simpa using Cl,hdd rfl,hdd ⟨Int.le_refl 0,fun e he=>(HG.out.2.1 e he).1⟩,jt⟩
     case round=>
      clear Cl jt
      obtain⟨k,last,pre,hk,rfl,rfl,rfl,ho,UB,RS,hb⟩:=hrel
      have hsz:=hb.size
      have hpl:pre.length<=540000:=by
       have:=congrArg List.length UB.out
       rw [eO]at this;omega
      obtain⟨Q,hQ⟩:=bC (P1++pre)
      rw [hQ]at ho
      have PV:Q.length<=541000:=by rw [<-hQ,eO];omega
      have HQ:=hdd hQ
      obtain⟨so,sJ,rfl⟩:=ho.isSlice
      clear hQ hpl
      by_cases hlt:k<l.length
      ·obtain⟨_,_,hv,-,-,-,-,h5⟩:=RU.out
       injection hv with hv1 _ hv3
       subst hv1 hv3
       obtain⟨eb,aH,lQ,r8,nD⟩:=h5 af
       subst lQ
       obtain⟨y0,y1,y2,y3,y4,y5,y6⟩:=bT (mq.out _ hb) r8 nD hlt
       obtain⟨y,hy⟩:=bC (l[k])
       rw [hy]at y0 y1 y2 y3 y4 y5 y6
       have CN:y∈l:=by rw [<-hy];exact gj hlt
       have IJ:y∈l.drop k:=by rw [vh hlt,hy];simp
       obtain⟨ie,hk1⟩:=HG.out.2.1 y CN
       obtain⟨hgd,hcc⟩:=cp (HG.out.1 y CN).2 (HG.out.1 y CN).1
       have hsm:=rq hgd hcc
       obtain⟨g0',g1',g2',g3',g4',g5',g6',-⟩:=hgd
       have ag9:=RS.out.1
       have ag8:=RS.out.2 y IJ
       have HST:=hdd (G8 (last:=last) hlt)
       rw [hy]at HST
       have Zy:=hdd (show 0<=y.key/\∀e∈l.drop (k+1),y.key<=e.key from ⟨ie,fun e he=>by
        obtain⟨i,hi,rfl⟩:=kS he
        rw [List.getElem_drop]
        have h1:=px.1 HRI.out k (k+1+i) hlt (by rw [oF]at hi;omega) af
        rw [hy]at h1;omega⟩)
       have m1:IntKind.i64.wrap (y.key-last)=y.key-last:=IntWalk.i64_in _ af
       have lA:=fun w'=>dC (ab:=eb) (bp:=aH) (n:=l.length) (cap:=c2) (show (k:Int)=((k:Nat):Int) by rfl) hlt w'
       have hwz:eb<wr.heap.size:=by have:=(mq.out _ hb).size;omega
       obtain⟨W1,hW1⟩:=bR (wr.alloc (.cells #[.int .i64 y.key, .int .i64 y.is.c, .int .i64 y.is.s, .int .i64 y.is.mi, .int .i64 y.is.ma, .int .i64 y.is.t, .int .i64 y.is.l] 107))
       have o8:ah W3 W1:=by rw [hW1];exact ag
       have hz1:W1.heap.size=wr.heap.size+1:=by rw [hW1];simp
       have k1:W1.heap[wr.heap.size]?=some (.cells #[.int .i64 y.key, .int .i64 y.is.c, .int .i64 y.is.s, .int .i64 y.is.mi, .int .i64 y.is.ma, .int .i64 y.is.t, .int .i64 y.is.l] 107):=by rw [hW1];exact aq _ _ rfl
       have N0:=hdd fun(w':World) (X:Nat->Prop) (ht:aw X W1 w') (hX:¬X wr.heap.size)=>(by
        have b0:w'.heap[wr.heap.size]?=_:=(ht.block _ af hX).trans k1
        simp [World.cell?,b0]:w'.cell? ⟨wr.heap.size,0,none⟩=some (.int .i64 y.key)/\w'.cell? ⟨wr.heap.size,1,none⟩=some (.int .i64 y.is.c)/\w'.cell? ⟨wr.heap.size,2,none⟩=some (.int .i64 y.is.s)/\w'.cell? ⟨wr.heap.size,3,none⟩=some (.int .i64 y.is.mi)/\w'.cell? ⟨wr.heap.size,4,none⟩=some (.int .i64 y.is.ma)/\w'.cell? ⟨wr.heap.size,5,none⟩=some (.int .i64 y.is.t)/\w'.cell? ⟨wr.heap.size,6,none⟩=some (.int .i64 y.is.l))
       have Az:aC W3.heap.size W1 (.slice so Q.length sJ) Q:=by rw [hW1];exact ho.alloc _
       have hnb:(Value.slice so Q.length sJ).ownBlock≠some wr.heap.size:=fun h=>by have:=(ho.lt _ h).2;omega
       obtain⟨q0,q1,q2,q3,q4,q5,q6⟩:=N0.out W1 (fun _=>False) (aw.refl _ _) (fun h=>h)
       obtain⟨Q1,Zb⟩:=bC (Q++az (y.key-last).toNat)
       obtain⟨Q2,Za⟩:=bC (Q1++az y.is.c.toNat)
       have agd:Q1.length<=541009:=by rw [<-Zb,eO];have:=cd (n:=(y.key-last).toNat) af;omega
       have agb:Q2.length<=541018:=by rw [<-Za,eO];have:=cd (n:=y.is.c.toNat) af;omega
       have TQ:=jG (n:=y.key-last) Az o8.size af af af
       have K2:∀w5 (v5:Value) (iD:aC W3.heap.size w5 v5 Q1) (kO:W3.heap.size<=w5.heap.size),Calls Tryz.prog 80 #[v5, .int .i64 y.is.c] w5 (jY W3.heap.size w5 v5 (Q1++az y.is.c.toNat)):=fun w5 v5 iD kO=>jG (n:=y.is.c) iD kO af af af
       rw [Zb]at TQ
       rw [Za]at K2
       have RQ:=hdd TQ
       have Fi:=hdd K2
       have HQQ:=hdd (show Q2=P1++(pre++(az (y.key-last).toNat++az y.is.c.toNat)) by rw [<-Za,<-Zb,<-HQ.out];simp)
       have HV1:=hdd fun g hg=>(Az.lt g hg).1
       have Fh:=hdd hnb
       clear nD h5 hy CN IJ Zb Za TQ K2 hnb
       go_upto_region 20 with (fail)
       rw [<-hW1]
       clear hW1 k1 ho y0 y1 y2 y3 y4 y5 y6
       go_upto_region 21 with ((go_at_call 80;(with_reducible refine RQ.out.mono ?_);intro e w5 h5;have cz:=o8.trans (h5.below HV1.out o8.size);obtain⟨qo,v5,rfl,iD,Vh⟩:=h5;obtain⟨s5,c5,rfl⟩:=iD.isSlice;have kO:=cz.size))
       have WG:(Value.slice s5 Q1.length c5).ownBlock≠some wr.heap.size:=fun h=>by
        rcases Vh _ h with h'|h'
        ·exact Fh.out h'
        ·omega
       clear q0 q1 q2 q3 q4 q5 q6
       obtain⟨q0,q1,q2,q3,q4,q5,q6⟩:=N0.out w5 _ qo Fh.out
       have aa8:wr.heap.size<w5.heap.size:=by have:=qo.size;omega
       have acy:=hdd WG
       clear WG Vh
       go_upto_region 23 with ((go_at_call 80;(with_reducible refine(Fi.out _ _ iD kO).mono ?_);intro e w6 h6;have jt:=cz.trans (h6.below (fun g hg=>(iD.lt g hg).1) kO);obtain⟨ht6,v6,rfl,Cl,Vg⟩:=h6;obtain⟨s6,c6,rfl⟩:=Cl.isSlice;have uE:=jt.size))
       have Wl:aw (fun x=>(Value.slice so Q.length sJ).ownBlock=some x\/(Value.slice s5 Q1.length c5).ownBlock=some x) W1 w6:=
        (qo.mono (fun i _ h=> .inl h)).trans' ht6 (fun i _ h=> .inr h)
       clear q0 q1 q2 q3 q4 q5 q6
       obtain⟨q0,q1,q2,q3,q4,q5,q6⟩:=N0.out w6 _ Wl (fun h=>h.elim Fh.out acy.out)
       obtain⟨Z,hZ⟩:=bC ([y.is.s,y.is.mi,y.is.ma,y.is.l])
       have Rn:Z.length=4:=by rw [<-hZ];rfl
       have HZB:=hdd (show ∀n∈Z,-4611686018427387903<=n/\n<4611686018427387904 from fun n hn=>by rw [<-hZ]at hn;simp at hn;omega)
       obtain⟨W7,jC⟩:=bR (w6.alloc (.cells #[.int .i64 y.is.s, .int .i64 y.is.mi, .int .i64 y.is.ma, .int .i64 y.is.l] 3))
       have qG:ah W3 W7:=by rw [jC];exact ag
       have DX:W7.heap.size=w6.heap.size+1:=by rw [jC];simp
       have k7:W7.heap[w6.heap.size]?=some (.cells #[.int .i64 y.is.s, .int .i64 y.is.mi, .int .i64 y.is.ma, .int .i64 y.is.l] 3):=by rw [jC];exact aq _ _ rfl
       have HZC:=hdd fun(w':World) (X:Nat->Prop) (ht:aw X W7 w') (hX:¬X w6.heap.size) (j:Nat) (hj:j<Z.length)=>(by
        have b0:w'.heap[w6.heap.size]?=_:=(ht.block _ af hX).trans k7
        subst hZ
        match j,hj with
        |0,_=>simp [World.cell?,b0]
        |1,_=>simp [World.cell?,b0]
        |2,_=>simp [World.cell?,b0]
        |3,_=>simp [World.cell?,b0]:w'.cell? ⟨w6.heap.size,j,none⟩=some (.int .i64 Z[j]))
       have ho7:aC W3.heap.size W7 (.slice s6 Q2.length c6) Q2:=by rw [jC];exact Cl.alloc _
       have WE:(Value.slice s6 Q2.length c6).ownBlock≠some w6.heap.size:=fun h=>by have:=(Cl.lt _ h).2;omega
       have acx:=hdd WE
       have HEL:=hdd (show P1++(pre++uR last y)=Q2++Z.flatMap dz by rw [HQQ.out,<-hZ];simp [uR])
       have acO:=hdd (show dO 0 l=(pre++uR last y)++dO y.key (l.drop (k+1)) by rw [UB.out,HST.out];simp)
       have HV6:=hdd fun g hg=>(ho7.lt g hg).1
       have CJ:=hdd qG
       clear WE hZ Cl ht6 Vg jt Wl qo iD cz N0 RQ Fi aa8 kO
       go_upto_region 24 with (fail)
       rw [<-jC]
       clear jC k7 q0 q1 q2 q3 q4 q5 q6
       go_loopg [7,94] 4 (fun g bv i wr2=>∃(j:Nat) (bs:List Int),j<=4/\g=4-j/\i = .int .i64 j/\aC W3.heap.size wr2 bv bs/\Hid (bs=Q2++(Z.take j).flatMap dz)/\bs.length<=541018+9*j/\Hid (aw (fun x=>(Value.slice s6 Q2.length c6).ownBlock=some x) W7 wr2)/\Hid (∀x,bv.ownBlock=some x->(Value.slice s6 Q2.length c6).ownBlock=some x\/W7.heap.size<=x))
       case atStart=>exact⟨0,Q2,af,rfl,rfl,ho7,hdd bt,af,hdd (aw.refl _ _),hdd fun x hx=> .inl hx⟩
       case round=>
        obtain⟨j,bs,hj,rfl,rfl,oI,UQ,hbl,KI,Fj⟩:=hrel
        obtain⟨so8,sc8,rfl⟩:=oI.isSlice
        have dh:=KI.out.below CJ.out (by have:=CJ.out.size;omega) (fun i hi=>HV6.out i hi)
        have aar:=dh.size
        by_cases hj4:j<4
        ·have Vi:j<Z.length:=af
         have e0:=HZC.out wr _ KI.out acx.out j Vi
         obtain⟨n,hn⟩:=bC (Z[j])
         rw [hn]at e0
         obtain⟨n1,n2⟩:=HZB.out n (by rw [<-hn];exact gj Vi)
         have lA:=fun w'=>lO (ab:=w6.heap.size) (bp:=0) (n:=4) (cap:=4) (show (j:Int)=((j:Nat):Int) by rfl) hj4 w'
         simp only [iX]at lA
         obtain⟨bs2,Qa⟩:=bC (bs++dz n)
         have hN8:=FC (n:=n) oI aar n1 n2 af
         rw [Qa]at hN8
         have HN8:=hdd hN8
         have acY:=hdd (show bs2=Q2++(Z.take (j+1)).flatMap dz by
          rw [mf Vi,sF,hn,<-Qa,UQ.out];simp)
         have TA:bs2.length<=541018+9*(j+1):=by rw [<-Qa,eO];have:=qI (n:=n) n1 n2;omega
         clear hn Qa hN8 Vi
         go_wp2_with ((go_at_call 81;(with_reducible refine HN8.out.mono ?_);rintro e w9 ⟨U8,v9,rfl,SY,hl9⟩;obtain⟨s9,c9,rfl⟩:=SY.isSlice))
         go_roundg (4-(j+1))
         case measure=>omega
         case rel=>
          refine⟨j+1,bs2,af,rfl,by go_num,SY,acY,TA,hdd (KI.out.trans' U8 fun i hi hx=>?_),hdd fun x hx=>?_⟩
          ·rcases Fj.out i hx with h|h
           ·exact h
           ·omega
          ·rcases hl9 x hx with h|h
           ·exact Fj.out x h
           ·exact .inr (by have:=KI.out.size;omega)
        ·have hj':j=4:=af
         have UL:=hdd (show bs=P1++(pre++uR last y) by rw [UQ.out,HEL.out,kI af])
         go_wp2
         go_roundg (l.length-(k+1))
         case measure=>omega
         case rel=>exact⟨k+1,y.key,pre++uR last y,af,rfl,by go_num,rfl,by rw [<-UL.out];exact oI,acO,Zy,dh⟩
      ·have hall:Q=jl b l:=by
        have h1:=UB.out
        rw [AL af]at h1
        have h2:dO last []=[]:=by cases l <;> rfl
        rw [h2,pq]at h1
        rw [<-HQ.out,<-h1,HBY.out]
       have fc:=hdd hall
       have HBB:=hdd (xw b l)
       rw [<-hall]at HBB
       have hsr:=mL Q
       obtain⟨p,hp⟩:=bC (gq Q)
       obtain⟨X,Y⟩:=p
       rw [hp]at hsr
       obtain⟨r1,r2,r3,r4⟩:=hsr
       simp only at r1 r2 r3 r4
       have hS:=Io (ho.at af) HBB.out
       rw [hp]at hS
       obtain⟨N,hN⟩:=bC (Y*65536+X)
       rw [show ((X,Y):Int×Int).2*65536+((X,Y):Int×Int).1=N from hN]at hS
       have HS:=hdd hS
       have OQ:=hdd (show ki Q=[Y/256,Y%256,X/256,X%256] by simp [ki,hp])
       have lw:IntKind.i64.wrap ((Q.length:Int)+4)=(Q.length:Int)+4:=IntWalk.i64_in _ af
       have u1:IntKind.u8.wrap (N/16777216)=Y/256:=by rw [IntKind.wrap_u8];omega
       have u2:IntKind.u8.wrap (N/65536)=Y%256:=by rw [IntKind.wrap_u8];omega
       have u3:IntKind.u8.wrap (N/256)=X/256:=by rw [IntKind.wrap_u8];omega
       have u4:IntKind.u8.wrap N=X%256:=by rw [IntKind.wrap_u8];omega
       have Ty:=xF.out _ hb
       obtain⟨A1,XP⟩:=bC (Y/256)
       obtain⟨A2,Zf⟩:=bC (Y%256)
       obtain⟨A3,Vr⟩:=bC (X/256)
       obtain⟨A4,Vq⟩:=bC (X%256)
       rw [XP]at u1 OQ
       rw [Zf]at u2 OQ
       rw [Vr]at u3 OQ
       rw [Vq]at u4 OQ
       have aaB:Q.length<=1000000:=af
       clear hall hp hS hN XP Zf Vr Vq r1 r2 r3 r4
       by_cases oZ:200000<Q.length+4
       ·have hd:decide ((200000:Int)<(Q.length:Int)+4)=true:=by simp;omega
        have HR:=hdd (Kh CH.out HL.out HM.out (by rw [<-fc.out];exact oZ))
        clear oZ
        go_wp2_with ((go_at_call 82;(with_reducible refine HS.out.mono ?_);rintro e w9 ⟨rfl,hw9⟩;obtain rfl:=hw9.symm))
        go_ret2
        rw [HR.out.1,HR.out.2]
        exact⟨Ty,_,rfl,aC.nil _ _⟩
       ·have hd:decide ((200000:Int)<(Q.length:Int)+4)=false:=by simp;omega
        have HR:=hdd (I1 CH.out HL.out HM.out (by rw [<-fc.out];exact oZ))
        rw [<-fc.out,OQ.out]at HR
        clear oZ
        have PM:w.heap.size<=W3.heap.size:=by have:=(xF.out _ (aL _ _)).size;omega
        have hV9:=hdd fun g hg=>(ho.lt g hg).1
        go_wp2_with (first
         |(go_at_call 82;(with_reducible refine HS.out.mono ?_);rintro e w9 ⟨rfl,hw9⟩;obtain rfl:=hw9.symm)
         |(at_builtin;refine jh rfl (.tmp 109) (.tmp 121) rfl W3.heap.size _ Q rfl (by repeat (first|assumption|with_reducible refine aC.alloc ?_ _|with_reducible refine aC.drewN ?_ _|with_reducible refine aC.drew ?_)) ⟨_,0,none⟩ 4 4 [A1,A2,A3,A4] rfl rfl (fun j u h=>uY (by simpa [xt] using h)) aaB bt (by first|omega|(simp;done)|(simp;omega)|(simp [aN];done)|(simp [aN];omega)) ?_;intro v9 w9 Z5 U8 _;have pR:ah W3 w9:=U8.below (show ah W3 _ from ag) (by first|omega|(simp;done)|(simp;omega)|(simp [aN];done)|(simp [aN];omega)) (fun i hi=>hV9.out i hi)))
        go_ret2
        rw [HR.out.1,HR.out.2]
        exact⟨xF.out _ pR,_,rfl,Z5.mono PM⟩
end
end Go.Proofs.YtmljjfhgciaceaaGreatDoor
