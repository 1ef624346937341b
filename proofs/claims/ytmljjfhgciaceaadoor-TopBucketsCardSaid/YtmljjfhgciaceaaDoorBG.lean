/- Texts of mine that come as one: FileP Bytes Enc Seal Encode. -/
import Derived.Test.YtmljjfhgciaceaaDoorHd
import Derived.Test.YtmljjfhgciaceaaDoorBK
import Derived.Laws.Bits128
import Derived.Lib.EndianBits
import Derived.Lib.AppendStr
import Derived.Laws.BytesArg
import Derived.Lib.SlBytesConst
import Derived.Maps.AppendAt
import Derived.Test.YtmljjfhgciaceaaDoorSR
import Derived.Test.YtmljjfhgciaceaaDoorPC
import Derived.Test.YtmljjfhgciaceaaDoorPS
namespace Go.Proofs.YtmljjfhgciaceaaDoor
section
variable {n:Nat}
def az (n:Nat):List Int:=if n<128 then [(n:Int)] else(128+(n%128:Nat):Int)::az (n/128)
termination_by n
theorem jB (h:n<128):az n=[(n:Int)]:=by rw [az,ar h]
theorem lW (h:¬n<128):az n=(128+(n%128:Nat):Int)::az (n/128):=by rw [az,ai h]
theorem yC:∀(k n:Nat),n<128 ^ (k+1)->(az n).length<=k+1
 |0,n,h=>by rw [jB (by simpa using h)];simp
 |k+1,n,h=>by
  by_cases hn:n<128
  ·rw [jB hn];simp
  ·rw [lW hn,fR]
   have:n/128<128 ^ (k+1):=by
    rw [Nat.div_lt_iff_lt_mul aW]
    rw [Nat.pow_succ]at h;exact h
   have:=yC k (n/128) this
   omega
theorem cd (h:n<9223372036854775808):(az n).length<=9:=yC 8 n (by simpa using h)
theorem sW (n:Nat):0<(az n).length:=by
 rw [az];split <;> simp
theorem gX:∀(n:Nat),∀c∈az n,0<=c/\c<=255:=by
 intro n
 induction n using Nat.strongRecOn with
 |_ n ih=>
  by_cases hn:n<128
  ·rw [jB hn];intro c hc;simp at hc;omega
  ·rw [lW hn]
   intro c hc
   rcases fc.1 hc with rfl|hc
   ·omega
   ·exact ih (n/128) af c hc
def dA (n:Int):List Int:=if n<0 then az (-2*n-1).toNat else az (2*n).toNat
def cI (ns:List ByteArray):List Int:=ns.flatMap fun s=>az s.size++nums s
def uO (last:Int) (e:aA):List Int:=az (e.key-last).toNat++az e.is.c.toNat++dA e.is.s++dA e.is.mi++dA e.is.ma++dA e.is.l
def dO:Int->List aA->List Int
 |_,[]=>[]
 |last,e::l=>uO last e++dO e.key l
def jl (b:Ba) (l:List aA):List Int:=[119,110]++az b.names.length++cI b.names++az b.floor.toNat++az l.length++dO 0 l
def lX (p:Int×Int) (c:Int):Int×Int:=((p.1+c)%65521,(p.2+(p.1+c)%65521)%65521)
def gj (bs:List Int):Int×Int:=bs.foldl lX (1,0)
def j6 (bs:List Int):List Int:=[(gj bs).2/256,(gj bs).2%256,(gj bs).1/256,(gj bs).1%256]
noncomputable def Aw (b:Ba):Int:=
 if aQ b=false then 7 else match bW b with|none=>0|some l=>if 10000<l.length then 1 else if 200000<(jl b l).length+4 then 1 else 0
noncomputable def Av (b:Ba):List Int:=
 if aQ b=false then []else match bW b with|none=>[]|some l=>if 10000<l.length then []else if 200000<(jl b l).length+4 then []else jl b l++j6 (jl b l)
theorem FE (bs:List Int):∀(p:Int×Int),(0<=p.1/\p.1<65521/\0<=p.2/\p.2<65521)->(0<=(bs.foldl lX p).1/\(bs.foldl lX p).1<65521/\0<=(bs.foldl lX p).2/\(bs.foldl lX p).2<65521):=by
 induction bs with
 |nil=>intro p hp;exact hp
 |cons c bs ih=>
  intro p hp
  rw [List.foldl_cons]
  refine ih _ ?_
  unfold lX
  simp only
  omega
theorem mO (bs:List Int):0<=(gj bs).1/\(gj bs).1<65521/\0<=(gj bs).2/\(gj bs).2<65521:=FE bs (1,0) aW
theorem CY {bs:List Int} {k:Nat} (hk:k<bs.length):gj (bs.take (k+1))=lX (gj (bs.take k)) bs[k]:=by
 unfold gj;rw [mn hk,List.foldl_append];rfl
def aO (l:List Int):Prop:=∀c∈l,0<=c/\c<=255
theorem aO.app {a b:List Int} (ha:aO a) (hb:aO b):aO (a++b):=fun c hc=>by
 rcases kI.1 hc with h|h
 ·exact ha c h
 ·exact hb c h
theorem pE (n:Int):aO (dA n):=by unfold dA;split <;> exact gX _
theorem FI (bs:List Int):aO (j6 bs):=by
 have:=mO bs
 intro c hc
 simp [j6]at hc
 omega
theorem Dp (ns:List ByteArray):aO (cI ns):=fun c hc=>by
 obtain⟨s,_,hs⟩:=List.mem_flatMap.1 hc
 exact(aO.app (gX _) (yM s)) c hs
theorem zD:∀(l:List aA) (last:Int),aO (dO last l)
 |[],_=>fun c hc=>by cases hc
 |e::l,last=>aO.app (((((aO.app (gX _) (gX _)).app (pE _)).app (pE _)).app (pE _)).app (pE _)) (zD l e.key)
theorem xw (b:Ba) (l:List aA):aO (jl b l):=
 ((((aO.app (fun c hc=>by simp at hc;omega) (gX _)).app (Dp _)).app (gX _)).app (gX _)).app (zD l 0)
theorem qE {n:Int} (h1 : -4611686018427387903<=n) (h2:n<4611686018427387904):(dA n).length<=9:=by
 unfold dA
 split
 ·exact cd af
 ·exact cd af
theorem rR:∀{ns:List ByteArray},(∀s∈ns,s.size<=10)->(cI ns).length<=19*ns.length
 |[],_=>by simp [cI]
 |s::ns,h=>by
  have h1:=h s bq
  have h2:=rR (ns:=ns) fun x hx=>h x (by simp [hx])
  have h3:=cd (n:=s.size) af
  have e:cI (s::ns)=(az s.size++nums s)++cI ns:=rfl
  rw [e,eP,eP,nums_length,fR]
  omega
theorem uN:∀{l:List aA} {last:Int},dY l->0<=last->(dO last l).length<=54*l.length
 |[],_,_,_=>by simp [dO]
 |e::l,last,h,hl=>by
  obtain⟨g1,g2⟩:=h.2.1 e bq
  have hc:=h.1 e bq
  obtain⟨hg,hcc⟩:=cj hc.2 hc.1
  have hs:=qX hg hcc
  have h2:=uN (l:=l) (last:=e.key) ⟨fun x hx=>h.1 x (by simp [hx]),fun x hx=>h.2.1 x (by simp [hx]),by have:=h.2.2;simp at this;omega⟩ g1
  obtain⟨k0,k1,k2,k3,k4,k5,k6,_⟩:=hg
  have a1:=cd (n:=(e.key-last).toNat) af
  have a2:=cd (n:=e.is.c.toNat) af
  have a3:=qE (n:=e.is.s) af af
  have a4:=qE (n:=e.is.mi) af af
  have a5:=qE (n:=e.is.ma) af af
  have a6:=qE (n:=e.is.l) af af
  simp only [dO,uO,eP,fR]
  omega
end
open Go.RowKit
section
set_option maxRecDepth 100000
set_option maxHeartbeats 1000000
variable {a:Act} {ops:Array Oper} {Q:Exit->Act->World->Prop} {n:Int} {es xs:List Int} {rest:List Oper} {B C:Nat} {o:Oper} {w w':World}
def xt (n:Int):List Value:=[.int .u8 n]
theorem G9 (n:Int):(xt n).length=1:=rfl
theorem IZ (xs:List Int):∀u∈xs.flatMap xt,u.oneCell'=true:=by
 intro u hu
 obtain⟨x,_,hx⟩:=List.mem_flatMap.1 hu
 simp [xt]at hx
 subst hx;rfl
theorem Ez (xs:List Int):xs.flatMap xt=xs.map (Value.int .u8):=by
 induction xs with
 |nil=>rfl
 |cons x xs ih=>rw [gG,ih];rfl
theorem mC (xs:List Int):(xs.flatMap xt).length=xs.length:=by rw [Ez,nA]
abbrev fE (w:World) (v:Value) (xs:List Int):Prop:=dN 1 1 xt w v xs
theorem Tryd.QP:(Tryd.prog.info? 5).map (fun i=>(i.zero.map (fun z=>z.cells.size),i.size,i.bytes))=some (some 1,1,1):=cy
theorem Tryd.VA:(Tryd.prog.info? 5).map (fun i=>(i.zero,i.size,i.bytes))=some (some (.int .u8 0),1,1):=cy
structure aC (B:Nat) (w:World) (v:Value) (es:List Int):Prop where
 row:w.ownsRow B 5 1 v es.length (es.flatMap xt)
theorem aC.nil (B:Nat) (w:World):aC B w (.slice none 0 0) []:=⟨World.ownsRow_nil _ _ _ _⟩
theorem aC.alloc {v:Value} (h:aC B w v es) (o:Obj):aC B (w.alloc o) v es:=⟨World.ownsRow.alloc h.row o⟩
theorem aC.block {v:Value} (h:aC B w v es) (hb:∀g,v.ownBlock=some g->w'.heap[g]?=w.heap[g]?):aC B w' v es:=by
 obtain⟨hl,⟨rfl,h0⟩|⟨g,cap,cur,rfl,hB,hg,h1,h2,h3,h4⟩⟩:=h.row
 ·exact⟨⟨hl, .inl ⟨rfl,h0⟩⟩⟩
 ·exact⟨⟨hl, .inr ⟨g,cap,cur,rfl,hB,(hb g rfl).trans hg,h1,h2,h3,h4⟩⟩⟩
theorem aC.drew {v:Value} (h:aC B w v es):aC B w.drew v es:=h.block fun _ _=>rfl
theorem aC.drewN {v:Value} (h:aC B w v es) (n:Nat):aC B (w.drewN n) v es:=h.block fun _ _=>rfl
theorem aC.lt {v:Value} (h:aC B w v es):∀g,v.ownBlock=some g->B<=g/\g<w.heap.size:=World.ownsRow.lt h.row
theorem aC.below {v:Value} (h:aC B w v es) (hb:Below C w w') (hC:w.heap.size<=C):aC B w' v es:=h.block fun g hg=>hb.block g (by have:=(h.lt g hg).2;omega)
theorem aC.mono {v:Value} (h:aC B w v es) (hC:C<=B):aC C w v es:=by
 obtain⟨hl,⟨rfl,h0⟩|⟨g,cap,cur,rfl,hB,hg,h1,h2,h3,h4⟩⟩:=h.row
 ·exact⟨⟨hl, .inl ⟨rfl,h0⟩⟩⟩
 ·exact⟨⟨hl, .inr ⟨g,cap,cur,rfl,af,hg,h1,h2,h3,h4⟩⟩⟩
theorem aC.at {v:Value} (h:aC B w v es) (hs:es.length<=1000000):fE w v es:=dN.owned G9 h.row rfl af
theorem aC.isSlice {v:Value} (h:aC B w v es):∃ao cap,v = .slice ao es.length cap:=by
 obtain⟨hl,⟨rfl,h0⟩|⟨g,cap,cur,rfl,_⟩⟩:=h.row
 ·exact⟨none,0,by rw [h0]⟩
 ·exact⟨_,_,rfl⟩
theorem jh (hgd:o.guard=none) (s x:Operand)
  (ho:o.op = .call { callee:= .builtin .append,args:=#[s,x],argTypes:=#[54,54] }) (B:Nat) (v:Value) (es:List Int) (hs:a.eval s=v) (hown:aC B w v es)
  (ad:Addr) (m c:Nat) (ys:List Int) (hm:m=ys.length) (hx:a.eval x = .slice (some ad) m c) (hnews:∀j u,(ys.flatMap xt)[j]?=some u->w.cell? (ad.add j)=some u) (hlen:es.length<=1000000) (Q0:ys.length<=1000000) (hbase:B<=w.heap.size)
  (h:∀v' w',aC B w' v' (es++ys)->aw (fun b=>v.ownBlock=some b) w w'->(∀b,v'.ownBlock=some b->v.ownBlock=some b\/w.heap.size<=b)->wpList Tryd.prog ops Q rest (a.put o.dst v') w'):wpList Tryd.prog ops Q (o::rest) a w:=by
 subst hm
 obtain⟨i0,z,hi,hz,hz1,hz2,hz3⟩:=cC Tryd.QP
 refine wpList_append_own_at w hgd s x 54 ho B 5 i0 z 1 1 Tryd.underlying54 hi hz hz1 hz2 hz3 aW v es.length _ hs hown.row ad ys.length c (ys.flatMap xt) hx (by rw [mC];omega) hnews (IZ ys) (by unfold maxLen;omega) af hbase ?_
 intro v' w' hown' hg _ hloc
 refine h v' w' ?_ (aw.grown (aw.refl _ _) hg (fun k hk=> .inl hk)) (fun b hb=>by
  rcases hloc with h|h
  ·exact .inl (h.symm.trans hb)
  ·rw [hb]at h;injection h with h;exact .inr af)
 have:(es++ys).flatMap xt=es.flatMap xt++ys.flatMap xt:=bq
 refine⟨?_⟩
 rw [this,eP]
 exact hown'
theorem Ad (s:ByteArray):Lib.strCells s=(nums s).flatMap xt:=by
 rw [Ez];simp [Lib.strCells,nums]
theorem tX (hgd:o.guard=none) (s x:Operand)
  (ho:o.op = .call { callee:= .builtin .append,args:=#[s,x],argTypes:=#[54,9] }) (B:Nat) (v:Value) (es:List Int) (hs:a.eval s=v) (hown:aC B w v es)
  (st:ByteArray) (hx:a.eval x = .string st) (hlen:es.length<=1000000) (Q0:st.size<=1000000) (hbase:B<=w.heap.size)
  (h:∀v' w',aC B w' v' (es++nums st)->(∀C W,Below C W w->C<=B->Below C W w')->wpList Tryd.prog ops Q rest (a.put o.dst v') w'):wpList Tryd.prog ops Q (o::rest) a w:=by
 obtain⟨i0,hi,hz,hz1,hz2⟩:∃i0,Tryd.prog.info? 5=some i0/\i0.zero=some (.int .u8 0)/\i0.size=1/\i0.bytes=1:=by
  have:=Tryd.VA
  cases h:Tryd.prog.info? 5 with
  |none=>rw [h]at this;cases this
  |some i=>rw [h]at this;simp at this;exact⟨i,rfl,this.1,this.2.1,this.2.2⟩
 refine Lib.wpList_append_own_string w hgd s x 54 9 ho B 5 i0 Tryd.underlying54 Tryd.underlying9 hi hz hz1 hz2 v es.length _ hs hown.row st hx (by unfold maxLen;omega) af hbase ?_
 intro v' w' hown' hg _
 refine h v' w' ?_ fun C W hb hC=>Below.grown hb hg af (fun j hj=>by have:=(hown.lt j hj).1;omega)
 refine⟨?_⟩
 rw [tM,eP,nums_length,<-Ad]
 exact hown'
theorem uW {C:Array Value} {T:TypeId} {j:Nat} {u:Value} (h:C[j]?=some u):(w.alloc (.cells C T)).cell? (Addr.add ⟨w.heap.size,0,none⟩ j)=some u:=by
 have ha:Addr.add ⟨w.heap.size,0,none⟩ j=⟨w.heap.size,j,none⟩:=by simp [Addr.add];omega
 have hk:(w.alloc (.cells C T)).heap[w.heap.size]?=some (.cells C T):=by show (w.heap.push _)[w.heap.size]?=_;simp
 rw [ha];simp only [World.cell?,hk];exact h
theorem JT (n:Int):bits .or .i64 (n%128) 128=128+n%128:=by
 rw [bits_join_low .i64 63 aW (fun n h0 h1=>IntWalk.i64_in _ af) 7 (n%128) 128 af af af af af af];omega
theorem BF (h0:0<=n) (h1:n<=255):IntKind.u8.wrap n=n:=by
 rw [IntKind.wrap_u8];omega
def jW (B:Nat) (w:World) (v:Value) (xs:List Int) (e:Ending) (w':World):Prop:=
 aw (fun b=>v.ownBlock=some b) w w'/\∃v',e = .returned v'/\aC B w' v' xs/\∀b,v'.ownBlock=some b->v.ownBlock=some b\/w.heap.size<=b
theorem jD {v:Value} (hown:aC B w v xs) (hB:B<=w.heap.size) (hn:0<=n) (xn:n<9223372036854775808) (hlen:xs.length<=990000) :
  Calls Tryd.prog 56 #[v, .int .i64 n] w (jW B w v (xs++az n.toNat)):=by
 obtain⟨ao,cap,rfl⟩:=hown.isSlice
 obtain⟨m,rfl⟩:=Int.eq_ofNat_of_zero_le hn
 have HT:=hdd (show (xs++az m).length<=990009 by rw [eP];have:=cd (n:=m) af;omega)
 go_enter Tryd.func56,Tryd.ntmps56
 go_wp2_with fail
 go_loopg [0,1] m (fun g bv nv wr=>∃(k:Nat) (ys:List Int),g=k/\nv = .int .i64 k/\k<9223372036854775808/\aC B wr bv ys/\Hid (ys++az k=xs++az m)/\Hid (aw (fun b=>(Value.slice ao xs.length cap).ownBlock=some b) w wr)/\Hid (∀b,bv.ownBlock=some b->(Value.slice ao xs.length cap).ownBlock=some b\/w.heap.size<=b))
 case atStart=>exact⟨m,xs,rfl,rfl,af,hown,hdd rfl,hdd (aw.refl _ _),hdd fun b hb=> .inl hb⟩
 case round=>
  obtain⟨k,ys,E8,rfl,hk,ho,HY,KG,Od⟩:=hrel
  obtain rfl:=E8.symm
  obtain⟨so,sc,rfl⟩:=ho.isSlice
  have hsz:B<=wr.heap.size:=gT hB KG.out.size
  have CI:ys.length<=1000000:=by
   have h1:=HT.out
   rw [<-HY.out,eP]at h1
   omega
  have hsl:(1:Nat)<=1000000:=af
  have HTT:=hdd fun w2 (w3:World) (ht:aw (fun b=>(Value.slice so ys.length sc).ownBlock=some b) w2 w3) (h2:ah wr w2)=>(aw.trans' (aw.trans' KG.out (aw.of (X:=fun _=>False) h2 aI) (fun _ _ h=>h.elim)) ht (fun i hi hx=>by
   rcases Od.out i hx with h|h
   ·exact h
   ·omega):aw (fun b=>(Value.slice ao xs.length cap).ownBlock=some b) w w3)
  have Zx:=hdd fun(w2:World) (v3:Value) (h2:wr.heap.size<=w2.heap.size) (hl:∀b,v3.ownBlock=some b->(Value.slice so ys.length sc).ownBlock=some b\/w2.heap.size<=b)=>(fun b hb=>by
   have:=KG.out.size
   rcases hl b hb with h|h
   ·exact Od.out b h
   ·exact .inr af:∀b,v3.ownBlock=some b->(Value.slice ao xs.length cap).ownBlock=some b\/w.heap.size<=b)
  by_cases hlt:k<128
  ·have hd:decide ((127:Int)<(k:Int))=false:=by simp;omega
   have HE:=hdd (show ys++[(k:Int)]=xs++az m by rw [<-HY.out,jB hlt])
   have hw:IntKind.u8.wrap (k:Int)=(k:Int):=BF af af
   clear hlt
   go_wp2_with ((at_builtin;refine jh rfl (.tmp 16) (.tmp 19) rfl B _ ys rfl (by repeat (first|assumption|with_reducible refine aC.alloc ?_ _|with_reducible refine aC.drewN ?_ _|with_reducible refine aC.drew ?_)) ⟨_,0,none⟩ 1 1 [(k:Int)] rfl rfl (fun j u h=>uW (by simpa [xt] using h)) CI hsl (by first|omega|(simp;done)|(simp;omega)|(simp [aL];done)|(simp [aL];omega)) ?_;intro v3 w3 uq Ow PW;have hb3:=HTT.out _ _ Ow ag;have hq3:=Zx.out _ _ (by first|omega|(simp;done)|(simp;omega)|(simp [aL];done)|(simp [aL];omega)) PW))
   go_ret
   rw [HE.out]at uq
   exact⟨hb3,_,rfl,uq,hq3⟩
  ·have hd:decide ((127:Int)<(k:Int))=true:=by simp;omega
   have HE:=hdd (show (ys++[128+(k:Int)%128])++az (k/128)=xs++az m by
    rw [<-HY.out,lW hlt,jn];simp)
   have a1:=i64_and127 (k:Int)
   have a2:=JT (k:Int)
   have hw:IntKind.u8.wrap (128+(k:Int)%128)=128+(k:Int)%128:=BF af af
   clear hlt
   go_wp2_with ((at_builtin;refine jh rfl (.tmp 7) (.tmp 12) rfl B _ ys rfl (by repeat (first|assumption|with_reducible refine aC.alloc ?_ _|with_reducible refine aC.drewN ?_ _|with_reducible refine aC.drew ?_)) ⟨_,0,none⟩ 1 1 [128+(k:Int)%128] rfl rfl (fun j u h=>uW (by simpa [xt] using h)) CI hsl (by first|omega|(simp;done)|(simp;omega)|(simp [aL];done)|(simp [aL];omega)) ?_;intro v3 w3 uq Ow PW;have hb3:=HTT.out _ _ Ow ag;have hq3:=Zx.out _ _ (by first|omega|(simp;done)|(simp;omega)|(simp [aL];done)|(simp [aL];omega)) PW))
   go_roundg (k/128)
   case measure=>have:=iX hd;omega
   case rel=>exact⟨k/128,ys++[128+(k:Int)%128],rfl,int_eq af,af,uq,HE,hdd hb3,hdd hq3⟩
theorem jW.below {v:Value} {e:Ending} (h:jW B w v xs e w') (hv:∀b,v.ownBlock=some b->B<=b) (hB:B<=w.heap.size):Below B w w':=h.1.below (aJ _ _) hB (fun i hi=>hv i hi)
end
section
set_option maxRecDepth 100000
set_option maxHeartbeats 1000000
variable {xs:List Int} {B n g:Nat} {w:World}
theorem aC.made {C:Array Value} {ys:List Int} (hC:C.toList=ys.flatMap xt) (hn:n=ys.length) (hl:ys.length<=1000000) (hB:B<=w.heap.size):aC B (w.alloc (.cells C 5)) (.slice (some ⟨w.heap.size,0,none⟩) n n) ys:=by
 subst hn
 have hs:C.size=ys.length:=by
  have:=congrArg List.length hC
  rw [mC]at this;simpa using this
 refine⟨⟨by rw [mC];omega, .inr ⟨w.heap.size,ys.length,C,rfl,hB,?_,kK _,by unfold maxLen;omega,af,?_⟩⟩⟩
 ·show (w.heap.push _)[w.heap.size]?=_;simp
 ·rw [kJ (by simp;omega)];exact hC
theorem aC.cells {cap:Nat} (h:aC B w (.slice (some ⟨g,0,none⟩) n cap) xs) (hl:0<xs.length):∀j u,(xs.flatMap xt)[j]?=some u->w.cell? (Addr.add ⟨g,0,none⟩ j)=some u:=by
 obtain⟨_,⟨hv,h0⟩|⟨g',cap',cur,hv,_,hg,_,_,_,h4⟩⟩:=h.row
 ·omega
 ·injection hv with hv1 _ _
  injection hv1 with hv1
  injection hv1 with hv1 _
  subst hv1
  intro j u hj
  rw [<-h4,qd]at hj
  split at hj
  ·have ha:Addr.add ⟨g,0,none⟩ j=⟨g,j,none⟩:=by simp [Addr.add];omega
   rw [ha];simp only [World.cell?,hg];simpa using hj
  ·cases hj
theorem aC.form {v:Value} (h:aC B w v xs) (hl:0<xs.length):∃g cap,v = .slice (some ⟨g,0,none⟩) xs.length cap:=Joins.ownsRow_form h.row hl
theorem FV (n:Nat) (hn:n<128) (hg:w.heap[g]?=some (.cells #[.int .u8 119, .int .u8 110] 5 (2,3))) :
  Calls Tryd.prog 56 #[.slice (some ⟨g,0,none⟩) 2 2, .int .i64 n] w fun e w'=>ah w w'/\∃v',e = .returned v'/\aC w.heap.size w' v' ([119,110]++az n):=by
 obtain⟨i0,z,hi,hz,hz1,hz2,hz3⟩:=cC Tryd.QP
 have Va:g<w.heap.size:=(eW.1 hg).1
 have hcell:∀w',ah w w'->∀b,(some ⟨g,0,none⟩:Option Addr)=some b->∀j u,([119,110].flatMap xt)[j]?=some u->w'.cell? (b.add j)=some u:=fun w' hb b Tn j u hj=>by
  injection Tn with Tn
  subst Tn
  have ha:Addr.add ⟨g,0,none⟩ j=⟨g,j,none⟩:=by simp [Addr.add];omega
  have h1:w'.heap[g]?=_:=(hb.block _ Va).trans hg
  rw [ha];simp only [World.cell?,h1];simpa [xt] using hj
 have HC:=hdd hcell
 have HE:=hdd (jB hn)
 have hd:decide ((127:Int)<(n:Int))=false:=by simp;omega
 have hw:IntKind.u8.wrap (n:Int)=(n:Int):=BF af af
 clear hcell hn
 go_enter Tryd.func56,Tryd.ntmps56
 go_wp2_with fail
 go_loopg [0,1] 0 (fun g' bv nv wr=>bv = .slice (some ⟨g,0,none⟩) 2 2/\nv = .int .i64 n/\wr=w)
 case atStart=>exact⟨rfl,rfl,rfl⟩
 case round=>
  obtain⟨rfl,rfl,hwr⟩:=hrel
  obtain rfl:=hwr.symm
  go_wp2_with ((at_builtin;refine wpList_append_grows _ rfl (.tmp 16) (.tmp 19) 54 rfl 5 i0 z 1 1 Tryd.underlying54 hi hz hz1 hz2 hz3 aW (some ⟨g,0,none⟩) 2 2 ([119,110].flatMap xt) rfl (fun h=>by cases h) rfl (HC.out _ ag) ⟨_,0,none⟩ 1 1 ([(n:Int)].flatMap xt) rfl rfl (fun j u h=>uW (by simpa [xt] using h)) (IZ _) af (by unfold maxLen;omega) af ?_;intro v3 w3 uq hg3;have hb3:ah w w3:=Below.grown (show ah w _ from ag) hg3 (by first|omega|(simp;done)|(simp;omega)|(simp [aL];done)|(simp [aL];omega)) (fun k hk=>by cases hk)))
  go_ret
  refine⟨hb3,_,rfl,?_⟩
  rw [HE.out]
  refine⟨?_⟩
  have:=Joins.ownsRow_le uq (show w.heap.size<=_ from (by first|omega|(simp;done)|(simp;omega)|(simp [aL];done)|(simp [aL];omega)))
  simpa [xt] using this
theorem Fz {v:Value} {n:Int} (hown:aC B w v xs) (hB:B<=w.heap.size) (hn : -4611686018427387903<=n) (xn:n<4611686018427387904) (hlen:xs.length<=990000) :
  Calls Tryd.prog 57 #[v, .int .i64 n] w (jW B w v (xs++dA n)):=by
 obtain⟨ao,cap,rfl⟩:=hown.isSlice
 by_cases hlt:n<0
 ·have hd:decide (n<0)=true:=by simp [hlt]
  have m1:IntKind.i64.wrap (-2*n) = -2*n:=IntWalk.i64_in _ af
  have m2:IntKind.i64.wrap (-2*n-1) = -2*n-1:=IntWalk.i64_in _ af
  have HN:=hdd (jD (n:=-2*n-1) hown hB af af hlen)
  have HE:=hdd (show dA n=az (-2*n-1).toNat by unfold dA;rw [ar hlt])
  clear hlt hn xn
  go_enter Tryd.func57,Tryd.ntmps57
  go_wp2_with ((go_at_call 56;(with_reducible refine HN.out.mono ?_);rintro e w3 ⟨hb3,v3,rfl,kY,PW⟩))
  go_ret
  rw [HE.out]
  exact⟨hb3,_,rfl,kY,PW⟩
 ·have hd:decide (n<0)=false:=by simp;omega
  have m1:IntKind.i64.wrap (2*n)=2*n:=IntWalk.i64_in _ af
  have HN:=hdd (jD (n:=2*n) hown hB af af hlen)
  have HE:=hdd (show dA n=az (2*n).toNat by unfold dA;rw [ai hlt])
  clear hlt hn xn
  go_enter Tryd.func57,Tryd.ntmps57
  go_wp2_with ((go_at_call 56;(with_reducible refine HN.out.mono ?_);rintro e w3 ⟨hb3,v3,rfl,kY,PW⟩))
  go_ret
  rw [HE.out]
  exact⟨hb3,_,rfl,kY,PW⟩
end
section
set_option maxRecDepth 100000
set_option maxHeartbeats 1000000
variable {xs:List Int} {w:World}
theorem mW {ab aY n cap j:Nat} {i:Int} (h:i=j) (hj:j<n) (w:World):(Instr.indexAt 54 (.slice (some ⟨ab,aY,none⟩) n cap) (.int .i64 i)).run Tryd.prog w = .ok (.pointer (some ⟨ab,aY+j,none⟩)) w:=by
 subst h
 go_simp
theorem mj {b off k:Nat} (h:∀i x,xs[i]?=some x->∀j u,(xt x)[j]?=some u->w.cell? ⟨b,off+i*1+j,none⟩=some u) (hk:k<xs.length):w.cell? ⟨b,off+k,none⟩=some (.int .u8 xs[k]):=by
 have:=h k xs[k] (by simp [hk]) 0 _ rfl
 simpa using this
theorem Jn {x y:Int} (h0:0<=x) (h1:x<65536) (h2:0<=y) (h3:y<65536):bits .or .i64 (y*65536) x=y*65536+x:=by
 rw [bits_join .i64 63 aW (fun n h0 h1=>IntWalk.i64_in _ af) 16 (y*65536) x af af af h0 af af]
theorem Ih {v:Value} (h:fE w v xs) (hx:aO xs) :
  Calls Tryd.prog 58 #[v] w fun e w'=>e = .returned (.int .i64 ((gj xs).2*65536+(gj xs).1))/\w'=w:=by
 obtain⟨ao,cap,rfl,a1,a2,a3,a4,a5⟩:=h
 have HX:=hdd hx
 clear hx
 go_enter Tryd.func58,Tryd.ntmps58
 go_wp2_with fail
 go_loopg [3,4,9] xs.length (fun g xv yv i wr=>∃(k:Nat) (x y:Int),k<=xs.length/\g=xs.length-k/\i = .int .i64 k/\xv = .int .i64 x/\yv = .int .i64 y/\Hid (gj (xs.take k)=(x,y))/\wr=w)
 case atStart=>exact⟨0,1,0,iN _,rfl,rfl,rfl,rfl,hdd rfl,rfl⟩
 case round=>
  obtain⟨k,x,y,hk,rfl,rfl,rfl,rfl,HS,hwr⟩:=hrel
  obtain rfl:=hwr.symm
  have hr:=mO (xs.take k)
  rw [HS.out]at hr
  obtain⟨r1,r2,r3,r4⟩:=hr
  simp only at r1 r2 r3 r4
  by_cases hlt:k<xs.length
  ·obtain⟨ab,aY,rfl,xD,ac⟩:=a5 af
   have e0:=mj ac hlt
   obtain⟨c,hc⟩:=bw (xs[k])
   rw [hc]at e0
   have hcr:=HX.out c (by rw [<-hc];exact fO hlt)
   obtain⟨X,hX⟩:=bw ((x+c)%65521)
   obtain⟨Y,hY⟩:=bw ((y+X)%65521)
   have HN:=hdd (show gj (xs.take (k+1))=(X,Y) by rw [CY hlt,HS.out,hc];simp [lX,hX,hY])
   have kS:=fun w'=>mW (ab:=ab) (aY:=aY) (n:=xs.length) (cap:=cap) (show (k:Int)=((k:Nat):Int) by rfl) hlt w'
   have c1:IntKind.i64.wrap c=c:=IntWalk.i64_in _ af
   have c2:IntKind.i64.wrap (x+c)=x+c:=IntWalk.i64_in _ af
   have c3:(x+c).tmod 65521=X:=by rw [xO af];exact hX
   have c4:IntKind.i64.wrap X=X:=IntWalk.i64_in _ af
   have c5:IntKind.i64.wrap (y+X)=y+X:=IntWalk.i64_in _ af
   have c6:(y+X).tmod 65521=Y:=by rw [xO af];exact hY
   have c7:IntKind.i64.wrap Y=Y:=IntWalk.i64_in _ af
   clear ac a5 hc hX hY
   go_wp2
   go_roundg (xs.length-(k+1))
   case measure=>omega
   case rel=>exact⟨k+1,X,Y,af,rfl,by go_num,rfl,rfl,HN,rfl⟩
  ·have HE:=hdd (show gj xs=(x,y) by rw [<-HS.out,kJ af])
   have c1:IntKind.i64.wrap (y*65536)=y*65536:=IntWalk.i64_in _ af
   have c2:IntKind.i64.wrap (y*2 ^ 16)=y*65536:=c1
   have c3:=Jn (x:=x) (y:=y) r1 af r3 af
   go_wp2
   go_ret
   rw [HE.out]
   exact⟨rfl,rfl⟩
end
section
set_option maxRecDepth 100000
set_option maxHeartbeats 8000000
variable {b:Ba} {l:List aA} {k:Nat}
def QD (B:Nat) (w:World) (bs:List Int) (E:Int) (e:Ending) (w':World):Prop:=Below B w w'/\∃v,e = .returned (.tuple #[v, .int .i64 E])/\aC B w' v bs
theorem Dq {ns:List ByteArray} (hk:k<ns.length):cI (ns.take (k+1))=cI (ns.take k)++(az ns[k].size++nums ns[k]):=by
 unfold cI;rw [mn hk,tM,List.flatMap_singleton]
theorem G5 {last:Int} (hk:k<l.length):dO last (l.drop k)=uO last l[k]++dO l[k].key (l.drop (k+1)):=by
 rw [vg hk];rfl
theorem Nn (h:aQ b=false):Aw b=7/\Av b=[]:=by unfold Aw Av;rw [ar h,ar h];exact⟨rfl,rfl⟩
theorem Ke (h:aQ b=true) (hl:bW b=some l) (h2:10000<l.length):Aw b=1/\Av b=[]:=by
 unfold Aw Av;rw [ai (by rw [h];decide),ai (by rw [h];decide),hl];simp only;rw [ar h2,ar h2];exact⟨rfl,rfl⟩
theorem Kf (h:aQ b=true) (hl:bW b=some l) (h2:¬10000<l.length) (h3:200000<(jl b l).length+4):Aw b=1/\Av b=[]:=by
 unfold Aw Av;rw [ai (by rw [h];decide),ai (by rw [h];decide),hl];simp only;rw [ai h2,ai h2,ar h3,ar h3];exact⟨rfl,rfl⟩
theorem IY (h:aQ b=true) (hl:bW b=some l) (h2:¬10000<l.length) (h3:¬200000<(jl b l).length+4):Aw b=0/\Av b=jl b l++j6 (jl b l):=by
 unfold Aw Av;rw [ai (by rw [h];decide),ai (by rw [h];decide),hl];simp only;rw [ai h2,ai h2,ai h3,ai h3];exact⟨rfl,rfl⟩
theorem F5 (h:aQ b=true) (hk:k<b.names.length):b.names[k].size<=10:=by
 have:=((dJ h).names k hk).1
 simp [dG]at this
 omega
theorem nX (h:aQ b=true):∀s∈b.names,s.size<=10:=fun s hs=>by
 obtain⟨k,hk,rfl⟩:=kW hs
 exact F5 h hk
theorem G8 {v:Value} {w:World} (h:bN w v b) (hst:∀s∈b.names,s.size<=140737488351232) (hsz:bS w) :
  Calls Tryd.prog 30 #[v] w (QD w.heap.size w (Av b) (Aw b)):=by
 have iB:=hdd fun w' (hb:ah w w')=>fG (h.below hb) hst (hsz.below hb)
 obtain⟨sa,sc,g0,l0,p0,g1,l1,p1,g2,l2,p2,rfl,hn,jk,T0,T1,T2⟩:=h.open
 obtain⟨W0,hW0⟩:=bQ (w.alloc (.cells (aH sa b.names.length sc g0 l0 p0 g1 l1 p1 g2 l2 p2 b) 35))
 have hb0:ah w W0:=by rw [hW0];exact ag
 have hz0:W0.heap.size=w.heap.size+1:=by rw [hW0];simp
 have k0:W0.heap[w.heap.size]?=some (.cells (aH sa b.names.length sc g0 l0 p0 g1 l1 p1 g2 l2 p2 b) 35):=by rw [hW0];exact aq _ _ rfl
 have HX:=hdd fun w' (hb:ah W0 w')=>(by
  have b0:w'.heap[w.heap.size]?=_:=(hb.block _ af).trans k0
  simp [World.cell?,b0] :
  w'.cell? ⟨w.heap.size,0,none⟩=some (.slice sa b.names.length sc)/\w'.cell? ⟨w.heap.size,1,none⟩=some (.slice g0 l0 p0)/\w'.cell? ⟨w.heap.size,2,none⟩=some (.int .i64 b.t0.root)/\w'.cell? ⟨w.heap.size,3,none⟩=some (.slice g1 l1 p1)/\w'.cell? ⟨w.heap.size,4,none⟩=some (.int .i64 b.t1.root)/\w'.cell? ⟨w.heap.size,5,none⟩=some (.slice g2 l2 p2)/\w'.cell? ⟨w.heap.size,6,none⟩=some (.int .i64 b.t2.root)/\w'.cell? ⟨w.heap.size,7,none⟩=some (.int .i64 b.floor))
 have HB:=hdd fun w' (hb:ah W0 w')=>(Below.trans' hb0 hb hb0.size:ah w w')
 obtain⟨x0,x1,x2,x3,x4,x5,x6,x7⟩:=HX.out W0 (aJ _ _)
 have KZ:=hdd fun w' (hb:ah W0 w')=>(iK (lo:=0) (hi:=1099511627776) (T0 w' (HB.out w' hb))).mono fun e w' hp=>n9.allT hp
 have XY:=hdd jk
 clear h hst hsz jk T0 T1 T2
 go_enter Tryd.func30,Tryd.ntmps30
 go_upto_region 1 with (fail)
 rw [<-hW0]
 clear hW0 k0
 cases qz:aQ b with
 |false=>
  have hc:kF b=7:=cS qz
  have HR:=hdd (Nn qz)
  rw [hc]at iB
  clear hc qz
  go_wp2_with ((go_at_call 31;(with_reducible refine(iB.out _ hb0).mono ?_);rintro e w1 ⟨rfl,hb1⟩))
  go_ret2
  rw [HR.out.1,HR.out.2]
  exact⟨HB.out _ hb1,_,rfl,aC.nil _ _⟩
 |true=>
  have hc:kF b=0:=dW qz
  rw [hc]at iB
  obtain⟨l,hl,hrise,hg,-⟩:=iW qz
  have hal:=(lC hl).1
  rw [hal]at KZ
  have CB:=hdd qz
  have HL:=hdd hl
  have HRI:=hdd hrise
  have HG:=hdd hg
  have hll:l.length<=50000:=hg.2.2
  clear hc qz hl hrise hg hal
  go_upto_region 7 with (first|(go_at_call 31;(with_reducible refine(iB.out _ hb0).mono ?_);rintro e w1 ⟨rfl,hb1⟩;obtain⟨x0,x1,x2,x3,x4,x5,x6,x7⟩:=HX.out _ hb1)|(go_at_call 55;(with_reducible refine(KZ.out _ hb1).mono ?_);rintro e w2 ⟨hb2,v2,rfl,Ao⟩;have tB:=Below.trans' hb1 hb2 hb1.size;obtain⟨s2,c2,rfl⟩:=Ao.isSlice))
  have abp:=HB.out _ tB
  by_cases hm:10000<l.length
  ·have WE:decide ((10000:Int)<(l.length:Int))=true:=by simp;omega
   have HR:=hdd (Ke CB.out HL.out hm)
   clear hm
   go_wp2
   go_ret2
   rw [HR.out.1,HR.out.2]
   exact⟨abp,_,rfl,aC.nil _ _⟩
  ·have WE:decide ((10000:Int)<(l.length:Int))=false:=by simp;omega
   have HM:=hdd hm
   have RH:=hdd (Ao.at af)
   have Uv:=hdd (dJ CB.out).n16
   have Ym:=hdd (aM (dJ CB.out).Zb (dJ CB.out).XM)
   have HNS:=hdd (nX CB.out)
   clear hm Ao x0 x1 x2 x3 x4 x5 x6 x7
   obtain⟨x0,x1,x2,x3,x4,x5,x6,x7⟩:=HX.out _ tB
   go_upto_region 9 with (fail)
   clear WE
   obtain⟨W3,hW3⟩:=bQ (w2.alloc (.cells #[.int .u8 119, .int .u8 110] 5 (2,3)))
   have hb3:ah w2 W3:=by rw [hW3];exact ag
   have P8:ah W0 W3:=Below.trans' tB hb3 tB.size
   have k3:W3.heap[w2.heap.size]?=some (.cells #[.int .u8 119, .int .u8 110] 5 (2,3)):=by rw [hW3];exact aq _ _ rfl
   have hz3:W3.heap.size=w2.heap.size+1:=by rw [hW3];simp
   have HN:=hdd (FV (w:=W3) (g:=w2.heap.size) b.names.length (by have:=Uv.out;omega) k3)
   have Rq:=hdd fun w' (hb:ah W3 w')=>HX.out w' (Below.trans' P8 hb P8.size)
   have wO:=hdd fun w' (hb:ah W3 w')=>HB.out w' (Below.trans' P8 hb P8.size)
   have mv:=hdd fun w' (hb:ah W3 w')=>(Below.trans' hb3 hb hb3.size:ah w2 w')
   have hcv:(convert 54 54 (.slice (some ⟨w2.heap.size,0,none⟩) 2 2)).run Tryd.prog (w2.alloc (.cells #[.int .u8 119, .int .u8 110] 5)) = .ok (.slice (some ⟨w2.heap.size,0,none⟩) 2 2) W3:=by
    rw [hW3];exact Joins.run_convert_bytes_const_at (P:=Tryd.prog) w2 54 5 #[.int .u8 119, .int .u8 110] 2 2 w2.heap.size rfl Tryd.underlying54 Tryd.underlying5
   obtain⟨VB,-⟩:=Rq.out _ (aJ _ _)
   clear hW3 k3
   go_upto_region 10 with ((go_at_call 56;(with_reducible refine HN.out.mono ?_);rintro e w4 ⟨hb4,v4,rfl,xX⟩))
   clear VB hcv x0 x1 x2 x3 x4 x5 x6 x7
   obtain⟨x0,x1,x2,x3,x4,x5,x6,x7⟩:=Rq.out _ hb4
   obtain⟨P0,Tx⟩:=bw ([119,110]++az b.names.length)
   have tW:=hdd Tx
   have hl0:P0.length<=11:=by rw [<-Tx,eP];have:=cd (n:=b.names.length) (by have:=Uv.out;omega);simp;omega
   rw [Tx]at xX
   clear Tx
   obtain⟨so4,sc4,rfl⟩:=xX.isSlice
   go_upto_region 11 with (fail)
   go_loopg [7,43] b.names.length (fun g bv i wr=>∃k:Nat,k<=b.names.length/\g=b.names.length-k/\i = .int .i64 k/\aC W3.heap.size wr bv (P0++cI (b.names.take k))/\ah W3 wr)
   case atStart=>exact⟨0,iN _,rfl,rfl,by simpa [cI] using xX,hb4⟩
   case round=>
    clear x0 x1 x2 x3 x4 x5 x6 x7 xX hb4
    obtain⟨k,hk,rfl,rfl,ho,hb⟩:=hrel
    have hsz:=hb.size
    obtain⟨P,hP⟩:=bw (P0++cI (b.names.take k))
    rw [hP]at ho
    obtain⟨so,sF,rfl⟩:=ho.isSlice
    obtain⟨x0,-,-,-,-,-,-,x7⟩:=Rq.out _ hb
    have WH:P.length<=400:=by
     have h1:=rR (ns:=b.names.take k) fun s hs=>HNS.out s (wH hs)
     rw [fw]at h1
     have:=Uv.out
     rw [<-hP,eP];omega
    have HP:=hdd hP
    clear hP
    by_cases hlt:k<b.names.length
    ·obtain⟨_,_,va,-,-,-,-,a5⟩:=XY.out
     obtain⟨ab,aY,hA,xD,ac⟩:=a5 af
     injection va with ZM _ ZL
     subst ZM ZL hA
     have e0:=vG (wO.out _ hb) xD ac hlt
     obtain⟨s,hs⟩:=bw (b.names[k])
     rw [hs]at e0
     have xh:=HNS.out s (by rw [<-hs];exact fO hlt)
     have HST:=hdd (Dq hlt)
     rw [hs]at HST
     have kS:=fun w'=>Ca (ab:=ab) (aY:=aY) (n:=b.names.length) (cap:=sc) (show (k:Int)=((k:Nat):Int) by rfl) hlt w'
     obtain⟨P2,Qc⟩:=bw (P++az s.size)
     have HE:=hdd (show P2++nums s=P0++cI (b.names.take (k+1)) by rw [HST.out,<-Qc,<-HP.out];simp)
     have Ty:Calls Tryd.prog 56 #[.slice so P.length sF, .int .i64 s.size] wr (jW W3.heap.size wr (.slice so P.length sF) (P++az s.size)):=jD (n:=(s.size:Int)) ho hsz af af af
     have aaN:P2.length<=1000000:=by rw [<-Qc,eP];have:=cd (n:=s.size) af;omega
     rw [Qc]at Ty
     have acj:=hdd Ty
     have aao:s.size<=1000000:=af
     have HV:=hdd fun g hg=>(ho.lt g hg).1
     clear hs a5 ac xh WH Qc Ty
     go_wp2_with (first
      |(go_at_call 56;(with_reducible refine acj.out.mono ?_);intro e w5 h5;have cx:=hb.trans (h5.below HV.out hsz);obtain⟨-,v5,rfl,iD,-⟩:=h5;obtain⟨s5,c5,rfl⟩:=iD.isSlice;have kQ:=cx.size)
      |(at_builtin;refine tX rfl (.tmp 50) (.tmp 51) rfl W3.heap.size _ P2 rfl iD s rfl aaN aao kQ ?_;intro v6 w6 Z3 WO;have jY:=WO W3.heap.size W3 cx aI))
     go_roundg (b.names.length-(k+1))
     case measure=>omega
     case rel=>exact⟨k+1,af,rfl,by go_num,by rw [<-HE.out];exact Z3,jY⟩
    ·have hPn:P=P0++cI b.names:=by rw [<-HP.out,kJ af]
     have HPN:=hdd hPn
     obtain⟨F,hF⟩:∃F:Nat,b.floor=F:=⟨b.floor.toNat,by have:=Ym.out;omega⟩
     have hFr:F<=1048575:=by have:=Ym.out;omega
     have HF:=hdd hF
     rw [hF]at x7
     obtain⟨P2,Qc⟩:=bw (P++az F)
     obtain⟨P1,Y6⟩:=bw (P2++az l.length)
     have hl2:P2.length<=410:=by
      have h1:=cd (n:=F) af
      rw [<-Qc,eP];omega
     have KS:P1.length<=420:=by
      have h2:=cd (n:=l.length) af
      rw [<-Y6,eP];omega
     have Tz:Calls Tryd.prog 56 #[.slice so P.length sF, .int .i64 F] wr (jW W3.heap.size wr (.slice so P.length sF) (P++az F)):=jD (n:=(F:Int)) ho hsz af af af
     have KW:∀w5 (v5:Value) (iD:aC W3.heap.size w5 v5 P2) (kQ:W3.heap.size<=w5.heap.size),Calls Tryd.prog 56 #[v5, .int .i64 l.length] w5 (jW W3.heap.size w5 v5 (P2++az l.length)):=fun w5 v5 iD kQ=>jD (n:=(l.length:Int)) iD kQ af af af
     have HBY:=hdd (show P1++dO 0 l=jl b l by rw [<-Y6,<-Qc,HPN.out,<-tW.out];unfold jl;rw [HF.out];simp)
     rw [Qc]at Tz
     rw [Y6]at KW
     have RB:=hdd Tz
     have Fg:=hdd KW
     have HV:=hdd fun g hg=>(ho.lt g hg).1
     clear hPn hF Y6 Qc Tz KW
     go_upto_region 16 with (first
      |(go_at_call 56;(with_reducible refine RB.out.mono ?_);intro e w5 h5;have cx:=hb.trans (h5.below HV.out hsz);obtain⟨-,v5,rfl,iD,-⟩:=h5;obtain⟨s5,c5,rfl⟩:=iD.isSlice;have kQ:=cx.size)
      |(go_at_call 56;(with_reducible refine(Fg.out _ _ iD kQ).mono ?_);intro e w6 h6;have jY:=cx.trans (h6.below (fun g hg=>(iD.lt g hg).1) kQ);obtain⟨-,v6,rfl,Ce,-⟩:=h6;obtain⟨s6,c6,rfl⟩:=Ce.isSlice))
     have abw:=uN (last:=0) HG.out (Int.le_refl 0)
     have hT2:(dO 0 l).length<=540000:=by have:=HM.out;omega
     clear ho hb hsz kQ cx iD x0 x7 WH abw
     go_upto_region 18 with (fail)
     go_loopg [7,10,63] l.length (fun g bv lv i wr=>∃(k:Nat) (last:Int) (pre:List Int),k<=l.length/\g=l.length-k/\i = .int .i64 k/\lv = .int .i64 last/\aC W3.heap.size wr bv (P1++pre)/\Hid (dO 0 l=pre++dO last (l.drop k))/\Hid (0<=last/\∀e∈l.drop k,last<=e.key)/\ah W3 wr)
     case atStart=>exact⟨0,0,[],iN _,rfl,rfl,rfl,by simpa using Ce,hdd rfl,hdd ⟨Int.le_refl 0,fun e he=>(HG.out.2.1 e he).1⟩,jY⟩
     case round=>
      clear Ce jY
      obtain⟨k,last,pre,hk,rfl,rfl,rfl,ho,Uq,RD,hb⟩:=hrel
      have hsz:=hb.size
      have hpl:pre.length<=540000:=by
       have:=congrArg List.length Uq.out
       rw [eP]at this;omega
      obtain⟨Q,hQ⟩:=bw (P1++pre)
      rw [hQ]at ho
      have PS:Q.length<=541000:=by rw [<-hQ,eP];omega
      have HQ:=hdd hQ
      obtain⟨so,sF,rfl⟩:=ho.isSlice
      clear hQ hpl
      by_cases hlt:k<l.length
      ·obtain⟨_,_,hv,-,-,-,-,h5⟩:=RH.out
       injection hv with hv1 _ hv3
       subst hv1 hv3
       obtain⟨eb,bZ,lR,rW,nH⟩:=h5 af
       subst lR
       obtain⟨y0,y1,y2,y3,y4,y5,y6⟩:=bR (mv.out _ hb) rW nH hlt
       obtain⟨y,hy⟩:=bw (l[k])
       rw [hy]at y0 y1 y2 y3 y4 y5 y6
       have CI:y∈l:=by rw [<-hy];exact fO hlt
       have IB:y∈l.drop k:=by rw [vg hlt,hy];simp
       obtain⟨ie,hk1⟩:=HG.out.2.1 y CI
       obtain⟨hgd,hcc⟩:=cj (HG.out.1 y CI).2 (HG.out.1 y CI).1
       have hsm:=qX hgd hcc
       obtain⟨g0',g1',g2',g3',g4',g5',g6',-⟩:=hgd
       have afZ:=RD.out.1
       have afY:=RD.out.2 y IB
       have HST:=hdd (G5 (last:=last) hlt)
       rw [hy]at HST
       have Zr:=hdd (show 0<=y.key/\∀e∈l.drop (k+1),y.key<=e.key from ⟨ie,fun e he=>by
        obtain⟨i,hi,rfl⟩:=kW he
        rw [List.getElem_drop]
        have h1:=pz.1 HRI.out k (k+1+i) hlt (by rw [oJ]at hi;omega) af
        rw [hy]at h1;omega⟩)
       have m1:IntKind.i64.wrap (y.key-last)=y.key-last:=IntWalk.i64_in _ af
       have kS:=fun w'=>dD (ab:=eb) (aY:=bZ) (n:=l.length) (cap:=c2) (show (k:Int)=((k:Nat):Int) by rfl) hlt w'
       have hwz:eb<wr.heap.size:=by have:=(mv.out _ hb).size;omega
       obtain⟨W1,hW1⟩:=bQ (wr.alloc (.cells #[.int .i64 y.key, .int .i64 y.is.c, .int .i64 y.is.s, .int .i64 y.is.mi, .int .i64 y.is.ma, .int .i64 y.is.t, .int .i64 y.is.l] 96))
       have pj:ah W3 W1:=by rw [hW1];exact ag
       have hz1:W1.heap.size=wr.heap.size+1:=by rw [hW1];simp
       have k1:W1.heap[wr.heap.size]?=some (.cells #[.int .i64 y.key, .int .i64 y.is.c, .int .i64 y.is.s, .int .i64 y.is.mi, .int .i64 y.is.ma, .int .i64 y.is.t, .int .i64 y.is.l] 96):=by rw [hW1];exact aq _ _ rfl
       have NY:=hdd fun(w':World) (X:Nat->Prop) (ht:aw X W1 w') (hX:¬X wr.heap.size)=>(by
        have b0:w'.heap[wr.heap.size]?=_:=(ht.block _ af hX).trans k1
        simp [World.cell?,b0]:w'.cell? ⟨wr.heap.size,0,none⟩=some (.int .i64 y.key)/\w'.cell? ⟨wr.heap.size,1,none⟩=some (.int .i64 y.is.c)/\w'.cell? ⟨wr.heap.size,2,none⟩=some (.int .i64 y.is.s)/\w'.cell? ⟨wr.heap.size,3,none⟩=some (.int .i64 y.is.mi)/\w'.cell? ⟨wr.heap.size,4,none⟩=some (.int .i64 y.is.ma)/\w'.cell? ⟨wr.heap.size,5,none⟩=some (.int .i64 y.is.t)/\w'.cell? ⟨wr.heap.size,6,none⟩=some (.int .i64 y.is.l))
       have Ap:aC W3.heap.size W1 (.slice so Q.length sF) Q:=by rw [hW1];exact ho.alloc _
       have hnb:(Value.slice so Q.length sF).ownBlock≠some wr.heap.size:=fun h=>by have:=(ho.lt _ h).2;omega
       obtain⟨q0,q1,q2,q3,q4,q5,q6⟩:=NY.out W1 (fun _=>False) (aw.refl _ _) (fun h=>h)
       obtain⟨Q1,Y5⟩:=bw (Q++az (y.key-last).toNat)
       obtain⟨Q2,Y4⟩:=bw (Q1++az y.is.c.toNat)
       have ag3:Q1.length<=541009:=by rw [<-Y5,eP];have:=cd (n:=(y.key-last).toNat) af;omega
       have ag1:Q2.length<=541018:=by rw [<-Y4,eP];have:=cd (n:=y.is.c.toNat) af;omega
       have Tz:=jD (n:=y.key-last) Ap pj.size af af af
       have KW:∀w5 (v5:Value) (iD:aC W3.heap.size w5 v5 Q1) (kQ:W3.heap.size<=w5.heap.size),Calls Tryd.prog 56 #[v5, .int .i64 y.is.c] w5 (jW W3.heap.size w5 v5 (Q1++az y.is.c.toNat)):=fun w5 v5 iD kQ=>jD (n:=y.is.c) iD kQ af af af
       rw [Y5]at Tz
       rw [Y4]at KW
       have RB:=hdd Tz
       have Fg:=hdd KW
       have HQQ:=hdd (show Q2=P1++(pre++(az (y.key-last).toNat++az y.is.c.toNat)) by rw [<-Y4,<-Y5,<-HQ.out];simp)
       have HV1:=hdd fun g hg=>(Ap.lt g hg).1
       have Ff:=hdd hnb
       clear nH h5 hy CI IB Y5 Y4 Tz KW hnb
       go_upto_region 20 with (fail)
       rw [<-hW1]
       clear hW1 k1 ho y0 y1 y2 y3 y4 y5 y6
       go_upto_region 21 with ((go_at_call 56;(with_reducible refine RB.out.mono ?_);intro e w5 h5;have cx:=pj.trans (h5.below HV1.out pj.size);obtain⟨qq,v5,rfl,iD,U7⟩:=h5;obtain⟨s5,c5,rfl⟩:=iD.isSlice;have kQ:=cx.size))
       have Wy:(Value.slice s5 Q1.length c5).ownBlock≠some wr.heap.size:=fun h=>by
        rcases U7 _ h with h'|h'
        ·exact Ff.out h'
        ·omega
       clear q0 q1 q2 q3 q4 q5 q6
       obtain⟨q0,q1,q2,q3,q4,q5,q6⟩:=NY.out w5 _ qq Ff.out
       have aa3:wr.heap.size<w5.heap.size:=by have:=qq.size;omega
       have acr:=hdd Wy
       clear Wy U7
       go_upto_region 23 with ((go_at_call 56;(with_reducible refine(Fg.out _ _ iD kQ).mono ?_);intro e w6 h6;have jY:=cx.trans (h6.below (fun g hg=>(iD.lt g hg).1) kQ);obtain⟨ht6,v6,rfl,Ce,U6⟩:=h6;obtain⟨s6,c6,rfl⟩:=Ce.isSlice;have uC:=jY.size))
       have We:aw (fun x=>(Value.slice so Q.length sF).ownBlock=some x\/(Value.slice s5 Q1.length c5).ownBlock=some x) W1 w6:=
        (qq.mono (fun i _ h=> .inl h)).trans' ht6 (fun i _ h=> .inr h)
       clear q0 q1 q2 q3 q4 q5 q6
       obtain⟨q0,q1,q2,q3,q4,q5,q6⟩:=NY.out w6 _ We (fun h=>h.elim Ff.out acr.out)
       obtain⟨Z,hZ⟩:=bw ([y.is.s,y.is.mi,y.is.ma,y.is.l])
       have Rg:Z.length=4:=by rw [<-hZ];rfl
       have HZB:=hdd (show ∀n∈Z,-4611686018427387903<=n/\n<4611686018427387904 from fun n hn=>by rw [<-hZ]at hn;simp at hn;omega)
       obtain⟨W7,jz⟩:=bQ (w6.alloc (.cells #[.int .i64 y.is.s, .int .i64 y.is.mi, .int .i64 y.is.ma, .int .i64 y.is.l] 3))
       have sI:ah W3 W7:=by rw [jz];exact ag
       have DU:W7.heap.size=w6.heap.size+1:=by rw [jz];simp
       have k7:W7.heap[w6.heap.size]?=some (.cells #[.int .i64 y.is.s, .int .i64 y.is.mi, .int .i64 y.is.ma, .int .i64 y.is.l] 3):=by rw [jz];exact aq _ _ rfl
       have Zg:=hdd fun(w':World) (X:Nat->Prop) (ht:aw X W7 w') (hX:¬X w6.heap.size) (j:Nat) (hj:j<Z.length)=>(by
        have b0:w'.heap[w6.heap.size]?=_:=(ht.block _ af hX).trans k7
        subst hZ
        match j,hj with
        |0,_=>simp [World.cell?,b0]
        |1,_=>simp [World.cell?,b0]
        |2,_=>simp [World.cell?,b0]
        |3,_=>simp [World.cell?,b0]:w'.cell? ⟨w6.heap.size,j,none⟩=some (.int .i64 Z[j]))
       have ho7:aC W3.heap.size W7 (.slice s6 Q2.length c6) Q2:=by rw [jz];exact Ce.alloc _
       have Wx:(Value.slice s6 Q2.length c6).ownBlock≠some w6.heap.size:=fun h=>by have:=(Ce.lt _ h).2;omega
       have acp:=hdd Wx
       have HEL:=hdd (show P1++(pre++uO last y)=Q2++Z.flatMap dA by rw [HQQ.out,<-hZ];simp [uO])
       have acG:=hdd (show dO 0 l=(pre++uO last y)++dO y.key (l.drop (k+1)) by rw [Uq.out,HST.out];simp)
       have HV6:=hdd fun g hg=>(ho7.lt g hg).1
       have CD:=hdd sI
       clear Wx hZ Ce ht6 U6 jY We qq iD cx NY RB Fg aa3 kQ
       go_upto_region 24 with (fail)
       rw [<-jz]
       clear jz k7 q0 q1 q2 q3 q4 q5 q6
       go_loopg [7,94] 4 (fun g bv i wr2=>∃(j:Nat) (bs:List Int),j<=4/\g=4-j/\i = .int .i64 j/\aC W3.heap.size wr2 bv bs/\Hid (bs=Q2++(Z.take j).flatMap dA)/\bs.length<=541018+9*j/\Hid (aw (fun x=>(Value.slice s6 Q2.length c6).ownBlock=some x) W7 wr2)/\Hid (∀x,bv.ownBlock=some x->(Value.slice s6 Q2.length c6).ownBlock=some x\/W7.heap.size<=x))
       case atStart=>exact⟨0,Q2,af,rfl,rfl,ho7,hdd bq,af,hdd (aw.refl _ _),hdd fun x hx=> .inl hx⟩
       case round=>
        obtain⟨j,bs,hj,rfl,rfl,oN,UE,hbl,KG,Od⟩:=hrel
        obtain⟨so8,sc8,rfl⟩:=oN.isSlice
        have di:=KG.out.below CD.out (by have:=CD.out.size;omega) (fun i hi=>HV6.out i hi)
        have aam:=di.size
        by_cases hj4:j<4
        ·have U8:j<Z.length:=af
         have e0:=Zg.out wr _ KG.out acp.out j U8
         obtain⟨n,hn⟩:=bw (Z[j])
         rw [hn]at e0
         obtain⟨n1,n2⟩:=HZB.out n (by rw [<-hn];exact fO U8)
         have kS:=fun w'=>lQ (ab:=w6.heap.size) (aY:=0) (n:=4) (cap:=4) (show (j:Int)=((j:Nat):Int) by rfl) hj4 w'
         simp only [iM]at kS
         obtain⟨bs2,P5⟩:=bw (bs++dA n)
         have hN8:=Fz (n:=n) oN aam n1 n2 af
         rw [P5]at hN8
         have HN8:=hdd hN8
         have acQ:=hdd (show bs2=Q2++(Z.take (j+1)).flatMap dA by
          rw [mn U8,tM,hn,<-P5,UE.out];simp)
         have Tm:bs2.length<=541018+9*(j+1):=by rw [<-P5,eP];have:=qE (n:=n) n1 n2;omega
         clear hn P5 hN8 U8
         go_wp2_with ((go_at_call 57;(with_reducible refine HN8.out.mono ?_);rintro e w9 ⟨UZ,v9,rfl,SK,hl9⟩;obtain⟨s9,c9,rfl⟩:=SK.isSlice))
         go_roundg (4-(j+1))
         case measure=>omega
         case rel=>
          refine⟨j+1,bs2,af,rfl,by go_num,SK,acQ,Tm,hdd (KG.out.trans' UZ fun i hi hx=>?_),hdd fun x hx=>?_⟩
          ·rcases Od.out i hx with h|h
           ·exact h
           ·omega
          ·rcases hl9 x hx with h|h
           ·exact Od.out x h
           ·exact .inr (by have:=KG.out.size;omega)
        ·have hj':j=4:=af
         have UA:=hdd (show bs=P1++(pre++uO last y) by rw [UE.out,HEL.out,kJ af])
         go_wp2
         go_roundg (l.length-(k+1))
         case measure=>omega
         case rel=>exact⟨k+1,y.key,pre++uO last y,af,rfl,by go_num,rfl,by rw [<-UA.out];exact oN,acG,Zr,di⟩
      ·have hall:Q=jl b l:=by
        have h1:=Uq.out
        rw [AA af]at h1
        have h2:dO last []=[]:=by cases l <;> rfl
        rw [h2,nM]at h1
        rw [<-HQ.out,<-h1,HBY.out]
       have fe:=hdd hall
       have HBB:=hdd (xw b l)
       rw [<-hall]at HBB
       have hsr:=mO Q
       obtain⟨p,hp⟩:=bw (gj Q)
       obtain⟨X,Y⟩:=p
       rw [hp]at hsr
       obtain⟨r1,r2,r3,r4⟩:=hsr
       simp only at r1 r2 r3 r4
       have hS:=Ih (ho.at af) HBB.out
       rw [hp]at hS
       obtain⟨N,hN⟩:=bw (Y*65536+X)
       rw [show ((X,Y):Int×Int).2*65536+((X,Y):Int×Int).1=N from hN]at hS
       have HS:=hdd hS
       have OO:=hdd (show j6 Q=[Y/256,Y%256,X/256,X%256] by simp [j6,hp])
       have lw:IntKind.i64.wrap ((Q.length:Int)+4)=(Q.length:Int)+4:=IntWalk.i64_in _ af
       have u1:IntKind.u8.wrap (N/16777216)=Y/256:=by rw [IntKind.wrap_u8];omega
       have u2:IntKind.u8.wrap (N/65536)=Y%256:=by rw [IntKind.wrap_u8];omega
       have u3:IntKind.u8.wrap (N/256)=X/256:=by rw [IntKind.wrap_u8];omega
       have u4:IntKind.u8.wrap N=X%256:=by rw [IntKind.wrap_u8];omega
       have Tk:=wO.out _ hb
       obtain⟨A1,XK⟩:=bw (Y/256)
       obtain⟨A2,Y9⟩:=bw (Y%256)
       obtain⟨A3,Vh⟩:=bw (X/256)
       obtain⟨A4,Vg⟩:=bw (X%256)
       rw [XK]at u1 OO
       rw [Y9]at u2 OO
       rw [Vh]at u3 OO
       rw [Vg]at u4 OO
       have aaw:Q.length<=1000000:=af
       clear hall hp hS hN XK Y9 Vh Vg r1 r2 r3 r4
       by_cases pd:200000<Q.length+4
       ·have hd:decide ((200000:Int)<(Q.length:Int)+4)=true:=by simp;omega
        have HR:=hdd (Kf CB.out HL.out HM.out (by rw [<-fe.out];exact pd))
        clear pd
        go_wp2_with ((go_at_call 58;(with_reducible refine HS.out.mono ?_);rintro e w9 ⟨rfl,hw9⟩;obtain rfl:=hw9.symm))
        go_ret2
        rw [HR.out.1,HR.out.2]
        exact⟨Tk,_,rfl,aC.nil _ _⟩
       ·have hd:decide ((200000:Int)<(Q.length:Int)+4)=false:=by simp;omega
        have HR:=hdd (IY CB.out HL.out HM.out (by rw [<-fe.out];exact pd))
        rw [<-fe.out,OO.out]at HR
        clear pd
        have PI:w.heap.size<=W3.heap.size:=by have:=(wO.out _ (aJ _ _)).size;omega
        have hV9:=hdd fun g hg=>(ho.lt g hg).1
        go_wp2_with (first
         |(go_at_call 58;(with_reducible refine HS.out.mono ?_);rintro e w9 ⟨rfl,hw9⟩;obtain rfl:=hw9.symm)
         |(at_builtin;refine jh rfl (.tmp 109) (.tmp 121) rfl W3.heap.size _ Q rfl (by repeat (first|assumption|with_reducible refine aC.alloc ?_ _|with_reducible refine aC.drewN ?_ _|with_reducible refine aC.drew ?_)) ⟨_,0,none⟩ 4 4 [A1,A2,A3,A4] rfl rfl (fun j u h=>uW (by simpa [xt] using h)) aaw bq (by first|omega|(simp;done)|(simp;omega)|(simp [aL];done)|(simp [aL];omega)) ?_;intro v9 w9 Z2 UZ _;have oO:ah W3 w9:=UZ.below (show ah W3 _ from ag) (by first|omega|(simp;done)|(simp;omega)|(simp [aL];done)|(simp [aL];omega)) (fun i hi=>hV9.out i hi)))
        go_ret2
        rw [HR.out.1,HR.out.2]
        exact⟨wO.out _ oO,_,rfl,Z2.mono PI⟩
end
end Go.Proofs.YtmljjfhgciaceaaDoor
