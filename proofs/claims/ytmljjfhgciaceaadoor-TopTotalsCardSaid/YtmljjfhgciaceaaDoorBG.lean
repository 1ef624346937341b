/- Texts of mine that come as one: FileP Bytes Enc Seal Encode. -/
import Derived.Test.YtmljjfhgciaceaaDoorHd
import Derived.Test.YtmljjfhgciaceaaDoorBK
import Derived.Laws.Bits128
import Derived.Lib.EndianBits
import Derived.Lib.AppendStr
import Derived.Laws.BytesArg
import Derived.Lib.SlBytesConst
import Derived.Maps.AppendAt
import Derived.Test.YtmljjfhgciaceaaDoorSR
import Derived.Test.YtmljjfhgciaceaaDoorPC
import Derived.Test.YtmljjfhgciaceaaDoorPS
namespace Go.Proofs.YtmljjfhgciaceaaDoor
section
variable {n:Nat}
def ay (n:Nat):List Int:=if n<128 then [(n:Int)] else(128+(n%128:Nat):Int)::ay (n/128)
termination_by n
theorem jD (h:n<128):ay n=[(n:Int)]:=by rw [ay,ar h]
theorem lV (h:¬n<128):ay n=(128+(n%128:Nat):Int)::ay (n/128):=by rw [ay,ai h]
theorem yV:∀(k n:Nat),n<128 ^ (k+1)->(ay n).length<=k+1
 |0,n,h=>by rw [jD (by simpa using h)];simp
 |k+1,n,h=>by
  by_cases hn:n<128
  ·rw [jD hn];simp
  ·rw [lV hn,gp]
   have:n/128<128 ^ (k+1):=by
    rw [Nat.div_lt_iff_lt_mul aW]
    rw [Nat.pow_succ]at h;exact h
   have:=yV k (n/128) this
   omega
theorem cg (h:n<9223372036854775808):(ay n).length<=9:=yV 8 n (by simpa using h)
theorem tj (n:Nat):0<(ay n).length:=by
 rw [ay];split <;> simp
theorem gX:∀(n:Nat),∀c∈ay n,0<=c/\c<=255:=by
 intro n
 induction n using Nat.strongRecOn with
 |_ n ih=>
  by_cases hn:n<128
  ·rw [jD hn];intro c hc;simp at hc;omega
  ·rw [lV hn]
   intro c hc
   rcases fk.1 hc with rfl|hc
   ·omega
   ·exact ih (n/128) af c hc
def dt (n:Int):List Int:=if n<0 then ay (-2*n-1).toNat else ay (2*n).toNat
def cH (ns:List ByteArray):List Int:=ns.flatMap fun s=>ay s.size++nums s
def uN (last:Int) (e:aC):List Int:=ay (e.key-last).toNat++ay e.is.c.toNat++dt e.is.s++dt e.is.mi++dt e.is.ma++dt e.is.l
def dN:Int->List aC->List Int
 |_,[]=>[]
 |last,e::l=>uN last e++dN e.key l
def jm (b:Ba) (l:List aC):List Int:=[119,110]++ay b.names.length++cH b.names++ay b.floor.toNat++ay l.length++dN 0 l
def lW (p:Int×Int) (c:Int):Int×Int:=((p.1+c)%65521,(p.2+(p.1+c)%65521)%65521)
def gq (bs:List Int):Int×Int:=bs.foldl lW (1,0)
def ju (bs:List Int):List Int:=[(gq bs).2/256,(gq bs).2%256,(gq bs).1/256,(gq bs).1%256]
noncomputable def A8 (b:Ba):Int:=
 if aO b=false then 7 else match bY b with|none=>0|some l=>if 10000<l.length then 1 else if 200000<(jm b l).length+4 then 1 else 0
noncomputable def A7 (b:Ba):List Int:=
 if aO b=false then []else match bY b with|none=>[]|some l=>if 10000<l.length then []else if 200000<(jm b l).length+4 then []else jm b l++ju (jm b l)
theorem FZ (bs:List Int):∀(p:Int×Int),(0<=p.1/\p.1<65521/\0<=p.2/\p.2<65521)->(0<=(bs.foldl lW p).1/\(bs.foldl lW p).1<65521/\0<=(bs.foldl lW p).2/\(bs.foldl lW p).2<65521):=by
 induction bs with
 |nil=>intro p hp;exact hp
 |cons c bs ih=>
  intro p hp
  rw [List.foldl_cons]
  refine ih _ ?_
  unfold lW
  simp only
  omega
theorem mH (bs:List Int):0<=(gq bs).1/\(gq bs).1<65521/\0<=(gq bs).2/\(gq bs).2<65521:=FZ bs (1,0) aW
theorem Dk {bs:List Int} {k:Nat} (hk:k<bs.length):gq (bs.take (k+1))=lW (gq (bs.take k)) bs[k]:=by
 unfold gq;rw [kK hk,List.foldl_append];rfl
def aN (l:List Int):Prop:=∀c∈l,0<=c/\c<=255
theorem aN.app {a b:List Int} (ha:aN a) (hb:aN b):aN (a++b):=fun c hc=>by
 rcases kJ.1 hc with h|h
 ·exact ha c h
 ·exact hb c h
theorem pB (n:Int):aN (dt n):=by unfold dt;split <;> exact gX _
theorem F4 (bs:List Int):aN (ju bs):=by
 have:=mH bs
 intro c hc
 simp [ju]at hc
 omega
theorem DJ (ns:List ByteArray):aN (cH ns):=fun c hc=>by
 obtain⟨s,_,hs⟩:=List.mem_flatMap.1 hc
 exact(aN.app (gX _) (zk s)) c hs
theorem zY:∀(l:List aC) (last:Int),aN (dN last l)
 |[],_=>fun c hc=>by cases hc
 |e::l,last=>aN.app (((((aN.app (gX _) (gX _)).app (pB _)).app (pB _)).app (pB _)).app (pB _)) (zY l e.key)
theorem xK (b:Ba) (l:List aC):aN (jm b l):=
 ((((aN.app (fun c hc=>by simp at hc;omega) (gX _)).app (DJ _)).app (gX _)).app (gX _)).app (zY l 0)
theorem qH {n:Int} (h1 : -4611686018427387903<=n) (h2:n<4611686018427387904):(dt n).length<=9:=by
 unfold dt
 split
 ·exact cg af
 ·exact cg af
theorem rZ:∀{ns:List ByteArray},(∀s∈ns,s.size<=10)->(cH ns).length<=19*ns.length
 |[],_=>by simp [cH]
 |s::ns,h=>by
  have h1:=h s bj
  have h2:=rZ (ns:=ns) fun x hx=>h x (by simp [hx])
  have h3:=cg (n:=s.size) af
  have e:cH (s::ns)=(ay s.size++nums s)++cH ns:=rfl
  rw [e,dO,dO,nums_length,gp]
  omega
theorem uM:∀{l:List aC} {last:Int},dX l->0<=last->(dN last l).length<=54*l.length
 |[],_,_,_=>by simp [dN]
 |e::l,last,h,hl=>by
  obtain⟨g1,g2⟩:=h.2.1 e bj
  have hc:=h.1 e bj
  obtain⟨hg,hcc⟩:=dg hc.2 hc.1
  have hs:=ru hg hcc
  have h2:=uM (l:=l) (last:=e.key) ⟨fun x hx=>h.1 x (by simp [hx]),fun x hx=>h.2.1 x (by simp [hx]),by have:=h.2.2;simp at this;omega⟩ g1
  obtain⟨k0,k1,k2,k3,k4,k5,k6,_⟩:=hg
  have a1:=cg (n:=(e.key-last).toNat) af
  have a2:=cg (n:=e.is.c.toNat) af
  have a3:=qH (n:=e.is.s) af af
  have a4:=qH (n:=e.is.mi) af af
  have a5:=qH (n:=e.is.ma) af af
  have a6:=qH (n:=e.is.l) af af
  simp only [dN,uN,dO,gp]
  omega
end
open Go.RowKit
section
set_option maxRecDepth 100000
set_option maxHeartbeats 1000000
variable {a:Act} {ops:Array Oper} {Q:Exit->Act->World->Prop} {n:Int} {es xs:List Int} {rest:List Oper} {B C:Nat} {o:Oper} {w w':World}
def xI (n:Int):List Value:=[.int .u8 n]
theorem Ho (n:Int):(xI n).length=1:=rfl
theorem Jb (xs:List Int):∀u∈xs.flatMap xI,u.oneCell'=true:=by
 intro u hu
 obtain⟨x,_,hx⟩:=List.mem_flatMap.1 hu
 simp [xI]at hx
 subst hx;rfl
theorem uO (xs:List Int):xs.flatMap xI=xs.map (Value.int .u8):=by
 induction xs with
 |nil=>rfl
 |cons x xs ih=>rw [gQ,ih];rfl
theorem jB (xs:List Int):(xs.flatMap xI).length=xs.length:=by rw [uO,oJ]
abbrev fw (w:World) (v:Value) (xs:List Int):Prop:=dK 1 1 xI w v xs
theorem Tryd.QS:(Tryd.prog.info? 5).map (fun i=>(i.zero.map (fun z=>z.cells.size),i.size,i.bytes))=some (some 1,1,1):=bT
theorem Tryd.Vz:(Tryd.prog.info? 5).map (fun i=>(i.zero,i.size,i.bytes))=some (some (.int .u8 0),1,1):=bT
structure az (B:Nat) (w:World) (v:Value) (es:List Int):Prop where
 row:w.ownsRow B 5 1 v es.length (es.flatMap xI)
theorem az.nil (B:Nat) (w:World):az B w (.slice none 0 0) []:=⟨World.ownsRow_nil _ _ _ _⟩
theorem az.alloc {v:Value} (h:az B w v es) (o:Obj):az B (w.alloc o) v es:=⟨World.ownsRow.alloc h.row o⟩
theorem az.block {v:Value} (h:az B w v es) (hb:∀g,v.ownBlock=some g->w'.heap[g]?=w.heap[g]?):az B w' v es:=by
 obtain⟨hl,⟨rfl,h0⟩|⟨g,cap,cur,rfl,hB,hg,h1,h2,h3,h4⟩⟩:=h.row
 ·exact⟨⟨hl, .inl ⟨rfl,h0⟩⟩⟩
 ·exact⟨⟨hl, .inr ⟨g,cap,cur,rfl,hB,(hb g rfl).trans hg,h1,h2,h3,h4⟩⟩⟩
theorem az.drew {v:Value} (h:az B w v es):az B w.drew v es:=h.block fun _ _=>rfl
theorem az.drewN {v:Value} (h:az B w v es) (n:Nat):az B (w.drewN n) v es:=h.block fun _ _=>rfl
theorem az.lt {v:Value} (h:az B w v es):∀g,v.ownBlock=some g->B<=g/\g<w.heap.size:=World.ownsRow.lt h.row
theorem az.below {v:Value} (h:az B w v es) (hb:Below C w w') (hC:w.heap.size<=C):az B w' v es:=h.block fun g hg=>hb.block g (by have:=(h.lt g hg).2;omega)
theorem az.mono {v:Value} (h:az B w v es) (hC:C<=B):az C w v es:=by
 obtain⟨hl,⟨rfl,h0⟩|⟨g,cap,cur,rfl,hB,hg,h1,h2,h3,h4⟩⟩:=h.row
 ·exact⟨⟨hl, .inl ⟨rfl,h0⟩⟩⟩
 ·exact⟨⟨hl, .inr ⟨g,cap,cur,rfl,af,hg,h1,h2,h3,h4⟩⟩⟩
theorem az.at {v:Value} (h:az B w v es) (hs:es.length<=1000000):fw w v es:=dK.owned Ho h.row rfl af
theorem az.isSlice {v:Value} (h:az B w v es):∃ao cap,v = .slice ao es.length cap:=by
 obtain⟨hl,⟨rfl,h0⟩|⟨g,cap,cur,rfl,_⟩⟩:=h.row
 ·exact⟨none,0,by rw [h0]⟩
 ·exact⟨_,_,rfl⟩
theorem ji (hgd:o.guard=none) (s x:Operand)
  (ho:o.op = .call { callee:= .builtin .append,args:=#[s,x],argTypes:=#[54,54] }) (B:Nat) (v:Value) (es:List Int) (hs:a.eval s=v) (hown:az B w v es)
  (ad:Addr) (m c:Nat) (ys:List Int) (hm:m=ys.length) (hx:a.eval x = .slice (some ad) m c) (hnews:∀j u,(ys.flatMap xI)[j]?=some u->w.cell? (ad.add j)=some u) (hlen:es.length<=1000000) (Q7:ys.length<=1000000) (hbase:B<=w.heap.size)
  (h:∀v' w',az B w' v' (es++ys)->aa0 (fun b=>v.ownBlock=some b) w w'->(∀b,v'.ownBlock=some b->v.ownBlock=some b\/w.heap.size<=b)->wpList Tryd.prog ops Q rest (a.put o.dst v') w'):wpList Tryd.prog ops Q (o::rest) a w:=by
 subst hm
 obtain⟨i0,z,hi,hz,hz1,hz2,hz3⟩:=cj Tryd.QS
 refine wpList_append_own_at w hgd s x 54 ho B 5 i0 z 1 1 Tryd.underlying54 hi hz hz1 hz2 hz3 aW v es.length _ hs hown.row ad ys.length c (ys.flatMap xI) hx (by rw [jB];omega) hnews (Jb ys) (by unfold maxLen;omega) af hbase ?_
 intro v' w' hown' hg _ hloc
 refine h v' w' ?_ (aa0.grown (aa0.refl _ _) hg (fun k hk=> .inl hk)) (fun b hb=>by
  rcases hloc with h|h
  ·exact .inl (h.symm.trans hb)
  ·rw [hb]at h;injection h with h;exact .inr af)
 have:(es++ys).flatMap xI=es.flatMap xI++ys.flatMap xI:=bj
 refine⟨?_⟩
 rw [this,dO]
 exact hown'
theorem AH (s:ByteArray):Lib.strCells s=(nums s).flatMap xI:=by
 rw [uO];simp [Lib.strCells,nums]
theorem tY (hgd:o.guard=none) (s x:Operand)
  (ho:o.op = .call { callee:= .builtin .append,args:=#[s,x],argTypes:=#[54,9] }) (B:Nat) (v:Value) (es:List Int) (hs:a.eval s=v) (hown:az B w v es)
  (st:ByteArray) (hx:a.eval x = .string st) (hlen:es.length<=1000000) (Q7:st.size<=1000000) (hbase:B<=w.heap.size)
  (h:∀v' w',az B w' v' (es++nums st)->(∀C W,Below C W w->C<=B->Below C W w')->wpList Tryd.prog ops Q rest (a.put o.dst v') w'):wpList Tryd.prog ops Q (o::rest) a w:=by
 obtain⟨i0,hi,hz,hz1,hz2⟩:∃i0,Tryd.prog.info? 5=some i0/\i0.zero=some (.int .u8 0)/\i0.size=1/\i0.bytes=1:=by
  have:=Tryd.Vz
  cases h:Tryd.prog.info? 5 with
  |none=>rw [h]at this;cases this
  |some i=>rw [h]at this;simp at this;exact⟨i,rfl,this.1,this.2.1,this.2.2⟩
 refine Lib.wpList_append_own_string w hgd s x 54 9 ho B 5 i0 Tryd.underlying54 Tryd.underlying9 hi hz hz1 hz2 v es.length _ hs hown.row st hx (by unfold maxLen;omega) af hbase ?_
 intro v' w' hown' hg _
 refine h v' w' ?_ fun C W hb hC=>Below.grown hb hg af (fun j hj=>by have:=(hown.lt j hj).1;omega)
 refine⟨?_⟩
 rw [tR,dO,nums_length,<-AH]
 exact hown'
theorem uV {C:Array Value} {T:TypeId} {j:Nat} {u:Value} (h:C[j]?=some u):(w.alloc (.cells C T)).cell? (Addr.add ⟨w.heap.size,0,none⟩ j)=some u:=by
 have ha:Addr.add ⟨w.heap.size,0,none⟩ j=⟨w.heap.size,j,none⟩:=by simp [Addr.add];omega
 have hk:(w.alloc (.cells C T)).heap[w.heap.size]?=some (.cells C T):=by show (w.heap.push _)[w.heap.size]?=_;simp
 rw [ha];simp only [World.cell?,hk];exact h
theorem J2 (n:Int):bits .or .i64 (n%128) 128=128+n%128:=by
 rw [bits_join_low .i64 63 aW (fun n h0 h1=>IntWalk.i64_in _ af) 7 (n%128) 128 af af af af af af];omega
theorem Ch (h0:0<=n) (h1:n<=255):IntKind.u8.wrap n=n:=by
 rw [IntKind.wrap_u8];omega
def j6 (B:Nat) (w:World) (v:Value) (xs:List Int) (e:Ending) (w':World):Prop:=
 aa0 (fun b=>v.ownBlock=some b) w w'/\∃v',e = .returned v'/\az B w' v' xs/\∀b,v'.ownBlock=some b->v.ownBlock=some b\/w.heap.size<=b
theorem jF {v:Value} (hown:az B w v xs) (hB:B<=w.heap.size) (hn:0<=n) (xE:n<9223372036854775808) (hlen:xs.length<=990000) :
  Calls Tryd.prog 56 #[v, .int .i64 n] w (j6 B w v (xs++ay n.toNat)):=by
 obtain⟨ao,cap,rfl⟩:=hown.isSlice
 obtain⟨m,rfl⟩:=Int.eq_ofNat_of_zero_le hn
 have HT:=hdd (show (xs++ay m).length<=990009 by rw [dO];have:=cg (n:=m) af;omega)
 go_enter Tryd.func56,Tryd.ntmps56
 go_wp2_with fail
 go_loopg [0,1] m (fun g bv nv wr=>∃(k:Nat) (ys:List Int),g=k/\nv = .int .i64 k/\k<9223372036854775808/\az B wr bv ys/\Hid (ys++ay k=xs++ay m)/\Hid (aa0 (fun b=>(Value.slice ao xs.length cap).ownBlock=some b) w wr)/\Hid (∀b,bv.ownBlock=some b->(Value.slice ao xs.length cap).ownBlock=some b\/w.heap.size<=b))
 case atStart=>exact⟨m,xs,rfl,rfl,af,hown,hdd rfl,hdd (aa0.refl _ _),hdd fun b hb=> .inl hb⟩
 case round=>
  obtain⟨k,ys,Fx,rfl,hk,ho,HY,KR,Oc⟩:=hrel
  obtain rfl:=Fx.symm
  obtain⟨so,sc,rfl⟩:=ho.isSlice
  have hsz:B<=wr.heap.size:=ik hB KR.out.size
  have C7:ys.length<=1000000:=by
   have h1:=HT.out
   rw [<-HY.out,dO]at h1
   omega
  have hsl:(1:Nat)<=1000000:=af
  have HTT:=hdd fun w2 (w3:World) (ht:aa0 (fun b=>(Value.slice so ys.length sc).ownBlock=some b) w2 w3) (h2:ah wr w2)=>(aa0.trans' (aa0.trans' KR.out (aa0.of (X:=fun _=>False) h2 aH) (fun _ _ h=>h.elim)) ht (fun i hi hx=>by
   rcases Oc.out i hx with h|h
   ·exact h
   ·omega):aa0 (fun b=>(Value.slice ao xs.length cap).ownBlock=some b) w w3)
  have UB:=hdd fun(w2:World) (v3:Value) (h2:wr.heap.size<=w2.heap.size) (hl:∀b,v3.ownBlock=some b->(Value.slice so ys.length sc).ownBlock=some b\/w2.heap.size<=b)=>(fun b hb=>by
   have:=KR.out.size
   rcases hl b hb with h|h
   ·exact Oc.out b h
   ·exact .inr af:∀b,v3.ownBlock=some b->(Value.slice ao xs.length cap).ownBlock=some b\/w.heap.size<=b)
  by_cases hlt:k<128
  ·have hd:decide ((127:Int)<(k:Int))=false:=by simp;omega
   have HE:=hdd (show ys++[(k:Int)]=xs++ay m by rw [<-HY.out,jD hlt])
   have hw:IntKind.u8.wrap (k:Int)=(k:Int):=Ch af af
   clear hlt
   go_wp2_with ((at_builtin;refine ji rfl (.tmp 16) (.tmp 19) rfl B _ ys rfl (by repeat (first|assumption|with_reducible refine az.alloc ?_ _|with_reducible refine az.drewN ?_ _|with_reducible refine az.drew ?_)) ⟨_,0,none⟩ 1 1 [(k:Int)] rfl rfl (fun j u h=>uV (by simpa [xI] using h)) C7 hsl (by first|omega|(simp;done)|(simp;omega)|(simp [aJ];done)|(simp [aJ];omega)) ?_;intro v3 w3 uq Ot PW;have hb3:=HTT.out _ _ Ot ag;have hq3:=UB.out _ _ (by first|omega|(simp;done)|(simp;omega)|(simp [aJ];done)|(simp [aJ];omega)) PW))
   go_ret
   rw [HE.out]at uq
   exact⟨hb3,_,rfl,uq,hq3⟩
  ·have hd:decide ((127:Int)<(k:Int))=true:=by simp;omega
   have HE:=hdd (show (ys++[128+(k:Int)%128])++ay (k/128)=xs++ay m by
    rw [<-HY.out,lV hlt,jv];simp)
   have a1:=i64_and127 (k:Int)
   have a2:=J2 (k:Int)
   have hw:IntKind.u8.wrap (128+(k:Int)%128)=128+(k:Int)%128:=Ch af af
   clear hlt
   go_wp2_with ((at_builtin;refine ji rfl (.tmp 7) (.tmp 12) rfl B _ ys rfl (by repeat (first|assumption|with_reducible refine az.alloc ?_ _|with_reducible refine az.drewN ?_ _|with_reducible refine az.drew ?_)) ⟨_,0,none⟩ 1 1 [128+(k:Int)%128] rfl rfl (fun j u h=>uV (by simpa [xI] using h)) C7 hsl (by first|omega|(simp;done)|(simp;omega)|(simp [aJ];done)|(simp [aJ];omega)) ?_;intro v3 w3 uq Ot PW;have hb3:=HTT.out _ _ Ot ag;have hq3:=UB.out _ _ (by first|omega|(simp;done)|(simp;omega)|(simp [aJ];done)|(simp [aJ];omega)) PW))
   go_roundg (k/128)
   case measure=>have:=iy hd;omega
   case rel=>exact⟨k/128,ys++[128+(k:Int)%128],rfl,int_eq af,af,uq,HE,hdd hb3,hdd hq3⟩
theorem j6.below {v:Value} {e:Ending} (h:j6 B w v xs e w') (hv:∀b,v.ownBlock=some b->B<=b) (hB:B<=w.heap.size):Below B w w':=h.1.below (aI _ _) hB (fun i hi=>hv i hi)
end
section
set_option maxRecDepth 100000
set_option maxHeartbeats 1000000
variable {xs:List Int} {B n g:Nat} {w:World}
theorem az.made {C:Array Value} {ys:List Int} (hC:C.toList=ys.flatMap xI) (hn:n=ys.length) (hl:ys.length<=1000000) (hB:B<=w.heap.size):az B (w.alloc (.cells C 5)) (.slice (some ⟨w.heap.size,0,none⟩) n n) ys:=by
 subst hn
 have hs:C.size=ys.length:=by
  have:=congrArg List.length hC
  rw [jB]at this;simpa using this
 refine⟨⟨by rw [jB];omega, .inr ⟨w.heap.size,ys.length,C,rfl,hB,?_,km _,by unfold maxLen;omega,af,?_⟩⟩⟩
 ·show (w.heap.push _)[w.heap.size]?=_;simp
 ·rw [lI (by simp;omega)];exact hC
theorem az.cells {cap:Nat} (h:az B w (.slice (some ⟨g,0,none⟩) n cap) xs) (hl:0<xs.length):∀j u,(xs.flatMap xI)[j]?=some u->w.cell? (Addr.add ⟨g,0,none⟩ j)=some u:=by
 obtain⟨_,⟨hv,h0⟩|⟨g',cap',cur,hv,_,hg,_,_,_,h4⟩⟩:=h.row
 ·omega
 ·injection hv with hv1 _ _
  injection hv1 with hv1
  injection hv1 with hv1 _
  subst hv1
  intro j u hj
  rw [<-h4,qg]at hj
  split at hj
  ·have ha:Addr.add ⟨g,0,none⟩ j=⟨g,j,none⟩:=by simp [Addr.add];omega
   rw [ha];simp only [World.cell?,hg];simpa using hj
  ·cases hj
theorem az.form {v:Value} (h:az B w v xs) (hl:0<xs.length):∃g cap,v = .slice (some ⟨g,0,none⟩) xs.length cap:=Joins.ownsRow_form h.row hl
theorem Gg (n:Nat) (hn:n<128) (hg:w.heap[g]?=some (.cells #[.int .u8 119, .int .u8 110] 5 (2,3))) :
  Calls Tryd.prog 56 #[.slice (some ⟨g,0,none⟩) 2 2, .int .i64 n] w fun e w'=>ah w w'/\∃v',e = .returned v'/\az w.heap.size w' v' ([119,110]++ay n):=by
 obtain⟨i0,z,hi,hz,hz1,hz2,hz3⟩:=cj Tryd.QS
 have Vb:g<w.heap.size:=(eI.1 hg).1
 have hcell:∀w',ah w w'->∀b,(some ⟨g,0,none⟩:Option Addr)=some b->∀j u,([119,110].flatMap xI)[j]?=some u->w'.cell? (b.add j)=some u:=fun w' hb b Tq j u hj=>by
  injection Tq with Tq
  subst Tq
  have ha:Addr.add ⟨g,0,none⟩ j=⟨g,j,none⟩:=by simp [Addr.add];omega
  have h1:w'.heap[g]?=_:=(hb.block _ Vb).trans hg
  rw [ha];simp only [World.cell?,h1];simpa [xI] using hj
 have HC:=hdd hcell
 have HE:=hdd (jD hn)
 have hd:decide ((127:Int)<(n:Int))=false:=by simp;omega
 have hw:IntKind.u8.wrap (n:Int)=(n:Int):=Ch af af
 clear hcell hn
 go_enter Tryd.func56,Tryd.ntmps56
 go_wp2_with fail
 go_loopg [0,1] 0 (fun g' bv nv wr=>bv = .slice (some ⟨g,0,none⟩) 2 2/\nv = .int .i64 n/\wr=w)
 case atStart=>exact⟨rfl,rfl,rfl⟩
 case round=>
  obtain⟨rfl,rfl,hwr⟩:=hrel
  obtain rfl:=hwr.symm
  go_wp2_with ((at_builtin;refine wpList_append_grows _ rfl (.tmp 16) (.tmp 19) 54 rfl 5 i0 z 1 1 Tryd.underlying54 hi hz hz1 hz2 hz3 aW (some ⟨g,0,none⟩) 2 2 ([119,110].flatMap xI) rfl (fun h=>by cases h) rfl (HC.out _ ag) ⟨_,0,none⟩ 1 1 ([(n:Int)].flatMap xI) rfl rfl (fun j u h=>uV (by simpa [xI] using h)) (Jb _) af (by unfold maxLen;omega) af ?_;intro v3 w3 uq hg3;have hb3:ah w w3:=Below.grown (show ah w _ from ag) hg3 (by first|omega|(simp;done)|(simp;omega)|(simp [aJ];done)|(simp [aJ];omega)) (fun k hk=>by cases hk)))
  go_ret
  refine⟨hb3,_,rfl,?_⟩
  rw [HE.out]
  refine⟨?_⟩
  have:=Joins.ownsRow_le uq (show w.heap.size<=_ from (by first|omega|(simp;done)|(simp;omega)|(simp [aJ];done)|(simp [aJ];omega)))
  simpa [xI] using this
theorem FU {v:Value} {n:Int} (hown:az B w v xs) (hB:B<=w.heap.size) (hn : -4611686018427387903<=n) (xE:n<4611686018427387904) (hlen:xs.length<=990000) :
  Calls Tryd.prog 57 #[v, .int .i64 n] w (j6 B w v (xs++dt n)):=by
 obtain⟨ao,cap,rfl⟩:=hown.isSlice
 by_cases hlt:n<0
 ·have hd:decide (n<0)=true:=by simp [hlt]
  have m1:IntKind.i64.wrap (-2*n) = -2*n:=IntWalk.i64_in _ af
  have m2:IntKind.i64.wrap (-2*n-1) = -2*n-1:=IntWalk.i64_in _ af
  have HN:=hdd (jF (n:=-2*n-1) hown hB af af hlen)
  have HE:=hdd (show dt n=ay (-2*n-1).toNat by unfold dt;rw [ar hlt])
  clear hlt hn xE
  go_enter Tryd.func57,Tryd.ntmps57
  go_wp2_with ((go_at_call 56;(with_reducible refine HN.out.mono ?_);rintro e w3 ⟨hb3,v3,rfl,kj,PW⟩))
  go_ret
  rw [HE.out]
  exact⟨hb3,_,rfl,kj,PW⟩
 ·have hd:decide (n<0)=false:=by simp;omega
  have m1:IntKind.i64.wrap (2*n)=2*n:=IntWalk.i64_in _ af
  have HN:=hdd (jF (n:=2*n) hown hB af af hlen)
  have HE:=hdd (show dt n=ay (2*n).toNat by unfold dt;rw [ai hlt])
  clear hlt hn xE
  go_enter Tryd.func57,Tryd.ntmps57
  go_wp2_with ((go_at_call 56;(with_reducible refine HN.out.mono ?_);rintro e w3 ⟨hb3,v3,rfl,kj,PW⟩))
  go_ret
  rw [HE.out]
  exact⟨hb3,_,rfl,kj,PW⟩
end
section
set_option maxRecDepth 100000
set_option maxHeartbeats 1000000
variable {xs:List Int} {w:World}
theorem mV {ab aV n cap j:Nat} {i:Int} (h:i=j) (hj:j<n) (w:World):(Instr.indexAt 54 (.slice (some ⟨ab,aV,none⟩) n cap) (.int .i64 i)).run Tryd.prog w = .ok (.pointer (some ⟨ab,aV+j,none⟩)) w:=by
 subst h
 go_simp
theorem l7 {b off k:Nat} (h:∀i x,xs[i]?=some x->∀j u,(xI x)[j]?=some u->w.cell? ⟨b,off+i*1+j,none⟩=some u) (hk:k<xs.length):w.cell? ⟨b,off+k,none⟩=some (.int .u8 xs[k]):=by
 have:=h k xs[k] (by simp [hk]) 0 _ rfl
 simpa using this
theorem Jz {x y:Int} (h0:0<=x) (h1:x<65536) (h2:0<=y) (h3:y<65536):bits .or .i64 (y*65536) x=y*65536+x:=by
 rw [bits_join .i64 63 aW (fun n h0 h1=>IntWalk.i64_in _ af) 16 (y*65536) x af af af h0 af af]
theorem IA {v:Value} (h:fw w v xs) (hx:aN xs) :
  Calls Tryd.prog 58 #[v] w fun e w'=>e = .returned (.int .i64 ((gq xs).2*65536+(gq xs).1))/\w'=w:=by
 obtain⟨ao,cap,rfl,a1,a2,a3,a4,a5⟩:=h
 have HX:=hdd hx
 clear hx
 go_enter Tryd.func58,Tryd.ntmps58
 go_wp2_with fail
 go_loopg [3,4,9] xs.length (fun g xv yv i wr=>∃(k:Nat) (x y:Int),k<=xs.length/\g=xs.length-k/\i = .int .i64 k/\xv = .int .i64 x/\yv = .int .i64 y/\Hid (gq (xs.take k)=(x,y))/\wr=w)
 case atStart=>exact⟨0,1,0,jd _,rfl,rfl,rfl,rfl,hdd rfl,rfl⟩
 case round=>
  obtain⟨k,x,y,hk,rfl,rfl,rfl,rfl,HS,hwr⟩:=hrel
  obtain rfl:=hwr.symm
  have hr:=mH (xs.take k)
  rw [HS.out]at hr
  obtain⟨r1,r2,r3,r4⟩:=hr
  simp only at r1 r2 r3 r4
  by_cases hlt:k<xs.length
  ·obtain⟨ab,aV,rfl,sO,ac⟩:=a5 af
   have e0:=l7 ac hlt
   obtain⟨c,hc⟩:=bt (xs[k])
   rw [hc]at e0
   have hcr:=HX.out c (by rw [<-hc];exact fP hlt)
   obtain⟨X,hX⟩:=bt ((x+c)%65521)
   obtain⟨Y,hY⟩:=bt ((y+X)%65521)
   have HN:=hdd (show gq (xs.take (k+1))=(X,Y) by rw [Dk hlt,HS.out,hc];simp [lW,hX,hY])
   have jS:=fun w'=>mV (ab:=ab) (aV:=aV) (n:=xs.length) (cap:=cap) (show (k:Int)=((k:Nat):Int) by rfl) hlt w'
   have c1:IntKind.i64.wrap c=c:=IntWalk.i64_in _ af
   have c2:IntKind.i64.wrap (x+c)=x+c:=IntWalk.i64_in _ af
   have c3:(x+c).tmod 65521=X:=by rw [yj af];exact hX
   have c4:IntKind.i64.wrap X=X:=IntWalk.i64_in _ af
   have c5:IntKind.i64.wrap (y+X)=y+X:=IntWalk.i64_in _ af
   have c6:(y+X).tmod 65521=Y:=by rw [yj af];exact hY
   have c7:IntKind.i64.wrap Y=Y:=IntWalk.i64_in _ af
   clear ac a5 hc hX hY
   go_wp2
   go_roundg (xs.length-(k+1))
   case measure=>omega
   case rel=>exact⟨k+1,X,Y,af,rfl,by go_num,rfl,rfl,HN,rfl⟩
  ·have HE:=hdd (show gq xs=(x,y) by rw [<-HS.out,lI af])
   have c1:IntKind.i64.wrap (y*65536)=y*65536:=IntWalk.i64_in _ af
   have c2:IntKind.i64.wrap (y*2 ^ 16)=y*65536:=c1
   have c3:=Jz (x:=x) (y:=y) r1 af r3 af
   go_wp2
   go_ret
   rw [HE.out]
   exact⟨rfl,rfl⟩
end
section
set_option maxRecDepth 100000
set_option maxHeartbeats 8000000
variable {b:Ba} {l:List aC} {k:Nat}
def QE (B:Nat) (w:World) (bs:List Int) (E:Int) (e:Ending) (w':World):Prop:=Below B w w'/\∃v,e = .returned (.tuple #[v, .int .i64 E])/\az B w' v bs
theorem DK {ns:List ByteArray} (hk:k<ns.length):cH (ns.take (k+1))=cH (ns.take k)++(ay ns[k].size++nums ns[k]):=by
 unfold cH;rw [kK hk,tR,List.flatMap_singleton]
theorem Hk {last:Int} (hk:k<l.length):dN last (l.drop k)=uN last l[k]++dN l[k].key (l.drop (k+1)):=by
 rw [vd hk];rfl
theorem Ns (h:aO b=false):A8 b=7/\A7 b=[]:=by unfold A8 A7;rw [ar h,ar h];exact⟨rfl,rfl⟩
theorem Km (h:aO b=true) (hl:bY b=some l) (h2:10000<l.length):A8 b=1/\A7 b=[]:=by
 unfold A8 A7;rw [ai (by rw [h];decide),ai (by rw [h];decide),hl];simp only;rw [ar h2,ar h2];exact⟨rfl,rfl⟩
theorem Ko (h:aO b=true) (hl:bY b=some l) (h2:¬10000<l.length) (h3:200000<(jm b l).length+4):A8 b=1/\A7 b=[]:=by
 unfold A8 A7;rw [ai (by rw [h];decide),ai (by rw [h];decide),hl];simp only;rw [ai h2,ai h2,ar h3,ar h3];exact⟨rfl,rfl⟩
theorem Ja (h:aO b=true) (hl:bY b=some l) (h2:¬10000<l.length) (h3:¬200000<(jm b l).length+4):A8 b=0/\A7 b=jm b l++ju (jm b l):=by
 unfold A8 A7;rw [ai (by rw [h];decide),ai (by rw [h];decide),hl];simp only;rw [ai h2,ai h2,ai h3,ai h3];exact⟨rfl,rfl⟩
theorem Gn (h:aO b=true) (hk:k<b.names.length):b.names[k].size<=10:=by
 have:=((dH h).names k hk).1
 simp [dL]at this
 omega
theorem nV (h:aO b=true):∀s∈b.names,s.size<=10:=fun s hs=>by
 obtain⟨k,hk,rfl⟩:=kU hs
 exact Gn h hk
theorem Hn {v:Value} {w:World} (h:bO w v b) (hst:∀s∈b.names,s.size<=140737488351232) (hsz:bL w) :
  Calls Tryd.prog 30 #[v] w (QE w.heap.size w (A7 b) (A8 b)):=by
 have iq:=hdd fun w' (hb:ah w w')=>eO (h.below hb) hst (hsz.below hb)
 obtain⟨sa,sc,g0,l0,p0,g1,l1,p1,g2,l2,p2,rfl,hn,jl,T0,T1,T2⟩:=h.open
 obtain⟨W0,hW0⟩:=bP (w.alloc (.cells (aG sa b.names.length sc g0 l0 p0 g1 l1 p1 g2 l2 p2 b) 35))
 have hb0:ah w W0:=by rw [hW0];exact ag
 have hz0:W0.heap.size=w.heap.size+1:=by rw [hW0];simp
 have k0:W0.heap[w.heap.size]?=some (.cells (aG sa b.names.length sc g0 l0 p0 g1 l1 p1 g2 l2 p2 b) 35):=by rw [hW0];exact aj _ _ rfl
 have HX:=hdd fun w' (hb:ah W0 w')=>(by
  have b0:w'.heap[w.heap.size]?=_:=(hb.block _ af).trans k0
  simp [World.cell?,b0] :
  w'.cell? ⟨w.heap.size,0,none⟩=some (.slice sa b.names.length sc)/\w'.cell? ⟨w.heap.size,1,none⟩=some (.slice g0 l0 p0)/\w'.cell? ⟨w.heap.size,2,none⟩=some (.int .i64 b.t0.root)/\w'.cell? ⟨w.heap.size,3,none⟩=some (.slice g1 l1 p1)/\w'.cell? ⟨w.heap.size,4,none⟩=some (.int .i64 b.t1.root)/\w'.cell? ⟨w.heap.size,5,none⟩=some (.slice g2 l2 p2)/\w'.cell? ⟨w.heap.size,6,none⟩=some (.int .i64 b.t2.root)/\w'.cell? ⟨w.heap.size,7,none⟩=some (.int .i64 b.floor))
 have HB:=hdd fun w' (hb:ah W0 w')=>(Below.trans' hb0 hb hb0.size:ah w w')
 obtain⟨x0,x1,x2,x3,x4,x5,x6,x7⟩:=HX.out W0 (aI _ _)
 have Lc:=hdd fun w' (hb:ah W0 w')=>(iH (lo:=0) (hi:=1099511627776) (T0 w' (HB.out w' hb))).mono fun e w' hp=>nZ.allT hp
 have XL:=hdd jl
 clear h hst hsz jl T0 T1 T2
 go_enter Tryd.func30,Tryd.ntmps30
 go_upto_region 1 with (fail)
 rw [<-hW0]
 clear hW0 k0
 cases qy:aO b with
 |false=>
  have hc:jL b=7:=cN qy
  have HR:=hdd (Ns qy)
  rw [hc]at iq
  clear hc qy
  go_wp2_with ((go_at_call 31;(with_reducible refine(iq.out _ hb0).mono ?_);rintro e w1 ⟨rfl,hb1⟩))
  go_ret2
  rw [HR.out.1,HR.out.2]
  exact⟨HB.out _ hb1,_,rfl,az.nil _ _⟩
 |true=>
  have hc:jL b=0:=dG qy
  rw [hc]at iq
  obtain⟨l,hl,hrise,hg,-⟩:=iV qy
  have hal:=(lC hl).1
  rw [hal]at Lc
  have C0:=hdd qy
  have HL:=hdd hl
  have HRI:=hdd hrise
  have HG:=hdd hg
  have hll:l.length<=50000:=hg.2.2
  clear hc qy hl hrise hg hal
  go_upto_region 7 with (first|(go_at_call 31;(with_reducible refine(iq.out _ hb0).mono ?_);rintro e w1 ⟨rfl,hb1⟩;obtain⟨x0,x1,x2,x3,x4,x5,x6,x7⟩:=HX.out _ hb1)|(go_at_call 55;(with_reducible refine(Lc.out _ hb1).mono ?_);rintro e w2 ⟨hb2,v2,rfl,AV⟩;have tH:=Below.trans' hb1 hb2 hb1.size;obtain⟨s2,c2,rfl⟩:=AV.isSlice))
  have abk:=HB.out _ tH
  by_cases hm:10000<l.length
  ·have Wt:decide ((10000:Int)<(l.length:Int))=true:=by simp;omega
   have HR:=hdd (Km C0.out HL.out hm)
   clear hm
   go_wp2
   go_ret2
   rw [HR.out.1,HR.out.2]
   exact⟨abk,_,rfl,az.nil _ _⟩
  ·have Wt:decide ((10000:Int)<(l.length:Int))=false:=by simp;omega
   have HM:=hdd hm
   have RL:=hdd (AV.at af)
   have Uy:=hdd (dH C0.out).n16
   have Yd:=hdd (aL (dH C0.out).Y9 (dH C0.out).XC)
   have HNS:=hdd (nV C0.out)
   clear hm AV x0 x1 x2 x3 x4 x5 x6 x7
   obtain⟨x0,x1,x2,x3,x4,x5,x6,x7⟩:=HX.out _ tH
   go_upto_region 9 with (fail)
   clear Wt
   obtain⟨W3,hW3⟩:=bP (w2.alloc (.cells #[.int .u8 119, .int .u8 110] 5 (2,3)))
   have hb3:ah w2 W3:=by rw [hW3];exact ag
   have P9:ah W0 W3:=Below.trans' tH hb3 tH.size
   have k3:W3.heap[w2.heap.size]?=some (.cells #[.int .u8 119, .int .u8 110] 5 (2,3)):=by rw [hW3];exact aj _ _ rfl
   have hz3:W3.heap.size=w2.heap.size+1:=by rw [hW3];simp
   have HN:=hdd (Gg (w:=W3) (g:=w2.heap.size) b.names.length (by have:=Uy.out;omega) k3)
   have Rx:=hdd fun w' (hb:ah W3 w')=>HX.out w' (Below.trans' P9 hb P9.size)
   have sU:=hdd fun w' (hb:ah W3 w')=>HB.out w' (Below.trans' P9 hb P9.size)
   have gI:=hdd fun w' (hb:ah W3 w')=>(Below.trans' hb3 hb hb3.size:ah w2 w')
   have hcv:(convert 54 54 (.slice (some ⟨w2.heap.size,0,none⟩) 2 2)).run Tryd.prog (w2.alloc (.cells #[.int .u8 119, .int .u8 110] 5)) = .ok (.slice (some ⟨w2.heap.size,0,none⟩) 2 2) W3:=by
    rw [hW3];exact Joins.run_convert_bytes_const_at (P:=Tryd.prog) w2 54 5 #[.int .u8 119, .int .u8 110] 2 2 w2.heap.size rfl Tryd.underlying54 Tryd.underlying5
   obtain⟨VA,-⟩:=Rx.out _ (aI _ _)
   clear hW3 k3
   go_upto_region 10 with ((go_at_call 56;(with_reducible refine HN.out.mono ?_);rintro e w4 ⟨hb4,v4,rfl,yA⟩))
   clear VA hcv x0 x1 x2 x3 x4 x5 x6 x7
   obtain⟨x0,x1,x2,x3,x4,x5,x6,x7⟩:=Rx.out _ hb4
   obtain⟨P0,Tz⟩:=bt ([119,110]++ay b.names.length)
   have tW:=hdd Tz
   have hl0:P0.length<=11:=by rw [<-Tz,dO];have:=cg (n:=b.names.length) (by have:=Uy.out;omega);simp;omega
   rw [Tz]at yA
   clear Tz
   obtain⟨so4,sc4,rfl⟩:=yA.isSlice
   go_upto_region 11 with (fail)
   go_loopg [7,43] b.names.length (fun g bv i wr=>∃k:Nat,k<=b.names.length/\g=b.names.length-k/\i = .int .i64 k/\az W3.heap.size wr bv (P0++cH (b.names.take k))/\ah W3 wr)
   case atStart=>exact⟨0,jd _,rfl,rfl,by simpa [cH] using yA,hb4⟩
   case round=>
    clear x0 x1 x2 x3 x4 x5 x6 x7 yA hb4
    obtain⟨k,hk,rfl,rfl,ho,hb⟩:=hrel
    have hsz:=hb.size
    obtain⟨P,hP⟩:=bt (P0++cH (b.names.take k))
    rw [hP]at ho
    obtain⟨so,sI,rfl⟩:=ho.isSlice
    obtain⟨x0,-,-,-,-,-,-,x7⟩:=Rx.out _ hb
    have Wv:P.length<=400:=by
     have h1:=rZ (ns:=b.names.take k) fun s hs=>HNS.out s (wM hs)
     rw [eP]at h1
     have:=Uy.out
     rw [<-hP,dO];omega
    have HP:=hdd hP
    clear hP
    by_cases hlt:k<b.names.length
    ·obtain⟨_,_,va,-,-,-,-,a5⟩:=XL.out
     obtain⟨ab,aV,hA,sO,ac⟩:=a5 af
     injection va with ZF _ ZE
     subst ZF ZE hA
     have e0:=vL (sU.out _ hb) sO ac hlt
     obtain⟨s,hs⟩:=bt (b.names[k])
     rw [hs]at e0
     have xB:=HNS.out s (by rw [<-hs];exact fP hlt)
     have HST:=hdd (DK hlt)
     rw [hs]at HST
     have jS:=fun w'=>CA (ab:=ab) (aV:=aV) (n:=b.names.length) (cap:=sc) (show (k:Int)=((k:Nat):Int) by rfl) hlt w'
     obtain⟨P2,Qd⟩:=bt (P++ay s.size)
     have HE:=hdd (show P2++nums s=P0++cH (b.names.take (k+1)) by rw [HST.out,<-Qd,<-HP.out];simp)
     have TA:Calls Tryd.prog 56 #[.slice so P.length sI, .int .i64 s.size] wr (j6 W3.heap.size wr (.slice so P.length sI) (P++ay s.size)):=jF (n:=(s.size:Int)) ho hsz af af af
     have aaH:P2.length<=1000000:=by rw [<-Qd,dO];have:=cg (n:=s.size) af;omega
     rw [Qd]at TA
     have ace:=hdd TA
     have aai:s.size<=1000000:=af
     have HV:=hdd fun g hg=>(ho.lt g hg).1
     clear hs a5 ac xB Wv Qd TA
     go_wp2_with (first
      |(go_at_call 56;(with_reducible refine ace.out.mono ?_);intro e w5 h5;have cu:=hb.trans (h5.below HV.out hsz);obtain⟨-,v5,rfl,iD,-⟩:=h5;obtain⟨s5,c5,rfl⟩:=iD.isSlice;have kQ:=cu.size)
      |(at_builtin;refine tY rfl (.tmp 50) (.tmp 51) rfl W3.heap.size _ P2 rfl iD s rfl aaH aai kQ ?_;intro v6 w6 ZW WD;have jf:=WD W3.heap.size W3 cu aH))
     go_roundg (b.names.length-(k+1))
     case measure=>omega
     case rel=>exact⟨k+1,af,rfl,by go_num,by rw [<-HE.out];exact ZW,jf⟩
    ·have hPn:P=P0++cH b.names:=by rw [<-HP.out,lI af]
     have HPN:=hdd hPn
     obtain⟨F,hF⟩:∃F:Nat,b.floor=F:=⟨b.floor.toNat,by have:=Yd.out;omega⟩
     have hFr:F<=1048575:=by have:=Yd.out;omega
     have HF:=hdd hF
     rw [hF]at x7
     obtain⟨P2,Qd⟩:=bt (P++ay F)
     obtain⟨P1,Y3⟩:=bt (P2++ay l.length)
     have hl2:P2.length<=410:=by
      have h1:=cg (n:=F) af
      rw [<-Qd,dO];omega
     have Eo:P1.length<=420:=by
      have h2:=cg (n:=l.length) af
      rw [<-Y3,dO];omega
     have TC:Calls Tryd.prog 56 #[.slice so P.length sI, .int .i64 F] wr (j6 W3.heap.size wr (.slice so P.length sI) (P++ay F)):=jF (n:=(F:Int)) ho hsz af af af
     have La:∀w5 (v5:Value) (iD:az W3.heap.size w5 v5 P2) (kQ:W3.heap.size<=w5.heap.size),Calls Tryd.prog 56 #[v5, .int .i64 l.length] w5 (j6 W3.heap.size w5 v5 (P2++ay l.length)):=fun w5 v5 iD kQ=>jF (n:=(l.length:Int)) iD kQ af af af
     have HBY:=hdd (show P1++dN 0 l=jm b l by rw [<-Y3,<-Qd,HPN.out,<-tW.out];unfold jm;rw [HF.out];simp)
     rw [Qd]at TC
     rw [Y3]at La
     have RH:=hdd TC
     have FH:=hdd La
     have HV:=hdd fun g hg=>(ho.lt g hg).1
     clear hPn hF Y3 Qd TC La
     go_upto_region 16 with (first
      |(go_at_call 56;(with_reducible refine RH.out.mono ?_);intro e w5 h5;have cu:=hb.trans (h5.below HV.out hsz);obtain⟨-,v5,rfl,iD,-⟩:=h5;obtain⟨s5,c5,rfl⟩:=iD.isSlice;have kQ:=cu.size)
      |(go_at_call 56;(with_reducible refine(FH.out _ _ iD kQ).mono ?_);intro e w6 h6;have jf:=cu.trans (h6.below (fun g hg=>(iD.lt g hg).1) kQ);obtain⟨-,v6,rfl,CE,-⟩:=h6;obtain⟨s6,c6,rfl⟩:=CE.isSlice))
     have abq:=uM (last:=0) HG.out (Int.le_refl 0)
     have hT2:(dN 0 l).length<=540000:=by have:=HM.out;omega
     clear ho hb hsz kQ cu iD x0 x7 Wv abq
     go_upto_region 18 with (fail)
     go_loopg [7,10,63] l.length (fun g bv lv i wr=>∃(k:Nat) (last:Int) (pre:List Int),k<=l.length/\g=l.length-k/\i = .int .i64 k/\lv = .int .i64 last/\az W3.heap.size wr bv (P1++pre)/\Hid (dN 0 l=pre++dN last (l.drop k))/\Hid (0<=last/\∀e∈l.drop k,last<=e.key)/\ah W3 wr)
     case atStart=>exact⟨0,0,[],jd _,rfl,rfl,rfl,by simpa using CE,hdd rfl,hdd ⟨Int.le_refl 0,fun e he=>(HG.out.2.1 e he).1⟩,jf⟩
     case round=>
      clear CE jf
      obtain⟨k,last,pre,hk,rfl,rfl,rfl,ho,Ut,RI,hb⟩:=hrel
      have hsz:=hb.size
      have hpl:pre.length<=540000:=by
       have:=congrArg List.length Ut.out
       rw [dO]at this;omega
      obtain⟨Q,hQ⟩:=bt (P1++pre)
      rw [hQ]at ho
      have PR:Q.length<=541000:=by rw [<-hQ,dO];omega
      have HQ:=hdd hQ
      obtain⟨so,sI,rfl⟩:=ho.isSlice
      clear hQ hpl
      by_cases hlt:k<l.length
      ·obtain⟨_,_,hv,-,-,-,-,h5⟩:=RL.out
       injection hv with hv1 _ hv3
       subst hv1 hv3
       obtain⟨eb,eB,lA,si,nE⟩:=h5 af
       subst lA
       obtain⟨y0,y1,y2,y3,y4,y5,y6⟩:=bU (gI.out _ hb) si nE hlt
       obtain⟨y,hy⟩:=bt (l[k])
       rw [hy]at y0 y1 y2 y3 y4 y5 y6
       have C7:y∈l:=by rw [<-hy];exact fP hlt
       have IW:y∈l.drop k:=by rw [vd hlt,hy];simp
       obtain⟨im,hk1⟩:=HG.out.2.1 y C7
       obtain⟨hgd,hcc⟩:=dg (HG.out.1 y C7).2 (HG.out.1 y C7).1
       have hsm:=ru hgd hcc
       obtain⟨g0',g1',g2',g3',g4',g5',g6',-⟩:=hgd
       have ag1:=RI.out.1
       have ag0:=RI.out.2 y IW
       have HST:=hdd (Hk (last:=last) hlt)
       rw [hy]at HST
       have Zn:=hdd (show 0<=y.key/\∀e∈l.drop (k+1),y.key<=e.key from ⟨im,fun e he=>by
        obtain⟨i,hi,rfl⟩:=kU he
        rw [List.getElem_drop]
        have h1:=py.1 HRI.out k (k+1+i) hlt (by rw [oI]at hi;omega) af
        rw [hy]at h1;omega⟩)
       have m1:IntKind.i64.wrap (y.key-last)=y.key-last:=IntWalk.i64_in _ af
       have jS:=fun w'=>dw (ab:=eb) (aV:=eB) (n:=l.length) (cap:=c2) (show (k:Int)=((k:Nat):Int) by rfl) hlt w'
       have hwz:eb<wr.heap.size:=by have:=(gI.out _ hb).size;omega
       obtain⟨W1,hW1⟩:=bP (wr.alloc (.cells #[.int .i64 y.key, .int .i64 y.is.c, .int .i64 y.is.s, .int .i64 y.is.mi, .int .i64 y.is.ma, .int .i64 y.is.t, .int .i64 y.is.l] 96))
       have mL:ah W3 W1:=by rw [hW1];exact ag
       have hz1:W1.heap.size=wr.heap.size+1:=by rw [hW1];simp
       have k1:W1.heap[wr.heap.size]?=some (.cells #[.int .i64 y.key, .int .i64 y.is.c, .int .i64 y.is.s, .int .i64 y.is.mi, .int .i64 y.is.ma, .int .i64 y.is.t, .int .i64 y.is.l] 96):=by rw [hW1];exact aj _ _ rfl
       have NY:=hdd fun(w':World) (X:Nat->Prop) (ht:aa0 X W1 w') (hX:¬X wr.heap.size)=>(by
        have b0:w'.heap[wr.heap.size]?=_:=(ht.block _ af hX).trans k1
        simp [World.cell?,b0]:w'.cell? ⟨wr.heap.size,0,none⟩=some (.int .i64 y.key)/\w'.cell? ⟨wr.heap.size,1,none⟩=some (.int .i64 y.is.c)/\w'.cell? ⟨wr.heap.size,2,none⟩=some (.int .i64 y.is.s)/\w'.cell? ⟨wr.heap.size,3,none⟩=some (.int .i64 y.is.mi)/\w'.cell? ⟨wr.heap.size,4,none⟩=some (.int .i64 y.is.ma)/\w'.cell? ⟨wr.heap.size,5,none⟩=some (.int .i64 y.is.t)/\w'.cell? ⟨wr.heap.size,6,none⟩=some (.int .i64 y.is.l))
       have AW:az W3.heap.size W1 (.slice so Q.length sI) Q:=by rw [hW1];exact ho.alloc _
       have hnb:(Value.slice so Q.length sI).ownBlock≠some wr.heap.size:=fun h=>by have:=(ho.lt _ h).2;omega
       obtain⟨q0,q1,q2,q3,q4,q5,q6⟩:=NY.out W1 (fun _=>False) (aa0.refl _ _) (fun h=>h)
       obtain⟨Q1,Y2⟩:=bt (Q++ay (y.key-last).toNat)
       obtain⟨Q2,Y1⟩:=bt (Q1++ay y.is.c.toNat)
       have ag6:Q1.length<=541009:=by rw [<-Y2,dO];have:=cg (n:=(y.key-last).toNat) af;omega
       have ag4:Q2.length<=541018:=by rw [<-Y1,dO];have:=cg (n:=y.is.c.toNat) af;omega
       have TC:=jF (n:=y.key-last) AW mL.size af af af
       have La:∀w5 (v5:Value) (iD:az W3.heap.size w5 v5 Q1) (kQ:W3.heap.size<=w5.heap.size),Calls Tryd.prog 56 #[v5, .int .i64 y.is.c] w5 (j6 W3.heap.size w5 v5 (Q1++ay y.is.c.toNat)):=fun w5 v5 iD kQ=>jF (n:=y.is.c) iD kQ af af af
       rw [Y2]at TC
       rw [Y1]at La
       have RH:=hdd TC
       have FH:=hdd La
       have HQQ:=hdd (show Q2=P1++(pre++(ay (y.key-last).toNat++ay y.is.c.toNat)) by rw [<-Y1,<-Y2,<-HQ.out];simp)
       have HV1:=hdd fun g hg=>(AW.lt g hg).1
       have FE:=hdd hnb
       clear nE h5 hy C7 IW Y2 Y1 TC La hnb
       go_upto_region 20 with (fail)
       rw [<-hW1]
       clear hW1 k1 ho y0 y1 y2 y3 y4 y5 y6
       go_upto_region 21 with ((go_at_call 56;(with_reducible refine RH.out.mono ?_);intro e w5 h5;have cu:=mL.trans (h5.below HV1.out mL.size);obtain⟨qq,v5,rfl,iD,U8⟩:=h5;obtain⟨s5,c5,rfl⟩:=iD.isSlice;have kQ:=cu.size))
       have Wo:(Value.slice s5 Q1.length c5).ownBlock≠some wr.heap.size:=fun h=>by
        rcases U8 _ h with h'|h'
        ·exact FE.out h'
        ·omega
       clear q0 q1 q2 q3 q4 q5 q6
       obtain⟨q0,q1,q2,q3,q4,q5,q6⟩:=NY.out w5 _ qq FE.out
       have Z7:wr.heap.size<w5.heap.size:=by have:=qq.size;omega
       have ack:=hdd Wo
       clear Wo U8
       go_upto_region 23 with ((go_at_call 56;(with_reducible refine(FH.out _ _ iD kQ).mono ?_);intro e w6 h6;have jf:=cu.trans (h6.below (fun g hg=>(iD.lt g hg).1) kQ);obtain⟨ht6,v6,rfl,CE,U7⟩:=h6;obtain⟨s6,c6,rfl⟩:=CE.isSlice;have uB:=jf.size))
       have V8:aa0 (fun x=>(Value.slice so Q.length sI).ownBlock=some x\/(Value.slice s5 Q1.length c5).ownBlock=some x) W1 w6:=
        (qq.mono (fun i _ h=> .inl h)).trans' ht6 (fun i _ h=> .inr h)
       clear q0 q1 q2 q3 q4 q5 q6
       obtain⟨q0,q1,q2,q3,q4,q5,q6⟩:=NY.out w6 _ V8 (fun h=>h.elim FE.out ack.out)
       obtain⟨Z,hZ⟩:=bt ([y.is.s,y.is.mi,y.is.ma,y.is.l])
       have Rl:Z.length=4:=by rw [<-hZ];rfl
       have HZB:=hdd (show ∀n∈Z,-4611686018427387903<=n/\n<4611686018427387904 from fun n hn=>by rw [<-hZ]at hn;simp at hn;omega)
       obtain⟨W7,jA⟩:=bP (w6.alloc (.cells #[.int .i64 y.is.s, .int .i64 y.is.mi, .int .i64 y.is.ma, .int .i64 y.is.l] 3))
       have qE:ah W3 W7:=by rw [jA];exact ag
       have Ef:W7.heap.size=w6.heap.size+1:=by rw [jA];simp
       have k7:W7.heap[w6.heap.size]?=some (.cells #[.int .i64 y.is.s, .int .i64 y.is.mi, .int .i64 y.is.ma, .int .i64 y.is.l] 3):=by rw [jA];exact aj _ _ rfl
       have HZC:=hdd fun(w':World) (X:Nat->Prop) (ht:aa0 X W7 w') (hX:¬X w6.heap.size) (j:Nat) (hj:j<Z.length)=>(by
        have b0:w'.heap[w6.heap.size]?=_:=(ht.block _ af hX).trans k7
        subst hZ
        match j,hj with
        |0,_=>simp [World.cell?,b0]
        |1,_=>simp [World.cell?,b0]
        |2,_=>simp [World.cell?,b0]
        |3,_=>simp [World.cell?,b0]:w'.cell? ⟨w6.heap.size,j,none⟩=some (.int .i64 Z[j]))
       have ho7:az W3.heap.size W7 (.slice s6 Q2.length c6) Q2:=by rw [jA];exact CE.alloc _
       have Wn:(Value.slice s6 Q2.length c6).ownBlock≠some w6.heap.size:=fun h=>by have:=(CE.lt _ h).2;omega
       have acj:=hdd Wn
       have HEL:=hdd (show P1++(pre++uN last y)=Q2++Z.flatMap dt by rw [HQQ.out,<-hZ];simp [uN])
       have acD:=hdd (show dN 0 l=(pre++uN last y)++dN y.key (l.drop (k+1)) by rw [Ut.out,HST.out];simp)
       have HV6:=hdd fun g hg=>(ho7.lt g hg).1
       have xS:=hdd qE
       clear Wn hZ CE ht6 U7 jf V8 qq iD cu NY RH FH Z7 kQ
       go_upto_region 24 with (fail)
       rw [<-jA]
       clear jA k7 q0 q1 q2 q3 q4 q5 q6
       go_loopg [7,94] 4 (fun g bv i wr2=>∃(j:Nat) (bs:List Int),j<=4/\g=4-j/\i = .int .i64 j/\az W3.heap.size wr2 bv bs/\Hid (bs=Q2++(Z.take j).flatMap dt)/\bs.length<=541018+9*j/\Hid (aa0 (fun x=>(Value.slice s6 Q2.length c6).ownBlock=some x) W7 wr2)/\Hid (∀x,bv.ownBlock=some x->(Value.slice s6 Q2.length c6).ownBlock=some x\/W7.heap.size<=x))
       case atStart=>exact⟨0,Q2,af,rfl,rfl,ho7,hdd bj,af,hdd (aa0.refl _ _),hdd fun x hx=> .inl hx⟩
       case round=>
        obtain⟨j,bs,hj,rfl,rfl,oP,UH,hbl,KR,Oc⟩:=hrel
        obtain⟨so8,sc8,rfl⟩:=oP.isSlice
        have cZ:=KR.out.below xS.out (by have:=xS.out.size;omega) (fun i hi=>HV6.out i hi)
        have aag:=cZ.size
        by_cases hj4:j<4
        ·have U9:j<Z.length:=af
         have e0:=HZC.out wr _ KR.out acj.out j U9
         obtain⟨n,hn⟩:=bt (Z[j])
         rw [hn]at e0
         obtain⟨n1,n2⟩:=HZB.out n (by rw [<-hn];exact fP U9)
         have jS:=fun w'=>lQ (ab:=w6.heap.size) (aV:=0) (n:=4) (cap:=4) (show (j:Int)=((j:Nat):Int) by rfl) hj4 w'
         simp only [iW]at jS
         obtain⟨bs2,P5⟩:=bt (bs++dt n)
         have hN8:=FU (n:=n) oP aag n1 n2 af
         rw [P5]at hN8
         have HN8:=hdd hN8
         have acO:=hdd (show bs2=Q2++(Z.take (j+1)).flatMap dt by
          rw [kK U9,tR,hn,<-P5,UH.out];simp)
         have Tp:bs2.length<=541018+9*(j+1):=by rw [<-P5,dO];have:=qH (n:=n) n1 n2;omega
         clear hn P5 hN8 U9
         go_wp2_with ((go_at_call 57;(with_reducible refine HN8.out.mono ?_);rintro e w9 ⟨U0,v9,rfl,SM,hl9⟩;obtain⟨s9,c9,rfl⟩:=SM.isSlice))
         go_roundg (4-(j+1))
         case measure=>omega
         case rel=>
          refine⟨j+1,bs2,af,rfl,by go_num,SM,acO,Tp,hdd (KR.out.trans' U0 fun i hi hx=>?_),hdd fun x hx=>?_⟩
          ·rcases Oc.out i hx with h|h
           ·exact h
           ·omega
          ·rcases hl9 x hx with h|h
           ·exact Oc.out x h
           ·exact .inr (by have:=KR.out.size;omega)
        ·have hj':j=4:=af
         have UE:=hdd (show bs=P1++(pre++uN last y) by rw [UH.out,HEL.out,lI af])
         go_wp2
         go_roundg (l.length-(k+1))
         case measure=>omega
         case rel=>exact⟨k+1,y.key,pre++uN last y,af,rfl,by go_num,rfl,by rw [<-UE.out];exact oP,acD,Zn,cZ⟩
      ·have hall:Q=jm b l:=by
        have h1:=Ut.out
        rw [Be af]at h1
        have h2:dN last []=[]:=by cases l <;> rfl
        rw [h2,oL]at h1
        rw [<-HQ.out,<-h1,HBY.out]
       have eU:=hdd hall
       have HBB:=hdd (xK b l)
       rw [<-hall]at HBB
       have hsr:=mH Q
       obtain⟨p,hp⟩:=bt (gq Q)
       obtain⟨X,Y⟩:=p
       rw [hp]at hsr
       obtain⟨r1,r2,r3,r4⟩:=hsr
       simp only at r1 r2 r3 r4
       have hS:=IA (ho.at af) HBB.out
       rw [hp]at hS
       obtain⟨N,hN⟩:=bt (Y*65536+X)
       rw [show ((X,Y):Int×Int).2*65536+((X,Y):Int×Int).1=N from hN]at hS
       have HS:=hdd hS
       have OL:=hdd (show ju Q=[Y/256,Y%256,X/256,X%256] by simp [ju,hp])
       have lw:IntKind.i64.wrap ((Q.length:Int)+4)=(Q.length:Int)+4:=IntWalk.i64_in _ af
       have u1:IntKind.u8.wrap (N/16777216)=Y/256:=by rw [IntKind.wrap_u8];omega
       have u2:IntKind.u8.wrap (N/65536)=Y%256:=by rw [IntKind.wrap_u8];omega
       have u3:IntKind.u8.wrap (N/256)=X/256:=by rw [IntKind.wrap_u8];omega
       have u4:IntKind.u8.wrap N=X%256:=by rw [IntKind.wrap_u8];omega
       have Tn:=sU.out _ hb
       obtain⟨A1,Xz⟩:=bt (Y/256)
       obtain⟨A2,Y7⟩:=bt (Y%256)
       obtain⟨A3,Vi⟩:=bt (X/256)
       obtain⟨A4,Vh⟩:=bt (X%256)
       rw [Xz]at u1 OL
       rw [Y7]at u2 OL
       rw [Vi]at u3 OL
       rw [Vh]at u4 OL
       have aaq:Q.length<=1000000:=af
       clear hall hp hS hN Xz Y7 Vi Vh r1 r2 r3 r4
       by_cases pd:200000<Q.length+4
       ·have hd:decide ((200000:Int)<(Q.length:Int)+4)=true:=by simp;omega
        have HR:=hdd (Ko C0.out HL.out HM.out (by rw [<-eU.out];exact pd))
        clear pd
        go_wp2_with ((go_at_call 58;(with_reducible refine HS.out.mono ?_);rintro e w9 ⟨rfl,hw9⟩;obtain rfl:=hw9.symm))
        go_ret2
        rw [HR.out.1,HR.out.2]
        exact⟨Tn,_,rfl,az.nil _ _⟩
       ·have hd:decide ((200000:Int)<(Q.length:Int)+4)=false:=by simp;omega
        have HR:=hdd (Ja C0.out HL.out HM.out (by rw [<-eU.out];exact pd))
        rw [<-eU.out,OL.out]at HR
        clear pd
        have PI:w.heap.size<=W3.heap.size:=by have:=(sU.out _ (aI _ _)).size;omega
        have hV9:=hdd fun g hg=>(ho.lt g hg).1
        go_wp2_with (first
         |(go_at_call 58;(with_reducible refine HS.out.mono ?_);rintro e w9 ⟨rfl,hw9⟩;obtain rfl:=hw9.symm)
         |(at_builtin;refine ji rfl (.tmp 109) (.tmp 121) rfl W3.heap.size _ Q rfl (by repeat (first|assumption|with_reducible refine az.alloc ?_ _|with_reducible refine az.drewN ?_ _|with_reducible refine az.drew ?_)) ⟨_,0,none⟩ 4 4 [A1,A2,A3,A4] rfl rfl (fun j u h=>uV (by simpa [xI] using h)) aaq bj (by first|omega|(simp;done)|(simp;omega)|(simp [aJ];done)|(simp [aJ];omega)) ?_;intro v9 w9 ZV U0 _;have pS:ah W3 w9:=U0.below (show ah W3 _ from ag) (by first|omega|(simp;done)|(simp;omega)|(simp [aJ];done)|(simp [aJ];omega)) (fun i hi=>hV9.out i hi)))
        go_ret2
        rw [HR.out.1,HR.out.2]
        exact⟨sU.out _ pS,_,rfl,ZV.mono PI⟩
end
end Go.Proofs.YtmljjfhgciaceaaDoor
