/- Lemmas of the proof. -/
import Derived.Test.YtmljjfhgciaceaaGreatDoorHd
import Derived.Test.YtmljjfhgciaceaaGreatDoorCz
import Derived.Test.YtmljjfhgciaceaaGreatDoorBK
import Derived.Laws.Bits128
import Derived.Lib.EndianBits
import Derived.Lib.AppendStr
import Derived.Laws.BytesArg
import Derived.Lib.SlBytesConst
import Derived.Maps.AppendAt
import Derived.Test.YtmljjfhgciaceaaGreatDoorSR
import Derived.Test.YtmljjfhgciaceaaGreatDoorPC
import Derived.Test.YtmljjfhgciaceaaGreatDoorPS
set_option maxRecDepth 100000
set_option maxHeartbeats 8000000
namespace Go.Proofs.YtmljjfhgciaceaaGreatDoor
open Go.RowKit
section
variable {n:Nat}
def aN (n:Nat):List Int:=if n<128 then [(n:Int)] else(128+(n%128:Nat):Int)::aN (n/128)
termination_by n
theorem lA (h:n<128):aN n=[(n:Int)]:=by rw [aN,aw h]
theorem n7 (h:¬n<128):aN n=(128+(n%128:Nat):Int)::aN (n/128):=by rw [aN,ar h]
theorem BW:∀(k n:Nat),n<128 ^ (k+1)->(aN n).length<=k+1
 |0,n,h=>by rw [lA (by simpa using h)];simp
 |k+1,n,h=>by
  by_cases hn:n<128
  ·rw [lA hn];simp
  ·rw [n7 hn,gD];have:n/128<128 ^ (k+1):=by
    rw [Nat.div_lt_iff_lt_mul bY];rw [Nat.pow_succ]at h;exact h
   have:=BW k (n/128) this;omega
theorem cY (h:n<9223372036854775808):(aN n).length<=9:=BW 8 n (by simpa using h)
theorem wU (n:Nat):0<(aN n).length:=by
 rw [aN];split <;> simp
theorem jo:∀(n:Nat),∀c∈aN n,0<=c/\c<=255:=by
 intro n
 induction n using Nat.strongRecOn with
 |_ n ih=>
  by_cases hn:n<128
  ·rw [lA hn];intro c hc;simp at hc;omega
  ·rw [n7 hn];intro c hc;rcases fy.1 hc with rfl|hc
   ·omega
   ·exact ih (n/128) ai c hc
def dS (n:Int):List Int:=if n<0 then aN (-2*n-1).toNat else aN (2*n).toNat
def dB (ns:List ByteArray):List Int:=ns.flatMap fun s=>aN s.size++nums s
def yK (last:Int) (e:aH):List Int:=aN (e.key-last).toNat++aN e.is.c.toNat++dS e.is.s++dS e.is.mi++dS e.is.ma++dS e.is.l
def eI:Int->List aH->List Int
 |_,[]=>[]
 |last,e::l=>yK last e++eI e.key l
def kM (b:Ba) (l:List aH):List Int:=[119,110]++aN b.names++dB b.names++aN b.floor.toNat++aN l++eI 0 l
def n9 (p:Int×Int) (c:Int):Int×Int:=((p.1+c)%65521,(p.2+(p.1+c)%65521)%65521)
def iK (bs:List Int):Int×Int:=bs.foldl n9 (1,0)
def mJ (bs:List Int):List Int:=[(iK bs).2/256,(iK bs).2%256,(iK bs).1/256,(iK bs).1%256]
noncomputable def En (b:Ba):Int:=
 if aS b=false then 7 else match cx b with|none=>0|some l=>if 10000<l.length then 1 else if 200000<(kM b l).length+4 then 1 else 0
noncomputable def Em (b:Ba):List Int:=
 if aS b=false then []else match cx b with|none=>[]|some l=>if 10000<l.length then []else if 200000<(kM b l).length+4 then []else kM b l++mJ (kM b l)
theorem KR (bs:List Int):∀(p:Int×Int),(0<=p.1/\p.1<65521/\0<=p.2/\p.2<65521)->(0<=(bs.foldl n9 p).1/\(bs.foldl n9 p).1<65521/\0<=(bs.foldl n9 p).2/\(bs.foldl n9 p).2<65521):=by
 induction bs with
 |nil=>intro p hp;exact hp
 |cons c bs ih=>
  intro p hp;rw [List.foldl_cons];refine ih _ ?_;unfold n9;simp only;omega
theorem pC (bs:List Int):0<=(iK bs).1/\(iK bs).1<65521/\0<=(iK bs).2/\(iK bs).2<65521:=KR bs (1,0) bY
theorem He {bs:List Int} {k:Nat} (hk:k<bs):iK (bs.take (k+1))=n9 (iK (bs.take k)) bs[k]:=by
 unfold iK;rw [ja hk,List.foldl_append];rfl
def aX (l:List Int):Prop:=∀c∈l,0<=c/\c<=255
theorem aX.app {a b:List Int} (ha:aX a) (hb:aX b):aX (a++b):=fun c hc=>by
 rcases kW.1 hc with h|h
 ·exact ha c h
 ·exact hb c h
theorem sN (n:Int):aX (dS n):=by unfold dS;split <;> exact jo _
theorem KU (bs:List Int):aX (mJ bs):=by
 have:=pC bs;intro c hc;simp [mJ]at hc;omega
theorem Ih (ns:List ByteArray):aX (dB ns):=fun c hc=>by
 obtain⟨s,_,hs⟩:=List.mem_flatMap.1 hc;exact(aX.app (jo _) (tj s)) c hs
theorem C5:∀(l:List aH) (last:Int),aX (eI last l)
 |[],_=>fun c hc=>by cases hc
 |e::l,last=>aX.app (((((aX.app (jo _) (jo _)).app (sN _)).app (sN _)).app (sN _)).app (sN _)) (C5 l e.key)
theorem AH (b:Ba) (l:List aH):aX (kM b l):=
 ((((aX.app (fun c hc=>by simp at hc;omega) (jo _)).app (Ih _)).app (jo _)).app (jo _)).app (C5 l 0)
theorem ug {n:Int} (h1 : -4611686018427387903<=n) (h2:n<4611686018427387904):(dS n).length<=9:=by
 unfold dS
 split
 ·exact cY ai
 ·exact cY ai
theorem vN:∀{ns:List ByteArray},(∀s∈ns,s.size<=10)->(dB ns).length<=19*ns
 |[],_=>by simp [dB]
 |s::ns,h=>by
  have h1:=h s bh;have h2:=vN (ns:=ns) fun x hx=>h x (by simp [hx]);have h3:=cY (n:=s.size) ai;have e:dB (s::ns)=(aN s.size++nums s)++dB ns:=rfl;rw [e,dF,dF,nums_length,gD];omega
theorem yJ:∀{l:List aH} {last:Int},dX l->0<=last->(eI last l).length<=54*l
 |[],_,_,_=>by simp [eI]
 |e::l,last,h,hl=>by
  obtain⟨g1,g2⟩:=h.2.1 e bh;have hc:=h.1 e bh;obtain⟨hg,hcc⟩:=dC hc.2 hc.1;have hs:=uH hg hcc;have h2:=yJ (l:=l) (last:=e.key) ⟨fun x hx=>h.1 x (by simp [hx]),fun x hx=>h.2.1 x (by simp [hx]),by have:=h.2.2;simp at this;omega⟩ g1;obtain⟨k0,k1,k2,k3,k4,k5,k6,_⟩:=hg;have a1:=cY (n:=(e.key-last).toNat) ai;have a2:=cY (n:=e.is.c.toNat) ai;have a3:=ug (n:=e.is.s) ai ai;have a4:=ug (n:=e.is.mi) ai ai;have a5:=ug (n:=e.is.ma) ai ai;have a6:=ug (n:=e.is.l) ai ai;simp only [eI,yK,dF,gD];omega
end
section
variable {a:Act} {ops:Array Oper} {Q:Exit->Act->World->Prop} {n:Int} {es xs:List Int} {rest:List Oper} {B C:Nat} {o:Oper} {w w':World}
def AG (n:Int):List Value:=[.int .u8 n]
theorem Ml (n:Int):(AG n).length=1:=rfl
theorem NL (xs:List Int):∀u∈xs.flatMap AG,u.oneCell'=true:=by
 intro u hu;obtain⟨x,_,hx⟩:=List.mem_flatMap.1 hu;simp [AG]at hx;subst hx;rfl
theorem JB (xs:List Int):xs.flatMap AG=xs.map (Value.int .u8):=by
 induction xs with
 |nil=>rfl
 |cons x xs ih=>rw [fO,ih];rfl
theorem oQ (xs:List Int):(xs.flatMap AG).length=xs:=by rw [JB,oX]
abbrev ig (w:World) (v:Value) (xs:List Int):Prop:=ct 1 1 AG w v xs
theorem Tryz.Wn:(Tryz.prog.info? 5).map (fun i=>(i.zero.map (fun z=>z.cells.size),i.size,i.bytes))=some (some 1,1,1):=cV
theorem Tryz.aaQ:(Tryz.prog.info? 5).map (fun i=>(i.zero,i.size,i.bytes))=some (some (.int .u8 0),1,1):=cV
structure aT (B:Nat) (w:World) (v:Value) (es:List Int):Prop where
 row:w.ownsRow B 5 1 v es (es.flatMap AG)
theorem aT.nil (B:Nat) (w:World):aT B w (az 0 0) []:=⟨oV _ _ _ _⟩
theorem aT.alloc {v:Value} (h:aT B w v es) (o:Obj):aT B (w.alloc o) v es:=⟨Dn h.row o⟩
theorem aT.block {v:Value} (h:aT B w v es) (hb:∀g,v.ownBlock=some g->w'.heap[g]?=w.heap[g]?):aT B w' v es:=by
 obtain⟨hl,⟨rfl,h0⟩|⟨g,cap,cur,rfl,hB,hg,h1,h2,h3,h4⟩⟩:=h.row
 ·exact⟨⟨hl, .inl ⟨rfl,h0⟩⟩⟩
 ·exact⟨⟨hl, .inr ⟨g,cap,cur,rfl,hB,(hb g rfl).trans hg,h1,h2,h3,h4⟩⟩⟩
theorem aT.drew {v:Value} (h:aT B w v es):aT B w.drew v es:=h.block fun _ _=>rfl
theorem aT.drewN {v:Value} (h:aT B w v es) (n:Nat):aT B (w.drewN n) v es:=h.block fun _ _=>rfl
theorem aT.lt {v:Value} (h:aT B w v es):∀g,v.ownBlock=some g->B<=g/\g<w.heap.size:=World.ownsRow.lt h.row
theorem aT.below {v:Value} (h:aT B w v es) (hb:Below C w w') (hC:w<=C):aT B w' v es:=h.block fun g hg=>hb.block g (by have:=(h.lt g hg).2;omega)
theorem aT.mono {v:Value} (h:aT B w v es) (hC:C<=B):aT C w v es:=by
 obtain⟨hl,⟨rfl,h0⟩|⟨g,cap,cur,rfl,hB,hg,h1,h2,h3,h4⟩⟩:=h.row
 ·exact⟨⟨hl, .inl ⟨rfl,h0⟩⟩⟩
 ·exact⟨⟨hl, .inr ⟨g,cap,cur,rfl,ai,hg,h1,h2,h3,h4⟩⟩⟩
theorem aT.at {v:Value} (h:aT B w v es) (hs:es.length<=1000000):ig w v es:=ct.owned Ml h.row rfl ai
theorem aT.isSlice {v:Value} (h:aT B w v es):∃ao cap,v=ah ao es cap:=by
 obtain⟨hl,⟨rfl,h0⟩|⟨g,cap,cur,rfl,_⟩⟩:=h.row
 ·exact⟨none,0,by rw [h0]⟩
 ·exact⟨_,_,rfl⟩
theorem kJ (hgd:o.guard=none) (s x:Operand)
  (ho:o.op = .call { callee:= .builtin .append,args:=#[s,x],argTypes:=#[61,61] }) (B:Nat) (v:Value) (es:List Int) (hs:a.eval s=v) (hown:aT B w v es)
  (ad:Addr) (m c:Nat) (ys:List Int) (hm:m=ys) (hx:a.eval x=ah (some ad) m c) (hnews:∀j u,(ys.flatMap AG)[j]?=some u->w.cell? (ad.add j)=some u) (hlen:es.length<=1000000) (WH:ys.length<=1000000) (hbase:B<=w)
  (h:∀v' w',aT B w' v' (es++ys)->aA (fun b=>v.ownBlock=some b) w w'->(∀b,v'.ownBlock=some b->v.ownBlock=some b\/w.heap.size<=b)->wpList Tryz.prog ops Q rest (a.put o.dst v') w'):wpList Tryz.prog ops Q (o::rest) a w:=by
 subst hm;obtain⟨i0,z,hi,hz,hz1,hz2,hz3⟩:=cG Tryz.Wn;refine wpList_append_own_at w hgd s x 61 ho B 5 i0 z 1 1 Tryz.underlying61 hi hz hz1 hz2 hz3 bY v es _ hs hown.row ad ys c (ys.flatMap AG) hx (by rw [oQ];omega) hnews (NL ys) iI ai hbase ?_;intro v' w' hown' hg _ hloc;refine h v' w' ?_ (aA.grown (aA.refl _ _) hg (fun k hk=> .inl hk)) (fun b hb=>by
  rcases hloc with h|h
  ·exact .inl (h.symm.trans hb)
  ·rw [hb]at h;injection h with h;exact .inr ai)
 have:(es++ys).flatMap AG=es.flatMap AG++ys.flatMap AG:=bh;refine⟨?_⟩;rw [this,dF];exact hown'
theorem D5 (s:ByteArray):Lib.strCells s=(nums s).flatMap AG:=by
 rw [JB];simp [Lib.strCells,nums]
theorem xG (hgd:o.guard=none) (s x:Operand)
  (ho:o.op = .call { callee:= .builtin .append,args:=#[s,x],argTypes:=#[61,9] }) (B:Nat) (v:Value) (es:List Int) (hs:a.eval s=v) (hown:aT B w v es)
  (st:ByteArray) (hx:a.eval x = .string st) (hlen:es.length<=1000000) (WH:st.size<=1000000) (hbase:B<=w)
  (h:∀v' w',aT B w' v' (es++nums st)->(∀C W,Below C W w->C<=B->Below C W w')->wpList Tryz.prog ops Q rest (a.put o.dst v') w'):wpList Tryz.prog ops Q (o::rest) a w:=by
 obtain⟨i0,hi,hz,hz1,hz2⟩:∃i0,Tryz.prog.info? 5=some i0/\i0.zero=some (.int .u8 0)/\i0.size=1/\i0.bytes=1:=by
  have:=Tryz.aaQ
  cases h:Tryz.prog.info? 5 with
  |none=>rw [h]at this;cases this
  |some i=>rw [h]at this;simp at this;exact⟨i,rfl,this.1,this.2.1,this.2.2⟩
 refine Lib.wpList_append_own_string w hgd s x 61 9 ho B 5 i0 Tryz.underlying61 Tryz.underlying9 hi hz hz1 hz2 v es _ hs hown.row st hx iI ai hbase ?_;intro v' w' hown' hg _;refine h v' w' ?_ fun C W hb hC=>nP hb hg ai (fun j hj=>by have:=(hown.lt j hj).1;omega);refine⟨?_⟩;rw [pK,dF,nums_length,<-D5];exact hown'
theorem yS {C:Array Value} {T:TypeId} {j:Nat} {u:Value} (h:C[j]?=some u):(w.alloc (.cells C T)).cell? (Addr.add (w,0) j)=some u:=by
 have ha:Addr.add (w,0) j=(w,j):=by simp [Addr.add];omega
 have hk:(w.alloc (.cells C T)).heap[w.heap.size]?=some (.cells C T):=by show (w.heap.push _)[w.heap.size]?=_;simp
 rw [ha];simp only [World.cell?,hk];exact h
theorem OZ (n:Int):bits .or .i64 (n%128) 128=128+n%128:=by
 rw [bits_join_low .i64 63 bY (fun n h0 h1=>bI _ ai) 7 (n%128) 128 ai ai ai ai ai ai];omega
theorem FB (h0:0<=n) (h1:n<=255):IntKind.u8.wrap n=n:=by
 rw [IntKind.wrap_u8];omega
def mh (B:Nat) (w:World) (v:Value) (xs:List Int) (e:Ending) (w':World):Prop:=
 aA (fun b=>v.ownBlock=some b) w w'/\∃v',e = .returned v'/\aT B w' v' xs/\∀b,v'.ownBlock=some b->v.ownBlock=some b\/w.heap.size<=b
theorem lC {v:Value} (hown:aT B w v xs) (hB:B<=w) (hn:0<=n) (tT:n<9223372036854775808) (hlen:xs.length<=990000) :
  Calls Tryz.prog 80 #[v,af n] w (mh B w v (xs++aN n.toNat)):=by
 obtain⟨ao,cap,rfl⟩:=hown.isSlice;obtain⟨m,rfl⟩:=Int.eq_ofNat_of_zero_le hn;have HT:=ag (show (xs++aN m).length<=990009 by rw [dF];have:=cY (n:=m) ai;omega);go_enter Tryz.func80,Tryz.ntmps80;go_wp2_with fail
 go_loopg [0,1] m (fun g bv nv wr=>∃(k:Nat) (ys:List Int),g=k/\nv=af k/\k<9223372036854775808/\aT B wr bv ys/\Hid (ys++aN k=xs++aN m)/\Hid (aA (fun b=>(ah ao xs cap).ownBlock=some b) w wr)/\Hid (∀b,bv.ownBlock=some b->(ah ao xs cap).ownBlock=some b\/w.heap.size<=b))
 case atStart=>exact⟨m,xs,rfl,rfl,ai,hown,ag rfl,ag (aA.refl _ _),ag fun b hb=> .inl hb⟩
 case round=>
  obtain⟨k,ys,E3,rfl,hk,ho,HY,PW,Tg⟩:=hrel;obtain rfl:=E3.symm;obtain⟨so,sc,rfl⟩:=ho.isSlice;have hsz:B<=wr:=fZ hB PW.out.size;have wG:ys.length<=1000000:=by
   have h1:=HT.out;rw [<-HY.out,dF]at h1;omega
  have hsl:(1:Nat)<=1000000:=ai;have HTT:=ag fun w2 (w3:World) (ht:aA (fun b=>(ah so ys sc).ownBlock=some b) w2 w3) (h2:aq wr w2)=>(aA.trans' (aA.trans' PW.out (aA.of (X:=fun _=>False) h2 aO) (fun _ _ h=>h.elim)) ht (fun i hi hx=>by
   rcases Tg.out i hx with h|h
   ·exact h
   ·omega):aA (fun b=>(ah ao xs cap).ownBlock=some b) w w3)
  have HLL:=ag fun(w2:World) (v3:Value) (h2:wr<=w2.heap.size) (hl:∀b,v3.ownBlock=some b->(ah so ys sc).ownBlock=some b\/w2.heap.size<=b)=>(fun b hb=>by
   have:=PW.out.size;rcases hl b hb with h|h
   ·exact Tg.out b h
   ·exact .inr ai:∀b,v3.ownBlock=some b->(ah ao xs cap).ownBlock=some b\/w.heap.size<=b)
  by_cases hlt:k<128
  ·have hd:decide ((127:Int)<(k:Int))=false:=by simp;omega
   have HE:=ag (show ys++[(k:Int)]=xs++aN m by rw [<-HY.out,lA hlt]);have hw:IntKind.u8.wrap (k:Int)=(k:Int):=FB ai ai;clear hlt;go_wp2_with ((at_builtin;refine kJ rfl (.tmp 16) (.tmp 19) rfl B _ ys rfl Mx ⟨_,0,none⟩ 1 1 [(k:Int)] rfl rfl (fun j u h=>yS (by simpa [AG] using h)) wG hsl dI ?_;intro v3 w3 qd Ws Qb;have hb3:=HTT _ _ Ws aj;have hq3:=HLL _ _ dI Qb));go_ret;rw [HE]at qd;exact⟨hb3,_,rfl,qd,hq3⟩
  ·have hd:decide ((127:Int)<(k:Int))=true:=by simp;omega
   have HE:=ag (show (ys++[128+(k:Int)%128])++aN (k/128)=xs++aN m by
    rw [<-HY.out,n7 hlt,iT];simp)
   have a1:=i64_and127 (k:Int);have a2:=OZ (k:Int);have hw:IntKind.u8.wrap (128+(k:Int)%128)=128+(k:Int)%128:=FB ai ai;clear hlt;go_wp2_with ((at_builtin;refine kJ rfl (.tmp 7) (.tmp 12) rfl B _ ys rfl Mx ⟨_,0,none⟩ 1 1 [128+(k:Int)%128] rfl rfl (fun j u h=>yS (by simpa [AG] using h)) wG hsl dI ?_;intro v3 w3 qd Ws Qb;have hb3:=HTT _ _ Ws aj;have hq3:=HLL _ _ dI Qb));go_roundg (k/128)
   case measure=>have:=kD hd;omega
   case rel=>exact⟨k/128,ys++[128+(k:Int)%128],rfl,int_eq ai,ai,qd,HE,ag hb3,ag hq3⟩
theorem mh.below {v:Value} {e:Ending} (h:mh B w v xs e w') (hv:∀b,v.ownBlock=some b->B<=b) (hB:B<=w):Below B w w':=h.1.below (aW _ _) hB (fun i hi=>hv i hi)
end
section
variable {xs:List Int} {B n g:Nat} {w:World}
theorem aT.made {C:Array Value} {ys:List Int} (hC:C.toList=ys.flatMap AG) (hn:n=ys) (hl:ys.length<=1000000) (hB:B<=w):aT B (w.alloc (.cells C 5)) (ah w n n) ys:=by
 subst hn;have hs:C.size=ys:=by
  have:=congrArg List.length hC;rw [oQ]at this;simpa using this
 refine⟨⟨by rw [oQ];omega, .inr ⟨w.heap.size,ys.length,C,rfl,hB,?_,nu _,by unfold maxLen;omega,ai,?_⟩⟩⟩
 ·show (w.heap.push _)[w.heap.size]?=_;simp
 ·rw [iM fk];exact hC
theorem aT.cells {cap:Nat} (h:aT B w (ah g n cap) xs) (hl:0<xs.length):∀j u,(xs.flatMap AG)[j]?=some u->w.cell? (Addr.add (g,0) j)=some u:=by
 obtain⟨_,⟨hv,h0⟩|⟨g',cap',cur,hv,_,hg,_,_,_,h4⟩⟩:=h.row
 ·omega
 ·injection hv with hv1 _ _;injection hv1 with hv1;injection hv1 with hv1 _;subst hv1;intro j u hj;rw [<-h4,rF]at hj
  split at hj
  ·have ha:Addr.add (g,0) j=(g,j):=by simp [Addr.add];omega
   rw [ha];simp only [World.cell?,hg];simpa using hj
  ·cases hj
theorem aT.form {v:Value} (h:aT B w v xs) (hl:0<xs.length):∃g cap,v = .slice (some ⟨g,0,none⟩) xs.length cap:=Joins.ownsRow_form h.row hl
theorem Lb (n:Nat) (hn:n<128) (hg:w.heap[g]?=some (.cells #[.int .u8 119, .int .u8 110] 5 (2,3))) :
  Calls Tryz.prog 80 #[ah g 2 2,af n] w fun e w'=>aq w w'/\∃v',e = .returned v'/\aT w w' v' ([119,110]++aN n):=by
 obtain⟨i0,z,hi,hz,hz1,hz2,hz3⟩:=cG Tryz.Wn;have hgz:g<w:=(eJ.1 hg).1;have hcell:∀w',aq w w'->∀b,(some (g,0):Option Addr)=some b->∀j u,([119,110].flatMap AG)[j]?=some u->w'.cell? (b.add j)=some u:=fun w' hb b GR j u hj=>by
  injection GR with GR;subst GR;have ha:Addr.add (g,0) j=(g,j):=by simp [Addr.add];omega
  have h1:w'.heap[g]?=_:=(hb.block _ hgz).trans hg;rw [ha];simp only [World.cell?,h1];simpa [AG] using hj
 have HC:=ag hcell;have HE:=ag (lA hn);have hd:decide ((127:Int)<(n:Int))=false:=by simp;omega
 have hw:IntKind.u8.wrap (n:Int)=(n:Int):=FB ai ai;clear hcell hn;go_enter Tryz.func80,Tryz.ntmps80;go_wp2_with fail
 go_loopg [0,1] 0 (fun g' bv nv wr=>bv=ah g 2 2/\nv=af n/\wr=w)
 case atStart=>exact⟨rfl,rfl,rfl⟩
 case round=>
  obtain⟨rfl,rfl,hwr⟩:=hrel;obtain rfl:=hwr.symm;go_wp2_with ((at_builtin;refine wpList_append_grows _ rfl (.tmp 16) (.tmp 19) 61 rfl 5 i0 z 1 1 Tryz.underlying61 hi hz hz1 hz2 hz3 bY (some (g,0)) 2 2 ([119,110].flatMap AG) rfl (fun h=>by cases h) rfl (HC _ aj) ⟨_,0,none⟩ 1 1 ([(n:Int)].flatMap AG) rfl rfl (fun j u h=>yS (by simpa [AG] using h)) (NL _) ai iI ai ?_;intro v3 w3 qd hg3;have hb3:aq w w3:=nP (show aq w _ from aj) hg3 dI (fun k hk=>by cases hk)));go_ret;refine⟨hb3,_,rfl,?_⟩;rw [HE];refine⟨?_⟩;have:=Joins.ownsRow_le qd (show w.heap.size<=_ from dI);simpa [AG] using this
theorem KL {v:Value} {n:Int} (hown:aT B w v xs) (hB:B<=w) (hn : -4611686018427387903<=n) (tT:n<4611686018427387904) (hlen:xs.length<=990000) :
  Calls Tryz.prog 81 #[v,af n] w (mh B w v (xs++dS n)):=by
 obtain⟨ao,cap,rfl⟩:=hown.isSlice;by_cases hlt:n<0
 ·have hd:decide (n<0)=true:=by simp [hlt]
  have m1:IntKind.i64.wrap (-2*n) = -2*n:=bI _ ai;have m2:IntKind.i64.wrap (-2*n-1) = -2*n-1:=bI _ ai;have HN:=ag (lC (n:=-2*n-1) hown hB ai ai hlen);have HE:=ag (show dS n=aN (-2*n-1).toNat by unfold dS;rw [aw hlt]);clear hlt hn tT;go_enter Tryz.func81,Tryz.ntmps81;go_wp2_with ((go_at_call 80;(with_reducible refine HN.out.mono ?_);rintro e w3 ⟨hb3,v3,rfl,mC,Qb⟩));go_ret;rw [HE];exact⟨hb3,_,rfl,mC,Qb⟩
 ·have hd:decide (n<0)=false:=by simp;omega
  have m1:IntKind.i64.wrap (2*n)=2*n:=bI _ ai;have HN:=ag (lC (n:=2*n) hown hB ai ai hlen);have HE:=ag (show dS n=aN (2*n).toNat by unfold dS;rw [ar hlt]);clear hlt hn tT;go_enter Tryz.func81,Tryz.ntmps81;go_wp2_with ((go_at_call 80;(with_reducible refine HN.out.mono ?_);rintro e w3 ⟨hb3,v3,rfl,mC,Qb⟩));go_ret;rw [HE];exact⟨hb3,_,rfl,mC,Qb⟩
end
section
variable {xs:List Int} {w:World}
theorem pQ {ab aR n cap j:Nat} {i:Int} (h:i=j) (hj:j<n) (w:World):(Instr.indexAt 61 (ah (some (ab,aR)) n cap) (af i)).run Tryz.prog w = .ok (.pointer (some (ab,aR+j))) w:=by
 subst h;go_simp
theorem oz {b off k:Nat} (h:∀i x,xs[i]?=some x->∀j u,(AG x)[j]?=some u->w.cell? (b,off+i*1+j)=some u) (hk:k<xs):w.cell? (b,off+k)=some (.int .u8 xs[k]):=by
 have:=h k xs[k] (by simp [hk]) 0 _ rfl;simpa using this
theorem Oo {x y:Int} (h0:0<=x) (h1:x<65536) (h2:0<=y) (h3:y<65536):bits .or .i64 (y*65536) x=y*65536+x:=by
 rw [bits_join .i64 63 bY (fun n h0 h1=>bI _ ai) 16 (y*65536) x ai ai ai h0 ai ai]
theorem M5 {v:Value} (h:ig w v xs) (hx:aX xs) :
  Calls Tryz.prog 82 #[v] w fun e w'=>e = .returned (af ((iK xs).2*65536+(iK xs).1))/\w'=w:=by
 obtain⟨ao,cap,rfl,a1,a2,a3,a4,a5⟩:=h;have HX:=ag hx;clear hx;go_enter Tryz.func82,Tryz.ntmps82;go_wp2_with fail
 go_loopg [3,4,9] xs (fun g xv yv i wr=>∃(k:Nat) (x y:Int),k<=xs/\g=xs-k/\i=af k/\xv=af x/\yv=af y/\Hid (iK (xs.take k)=(x,y))/\wr=w)
 case atStart=>exact⟨0,1,0,eY _,rfl,rfl,rfl,rfl,ag rfl,rfl⟩
 case round=>
  obtain⟨k,x,y,hk,rfl,rfl,rfl,rfl,HS,hwr⟩:=hrel;obtain rfl:=hwr.symm;have hr:=pC (xs.take k);rw [HS.out]at hr;obtain⟨r1,r2,r3,r4⟩:=hr;simp only at r1 r2 r3 r4;by_cases hlt:k<xs
  ·obtain⟨ab,aR,rfl,qy,ac⟩:=a5 ai;have e0:=oz ac hlt;obtain⟨c,hc⟩:=bG (xs[k]);rw [hc]at e0;have hcr:=HX c (by rw [<-hc];exact eZ hlt);obtain⟨X,hX⟩:=bG ((x+c)%65521);obtain⟨Y,hY⟩:=bG ((y+X)%65521);have HN:=ag (show iK (xs.take (k+1))=(X,Y) by rw [He hlt,HS.out,hc];simp [n9,hX,hY]);have jA:=fun w'=>pQ (ab:=ab) (aR:=aR) (n:=xs.length) (cap:=cap) (show (k:Int)=((k:Nat):Int) by rfl) hlt w';have c1:IntKind.i64.wrap c=c:=bI _ ai;have c2:IntKind.i64.wrap (x+c)=x+c:=bI _ ai;have c3:(x+c).tmod 65521=X:=by rw [tJ ai];exact hX
   have c4:IntKind.i64.wrap X=X:=bI _ ai;have c5:IntKind.i64.wrap (y+X)=y+X:=bI _ ai;have c6:(y+X).tmod 65521=Y:=by rw [tJ ai];exact hY
   have c7:IntKind.i64.wrap Y=Y:=bI _ ai;clear ac a5 hc hX hY;go_wp2;go_roundg (xs-(k+1))
   case measure=>omega
   case rel=>exact⟨k+1,X,Y,ai,rfl,by go_num,rfl,rfl,HN,rfl⟩
  ·have HE:=ag (show iK xs=(x,y) by rw [<-HS.out,iM ai]);have c1:IntKind.i64.wrap (y*65536)=y*65536:=bI _ ai;have c2:IntKind.i64.wrap (y*2 ^ 16)=y*65536:=c1;have c3:=Oo (x:=x) (y:=y) r1 ai r3 ai;go_wp2;go_ret;rw [HE];exact⟨rfl,rfl⟩
end
section
variable {b:Ba} {l:List aH}
def V8 (B:Nat) (w:World) (bs:List Int) (E:Int) (e:Ending) (w':World):Prop:=Below B w w'/\∃v,e = .returned (.tuple #[v,af E])/\aT B w' v bs
theorem Ii {ns:List ByteArray} {k:Nat} (hk:k<ns):dB (ns.take (k+1))=dB (ns.take k)++(aN ns[k].size++nums ns[k]):=by
 unfold dB;rw [ja hk,pK,List.flatMap_singleton]
theorem Mh {k:Nat} {last:Int} (hk:k<l):eI last (l.drop k)=yK last l[k]++eI l[k].key (l.drop (k+1)):=by
 rw [qI hk];rfl
theorem Sv (h:aS b=false):En b=7/\Em b=[]:=by unfold En Em;rw [aw h,aw h];exact⟨rfl,rfl⟩
theorem PE (h:aS b=true) (hl:cx b=some l) (h2:10000<l.length):En b=1/\Em b=[]:=by
 unfold En Em;rw [ar (by rw [h];decide),ar (by rw [h];decide),hl];simp only;rw [aw h2,aw h2];exact⟨rfl,rfl⟩
theorem PF (h:aS b=true) (hl:cx b=some l) (h2:¬10000<l.length) (h3:200000<(kM b l).length+4):En b=1/\Em b=[]:=by
 unfold En Em;rw [ar (by rw [h];decide),ar (by rw [h];decide),hl];simp only;rw [ar h2,ar h2,aw h3,aw h3];exact⟨rfl,rfl⟩
theorem NK (h:aS b=true) (hl:cx b=some l) (h2:¬10000<l.length) (h3:¬200000<(kM b l).length+4):En b=0/\Em b=kM b l++mJ (kM b l):=by
 unfold En Em;rw [ar (by rw [h];decide),ar (by rw [h];decide),hl];simp only;rw [ar h2,ar h2,ar h3,ar h3];exact⟨rfl,rfl⟩
theorem Li (h:aS b=true) {k:Nat} (hk:k<b.names):b.names[k].size<=10:=by
 have:=((dJ h).names k hk).1;simp [dt]at this;omega
theorem lS (h:aS b=true):∀s∈b.names,s.size<=10:=fun s hs=>by
 obtain⟨k,hk,rfl⟩:=nr hs;exact Li h hk
theorem Mk {v:Value} {w:World} (h:bR w v b) (hst:∀s∈b.names,s.size<=140737488351232) (hsz:cI w) :
  Calls Tryz.prog 39 #[v] w (V8 w w (Em b) (En b)):=by
 have jD:=ag fun w' (hb:aq w w')=>gP (h.below hb) hst (hsz.below hb);obtain⟨sa,sc,g0,l0,p0,g1,l1,p1,g2,l2,p2,rfl,hn,dE,T0,T1,T2⟩:=h.open;obtain⟨W0,hW0⟩:=cd (w.alloc (.cells (aL sa b.names sc g0 l0 p0 g1 l1 p1 g2 l2 p2 b) 30));have hb0:aq w W0:=by rw [hW0];exact aj
 have hz0:W0=w.heap.size+1:=by rw [hW0];simp
 have k0:W0.heap[w.heap.size]?=some (.cells (aL sa b.names sc g0 l0 p0 g1 l1 p1 g2 l2 p2 b) 30):=by rw [hW0];exact au _ _ rfl
 have HX:=ag fun w' (hb:aq W0 w')=>(by
  have b0:w'.heap[w.heap.size]?=_:=(hb.block _ ai).trans k0;simp [World.cell?,b0] :
  w'.cell? (w,0)=some (ah sa b.names sc)/\w'.cell? (w,1)=some (ah g0 l0 p0)/\(w',w.heap.size,2,b.t0.root)/\w'.cell? (w,3)=some (ah g1 l1 p1)/\(w',w.heap.size,4,b.t1.root)/\w'.cell? (w,5)=some (ah g2 l2 p2)/\(w',w.heap.size,6,b.t2.root)/\(w',w.heap.size,7,b.floor))
 have HB:=ag fun w' (hb:aq W0 w')=>(aF hb0 hb hb0.size:aq w w');obtain⟨x0,x1,x2,x3,x4,x5,x6,x7⟩:=HX W0 (aW _ _);have Qg:=ag fun w' (hb:aq W0 w')=>(lq (lo:=0) (hi:=1099511627776) (T0 w' (HB w' hb))).mono fun e w' hp=>kG.allT hp;have VM:=ag dE;clear h hst hsz dE T0 T1 T2;go_enter Tryz.func39,Tryz.ntmps39;go_upto_region 1 with (fail);rw [<-hW0];clear hW0 k0
 cases tX:aS b with
 |false=>
  have hc:mS b=7:=iA tX;have HR:=ag (Sv tX);rw [hc]at jD;clear hc tX;go_wp2_with ((go_at_call 66;(with_reducible refine(jD.out _ hb0).mono ?_);rintro e w1 ⟨rfl,hb1⟩))
  go_ret2
  rw [HR.1,HR.2];exact⟨HB _ hb1,_,rfl,aT.nil _ _⟩
 |true=>
  have hc:mS b=0:=eU tX;rw [hc]at jD;obtain⟨l,hl,hrise,hg,-⟩:=fJ tX;have hal:=(lM hl).1;rw [hal]at Qg;have mY:=ag tX;have HL:=ag hl;have HRI:=ag hrise;have HG:=ag hg;have hll:l.length<=50000:=hg.2.2;clear hc tX hl hrise hg hal;go_upto_region 7 with (first|(go_at_call 66;(with_reducible refine(jD.out _ hb0).mono ?_);rintro e w1 ⟨rfl,hb1⟩;obtain⟨x0,x1,x2,x3,x4,x5,x6,x7⟩:=HX _ hb1)|(go_at_call 74;(with_reducible refine(Qg.out _ hb1).mono ?_);rintro e w2 ⟨hb2,v2,rfl,I4⟩;have qo:=aF hb1 hb2 hb1.size;obtain⟨s2,c2,rfl⟩:=I4.isSlice));have ah6:=HB _ qo;by_cases hm:10000<l.length
  ·have hmd:decide ((10000:Int)<(l.length:Int))=true:=by simp;omega
   have HR:=ag (PE mY HL hm);clear hm;go_wp2
   go_ret2
   rw [HR.1,HR.2];exact⟨ah6,_,rfl,aT.nil _ _⟩
  ·have hmd:decide ((10000:Int)<(l.length:Int))=false:=by simp;omega
   have HM:=ag hm;have DG:=ag (I4.at ai);have ZO:=ag (dJ mY).n16;have HF0:=ag (aJ (dJ mY).fl0 (dJ mY).TN);have Ke:=ag (lS mY);clear hm I4 x0 x1 x2 x3 x4 x5 x6 x7;obtain⟨x0,x1,x2,x3,x4,x5,x6,x7⟩:=HX _ qo;go_upto_region 9 with (fail);clear hmd;obtain⟨W3,hW3⟩:=cd (w2.alloc (.cells #[.int .u8 119, .int .u8 110] 5 (2,3)));have hb3:aq w2 W3:=by rw [hW3];exact aj
   have Jc:aq W0 W3:=aF qo hb3 qo.size;have k3:W3.heap[w2.heap.size]?=some (.cells #[.int .u8 119, .int .u8 110] 5 (2,3)):=by rw [hW3];exact au _ _ rfl
   have hz3:W3=w2.heap.size+1:=by rw [hW3];simp
   have HN:=ag (Lb (w:=W3) (g:=w2.heap.size) b.names (by have:=ZO.out;omega) k3);have Xc:=ag fun w' (hb:aq W3 w')=>HX w' (aF Jc hb Jc.size);have sL:=ag fun w' (hb:aq W3 w')=>HB w' (aF Jc hb Jc.size);have oL:=ag fun w' (hb:aq W3 w')=>(aF hb3 hb hb3.size:aq w2 w');have hcv:(convert 61 61 (ah w2 2 2)).run Tryz.prog (w2.alloc (.cells #[.int .u8 119, .int .u8 110] 5)) = .ok (ah w2 2 2) W3:=by
    rw [hW3];exact Joins.run_convert_bytes_const_at (P:=Tryz.prog) w2 61 5 #[.int .u8 119, .int .u8 110] 2 2 w2 rfl Tryz.underlying61 Tryz.underlying5
   obtain⟨x0',-⟩:=Xc _ (aW _ _);clear hW3 k3;go_upto_region 10 with ((go_at_call 80;(with_reducible refine HN.out.mono ?_);rintro e w4 ⟨hb4,v4,rfl,zk⟩));clear x0' hcv x0 x1 x2 x3 x4 x5 x6 x7;obtain⟨x0,x1,x2,x3,x4,x5,x6,x7⟩:=Xc _ hb4;obtain⟨P0,YV⟩:=bG ([119,110]++aN b.names);have uX:=ag YV;have hl0:P0.length<=11:=by rw [<-YV,dF];have:=cY (n:=b.names.length) (by have:=ZO.out;omega);simp;omega
   rw [YV]at zk;clear YV;obtain⟨so4,sc4,rfl⟩:=zk.isSlice;go_upto_region 11 with (fail)
   go_loopg [7,43] b.names (fun g bv i wr=>∃k:Nat,k<=b.names/\g=b.names-k/\i=af k/\aT W3 wr bv (P0++dB (b.names.take k))/\aq W3 wr)
   case atStart=>exact⟨0,eY _,rfl,rfl,by simpa [dB] using zk,hb4⟩
   case round=>
    clear x0 x1 x2 x3 x4 x5 x6 x7 zk hb4;obtain⟨k,hk,rfl,rfl,ho,hb⟩:=hrel;have hsz:=hb.size;obtain⟨P,hP⟩:=bG (P0++dB (b.names.take k));rw [hP]at ho;obtain⟨so,wF,rfl⟩:=ho.isSlice;obtain⟨x0,-,-,-,-,-,-,x7⟩:=Xc _ hb;have hln:P.length<=400:=by
     have h1:=vN (ns:=b.names.take k) fun s hs=>Ke s (uQ hs);rw [gh]at h1;have:=ZO.out;rw [<-hP,dF];omega
    have HP:=ag hP;clear hP;by_cases hlt:k<b.names
    ·obtain⟨_,_,va,-,-,-,-,a5⟩:=VM.out;obtain⟨ab,aR,hA,qy,ac⟩:=a5 ai;injection va with Xv _ Xu;subst Xv Xu hA;have e0:=nE (sL _ hb) qy ac hlt;obtain⟨s,hs⟩:=bG (b.names[k]);rw [hs]at e0;have tu:=Ke s (by rw [<-hs];exact eZ hlt);have HST:=ag (Ii hlt);rw [hs]at HST;have jA:=fun w'=>qV (ab:=ab) (aR:=aR) (n:=b.names.length) (cap:=sc) (show (k:Int)=((k:Nat):Int) by rfl) hlt w';obtain⟨P2,Vs⟩:=bG (P++aN s.size);have HE:=ag (show P2++nums s=P0++dB (b.names.take (k+1)) by rw [HST,<-Vs,<-HP];simp);have YW:Calls Tryz.prog 80 #[ah so P wF,af s.size] wr (mh W3 wr (ah so P wF) (P++aN s.size)):=lC (n:=(s.size:Int)) ho hsz ai ai ai;have agu:P2.length<=1000000:=(by rw [<-Vs,dF];have:=cY (n:=s.size) ai;omega);rw [Vs]at YW;have ai6:=ag YW;have ag7:s.size<=1000000:=ai;have HV:=ag fun g hg=>(ho.lt g hg).1;clear hs a5 ac tu hln Vs YW;go_wp2_with (first
      |(go_at_call 80;(with_reducible refine ai6.out.mono ?_);intro e w5 h5;have cy:=hb.trans (h5.below HV hsz);obtain⟨-,v5,rfl,fY,-⟩:=h5;obtain⟨s5,c5,rfl⟩:=fY.isSlice;have vQ:=cy.size)
      |(at_builtin;refine xG rfl (.tmp 50) (.tmp 51) rfl W3 _ P2 rfl fY s rfl agu ag7 vQ ?_;intro v6 w6 afy hg6;have ji:=hg6 W3 W3 cy aO))
     go_roundg (b.names-(k+1))
     case measure=>omega
     case rel=>exact⟨k+1,ai,rfl,by go_num,by rw [<-HE];exact afy,ji⟩
    ·have hPn:P=P0++dB b.names:=(by rw [<-HP,iM ai]);have HPN:=ag hPn;obtain⟨F,hF⟩:∃F:Nat,b.floor=F:=⟨b.floor.toNat,by have:=HF0.out;omega⟩;have hFr:F<=1048575:=(by have:=HF0.out;omega);have HF:=ag hF;rw [hF]at x7;obtain⟨P2,Vs⟩:=bG (P++aN F);obtain⟨P1,hP1⟩:=bG (P2++aN l);have hl2:P2.length<=410:=by
      have h1:=cY (n:=F) ai;rw [<-Vs,dF];omega
     have RJ:P1.length<=420:=by
      have h2:=cY (n:=l.length) ai;rw [<-hP1,dF];omega
     have YX:Calls Tryz.prog 80 #[ah so P wF,af F] wr (mh W3 wr (ah so P wF) (P++aN F)):=lC (n:=(F:Int)) ho hsz ai ai ai;have Qf:∀w5 (v5:Value) (fY:aT W3 w5 v5 P2) (vQ:W3<=w5.heap.size),Calls Tryz.prog 80 #[v5,af l] w5 (mh W3 w5 v5 (P2++aN l)):=fun w5 v5 fY vQ=>lC (n:=(l.length:Int)) fY vQ ai ai ai;have HBY:=ag (show P1++eI 0 l=kM b l by rw [<-hP1,<-Vs,HPN,<-uX];unfold kM;rw [HF];simp);rw [Vs]at YX;rw [hP1]at Qf;have Xi:=ag YX;have GZ:=ag Qf;have HV:=ag fun g hg=>(ho.lt g hg).1;clear hPn hF hP1 Vs YX Qf;go_upto_region 16 with (first
      |(go_at_call 80;(with_reducible refine Xi.out.mono ?_);intro e w5 h5;have cy:=hb.trans (h5.below HV hsz);obtain⟨-,v5,rfl,fY,-⟩:=h5;obtain⟨s5,c5,rfl⟩:=fY.isSlice;have vQ:=cy.size)
      |(go_at_call 80;(with_reducible refine(GZ.out _ _ fY vQ).mono ?_);intro e w6 h6;have ji:=cy.trans (h6.below (fun g hg=>(fY.lt g hg).1) vQ);obtain⟨-,v6,rfl,sM,-⟩:=h6;obtain⟨s6,c6,rfl⟩:=sM.isSlice))
     have ahe:=yJ (last:=0) HG (Int.le_refl 0);have hT2:(eI 0 l).length<=540000:=(by have:=HM.out;omega);clear ho hb hsz vQ cy fY x0 x7 hln ahe;go_upto_region 18 with (fail)
     go_loopg [7,10,63] l (fun g bv lv i wr=>∃(k:Nat) (last:Int) (pre:List Int),k<=l/\g=l-k/\i=af k/\lv=af last/\aT W3 wr bv (P1++pre)/\Hid (eI 0 l=pre++eI last (l.drop k))/\Hid (0<=last/\∀e∈l.drop k,last<=e.key)/\aq W3 wr)
     case atStart=>exact⟨0,0,[],eY _,rfl,rfl,rfl,by simpa using sM,ag rfl,ag ⟨Int.le_refl 0,fun e he=>(HG.2.1 e he).1⟩,ji⟩
     case round=>
      clear sM ji;obtain⟨k,last,pre,hk,rfl,rfl,rfl,ho,ZF,Xk,hb⟩:=hrel;have hsz:=hb.size;have hpl:pre.length<=540000:=by
       have:=congrArg List.length ZF.out;rw [dF]at this;omega
      obtain⟨Q,hQ⟩:=bG (P1++pre);rw [hQ]at ho;have Tz:Q.length<=541000:=(by rw [<-hQ,dF];omega);have HQ:=ag hQ;obtain⟨so,wF,rfl⟩:=ho.isSlice;clear hQ hpl;by_cases hlt:k<l
      ·obtain⟨_,_,hv,-,-,-,-,h5⟩:=DG.out;injection hv with hv1 _ hv3;subst hv1 hv3;obtain⟨eb,cM,ll,pq,jF⟩:=h5 ai;subst ll;obtain⟨y0,y1,y2,y3,y4,y5,y6⟩:=br (oL _ hb) pq jF hlt;obtain⟨y,hy⟩:=bG (l[k]);rw [hy]at y0 y1 y2 y3 y4 y5 y6;have wG:y∈l:=(by rw [<-hy];exact eZ hlt);have Nv:y∈l.drop k:=(by rw [qI hlt,hy];simp);obtain⟨iy,hk1⟩:=HG.2.1 y wG;obtain⟨hgd,hcc⟩:=dC (HG.1 y wG).2 (HG.1 y wG).1;have hsm:=uH hgd hcc;obtain⟨g0',g1',g2',g3',g4',g5',g6',-⟩:=hgd;have am0:=Xk.out.1;have alZ:=Xk.out.2 y Nv;have HST:=ag (Mh (last:=last) hlt);rw [hy]at HST;have HNL:=ag (show 0<=y.key/\∀e∈l.drop (k+1),y.key<=e.key from ⟨iy,fun e he=>by
        obtain⟨i,hi,rfl⟩:=nr he;rw [List.getElem_drop];have h1:=sI.1 HRI k (k+1+i) hlt (by rw [qG]at hi;omega) ai;rw [hy]at h1;omega⟩)
       have m1:IntKind.i64.wrap (y.key-last)=y.key-last:=bI _ ai;have jA:=fun w'=>cN (ab:=eb) (aR:=cM) (n:=l.length) (cap:=c2) (show (k:Int)=((k:Nat):Int) by rfl) hlt w';have hwz:eb<wr:=(by have:=(oL _ hb).size;omega);obtain⟨W1,hW1⟩:=cd (wr.alloc (.cells #[af y.key,af y.is.c,af y.is.s,af y.is.mi,af y.is.ma,af y.is.t,af y.is.l] 107));have xm:aq W3 W1:=(by rw [hW1];exact aj);have hz1:W1=wr.heap.size+1:=(by rw [hW1];simp);have k1:W1.heap[wr.heap.size]?=some (.cells #[af y.key,af y.is.c,af y.is.s,af y.is.mi,af y.is.ma,af y.is.t,af y.is.l] 107):=(by rw [hW1];exact au _ _ rfl);have NY:=ag fun(w':World) (X:Nat->Prop) (ht:aA X W1 w') (hX:¬X wr)=>(by
        have b0:w'.heap[wr.heap.size]?=_:=(ht.block _ ai hX).trans k1;simp [World.cell?,b0]:(w',wr.heap.size,0,y.key)/\(w',wr.heap.size,1,y.is.c)/\(w',wr.heap.size,2,y.is.s)/\(w',wr.heap.size,3,y.is.mi)/\(w',wr.heap.size,4,y.is.ma)/\(w',wr.heap.size,5,y.is.t)/\(w',wr.heap.size,6,y.is.l))
       have tW:aT W3 W1 (ah so Q wF) Q:=(by rw [hW1];exact ho.alloc _);have hnb:(ah so Q wF).ownBlock≠some wr.heap.size:=fun h=>(by have:=(ho.lt _ h).2;omega);obtain⟨q0,q1,q2,q3,q4,q5,q6⟩:=NY W1 (fun _=>False) (aA.refl _ _) (fun h=>h);obtain⟨Q1,hQ1⟩:=bG (Q++aN (y.key-last).toNat);obtain⟨Q2,hQ2⟩:=bG (Q1++aN y.is.c.toNat);have am4:Q1.length<=541009:=(by rw [<-hQ1,dF];have:=cY (n:=(y.key-last).toNat) ai;omega);have am2:Q2.length<=541018:=(by rw [<-hQ2,dF];have:=cY (n:=y.is.c.toNat) ai;omega);have YX:=lC (n:=y.key-last) tW xm.size ai ai ai;have Qf:∀w5 (v5:Value) (fY:aT W3 w5 v5 Q1) (vQ:W3<=w5.heap.size),Calls Tryz.prog 80 #[v5,af y.is.c] w5 (mh W3 w5 v5 (Q1++aN y.is.c.toNat)):=fun w5 v5 fY vQ=>lC (n:=y.is.c) fY vQ ai ai ai;rw [hQ1]at YX;rw [hQ2]at Qf;have Xi:=ag YX;have GZ:=ag Qf;have HQQ:=ag (show Q2=P1++(pre++(aN (y.key-last).toNat++aN y.is.c.toNat)) by rw [<-hQ2,<-hQ1,<-HQ];simp);have HV1:=ag fun g hg=>(tW.lt g hg).1;have GY:=ag hnb;clear jF h5 hy wG Nv hQ1 hQ2 YX Qf hnb;go_upto_region 20 with (fail);rw [<-hW1];clear hW1 k1 ho y0 y1 y2 y3 y4 y5 y6;go_upto_region 21 with ((go_at_call 80;(with_reducible refine Xi.out.mono ?_);intro e w5 h5;have cy:=xm.trans (h5.below HV1 xm.size);obtain⟨ud,v5,rfl,fY,hl5⟩:=h5;obtain⟨s5,c5,rfl⟩:=fY.isSlice;have vQ:=cy.size));have abR:(ah s5 Q1 c5).ownBlock≠some wr.heap.size:=fun h=>by
        rcases hl5 _ h with h'|h'
        ·exact GY h'
        ·omega
       clear q0 q1 q2 q3 q4 q5 q6;obtain⟨q0,q1,q2,q3,q4,q5,q6⟩:=NY w5 _ ud GY;have afN:wr<w5.heap.size:=(by have:=ud.size;omega);have aia:=ag abR;clear abR hl5;go_upto_region 23 with ((go_at_call 80;(with_reducible refine(GZ.out _ _ fY vQ).mono ?_);intro e w6 h6;have ji:=cy.trans (h6.below (fun g hg=>(fY.lt g hg).1) vQ);obtain⟨ht6,v6,rfl,sM,hl6⟩:=h6;obtain⟨s6,c6,rfl⟩:=sM.isSlice;have DK:=ji.size));have aby:aA (fun x=>(ah so Q wF).ownBlock=some x\/(ah s5 Q1 c5).ownBlock=some x) W1 w6:=
        (ud.mono (fun i _ h=> .inl h)).trans' ht6 (fun i _ h=> .inr h)
       clear q0 q1 q2 q3 q4 q5 q6;obtain⟨q0,q1,q2,q3,q4,q5,q6⟩:=NY w6 _ aby (fun h=>h.elim GY aia);obtain⟨Z,hZ⟩:=bG ([y.is.s,y.is.mi,y.is.ma,y.is.l]);have WR:Z.length=4:=(by rw [<-hZ];rfl);have HZB:=ag (show ∀n∈Z,-4611686018427387903<=n/\n<4611686018427387904 from fun n hn=>by rw [<-hZ]at hn;simp at hn;omega);obtain⟨W7,pF⟩:=cd (w6.alloc (.cells #[af y.is.s,af y.is.mi,af y.is.ma,af y.is.l] 3));have ow:aq W3 W7:=(by rw [pF];exact aj);have E0:W7=w6.heap.size+1:=(by rw [pF];simp);have k7:W7.heap[w6.heap.size]?=some (.cells #[af y.is.s,af y.is.mi,af y.is.ma,af y.is.l] 3):=(by rw [pF];exact au _ _ rfl);have HZC:=ag fun(w':World) (X:Nat->Prop) (ht:aA X W7 w') (hX:¬X w6) (j:Nat) (hj:j<Z)=>(by
        have b0:w'.heap[w6.heap.size]?=_:=(ht.block _ ai hX).trans k7;subst hZ
        match j,hj with
        |0,_=>simp [World.cell?,b0]
        |1,_=>simp [World.cell?,b0]
        |2,_=>simp [World.cell?,b0]
        |3,_=>simp [World.cell?,b0]:w'.cell? (w6,j)=some (af Z[j]))
       have Ny:aT W3 W7 (ah s6 Q2 c6) Q2:=(by rw [pF];exact sM.alloc _);have abQ:(ah s6 Q2 c6).ownBlock≠some w6.heap.size:=fun h=>(by have:=(sM.lt _ h).2;omega);have ai9:=ag abQ;have HEL:=ag (show P1++(pre++yK last y)=Q2++Z.flatMap dS by rw [HQQ,<-hZ];simp [yK]);have aio:=ag (show eI 0 l=(pre++yK last y)++eI y.key (l.drop (k+1)) by rw [ZF.out,HST];simp);have HV6:=ag fun g hg=>(Ny.lt g hg).1;have zn:=ag ow;clear abQ hZ sM ht6 hl6 ji aby ud fY cy NY Xi GZ afN vQ;go_upto_region 24 with (fail);rw [<-pF];clear pF k7 q0 q1 q2 q3 q4 q5 q6
       go_loopg [7,94] 4 (fun g bv i wr2=>∃(j:Nat) (bs:List Int),j<=4/\g=4-j/\i=af j/\aT W3 wr2 bv bs/\Hid (bs=Q2++(Z.take j).flatMap dS)/\bs<=541018+9*j/\Hid (aA (fun x=>(ah s6 Q2 c6).ownBlock=some x) W7 wr2)/\Hid (∀x,bv.ownBlock=some x->(ah s6 Q2 c6).ownBlock=some x\/W7.heap.size<=x))
       case atStart=>exact⟨0,Q2,ai,rfl,rfl,Ny,ag bh,ai,ag (aA.refl _ _),ag fun x hx=> .inl hx⟩
       case round=>
        obtain⟨j,bs,hj,rfl,rfl,ni,Z0,hbl,PW,Tg⟩:=hrel;obtain⟨so8,sc8,rfl⟩:=ni.isSlice;have cT:=PW.out.below zn (by have:=zn.size;omega) (fun i hi=>HV6 i hi);have XZ:=cT.size;by_cases hj4:j<4
        ·have RM:j<Z:=ai;have e0:=HZC wr _ PW.out ai9 j RM;obtain⟨n,hn⟩:=bG (Z[j]);rw [hn]at e0;obtain⟨n1,n2⟩:=HZB n (by rw [<-hn];exact eZ RM);have jA:=fun w'=>jL (ab:=w6.heap.size) (aR:=0) (n:=4) (cap:=4) (show (j:Int)=((j:Nat):Int) by rfl) hj4 w';simp only [iR]at jA;obtain⟨bs2,Vm⟩:=bG (bs++dS n);have hN8:=KL (n:=n) ni XZ n1 n2 ai;rw [Vm]at hN8;have HN8:=ag hN8;have aiy:=ag (show bs2=Q2++(Z.take (j+1)).flatMap dS by
          rw [ja RM,pK,hn,<-Vm,Z0.out];simp)
         have YL:bs2<=541018+9*(j+1):=(by rw [<-Vm,dF];have:=ug (n:=n) n1 n2;omega);clear hn Vm hN8 RM;go_wp2_with ((go_at_call 81;(with_reducible refine HN8.out.mono ?_);rintro e w9 ⟨U7,v9,rfl,RD,hl9⟩;obtain⟨s9,c9,rfl⟩:=RD.isSlice));go_roundg (4-(j+1))
         case measure=>omega
         case rel=>
          refine⟨j+1,bs2,ai,rfl,by go_num,RD,aiy,YL,ag (PW.out.trans' U7 fun i hi hx=>?_),ag fun x hx=>?_⟩
          ·rcases Tg.out i hx with h|h
           ·exact h
           ·omega
          ·rcases hl9 x hx with h|h
           ·exact Tg.out x h
           ·exact .inr (by have:=PW.out.size;omega)
        ·have hj':j=4:=ai;have ain:=ag (show bs=P1++(pre++yK last y) by rw [Z0.out,HEL,iM ai]);go_wp2;go_roundg (l-(k+1))
         case measure=>omega
         case rel=>exact⟨k+1,y.key,pre++yK last y,ai,rfl,by go_num,rfl,by rw [<-ain];exact ni,aio,HNL,cT⟩
      ·have hall:Q=kM b l:=by
        have h1:=ZF.out;rw [zX ai]at h1;have h2:eI last []=[]:=by cases l <;> rfl
        rw [h2,nQ]at h1;rw [<-HQ,<-h1,HBY]
       have gV:=ag hall;have HBB:=ag (AH b l);rw [<-hall]at HBB;have hsr:=pC Q;obtain⟨p,hp⟩:=bG (iK Q);obtain⟨X,Y⟩:=p;rw [hp]at hsr;obtain⟨r1,r2,r3,r4⟩:=hsr;simp only at r1 r2 r3 r4;have hS:=M5 (ho.at ai) HBB;rw [hp]at hS;obtain⟨N,hN⟩:=bG (Y*65536+X);rw [show ((X,Y):Int×Int).2*65536+((X,Y):Int×Int).1=N from hN]at hS;have HS:=ag hS;have TS:=ag (show mJ Q=[Y/256,Y%256,X/256,X%256] by simp [mJ,hp]);have lw:IntKind.i64.wrap ((Q.length:Int)+4)=(Q.length:Int)+4:=bI _ ai;have u1:IntKind.u8.wrap (N/16777216)=Y/256:=(by rw [IntKind.wrap_u8];omega);have u2:IntKind.u8.wrap (N/65536)=Y%256:=(by rw [IntKind.wrap_u8];omega);have u3:IntKind.u8.wrap (N/256)=X/256:=(by rw [IntKind.wrap_u8];omega);have u4:IntKind.u8.wrap N=X%256:=(by rw [IntKind.wrap_u8];omega);have YI:=sL _ hb;obtain⟨A1,hA1⟩:=bG (Y/256);obtain⟨A2,hA2⟩:=bG (Y%256);obtain⟨A3,hA3⟩:=bG (X/256);obtain⟨A4,hA4⟩:=bG (X%256);rw [hA1]at u1 TS;rw [hA2]at u2 TS;rw [hA3]at u3 TS;rw [hA4]at u4 TS;have agd:Q.length<=1000000:=ai;clear hall hp hS hN hA1 hA2 hA3 hA4 r1 r2 r3 r4;by_cases CN:200000<Q.length+4
       ·have hd:decide ((200000:Int)<(Q.length:Int)+4)=true:=(by simp;omega);have HR:=ag (PF mY HL HM (by rw [<-gV];exact CN));clear CN;go_wp2_with ((go_at_call 82;(with_reducible refine HS.out.mono ?_);rintro e w9 ⟨rfl,hw9⟩;obtain rfl:=hw9.symm))
        go_ret2
        rw [HR.1,HR.2];exact⟨YI,_,rfl,aT.nil _ _⟩
       ·have hd:decide ((200000:Int)<(Q.length:Int)+4)=false:=(by simp;omega);have HR:=ag (NK mY HL HM (by rw [<-gV];exact CN));rw [<-gV,TS]at HR;clear CN;have U3:w<=W3.heap.size:=(by have:=(sL _ (aW _ _)).size;omega);have hV9:=ag fun g hg=>(ho.lt g hg).1;go_wp2_with (first
         |(go_at_call 82;(with_reducible refine HS.out.mono ?_);rintro e w9 ⟨rfl,hw9⟩;obtain rfl:=hw9.symm)
         |(at_builtin;refine kJ rfl (.tmp 109) (.tmp 121) rfl W3 _ Q rfl Mx ⟨_,0,none⟩ 4 4 [A1,A2,A3,A4] rfl rfl (fun j u h=>yS (by simpa [AG] using h)) agd bh dI ?_;intro v9 w9 afx U7 _;have kS:aq W3 w9:=U7.below (show aq W3 _ from aj) dI (fun i hi=>hV9 i hi)))
        go_ret2
        rw [HR.1,HR.2];exact⟨sL _ kS,_,rfl,afx.mono U3⟩
end
end Go.Proofs.YtmljjfhgciaceaaGreatDoor
