import Derived.Test.YtmljjfhgciaceaaDoorHd
import Derived.Test.YtmljjfhgciaceaaDoorEG
namespace Go.Proofs.YtmljjfhgciaceaaDoor
variable {l:List Ac} {ss:List ByteArray} {x:St}
def RG (m:Mo):Prop:=aT m.L/\bh m.L
theorem RG.act {a:Ac} (h:RG x.m/\RG x.s):RG (gS x a).m/\RG (gS x a).s:=by
 unfold gS
 split
 ·split
  ·rename_i h0
   obtain⟨-,p0,p1,p2,p3,-⟩:=abp h0
   refine⟨?_,h.2⟩
   have:=wm (m:=x.m.L) (l:=[⟨aS (fU x.m.ns a.s) a.s*1048576+a.t,⟨1,a.v,a.v,a.v,a.t,a.v⟩⟩]) h.1 (fun e he=>by
    rw [mR.1 he];exact ab8 p0 p1 p2 p3)
   exact⟨this.1,this.2.1⟩
  ·exact h
 ·split
  ·split
   ·exact⟨⟨AJ h.1.1 _,fun e he=>h.1.2 e (mn.1 he).1⟩,h.2⟩
   ·exact h
  ·split
   ·exact⟨h.1,h.1⟩
   ·split
    ·exact⟨h.2,h.2⟩
    ·exact h
theorem RG.run:∀{x:St},RG x.m/\RG x.s->RG (gK x l).m/\RG (gK x l).s:=by
 induction l with
 |nil=>intro x h;exact h
 |cons a l ih=>intro x h;exact ih (RG.act h)
theorem RG.zero:RG St.zero.m/\RG St.zero.s:=⟨⟨List.Pairwise.nil,fun _ h=>by cases h⟩,⟨List.Pairwise.nil,fun _ h=>by cases h⟩⟩
def aap (s:ByteArray):Ac:=⟨1,s,11999,0,0,0⟩
theorem adr {s:ByteArray} (ht:oM x.m/\oM x.s) (hs:s∈jP):(oM (gS x (aap s)).m/\oM (gS x (aap s)).s)/\s∈(gS x (aap s)).m.ns/\∀y∈x.m.ns,y∈(gS x (aap s)).m.ns:=by
 have e0:x.m.ny s 11999 0=0:=ht.1.takes hs (by have:=ht.1.f1;omega) aW aW aW
 have e1:gS x (aap s)=⟨x.m.add s 11999 0,x.s⟩:=by unfold gS;rw [ar (show (aap s).k=1 from rfl)];show (if x.m.ny s 11999 0=0 then _ else _)=_;rw [ar e0];rfl
 rw [e1]
 exact⟨⟨ht.1.add hs aW aW,ht.2⟩,mB.2 (.inr rfl),fun y hy=>mB.2 (.inl hy)⟩
theorem ad9:∀{x:St},oM x.m/\oM x.s->(∀s∈ss,s∈jP)->∀s,s∈ss\/s∈x.m.ns->s∈(gK x (ss.map aap)).m.ns:=by
 induction ss with
 |nil=>intro x _ _ s h;rcases h with h|h;cases h;exact h
 |cons a l ih=>
  intro x ht hs s h
  obtain⟨t1,t2,t3⟩:=adr ht (hs a bj)
  refine ih t1 (fun b hb=>hs b (by simp [hb])) s ?_
  rcases h with h|h
  ·rcases fk.1 h with rfl|h
   ·exact .inr t2
   ·exact .inl h
  ·exact .inr (t3 s h)
theorem adq (hg:∀a∈l,AA a) (h1:∀s∈ss,s∈jP) (h2:∀s∈jP,s∈ss) {p q:C9} (hp:p.s∈jP) (hq:q.s∈jP) :
  gK St.zero (l++ss.map aap++[aae p,aae q])=gK St.zero (l++ss.map aap++[aae q,aae p]):=by
 have ht:=oM.run (x:=St.zero) (l:=l) ⟨oM.zero,oM.zero⟩ hg
 have hr:=(RG.run (l:=l++ss.map aap) RG.zero).1
 have hin:=fun s (hs:s∈jP)=>ad9 (ss:=ss) ht h1 s (.inl (h2 s hs))
 rw [<-xn]at hin
 rw [xn,xn St.zero (l++ss.map aap) [aae q,aae p]]
 exact acZ hr.1 hr.2 (hin _ hp) (hin _ hq)
end Go.Proofs.YtmljjfhgciaceaaDoor
