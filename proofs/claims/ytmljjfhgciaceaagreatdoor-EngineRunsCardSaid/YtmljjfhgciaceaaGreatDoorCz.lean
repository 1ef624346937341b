import Derived.Test.YtmljjfhgciaceaaGreatDoorHd
import Derived.Lib.Hide
import Derived.KernelRfl
namespace Go.Proofs.YtmljjfhgciaceaaGreatDoor
open Go.RowKit
variable {p:Prop}
inductive ade|mk
inductive ada|mk
inductive SVal|mk
def af:ade:= .mk
def az:ada:= .mk
def ah:SVal:= .mk
instance:CoeFun ade (fun _=>Int->Value):=⟨fun _=>Value.int .i64⟩
instance:CoeFun ada (fun _=>Nat->Nat->Value):=⟨fun _=>Value.slice none⟩
instance:CoeFun SVal (fun _=>Option Addr->Nat->Nat->Value):=⟨fun _=>Value.slice⟩
instance (a k:Nat):CoeDep (Nat×Nat) (a,k) Addr:=⟨⟨a,k,none⟩⟩
instance (w:World) (k:Nat):CoeDep (World×Nat) (w,k) Addr:=⟨⟨w.heap.size,k,none⟩⟩
instance (w:World) (n k:Nat):CoeDep (World×Nat×Nat) (w,n,k) Addr:=⟨⟨w.heap.size+n,k,none⟩⟩
instance (w:World) (a k:Nat) (x:Int):CoeDep (World×Nat×Nat×Int) (w,a,k,x) Prop:=⟨w.cell? ⟨a,k,none⟩=some (.int .i64 x)⟩
instance (w:World) (a k n:Nat):CoeDep (World×Nat×Nat×Nat) (w,a,k,n) Prop:=⟨w.cell? ⟨a,k,none⟩=some (.int .i64 n)⟩
instance (w:World) (a k:Nat):CoeDep (World×Nat×Nat) (w,a,k) Prop:=⟨w.cell? ⟨a,k,none⟩=some (.int .i64 0)⟩
instance:Coe World Nat:=⟨fun w=>w.heap.size⟩
instance {α:Type}:CoeOut (List α) Nat:=⟨List.length⟩
instance:Coe Nat (Option Addr):=⟨fun g=>some ⟨g,0,none⟩⟩
instance:Coe World (Option Addr):=⟨fun w=>some ⟨w.heap.size,0,none⟩⟩
theorem fA (h:p:=by repeat (first|exact aW _ _|assumption|refine Below.drew ?_|refine Below.alloc ?_ (by simp <;> omega) _|refine Below.setCell ?_ (by simp <;> omega) _)):p:=h
theorem iZ (h:p:=by repeat (first|exact aW _ _|assumption|refine oG ?_ _|refine Below.drew ?_|refine Below.alloc ?_ (by simp <;> omega) _|refine Below.setCell ?_ (by simp <;> omega) _)):p:=h
theorem Bz (h:p:=by first|exact Sep.refl _ _ _|exact Sep.of (by assumption) aO|(refine Sep.trans (Sep.of (by assumption) aO) ?_;first|exact Sep.of (by assumption) aO|(refine Sep.trans (Sep.of (by assumption) aO) ?_;exact Sep.of (by assumption) aO))):p:=h
theorem eV (h:p:=by repeat (first|exact aW _ _|assumption|refine oG ?_ _|refine Below.drew ?_|refine Below.alloc ?_ (by first|omega|(simp;done)|(simp;omega)) _|refine Below.setCell ?_ (by first|omega|(simp;done)|(simp;omega)) _)):p:=h
theorem Gl (h:p:=by repeat (first|exact aA.refl _ _|assumption|refine aA.drewN ?_ _|refine aA.drew ?_|refine aA.alloc ?_ _|refine aA.setCell ?_ (by first|exact .inl rfl|(right;first|omega|(simp;done)|(simp;omega))) _)):p:=h
theorem jY (h:p:=by repeat (first|assumption|with_reducible refine ay.alloc ?_ _|with_reducible refine ay.drewN ?_ _|with_reducible refine ay.drew ?_)):p:=h
theorem dI (h:p:=by first|omega|(simp;done)|(simp;omega)|(simp [pT];done)|(simp [pT];omega)):p:=h
theorem ad4 (h:p:=by repeat (first|exact aW _ _|assumption|refine oG ?_ _|refine Below.drew ?_|refine Below.alloc ?_ (by first|omega|(simp;done)|(simp;omega)|(simp [pT];done)|(simp [pT];omega)) _|refine Below.setCell ?_ (by first|omega|(simp;done)|(simp;omega)|(simp [pT];done)|(simp [pT];omega)) _)):p:=h
theorem oF (h:p:=by repeat (first|with_reducible exact aW _ _|with_reducible assumption|with_reducible refine oG ?_ _|with_reducible refine Below.drew ?_|with_reducible refine Below.alloc ?_ (by first|omega|(simp;done)|(simp;omega)) _|with_reducible refine Below.setCell ?_ (by first|omega|(simp;done)|(simp;omega)) _)):p:=h
theorem Gm (h:p:=by repeat (first|assumption|with_reducible refine OwnRows.alloc ?_ _|with_reducible refine OwnRows.drewN ?_ _|with_reducible refine OwnRows.drew ?_)):p:=h
theorem NR (h:p:=by repeat (first|with_reducible exact aA.refl _ _|with_reducible assumption|with_reducible refine aA.drewN ?_ _|with_reducible refine aA.drew ?_|with_reducible refine aA.alloc ?_ _|with_reducible refine aA.at ?_ _ _)):p:=h
theorem Mx (h:p:=by repeat (first|assumption|with_reducible refine aT.alloc ?_ _|with_reducible refine aT.drewN ?_ _|with_reducible refine aT.drew ?_)):p:=h
theorem ajU (h:p:=by first|omega|(simp;done)|(simp;omega)):p:=h
theorem np (h:p:=by simp <;> omega):p:=h
theorem fk (h:p:=by simp;omega):p:=h
theorem iI (h:p:=by unfold maxLen;omega):p:=h
end Go.Proofs.YtmljjfhgciaceaaGreatDoor
