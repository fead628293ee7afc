/- Append of a string to a row of bytes: where the new row lies, in the walk and as one step of a region that draws its order. -/
import Derived.Test.YtiamdmlbhmgnjaaDoorWWords
import Derived.Test.YtiamdmlbhmgnjaaDoorWLast
import Derived.Lib.AppendStr
import Derived.Laws.IdiomCopy
namespace Go.Proofs.YtiamdmlbhmgnjaaDoorX
abbrev tT : Bool := true
abbrev fF : Bool := false
theorem sA {α : Type _} (l : List α) (i : Nat) (a : α) : l.toArray.setIfInBounds i a = (l.set i a).toArray := List.setIfInBounds_toArray l i a
theorem sB {α : Type _} {x : α} {xs : List α} {a : α} : (x :: xs).set 0 a = a :: xs := rfl
theorem sC {α : Type _} {x : α} {xs : List α} {i : Nat} {a : α} : (x :: xs).set (i + 1) a = x :: xs.set i a := rfl
end Go.Proofs.YtiamdmlbhmgnjaaDoorX
namespace Go.Proofs.YtiamdmlbhmgnjaaDoorX.Kd
open Go.RowKit Go.Proofs.YtiamdmlbhmgnjaaDoorW.PrintWords Go.Proofs.YtiamdmlbhmgnjaaDoorW.PrintWords.Kd
set_option linter.unusedVariables false

section
variable {P : Program} {ops : Array Oper} {rest : List Oper} {o : Oper} {a : Act} {Q : Exit → Act → World → Prop} {Kc : Act → World → Prop}
end
end Go.Proofs.YtiamdmlbhmgnjaaDoorX.Kd
namespace Go.Proofs.YtiamdmlbhmgnjaaDoorX
open Go.RowKit Go.Proofs.YtiamdmlbhmgnjaaDoorW.PrintWords Go.Proofs.YtiamdmlbhmgnjaaDoorW.PrintLast
section
variable {P : Program} {ops : Array Oper} {Q : Exit → Act → World → Prop}
/-- A call of a function that lies in a slot, as one step of a region that draws its order. -/
theorem goesF_ {oi : Oper} {N : Option Tmp} {a : Act} {w : World} {K : Act → World → Prop} {f : FuncId} {fn : Func} {x : Operand} {as : Array Operand} {ts : Array TypeId} (hf : P.funcs[f]? = some fn) (hname : (fn.name == "runtime.NumGoroutine") = false) (hb : fn.body.isSome = true) (args : Array Value)
    (hw : Region.wanted oi (yielded ops a.tmps) = true) (hN : oi.dst = N) (hop : oi.op = .call { callee := .value x, args := as, argTypes := ts }) (hx : a.eval x = .func (.func f) #[] #[]) (hargs : as.map a.eval = args)
    (h : Calls P f args w fun e w' => ∃ v, e = .returned v ∧ K (a.put N v) w') : if Region.wanted oi (yielded ops a.tmps) = true then Oper.wp P oi a w K Q else K (a.put N undef) w := by
  refine call_ f args hw hN ?_ h
  have he := enters_ hf hname hb args w
  unfold execOp
  simp [hop, hx, resolve, Deferred.ofValue, invoke, hargs, he]
end
end Go.Proofs.YtiamdmlbhmgnjaaDoorX
namespace Go.Proofs.YtiamdmlbhmgnjaaDoorX
open Go.RowKit
theorem less_tri : ∀ a b : List UInt8, (!(Op.bytesLess a b || a == b)) = Op.bytesLess b a := by
  intro a
  induction a with
  | nil => intro b; cases b <;> simp [Op.bytesLess]
  | cons x a ih =>
    intro b
    cases b with
    | nil => simp [Op.bytesLess]
    | cons y b =>
      have h := ih b
      simp only [Op.bytesLess, List.cons_beq_cons]
      by_cases h1 : x < y
      · have h2 : ¬ y < x := by simp only [UInt8.lt_iff_toNat_lt] at *; omega
        have h3 : ¬ y = x := by intro e; subst e; exact h2 h1
        simp [h1, h2, h3]
      · by_cases h2 : y < x
        · have h3 : ¬ x = y := by intro e; subst e; exact h1 h2
          simp [h1, h2, h3]
        · have h3 : x = y := by apply UInt8.toNat_inj.1; simp only [UInt8.lt_iff_toNat_lt] at *; omega
          subst h3
          simp only [h1, decide_false, beq_self_eq_true, Bool.true_and, Bool.false_or]
          exact h
@[go_sem] theorem gtr_string (t : TypeId) (a b : ByteArray) : binOp .gtr t (.string a) (.string b) = pure (.bool (Op.bytesLess b.toList a.toList)) := by
  rw [← less_tri]
  simp [binOp, Op.stringOp]
@[go_sem] theorem geq_string (t : TypeId) (a b : ByteArray) : binOp .geq t (.string a) (.string b) = pure (.bool !(Op.bytesLess a.toList b.toList)) := by simp [binOp, Op.stringOp]
theorem far_ (w : World) {g o o' : Nat} (v : Value) (h : o ≠ o') : (w.setCell ⟨g, o, none⟩ v).cell? ⟨g, o', none⟩ = w.cell? ⟨g, o', none⟩ := World.cell?_setCell_other w _ _ v (fun e => h (congrArg Addr.off e))
/-- Cells of three, one behind the other: what stands at another place is told by the one store that may have hit it. -/
theorem three0 {w : World} {g a b : Nat} {u0 u1 u2 : Value} {v : Option Value} (h : (w.setCells g (a * 3 + 0) [u0, u1, u2]).cell? ⟨g, b * 3, none⟩ = v) : (w.setCell ⟨g, a * 3, none⟩ u0).cell? ⟨g, b * 3, none⟩ = v := by
  rw [← h]
  show _ = (((w.setCell ⟨g, a * 3 + 0, none⟩ u0).setCell ⟨g, a * 3 + 0 + 1, none⟩ u1).setCell ⟨g, a * 3 + 0 + 1 + 1, none⟩ u2).cell? _
  rw [far_ _ u2 (show a * 3 + 0 + 1 + 1 ≠ b * 3 by omega), far_ _ u1 (show a * 3 + 0 + 1 ≠ b * 3 by omega), Nat.add_zero]
theorem three1 {w : World} {g a b : Nat} {u0 u1 u2 : Value} {v : Option Value} (h : (w.setCells g (a * 3 + 0) [u0, u1, u2]).cell? ⟨g, b * 3 + 1, none⟩ = v) : ((w.setCell ⟨g, a * 3, none⟩ u0).setCell ⟨g, a * 3 + 1, none⟩ u1).cell? ⟨g, b * 3 + 1, none⟩ = v := by
  rw [← h]
  show _ = (((w.setCell ⟨g, a * 3 + 0, none⟩ u0).setCell ⟨g, a * 3 + 0 + 1, none⟩ u1).setCell ⟨g, a * 3 + 0 + 1 + 1, none⟩ u2).cell? _
  rw [far_ _ u2 (show a * 3 + 0 + 1 + 1 ≠ b * 3 + 1 by omega)]
  rfl
theorem three2 {w : World} {g a b : Nat} {u0 u1 u2 : Value} {v : Option Value} (h : (w.setCells g (a * 3 + 0) [u0, u1, u2]).cell? ⟨g, b * 3 + 2, none⟩ = v) : (((w.setCell ⟨g, a * 3, none⟩ u0).setCell ⟨g, a * 3 + 1, none⟩ u1).setCell ⟨g, a * 3 + 2, none⟩ u2).cell? ⟨g, b * 3 + 2, none⟩ = v := h
theorem threeF {w : World} {g o : Nat} {us : List Value} {x : Addr} {b : Bool} (h : (w.setCells g o us).frozen? x = b) : w.frozen? x = b := by
  rw [← h]
  exact (World.frozen?_setCells g us o w x).symm
end Go.Proofs.YtiamdmlbhmgnjaaDoorX
