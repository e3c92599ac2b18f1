/-
  impl.Pegs: what is sent (PR), what the sender reads, what is the receiver's own.
-/
import Derived.Test.YtakjhhkffiffdaaLiftI
set_option linter.unusedVariables false
set_option linter.unusedSimpArgs false
namespace Go.Proofs.Ytakjhhkffiffdaa
open Go.RowKit Go.Conc Go.Proofs.YtakjhhkffiffdaaLift Go.Proofs.YtakjhhkffiffdaaW.PrintWords Go.Proofs.Ytakjhhkffiffdaa.PFnExactPegs

/-- What sendPegs does: level 0: the head of the loop over the needs (b of them met); 1: the head of the loop over what is left (n) of need b; 2: the head of the loop that takes up orders (o of them taken up, left of the last not spent). What is sent, and whether one was not met. -/
inductive PR (ns os : List Int) : Nat → Nat → Int → Nat → Int → List S34 → Bool → Prop
  | fin {b : Nat} {n : Int} {o : Nat} {left : Int} (h : b = ns.length) : PR ns os 0 b n o left [] false
  | need {b : Nat} {n : Int} {o : Nat} {left : Int} {out : List S34} {bad : Bool} (h : b < ns.length) (hr : PR ns os 1 b (ns.getD b 0) o left out bad) : PR ns os 0 b n o left out bad
  | done {b : Nat} {n : Int} {o : Nat} {left : Int} {out : List S34} {bad : Bool} (hb : b < ns.length) (h : n ≤ 0) (hr : PR ns os 0 (b + 1) n o left out bad) : PR ns os 1 b n o left out bad
  | more {b : Nat} {n : Int} {o : Nat} {left : Int} {out : List S34} {bad : Bool} (h : 0 < n) (hr : PR ns os 2 b n o left out bad) : PR ns os 1 b n o left out bad
  | skip {b : Nat} {n : Int} {o : Nat} {out : List S34} {bad : Bool} (ho : o < os.length) (hr : PR ns os 2 b n (o + 1) (os.getD o 0) out bad) : PR ns os 2 b n o 0 out bad
  | late {b : Nat} {n : Int} {o : Nat} {left : Int} (h : left ≠ 0) (hb : b + 1 < o) : PR ns os 2 b n o left [] true
  | lack {b : Nat} {n : Int} {o : Nat} (ho : ¬ o < os.length) : PR ns os 2 b n o 0 [] true
  | less {b : Nat} {n : Int} {o : Nat} {left : Int} {out : List S34} {bad : Bool} (h : 0 < left) (hn : n ≤ 1000000) (hlt : left < n) (hb : ¬ b + 1 < o) (hr : PR ns os 1 b (n - left) o 0 out bad) : PR ns os 2 b n o left (⟨(o : Int) - 1, b, left⟩ :: out) bad
  | full {b : Nat} {n : Int} {o : Nat} {left : Int} {out : List S34} {bad : Bool} (h : 0 < n) (hn : left ≤ 1000000) (hlt : ¬ left < n) (hb : ¬ b + 1 < o) (hr : PR ns os 1 b 0 o (left - n) out bad) : PR ns os 2 b n o left (⟨(o : Int) - 1, b, n⟩ :: out) bad

def pv (p : S34) : Value := .agg #[.int .i64 p.f0, .int .i64 p.f1, .int .i64 p.f2]
def pvals (out : List S34) (bad : Bool) : List Value := out.map pv ++ (if bad then [pv ⟨-2, 0, 0⟩] else [])

/-- What is the receiver's own: the cells of the blocks made behind the channel (block c). -/
def Mine (c : Nat) : Loc → Prop := fun l => ∃ a, l = .cell a ∧ c + 1 ≤ a.block

/-- What the sender reads, and nobody writes while it runs. -/
structure Shared (A0 A2 : Option Addr) (ns os : List Int) (w : World) : Prop where
  el0 : ∀ (j : Nat) (ad : Addr), j < ns.length → A0 = some ad → w.cell? (ad.add j) = some (.int .i64 (ns.getD j 0))
  el2 : ∀ (j : Nat) (ad : Addr), j < os.length → A2 = some ad → w.cell? (ad.add j) = some (.int .i64 (os.getD j 0))

theorem addr_block (a : Addr) (n : Nat) : (a.add n).block = a.block := by unfold Addr.add; split <;> rfl

end Go.Proofs.Ytakjhhkffiffdaa
