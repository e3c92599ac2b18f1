/-
  LIFT (H): CONTRACTS IN COMPANY: 'CallsA P f args w R': beside leavers, on whatever tape, the call comes to its way out with a value and in a world that satisfy R. From a lone contract ('callsA_of_calls'); used by a caller ('getsA_call').
-/
import Derived.Test.YtakjhhkffiffdaaLiftG
set_option linter.unusedVariables false
set_option linter.unusedSimpArgs false
namespace Go.Proofs.YtakjhhkffiffdaaLift
open Go.Conc

variable {P : Program} {F : List FuncId}

/-- Whatever has been drawn. -/
def GetsA (P : Program) (Q : Goroutine → World → Prop) (g : Goroutine) (w : World) : Prop := ∀ d, Gets P Q g (w.at d)

theorem GetsA.done {Q : Goroutine → World → Prop} {g : Goroutine} {w : World} (h : ∀ d, Q g (w.at d)) : GetsA P Q g w := fun d => .done (h d)

/-- A step that leaves the world as it is. -/
theorem GetsA.goes {Q : Goroutine → World → Prop} {g : Goroutine} {w : World} (hs : g.status = .running) (h : ∀ d, (stepG P true g (w.at d)).goes fun g' w' es => ((∀ e ∈ es, Calm e) ∧ w' = w.at d) ∧ GetsA P Q g' w) : GetsA P Q g w := by
  intro d0
  refine Gets.goes hs fun d => ?_
  have h1 := h d
  revert h1
  show (stepG P true g (w.at d)).goes _ → (stepG P true g ((w.at d0).at d)).goes _
  have e : (w.at d0).at d = w.at d := rfl
  rw [e]
  cases stepG P true g (w.at d) <;> simp only [GStep.goes, imp_self]
  rintro ⟨⟨hc, rfl⟩, hg⟩
  exact ⟨hc, hg d⟩

/-- A step that may turn the world. -/
theorem GetsA.turns {Q : Goroutine → World → Prop} {g : Goroutine} {w : World} (hs : g.status = .running) (h : ∀ d, (stepG P true g (w.at d)).goes fun g' w' es => (∀ e ∈ es, Calm e) ∧ GetsA P Q g' w') : GetsA P Q g w := by
  intro d0
  refine Gets.goes hs fun d => ?_
  have h1 := h d
  revert h1
  have e : (w.at d0).at d = w.at d := rfl
  rw [e]
  cases stepG P true g (w.at d) <;> simp only [GStep.goes, imp_self]
  rintro ⟨hc, hg⟩
  exact ⟨hc, hg _⟩

/-- The function's frame is on its way out with this value. -/
def OutWith (P : Program) (f : FuncId) (X : List Frame) (v : Value) (g : Goroutine) : Prop :=
  ∃ (tmps : Array Value) (todo : List Item) (fn : Func) (t : Tmp), g = G { (base f).at ⟨tmps, []⟩ todo with mode := .returning } X ∧ P.funcs[f]? = some fn ∧ fn.results = #[.tmp t] ∧ v = tmps.getD t undef

def CallsA (P : Program) (f : FuncId) (args : Array Value) (w : World) (R : Value → World → Prop) : Prop :=
  ∀ (X : List Frame) (fn : Func) (c : Code), P.funcs[f]? = some fn → fn.body = some c →
    GetsA P (fun g' w' => ∃ v, OutWith P f X v g' ∧ R v w') (G ((base f).at ⟨args ++ Array.replicate (fn.ntmps - args.size) undef, []⟩ [.code c]) X) w

theorem CallsA.mono {f : FuncId} {args : Array Value} {w : World} {R R' : Value → World → Prop} (h : CallsA P f args w R) (hR : ∀ v w', R v w' → R' v w') : CallsA P f args w R' :=
  fun X fn c h1 h2 d => (h X fn c h1 h2 d).trans fun _ _ ⟨v, ho, hr⟩ => .done ⟨v, ho, hR v _ hr⟩

/-- FROM A LONE CONTRACT. -/
theorem callsA_of_calls (hC : Closed' P F) {f : FuncId} (hf : f ∈ F) {fn : Func} {t : Tmp} (h1 : P.funcs[f]? = some fn) (hres : fn.results = #[.tmp t]) {args : Array Value} {w : World} {R : Value → World → Prop} {R' : Tape' → Value → World → Prop}
    (h : ∀ τ, Calls P f args (re w τ 0) (fun e w' => ∃ v, e = .returned v ∧ R' τ v w')) (hR : ∀ τ e v w', R' τ v (re w' τ e) → Kept w w' → R v w') : CallsA P f args w R := by
  intro X fn' c k1 k2 d
  obtain rfl : fn = fn' := by rw [h1] at k1; exact Option.some.inj k1
  refine Gets.trans (will_gets (will_calls hC hf k1 k2 (w := w.at d) (R := fun τ e w' => ∃ v, e = .returned v ∧ R' τ v w') X h fun τ e w' ⟨v, hv, _⟩ => ⟨v, hv⟩)) ?_
  rintro g' w' ⟨⟨f', tm, todo, o⟩, τ, e, v, rfl, ho, hfn, hl, ⟨v', hv, hr⟩, hk⟩
  obtain rfl : o = true := ho
  obtain rfl : f' = f := hfn
  cases hv
  refine .done ⟨v, ⟨tm, todo, fn, t, rfl, h1, hres, ?_⟩, hR τ e v w' hr ((Kept.at w d).trans hk)⟩
  obtain ⟨_, _, _, fn2, hf2, hr2⟩ := hl
  have hf3 : P.funcs[f']? = some fn2 := hf2
  obtain rfl : fn = fn2 := by rw [h1] at hf3; exact Option.some.inj hf3
  have hr3 : (results fn tm).run P (re w' τ e) = .ok v (re w' τ e) := hr2
  rw [results_tmp hres] at hr3
  cases hr3
  rfl

/-- THE CALL, IN A CALLER's WALK. -/
theorem getsA_call {Q : Goroutine → World → Prop} {b : Frame} {a : Act} {k : List Item} {cs : List Frame} {w : World} {ops : Array Oper} {i : Nat} {rest : List Nat} {o : Oper} {f : FuncId} {fn : Func} {c : Code} {args : Array Operand} {ats : Array TypeId} {R : Value → World → Prop}
    (ho : ops[i]? = some o) (hw : Region.wanted o (yielded ops a.tmps) = true) (hk : b.kind ≠ .early) (hop : o.op = .call { callee := .value (.func f), args, argTypes := ats })
    (hf : P.funcs[f]? = some fn) (hname : (fn.name == "runtime.NumGoroutine") = false) (hb : fn.body = some c) (hc : CallsA P f (args.map a.eval) w R)
    (next : ∀ v w', R v w' → GetsA P Q (G (b.at (a.put o.dst v) (.inRegion ops rest :: k)) cs) w') : GetsA P Q (G (b.at a (.inRegion ops (i :: rest) :: k)) cs) w := by
  refine GetsA.turns rfl fun d => ?_
  refine goes_call ho hw hk hop hf hname hb ⟨by simp, ?_⟩
  intro d2
  refine Gets.trans (hc (b.at a (.inRegion ops (i :: rest) :: k) :: cs) fn c hf hb d2) ?_
  rintro g' w' ⟨v, ⟨tmps, todo, fn', t, rfl, h1, h2, rfl⟩, hr⟩
  have h1' : P.funcs[(base f).fn]? = some fn' := h1
  have hd : o.dst = (ops[i]?).bind (·.dst) := by rw [ho]; rfl
  refine Gets.goes rfl fun d3 => ?_
  refine goes_leave1 rfl rfl h1' h2 ⟨by simp, ?_⟩
  rw [← hd]
  exact next _ w' hr d3
end Go.Proofs.YtakjhhkffiffdaaLift
