/-
  LIFT (I): the functions' contracts, in company.
-/
import Derived.Test.YtakjhhkffiffdaaLiftH
import Derived.Test.YtakjhhkffiffdaaPFnExactPegsx1
import Derived.Test.YtakjhhkffiffdaaPFnExactPegsx2
import Derived.Test.YtakjhhkffiffdaaPFnExactPegsx3
import Derived.Test.YtakjhhkffiffdaaPFnExactPegsx4
import Derived.Test.YtakjhhkffiffdaaWInvWords
import Derived.KernelRfl
set_option linter.unusedVariables false
set_option linter.unusedSimpArgs false
namespace Go.Proofs.YtakjhhkffiffdaaLift
open Go.Conc Go.RowKit
def closedB (P : Program) (F : List FuncId) : Bool := F.all fun f => match P.funcs[f]? with
  | some fn => (!(fn.name == "runtime.NumGoroutine")) && (match fn.body with | some c => codeOk P F c | none => false)
  | none => false
theorem closed_of {P : Program} {F : List FuncId} (h : closedB P F = true) : Closed' P F := by
  intro f hf
  have := List.all_eq_true.1 h f hf
  cases h1 : P.funcs[f]? with
  | none => rw [h1] at this; cases this
  | some fn =>
    rw [h1] at this
    simp only [Bool.and_eq_true] at this
    obtain ⟨h2, h3⟩ := this
    cases h4 : fn.body with
    | none => rw [h4] at h3; cases h3
    | some c => rw [h4] at h3; exact ⟨fn, c, rfl, by simpa using h2, h4, h3⟩

theorem size_re (w : World) (τ : Tape') (e : Nat) : (re w τ e).heap.size = w.heap.size := by simp [re]

theorem below_at {B : Nat} {w w' : World} (h : Below B w w') (d : Nat) : Below B w (w'.at d) := ⟨h.os, h.tape, h.output, h.size, h.block⟩
theorem at_below {B : Nat} {w w' : World} (h : Below B w w') (d : Nat) : Below B (w.at d) w' := ⟨h.os, h.tape, h.output, h.size, h.block⟩

theorem wash_cells {o : Obj} {c : Array Value} {t : TypeId} {z : Nat × Nat} : wash o = .cells c t z ↔ o = .cells c t z := by
  cases o <;> simp [wash, away]
theorem cells_re {w : World} {τ : Tape'} {e g : Nat} {c : Array Value} {t : TypeId} {z : Nat × Nat} : (re w τ e).heap[g]? = some (.cells c t z) ↔ w.heap[g]? = some (.cells c t z) := by
  rw [get_re]
  cases w.heap[g]? with
  | none => simp
  | some o => simp [wash_cells]

/-- What is alike washed, and waits alike, is alike. -/
theorem unwash {w w' : World} {k : Nat} (hk : Kept w w') (h : (w'.heap[k]?).map wash = (w.heap[k]?).map wash) : w'.heap[k]? = w.heap[k]? := by
  have hp := hk.pend k
  cases h1 : w.heap[k]? with
  | none =>
    rw [h1] at h
    cases h2 : w'.heap[k]? with
    | none => rfl
    | some o => rw [h2] at h; cases h
  | some o =>
    rw [h1] at h hp
    cases h2 : w'.heap[k]? with
    | none => rw [h2] at h; cases h
    | some o' =>
      rw [h2] at h hp
      simp only [Option.map_some, Option.some.injEq] at h hp
      by_cases ho : ∃ c t, o = .pending c t
      · obtain ⟨c, t, rfl⟩ := ho
        rw [(hp c t).2 rfl]
      · by_cases ho' : ∃ c t, o' = .pending c t
        · obtain ⟨c, t, rfl⟩ := ho'
          rw [(hp c t).1 rfl]
        · have e1 : wash o = o := by cases o <;> first | rfl | exact absurd ⟨_, _, rfl⟩ ho
          have e2 : wash o' = o' := by cases o' <;> first | rfl | exact absurd ⟨_, _, rfl⟩ ho'
          rw [e1, e2] at h
          rw [h]

theorem below_of_re {B : Nat} {w w' : World} {τ : Tape'} {e e' : Nat} (h : Below B (re w τ e) (re w' τ e')) (hk : Kept w w') : Below B w w' :=
  ⟨h.os, hk.tape, h.output, by have := h.size; rwa [size_re, size_re] at this, fun k hkB => unwash hk (by have := h.block k hkB; rwa [get_re, get_re] at this)⟩
theorem below_re {B : Nat} {w w' : World} (τ : Tape') (e e' : Nat) (h : Below B w w') : Below B (re w τ e) (re w' τ e') :=
  ⟨h.os, rfl, h.output, by rw [size_re, size_re]; exact h.size, fun k hkB => by rw [get_re, get_re, h.block k hkB]⟩
end Go.Proofs.YtakjhhkffiffdaaLift

namespace Go.Proofs.Ytakjhhkffiffdaa
open Go.RowKit Go.Conc Go.Proofs.YtakjhhkffiffdaaLift Go.Proofs.YtakjhhkffiffdaaW.PrintWords Go.Proofs.YtakjhhkffiffdaaW.PrintLast Go.Proofs.YtakjhhkffiffdaaW.PrintMore Go.Proofs.Ytakjhhkffiffdaa.PFnExactPegs

def FF : List FuncId := [4, 5, 7, 8, 9, 10, 11, 12, 13, 14, 15, 17, 18, 19]
theorem closedF : Closed' Try.prog FF := closed_of (by kernel_rfl)

abbrev KI : Kd Int := Kd.int .i64
abbrev WKept := Go.Proofs.YtakjhhkffiffdaaW.PrintWords.Kept

section
variable {α : Type} {d : Kd α}
theorem C_to (hd : ∀ w w', d.K w = d.K w') {w w' : World} (hc : ∀ a, w'.cell? a = w.cell? a) {A : Option Addr} {n : Nat} {xs : List α} (h : d.C w A n xs) : d.C w' A n xs := by
  refine ⟨h.1, h.2.1, fun hn => ?_⟩
  obtain ⟨ad, e, hc'⟩ := h.2.2 hn
  refine ⟨ad, e, fun j p hj => ?_⟩
  obtain ⟨c, hs, hr, hcell⟩ := hc' j p hj
  exact ⟨c, hs, hd w w' ▸ hr, fun i u hi => (hc _).trans (hcell i u hi)⟩
theorem R_to (hM : ∀ w w' base ok x cs, d.M w base ok x cs → d.M w' base ok x cs) {e : Nat} {w w' : World} (hh : ∀ (g : Nat) (cur : Array Value) (e : TypeId) (z : Nat × Nat), w.heap[g]? = some (Obj.cells cur e z) → w'.heap[g]? = some (Obj.cells cur e z)) {base : Nat} {ok : Nat → Prop} {v : Value} {xs : List α}
    (h : d.R e w base ok v xs) : d.R e w' base ok v xs := by
  obtain ⟨h0, inner, ⟨h1, h2⟩, hr⟩ := h
  refine ⟨h0, inner, ⟨h1, ?_⟩, hr.imp_ fun _ _ hp => hM _ _ _ _ _ _ hp⟩
  rcases h2 with h2 | ⟨g, cap, cur, rfl, hg, hh', r⟩
  · exact .inl h2
  · exact .inr ⟨g, cap, cur, rfl, hg, hh _ _ _ _ hh', r⟩
end
theorem kI (w w' : World) : KI.K w = KI.K w' := rfl
theorem mI (w w' : World) (base : Nat) (ok : Nat → Prop) (x : Int) (cs : List Value) (h : KI.M w base ok x cs) : KI.M w' base ok x cs := h
theorem k34' (w w' : World) : k34.K w = k34.K w' := rfl
theorem m34 (w w' : World) (base : Nat) (ok : Nat → Prop) (x : S34) (cs : List Value) (h : k34.M w base ok x cs) : k34.M w' base ok x cs := h

theorem CI_re {w : World} {A : Option Addr} {n : Nat} {xs : List Int} (h : KI.C w A n xs) (τ : Tape') (e : Nat) : KI.C (re w τ e) A n xs := C_to kI (fun a => cell_re w τ e a) h
theorem C34_re {w : World} {A : Option Addr} {n : Nat} {xs : List S34} (h : k34.C w A n xs) (τ : Tape') (e : Nat) : k34.C (re w τ e) A n xs := C_to k34' (fun a => cell_re w τ e a) h
theorem RI_re {t : Nat} {w : World} {base : Nat} {ok : Nat → Prop} {v : Value} {xs : List Int} (h : KI.R t w base ok v xs) (τ : Tape') (e : Nat) : KI.R t (re w τ e) base ok v xs := R_to mI (fun _ _ _ _ h => cells_re.2 h) h
theorem R34_re {t : Nat} {w : World} {base : Nat} {ok : Nat → Prop} {v : Value} {xs : List S34} (h : k34.R t w base ok v xs) (τ : Tape') (e : Nat) : k34.R t (re w τ e) base ok v xs := R_to m34 (fun _ _ _ _ h => cells_re.2 h) h
theorem RI_of {t : Nat} {w : World} {base : Nat} {ok : Nat → Prop} {v : Value} {xs : List Int} {τ : Tape'} {e : Nat} (h : KI.R t (re w τ e) base ok v xs) : KI.R t w base ok v xs := R_to mI (fun _ _ _ _ h => cells_re.1 h) h
theorem R34_of {t : Nat} {w : World} {base : Nat} {ok : Nat → Prop} {v : Value} {xs : List S34} {τ : Tape'} {e : Nat} (h : k34.R t (re w τ e) base ok v xs) : k34.R t w base ok v xs := R_to m34 (fun _ _ _ _ h => cells_re.1 h) h
theorem wkept_of {w w' : World} {S : Nat → Prop} {τ : Tape'} {e e' : Nat} (h : WKept (re w τ e) (re w' τ e') S) (hk : Go.Proofs.YtakjhhkffiffdaaLift.Kept w w') : WKept w w' S :=
  ⟨by have := h.1; rwa [size_re, size_re] at this, fun i hi hS => unwash hk (by have := h.2 i (by rw [size_re]; exact hi) hS; rwa [get_re, get_re] at this)⟩

theorem drawn_of {w w' : World} {τ : Tape'} {e : Nat} (h : Drawn0 (re w τ 0) (re w' τ e)) (hk : Go.Proofs.YtakjhhkffiffdaaLift.Kept w w') : Below w.heap.size w w' := by
  have := h.below
  rw [size_re] at this
  exact below_of_re this hk

/-! ### the contracts -/
theorem toIntS_A {w : World} {A0 : Option Addr} {c0 k : Nat} {l0 r : List Int} (hr0 : KI.C w A0 l0.length l0) (hc0 : l0.length ≤ c0) (h : laws_toIntS.f k l0 = some r) :
    CallsA Try.prog 5 #[.slice A0 l0.length c0] w (fun v w' => KI.R 3 w' w.heap.size (fun _ => True) v r ∧ Below w.heap.size w w') :=
  callsA_of_calls closedF (by decide) Try.func5 rfl (R' := fun τ v w' => KI.R 3 w' (re w τ 0).heap.size (fun _ => True) v r ∧ Below (re w τ 0).heap.size (re w τ 0) w')
    (fun τ => laws_toIntS.calls k A0 c0 l0 r (re w τ 0) (CI_re hr0 τ 0) hc0 h) (fun τ e v w' ⟨h1, h2⟩ hk => by rw [size_re] at h1 h2; exact ⟨RI_of h1, below_of_re h2 hk⟩)

theorem specPegs_A {w : World} {A0 A2 : Option Addr} {c0 c2 k : Nat} {l0 l2 : List Int} {a1 : Int} {r : List S34} (hr0 : KI.C w A0 l0.length l0) (hc0 : l0.length ≤ c0) (hr2 : KI.C w A2 l2.length l2) (hc2 : l2.length ≤ c2) (h : spec_Pegs.f k l0 a1 l2 = some r) :
    CallsA Try.prog 4 #[.slice A0 l0.length c0, .int .i64 a1, .slice A2 l2.length c2] w (fun v w' => k34.R 34 w' w.heap.size (fun _ => True) v r ∧ Below w.heap.size w w') :=
  callsA_of_calls closedF (by decide) Try.func4 rfl (R' := fun τ v w' => k34.R 34 w' (re w τ 0).heap.size (fun _ => True) v r ∧ Below (re w τ 0).heap.size (re w τ 0) w')
    (fun τ => spec_Pegs.calls k A0 c0 l0 a1 A2 c2 l2 r (re w τ 0) (CI_re hr0 τ 0) hc0 (CI_re hr2 τ 0) hc2 h) (fun τ e v w' ⟨h1, h2⟩ hk => by rw [size_re] at h1 h2; exact ⟨R34_of h1, below_of_re h2 hk⟩)

theorem eqPegS_A {w : World} {A0 A1 : Option Addr} {c0 c1 k : Nat} {l0 l1 : List S34} {r : Bool} (hr0 : k34.C w A0 l0.length l0) (hc0 : l0.length ≤ c0) (hr1 : k34.C w A1 l1.length l1) (hc1 : l1.length ≤ c1) (h : laws_eqPegS.f k l0 l1 = some r) :
    CallsA Try.prog 7 #[.slice A0 l0.length c0, .slice A1 l1.length c1] w (fun v w' => v = .bool r ∧ Below w.heap.size w w') :=
  callsA_of_calls closedF (by decide) Try.func7 rfl (R' := fun τ v w' => v = .bool r ∧ Below (re w τ 0).heap.size (re w τ 0) w')
    (fun τ => (laws_eqPegS.calls k A0 c0 l0 A1 c1 l1 r (re w τ 0) (C34_re hr0 τ 0) hc0 (C34_re hr1 τ 0) hc1 h).mono fun e w' ⟨h1, h2⟩ => ⟨_, h1, rfl, h2⟩) (fun τ e v w' ⟨h1, h2⟩ hk => by rw [size_re] at h2; exact ⟨h1, below_of_re h2 hk⟩)

theorem eqIntS_A {w : World} {A0 A1 : Option Addr} {c0 c1 k : Nat} {l0 l1 : List Int} {r : Bool} (hr0 : KI.C w A0 l0.length l0) (hc0 : l0.length ≤ c0) (hr1 : KI.C w A1 l1.length l1) (hc1 : l1.length ≤ c1) (h : laws_eqIntS.f k l0 l1 = some r) :
    CallsA Try.prog 8 #[.slice A0 l0.length c0, .slice A1 l1.length c1] w (fun v w' => v = .bool r ∧ Below w.heap.size w w') :=
  callsA_of_calls closedF (by decide) Try.func8 rfl (R' := fun τ v w' => v = .bool r ∧ Drawn0 (re w τ 0) w')
    (fun τ => (laws_eqIntS.calls k A0 c0 l0 A1 c1 l1 r (re w τ 0) (CI_re hr0 τ 0) hc0 (CI_re hr1 τ 0) hc1 h).mono fun e w' ⟨h1, h2⟩ => ⟨_, h1, rfl, h2⟩) (fun τ e v w' ⟨h1, h2⟩ hk => ⟨h1, drawn_of h2 hk⟩)

theorem listOk_A {w : World} {A0 : Option Addr} {c0 k : Nat} {l0 : List Int} {a1 : Int} {r : Bool} (hr0 : KI.C w A0 l0.length l0) (hc0 : l0.length ≤ c0) (h : impl_listOk.f k l0 a1 = some r) :
    CallsA Try.prog 14 #[.slice A0 l0.length c0, .int .i64 a1] w (fun v w' => v = .bool r ∧ Below w.heap.size w w') :=
  callsA_of_calls closedF (by decide) Try.func14 rfl (R' := fun τ v w' => v = .bool r ∧ Drawn0 (re w τ 0) w')
    (fun τ => (impl_listOk.calls k A0 c0 l0 a1 r (re w τ 0) (CI_re hr0 τ 0) hc0 h).mono fun e w' ⟨h1, h2⟩ => ⟨_, h1, rfl, h2⟩) (fun τ e v w' ⟨h1, h2⟩ hk => ⟨h1, drawn_of h2 hk⟩)

theorem quantity_A {w : World} {a0 : Int} {r : Bool} (h : impl_quantity.f a0 = some r) :
    CallsA Try.prog 15 #[.int .i64 a0] w (fun v w' => v = .bool r ∧ Below w.heap.size w w') :=
  callsA_of_calls closedF (by decide) Try.func15 rfl (R' := fun τ v w' => v = .bool r ∧ Drawn0 (re w τ 0) w')
    (fun τ => (impl_quantity.calls a0 r (re w τ 0) h).mono fun e w' ⟨h1, h2⟩ => ⟨_, h1, rfl, h2⟩) (fun τ e v w' ⟨h1, h2⟩ hk => ⟨h1, drawn_of h2 hk⟩)

theorem heldPegS_A {w : World} {A0 : Option Addr} {c0 k : Nat} {l0 : List S34} {a1 r : Int} (hr0 : k34.C w A0 l0.length l0) (hc0 : l0.length ≤ c0) (h : laws_heldPegS.f k l0 a1 = some r) :
    CallsA Try.prog 11 #[.slice A0 l0.length c0, .int .i64 a1] w (fun v w' => v = .int .i64 r ∧ Below w.heap.size w w') :=
  callsA_of_calls closedF (by decide) Try.func11 rfl (R' := fun τ v w' => v = .int .i64 r ∧ Drawn0 (re w τ 0) w')
    (fun τ => (laws_heldPegS.calls k A0 c0 l0 a1 r (re w τ 0) (C34_re hr0 τ 0) hc0 h).mono fun e w' ⟨h1, h2⟩ => ⟨_, h1, rfl, h2⟩) (fun τ e v w' ⟨h1, h2⟩ hk => ⟨h1, drawn_of h2 hk⟩)

theorem markIntS_A {W0 w : World} {P0 : Nat → Prop} {u : Value} {k : Nat} {l0 r2 : List Int} {a1 r1 : Int} (hB : Below W0.heap.size W0 w) (ho0 : KI.R 3 w W0.heap.size P0 u l0) (h : laws_markIntS.f k l0 a1 = some (r1, r2)) :
    CallsA Try.prog 9 #[u, .int .i64 a1] w (fun v w' => v = .int .i64 r1 ∧ KI.R 3 w' W0.heap.size P0 u r2 ∧ Below W0.heap.size W0 w' ∧ WKept w w' P0) :=
  callsA_of_calls closedF (by decide) Try.func9 rfl (R' := fun τ v w' => v = .int .i64 r1 ∧ KI.R 3 w' (re W0 τ 0).heap.size (fun k_ => (P0 k_ ∨ (re w τ 0).heap.size ≤ k_)) u r2 ∧ Below (re W0 τ 0).heap.size (re W0 τ 0) w' ∧ WKept (re w τ 0) w' (fun k_ => P0 k_))
    (fun τ => (laws_markIntS.calls k P0 u l0 a1 r1 r2 (re W0 τ 0) (re w τ 0) (by rw [size_re]; exact below_re τ 0 0 hB) (by rw [size_re]; exact RI_re ho0 τ 0) h).mono fun e w' ⟨h1, h2⟩ => ⟨_, h1, rfl, h2⟩)
    (fun τ e v w' ⟨h1, h2, h3, h4⟩ hk => by
      rw [size_re] at h2 h3
      have hkt := wkept_of h4 hk
      refine ⟨h1, Kd.R_flat (fun h => h) (RI_of h2) (fun k hk _ => ho0.1 k hk), ⟨h3.os, hk.tape.trans hB.tape, h3.output, Nat.le_trans hB.size hkt.1, fun k hkB => ?_⟩, hkt⟩
      have hlt : k < w.heap.size := Nat.lt_of_lt_of_le hkB hB.size
      refine Eq.trans ?_ (hB.block k hkB)
      refine unwash hk ?_
      have e1 := h3.block k hkB
      rw [get_re, get_re] at e1
      rw [e1, hB.block k hkB])

theorem markPegS_A {W0 w : World} {P0 : Nat → Prop} {u : Value} {k : Nat} {l0 r2 : List S34} {a1 r1 : Int} (hB : Below W0.heap.size W0 w) (ho0 : k34.R 34 w W0.heap.size P0 u l0) (h : laws_markPegS.f k l0 a1 = some (r1, r2)) :
    CallsA Try.prog 10 #[u, .int .i64 a1] w (fun v w' => v = .int .i64 r1 ∧ k34.R 34 w' W0.heap.size P0 u r2 ∧ Below W0.heap.size W0 w' ∧ WKept w w' P0) :=
  callsA_of_calls closedF (by decide) Try.func10 rfl (R' := fun τ v w' => v = .int .i64 r1 ∧ k34.R 34 w' (re W0 τ 0).heap.size (fun k_ => (P0 k_ ∨ (re w τ 0).heap.size ≤ k_)) u r2 ∧ Below (re W0 τ 0).heap.size (re W0 τ 0) w' ∧ WKept (re w τ 0) w' (fun k_ => P0 k_))
    (fun τ => (laws_markPegS.calls k P0 u l0 a1 r1 r2 (re W0 τ 0) (re w τ 0) (by rw [size_re]; exact below_re τ 0 0 hB) (by rw [size_re]; exact R34_re ho0 τ 0) h).mono fun e w' ⟨h1, h2⟩ => ⟨_, h1, rfl, h2⟩)
    (fun τ e v w' ⟨h1, h2, h3, h4⟩ hk => by
      rw [size_re] at h2 h3
      have hkt := wkept_of h4 hk
      refine ⟨h1, Kd.R_flat (fun h => h) (R34_of h2) (fun k hk _ => ho0.1 k hk), ⟨h3.os, hk.tape.trans hB.tape, h3.output, Nat.le_trans hB.size hkt.1, fun k hkB => ?_⟩, hkt⟩
      have hlt : k < w.heap.size := Nat.lt_of_lt_of_le hkB hB.size
      refine Eq.trans ?_ (hB.block k hkB)
      refine unwash hk ?_
      have e1 := h3.block k hkB
      rw [get_re, get_re] at e1
      rw [e1, hB.block k hkB])
end Go.Proofs.Ytakjhhkffiffdaa
