/-
  LIFT (E): A WALK BESIDE GOROUTINES THAT ONLY LEAVE: 'Gets P Q g w': with goroutine 0 at g in world w, beside whatever leavers, over whatever past without a data race, the machine comes to a state in which Q holds of goroutine 0; on every tape.
-/
import Derived.Test.YtakjhhkffiffdaaLiftD
import Derived.Conc.Beside
import Derived.Conc.TokenTrace
set_option linter.unusedVariables false
set_option linter.unusedSimpArgs false
namespace Go.Proofs.YtakjhhkffiffdaaLift
open Go.Conc
open Go.ConcN (sumTo upd sumTo_upd upd_ne upd_same)

/-! ### the trace between two phases -/
structure Pst (t : Trace) : Prop where
  clean : ∀ said, ¬ Race said t
  known : ∀ i a, touchAt t i = some a → a.loc.isMemory = true → Knows t 0 i
  over : t.HandedOver
  hears : Deaf t 0 = 0

theorem pst_nil : Pst #[] :=
  ⟨fun said => by rintro ⟨i, j, _, ⟨a, b, ha, _⟩, _⟩; simp [Trace.act?] at ha, fun i a ha => by simp [touchAt, Trace.act?] at ha, fun i g hg => by simp [Trace.g?] at hg, rfl⟩

theorem Pst.own {t : Trace} (h : Pst t) {fn : FuncId} {pos : String} {es : Array Event} (hes : ∀ e ∈ es, Calm e) : Pst (t ++ MemOp.ofEvents 0 fn pos es) := by
  have h0 : ∀ op ∈ MemOp.ofEvents 0 fn pos es, op.g = 0 := fun op hop => by obtain ⟨e, _, rfl⟩ := Go.Conc.mem_ofEvents hop; rfl
  refine ⟨fun said => noRace_append (h.clean said) h0 fun i a ha op hop b hb hc => h.known i a ha hc.2.1, fun i a ha hm => ?_, handedOver_app h.over fun op hop => .inl (h0 op hop), ?_⟩
  · obtain ⟨x, hx, hxa⟩ := touch_of ha
    rcases getElem?_append_cases hx with ⟨_, hx'⟩ | ⟨_, hxu⟩
    · exact (h.known i a (by rw [touchAt_of hx']; exact hxa) hm).app _
    · have := knows_own hx
      rwa [h0 x hxu] at this
  · rw [Deaf_own, deafBehind_still fun e he => hes e he]; exact h.hears

theorem Pst.mute {t : Trace} (h : Pst t) {g : Nat} (hg : g ≠ 0) {fn : FuncId} {pos : String} {es : Array Event} (hm : ∀ e ∈ es, e.mute = true) : Pst (t ++ MemOp.ofEvents g fn pos es) := by
  have h0 : ∀ op ∈ MemOp.ofEvents g fn pos es, op.g = g := fun op hop => by obtain ⟨e, _, rfl⟩ := Go.Conc.mem_ofEvents hop; rfl
  have hn : ∀ op ∈ MemOp.ofEvents g fn pos es, op.act.touch? = none := fun op hop => by obtain ⟨e, he, rfl⟩ := Go.Conc.mem_ofEvents hop; exact touch_mute (hm e he)
  refine ⟨fun said => noRace_appendMute (h.clean said) hn, fun i a ha hm => ?_, handedOver_app h.over fun op hop => .inr (hn op hop), (Deaf_other t hg _ h0).trans h.hears⟩
  obtain ⟨x, hx, hxa⟩ := touch_of ha
  rcases getElem?_append_cases hx with ⟨_, hx'⟩ | ⟨_, hxu⟩
  · exact (h.known i a (by rw [touchAt_of hx']; exact hxa) hm).app _
  · rw [hn x hxu] at hxa; cases hxa

/-! ### the machine -/
variable {P : Program}

/-- Leavers slip till goroutine 0 is picked. -/
theorem slip : ∀ (M : Nat) (gs : Array Goroutine) (a : Goroutine) (w : World) (sl : Option (Nat × Nat)) (t : Trace) (q : Nat → Nat), sumTo gs.size q ≤ M → gs[0]? = some a → a.status = .running → Leavers P t gs q → Pst t →
    ∃ (N : Nat) (gs' : Array Goroutine) (d0 d : Nat) (sl0 sl' : Option (Nat × Nat)) (t' : Trace) (q' : Nat → Nat),
      runNT P N (crowd gs w sl) t = (.next (crowd gs' (w.at d0) sl0), t') ∧ gs'.size = gs.size ∧ gs'[0]? = some a ∧ Leavers P t' gs' q' ∧ Pst t' ∧ stepT P (crowd gs' (w.at d0) sl0) = runT P (crowd gs' (w.at d) sl') 0 := by
  intro M
  induction M with
  | zero =>
    intro gs a w sl t q hM h0 hrun hL hP
    have haw : ∀ g ∈ gs, awake g := by
      intro g hg
      obtain ⟨i, hi, rfl⟩ := Array.mem_iff_getElem.1 hg
      rcases Nat.eq_zero_or_pos i with rfl | hpos
      · have : gs[0] = a := by simpa [Array.getElem?_eq_getElem hi] using h0
        rw [this]; exact awake_of (.inl hrun)
      · exact awake_of ((hL.old i _ hpos (Array.getElem?_eq_getElem hi)).status.elim .inl fun x => .inr (.inr x))
    obtain ⟨i, g, d, sl', hi, hg, hst⟩ := crowd_pick (P := P) (w := w) (sl := sl) haw ⟨0, a, h0, hrun⟩
    rcases Nat.eq_zero_or_pos i with rfl | hpos
    · exact ⟨0, gs, w.drawn, d, sl, sl', t, q, rfl, rfl, h0, hL, hP, hst⟩
    · have hq := hL.old i g hpos hi
      have hlt : i < gs.size := (Array.getElem?_eq_some_iff.1 hi).1
      have := Go.ConcN.le_sumTo (f := q) hlt
      have hqi : q i = 0 := by omega
      rw [hqi] at hq
      rw [hq.1] at hg; cases hg
  | succ M ih =>
    intro gs a w sl t q hM h0 hrun hL hP
    have haw : ∀ g ∈ gs, awake g := by
      intro g hg
      obtain ⟨i, hi, rfl⟩ := Array.mem_iff_getElem.1 hg
      rcases Nat.eq_zero_or_pos i with rfl | hpos
      · have : gs[0] = a := by simpa [Array.getElem?_eq_getElem hi] using h0
        rw [this]; exact awake_of (.inl hrun)
      · exact awake_of ((hL.old i _ hpos (Array.getElem?_eq_getElem hi)).status.elim .inl fun x => .inr (.inr x))
    obtain ⟨i, g, d, sl', hi, hg, hst⟩ := crowd_pick (P := P) (w := w) (sl := sl) haw ⟨0, a, h0, hrun⟩
    rcases Nat.eq_zero_or_pos i with rfl | hpos
    · exact ⟨0, gs, w.drawn, d, sl, sl', t, q, rfl, rfl, h0, hL, hP, hst⟩
    · have hq := hL.old i g hpos hi
      have hi0 : (i == 0) = false := by simp; omega
      have hlt : i < gs.size := (Array.getElem?_eq_some_iff.1 hi).1
      cases hqi : q i with
      | zero => rw [hqi] at hq; rw [hq.1] at hg; cases hg
      | succ k =>
        rw [hqi] at hq
        rcases hq with ⟨hf, _⟩ | ⟨_, g', es, hm, hstp, hq'⟩
        · rw [hf] at hg; cases hg
        have hrunT := runT_crowd_go (P := P) (sl := sl') (i := i) hi (by rw [hi0]; exact hstp (w.at d))
        have hsz : ((gs.map (woken P g g' (w.at d))).setIfInBounds i g').size = gs.size := by simp
        have hsum : sumTo gs.size (upd q i k) + (k + 1) = sumTo gs.size q + k := by
          have := sumTo_upd q k id hlt
          simpa [hqi] using this
        obtain ⟨N, gs', d0, d', sl0, sl'', t', q', hr, hs', h0', hL', hP', hst'⟩ := ih ((gs.map (woken P g g' (w.at d))).setIfInBounds i g') a (w.at d) sl' (t ++ MemOp.ofEvents i g.frame.fn g.frame.place es) (upd q i k) (by rw [hsz]; omega)
          (by
            have hne : i ≠ 0 := by omega
            rw [Array.getElem?_setIfInBounds_ne hne, Array.getElem?_map, h0]
            simp [woken_run hrun]) hrun
          ⟨fun j x hj hx => by
            by_cases hji : i = j
            · subst hji
              rw [Array.getElem?_setIfInBounds_self_of_lt (by simpa using hlt)] at hx
              obtain rfl := Option.some.inj hx
              rw [upd_same, Deaf_own]
              exact hq'
            · rw [Array.getElem?_setIfInBounds_ne hji, Array.getElem?_map] at hx
              obtain ⟨y, hy, rfl⟩ := Option.map_eq_some_iff.1 hx
              have hqj := hL.old j y hj hy
              rw [woken_quitsD hqj, upd_ne q k (Ne.symm hji), Deaf_other t hji _ (fun op hop => by obtain ⟨e, _, rfl⟩ := Go.Conc.mem_ofEvents hop; rfl)]
              exact hqj, fun j hj => by
            rw [Deaf_other t (g' := i) (by simp at hj; omega) _ (fun op hop => by obtain ⟨e, _, rfl⟩ := Go.Conc.mem_ofEvents hop; rfl)]
            exact hL.above j (by simpa using hj)⟩
          (hP.mute (by omega) hm)
        exact ⟨N + 1, gs', d0, d', sl0, sl'', t', q', by simp only [runNT, hst, hrunT]; exact hr, hs'.trans hsz, h0', hL', hP', hst'⟩

/-- ████ THE JUDGEMENT. ████ -/
def Gets (P : Program) (Q : Goroutine → World → Prop) (g : Goroutine) (w : World) : Prop :=
  ∀ (gs : Array Goroutine) (sl : Option (Nat × Nat)) (t : Trace) (q : Nat → Nat), gs[0]? = some g → Leavers P t gs q → Pst t →
    ∃ (N : Nat) (gs' : Array Goroutine) (g' : Goroutine) (w' : World) (sl' : Option (Nat × Nat)) (t' : Trace) (q' : Nat → Nat),
      runNT P N (crowd gs w sl) t = (.next (crowd gs' w' sl'), t') ∧ gs'[0]? = some g' ∧ Leavers P t' gs' q' ∧ Pst t' ∧ Q g' w'

section
variable {Q Q' : Goroutine → World → Prop} {g : Goroutine} {w : World}

theorem Gets.done (h : Q g w) : Gets P Q g w := fun gs sl t q h0 hL hP => ⟨0, gs, g, w, sl, t, q, rfl, h0, hL, hP, h⟩

theorem Gets.trans (h : Gets P Q g w) (h' : ∀ g' w', Q g' w' → Gets P Q' g' w') : Gets P Q' g w := by
  intro gs sl t q h0 hL hP
  obtain ⟨N, gs1, g1, w1, sl1, t1, q1, hr, h01, hL1, hP1, hQ⟩ := h gs sl t q h0 hL hP
  obtain ⟨N2, gs2, g2, w2, sl2, t2, q2, hr2, h02, hL2, hP2, hQ2⟩ := h' g1 w1 hQ gs1 sl1 t1 q1 h01 hL1 hP1
  exact ⟨N + N2, gs2, g2, w2, sl2, t2, q2, by rw [runNT_add, hr]; exact hr2, h02, hL2, hP2, hQ2⟩

theorem will_gets (h : Will P Q g w) : Gets P Q g w := by
  induction h with
  | done h => exact .done h
  | @take g w hs g' w' es h he _ ih =>
    intro gs sl t q h0 hL hP
    obtain ⟨N, gs1, d0, d, sl0, sl', t1, q1, hr, hsz, h01, hL1, hP1, hst⟩ := slip (P := P) _ gs g w sl t q (Nat.le_refl _) h0 hs hL hP
    have hrunT := runT_crowd_go (P := P) (sl := sl') (i := 0) h01 (show stepG P (0 == 0) g (w.at d) = _ from h d)
    have hlt : 0 < gs1.size := (Array.getElem?_eq_some_iff.1 h01).1
    obtain ⟨N2, gs2, g2, w2, sl2, t2, q2, hr2, h02, hL2, hP2, hQ2⟩ := ih d ((gs1.map (woken P g (g' d) (w' d))).setIfInBounds 0 (g' d)) sl' (t1 ++ MemOp.ofEvents 0 g.frame.fn g.frame.place (es d)) q1 (by simp [hlt])
      ⟨fun j x hj hx => by
        have hne : 0 ≠ j := by omega
        rw [Array.getElem?_setIfInBounds_ne hne, Array.getElem?_map] at hx
        obtain ⟨y, hy, rfl⟩ := Option.map_eq_some_iff.1 hx
        have hq := hL1.old j y hj hy
        rw [woken_quitsD hq, Deaf_other t1 (by omega) _ (fun op hop => by obtain ⟨e, _, rfl⟩ := Go.Conc.mem_ofEvents hop; rfl)]
        exact hq, fun j hj => by
        rw [Deaf_other t1 (g' := 0) (by simp at hj; omega) _ (fun op hop => by obtain ⟨e, _, rfl⟩ := Go.Conc.mem_ofEvents hop; rfl)]
        exact hL1.above j (by simpa using hj)⟩ (hP1.own (he d))
    refine ⟨N + 1 + N2, gs2, g2, w2, sl2, t2, q2, ?_, h02, hL2, hP2, hQ2⟩
    rw [Nat.add_assoc, runNT_add, hr]
    simp only
    rw [runNT_add]
    simp only [runNT, hst, hrunT]
    exact hr2

/-- One step of goroutine 0's, whatever is drawn ahead of it. -/
theorem Gets.step (hs : g.status = .running) (h : ∀ d, ∃ g' w' es, stepG P true g (w.at d) = .go g' w' es ∧ (∀ e ∈ es, Calm e) ∧ Gets P Q g' w') : Gets P Q g w :=
  Gets.trans (Q := fun g' w' => Gets P Q g' w') (will_gets (.step hs fun d => by
    obtain ⟨g', w', es, h1, h2, h3⟩ := h d
    exact ⟨g', w', es, h1, h2, .done h3⟩)) fun _ _ h => h

/-- .. in the walk's form. -/
theorem Gets.goes (hs : g.status = .running) (h : ∀ d, (stepG P true g (w.at d)).goes fun g' w' es => (∀ e ∈ es, Calm e) ∧ Gets P Q g' w') : Gets P Q g w :=
  .step hs fun d => by
    obtain ⟨g', w', es, h1, h2, h3⟩ := goes_elim (h d)
    exact ⟨g', w', es, h1, h2, h3⟩
end

/-- Goroutine 0 stands at the step that ends the run. -/
def AtFin (P : Program) (Post : Value → World → Prop) (g : Goroutine) (w : World) : Prop :=
  g.status = .running ∧ ∀ d, ∃ v w' es, stepG P true g (w.at d) = .ended (.done v) w' es ∧ (∀ e ∈ es, Calm e) ∧ Post v w'

/-- ████ THE END. ████ -/
theorem good_of_gets {Post : Value → World → Prop} {g : Goroutine} {w : World} (h : Gets P (AtFin P Post) g w) :
    ∃ N last o w' t', runNT P (N + 1) (solo g w) #[] = (.ended o w', t') ∧ runN P N (solo g w) = .next last ∧ step P last = .ended o w' ∧ Good P Post last o w' t' := by
  obtain ⟨N, gs1, g1, w1, sl1, t1, q1, hr, h01, hL1, hP1, hrun, hfin⟩ := h #[g] none #[] (fun _ => 0) rfl (leavers_one P g) pst_nil
  obtain ⟨N2, gs2, d0, d, sl0, sl', t2, q2, hr2, hsz, h02, hL, hP, hst⟩ := slip (P := P) _ gs1 g1 w1 sl1 t1 q1 (Nat.le_refl _) h01 hrun hL1 hP1
  obtain ⟨v, w', es, hend, hes, hpost⟩ := hfin d
  have hrunT := runT_many_ended (P := P) (sl := sl') (i := 0) h02 (show stepG P (0 == 0) g1 (w1.at d) = _ from hend)
  have hP' := hP.own (fn := g1.frame.fn) (pos := g1.frame.place) hes
  have hk : runNT P (N + N2) (solo g w) #[] = (.next (crowd gs2 (w1.at d0) sl0), t2) := by
    rw [runNT_add, solo_eq_crowd, hr]; exact hr2
  refine ⟨N + N2, crowd gs2 (w1.at d0) sl0, .done v, w', t2 ++ MemOp.ofEvents 0 g1.frame.fn g1.frame.place es, ?_, ?_, ?_, v, rfl, hpost, hP'.clean, hP'.over, ⟨fun x hx => ?_, rfl⟩, fun j x hx hj => ?_⟩
  · rw [runNT_add, hk]
    simp only [runNT, hst, hrunT]
  · rw [← runNT_fst P (N + N2) _ #[], hk]
  · rw [step, hst, hrunT]
  · obtain ⟨j, hj⟩ := List.mem_iff_getElem?.1 hx
    rw [List.getElem?_drop] at hj
    exact ⟨_, (hL.old (1 + j) x (by omega) (by simpa [crowd] using hj)).leaves⟩
  · have hq := hL.old j x (by omega) hx
    refine ⟨q2 j, ?_⟩
    have e : (t2 ++ MemOp.ofEvents 0 g1.frame.fn g1.frame.place es).deaf j (t2 ++ MemOp.ofEvents 0 g1.frame.fn g1.frame.place es).size = Deaf t2 j :=
      Deaf_other t2 (g := j) (g' := 0) (by omega) _ (fun op hop => by obtain ⟨e, _, rfl⟩ := Go.Conc.mem_ofEvents hop; rfl)
    rw [e]
    exact hq.hears _

end Go.Proofs.YtakjhhkffiffdaaLift
