/-
  LIFT (D): FROM THE LONE RUN TO THE COMPANY: a contract of a lone call, on every tape, is a walk that ends whatever is drawn between its steps.
-/
import Derived.Test.YtakjhhkffiffdaaLiftC
set_option linter.unusedVariables false
set_option linter.unusedSimpArgs false
namespace Go.Proofs.YtakjhhkffiffdaaLift
open Go.Conc

/-- What stands below: a panic that reaches it, or a return into it, ends the run. -/
def trap : Frame := { (default : Frame) with fn := 0, kind := .normal, todo := [.code (.refuse "trap")], defers := [{ target := .nil, args := #[] }], mode := .run }
def mch (x : Fr) (xs : List Fr) (w : World) : Machine := lone x.frame (xs.map Fr.frame ++ [trap]) w

variable {P : Program} {F : List FuncId}

theorem mk_go {x x' : Fr} {xs xs' : List Fr} {w w' : World} {es : Array Event} (h : stepG P true (conf x xs [trap]) w = .go (conf x' xs' [trap]) w' es) : step P (mch x xs w) = .next (mch x' xs' w') :=
  step_lone_go (by
    have : stepG P true { frame := x.frame, callers := xs.map Fr.frame ++ [trap], status := .running, dying := none } w = .go (conf x' xs' [trap]) w' es := h
    rw [this]; rfl)
theorem mk_ended {x : Fr} {xs : List Fr} {w w' : World} {o : Outcome} {es : Array Event} (h : stepG P true (conf x xs [trap]) w = .ended o w' es) : step P (mch x xs w) = .ended o w' :=
  step_lone_ended (by
    have : stepG P true { frame := x.frame, callers := xs.map Fr.frame ++ [trap], status := .running, dying := none } w = .ended o w' es := h
    rw [this]; rfl)
theorem mk_panic {x : Fr} {xs : List Fr} {w w' : World} {fr : Frame} {es : Array Event} (h : stepG P true (conf x xs [trap]) w = .go (G fr (xs.map Fr.frame ++ [trap])) w' es) : step P (mch x xs w) = .next (lone fr (xs.map Fr.frame ++ [trap]) w') :=
  step_lone_go (by
    have : stepG P true { frame := x.frame, callers := xs.map Fr.frame ++ [trap], status := .running, dying := none } w = .go (G fr (xs.map Fr.frame ++ [trap])) w' es := h
    rw [this]; rfl)

theorem lone_inj {fr fr' : Frame} {cs cs' : List Frame} {w w' : World} (h : lone fr cs w = lone fr' cs' w') : fr = fr' ∧ cs = cs' ∧ w = w' := by
  simp only [lone, Machine.mk.injEq, Array.mk.injEq, List.cons.injEq, Goroutine.mk.injEq] at h
  exact ⟨h.2.1.1.1, h.2.1.1.2.1, h.1⟩

/-- The run never stands at a frame on its way out over the trap. -/
def Never (P : Program) (m : Machine) : Prop := ∀ k fr w', runN P k m = .next (lone fr [trap] w') → fr.mode ≠ .returning

theorem never_ended {m : Machine} {o : Outcome} {w : World} (h : step P m = .ended o w) (h0 : ∀ fr w', m = lone fr [trap] w' → fr.mode ≠ .returning) : Never P m := by
  intro k fr w' hk
  cases k with
  | zero => exact h0 fr w' (by simpa [runN] using hk)
  | succ k => simp [runN, h] at hk
theorem never_next {m m' : Machine} (h : step P m = .next m') (h0 : ∀ fr w', m = lone fr [trap] w' → fr.mode ≠ .returning) (hn : Never P m') : Never P m := by
  intro k fr w' hk
  cases k with
  | zero => exact h0 fr w' (by simpa [runN] using hk)
  | succ k => simp only [runN, h] at hk; exact hn k fr w' hk

theorem trap_refuses (w : World) : ∃ (o : Outcome) (v : World), step P (lone trap [] w) = .ended o v := by
  have h : ∃ (o : Outcome), (stepG P true { frame := trap, callers := [], status := .running, dying := none } w).bare = .ended o w := by
    simp [stepG, stepG.exec, trap, GStep.bare]
  obtain ⟨o, ho⟩ := h
  exact ⟨o, w, step_lone_ended ho⟩

theorem trap_ends (chain : List PanicEntry) (w : World) : ∃ (o : Outcome) (v : World), step P (lone (trap.raise chain) [] w) = .ended o v := by
  have h : ∃ (o : Outcome), (stepG P true { frame := trap.raise chain, callers := [], status := .running, dying := none } w).bare = .ended o w := by
    simp [stepG, unwind, callDeferred, trap, Frame.raise, GStep.bare]
  obtain ⟨o, ho⟩ := h
  exact ⟨o, w, step_lone_ended ho⟩

theorem trap_finish (v : Value) : trap.finish v = trap := rfl

/-- Behind a return into the trap: nobody stands over it any more. -/
theorem past_leaving {fr : Frame} {w : World} {v : Value} (h : fr.leaving P w (.returned v)) : ∀ k fr' c cs w', runN P (k + 1) (lone fr [trap] w) ≠ .next (lone fr' (c :: cs) w') := by
  intro k fr' c cs w' hk
  have hs := step_leave_returned (c := trap) (cs := []) h
  rw [trap_finish] at hs
  simp only [runN, hs] at hk
  cases k with
  | zero =>
    simp only [runN, Stepped.next.injEq] at hk
    have := (lone_inj hk).2.1
    cases this
  | succ k =>
    obtain ⟨o, v', he⟩ := trap_refuses (P := P) w
    simp [runN, he] at hk

/-- A frame on its way out over the trap, whatever its results are. -/
theorem out_over {f : FuncId} {t : Array Value} {k : List Item} (w : World) : ∀ n fr' c cs w', runN P (n + 1) (mch ⟨f, t, k, true⟩ [] w) ≠ .next (lone fr' (c :: cs) w') := by
  intro n fr' c cs w' hn
  have hstep : (∃ o v, step P (mch ⟨f, t, k, true⟩ [] w) = .ended o v) ∨ ∃ v, step P (mch ⟨f, t, k, true⟩ [] w) = .next (lone trap [] v) := by
    have hg : (∃ o v, (stepG P true { frame := (Fr.mk f t k true).frame, callers := [trap], status := .running, dying := none } w).bare = .ended o v) ∨ ∃ v, (stepG P true { frame := (Fr.mk f t k true).frame, callers := [trap], status := .running, dying := none } w).bare = .go { frame := trap, callers := [], status := .running, dying := none } v := by
      simp only [Fr.frame, stepG, unwind, Frame.at, base, if_true]
      cases hf : P.funcs[f]? with
      | none => simp only [doReturn]; right; exact ⟨w, rfl⟩
      | some fn =>
        simp only
        cases hr : ((results fn t).runT P w #[]) with
        | mk r es =>
          cases r with
          | ok v w' => right; exact ⟨w', rfl⟩
          | halt h w' => left; cases h <;> exact ⟨_, _, rfl⟩
    rcases hg with ⟨o, v, h⟩ | ⟨v, h⟩
    · exact .inl ⟨o, v, step_lone_ended h⟩
    · exact .inr ⟨v, step_lone_go h⟩
  rcases hstep with ⟨o, v, h⟩ | ⟨v, h⟩
  · simp [runN, h] at hn
  · simp only [runN, h] at hn
    cases n with
    | zero =>
      simp only [runN, Stepped.next.injEq] at hn
      cases (lone_inj hn).2.1
    | succ n =>
      obtain ⟨o, v', he⟩ := trap_refuses (P := P) v
      simp [runN, he] at hn

/-- A panic runs down to the trap, and there the run ends. -/
theorem never_panic (hC : Closed' P F) (chain : List PanicEntry) : ∀ (xs : List Fr) (fr : Frame) (w : World), fr.fn ∈ F → (∀ y ∈ xs, y.ok P F ∧ y.out = false) → fr.mode = .panicking chain → fr.defers = [] → Never P (lone fr (xs.map Fr.frame ++ [trap]) w)
  | [], fr, w, hf, _, hm, hd => by
    obtain ⟨fn, c, h1, _⟩ := hC fr.fn hf
    have hs := step_leave_panicked (c := trap) (cs := []) (w := w) (show fr.leaving P w (.panicked chain) from ⟨hm, hd, fn, h1⟩)
    refine never_next hs (fun fr' w' e => ?_) ?_
    · rw [← (lone_inj e).1, hm]; simp
    · obtain ⟨o, v, he⟩ := trap_ends (P := P) chain w
      refine never_ended he fun fr' w' e => ?_
      cases (lone_inj e).2.1
  | y :: ys, fr, w, hf, hxs, hm, hd => by
    obtain ⟨fn, c, h1, _⟩ := hC fr.fn hf
    have hs := step_leave_panicked (c := y.frame) (cs := ys.map Fr.frame ++ [trap]) (w := w) (show fr.leaving P w (.panicked chain) from ⟨hm, hd, fn, h1⟩)
    obtain ⟨hy, hyo⟩ := hxs y (List.mem_cons_self ..)
    refine never_next hs (fun fr' w' e => ?_) ?_
    · rw [← (lone_inj e).1, hm]; simp
    · refine never_panic hC chain ys _ w ?_ (fun z hz => hxs z (List.mem_cons_of_mem _ hz)) (by obtain ⟨f, t, k, o⟩ := y; cases o <;> rfl) ?_
      · have : (y.frame.raise chain).fn = y.fn := by
          obtain ⟨f, t, k, o⟩ := y
          cases o <;> rfl
        rw [this]; exact hy.1
      · obtain ⟨f, t, k, o⟩ := y
        cases o <;> rfl

/-! ### the walk beside whatever is drawn -/

/-- Whatever is drawn between its steps, g comes to Q by steps of its own, each calm. -/
inductive Will (P : Program) (Q : Goroutine → World → Prop) : Goroutine → World → Prop
  | done {g : Goroutine} {w : World} (h : Q g w) : Will P Q g w
  | take {g : Goroutine} {w : World} (hs : g.status = .running) (g' : Nat → Goroutine) (w' : Nat → World) (es : Nat → Array Event) (h : ∀ d, stepG P true g (w.at d) = .go (g' d) (w' d) (es d))
      (he : ∀ d, ∀ e ∈ es d, Calm e) (hw : ∀ d, Will P Q (g' d) (w' d)) : Will P Q g w

theorem Will.step {Q : Goroutine → World → Prop} {g : Goroutine} {w : World} (hs : g.status = .running) (h : ∀ d, ∃ g' w' es, stepG P true g (w.at d) = .go g' w' es ∧ (∀ e ∈ es, Calm e) ∧ Will P Q g' w') : Will P Q g w :=
  .take hs (fun d => (h d).choose) (fun d => (h d).choose_spec.choose) (fun d => (h d).choose_spec.choose_spec.choose) (fun d => (h d).choose_spec.choose_spec.choose_spec.1) (fun d => (h d).choose_spec.choose_spec.choose_spec.2.1) (fun d => (h d).choose_spec.choose_spec.choose_spec.2.2)

/-- Kept by all that plain code and draws do. -/
structure Kept (w w' : World) : Prop where
  tape : w'.tape = w.tape
  pend : ∀ (b : Nat) (c : Array Value) (t : TypeId), w'.heap[b]? = some (.pending c t) ↔ w.heap[b]? = some (.pending c t)
theorem Kept.refl (w : World) : Kept w w := ⟨rfl, fun _ _ _ => Iff.rfl⟩
theorem Kept.trans {a b c : World} (h : Kept a b) (k : Kept b c) : Kept a c := ⟨k.tape.trans h.tape, fun x y z => (k.pend x y z).trans (h.pend x y z)⟩
theorem Moved.kept {w w' : World} (h : Moved w w') : Kept w w' := ⟨h.tape, h.pend⟩
theorem Kept.at (w : World) (d : Nat) : Kept w (w.at d) := ⟨rfl, fun _ _ _ => Iff.rfl⟩

abbrev Prefix := List (Question → Nat)

/-- The lone run stands there behind n steps, on every tape that begins so. -/
def Reach (P : Program) (x0 : Fr) (w0 : World) (n : Nat) (l : Prefix) (x : Fr) (xs : List Fr) (w : World) : Prop :=
  ∀ τ : Tape', (∀ i a, l[i]? = some a → τ i = a) → runN P n (mch x0 [] (re w0 τ 0)) = .next (mch x xs (re w τ l.length))

def seg (w w' : World) (d : Nat) : Prefix := (List.range (w'.drawn - d)).map fun j => w.tape (d + j)

theorem seg_agree {w w' : World} {d : Nat} {l : Prefix} {τ : Tape'} (h : ∀ i a, (l ++ seg w w' d)[i]? = some a → τ i = a) : Agree (w.at d) w' τ l.length := by
  intro j hj
  have hj' : j < w'.drawn - d := hj
  refine h (l.length + j) _ ?_
  rw [List.getElem?_append_right (by omega)]
  simp [seg, hj']
  rfl
theorem seg_old {w w' : World} {d : Nat} {l : Prefix} {τ : Tape'} (h : ∀ i a, (l ++ seg w w' d)[i]? = some a → τ i = a) : ∀ i a, l[i]? = some a → τ i = a := by
  intro i a hi
  refine h i a ?_
  rw [List.getElem?_append_left (List.getElem?_eq_some_iff.1 hi).1]
  exact hi
theorem seg_length (w w' : World) (d : Nat) : (seg w w' d).length = w'.drawn - d := by simp [seg]

theorem runN_one_next {m m' m'' : Machine} {n : Nat} (h : runN P n m = .next m') (hs : step P m' = .next m'') : runN P (n + 1) m = .next m'' := by
  rw [runN_add, h]; simp [runN, hs]

theorem Reach.go {x0 x x' : Fr} {xs xs' : List Fr} {w0 w w' : World} {n d : Nat} {l : Prefix} {es : Array Event} (h : Reach P x0 w0 n l x xs w)
    (ht : ∀ main X τ e, Agree (w.at d) w' τ e → stepG P main (conf x xs X) (re (w.at d) τ e) = .go (conf x' xs' X) (re w' τ (e + (w'.drawn - (w.at d).drawn))) es) : Reach P x0 w0 (n + 1) (l ++ seg w w' d) x' xs' w' := by
  intro τ hτ
  have h1 := h τ (seg_old hτ)
  have h2 := mk_go (ht true [trap] τ l.length (seg_agree hτ))
  have : (l ++ seg w w' d).length = l.length + (w'.drawn - (w.at d).drawn) := by rw [List.length_append, seg_length]; rfl
  rw [this]
  exact runN_one_next h1 h2

/-- A tape that begins so. -/
def tapeOf (l : Prefix) : Tape' := fun i => (l[i]?).getD (fun _ => 0)
theorem tapeOf_ok (l : Prefix) : ∀ i a, l[i]? = some a → tapeOf l i = a := fun i a h => by simp [tapeOf, h]

section
variable {x0 : Fr} {w0 : World} {R : Tape' → Ending → World → Prop} {X : List Frame}

/-- Where the road ends. -/
def AtOut (P : Program) (f : FuncId) (w0 : World) (R : Tape' → Ending → World → Prop) (X : List Frame) (g : Goroutine) (w : World) : Prop :=
  ∃ (x : Fr) (τ : Tape') (e : Nat) (v : Value), g = conf x [] X ∧ x.out = true ∧ x.fn = f ∧ x.frame.leaving P (re w τ e) (.returned v) ∧ R τ (.returned v) (re w τ e) ∧ Kept w0 w

structure Bad (P : Program) (F : List FuncId) (f : FuncId) (x0 : Fr) (w0 : World) (R : Tape' → Ending → World → Prop) (X : List Frame) (n : Nat) (l : Prefix) (x : Fr) (xs : List Fr) (w : World) : Prop where
  reach : Reach P x0 w0 n l x xs w
  ok : x.ok P F
  oks : ∀ y ∈ xs, y.ok P F ∧ y.out = false
  kept : Kept w0 w
  bad : ¬ Will P (AtOut P f w0 R X) (conf x xs X) w

theorem frame_mode (x : Fr) : x.frame.mode = .returning ↔ x.out = true := by
  obtain ⟨f, t, k, o⟩ := x
  cases o <;> simp [Fr.frame, Frame.at, base]
theorem frame_fn (x : Fr) : x.frame.fn = x.fn := by
  obtain ⟨f, t, k, o⟩ := x
  cases o <;> rfl

theorem callers_one {xs : List Fr} (h : xs.map Fr.frame ++ [trap] = [trap]) : xs = [] := by
  cases xs with
  | nil => rfl
  | cons y ys =>
    have := congrArg List.length h
    simp at this

/-- At a place of the road, the lone run's own way out is this one. -/
theorem Bad.meets {f : FuncId} {n m : Nat} {l : Prefix} {x : Fr} {xs : List Fr} {w : World} {τ : Tape'} {fr : Frame} {v : Value} {w' : World} (h : Bad P F f x0 w0 R X n l x xs w) (hτ : ∀ i a, l[i]? = some a → τ i = a)
    (hm : runN P m (mch x0 [] (re w0 τ 0)) = .next (lone fr [trap] w')) (hf : fr.fn = f) (hl : fr.leaving P w' (.returned v)) (hR : R τ (.returned v) w') : n < m := by
  have hn := h.reach τ hτ
  rcases Nat.lt_trichotomy n m with hlt | rfl | hgt
  · exact hlt
  · exfalso
    rw [hn] at hm
    simp only [Stepped.next.injEq, mch] at hm
    obtain ⟨e1, e2, e3⟩ := lone_inj hm
    obtain rfl := callers_one e2
    subst e1 e3
    exact h.bad (.done ⟨x, τ, l.length, v, rfl, (frame_mode x).1 hl.1, (frame_fn x).symm.trans hf, hl, hR, h.kept⟩)
  · exfalso
    obtain ⟨k, rfl⟩ := Nat.exists_eq_add_of_lt hgt
    have e1 : runN P (m + (k + 1)) (mch x0 [] (re w0 τ 0)) = runN P (k + 1) (lone fr [trap] w') := by rw [runN_add, hm]
    rw [show m + k + 1 = m + (k + 1) by omega, e1] at hn
    cases hxs : xs.map Fr.frame ++ [trap] with
    | nil => simp at hxs
    | cons c cs => exact past_leaving hl k _ c cs _ (by rw [hn, mch, hxs])

variable (hC : Closed' P F) {f : FuncId}
  (hlone : ∀ τ, ∃ n fr v w', runN P n (mch x0 [] (re w0 τ 0)) = .next (lone fr [trap] w') ∧ fr.fn = f ∧ fr.leaving P w' (.returned v) ∧ R τ (.returned v) w')
include hC hlone

theorem Bad.next {n : Nat} {l : Prefix} {x : Fr} {xs : List Fr} {w : World} (h : Bad P F f x0 w0 R X n l x xs w) : ∃ l' x' xs' w', Bad P F f x0 w0 R X (n + 1) (l ++ l') x' xs' w' := by
  by_cases hout : x.out = true ∧ xs = []
  · exfalso
    obtain ⟨ho, rfl⟩ := hout
    obtain ⟨m, fr, v, w', hm, hf, hl, hR⟩ := hlone (tapeOf l)
    have hlt := h.meets (tapeOf_ok l) hm hf hl hR
    have hn := h.reach _ (tapeOf_ok l)
    obtain ⟨k, rfl⟩ := Nat.exists_eq_add_of_lt hlt
    rw [show n + k + 1 = n + (k + 1) by omega, runN_add, hn] at hm
    obtain ⟨f', t, k', o⟩ := x
    obtain rfl : o = true := ho
    exact out_over _ k _ _ _ _ hm
  · have hS : ∀ d, StepIs P F x xs (w.at d) := by
      intro d
      obtain ⟨f', t, k, o⟩ := x
      cases o with
      | false => exact step_run hC h.ok h.oks
      | true =>
        cases xs with
        | nil => exact absurd ⟨rfl, rfl⟩ hout
        | cons y ys => exact step_out hC h.ok.1 h.oks
    have hd : ∃ d, ¬ ∃ g' w' es, stepG P true (conf x xs X) (w.at d) = .go g' w' es ∧ (∀ e ∈ es, Calm e) ∧ Will P (AtOut P f w0 R X) g' w' := by
      refine Classical.byContradiction fun hno => h.bad (.step rfl fun d => ?_)
      exact Classical.byContradiction fun hd => hno ⟨d, hd⟩
    obtain ⟨d, hd⟩ := hd
    have conflict : ∀ w1 : World, (∀ τ, Agree (w.at d) w1 τ l.length → Never P (mch x xs (re w τ l.length))) → False := by
      intro w1 hnev
      obtain ⟨m, fr, v, w', hm, hf, hl, hR⟩ := hlone (tapeOf (l ++ seg w w1 d))
      have hold := seg_old (tapeOf_ok (l ++ seg w w1 d))
      have hlt := h.meets hold hm hf hl hR
      have hn := h.reach _ hold
      obtain ⟨k, rfl⟩ := Nat.exists_eq_add_of_lt hlt
      rw [show n + k + 1 = n + (k + 1) by omega, runN_add, hn] at hm
      exact hnev _ (seg_agree (tapeOf_ok _)) _ _ _ hm hl.1
    have top : ∀ fr' w1 τ e, mch x xs (re w τ e) = lone fr' [trap] w1 → fr'.mode ≠ .returning := by
      intro fr' w1 τ e he hm
      obtain ⟨e1, e2, _⟩ := lone_inj he
      obtain rfl := callers_one e2
      subst e1
      exact hout ⟨(frame_mode x).1 hm, rfl⟩
    cases hS d with
    | go x' xs' w' es hx hxs hm he hs ht =>
      refine ⟨seg w w' d, x', xs', w', h.reach.go ht, hx, hxs, (h.kept.trans (Kept.at w d)).trans (Moved.kept hm), fun hw => hd ⟨_, w', es, hs true X, he, hw⟩⟩
    | panic w1 hm ht =>
      exfalso
      refine conflict w1 fun τ hag => ?_
      obtain ⟨fr, chain, v, y, hfr, hst⟩ := ht true [trap] τ l.length hag
      exact never_next (mk_panic hst) (fun fr' w' he => top fr' w' _ _ he) (never_panic hC chain xs _ v hfr h.oks rfl rfl)
    | ended w1 hm ht =>
      exfalso
      refine conflict w1 fun τ hag => ?_
      obtain ⟨o, v, y, hst⟩ := ht true [trap] τ l.length hag
      exact never_ended (mk_ended hst) (fun fr' w' he => top fr' w' _ _ he)

structure Spot where
  n : Nat
  l : Prefix
  x : Fr
  xs : List Fr
  w : World

theorem no_bad {n : Nat} {l : Prefix} {x : Fr} {xs : List Fr} {w : World} (h : Bad P F f x0 w0 R X n l x xs w) (hn : n = 0) : False := by
  classical
  let T := { s : Spot // Bad P F f x0 w0 R X s.n s.l s.x s.xs s.w }
  have hnext : ∀ s : T, ∃ s' : T, s'.1.n = s.1.n + 1 ∧ ∃ l', s'.1.l = s.1.l ++ l' := by
    intro s
    obtain ⟨l', x', xs', w', hb⟩ := s.2.next hC hlone
    exact ⟨⟨⟨_, _, _, _, _⟩, hb⟩, rfl, l', rfl⟩
  let nx : T → T := fun s => Classical.choose (hnext s)
  have hnx : ∀ s : T, (nx s).1.n = s.1.n + 1 ∧ ∃ l', (nx s).1.l = s.1.l ++ l' := fun s => Classical.choose_spec (hnext s)
  let sq : Nat → T := fun k => Nat.rec ⟨⟨n, l, x, xs, w⟩, h⟩ (fun _ s => nx s) k
  have hsq : ∀ k, sq (k + 1) = nx (sq k) := fun k => rfl
  have hsn : ∀ k, (sq k).1.n = k := by
    intro k
    induction k with
    | zero => exact hn
    | succ k ih => rw [hsq, (hnx _).1, ih]
  have hpre : ∀ k j, ∃ r, (sq (k + j)).1.l = (sq k).1.l ++ r := by
    intro k j
    induction j with
    | zero => exact ⟨[], by simp⟩
    | succ j ih =>
      obtain ⟨r, hr⟩ := ih
      obtain ⟨l', hl'⟩ := (hnx (sq (k + j))).2
      exact ⟨r ++ l', by rw [← Nat.add_assoc, hsq, hl', hr, List.append_assoc]⟩
  have hone : ∀ (k j i : Nat) (a b : Question → Nat), (sq k).1.l[i]? = some a → (sq j).1.l[i]? = some b → a = b := by
    have key : ∀ (k j i : Nat) (a : Question → Nat), k ≤ j → (sq k).1.l[i]? = some a → (sq j).1.l[i]? = some a := by
      intro k j i a hkj hi
      obtain ⟨r, hr⟩ := hpre k (j - k)
      rw [show k + (j - k) = j by omega] at hr
      rw [hr, List.getElem?_append_left (List.getElem?_eq_some_iff.1 hi).1]
      exact hi
    intro k j i a b ha hb
    rcases Nat.le_total k j with hkj | hkj
    · have := key k j i a hkj ha
      rw [hb] at this; exact (Option.some.inj this).symm
    · have := key j k i b hkj hb
      rw [ha] at this; exact Option.some.inj this
  let τ : Tape' := fun i => if hx : ∃ (k : Nat) (a : Question → Nat), (sq k).1.l[i]? = some a then Classical.choose (Classical.choose_spec hx) else fun _ => 0
  have hτ : ∀ (k i : Nat) (a : Question → Nat), (sq k).1.l[i]? = some a → τ i = a := by
    intro k i a hi
    have hx : ∃ (k : Nat) (a : Question → Nat), (sq k).1.l[i]? = some a := ⟨k, a, hi⟩
    have e : τ i = Classical.choose (Classical.choose_spec hx) := dif_pos hx
    rw [e]
    exact hone _ _ _ _ _ (Classical.choose_spec (Classical.choose_spec hx)) hi
  obtain ⟨m, fr, v, w', hm, hf, hl, hR⟩ := hlone τ
  have := (sq m).2.meets (hτ m) hm hf hl hR
  rw [hsn] at this
  omega

theorem will_lone (hok : x0.ok P F) : Will P (AtOut P f w0 R X) (conf x0 [] X) w0 :=
  Classical.byContradiction fun hbad => no_bad hC hlone (n := 0) (l := []) (x := x0) (xs := []) (w := w0) ⟨fun τ _ => rfl, hok, by simp, .refl w0, hbad⟩ rfl
end

/-- ████ THE LIFT. ████ -/
theorem will_calls (hC : Closed' P F) {f : FuncId} (hf : f ∈ F) {fn : Func} {c : Code} (h1 : P.funcs[f]? = some fn) (h2 : fn.body = some c) {args : Array Value} {w : World} {R : Tape' → Ending → World → Prop} (X : List Frame)
    (h : ∀ τ, Calls P f args (re w τ 0) (R τ)) (hR : ∀ τ e w', R τ e w' → ∃ v, e = .returned v) :
    Will P (AtOut P f w R X) (G ((base f).at ⟨args ++ Array.replicate (fn.ntmps - args.size) undef, []⟩ [.code c]) X) w := by
  obtain ⟨fn', c', k1, _, k3, k4⟩ := hC f hf
  obtain rfl : fn' = fn := by rw [h1] at k1; exact (Option.some.inj k1).symm
  obtain rfl : c' = c := by rw [h2] at k3; exact (Option.some.inj k3).symm
  refine will_lone (x0 := ⟨f, args ++ Array.replicate (fn'.ntmps - args.size) undef, [.code c'], false⟩) hC (fun τ => ?_) ⟨hf, by simp [itemOk, k4]⟩
  obtain ⟨e, w', fr, hr, hs, hfn, hl⟩ := h τ [trap]
  obtain ⟨v, rfl⟩ := hR τ e w' hr
  obtain ⟨n, hn⟩ : Steps P (lone (Frame.enter P f args .normal) [trap] (re w τ 0)) (lone fr [trap] w') := hs
  rw [enter_at args h1 h2] at hn
  exact ⟨n, fr, v, w', hn, hfn, hl, hr⟩

end Go.Proofs.YtakjhhkffiffdaaLift
