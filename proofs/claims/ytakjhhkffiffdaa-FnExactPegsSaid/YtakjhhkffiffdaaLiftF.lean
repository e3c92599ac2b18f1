/-
  LIFT (F): THE TRACE WHILE A CHILD (goroutine j) SENDS TO GOROUTINE 0: the child reads what nobody writes meanwhile; goroutine 0 writes what is its own.
-/
import Derived.Test.YtakjhhkffiffdaaLiftE
set_option linter.unusedVariables false
set_option linter.unusedSimpArgs false
namespace Go.Proofs.YtakjhhkffiffdaaLift
open Go.Conc

structure Ph (Mine : Loc → Prop) (j : Nat) (t : Trace) : Prop where
  clean : ∀ said, ¬ Race said t
  known : ∀ i a, touchAt t i = some a → a.loc.isMemory = true → Knows t 0 i ∨ (a.write = false ∧ ¬ Mine a.loc ∧ t.g? i = some j)
  wrote : ∀ i a, touchAt t i = some a → a.loc.isMemory = true → a.write = true → ¬ Mine a.loc → Knows t j i
  over : ∀ i g, t.g? i = some g → g ≠ 0 → g ≠ j → t.counts i → ∃ k, t.g? k = some 0 ∧ HappensBefore t i k
  hears : Deaf t 0 = 0
  hearsj : Deaf t j = 0

variable {Mine : Loc → Prop} {j : Nat} {t u : Trace}

theorem over_app (h : ∀ i g, t.g? i = some g → g ≠ 0 → g ≠ j → t.counts i → ∃ k, t.g? k = some 0 ∧ HappensBefore t i k) (hu : ∀ op ∈ u, op.g = 0 ∨ op.g = j ∨ op.act.touch? = none) :
    ∀ i g, (t ++ u).g? i = some g → g ≠ 0 → g ≠ j → (t ++ u).counts i → ∃ k, (t ++ u).g? k = some 0 ∧ HappensBefore (t ++ u) i k := by
  intro i g hg hne hnj hc
  obtain ⟨x, hx, _⟩ := hc
  obtain ⟨op, hop, hox⟩ := touch_of hx
  rcases getElem?_append_cases hop with ⟨hi, hop'⟩ | ⟨_, hopu⟩
  · obtain ⟨k, hk, hb⟩ := h i g (by simpa [Trace.g?, getElem?_append_old hi] using hg) hne hnj ((counts_old hi).1 ⟨x, hx, ‹_›⟩)
    have hkl : k < t.size := by
      unfold Trace.g? at hk
      obtain ⟨z, hz, _⟩ := Option.map_eq_some_iff.1 hk
      exact lt_size_of_getElem? hz
    exact ⟨k, by simpa [Trace.g?, getElem?_append_old hkl] using hk, hb_app u hb⟩
  · have hgo : op.g = g := by simpa [Trace.g?, hop] using hg
    rcases hu op hopu with h0 | h0 | h0
    · exact absurd (hgo.symm.trans h0) hne
    · exact absurd (hgo.symm.trans h0) hnj
    · rw [h0] at hox; cases hox

/-- Operations that touch nothing. -/
theorem Ph.appMute (h : Ph Mine j t) (hn : ∀ op ∈ u, op.act.touch? = none) (h0 : Deaf (t ++ u) 0 = Deaf t 0) (hj : Deaf (t ++ u) j = Deaf t j) : Ph Mine j (t ++ u) := by
  have old : ∀ i a, touchAt (t ++ u) i = some a → touchAt t i = some a ∧ i < t.size := by
    intro i a ha
    obtain ⟨x, hx, hxa⟩ := touch_of ha
    rcases getElem?_append_cases hx with ⟨hi, hx'⟩ | ⟨_, hxu⟩
    · exact ⟨by rw [touchAt_of hx']; exact hxa, hi⟩
    · rw [hn x hxu] at hxa; cases hxa
  refine ⟨fun said => noRace_appendMute (h.clean said) hn, fun i a ha hm => ?_, fun i a ha hm hw hM => ?_, over_app h.over fun op hop => .inr (.inr (hn op hop)), h0.trans h.hears, hj.trans h.hearsj⟩
  · obtain ⟨ha', hi⟩ := old i a ha
    exact (h.known i a ha' hm).imp (·.app u) fun ⟨x, y, z⟩ => ⟨x, y, by rw [g?_old hi]; exact z⟩
  · obtain ⟨ha', hi⟩ := old i a ha
    exact (h.wrote i a ha' hm hw hM).app u

theorem Ph.appQuiet (h : Ph Mine j t) (hn : ∀ op ∈ u, op.act.touch? = none) (hq : ∀ g, ∀ op ∈ u, ∀ d, deafStep g d op = d) : Ph Mine j (t ++ u) :=
  h.appMute hn (Deaf_quiet (hq 0)) (Deaf_quiet (hq j))

theorem calm_of_neutral {e : Event} (h : ∀ m, e.loc = .mark m → Neutral m) : Calm e :=
  ⟨fun hm => (h _ hm).ne_disable rfl, fun hm => (h _ hm).ne_enable rfl⟩

/-- Goroutine 0's own. -/
theorem Ph.own0 (h : Ph Mine j t) (hj : j ≠ 0) {fn : FuncId} {pos : String} {es : Array Event} (hes : ∀ e ∈ es, EvA Mine e) : Ph Mine j (t ++ MemOp.ofEvents 0 fn pos es) := by
  have h0 : ∀ op ∈ MemOp.ofEvents 0 fn pos es, op.g = 0 := fun op hop => by obtain ⟨e, _, rfl⟩ := Go.Conc.mem_ofEvents hop; rfl
  have hw : ∀ op ∈ MemOp.ofEvents 0 fn pos es, ∀ b, op.act.touch? = some b → b.write = true → Mine b.loc := fun op hop b hb hbw => by
    obtain ⟨e, he, rfl⟩ := Go.Conc.mem_ofEvents hop
    obtain ⟨h1, h2⟩ := ofEvent_touch (hes e he).1 hb
    rw [h1]; exact (hes e he).2 (h2 ▸ hbw)
  refine ⟨fun said => noRace_append (h.clean said) h0 fun i a ha op hop b hb hc => ?_, fun i a ha hm => ?_, fun i a ha hm hwr hM => ?_, over_app h.over fun op hop => .inl (h0 op hop), ?_, (Deaf_other t (fun e => hj e.symm) _ h0).trans h.hearsj⟩
  · rcases h.known i a ha hc.2.1 with hk | ⟨hr, hM, _⟩
    · exact hk
    · exfalso
      rcases hc.2.2.1 with x | x
      · rw [hr] at x; cases x
      · exact hM (hc.1 ▸ hw op hop b hb x)
  · obtain ⟨x, hx, hxa⟩ := touch_of ha
    rcases getElem?_append_cases hx with ⟨hi, hx'⟩ | ⟨_, hxu⟩
    · exact (h.known i a (by rw [touchAt_of hx']; exact hxa) hm).imp (·.app _) fun ⟨x, y, z⟩ => ⟨x, y, by rw [g?_old hi]; exact z⟩
    · have := knows_own hx
      rw [h0 x hxu] at this
      exact .inl this
  · obtain ⟨x, hx, hxa⟩ := touch_of ha
    rcases getElem?_append_cases hx with ⟨_, hx'⟩ | ⟨_, hxu⟩
    · exact (h.wrote i a (by rw [touchAt_of hx']; exact hxa) hm hwr hM).app _
    · exact absurd (hw x hxu a hxa hwr) hM
  · rw [Deaf_own, deafBehind_still fun e he => calm_of_neutral (hes e he).1]; exact h.hears

/-- The child's own: it reads what is not goroutine 0's. -/
theorem Ph.ownj (h : Ph Mine j t) (hj : j ≠ 0) {fn : FuncId} {pos : String} {es : Array Event} (hes : ∀ e ∈ es, EvB Mine e) : Ph Mine j (t ++ MemOp.ofEvents j fn pos es) := by
  have h0 : ∀ op ∈ MemOp.ofEvents j fn pos es, op.g = j := fun op hop => by obtain ⟨e, _, rfl⟩ := Go.Conc.mem_ofEvents hop; rfl
  have hw : ∀ op ∈ MemOp.ofEvents j fn pos es, ∀ b, op.act.touch? = some b → b.write = false ∧ ¬ Mine b.loc := fun op hop b hb => by
    obtain ⟨e, he, rfl⟩ := Go.Conc.mem_ofEvents hop
    obtain ⟨h1, h2⟩ := ofEvent_touch (hes e he).1 hb
    rw [h1, h2]; exact (hes e he).2
  refine ⟨fun said => noRace_append (h.clean said) h0 fun i a ha op hop b hb hc => ?_, fun i a ha hm => ?_, fun i a ha hm hwr hM => ?_, over_app h.over fun op hop => .inr (.inl (h0 op hop)), (Deaf_other t hj _ h0).trans h.hears, ?_⟩
  · obtain ⟨hb0, hbM⟩ := hw op hop b hb
    rcases hc.2.2.1 with x | x
    · exact h.wrote i a ha hc.2.1 x (hc.1 ▸ hbM)
    · rw [hb0] at x; cases x
  · obtain ⟨x, hx, hxa⟩ := touch_of ha
    rcases getElem?_append_cases hx with ⟨hi, hx'⟩ | ⟨_, hxu⟩
    · exact (h.known i a (by rw [touchAt_of hx']; exact hxa) hm).imp (·.app _) fun ⟨x, y, z⟩ => ⟨x, y, by rw [g?_old hi]; exact z⟩
    · exact .inr ⟨(hw x hxu a hxa).1, (hw x hxu a hxa).2, by rw [g?_of hx, h0 x hxu]⟩
  · obtain ⟨x, hx, hxa⟩ := touch_of ha
    rcases getElem?_append_cases hx with ⟨_, hx'⟩ | ⟨_, hxu⟩
    · exact (h.wrote i a (by rw [touchAt_of hx']; exact hxa) hm hwr hM).app _
    · rw [(hw x hxu a hxa).1] at hwr; cases hwr
  · rw [Deaf_own, deafBehind_still fun e he => calm_of_neutral (hes e he).1]; exact h.hearsj

/-- A leaver's. -/
theorem Ph.mute (h : Ph Mine j t) {g : Nat} (hg : g ≠ 0) (hgj : g ≠ j) {fn : FuncId} {pos : String} {es : Array Event} (hm : ∀ e ∈ es, e.mute = true) : Ph Mine j (t ++ MemOp.ofEvents g fn pos es) := by
  have h0 : ∀ op ∈ MemOp.ofEvents g fn pos es, op.g = g := fun op hop => by obtain ⟨e, _, rfl⟩ := Go.Conc.mem_ofEvents hop; rfl
  exact h.appMute (fun op hop => by obtain ⟨e, he, rfl⟩ := Go.Conc.mem_ofEvents hop; exact touch_mute (hm e he)) (Deaf_other t hg _ h0) (Deaf_other t hgj _ h0)

/-- The go statement. -/
theorem Pst.hire (h : Pst t) (hj : Deaf t j = 0) (Mine : Loc → Prop) (f0 : FuncId) (p0 : String) (f1 : FuncId) (p1 : String) :
    Ph Mine j (t ++ #[{ g := 0, fn := f0, pos := p0, act := .go j }, { g := j, fn := f1, pos := p1, act := .start }]) := by
  generalize hu : (#[{ g := 0, fn := f0, pos := p0, act := .go j }, { g := j, fn := f1, pos := p1, act := .start }] : Trace) = u
  have hn : ∀ op ∈ u, op.act.touch? = none := by
    intro op hop
    subst hu
    simp only [List.mem_toArray, List.mem_cons, List.not_mem_nil, or_false] at hop
    rcases hop with rfl | rfl <;> rfl
  have hq : ∀ g, ∀ op ∈ u, ∀ d, deafStep g d op = d := by
    intro g op hop d
    subst hu
    simp only [List.mem_toArray, List.mem_cons, List.not_mem_nil, or_false] at hop
    rcases hop with rfl | rfl <;> rfl
  have e0 : (t ++ u)[t.size]? = some { g := 0, fn := f0, pos := p0, act := .go j } := by subst hu; simp
  have e1 : (t ++ u)[t.size + 1]? = some { g := j, fn := f1, pos := p1, act := .start } := by subst hu; simp
  have edge : HappensBefore (t ++ u) t.size (t.size + 1) :=
    Relation.TransGen.single (.inr ⟨.spawn (act?_of e0) (act?_of e1) (g?_of e1), ⟨0, g?_of e0, by rw [deaf_old (Nat.le_refl _)]; exact h.hears⟩, ⟨j, g?_of e1, by rw [deaf_quiet (hq j) 1 (by subst hu; simp)]; exact hj⟩⟩)
  have old : ∀ i a, touchAt (t ++ u) i = some a → touchAt t i = some a := by
    intro i a ha
    obtain ⟨x, hx, hxa⟩ := touch_of ha
    rcases getElem?_append_cases hx with ⟨_, hx'⟩ | ⟨_, hxu⟩
    · rw [touchAt_of hx']; exact hxa
    · rw [hn x hxu] at hxa; cases hxa
  refine ⟨fun said => noRace_appendMute (h.clean said) hn, fun i a ha hm => .inl ((h.known i a (old i a ha) hm).app u), fun i a ha hm _ _ => ?_, over_app (fun i g hg hne _ hc => h.over i g hg hne hc) fun op hop => .inr (.inr (hn op hop)),
    (Deaf_quiet (hq 0)).trans h.hears, (Deaf_quiet (hq j)).trans hj⟩
  exact ⟨t.size + 1, _, e1, rfl, .inr (((h.known i a (old i a ha) hm).hb_new (Nat.le_refl _) e0 rfl).trans edge)⟩

/-- The child has closed the channel (operation m), and has touched nothing since. -/
structure Sh (Mine : Loc → Prop) (j c m : Nat) (t : Trace) : Prop where
  ph : Ph Mine j t
  act : t.act? m = some (.close c)
  g : t.g? m = some j
  heard : t.heard m
  last : ∀ i a, touchAt t i = some a → t.g? i = some j → i < m

theorem Ph.shut (h : Ph Mine j t) (hj : j ≠ 0) {c : Nat} {fn : FuncId} {pos : String} {es : Array Event} (hes : ∀ e ∈ es, EvB Mine e) :
    Sh Mine j c (t.size + es.size) (t ++ MemOp.ofEvents j fn pos (es.push ⟨.obj c, true, true⟩)) := by
  have h1 := h.ownj hj (fn := fn) (pos := pos) hes
  have e1 : t ++ MemOp.ofEvents j fn pos (es.push ⟨.obj c, true, true⟩) = (t ++ MemOp.ofEvents j fn pos es) ++ #[{ g := j, fn := fn, pos := pos, act := .close c }] := by
    rw [ofEvents_push, Array.push_eq_append, Array.append_assoc]
    rfl
  have hs : (t ++ MemOp.ofEvents j fn pos es).size = t.size + es.size := by simp [ofEvents_eq]
  have hm : ((t ++ MemOp.ofEvents j fn pos es) ++ #[{ g := j, fn := fn, pos := pos, act := .close c }])[t.size + es.size]? = some { g := j, fn := fn, pos := pos, act := .close c } := by
    rw [← hs]; simp
  have hn : ∀ op ∈ (#[{ g := j, fn := fn, pos := pos, act := .close c }] : Trace), op.act.touch? = none := by simp [MemAct.touch?]
  have hq : ∀ g, ∀ op ∈ (#[{ g := j, fn := fn, pos := pos, act := .close c }] : Trace), ∀ d, deafStep g d op = d := by simp [deafStep]
  rw [e1]
  refine ⟨h1.appQuiet hn hq, act?_of hm, g?_of hm, ⟨j, g?_of hm, ?_⟩, fun i a ha _ => ?_⟩
  · rw [deaf_old (by rw [hs]; exact Nat.le_refl _), ← hs]; exact h1.hearsj
  · obtain ⟨x, hx, hxa⟩ := touch_of ha
    rcases getElem?_append_cases hx with ⟨hi, _⟩ | ⟨_, hxu⟩
    · rw [← hs]; exact hi
    · rw [hn x hxu] at hxa; cases hxa

theorem Sh.app {c m : Nat} (h : Sh Mine j c m t) (hp : Ph Mine j (t ++ u)) (hu : ∀ op ∈ u, op.g = j → op.act.touch? = none) : Sh Mine j c m (t ++ u) := by
  have hm : m < t.size := lt_of_act? h.act
  refine ⟨hp, by rw [act?_old hm]; exact h.act, by rw [g?_old hm]; exact h.g, (heard_old hm).2 h.heard, fun i a ha hg => ?_⟩
  obtain ⟨x, hx, hxa⟩ := touch_of ha
  rcases getElem?_append_cases hx with ⟨hi, hx'⟩ | ⟨_, hxu⟩
  · exact h.last i a (by rw [touchAt_of hx']; exact hxa) (by rw [← g?_old (u := u) hi]; exact hg)
  · have : x.g = j := by simpa [Trace.g?, hx] using hg
    rw [hu x hxu this] at hxa; cases hxa

/-- Goroutine 0 finds it closed: it knows all. -/
theorem Sh.take {c m : Nat} (h : Sh Mine j c m t) (fn : FuncId) (pos : String) : Pst (t ++ #[{ g := 0, fn := fn, pos := pos, act := .recvClosed c }]) := by
  generalize hu : (#[{ g := 0, fn := fn, pos := pos, act := .recvClosed c }] : Trace) = u
  have hn : ∀ op ∈ u, op.act.touch? = none := by subst hu; simp [MemAct.touch?]
  have hq : ∀ g, ∀ op ∈ u, ∀ d, deafStep g d op = d := by subst hu; simp [deafStep]
  have e0 : (t ++ u)[t.size]? = some { g := 0, fn := fn, pos := pos, act := .recvClosed c } := by subst hu; simp
  have hm : m < t.size := lt_of_act? h.act
  have edge : HappensBefore (t ++ u) m t.size :=
    Relation.TransGen.single (.inr ⟨.closed (c := c) (by rw [act?_old hm]; exact h.act) (act?_of e0), (heard_old hm).2 h.heard, ⟨0, g?_of e0, by rw [deaf_old (Nat.le_refl _)]; exact h.ph.hears⟩⟩)
  have hp := h.ph.appQuiet hn hq
  have hs := h.app hp fun op hop _ => hn op hop
  have byj : ∀ i a, touchAt (t ++ u) i = some a → (t ++ u).g? i = some j → HappensBefore (t ++ u) i t.size := fun i a ha hg =>
    Relation.TransGen.trans (.single (.inl ⟨hs.last i a ha hg, j, hg, hs.g⟩)) edge
  refine ⟨hp.clean, fun i a ha hmm => ?_, fun i g hg hne hc => ?_, hp.hears⟩
  · rcases hp.known i a ha hmm with hk | ⟨_, _, hg⟩
    · exact hk
    · exact ⟨t.size, _, e0, rfl, .inr (byj i a ha hg)⟩
  · by_cases hgj : g = j
    · subst hgj
      obtain ⟨x, hx, _⟩ := hc
      exact ⟨t.size, g?_of e0, byj i x hx hg⟩
    · exact hp.over i g hg hne hgj hc

end Go.Proofs.YtakjhhkffiffdaaLift
