/- Maps that a call makes for itself, told by the set of their keys: plain lemmas for walks; nothing here speaks of the program. Conditions: none. -/
import Derived.RowKit
import Derived.WalkKit
import Derived.Maps.OwnSet
import Derived.DeepKeys4
import Derived.Test.YtdnfagcnojnmiaaWWords
namespace Go.Proofs.Ytdnfagcnojnmiaa.MapAid
open Go Go.RowKit Go.Maps Go.Proofs.YtdnfagcnojnmiaaW.PrintWords

/-- Block b of w is a map of at most n entries, of which Q tells what it reads as. -/
def MSet (P : Program) (k e : TypeId) (Q : DataW Unit → Prop) (w : World) (b n : Nat) : Prop := ∃ D : DataW Unit, w.ownsMap P k (plainElem P e) b n D ∧ Q D
/-- Its keys are just those of p. -/
def Keys (P : Program) (k : TypeId) (p : Value → Prop) (D : DataW Unit) : Prop := ∀ key kl, keyOf P k key = some kl → (Maps.has D kl = true ↔ p key)
/-- Of bools: true just at the keys of p. -/
def Trues (P : Program) (k : TypeId) (p : Value → Prop) (D : DataW Unit) : Prop := ∀ key kl, keyOf P k key = some kl → ∃ t, D.atKey kl (.lit (.bool false)) = .lit (.bool t) ∧ (t = true ↔ p key)

variable {P : Program} {k e : TypeId} {Q Q' : DataW Unit → Prop} {w w' : World} {b n : Nat}

theorem MSet.made (w : World) (h : Q (.map [])) : MSet P k e Q (w.alloc (.map #[] 0)) w.heap.size 0 := ⟨_, World.ownsMap_made _ _ _ _, h⟩
theorem MSet.mono (h : MSet P k e Q w b n) {m : Nat} (hm : n ≤ m) : MSet P k e Q w b m := by obtain ⟨D, h1, h2⟩ := h; exact ⟨D, h1.mono hm, h2⟩
theorem MSet.imp (h : MSet P k e Q w b n) (hq : ∀ D, Q D → Q' D) : MSet P k e Q' w b n := by obtain ⟨D, h1, h2⟩ := h; exact ⟨D, h1, hq D h2⟩
theorem MSet.grown {row : Option Nat} (h : MSet P k e Q w b n) (hg : w.grownBy w' row) (hne : some b ≠ row) : MSet P k e Q w' b n := by obtain ⟨D, h1, h2⟩ := h; exact ⟨D, h1.kept hg hne, h2⟩
theorem MSet.alloc (h : MSet P k e Q w b n) (o : Obj) : MSet P k e Q (w.alloc o) b n := by obtain ⟨D, h1, h2⟩ := h; exact ⟨D, h1.alloc o, h2⟩
theorem MSet.drewN (h : MSet P k e Q w b n) (m : Nat) : MSet P k e Q (w.drewN m) b n := h
theorem MSet.drew (h : MSet P k e Q w b n) : MSet P k e Q w.drew b n := h
theorem MSet.at_ (hq : w = w') (h : MSet P k e Q w b n) : MSet P k e Q w' b n := hq ▸ h
theorem MSet.block (h : MSet P k e Q w b n) : ∃ es clock, w.heap[b]? = some (.map es clock) := by obtain ⟨D, ⟨es, clock, hb, _⟩, _⟩ := h; exact ⟨es, clock, hb⟩
theorem MSet.lt (h : MSet P k e Q w b n) : b < w.heap.size := by obtain ⟨es, clock, hb⟩ := h.block; exact (Array.getElem?_eq_some_iff.1 hb).1
theorem MSet.same (h : MSet P k e Q w b n) (hs : w'.heap[b]? = w.heap[b]?) : MSet P k e Q w' b n := by
  obtain ⟨D, ⟨es, clock, hb, F, hn, hD⟩, h2⟩ := h
  exact ⟨D, ⟨es, clock, hs.trans hb, F, hn, hD⟩, h2⟩
theorem MSet.below {B : Nat} (h : MSet P k e Q w b n) (hb : Below B w w') (hB : b < B) : MSet P k e Q w' b n := h.same (hb.block b hB)
theorem MSet.below' (h : MSet P k e Q w b n) (hb : Below w.heap.size w w') : MSet P k e Q w' b n := h.below hb h.lt
theorem MSet.set (h : MSet P k e Q w b n) {a : Addr} (ha : b ≠ a.block) (u : Value) : MSet P k e Q (w.setCell a u) b n := h.same (Below.heap_setCell _ _ _ _ ha)
theorem MSet.ne_cells (h : MSet P k e Q w b n) {g : Nat} {cs : Array Value} {t : TypeId} {fr : Nat × Nat} (hg : w.heap[g]? = some (.cells cs t fr)) : b ≠ g := by
  intro e
  subst e
  obtain ⟨es, clock, hb⟩ := h.block
  rw [hb] at hg
  cases hg
theorem MSet.ne_row {α : Type} {d : Kd α} {q base : Nat} {ok : Nat → Prop} {v : Value} {xs : List α} (h : MSet P k e Q w b n) (hr : d.R q w base ok v xs) : some b ≠ v.ownBlock := by
  intro hv
  obtain ⟨_, _, _, _, _, hc⟩ := (Kd.R_bound hr).1 b hv.symm
  obtain ⟨cs, hc⟩ := hc
  exact h.ne_cells hc rfl
/-- What else the walk knows of, while the map is written. -/
theorem MSet.row {α : Type} {d : Kd α} {q base : Nat} {ok : Nat → Prop} {v : Value} {xs : List α} (h : MSet P k e Q w b n) (hg : w.grownBy w' (some b)) (hr : d.R q w base ok v xs) : d.R q w' base ok v xs := by
  refine Kd.R_mono (Kd.R_grown (Kd.R_bound hr) hg (fun j hj => ?_)) (fun j hj => hj.1)
  obtain ⟨_, _, _, _, _, cs, hc⟩ := hj
  intro e
  injection e with e
  exact h.ne_cells hc e.symm
theorem MSet.blk (h : MSet P k e Q w b n) (hg : w.grownBy w' (some b)) {g : Nat} {cs : Array Value} {t : TypeId} {fr : Nat × Nat} (hc : w.heap[g]? = some (.cells cs t fr)) : w'.heap[g]? = some (.cells cs t fr) :=
  (hg.block g (Array.getElem?_eq_some_iff.1 hc).1 (fun e => h.ne_cells hc (by injection e with e; exact e.symm))).trans hc
theorem MSet.belowOf {w0 : World} (hg : w.grownBy w' (some b)) (hB : Below w0.heap.size w0 w) (hb : w0.heap.size ≤ b) : Below w0.heap.size w0 w' := hB.grown hg hB.size (fun j hj => by injection hj with hj; omega)

theorem keys_nil (P : Program) (k : TypeId) : Keys P k (fun _ => False) (.map []) := fun key kl _ => by simp [Maps.has]
theorem trues_nil (P : Program) (k : TypeId) : Trues P k (fun _ => False) (.map []) := fun key kl _ => ⟨false, rfl, by simp⟩
theorem keys_put (K : Keyed P k) {p : Value → Prop} {D : DataW Unit} (hD : IsMap D) (h : Keys P k p D) {key : Value} {kl : Lit} (hk : keyOf P k key = some kl) (d : DataW Unit) : Keys P k (fun z => z = key ∨ p z) (D.put kl d) := by
  intro z zl hz
  by_cases e : zl = kl
  · subst e
    have := K.inj hz hk
    exact ⟨fun _ => .inl this, fun _ => has_put_same hD (K.key hk) d⟩
  · rw [has_put_other e, h z zl hz]
    refine ⟨.inr, fun hh => hh.resolve_left (fun e2 => e ?_)⟩
    subst e2
    rw [hk] at hz
    injection hz with hz
    exact hz.symm
theorem trues_put (K : Keyed P k) {p : Value → Prop} {D : DataW Unit} (hD : IsMap D) (h : Trues P k p D) {key : Value} {kl : Lit} (hk : keyOf P k key = some kl) : Trues P k (fun z => z = key ∨ p z) (D.put kl (.lit (.bool true))) := by
  intro z zl hz
  by_cases e : zl = kl
  · subst e
    have := K.inj hz hk
    exact ⟨true, atKey_put_same hD (K.key hk) _ _, fun _ => .inl this, fun _ => rfl⟩
  · obtain ⟨t, h1, h2⟩ := h z zl hz
    refine ⟨t, by rw [atKey_put_other e]; exact h1, fun ht => .inr (h2.1 ht), fun hh => h2.2 (hh.resolve_left (fun e2 => e ?_))⟩
    subst e2
    rw [hk] at hz
    injection hz with hz
    exact hz.symm

theorem plainElem_bool_inv {v : Value} {z : DataW Unit × List MemPlace} (he : P.underlying e = some .bool) (h : plainElem P e v = some z) : ∃ t, v = .bool t ∧ z = (.lit (.bool t), []) := by
  unfold plainElem at h
  rw [he] at h
  cases v <;> simp at h
  exact ⟨_, rfl, h.symm⟩

section
variable {ops : Array Oper} {rest : List Oper} {o : Oper} {a : Act} {q : Exit → Act → World → Prop} {p : Value → Prop}
/-- '_, ok := m[k]' on a map of numbers. -/
theorem wp_look (hg : o.guard = none) (m x : Operand) (t : TypeId) (hop : o.op = Op.lookup t m x true) (K : Keyed P k) (ht : P.underlying t = some (.map k e)) (he : P.underlying e = some (.int .i64)) (hz : (zeroValue e).run P w = .ok (.int .i64 0) w)
    (h : MSet P k e (Keys P k p) w b n) (hm : a.eval m = .map (some b)) (key : Value) (kl : Lit) (hx : a.eval x = key) (hk : keyOf P k key = some kl) (r : Bool) (hr : r = true ↔ p key)
    (hK : ∀ c : Int, wpList P ops q rest (a.put o.dst (.tuple #[.int .i64 c, .bool r])) w) : wpList P ops q (o :: rest) a w := by
  obtain ⟨D, h1, h2⟩ := h
  refine wpList_lookup_own_ok_int w hg m x t hop k e .i64 K ht he hz b n D hm h1 key kl hx hk (fun c _ _ => ?_)
  have e1 : Maps.has D kl = r := by rw [Bool.eq_iff_iff, h2 key kl hk, hr]
  rw [e1]
  exact hK c
/-- 'm[k]' on a map of bools. -/
theorem wp_ask (hg : o.guard = none) (m x : Operand) (t : TypeId) (hop : o.op = Op.lookup t m x false) (K : Keyed P k) (ht : P.underlying t = some (.map k e)) (he : P.underlying e = some .bool) (hz : (zeroValue e).run P w = .ok (.bool false) w)
    (h : MSet P k e (Trues P k p) w b n) (hm : a.eval m = .map (some b)) (key : Value) (kl : Lit) (hx : a.eval x = key) (hk : keyOf P k key = some kl) (r : Bool) (hr : r = true ↔ p key)
    (hK : wpList P ops q rest (a.put o.dst (.bool r)) w) : wpList P ops q (o :: rest) a w := by
  obtain ⟨D, h1, h2⟩ := h
  refine wpList_plain hg fun K' hK' => ?_
  obtain ⟨v, ps, hrun, hv⟩ := h1.lookup K ht hz (plainElem_bool he false) hk
  obtain ⟨t2, rfl, hz2⟩ := plainElem_bool_inv he hv
  obtain ⟨t3, h3, h4⟩ := h2 key kl hk
  have e1 : t2 = r := by
    have : DataW.atKey D kl (.lit (.bool false)) = .lit (.bool t2) := congrArg Prod.fst hz2
    rw [h3] at this
    have e2 : t3 = t2 := by injection this with this; injection this
    rw [← e2, Bool.eq_iff_iff, h4, hr]
  subst e1
  unfold Oper.wp
  simp [execOp, hop, hm, hx, hrun, Result.andThen]
  exact hK' _ _ hK
/-- .. inside a region that draws: the operation alone. -/
theorem run_ask (K : Keyed P k) {t : TypeId} (ht : P.underlying t = some (.map k e)) (he : P.underlying e = some .bool) (hz : (zeroValue e).run P w = .ok (.bool false) w)
    (h : MSet P k e (Trues P k p) w b n) (key : Value) (kl : Lit) (hk : keyOf P k key = some kl) (r : Bool) (hr : r = true ↔ p key) : (Instr.lookup t (.map (some b)) key false).run P w = .ok (.bool r) w := by
  obtain ⟨D, h1, h2⟩ := h
  obtain ⟨v, ps, hrun, hv⟩ := h1.lookup K ht hz (plainElem_bool he false) hk
  obtain ⟨t2, rfl, hz2⟩ := plainElem_bool_inv he hv
  obtain ⟨t3, h3, h4⟩ := h2 key kl hk
  have e1 : t2 = r := by
    have : DataW.atKey D kl (.lit (.bool false)) = .lit (.bool t2) := congrArg Prod.fst hz2
    rw [h3] at this
    have e2 : t3 = t2 := by injection this with this; injection this
    rw [← e2, Bool.eq_iff_iff, h4, hr]
  subst e1
  exact hrun
/-- 'm[k] = v' on a map of numbers. -/
theorem wp_put (hg : o.guard = none) (m x v : Operand) (t : TypeId) (hop : o.op = Op.mapUpdate t m x v) (K : Keyed P k) (ht : P.underlying t = some (.map k e)) (he : P.underlying e = some (.int .i64))
    (h : MSet P k e (Keys P k p) w b n) (hm : a.eval m = .map (some b)) (hn : n < maxLen) (key : Value) (kl : Lit) (c : Int) (hx : a.eval x = key) (hv : a.eval v = .int .i64 c) (hk : keyOf P k key = some kl) (hc : (Lit.int .i64 c).wf = true)
    (hK : ∀ w', MSet P k e (Keys P k (fun z => z = key ∨ p z)) w' b (n + 1) → w.grownBy w' (some b) → wpList P ops q rest (a.put o.dst undef) w') : wpList P ops q (o :: rest) a w := by
  obtain ⟨D, h1, h2⟩ := h
  refine wpList_mapUpdate_own w hg m x v t hop k e K ht (plainElem P e) b n D hm h1 hn key _ kl hx hv hk _ [] (plainElem_int he hc) (fun w' h3 h4 => ?_)
  exact hK w' ⟨_, h3, keys_put K h1.isMap h2 hk _⟩ h4
/-- 'm[k] = true'. -/
theorem wp_mark (hg : o.guard = none) (m x v : Operand) (t : TypeId) (hop : o.op = Op.mapUpdate t m x v) (K : Keyed P k) (ht : P.underlying t = some (.map k e)) (he : P.underlying e = some .bool)
    (h : MSet P k e (Trues P k p) w b n) (hm : a.eval m = .map (some b)) (hn : n < maxLen) (key : Value) (kl : Lit) (hx : a.eval x = key) (hv : a.eval v = .bool true) (hk : keyOf P k key = some kl)
    (hK : ∀ w', MSet P k e (Trues P k (fun z => z = key ∨ p z)) w' b (n + 1) → w.grownBy w' (some b) → wpList P ops q rest (a.put o.dst undef) w') : wpList P ops q (o :: rest) a w := by
  obtain ⟨D, h1, h2⟩ := h
  refine wpList_mapUpdate_own w hg m x v t hop k e K ht (plainElem P e) b n D hm h1 hn key _ kl hx hv hk _ [] (plainElem_bool he true) (fun w' h3 h4 => ?_)
  exact hK w' ⟨_, h3, trues_put K h1.isMap h2 hk⟩ h4
end
end Go.Proofs.Ytdnfagcnojnmiaa.MapAid
