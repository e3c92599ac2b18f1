/-
  LIFT (A): PIECES OF MEANING THAT ARE TAME: what they do to the world, to the tape and to the list of accesses.
  'Tame P φ s': s lays no mark but 'noRoom', makes no block that waits, asks nothing of the outside; its leaves satisfy φ; it halts by a panic, stuck or unsupported alone.
  'Tame.runs': run it on another tape that answers alike: it does the same.
-/
import Derived.Conc.Beside
set_option linter.unusedVariables false
set_option linter.unusedSimpArgs false
namespace Go.Proofs.YtakjhhkffiffdaaLift
open Go.Conc

abbrev Tape' := Nat → Question → Nat

/-- A block that waits, put out of the way. -/
def away : Obj := .finalizers #[] none
def wash : Obj → Obj
  | .pending _ _ => away
  | o => o
/-- The same world over another tape; no block waits. -/
def re (w : World) (τ : Tape') (e : Nat) : World := { w with heap := w.heap.map wash, tape := τ, drawn := e }

/-- The run ends here. -/
def Dead : Halt → Prop
  | .stuck _ => True
  | .unsupported u => ∀ g, u ≠ .initOrder g
  | _ => False
def OkHalt : Halt → Prop
  | .panic _ => True
  | h => Dead h

def Tame (P : Program) {α : Type} (φ : α → Prop) : Sem α → Prop
  | .pure a => φ a
  | .load _ _ k => ∀ v, Tame P φ (k v)
  | .store _ _ _ k => Tame P φ k
  | .new o k => (∀ c t, o ≠ .pending c t) ∧ ∀ r, Tame P φ (k r)
  | .shape _ k => ∀ s, Tame P φ (k s)
  | .freeze _ _ k => Tame P φ k
  | .frozen _ k => ∀ b, Tame P φ (k b)
  | .getObj _ k => (∀ o, Tame P φ (k o)) ∧ ∀ c t, k (.pending c t) = k away
  | .setObj _ _ _ => False
  | .choose _ k => ∀ n, Tame P φ (k n)
  | .sys _ _ => False
  | .program k => Tame P φ (k P)
  | .mark m k => m = .noRoom ∧ Tame P φ k
  | .halt h => OkHalt h

variable {P : Program}

theorem Tame.bind' {α β : Type} {φ : α → Prop} {ψ : β → Prop} {s : Sem α} {f : α → Sem β} (hs : Tame P φ s) (hf : ∀ a, φ a → Tame P ψ (f a)) : Tame P ψ (s.bind f) := by
  induction s with
  | pure a => exact hf a hs
  | halt h => exact hs
  | load m a k ih => exact fun v => ih v (hs v)
  | shape r k ih => exact fun v => ih v (hs v)
  | frozen a k ih => exact fun v => ih v (hs v)
  | getObj r k ih => exact ⟨fun v => ih v (hs.1 v), fun c t => by dsimp only; rw [hs.2]⟩
  | choose r k ih => exact fun v => ih v (hs v)
  | program k ih => exact ih P hs
  | mark m k ih => exact ⟨hs.1, ih hs.2⟩
  | store m a v k ih => exact ih hs
  | new o k ih => exact ⟨hs.1, fun r => ih r (hs.2 r)⟩
  | freeze a n k ih => exact ih hs
  | setObj r o k _ => exact hs.elim
  | sys c k _ => exact hs.elim

theorem Tame.mono {α : Type} {φ ψ : α → Prop} {s : Sem α} (hs : Tame P φ s) (h : ∀ a, φ a → ψ a) : Tame P ψ s := by
  induction s with
  | pure a => exact h a hs
  | halt h => exact hs
  | load m a k ih => exact fun v => ih v (hs v)
  | shape r k ih => exact fun v => ih v (hs v)
  | frozen a k ih => exact fun v => ih v (hs v)
  | getObj r k ih => exact ⟨fun v => ih v (hs.1 v), hs.2⟩
  | choose r k ih => exact fun v => ih v (hs v)
  | program k ih => exact ih P hs
  | mark m k ih => exact ⟨hs.1, ih hs.2⟩
  | store m a v k ih => exact ih hs
  | new o k ih => exact ⟨hs.1, fun r => ih r (hs.2 r)⟩
  | freeze a n k ih => exact ih hs
  | setObj r o k _ => exact hs.elim
  | sys c k _ => exact hs.elim

theorem Tame.bind {α β : Type} {φ : α → Prop} {ψ : β → Prop} {s : Sem α} {f : α → Sem β} (hs : Tame P φ s) (hf : ∀ a, φ a → Tame P ψ (f a)) : Tame P ψ (s >>= f) := hs.bind' hf

/-! ### what is done to the world -/

theorem wash_wash (o : Obj) : wash (wash o) = wash o := by cases o <;> rfl
theorem get_re (w : World) (τ : Tape') (e b : Nat) : (re w τ e).heap[b]? = (w.heap[b]?).map wash := by simp [re]
theorem re_re (w : World) (τ τ' : Tape') (e e' : Nat) : re (re w τ e) τ' e' = re w τ' e' := by
  simp only [re, Array.map_map]
  congr 1
  apply Array.map_congr_left
  intro o _
  exact wash_wash o
theorem cell_re (w : World) (τ : Tape') (e : Nat) (a : Addr) : (re w τ e).cell? a = w.cell? a := by
  unfold World.cell?
  rw [get_re]
  cases h : w.heap[a.block]? with
  | none => rfl
  | some o => cases o <;> rfl
theorem shape_re (w : World) (τ : Tape') (e r : Nat) : (re w τ e).shape? r = w.shape? r := by
  unfold World.shape?
  rw [get_re]
  cases h : w.heap[r]? with
  | none => rfl
  | some o => cases o <;> rfl
theorem frozen_re (w : World) (τ : Tape') (e : Nat) (a : Addr) : (re w τ e).frozen? a = w.frozen? a := by
  unfold World.frozen?
  rw [get_re]
  cases h : w.heap[a.block]? with
  | none => rfl
  | some o => cases o <;> rfl
theorem modify_wash (h : Array Obj) (b : Nat) (f : Obj → Obj) (hf : ∀ o, f (wash o) = wash (f o)) : (h.map wash).modify b f = (h.modify b f).map wash := by
  apply Array.ext_getElem?
  intro i
  simp only [Array.getElem?_modify, Array.getElem?_map]
  split
  · cases h[i]? <;> simp [hf]
  · rfl
theorem set_re (w : World) (τ : Tape') (e : Nat) (a : Addr) (v : Value) : (re w τ e).setCell a v = re (w.setCell a v) τ e := by
  unfold World.setCell
  simp only [re]
  congr 1
  exact modify_wash _ _ _ fun o => by cases o <;> rfl
theorem freeze_re (w : World) (τ : Tape') (e : Nat) (a : Addr) (n : Nat) : (re w τ e).freeze a n = re (w.freeze a n) τ e := by
  unfold World.freeze
  split
  · rfl
  · simp only [re]
    congr 1
    exact modify_wash _ _ _ fun o => by cases o <;> rfl
theorem push_re (w : World) (τ : Tape') (e : Nat) (o : Obj) (ho : ∀ c t, o ≠ .pending c t) : { re w τ e with heap := (re w τ e).heap.push o } = re { w with heap := w.heap.push o } τ e := by
  simp only [re, Array.map_push]
  have : wash o = o := by cases o <;> first | rfl | exact absurd rfl (ho _ _)
  rw [this]
theorem put_re (w : World) (τ : Tape') (e b : Nat) (c : Array Value) (t : TypeId) (z : Nat × Nat) : { re w τ e with heap := (re w τ e).heap.setIfInBounds b (.cells c t z) } = re { w with heap := w.heap.setIfInBounds b (.cells c t z) } τ e := by
  simp only [re, Array.map_setIfInBounds]
  rfl
theorem seen_re (w : World) (τ : Tape') (e : Nat) (at_ : Addr) (u : TypeId) (k : Addr) (b : Bool) : (re w τ e).seen P at_ u k b = w.seen P at_ u k b := by
  unfold World.seen
  rw [get_re]
  cases h : w.heap[at_.block]? with
  | none => rfl
  | some o => cases o <;> rfl

/-- What a step may do to the world: the tape stands, draws are counted up; what waits goes on waiting, and nothing begins to. -/
structure Moved (w w' : World) : Prop where
  tape : w'.tape = w.tape
  drawn : w.drawn ≤ w'.drawn
  pend : ∀ (b : Nat) (c : Array Value) (t : TypeId), w'.heap[b]? = some (.pending c t) ↔ w.heap[b]? = some (.pending c t)

theorem Moved.refl (w : World) : Moved w w := ⟨rfl, Nat.le_refl _, fun _ _ _ => Iff.rfl⟩
theorem Moved.trans {a b c : World} (h : Moved a b) (k : Moved b c) : Moved a c := ⟨k.tape.trans h.tape, Nat.le_trans h.drawn k.drawn, fun x y z => (k.pend x y z).trans (h.pend x y z)⟩

theorem moved_modify (w : World) {b : Nat} {f : Obj → Obj} (hf : ∀ o c t, f o = .pending c t ↔ o = .pending c t) : Moved w { w with heap := w.heap.modify b f } := by
  refine ⟨rfl, Nat.le_refl _, fun i c t => ?_⟩
  simp only [Array.getElem?_modify]
  split
  · cases ho : w.heap[i]? with
    | none => simp
    | some o => simpa using hf o c t
  · exact Iff.rfl
theorem moved_setCell (w : World) (a : Addr) (v : Value) : Moved w (w.setCell a v) := moved_modify w fun o c t => by cases o <;> simp
theorem moved_freeze (w : World) (a : Addr) (n : Nat) : Moved w (w.freeze a n) := by
  unfold World.freeze
  split
  · exact .refl w
  · exact moved_modify w fun o c t => by cases o <;> simp
theorem moved_push (w : World) {o : Obj} (ho : ∀ c t, o ≠ .pending c t) : Moved w { w with heap := w.heap.push o } := by
  refine ⟨rfl, Nat.le_refl _, fun i c t => ?_⟩
  simp only [Array.getElem?_push]
  split
  · rename_i h
    rw [Array.getElem?_eq_none (by omega)]
    simp [ho]
  · exact Iff.rfl
theorem moved_put (w : World) {b : Nat} {o o' : Obj} (hb : w.heap[b]? = some o') (h' : ∀ c t, o' ≠ .pending c t) (ho : ∀ c t, o ≠ .pending c t) : Moved w { w with heap := w.heap.setIfInBounds b o } := by
  refine ⟨rfl, Nat.le_refl _, fun i c t => ?_⟩
  have hlt : b < w.heap.size := (Array.getElem?_eq_some_iff.1 hb).1
  by_cases hi : b = i
  · subst hi
    simp only [Array.getElem?_setIfInBounds_self_of_lt hlt]
    rw [hb]
    simp [ho, h']
  · simp only [Array.getElem?_setIfInBounds_ne hi]

theorem seen_cells {w : World} {at_ : Addr} {u : TypeId} {k : Addr} {b : Bool} {x : Array Value × TypeId × (Nat × Nat) × Nat × Value × List (Nat × Nat × List UInt8)} (hs : w.seen P at_ u k b = .ok x) : ∃ c t z, w.heap[at_.block]? = some (.cells c t z) := by
  unfold World.seen at hs
  cases h : w.heap[at_.block]? with
  | none =>
    rw [h] at hs
    simp only [bind, Except.bind, pure, Except.pure] at hs
    (repeat' split at hs) <;> cases hs
  | some o =>
    cases o
    case cells c t z => exact ⟨c, t, z, rfl⟩
    all_goals
      rw [h] at hs
      simp only [bind, Except.bind, pure, Except.pure] at hs
      (repeat' split at hs) <;> cases hs

theorem viewStore_ok {w w' : World} {at_ : Addr} {u : TypeId} {a : Addr} {v : Value} {b : Bool} {l : List Addr} (hr : w.viewStore P at_ u a v b = .ok (w', l)) :
    ∃ k c t z, w' = { w with heap := w.heap.setIfInBounds k (.cells c t z) } ∧ (∃ c t z, w.heap[k]? = some (.cells c t z)) ∧ ∀ (τ : Tape') (e : Nat), (re w τ e).viewStore P at_ u a v b = .ok (re w' τ e, l) := by
  unfold World.viewStore at hr ⊢
  simp only [seen_re]
  cases hs : w.seen P at_ u a b with
  | error x =>
    rw [hs] at hr
    simp only [bind, Except.bind] at hr
    split at hr <;> cases hr
  | ok x =>
    have hcells := seen_cells hs
    obtain ⟨c, t, z, first, like, cells⟩ := x
    rw [hs] at hr
    simp only [bind, Except.bind, pure, Except.pure] at hr ⊢
    by_cases ht : (!tight P P.depth u) = true
    · rw [if_pos ht] at hr; cases hr
    · rw [if_neg ht] at hr
      simp only [if_neg ht]
      cases hb : v.bytes? with
      | none => rw [hb] at hr; cases hr
      | some bytes =>
        rw [hb] at hr
        simp only at hr ⊢
        by_cases hl : some bytes.length ≠ Option.map (fun x => x.length) like.bytes?
        · rw [if_pos hl] at hr; cases hr
        · rw [if_neg hl] at hr
          simp only [if_neg hl]
          split at hr
          · cases hr
          · rename_i c' hc'
            cases hr
            refine ⟨_, _, _, _, rfl, hcells, fun τ e => ?_⟩
            rw [hc']
            simp only [put_re]

theorem viewStore_err {w : World} {at_ : Addr} {u : TypeId} {a : Addr} {v : Value} {b : Bool} {x : String} (hh : w.viewStore P at_ u a v b = .error x) (τ : Tape') (e : Nat) : (re w τ e).viewStore P at_ u a v b = .error x := by
  unfold World.viewStore at hh ⊢
  simp only [seen_re]
  by_cases ht : (!tight P P.depth u) = true
  · rw [if_pos ht] at hh ⊢; exact hh
  · rw [if_neg ht] at hh ⊢
    cases hs : w.seen P at_ u a b with
    | error y =>
      rw [hs] at hh
      exact hh
    | ok y =>
      obtain ⟨c, t, z, first, like, cells⟩ := y
      rw [hs] at hh
      simp only [bind, Except.bind, pure, Except.pure] at hh ⊢
      cases hb : v.bytes? with
      | none => rw [hb] at hh; exact hh
      | some bytes =>
        rw [hb] at hh
        simp only at hh ⊢
        by_cases hl : some bytes.length ≠ Option.map (fun x => x.length) like.bytes?
        · rw [if_pos hl] at hh ⊢; exact hh
        · rw [if_neg hl] at hh ⊢
          split at hh
          · rename_i y hy
            rw [hy]
            exact hh
          · cases hh

theorem noCell_dead (w : World) (τ : Tape') (e : Nat) (a : Addr) (s : String) : Dead ((re w τ e).noCell a s) := by
  unfold World.noCell
  split
  · rename_i c t hp
    rw [get_re] at hp
    cases h : w.heap[a.block]? with
    | none => rw [h] at hp; cases hp
    | some o => rw [h] at hp; cases o <;> cases hp
  · exact fun g => by simp
  · trivial

theorem viewLoad_re (w : World) (τ : Tape') (e : Nat) (at_ : Addr) (u : TypeId) (k : Addr) (b : Bool) : (re w τ e).viewLoad P at_ u k b = w.viewLoad P at_ u k b := by
  unfold World.viewLoad
  rw [seen_re]

theorem farLoad_ok {w : World} {a : Addr} {b : Bool} {x : Value × List Addr} (h : w.farLoad P a b = .ok x) (τ : Tape') (e : Nat) : (re w τ e).farLoad P a b = .ok x := by
  unfold World.farLoad at h ⊢
  rw [get_re]
  split at h
  · rename_i at_ u hv
    rw [hv]
    simp only [Option.map_some, wash, viewLoad_re]
    exact h
  · cases h
theorem farLoad_err {w : World} {a : Addr} {b : Bool} {h : Halt} (hh : w.farLoad P a b = .error h) (τ : Tape') (e : Nat) : ∃ h', (re w τ e).farLoad P a b = .error h' ∧ Dead h' := by
  unfold World.farLoad at hh ⊢
  split at hh
  · rename_i at_ u hv
    have hv' : (re w τ e).heap[a.block]? = some (.view at_ u) := by rw [get_re, hv]; rfl
    rw [hv']
    simp only [viewLoad_re]
    split at hh
    · cases hh
    · exact ⟨_, rfl, fun g => by simp⟩
  · rename_i hn
    have hn' : ∀ x y, (re w τ e).heap[a.block]? ≠ some (.view x y) := by
      intro x y hx
      rw [get_re] at hx
      cases ho : w.heap[a.block]? with
      | none => rw [ho] at hx; cases hx
      | some o =>
        rw [ho] at hx
        cases o
        case view p q => exact hn _ _ ho
        all_goals cases hx
    split
    · rename_i x y hx
      exact absurd hx (hn' x y)
    · exact ⟨_, rfl, noCell_dead w τ e a _⟩
theorem farStore_ok {w w' : World} {a : Addr} {v : Value} {b : Bool} {l : List Addr} (h : w.farStore P a v b = .ok (w', l)) :
    Moved w w' ∧ w'.drawn = w.drawn ∧ ∀ (τ : Tape') (e : Nat), (re w τ e).farStore P a v b = .ok (re w' τ e, l) := by
  unfold World.farStore at h ⊢
  split at h
  · rename_i at_ u hv
    split at h
    · rename_i r hr
      obtain rfl : r = (w', l) := by cases h; rfl
      obtain ⟨k, c, t, z, rfl, ⟨c', t', z', hk⟩, hre⟩ := viewStore_ok hr
      refine ⟨moved_put w hk (by simp) (by simp), rfl, fun τ e => ?_⟩
      have hv' : (re w τ e).heap[a.block]? = some (.view at_ u) := by rw [get_re, hv]; rfl
      rw [hv']
      simp only [hre]
    · cases h
  · cases h
theorem farStore_err {w : World} {a : Addr} {v : Value} {b : Bool} {h : Halt} (hh : w.farStore P a v b = .error h) (τ : Tape') (e : Nat) : ∃ h', (re w τ e).farStore P a v b = .error h' ∧ Dead h' := by
  unfold World.farStore at hh ⊢
  split at hh
  · rename_i at_ u hv
    have hv' : (re w τ e).heap[a.block]? = some (.view at_ u) := by rw [get_re, hv]; rfl
    rw [hv']
    split at hh
    · cases hh
    · rename_i why hw
      simp only [viewStore_err hw]
      exact ⟨_, rfl, fun g => by simp⟩
  · rename_i hn
    split
    · rename_i x y hx
      rw [get_re] at hx
      cases ho : w.heap[a.block]? with
      | none => rw [ho] at hx; cases hx
      | some o =>
        rw [ho] at hx
        cases o
        case view p q => exact absurd ho (hn _ _)
        all_goals cases hx
    · exact ⟨_, rfl, noCell_dead w τ e a _⟩

def wOf {α : Type} : Result α → World
  | .ok _ w => w
  | .halt _ w => w

/-- An entry that turns nobody's hearing. -/
def Calm (x : Event) : Prop := x.loc ≠ .mark .disable ∧ x.loc ≠ .mark .enable
def Adds (es es' : Array Event) : Prop := ∀ x ∈ es', x ∈ es ∨ Calm x
theorem Adds.refl (es : Array Event) : Adds es es := fun _ h => .inl h
theorem Adds.trans {a b c : Array Event} (h : Adds a b) (k : Adds b c) : Adds a c := fun x hx => (k x hx).elim (h x) .inr
theorem Adds.push {es : Array Event} {e : Event} (h : Calm e) : Adds es (es.push e) := fun x hx => by
  rcases Array.mem_push.1 hx with h' | rfl
  · exact .inl h'
  · exact .inr h

/-- The other tape answers as this one does, from one world to the other. -/
def Agree (w w' : World) (τ : Tape') (e : Nat) : Prop := ∀ j, j < w'.drawn - w.drawn → τ (e + j) = w.tape (w.drawn + j)

/-- What is said of the run of s in w: whichever way it goes, what the run over another tape that answers alike comes to. -/
def Same (P : Program) {α : Type} (φ : α → Prop) (s : Sem α) (w : World) (es : Array Event) (es' : Array Event) : Result α → Prop
  | .ok a w' => φ a ∧ ∀ τ e, Agree w w' τ e → s.runT P (re w τ e) es = (.ok a (re w' τ (e + (w'.drawn - w.drawn))), es')
  | .halt (.panic v) w' => ∀ τ e, Agree w w' τ e → s.runT P (re w τ e) es = (.halt (.panic v) (re w' τ (e + (w'.drawn - w.drawn))), es')
  | .halt _ w' => ∀ τ e, Agree w w' τ e → ∃ h x y, s.runT P (re w τ e) es = (.halt h x, y) ∧ Dead h

def Does (P : Program) {α : Type} (φ : α → Prop) (s : Sem α) (w : World) (es : Array Event) : Prop :=
  ∃ r es', s.runT P w es = (r, es') ∧ Moved w (wOf r) ∧ Adds es es' ∧ Same P φ s w es es' r

theorem Does.cont {α : Type} {φ : α → Prop} {s k : Sem α} {w w1 : World} {es es1 : Array Event} (h : Does P φ k w1 es1) (e1 : s.runT P w es = k.runT P w1 es1)
    (e2 : ∀ τ e, s.runT P (re w τ e) es = k.runT P (re w1 τ e) es1) (hm : Moved w w1) (hd : w1.drawn = w.drawn) (ha : Adds es es1) : Does P φ s w es := by
  obtain ⟨r, es', h1, h3, h4, h5⟩ := h
  refine ⟨r, es', e1.trans h1, hm.trans h3, ha.trans h4, ?_⟩
  have hag : ∀ {w' : World} {τ : Tape'} {e : Nat}, Agree w w' τ e → Agree w1 w' τ e := fun h j hj => by
    rw [hm.tape, hd]
    exact h j (by rw [← hd]; exact hj)
  match r, h5 with
  | .ok a w', h5 => exact ⟨h5.1, fun τ e h => by rw [e2, ← hd]; exact h5.2 τ e (hag h)⟩
  | .halt h w', h5 =>
    cases h with
    | panic v => exact fun τ e h => by rw [e2, ← hd]; exact h5 τ e (hag h)
    | _ => exact fun τ e h => by rw [e2]; exact h5 τ e (hag h)

theorem Does.halt {α : Type} {φ : α → Prop} {s : Sem α} {h : Halt} {w : World} {es : Array Event} (hp : ∀ v, h ≠ .panic v) (e1 : s.runT P w es = (.halt h w, es))
    (e2 : ∀ τ e, ∃ h' x y, s.runT P (re w τ e) es = (.halt h' x, y) ∧ Dead h') : Does P φ s w es := by
  refine ⟨.halt h w, es, e1, .refl w, .refl _, ?_⟩
  cases h with
  | panic v => exact absurd rfl (hp v)
  | _ => exact fun τ e _ => e2 τ e

theorem Dead.np {h : Halt} (hd : Dead h) : ∀ v, h ≠ .panic v := by
  intro v e; subst e; exact hd

theorem calm_cell (a : Addr) (wr s : Bool) : Calm ⟨.cell a, wr, s⟩ := ⟨by simp, by simp⟩
theorem calm_obj (a : Nat) (wr s : Bool) : Calm ⟨.obj a, wr, s⟩ := ⟨by simp, by simp⟩

theorem adds_cells {es : Array Event} (l : List Addr) (wr s : Bool) : Adds es (es ++ l.toArray.map (⟨.cell ·, wr, s⟩)) := by
  intro x hx
  rcases Array.mem_append.1 hx with h | h
  · exact .inl h
  · obtain ⟨a, _, rfl⟩ := Array.mem_map.1 h
    exact .inr (calm_cell a wr s)

theorem Tame.does {α : Type} {φ : α → Prop} {s : Sem α} (hs : Tame P φ s) : ∀ (w : World) (es : Array Event), Does P φ s w es := by
  induction s with
  | pure a => exact fun w es => ⟨.ok a w, es, rfl, .refl w, .refl _, hs, fun τ e _ => by simp [Sem.runT]⟩
  | halt h =>
    intro w es
    cases h with
    | panic v => exact ⟨.halt (.panic v) w, es, rfl, .refl w, .refl _, fun τ e _ => by simp [Sem.runT]⟩
    | _ => exact Does.halt (by intro v; simp) rfl fun τ e => ⟨_, _, _, rfl, hs⟩
  | load m a k ih =>
    intro w es
    cases hc : w.cell? a with
    | some v =>
      have hc' : ∀ τ e, (re w τ e).cell? a = some v := fun τ e => (cell_re w τ e a).trans hc
      exact Does.cont (ih v (hs v) w (es.push ⟨.cell a, false, m == .atomic⟩)) (by simp only [Sem.runT, hc]) (fun τ e => by simp only [Sem.runT, hc']) (.refl w) rfl (.push (calm_cell _ _ _))
    | none =>
      have hc' : ∀ τ e, (re w τ e).cell? a = none := fun τ e => (cell_re w τ e a).trans hc
      cases hf : w.farLoad P a (m == .atomic) with
      | ok x =>
        obtain ⟨v, l⟩ := x
        exact Does.cont (ih v (hs v) w (es ++ l.toArray.map (⟨.cell ·, false, m == .atomic⟩))) (by simp only [Sem.runT, hc, hf]) (fun τ e => by simp only [Sem.runT, hc', farLoad_ok hf]) (.refl w) rfl (adds_cells _ _ _)
      | error h =>
        have hnp : ∀ v, h ≠ .panic v := by
          intro v e
          subst e
          unfold World.farLoad World.noCell at hf
          (repeat' split at hf) <;> cases hf
        refine Does.halt hnp (by simp only [Sem.runT, hc, hf]) fun τ e => ?_
        obtain ⟨h', h1, h2⟩ := farLoad_err hf τ e
        exact ⟨h', re w τ e, es, by simp only [Sem.runT, hc', h1], h2⟩
  | store m a v k ih =>
    intro w es
    by_cases hagg : (∃ c, v = .agg c) ∨ ∃ c, v = .tuple c
    · refine Does.halt (h := .stuck "store: not the value of one cell") (by simp) ?_ fun τ e => ⟨.stuck "store: not the value of one cell", re w τ e, es, ?_, trivial⟩ <;> rcases hagg with ⟨c, rfl⟩ | ⟨c, rfl⟩ <;> rfl
    · have hst : ∀ w : World, (Sem.store m a v k).runT P w es = (match w.cell? a with
          | some _ =>
            if w.frozen? a then (.halt (.unsupported (.unsafePointer "a write to bytes that a string shares")) w, es)
            else k.runT P (w.setCell a v) (es.push ⟨.cell a, true, m == .atomic⟩)
          | none => match w.farStore P a v (m == .atomic) with
            | .ok (w, touched) => k.runT P w (es ++ touched.toArray.map (⟨.cell ·, true, m == .atomic⟩))
            | .error h => (.halt h w, es)) := by
        intro w
        cases v <;> first | rfl | exact absurd (.inl ⟨_, rfl⟩) hagg | exact absurd (.inr ⟨_, rfl⟩) hagg
      cases hc : w.cell? a with
      | some x =>
        have hc' : ∀ τ e, (re w τ e).cell? a = some x := fun τ e => (cell_re w τ e a).trans hc
        cases hz : w.frozen? a with
        | true =>
          have hz' : ∀ τ e, (re w τ e).frozen? a = true := fun τ e => (frozen_re w τ e a).trans hz
          exact Does.halt (h := .unsupported (.unsafePointer "a write to bytes that a string shares")) (by simp) (by rw [hst]; simp only [hc, hz, if_true]) (fun τ e => ⟨.unsupported (.unsafePointer "a write to bytes that a string shares"), re w τ e, es, by rw [hst]; simp only [hc', hz', if_true], fun g => by simp⟩)
        | false =>
          have hz' : ∀ τ e, (re w τ e).frozen? a = false := fun τ e => (frozen_re w τ e a).trans hz
          exact Does.cont (ih hs (w.setCell a v) (es.push ⟨.cell a, true, m == .atomic⟩)) (by rw [hst]; simp only [hc, hz, Bool.false_eq_true, if_false]) (fun τ e => by rw [hst]; simp only [hc', hz', Bool.false_eq_true, if_false, set_re]) (moved_setCell w a v) rfl (.push (calm_cell _ _ _))
      | none =>
        have hc' : ∀ τ e, (re w τ e).cell? a = none := fun τ e => (cell_re w τ e a).trans hc
        cases hf : w.farStore P a v (m == .atomic) with
        | ok x =>
          obtain ⟨w1, l⟩ := x
          obtain ⟨hm, hd, hf'⟩ := farStore_ok hf
          exact Does.cont (ih hs w1 (es ++ l.toArray.map (⟨.cell ·, true, m == .atomic⟩))) (by simp only [hst, hc, hf]) (fun τ e => by simp only [hst, hc', hf']) hm hd (adds_cells _ _ _)
        | error h =>
          have hnp : ∀ v, h ≠ .panic v := by
            intro v e
            subst e
            unfold World.farStore World.noCell at hf
            (repeat' split at hf) <;> cases hf
          refine Does.halt hnp (by simp only [hst, hc, hf]) fun τ e => ?_
          obtain ⟨h', h1, h2⟩ := farStore_err hf τ e
          exact ⟨h', re w τ e, es, by simp only [hst, hc', h1], h2⟩
  | new o k ih =>
    intro w es
    refine Does.cont (ih w.heap.size (hs.2 _) { w with heap := w.heap.push o } es) rfl (fun τ e => ?_) (moved_push w hs.1) rfl (.refl _)
    have e1 : (re w τ e).heap.size = w.heap.size := by simp [re]
    simp only [Sem.runT, e1]
    rw [← push_re w τ e o hs.1]
  | shape r k ih => exact fun w es => Does.cont (ih _ (hs _) w es) rfl (fun τ e => by simp only [Sem.runT, shape_re]) (.refl w) rfl (.refl _)
  | freeze a n k ih => exact fun w es => Does.cont (ih hs (w.freeze a n) es) rfl (fun τ e => by simp only [Sem.runT, freeze_re]) (moved_freeze w a n) (by unfold World.freeze; split <;> rfl) (.refl _)
  | frozen a k ih => exact fun w es => Does.cont (ih _ (hs _) w es) rfl (fun τ e => by simp only [Sem.runT, frozen_re]) (.refl w) rfl (.refl _)
  | getObj r k ih =>
    intro w es
    cases ho : w.heap[r]? with
    | none =>
      have ho' : ∀ τ e, (re w τ e).heap[r]? = none := fun τ e => by rw [get_re, ho]; rfl
      exact Does.halt (h := .stuck "getObj: no such block") (by simp) (by simp only [Sem.runT, ho]) (fun τ e => ⟨.stuck "getObj: no such block", re w τ e, es, by simp only [Sem.runT, ho'], trivial⟩)
    | some o =>
      have ho' : ∀ τ e, (re w τ e).heap[r]? = some (wash o) := fun τ e => by rw [get_re, ho]; rfl
      by_cases hcells : ∃ c t z, o = .cells c t z
      · obtain ⟨c, t, z, rfl⟩ := hcells
        exact Does.halt (h := .stuck "getObj: a row of cells") (by simp) (by simp only [Sem.runT, ho]) (fun τ e => ⟨.stuck "getObj: a row of cells", re w τ e, es, by simp only [Sem.runT, ho', wash], trivial⟩)
      · have hk : k (wash o) = k o := by
          cases o <;> first | rfl | exact (hs.2 _ _).symm
        have hst : ∀ (w : World) (o' : Obj), (∀ c t z, o' ≠ .cells c t z) → w.heap[r]? = some o' → (Sem.getObj r k).runT P w es = (k o').runT P w (es.push ⟨.obj r, false, o'.isChan⟩) := by
          intro w o' hn h
          simp only [Sem.runT, h]
        refine Does.cont (ih o (hs.1 o) w (es.push ⟨.obj r, false, o.isChan⟩)) (hst w o (fun c t z e => hcells ⟨c, t, z, e⟩) ho) (fun τ e => ?_) (.refl w) rfl (.push (calm_obj _ _ _))
        rw [hst (re w τ e) (wash o) (fun c t z e => ?_) (ho' τ e), hk]
        · have : (wash o).isChan = o.isChan := by cases o <;> rfl
          rw [this]
        · cases o <;> first | exact hcells ⟨_, _, _, rfl⟩ | cases e
  | setObj r o k _ => exact hs.elim
  | choose q k ih =>
    intro w es
    by_cases hq : q.forced = true
    · exact Does.cont (ih 0 (hs 0) w es) (by simp only [Sem.runT, if_pos hq]) (fun τ e => by simp only [Sem.runT, if_pos hq]) (.refl w) rfl (.refl _)
    · obtain ⟨r, es', h1, h3, h4, h5⟩ := ih (q.cut (w.tape w.drawn q)) (hs _) { w with drawn := w.drawn + 1 } es
      have h3d : w.drawn + 1 ≤ (wOf r).drawn := h3.drawn
      have key : ∀ {w' : World}, w.drawn + 1 ≤ w'.drawn → ∀ {τ : Tape'} {e : Nat}, Agree w w' τ e →
          (Sem.choose q k).runT P (re w τ e) es = (k (q.cut (w.tape w.drawn q))).runT P (re { w with drawn := w.drawn + 1 } τ (e + 1)) es ∧ Agree { w with drawn := w.drawn + 1 } w' τ (e + 1) ∧ e + 1 + (w'.drawn - (w.drawn + 1)) = e + (w'.drawn - w.drawn) := by
        intro w' hd τ e hag
        have h0 := hag 0 (by omega)
        simp only [Nat.add_zero] at h0
        have h0' : (re w τ e).tape (re w τ e).drawn q = w.tape w.drawn q := by
          show τ e q = _
          rw [h0]
        refine ⟨by simp only [Sem.runT, if_neg hq, h0']; rfl, fun j hj => ?_, by omega⟩
        have hj' : j < w'.drawn - (w.drawn + 1) := hj
        have := hag (1 + j) (by omega)
        show τ (e + 1 + j) = w.tape (w.drawn + 1 + j)
        rw [Nat.add_assoc e 1 j, Nat.add_assoc w.drawn 1 j]; exact this
      refine ⟨r, es', by simp only [Sem.runT, if_neg hq]; exact h1, ⟨h3.tape, by omega, h3.pend⟩, h4, ?_⟩
      match r, h3d, h5 with
      | .ok a w', h3d, h5 => exact ⟨h5.1, fun τ e h => by
          obtain ⟨k1, k2, k3⟩ := key h3d h
          rw [k1, h5.2 τ (e + 1) k2]
          have k3' : e + 1 + (w'.drawn - (w.drawn + 1)) = e + (w'.drawn - w.drawn) := k3
          simp only [k3']⟩
      | .halt h w', h3d, h5 =>
        cases h with
        | panic v =>
          intro τ e h
          obtain ⟨k1, k2, k3⟩ := key h3d h
          rw [k1, h5 τ (e + 1) k2]
          have k3' : e + 1 + (w'.drawn - (w.drawn + 1)) = e + (w'.drawn - w.drawn) := k3
          simp only [k3']
        | _ =>
          intro τ e h
          obtain ⟨k1, k2, _⟩ := key h3d h
          rw [k1]; exact h5 τ (e + 1) k2
  | sys c k _ => exact hs.elim
  | program k ih => exact fun w es => Does.cont (ih P hs w es) rfl (fun _ _ => rfl) (.refl w) rfl (.refl _)
  | mark m k ih =>
    intro w es
    obtain ⟨rfl, hk⟩ := hs
    exact Does.cont (ih hk w (es.push ⟨.mark .noRoom, false, true⟩)) rfl (fun _ _ => rfl) (.refl w) rfl (.push ⟨by simp, by simp⟩)

end Go.Proofs.YtakjhhkffiffdaaLift
