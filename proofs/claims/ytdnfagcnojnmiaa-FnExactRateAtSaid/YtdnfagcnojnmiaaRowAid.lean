/- Readings of a law's arguments as lists and structures, kind by kind; nothing here speaks of the program. Conditions: none. -/
import Derived.Test.YtdnfagcnojnmiaaWWords
import Derived.Deep.Slices
import Derived.WideShapes
import Derived.ChangeArms
import Derived.DataReads
namespace Go.Proofs.Ytdnfagcnojnmiaa.RowAid
open Go Go.RowKit Go.ChangeShapes Go.WideShapes Go.Deep Go.Proofs.YtdnfagcnojnmiaaW.PrintWords

/-- What reads as data of type t is of kind d, and G holds of it. -/
def Opens {α : Type} (P : Program) (t : TypeId) (d : Kd α) (G : α → Prop) : Prop :=
  ∀ (H : Type) (enc : TypeId × Value → H) (w : World) (spare : Nat → Bool) (held : Bool) (fuel : Nat) (cs : List Value) (x : DataW H × List MemPlace),
    DataW.trod enc P w 0 spare held fuel t cs = some x → ∃ a : α, d.K w a cs ∧ G a

theorem Opens.int {P : Program} {t : TypeId} {k : IntKind} (ht : P.underlying t = some (.int k)) : Opens P t (Kd.int k) (fun n => (Lit.int k n).wf = true) := by
  intro H enc w spare held fuel cs x h
  obtain ⟨n, hc, _, hw⟩ := DataW.trod_int ht h
  exact ⟨n, hc, hw⟩

theorem Opens.bool {P : Program} {t : TypeId} (ht : P.underlying t = some .bool) : Opens P t Kd.bool (fun _ => True) := by
  intro H enc w spare held fuel cs x h
  obtain ⟨n, hc, _⟩ := DataW.trod_bool ht h
  exact ⟨n, hc, trivial⟩

theorem Opens.string {P : Program} {t : TypeId} (ht : P.underlying t = some .string) : Opens P t Kd.string (fun s => s.size ≤ maxLen) := by
  intro H enc w spare held fuel cs x h
  obtain ⟨n, hc, _, hs⟩ := DataW.trod_string ht h
  exact ⟨n, hc, hs⟩

theorem Opens.slice {α : Type} {P : Program} {t e : TypeId} {d : Kd α} {G : α → Prop} (ht : P.underlying t = some (.slice e)) (hs : P.cellsOf e = d.sz) (h : Opens P e d G) :
    Opens P t (Kd.slice e d) (fun l => l.length ≤ maxLen ∧ ∀ x ∈ l, G x) := by
  intro H enc w spare held fuel cs x hx
  rcases open_slice ht hx with ⟨rfl, _⟩ | ⟨a, len, cap, m, n, D, Pl, rfl, _, hl, hm, hmm, _, he⟩
  · exact ⟨[], ⟨none, 0, rfl, Nat.le_refl _, rfl, by simp, fun h => absurd h (by simp)⟩, by simp, by simp⟩
  · have hlm : len ≤ m := by rw [hmm]; split <;> omega
    rw [hs] at he
    have each : ∀ i, i < len → ∃ p : α, ∃ cs', w.cells? 0 (a.add (i * d.sz)) d.sz = some cs' ∧ d.K w p cs' ∧ G p := by
      intro i hi
      obtain ⟨cs', h1, h2⟩ := he i (by omega)
      obtain ⟨p, hp, hg⟩ := h H enc w spare held n cs' _ h2
      exact ⟨p, cs', h1, hp, hg⟩
    rcases Nat.eq_zero_or_pos len with h0 | h0
    · subst h0
      exact ⟨[], ⟨some a, cap, rfl, hl, rfl, by simp, fun h => absurd h (by simp)⟩, by simp, by simp⟩
    · obtain ⟨p0, _⟩ := each 0 h0
      haveI : Inhabited α := ⟨p0⟩
      obtain ⟨f, hf⟩ := choose_lt each
      have hcap : len ≤ 9223372036854775807 := by unfold maxLen at hm; omega
      refine ⟨(List.range len).map f, ⟨some a, cap, by simp, by simpa using hl, by simp, by simpa using hcap, fun _ => ⟨a, rfl, fun j p hj => ?_⟩⟩, by simp; omega, ?_⟩
      · have hjl : j < len := by
          have := (List.getElem?_eq_some_iff.1 hj).1
          simpa using this
        have hp : f j = p := by simpa [hjl] using hj
        subst hp
        obtain ⟨c, h1, h2, _⟩ := hf j hjl
        obtain ⟨_, h4, h5⟩ := World.cells?_some h1
        refine ⟨c, h4, h2, fun i u hu => ?_⟩
        have hil : i < d.sz := by have := (List.getElem?_eq_some_iff.1 hu).1; omega
        rw [← Go.Deep.add_add, h5 i hil, hu]
      · intro y hy
        obtain ⟨j, hj, rfl⟩ := List.mem_map.1 hy
        obtain ⟨_, _, _, h3⟩ := hf j (by simpa using hj)
        exact h3

theorem Opens.iso {α β : Type} {P : Program} {t : TypeId} {d : Kd α} {G : α → Prop} (f : β → α) (g : α → β) (hfg : ∀ a, f (g a) = a) (h : Opens P t d G) : Opens P t (Kd.iso d f) (fun b => G (f b)) := by
  intro H enc w spare held fuel cs x hx
  obtain ⟨a, ha, hg⟩ := h H enc w spare held fuel cs x hx
  exact ⟨g a, by show d.K w (f (g a)) cs; rw [hfg]; exact ha, by show G (f (g a)); rw [hfg]; exact hg⟩

theorem Opens.imp {α : Type} {P : Program} {t : TypeId} {d : Kd α} {G G' : α → Prop} (h : Opens P t d G) (hi : ∀ a, G a → G' a) : Opens P t d G' := by
  intro H enc w spare held fuel cs x hx
  obtain ⟨a, ha, hg⟩ := h H enc w spare held fuel cs x hx
  exact ⟨a, ha, hi _ hg⟩

/-- Types whose cells lie in line. -/
def Lined {H : Type} (enc : TypeId × Value → H) (P : Program) (w : World) (spare : Nat → Bool) (held : Bool) (n : Nat) : List TypeId → List Value → Prop
  | [], cs => cs = []
  | t :: ts, cs => ∃ c0 c1, cs = c0 ++ c1 ∧ (∃ y, DataW.trod enc P w 0 spare held n t c0 = some y) ∧ Lined enc P w spare held n ts c1
def OpensL {α : Type} (P : Program) (ts : List TypeId) (d : Kd α) (G : α → Prop) : Prop :=
  ∀ (H : Type) (enc : TypeId × Value → H) (w : World) (spare : Nat → Bool) (held : Bool) (n : Nat) (cs : List Value), Lined enc P w spare held n ts cs → ∃ a : α, d.K w a cs ∧ G a
theorem OpensL.one {α : Type} {P : Program} {t : TypeId} {d : Kd α} {G : α → Prop} (h : Opens P t d G) : OpensL P [t] d G := by
  intro H enc w spare held n cs hl
  obtain ⟨c0, c1, rfl, ⟨y, hy⟩, rfl⟩ := hl
  obtain ⟨a, ha, hg⟩ := h H enc w spare held n c0 y hy
  exact ⟨a, by rw [List.append_nil]; exact ha, hg⟩
theorem OpensL.cons {α β : Type} {P : Program} {t : TypeId} {ts : List TypeId} {d : Kd α} {d' : Kd β} {G : α → Prop} {G' : β → Prop} (h : Opens P t d G) (h' : OpensL P ts d' G') :
    OpensL P (t :: ts) (Kd.pair d d') (fun x => G x.1 ∧ G' x.2) := by
  intro H enc w spare held n cs hl
  obtain ⟨c0, c1, rfl, ⟨y, hy⟩, hr⟩ := hl
  obtain ⟨a, ha, hg⟩ := h H enc w spare held n c0 y hy
  obtain ⟨b, hb, hg'⟩ := h' H enc w spare held n c1 hr
  exact ⟨(a, b), ⟨c0, c1, rfl, ha, hb⟩, hg, hg'⟩
def inLine (P : Program) : List Field → Nat → Nat → Bool
  | [], o, e => o == e
  | f :: fs, o, e => f.offset == o && inLine P fs (o + P.cellsOf f.type) e
theorem lined_of {H : Type} {enc : TypeId × Value → H} {P : Program} {w : World} {spare : Nat → Bool} {held : Bool} {n : Nat} {cs : List Value} :
    ∀ (fl : List Field) (o : Nat), inLine P fl o cs.length = true → (∀ f ∈ fl, ∃ y, DataW.trod enc P w 0 spare held n f.type ((cs.drop f.offset).take (P.cellsOf f.type)) = some y) →
      Lined enc P w spare held n (fl.map (·.type)) (cs.drop o)
  | [], o, hi, _ => by
    simp only [inLine, beq_iff_eq] at hi
    show cs.drop o = []
    rw [hi, List.drop_length]
  | f :: fl, o, hi, ha => by
    simp only [inLine, Bool.and_eq_true, beq_iff_eq] at hi
    obtain ⟨rfl, hi⟩ := hi
    refine ⟨(cs.drop f.offset).take (P.cellsOf f.type), cs.drop (f.offset + P.cellsOf f.type), ?_, ha f (by simp), lined_of fl _ hi (fun g hg => ha g (by simp [hg]))⟩
    rw [← List.drop_drop, List.take_append_drop]
theorem Opens.struct {α : Type} {P : Program} {t : TypeId} {fs : Array Field} {d : Kd α} {G : α → Prop} (ht : P.underlying t = some (.struct fs)) (hi : inLine P fs.toList 0 (P.cellsOf t) = true)
    (h : OpensL P (fs.toList.map (·.type)) d G) : Opens P t d G := by
  intro H enc w spare held fuel cs x hx
  obtain ⟨xs, n, _, _, hl, hl2, he⟩ := DataW.trod_struct ht hx
  have := lined_of (enc := enc) (w := w) (spare := spare) (held := held) (n := n) (cs := cs) fs.toList 0 (by rw [hl]; exact hi) (fun f hf => by
    obtain ⟨i, hi, rfl⟩ := List.getElem_of_mem hf
    have hi' : i < fs.size := by simpa using hi
    have := he i (fs[i]) (by simp [hi'])
    rw [List.getElem?_eq_getElem (by omega)] at this
    exact ⟨_, by simpa using this⟩)
  rw [List.drop_zero] at this
  exact h H enc w spare held n cs this
end Go.Proofs.Ytdnfagcnojnmiaa.RowAid
