/- Lean forms and contracts of the functions that the law FnExactOccupy reaches, laid by a program; those of functions that it does not take are hand-made. No condition is added. -/
import Derived.Test.YthenbichjdmdkaaPFnExactOccupyx0
import Derived.Test.YthenbichjdmdkaaPFnExactOccupyx1
namespace Go.Proofs.Ythenbichjdmdkaa.PFnExactOccupy
open Go.RowKit Go.Proofs.YthenbichjdmdkaaW.PrintWords Go.Proofs.YthenbichjdmdkaaW.PrintLast Go.Proofs.YthenbichjdmdkaaW.PrintMore
attribute [local go_sem] max2_int min2_int max_two min_two max_three min_three max_four min_four   -- for this text's walks alone
set_option linter.unusedVariables false
set_option linter.unusedSimpArgs false

/-! ### impl_Occupy: function 8 -/
section
open Go.Shelf
attribute [local go_sem] Oper.semAt_some
/-- The open hours from h on, d hours long. -/
def impl_openHours.L (o s : Int) : Nat → Int → List Int
  | 0, _ => []
  | d + 1, h => if o ≤ h % 24 ∧ h % 24 < s then h :: impl_openHours.L o s d (h + 1) else impl_openHours.L o s d (h + 1)

def impl_openHours.Keeps (b : Nat) (W W' : World) : Prop := ∀ i : Nat, W'.cell? ⟨b, i, none⟩ = W.cell? ⟨b, i, none⟩

theorem impl_openHours.scope {F : Fence} {n : Nat} {P : Program} {a : Act} {w : World} {Q : Exit → Act → World → Prop} {x rest : Code} (l : Nat) (J : Act → World → Prop) (μ : Act → World → Nat) (hf : findLabel (x.seq ((Code.label l).seq rest)) l = some (Code.skip.seq rest))
    (first : x.wpIn Fence.wide n P (Exit.then J (Exit.jump l J Q)) a w)
    (pass : ∀ a w, J a w → rest.wpIn Fence.wide n P (Exit.jump l (fun a' w' => J a' w' ∧ μ a' w' < μ a w) Q) a w) : (Code.scope (x.seq ((Code.label l).seq rest))).wpIn Fence.wide n P Q a w := by
  refine wpIn_wide.2 (wp_scope_jumps l J μ hf (wp_seq (wp_mono (wpIn_wide.1 first) ?_)) (fun a w h => wp_seq (wp_skip (wpIn_wide.1 (pass a w h)))))
  intro e a1 w1 h
  cases e with
  | normal =>
    refine wp_seq (wp_label ?_)
    refine wp_mono (wpIn_wide.1 (pass a1 w1 h)) ?_
    intro e2 a2 w2 h2
    cases e2 with
    | goto l' => exact ⟨h2.1, h2.2.1⟩
    | normal => exact h2
    | exit id => exact h2
    | ret => exact h2
    | panic ch => exact h2
    | outgrown => exact h2
  | goto l' => exact h
  | exit id => exact h
  | ret => exact h
  | panic ch => exact h
  | outgrown => exact h

def impl_openHours.Rel (l bf bm : Nat) (o s : Int) (LL : List Int) (J : List Int → World → Prop) (a' : Act) (w' : World) : Prop := ∃ (h : Int) (pre : List Int) (u5 u6 u7 u8 u9 u10 u11 u12 u13 u14 u15 u16 u17 u18 u19 u20 u21 u22 u23 u24 u25 u26 u27 : Value), a' = { tmps := #[.func (.yield l) #[] #[], .pointer (some ⟨bf, 0, none⟩), .pointer (some ⟨bm, 0, none⟩), undef, .int .i64 h, u5, u6, u7, u8, u9, u10, u11, u12, u13, u14, u15, u16, u17, u18, u19, u20, u21, u22, u23, u24, u25, u26, u27], defers := [] } ∧ 0 ≤ h ∧ h ≤ 5001 ∧ LL = pre ++ impl_openHours.L o s (5001 - h).toNat h ∧ J pre w' ∧ w'.cell? ⟨bm, 0, none⟩ = some (.int .i64 o) ∧ w'.cell? ⟨bm, 1, none⟩ = some (.int .i64 s)
def impl_openHours.mu (a' : Act) : Nat := (5001 - intOf (a'.tmps.getD 4 undef)).toNat
theorem impl_openHours.L_stop (o s h : Int) (hh : 5000 < h) : impl_openHours.L o s (5001 - h).toNat h = [] := by
  have : (5001 - h).toNat = 0 := by omega
  rw [this]; rfl
theorem impl_openHours.L_yes (o s h : Int) (hh : h ≤ 5000) (h1 : o ≤ h % 24) (h2 : h % 24 < s) : impl_openHours.L o s (5001 - h).toNat h = h :: impl_openHours.L o s (5001 - (h + 1)).toNat (h + 1) := by
  have : (5001 - h).toNat = (5001 - (h + 1)).toNat + 1 := by omega
  rw [this, impl_openHours.L, if_pos ⟨h1, h2⟩]
theorem impl_openHours.L_no (o s h : Int) (hh : h ≤ 5000) (h1 : ¬ (o ≤ h % 24 ∧ h % 24 < s)) : impl_openHours.L o s (5001 - h).toNat h = impl_openHours.L o s (5001 - (h + 1)).toNat (h + 1) := by
  have : (5001 - h).toNat = (5001 - (h + 1)).toNat + 1 := by omega
  rw [this, impl_openHours.L, if_neg h1]

set_option maxRecDepth 100000 in
set_option maxHeartbeats 2000000 in
theorem impl_openHours.iter (n : Nat) (hn : 1 ≤ n) (bf bm : Nat) (o s u h0 : Int) (hh : 0 ≤ h0) (hh2 : h0 ≤ 5000) (w : World) (hbf : w.cell? ⟨bf, 0, none⟩ = some (.int .i64 h0)) (hm0 : w.cell? ⟨bm, 0, none⟩ = some (.int .i64 o)) (hm1 : w.cell? ⟨bm, 1, none⟩ = some (.int .i64 s))
    (hbl1 : bf < w.heap.size) (hbl2 : bm < w.heap.size) :
    SeqStopsK Fence.wide n Try.prog 32 #[.pointer (some ⟨bf, 0, none⟩), .pointer (some ⟨bm, 0, none⟩)] (fun x : Int => #[.int .i64 x]) (impl_openHours.Keeps bm) (fun xs => xs = impl_openHours.L o s (5001 - h0).toNat h0) (fun pre => pre <+: impl_openHours.L o s (5001 - h0).toNat h0) (impl_openHours.L o s (5001 - h0).toNat h0).length w := fun l J Jx W hW hJ hJx hY hJ0 => by
  obtain ⟨LL, hLL⟩ : ∃ LL, LL = impl_openHours.L o s (5001 - h0).toNat h0 := ⟨_, rfl⟩
  rw [← hLL] at hY ⊢
  have hcf : W.cell? ⟨bf, 0, none⟩ = some (.int .i64 h0) := (hW.cell (p := ⟨bf, 0, none⟩) hbl1).trans hbf
  have hc0 : W.cell? ⟨bm, 0, none⟩ = some (.int .i64 o) := (hW.cell (p := ⟨bm, 0, none⟩) hbl2).trans hm0
  have hc1 : W.cell? ⟨bm, 1, none⟩ = some (.int .i64 s) := (hW.cell (p := ⟨bm, 1, none⟩) hbl2).trans hm1
  clear hbf hm0 hm1
  refine callsIn_of_wp Try.func32 rfl trivial ?_ rfl
  simp only [Try.ntmps32, List.size_toArray, List.length_cons, List.length_nil, Nat.reduceAdd, Nat.reduceSub, Array.replicate_succ, Array.replicate_zero, List.push_toArray, List.append_toArray, List.nil_append, List.cons_append]
  have HLL := Lib.hid hLL
  clear hLL
  refine impl_openHours.scope (F := Fence.wide) 0 (impl_openHours.Rel l bf bm o s LL J) (fun a' _ => impl_openHours.mu a') rfl ?_ (fun a' w' hJ => ?_)
  · gi_wp2
    exact ⟨h0, [], _, _, _, _, _, _, _, _, _, _, _, _, _, _, _, _, _, _, _, _, _, _, _, rfl, hh, by omega, HLL.out, hJ0, hc0, hc1⟩
  · obtain ⟨h, pre, u5, u6, u7, u8, u9, u10, u11, u12, u13, u14, u15, u16, u17, u18, u19, u20, u21, u22, u23, u24, u25, u26, u27, rfl, hh1, hh3, hL0, hJ1, hd0, hd1⟩ := hJ
    have HL := Lib.hid hL0
    clear hL0 hcf hc0 hc1
    have hμ : ∀ a1 : Act, a1.tmps.getD 4 undef = .int .i64 (h + 1) → ∀ a0 : Act, a0.tmps.getD 4 undef = .int .i64 h → h ≤ 5000 → impl_openHours.mu a1 < impl_openHours.mu a0 := by
      intro a1 e1 a0 e0 hh
      unfold impl_openHours.mu
      rw [e1, e0]
      simp [intOf]
      omega
    have Hμ := Lib.hid hμ
    clear hμ
    by_cases hgt : 5000 < h
    · gi_wp2
      simp only [Exit.jump]
      refine bodyPost_ret (results_none rfl _ _ _) rfl ?_
      exact ⟨⟨_, rfl⟩, .inl (by have e := HL.out; rw [impl_openHours.L_stop o s h hgt, List.append_nil] at e; rw [e]; exact hJ1)⟩
    · by_cases h1 : o ≤ h % 24
      · by_cases h2 : h % 24 < s
        · obtain ⟨fn, tmps, assign, body, hy, hR⟩ := hY pre h w' hJ1 (by rw [HL.out, impl_openHours.L_yes o s h (by omega) h1 h2]; simp)
          gi_wp2
          refine hR.mono ?_
          rintro e W3 (⟨rfl, hJ3, hk3⟩ | ⟨rfl, hJx3⟩)
          · have HK := Lib.hid hk3
            clear hk3
            gi_wp2
            refine wpIn_goto ⟨rfl, ⟨h + 1, pre ++ [h], _, _, _, _, _, _, _, _, _, _, _, _, _, _, _, _, _, _, _, _, _, _, _, rfl, by omega, by omega, ?_, hJ3, (HK.out 0).trans hd0, (HK.out 1).trans hd1⟩, Hμ.out _ rfl _ rfl (by omega)⟩
            rw [HL.out, impl_openHours.L_yes o s h (by omega) h1 h2, List.append_assoc]
            rfl
          · gi_wp2
            simp only [Exit.jump]
            refine bodyPost_ret (results_none rfl _ _ _) rfl ?_
            refine ⟨⟨_, rfl⟩, .inr ⟨pre ++ [h], ?_, hJx3⟩⟩
            rw [HL.out, impl_openHours.L_yes o s h (by omega) h1 h2]
            exact ⟨impl_openHours.L o s (5001 - (h + 1)).toNat (h + 1), by simp⟩
        · gi_wp2
          refine ⟨fun _ h => (by cases h), ?_⟩
          gi_wp2
          refine wpIn_goto ⟨rfl, ⟨h + 1, pre, _, _, _, _, _, _, _, _, _, _, _, _, _, _, _, _, _, _, _, _, _, _, _, rfl, by omega, by omega, ?_, hJ1, hd0, hd1⟩, Hμ.out _ rfl _ rfl (by omega)⟩
          rw [HL.out, impl_openHours.L_no o s h (by omega) (by omega)]
      · gi_wp2
        refine ⟨fun _ h => (by cases h), ?_⟩
        gi_wp2
        refine wpIn_goto ⟨rfl, ⟨h + 1, pre, _, _, _, _, _, _, _, _, _, _, _, _, _, _, _, _, _, _, _, _, _, _, _, rfl, by omega, by omega, ?_, hJ1, hd0, hd1⟩, Hμ.out _ rfl _ rfl (by omega)⟩
        rw [HL.out, impl_openHours.L_no o s h (by omega) (by omega)]
theorem three (W : World) (a b c : Obj) : (((W.alloc a).alloc b).alloc c).drew.heap[W.heap.size]? = some a ∧ (((W.alloc a).alloc b).alloc c).drew.heap[W.heap.size + 1]? = some b ∧ (((W.alloc a).alloc b).alloc c).drew.heap[W.heap.size + 1 + 1]? = some c ∧ Below W.heap.size W (((W.alloc a).alloc b).alloc c).drew := by
  refine ⟨blk_drew (blk_alloc (blk_alloc (blk_new _ _) _) _), blk_drew (blk_alloc ?_ _), blk_drew ?_, below_drew1 (below_alloc (below_alloc (below_alloc (Below.refl _ _) _) _) _)⟩
  · have := blk_new (W.alloc a) b
    rwa [World.size_alloc] at this
  · have := blk_new ((W.alloc a).alloc b) c
    rwa [World.size_alloc, World.size_alloc] at this
theorem blk_own {W W' : World} {g : Nat} {cs : Array Value} {ty : TypeId} {m : Nat × Nat} {row : Option Nat} (h : W.heap[g]? = some (.cells cs ty m)) (hg : W.grownBy W' row) (hr : ∀ r, row = some r → ∃ o : Obj, W.heap[r]? = some o ∧ o.isCells = false) : W'.heap[g]? = some (.cells cs ty m) := by
  refine blk_grown h hg ?_
  intro e
  obtain ⟨o, ho, hc⟩ := hr g e.symm
  rw [h] at ho
  injection ho with ho
  subst ho
  cases hc
structure OccW (n0 g8 g9 g10 : Nat) (hours v6 v7 v8 v9 v10 : Int) (W : World) : Prop where
  c5 : W.heap[n0 + 1]? = some (.cells #[.int .i64 hours] 3 (0, 0))
  c6 : W.heap[n0 + 1 + 1]? = some (.cells #[.int .i64 v6] 3 (0, 0))
  c7 : W.heap[n0 + 1 + 1 + 1]? = some (.cells #[.int .i64 v7] 3 (0, 0))
  c8 : W.heap[g8]? = some (.cells #[.int .i64 v8] 3 (0, 0))
  c9 : W.heap[g9]? = some (.cells #[.int .i64 v9] 3 (0, 0))
  c10 : W.heap[g10]? = some (.cells #[.int .i64 v10] 3 (0, 0))
theorem OccW.own {n0 g8 g9 g10 : Nat} {hours v6 v7 v8 v9 v10 : Int} {W W' : World} {row : Option Nat} (h : OccW n0 g8 g9 g10 hours v6 v7 v8 v9 v10 W) (hg : W.grownBy W' row) (hr : ∀ r, row = some r → ∃ o : Obj, W.heap[r]? = some o ∧ o.isCells = false) : OccW n0 g8 g9 g10 hours v6 v7 v8 v9 v10 W' :=
  ⟨blk_own h.c5 hg hr, blk_own h.c6 hg hr, blk_own h.c7 hg hr, blk_own h.c8 hg hr, blk_own h.c9 hg hr, blk_own h.c10 hg hr⟩
def OccD (n0 g8 g9 g10 bm : Nat) : Prop := g8 ≠ g9 ∧ g8 ≠ g10 ∧ g9 ≠ g10 ∧ n0 + 5 ≤ g8 ∧ n0 + 5 ≤ g9 ∧ n0 + 5 ≤ g10 ∧ g8 < bm ∧ g9 < bm ∧ g10 < bm
section
variable {n0 g8 g9 g10 bm : Nat} {hours v6 v7 v8 v9 v10 : Int} {W : World}
theorem OccW.set6 (d : OccD n0 g8 g9 g10 bm) (h : OccW n0 g8 g9 g10 hours v6 v7 v8 v9 v10 W) (x : Int) : OccW n0 g8 g9 g10 hours x v7 v8 v9 v10 (W.setCell ⟨n0 + 1 + 1, 0, none⟩ (.int .i64 x)) := by
  obtain ⟨d1, d2, d3, d4, d5, d6, _⟩ := d
  exact ⟨blk_far h.c5 (show n0 + 1 ≠ n0 + 1 + 1 by omega) _, blk_put h.c6 0 _ rfl, blk_far h.c7 (show n0 + 1 + 1 + 1 ≠ n0 + 1 + 1 by omega) _, blk_far h.c8 (show g8 ≠ n0 + 1 + 1 by omega) _, blk_far h.c9 (show g9 ≠ n0 + 1 + 1 by omega) _, blk_far h.c10 (show g10 ≠ n0 + 1 + 1 by omega) _⟩
theorem OccW.set7 (d : OccD n0 g8 g9 g10 bm) (h : OccW n0 g8 g9 g10 hours v6 v7 v8 v9 v10 W) (x : Int) : OccW n0 g8 g9 g10 hours v6 x v8 v9 v10 (W.setCell ⟨n0 + 1 + 1 + 1, 0, none⟩ (.int .i64 x)) := by
  obtain ⟨d1, d2, d3, d4, d5, d6, _⟩ := d
  exact ⟨blk_far h.c5 (show n0 + 1 ≠ n0 + 1 + 1 + 1 by omega) _, blk_far h.c6 (show n0 + 1 + 1 ≠ n0 + 1 + 1 + 1 by omega) _, blk_put h.c7 0 _ rfl, blk_far h.c8 (show g8 ≠ n0 + 1 + 1 + 1 by omega) _, blk_far h.c9 (show g9 ≠ n0 + 1 + 1 + 1 by omega) _, blk_far h.c10 (show g10 ≠ n0 + 1 + 1 + 1 by omega) _⟩
theorem OccW.set8 (d : OccD n0 g8 g9 g10 bm) (h : OccW n0 g8 g9 g10 hours v6 v7 v8 v9 v10 W) (x : Int) : OccW n0 g8 g9 g10 hours v6 v7 x v9 v10 (W.setCell ⟨g8, 0, none⟩ (.int .i64 x)) := by
  obtain ⟨d1, d2, d3, d4, d5, d6, _⟩ := d
  exact ⟨blk_far h.c5 (show n0 + 1 ≠ g8 by omega) _, blk_far h.c6 (show n0 + 1 + 1 ≠ g8 by omega) _, blk_far h.c7 (show n0 + 1 + 1 + 1 ≠ g8 by omega) _, blk_put h.c8 0 _ rfl, blk_far h.c9 (show g9 ≠ g8 by omega) _, blk_far h.c10 (show g10 ≠ g8 by omega) _⟩
theorem OccW.set9 (d : OccD n0 g8 g9 g10 bm) (h : OccW n0 g8 g9 g10 hours v6 v7 v8 v9 v10 W) (x : Int) : OccW n0 g8 g9 g10 hours v6 v7 v8 x v10 (W.setCell ⟨g9, 0, none⟩ (.int .i64 x)) := by
  obtain ⟨d1, d2, d3, d4, d5, d6, _⟩ := d
  exact ⟨blk_far h.c5 (show n0 + 1 ≠ g9 by omega) _, blk_far h.c6 (show n0 + 1 + 1 ≠ g9 by omega) _, blk_far h.c7 (show n0 + 1 + 1 + 1 ≠ g9 by omega) _, blk_far h.c8 (show g8 ≠ g9 by omega) _, blk_put h.c9 0 _ rfl, blk_far h.c10 (show g10 ≠ g9 by omega) _⟩
theorem OccW.set10 (d : OccD n0 g8 g9 g10 bm) (h : OccW n0 g8 g9 g10 hours v6 v7 v8 v9 v10 W) (x : Int) : OccW n0 g8 g9 g10 hours v6 v7 v8 v9 x (W.setCell ⟨g10, 0, none⟩ (.int .i64 x)) := by
  obtain ⟨d1, d2, d3, d4, d5, d6, _⟩ := d
  exact ⟨blk_far h.c5 (show n0 + 1 ≠ g10 by omega) _, blk_far h.c6 (show n0 + 1 + 1 ≠ g10 by omega) _, blk_far h.c7 (show n0 + 1 + 1 + 1 ≠ g10 by omega) _, blk_far h.c8 (show g8 ≠ g10 by omega) _, blk_far h.c9 (show g9 ≠ g10 by omega) _, blk_put h.c10 0 _ rfl⟩
end
theorem OccW.drew {n0 g8 g9 g10 : Nat} {hours v6 v7 v8 v9 v10 : Int} {W : World} (h : OccW n0 g8 g9 g10 hours v6 v7 v8 v9 v10 W) : OccW n0 g8 g9 g10 hours v6 v7 v8 v9 v10 W.drew := ⟨blk_drew h.c5, blk_drew h.c6, blk_drew h.c7, blk_drew h.c8, blk_drew h.c9, blk_drew h.c10⟩
theorem Keeps_t {b : Nat} {A B C : World} (h : impl_openHours.Keeps b A B) (k : impl_openHours.Keeps b B C) : impl_openHours.Keeps b A C := fun i => (k i).trans (h i)
theorem Keeps_b {b : Nat} {w : World} (hb : b < w.heap.size) (W : World) (l : Nat) (o o' : Obj) (hl : w.heap.size ≤ l) (h : W.heap[l]? = some o) (_ : o.isCells = false) (_ : o.isWalk = false) : impl_openHours.Keeps b W (W.putObj l o') := fun i => by
  have : (W.putObj l o').heap[b]? = W.heap[b]? := World.putObj_heap_other (by omega)
  exact World.cell?_of_block this
theorem Keeps_set {b g : Nat} (W : World) (v : Value) (h : b ≠ g) : impl_openHours.Keeps b W (W.setCell ⟨g, 0, none⟩ v) := fun i => World.cell?_of_block (Below.heap_setCell W ⟨g, 0, none⟩ v b h)
structure OccSt where
  b : Int
  l : Int
  k : Nat
  r : Int
  s : Int
def OccSt.step (hours : Int) (st : OccSt) (x : Int) : OccSt :=
  if st.k ≠ 0 then st else
  if hours = 0 then { st with b := (if st.b < 0 then x else st.b), k := 1, r := x, s := x } else
  if wrap64 (st.l - 1) = 0 then { st with b := (if st.b < 0 then x else st.b), l := wrap64 (st.l - 1), k := 2, r := -1, s := wrap64 (x + 1) } else
  { st with b := (if st.b < 0 then x else st.b), l := wrap64 (st.l - 1) }
def OccSt.run (hours : Int) (xs : List Int) : OccSt := xs.foldl (OccSt.step hours) ⟨-1, hours, 0, -1, -1⟩

theorem OccSt.run_snoc (hours : Int) (pre : List Int) (x : Int) : OccSt.run hours (pre ++ [x]) = OccSt.step hours (OccSt.run hours pre) x := by simp [OccSt.run, List.foldl_append]
theorem OccSt.foldl_done (hours : Int) (st : OccSt) (h : st.k ≠ 0) (xs : List Int) : xs.foldl (OccSt.step hours) st = st := by
  induction xs with
  | nil => rfl
  | cons x xs ih => rw [List.foldl_cons, show OccSt.step hours st x = st by unfold OccSt.step; rw [if_pos h], ih]
theorem OccSt.run_pre {hours : Int} {pre L : List Int} (hp : pre <+: L) {st : OccSt} (he : OccSt.run hours pre = st) (h : st.k ≠ 0) : OccSt.run hours L = st := by
  obtain ⟨r, rfl⟩ := hp
  unfold OccSt.run at he ⊢
  rw [List.foldl_append, he]
  exact OccSt.foldl_done hours _ h r
theorem OccSt.step_ret {hours b l x : Int} (h : (hours == 0) = true) : OccSt.step hours ⟨b, l, 0, -1, -1⟩ x = ⟨if b < 0 then x else b, l, 1, x, x⟩ := by
  unfold OccSt.step; rw [if_neg (by simp), if_pos (by simpa using h)]
theorem OccSt.step_exit {hours b l x : Int} (h : (hours == 0) = false) (h2 : (wrap64 (l - 1) == 0) = true) : OccSt.step hours ⟨b, l, 0, -1, -1⟩ x = ⟨if b < 0 then x else b, wrap64 (l - 1), 2, -1, wrap64 (x + 1)⟩ := by
  unfold OccSt.step; rw [if_neg (by simp), if_neg (by simpa using h), if_pos (by simpa using h2)]
theorem OccSt.step_on {hours b l x : Int} (h : (hours == 0) = false) (h2 : (wrap64 (l - 1) == 0) = false) : OccSt.step hours ⟨b, l, 0, -1, -1⟩ x = ⟨if b < 0 then x else b, wrap64 (l - 1), 0, -1, -1⟩ := by
  unfold OccSt.step; rw [if_neg (by simp), if_neg (by simpa using h), if_neg (by simpa using h2)]

def impl_Occupy.f (a0_0 a0_1 a0_2 a1 a2 : Int) : Option (Int × Int) :=
  if (0 ≤ a0_0 ∧ a0_0 < a0_1 ∧ a0_1 ≤ 24) ∧ (0 ≤ a0_2 ∧ a0_2 ≤ 100) ∧ (0 ≤ a1 ∧ a1 ≤ 5000) ∧ (0 ≤ a2 ∧ a2 ≤ 1000) then
    (if (OccSt.run a2 (impl_openHours.L a0_0 a0_1 (5001 - a1).toNat a1)).k = 1 then some ((OccSt.run a2 (impl_openHours.L a0_0 a0_1 (5001 - a1).toNat a1)).r, (OccSt.run a2 (impl_openHours.L a0_0 a0_1 (5001 - a1).toNat a1)).s)
    else if (OccSt.run a2 (impl_openHours.L a0_0 a0_1 (5001 - a1).toNat a1)).s < 0 ∨ 5000 < (OccSt.run a2 (impl_openHours.L a0_0 a0_1 (5001 - a1).toNat a1)).s then some (-1, -1)
    else some ((OccSt.run a2 (impl_openHours.L a0_0 a0_1 (5001 - a1).toNat a1)).b, (OccSt.run a2 (impl_openHours.L a0_0 a0_1 (5001 - a1).toNat a1)).s))
  else some (-1, -1)

theorem occ_end {g8 g9 g10 D : Nat} {hours r1 r2 v8 v9 v10 : Int} {w W : World} {a : Act} (hO : OccW w.heap.size g8 g9 g10 hours r1 r2 v8 v9 v10 W) (hK : W.heap[D]? = some (.deferred (some []))) (hB : Below w.heap.size w W) (hD : w.heap.size ≤ D)
    (h6 : a.tmps.getD 6 undef = .pointer (some ⟨w.heap.size + 1 + 1, 0, none⟩)) (h7 : a.tmps.getD 7 undef = .pointer (some ⟨w.heap.size + 1 + 1 + 1, 0, none⟩)) (hd : a.defers = [{ target := Target.collected D, args := #[] }]) :
    bodyPostM Fence.wide 9 Try.prog Try.f8 (fun e w' => e = .returned (.tuple #[.int .i64 r1, .int .i64 r2]) ∧ Below w.heap.size w w') .ret a W := by
  obtain ⟨tmps, defers⟩ := a
  subst hd
  refine ⟨by simp, .inl ⟨_, _, rfl, run_takeDeferred hK, ?_⟩⟩
  have hO' := hO.own (grownBy_putObj' W D (.deferred none)) (fun r e => by cases e; exact ⟨_, hK, rfl⟩)
  have e6 : (W.putObj D (.deferred none)).cell? ⟨w.heap.size + 1 + 1, 0, none⟩ = some (.int .i64 r1) := blk_cell hO'.c6 0
  have e7 : (W.putObj D (.deferred none)).cell? ⟨w.heap.size + 1 + 1 + 1, 0, none⟩ = some (.int .i64 r2) := blk_cell hO'.c7 0
  refine ⟨.tuple #[.int .i64 r1, .int .i64 r2], ?_, rfl, hB.trans (belowK_b (w := w) (Nat.le_refl _) W D _ _ hD hK rfl rfl)⟩
  simp only [Array.getD_eq_getD_getElem?] at h6 h7
  simp [results, Try.f8, go_sem, e6, e7, h6, h7]
theorem occ_end0 (w : World) (o0 o1 o4 : Obj) (a : Act) (h6 : a.tmps.getD 6 undef = .pointer (some ⟨w.heap.size + 1 + 1, 0, none⟩)) (h7 : a.tmps.getD 7 undef = .pointer (some ⟨w.heap.size + 1 + 1 + 1, 0, none⟩)) (hd : a.defers = []) :
    bodyPostM Fence.wide 9 Try.prog Try.f8 (fun e w' => e = .returned (.tuple #[.int .i64 (-1), .int .i64 (-1)]) ∧ Below w.heap.size w w') .ret a (((((w.alloc o0).alloc o1).alloc (.cells #[.int .i64 (-1)] 3)).alloc (.cells #[.int .i64 (-1)] 3)).alloc o4) := by
  obtain ⟨tmps, defers⟩ := a
  subst hd
  have B2 := blk_new ((w.alloc o0).alloc o1) (.cells #[.int .i64 (-1)] 3 (0, 0))
  have B3 := blk_new (((w.alloc o0).alloc o1).alloc (.cells #[.int .i64 (-1)] 3 (0, 0))) (.cells #[.int .i64 (-1)] 3 (0, 0))
  rw [World.size_alloc, World.size_alloc] at B2
  rw [World.size_alloc, World.size_alloc, World.size_alloc] at B3
  have e6 : (((((w.alloc o0).alloc o1).alloc (.cells #[.int .i64 (-1)] 3)).alloc (.cells #[.int .i64 (-1)] 3)).alloc o4).cell? ⟨w.heap.size + 1 + 1, 0, none⟩ = some (.int .i64 (-1)) := blk_cell (blk_alloc (blk_alloc B2 _) _) 0
  have e7 : (((((w.alloc o0).alloc o1).alloc (.cells #[.int .i64 (-1)] 3)).alloc (.cells #[.int .i64 (-1)] 3)).alloc o4).cell? ⟨w.heap.size + 1 + 1 + 1, 0, none⟩ = some (.int .i64 (-1)) := blk_cell (blk_alloc B3 _) 0
  have hB : Below w.heap.size w (((((w.alloc o0).alloc o1).alloc (.cells #[.int .i64 (-1)] 3)).alloc (.cells #[.int .i64 (-1)] 3)).alloc o4) := below_alloc (below_alloc (below_alloc (below_alloc (below_alloc (Below.refl _ _) _) _) _) _) _
  generalize (((((w.alloc o0).alloc o1).alloc (.cells #[.int .i64 (-1)] 3)).alloc (.cells #[.int .i64 (-1)] 3)).alloc o4) = W at e6 e7 hB ⊢
  refine ⟨.tuple #[.int .i64 (-1), .int .i64 (-1)], ?_, rfl, hB⟩
  simp only [Array.getD_eq_getD_getElem?] at h6 h7
  simp [results, Try.f8, go_sem, e6, e7, h6, h7]
set_option maxHeartbeats 8000000 in
set_option maxRecDepth 1000000 in
theorem impl_Occupy.calls (a0_0 a0_1 a0_2 a1 a2 : Int) (r1 r2 : Int) (w : World) (h : impl_Occupy.f a0_0 a0_1 a0_2 a1 a2 = some (r1, r2)) :
    Calls Try.prog 8 #[.agg #[.int .i64 a0_0, .int .i64 a0_1, .int .i64 a0_2], .int .i64 a1, .int .i64 a2] w fun e w' => e = .returned (.tuple #[.int .i64 r1, .int .i64 r2]) ∧ Below w.heap.size w w' := by
  unfold impl_Occupy.f at h
  refine callsIn_wide.1 (show CallsIn Fence.wide 9 _ _ _ _ _ from callsIn_of_wp_marks Try.func8 rfl trivial ?_ rfl)
  refine wpIn_wide.2 ?_
  simp only [Try.ntmps8, List.size_toArray, List.length_cons, List.length_nil, Nat.reduceAdd, Nat.reduceSub, Array.replicate_succ, Array.replicate_zero, List.push_toArray, List.append_toArray, List.nil_append, List.cons_append]
  by_cases hall : (0 ≤ a0_0 ∧ a0_0 < a0_1 ∧ a0_1 ≤ 24) ∧ (0 ≤ a0_2 ∧ a0_2 ≤ 100) ∧ (0 ≤ a1 ∧ a1 ≤ 5000) ∧ (0 ≤ a2 ∧ a2 ≤ 1000)
  · rw [if_pos hall] at h
    have H := Lib.hid h
    clear h
    obtain ⟨⟨p1, p2, p3⟩, ⟨p4, p5⟩, ⟨p6, p7⟩, ⟨p8, p9⟩⟩ := hall
    go_wp2
    generalize hW0 : World.alloc _ _ = W0
    have hs0 : W0.heap.size = w.heap.size + 5 := by rw [← hW0]; simp
    have B0 : W0.heap[w.heap.size]? = some (.cells #[.int .i64 a0_0, .int .i64 a0_1, .int .i64 a0_2] 26 (0, 0)) := by rw [← hW0]; exact blk_alloc (blk_alloc (blk_alloc (blk_alloc (blk_new _ _) _) _) _) _
    have B1 : W0.heap[w.heap.size + 1]? = some (.cells #[.int .i64 a2] 3 (0, 0)) := by
      rw [← hW0]; refine blk_alloc (blk_alloc (blk_alloc ?_ _) _) _
      have := blk_new (w.alloc (.cells #[.int .i64 a0_0, .int .i64 a0_1, .int .i64 a0_2] 26)) (.cells #[.int .i64 a2] 3 (0, 0))
      rwa [World.size_alloc] at this
    have B2 : W0.heap[w.heap.size + 1 + 1]? = some (.cells #[.int .i64 0] 3 (0, 0)) := by
      rw [← hW0]; refine blk_alloc (blk_alloc ?_ _) _
      have := blk_new ((w.alloc (.cells #[.int .i64 a0_0, .int .i64 a0_1, .int .i64 a0_2] 26)).alloc (.cells #[.int .i64 a2] 3)) (.cells #[.int .i64 0] 3 (0, 0))
      rwa [World.size_alloc, World.size_alloc] at this
    have B3 : W0.heap[w.heap.size + 1 + 1 + 1]? = some (.cells #[.int .i64 0] 3 (0, 0)) := by
      rw [← hW0]; refine blk_alloc ?_ _
      have := blk_new (((w.alloc (.cells #[.int .i64 a0_0, .int .i64 a0_1, .int .i64 a0_2] 26)).alloc (.cells #[.int .i64 a2] 3)).alloc (.cells #[.int .i64 0] 3)) (.cells #[.int .i64 0] 3 (0, 0))
      rwa [World.size_alloc, World.size_alloc, World.size_alloc] at this
    have HB0 : Below w.heap.size w W0 := by rw [← hW0]; exact below_alloc (below_alloc (below_alloc (below_alloc (below_alloc (Below.refl _ _) _) _) _) _) _
    clear hW0
    simp only [Array.getD_eq_getD_getElem?, List.getElem?_toArray, List.getElem?_cons_succ, List.getElem?_cons_zero, Option.getD_some]
    have hc1 : W0.cell? ⟨w.heap.size + 1, 0, none⟩ = some (.int .i64 a2) := blk_cell B1 0
    have hB0' := Lib.hid B0
    have hB1' := Lib.hid B1
    have hB2' := Lib.hid B2
    have hB3' := Lib.hid B3
    have hS' := Lib.hid hs0
    clear B0 B1 B2 B3 hs0
    go_cut [8, 9, 10] from 12 (fun v8 v9 v10 wc => ∃ g8 g9 g10 : Nat, v8 = .pointer (some ⟨g8, 0, none⟩) ∧ v9 = .pointer (some ⟨g9, 0, none⟩) ∧ v10 = .pointer (some ⟨g10, 0, none⟩) ∧ Hid (g8 ≠ g9 ∧ g8 ≠ g10 ∧ g9 ≠ g10 ∧ W0.heap.size ≤ g8 ∧ W0.heap.size ≤ g9 ∧ W0.heap.size ≤ g10) ∧ Hid (wc.heap[g8]? = some (.cells #[.int .i64 (-1)] 3 (0, 0)) ∧ wc.heap[g9]? = some (.cells #[.int .i64 (-1)] 3 (0, 0)) ∧ wc.heap[g10]? = some (.cells #[.int .i64 a2] 3 (0, 0))) ∧ Hid (Below W0.heap.size W0 wc))
    case first =>
      have hlt : w.heap.size + 1 < W0.heap.size := by rw [hS'.out]; omega
      have hca : ∀ o : Obj, (W0.alloc o).cell? ⟨w.heap.size + 1, 0, none⟩ = some (.int .i64 a2) := fun o => (blk_cell (blk_alloc hB1'.out o) 0)
      have hcb : ∀ o o' : Obj, ((W0.alloc o).alloc o').cell? ⟨w.heap.size + 1, 0, none⟩ = some (.int .i64 a2) := fun o o' => (blk_cell (blk_alloc (blk_alloc hB1'.out o) o') 0)
      have hcc : ∀ o o' o'' : Obj, (((W0.alloc o).alloc o').alloc o'').cell? ⟨w.heap.size + 1, 0, none⟩ = some (.int .i64 a2) := fun o o' o'' => (blk_cell (blk_alloc (blk_alloc (blk_alloc hB1'.out o) o') o'') 0)
      go_region
      all_goals
        obtain ⟨x1, x2, x3, x4⟩ := three W0 _ _ _
        go_wp2
        go_meet
        case rel => exact ⟨_, _, _, rfl, rfl, rfl, ⟨by omega, by omega, by omega, by omega, by omega, by omega⟩, ⟨by first | exact x1 | exact x2 | exact x3, by first | exact x1 | exact x2 | exact x3, by first | exact x1 | exact x2 | exact x3⟩, x4⟩
    case rest =>
      obtain ⟨g8, g9, g10, rfl, rfl, rfl, G1, G2, G3⟩ := hcut
      have hs0' : W0.heap.size = w.heap.size + 5 := hS'.out
      have ng8_1 : ¬ g8 = w.heap.size + 1 := by have := G1.out; have := hs0'; omega
      have mg8_1 : ¬ w.heap.size + 1 = g8 := by have := G1.out; have := hs0'; omega
      have ng8_2 : ¬ g8 = w.heap.size + 1 + 1 := by have := G1.out; have := hs0'; omega
      have mg8_2 : ¬ w.heap.size + 1 + 1 = g8 := by have := G1.out; have := hs0'; omega
      have ng8_3 : ¬ g8 = w.heap.size + 1 + 1 + 1 := by have := G1.out; have := hs0'; omega
      have mg8_3 : ¬ w.heap.size + 1 + 1 + 1 = g8 := by have := G1.out; have := hs0'; omega
      have ng9_1 : ¬ g9 = w.heap.size + 1 := by have := G1.out; have := hs0'; omega
      have mg9_1 : ¬ w.heap.size + 1 = g9 := by have := G1.out; have := hs0'; omega
      have ng9_2 : ¬ g9 = w.heap.size + 1 + 1 := by have := G1.out; have := hs0'; omega
      have mg9_2 : ¬ w.heap.size + 1 + 1 = g9 := by have := G1.out; have := hs0'; omega
      have ng9_3 : ¬ g9 = w.heap.size + 1 + 1 + 1 := by have := G1.out; have := hs0'; omega
      have mg9_3 : ¬ w.heap.size + 1 + 1 + 1 = g9 := by have := G1.out; have := hs0'; omega
      have ng10_1 : ¬ g10 = w.heap.size + 1 := by have := G1.out; have := hs0'; omega
      have mg10_1 : ¬ w.heap.size + 1 = g10 := by have := G1.out; have := hs0'; omega
      have ng10_2 : ¬ g10 = w.heap.size + 1 + 1 := by have := G1.out; have := hs0'; omega
      have mg10_2 : ¬ w.heap.size + 1 + 1 = g10 := by have := G1.out; have := hs0'; omega
      have ng10_3 : ¬ g10 = w.heap.size + 1 + 1 + 1 := by have := G1.out; have := hs0'; omega
      have mg10_3 : ¬ w.heap.size + 1 + 1 + 1 = g10 := by have := G1.out; have := hs0'; omega
      have ng8_g9 : ¬ g8 = g9 := by have := G1.out; omega
      have mg8_g9 : ¬ g9 = g8 := by have := G1.out; omega
      have ng8_g10 : ¬ g8 = g10 := by have := G1.out; omega
      have mg8_g10 : ¬ g10 = g8 := by have := G1.out; omega
      have ng9_g10 : ¬ g9 = g10 := by have := G1.out; omega
      have mg9_g10 : ¬ g10 = g9 := by have := G1.out; omega
      clear hs0'
      have D0 := Lib.hid (blk_below hB0'.out G3.out)
      have D1 := Lib.hid (blk_below hB1'.out G3.out)
      have D2 := Lib.hid (blk_below hB2'.out G3.out)
      have D3 := Lib.hid (blk_below hB3'.out G3.out)
      have HB1 := Lib.hid (HB0.trans (G3.out.mono HB0.size))
      have hsz := Lib.hid G3.out.size
      clear hB0' hB1' hB2' hB3' G3 hc1
      have hm0 : wc.cell? ⟨w.heap.size, 0, none⟩ = some (.int .i64 a0_0) := blk_cell D0.out 0
      have hm1 : wc.cell? ⟨w.heap.size, 1, none⟩ = some (.int .i64 a0_1) := blk_cell D0.out 1
      have hm2 : wc.cell? ⟨w.heap.size, 2, none⟩ = some (.int .i64 a0_2) := blk_cell D0.out 2
      go_wp2
      simp only [Array.getD_eq_getD_getElem?, List.getElem?_toArray, List.getElem?_cons_succ, List.getElem?_cons_zero, Option.getD_some]
      clear hm0 hm1 hm2
      have hs1 := Lib.hid (show ((wc.alloc (.cells #[.int .i64 a0_0, .int .i64 a0_1, .int .i64 a0_2] 26)).alloc (.cells #[.int .i64 a1] 3)).heap.size = wc.heap.size + 2 by simp)
      have D5 : OccW w.heap.size g8 g9 g10 a2 0 0 (-1) (-1) a2 ((wc.alloc (.cells #[.int .i64 a0_0, .int .i64 a0_1, .int .i64 a0_2] 26)).alloc (.cells #[.int .i64 a1] 3)) := ⟨blk_alloc (blk_alloc D1.out _) _, blk_alloc (blk_alloc D2.out _) _, blk_alloc (blk_alloc D3.out _) _, blk_alloc (blk_alloc G2.out.1 _) _, blk_alloc (blk_alloc G2.out.2.1 _) _, blk_alloc (blk_alloc G2.out.2.2 _) _⟩
      have Dm := blk_alloc (blk_new wc (.cells #[.int .i64 a0_0, .int .i64 a0_1, .int .i64 a0_2] 26 (0, 0))) (.cells #[.int .i64 a1] 3 (0, 0))
      have Df := blk_new (wc.alloc (.cells #[.int .i64 a0_0, .int .i64 a0_1, .int .i64 a0_2] 26 (0, 0))) (.cells #[.int .i64 a1] 3 (0, 0))
      rw [World.size_alloc] at Df
      have HB2 := Lib.hid (below_alloc (below_alloc HB1.out (.cells #[.int .i64 a0_0, .int .i64 a0_1, .int .i64 a0_2] 26 (0, 0))) (.cells #[.int .i64 a1] 3 (0, 0)))
      generalize hW1 : World.alloc (World.alloc wc _) _ = W1 at hs1 D5 Dm Df HB2
      have HD : Hid (OccD w.heap.size g8 g9 g10 wc.heap.size) := by
        obtain ⟨q1, q2, q3, q4, q5, q6⟩ := G1.out
        have q7 := hS'.out
        exact ⟨q1, q2, q3, by omega, by omega, by omega, blk_lt G2.out.1, blk_lt G2.out.2.1, blk_lt G2.out.2.2⟩
      refine wpIn_wide.1 (show Code.wpIn Fence.wide 9 _ _ _ _ _ from ?_)
      refine wpIn_rangeFunc_ownF (F := Fence.wide) (n := 9) rfl (by omega) (gf := 32) (lb := #[.pointer (some ⟨wc.heap.size + 1, 0, none⟩), .pointer (some ⟨wc.heap.size, 0, none⟩)]) rfl trivial (enters_of Try.func32 (by kernel_rfl) rfl)
        (impl_openHours.iter 8 (by omega) (wc.heap.size + 1) wc.heap.size a0_0 a0_1 a0_2 a1 p6 p7 W1 (blk_cell Df 0) (blk_cell Dm 0) (blk_cell Dm 1) (blk_lt Df) (blk_lt Dm))
        Keeps_t (Keeps_b (blk_lt Dm)) (Below.refl _ _) (fun _ => rfl)
        (fun pre W => (∃ b l : Int, OccSt.run a2 pre = ⟨b, l, 0, -1, -1⟩ ∧ OccW w.heap.size g8 g9 g10 a2 0 0 b (-1) l W) ∧ Below w.heap.size w W)
        (fun c pre W => (∃ (b l : Int) (k : Nat) (r s : Int), OccSt.run a2 pre = ⟨b, l, k, r, s⟩ ∧ ((c = .ret ∧ k = 1 ∧ OccW w.heap.size g8 g9 g10 a2 r s b (-1) l W) ∨ (c = .exit 0 ∧ k = 2 ∧ OccW w.heap.size g8 g9 g10 a2 0 0 b s l W))) ∧ Below w.heap.size w W)
        (OwnFrom.and (Own.from (fun s A B row hs hg hr => by obtain ⟨b, l, h1, h2⟩ := hs; exact ⟨b, l, h1, h2.own hg hr⟩) _) (ownFrom_below (Nat.le_refl _) HB2.out.size))
        (fun c => OwnFrom.and (Own.from (fun s A B row hs hg hr => by
          obtain ⟨b, l, k, r, s, h1, h2⟩ := hs
          refine ⟨b, l, k, r, s, h1, ?_⟩
          rcases h2 with ⟨e1, e2, h3⟩ | ⟨e1, e2, h3⟩
          · exact .inl ⟨e1, e2, h3.own hg hr⟩
          · exact .inr ⟨e1, e2, h3.own hg hr⟩) _) (ownFrom_below (Nat.le_refl _) HB2.out.size))
        ⟨⟨-1, a2, rfl, D5⟩, HB2.out⟩
        (fun x => { tmps := #[.agg #[.int .i64 a0_0, .int .i64 a0_1, .int .i64 a0_2], .int .i64 a1, .int .i64 a2, .pointer (some ⟨w.heap.size, 0, none⟩), undef, .pointer (some ⟨w.heap.size + 1, 0, none⟩), .pointer (some ⟨w.heap.size + 1 + 1, 0, none⟩), .pointer (some ⟨w.heap.size + 1 + 1 + 1, 0, none⟩), .pointer (some ⟨g8, 0, none⟩), .pointer (some ⟨g9, 0, none⟩), .pointer (some ⟨g10, 0, none⟩), .int .i64 x, u12, u13, u14, u15, u16, u17, u18, u19, u20, u21, u22, u23, u24, u25, .agg #[.int .i64 a0_0, .int .i64 a0_1, .int .i64 a0_2], .int .i64 a1, .func (.func 32) #[] #[.pointer (some ⟨wc.heap.size + 1, 0, none⟩), .pointer (some ⟨wc.heap.size, 0, none⟩)], .int .i64 x, u30, u31, u32, u33, u34, u35, u36, u37, u38, u39, u40, u41, u42, u43, u44, u45, u46, u47, u48, u49, u50], defers := [] }) ?assign ?body ?done ?stop
      case assign =>
        intro l x W K hK
        gi_wp2
        exact hK
      case body =>
        rintro l pre x W ⟨⟨b, lf, hrun, hO⟩, hB⟩ _
        have HR := Lib.hid hrun
        clear hrun
        have e5 : W.cell? ⟨w.heap.size + 1, 0, none⟩ = some (.int .i64 a2) := blk_cell hO.c5 0
        have e6 : W.cell? ⟨w.heap.size + 1 + 1, 0, none⟩ = some (.int .i64 0) := blk_cell hO.c6 0
        have e7 : W.cell? ⟨w.heap.size + 1 + 1 + 1, 0, none⟩ = some (.int .i64 0) := blk_cell hO.c7 0
        have e8 : W.cell? ⟨g8, 0, none⟩ = some (.int .i64 b) := blk_cell hO.c8 0
        have e9 : W.cell? ⟨g9, 0, none⟩ = some (.int .i64 (-1)) := blk_cell hO.c9 0
        have e10 : W.cell? ⟨g10, 0, none⟩ = some (.int .i64 lf) := blk_cell hO.c10 0
        have f6 : W.frozen? ⟨w.heap.size + 1 + 1, 0, none⟩ = false := blk_frozen hO.c6 0
        have f7 : W.frozen? ⟨w.heap.size + 1 + 1 + 1, 0, none⟩ = false := blk_frozen hO.c7 0
        have f8 : W.frozen? ⟨g8, 0, none⟩ = false := blk_frozen hO.c8 0
        have f9 : W.frozen? ⟨g9, 0, none⟩ = false := blk_frozen hO.c9 0
        have f10 : W.frozen? ⟨g10, 0, none⟩ = false := blk_frozen hO.c10 0
        have HO := Lib.hid hO
        have HB9 := Lib.hid hB
        clear hO hB
        gi_wp2
        · have h0 : (a2 == 0) = true := by assumption
          have hb : b < 0 := by assumption
          refine ⟨((KeepsOthers.setCell _ _ _).trans (KeepsOthers.setCell _ _ _)).trans (KeepsOthers.setCell _ _ _), ⟨_, _, _, _, _, by rw [OccSt.run_snoc, HR.out, OccSt.step_ret h0, if_pos hb], .inl ⟨rfl, rfl, ((HO.out.set8 HD.out x).set6 HD.out x).set7 HD.out x⟩⟩, below_set (below_set (below_set (HB9.out) ?_) ?_) ?_⟩
          all_goals (obtain ⟨q1, q2, q3, q4, q5, q6, _⟩ := HD.out; omega)
        · have h0 : (a2 == 0) = false := by assumption
          have h1 : (wrap64 (lf - 1) == 0) = true := by assumption
          have hb : b < 0 := by assumption
          refine ⟨((KeepsOthers.setCell _ _ _).trans (KeepsOthers.setCell _ _ _)).trans (KeepsOthers.setCell _ _ _), ⟨_, _, _, _, _, by rw [OccSt.run_snoc, HR.out, OccSt.step_exit h0 h1, if_pos hb], .inr ⟨rfl, rfl, ((HO.out.set8 HD.out x).set10 HD.out (wrap64 (lf - 1))).set9 HD.out (wrap64 (x + 1))⟩⟩, below_set (below_set (below_set (HB9.out) ?_) ?_) ?_⟩
          all_goals (obtain ⟨q1, q2, q3, q4, q5, q6, _⟩ := HD.out; omega)
        · have h0 : (a2 == 0) = false := by assumption
          have h1 : (wrap64 (lf - 1) == 0) = false := by assumption
          have hb : b < 0 := by assumption
          refine ⟨(KeepsOthers.setCell _ _ _).trans (KeepsOthers.setCell _ _ _), Keeps_t (Keeps_set _ _ (show wc.heap.size ≠ g8 by have := HD.out.2.2.2.2.2.2.1; omega)) (Keeps_set _ _ (show wc.heap.size ≠ g10 by have := HD.out.2.2.2.2.2.2.2.2; omega)), ⟨_, _, by rw [OccSt.run_snoc, HR.out, OccSt.step_on h0 h1, if_pos hb], (HO.out.set8 HD.out x).set10 HD.out (wrap64 (lf - 1))⟩, below_set (below_set (HB9.out) ?_) ?_⟩
          all_goals (obtain ⟨q1, q2, q3, q4, q5, q6, _⟩ := HD.out; omega)
        · have h0 : (a2 == 0) = true := by assumption
          have hb : ¬ b < 0 := Int.not_lt.mpr (by assumption)
          refine ⟨(KeepsOthers.setCell _ _ _).trans (KeepsOthers.setCell _ _ _), ⟨_, _, _, _, _, by rw [OccSt.run_snoc, HR.out, OccSt.step_ret h0, if_neg hb], .inl ⟨rfl, rfl, ((HO.out).set6 HD.out x).set7 HD.out x⟩⟩, below_set (below_set (HB9.out) ?_) ?_⟩
          all_goals (obtain ⟨q1, q2, q3, q4, q5, q6, _⟩ := HD.out; omega)
        · have h0 : (a2 == 0) = false := by assumption
          have h1 : (wrap64 (lf - 1) == 0) = true := by assumption
          have hb : ¬ b < 0 := Int.not_lt.mpr (by assumption)
          refine ⟨(KeepsOthers.setCell _ _ _).trans (KeepsOthers.setCell _ _ _), ⟨_, _, _, _, _, by rw [OccSt.run_snoc, HR.out, OccSt.step_exit h0 h1, if_neg hb], .inr ⟨rfl, rfl, ((HO.out).set10 HD.out (wrap64 (lf - 1))).set9 HD.out (wrap64 (x + 1))⟩⟩, below_set (below_set (HB9.out) ?_) ?_⟩
          all_goals (obtain ⟨q1, q2, q3, q4, q5, q6, _⟩ := HD.out; omega)
        · have h0 : (a2 == 0) = false := by assumption
          have h1 : (wrap64 (lf - 1) == 0) = false := by assumption
          have hb : ¬ b < 0 := Int.not_lt.mpr (by assumption)
          refine ⟨KeepsOthers.setCell _ _ _, Keeps_set _ _ (show wc.heap.size ≠ g10 by have := HD.out.2.2.2.2.2.2.2.2; omega), ⟨_, _, by rw [OccSt.run_snoc, HR.out, OccSt.step_on h0 h1, if_neg hb], (HO.out).set10 HD.out (wrap64 (lf - 1))⟩, below_set (HB9.out) ?_⟩
          all_goals (obtain ⟨q1, q2, q3, q4, q5, q6, _⟩ := HD.out; omega)
      case done =>
        rintro D ys W hD rfl ⟨⟨b, l, hr, hO⟩, hB⟩ hK
        have h := H.out
        rw [hr] at h
        obtain ⟨rfl, rfl⟩ : -1 = r1 ∧ -1 = r2 := by simpa using h
        clear h H hr
        have e5 : W.cell? ⟨w.heap.size + 1, 0, none⟩ = some (.int .i64 a2) := blk_cell hO.c5 0
        have e6 : W.cell? ⟨w.heap.size + 1 + 1, 0, none⟩ = some (.int .i64 0) := blk_cell hO.c6 0
        have e7 : W.cell? ⟨w.heap.size + 1 + 1 + 1, 0, none⟩ = some (.int .i64 0) := blk_cell hO.c7 0
        have e8 : W.cell? ⟨g8, 0, none⟩ = some (.int .i64 b) := blk_cell hO.c8 0
        have e9 : W.cell? ⟨g9, 0, none⟩ = some (.int .i64 (-1)) := blk_cell hO.c9 0
        have e10 : W.cell? ⟨g10, 0, none⟩ = some (.int .i64 l) := blk_cell hO.c10 0
        have f6 : W.frozen? ⟨w.heap.size + 1 + 1, 0, none⟩ = false := blk_frozen hO.c6 0
        have f7 : W.frozen? ⟨w.heap.size + 1 + 1 + 1, 0, none⟩ = false := blk_frozen hO.c7 0
        have HO := Lib.hid hO
        have HB9 := Lib.hid hB
        clear hO hB
        have HK := Lib.hid hK
        clear hK
        go_wp2
        have hK2 := (((KeepsOthers.setCell W ⟨w.heap.size + 1 + 1, 0, none⟩ (.int .i64 (-1)))).trans (KeepsOthers.setCell _ ⟨w.heap.size + 1 + 1 + 1, 0, none⟩ (.int .i64 (-1)))).same D _ HK.out rfl
        exact occ_end ((HO.out.set6 HD.out (-1)).set7 HD.out (-1)) hK2 (below_set (below_set HB9.out (by omega)) (by omega)) (Nat.le_trans HB2.out.size hD) rfl rfl rfl
      case stop =>
        rintro D c pre W hD hpre ⟨⟨b, l, k, r, s, hr, ⟨rfl, rfl, hO⟩ | ⟨rfl, rfl, hO⟩⟩, hB⟩ hK
        · have h := H.out
          rw [OccSt.run_pre hpre hr (by simp)] at h
          obtain ⟨rfl, rfl⟩ : r = r1 ∧ s = r2 := by simpa using h
          clear h H hr
          have HO := Lib.hid hO
          have HB9 := Lib.hid hB
          have HK := Lib.hid hK
          clear hO hB hK
          gi_wp2
          exact occ_end HO.out HK.out HB9.out (Nat.le_trans HB2.out.size hD) rfl rfl rfl
        · have h := H.out
          rw [OccSt.run_pre hpre hr (by simp)] at h
          simp only [] at h
          rw [if_neg (by decide)] at h
          clear H hr
          have e5 : W.cell? ⟨w.heap.size + 1, 0, none⟩ = some (.int .i64 a2) := blk_cell hO.c5 0
          have e6 : W.cell? ⟨w.heap.size + 1 + 1, 0, none⟩ = some (.int .i64 0) := blk_cell hO.c6 0
          have e7 : W.cell? ⟨w.heap.size + 1 + 1 + 1, 0, none⟩ = some (.int .i64 0) := blk_cell hO.c7 0
          have e8 : W.cell? ⟨g8, 0, none⟩ = some (.int .i64 b) := blk_cell hO.c8 0
          have e9 : W.cell? ⟨g9, 0, none⟩ = some (.int .i64 s) := blk_cell hO.c9 0
          have e10 : W.cell? ⟨g10, 0, none⟩ = some (.int .i64 l) := blk_cell hO.c10 0
          have f6 : W.frozen? ⟨w.heap.size + 1 + 1, 0, none⟩ = false := blk_frozen hO.c6 0
          have f7 : W.frozen? ⟨w.heap.size + 1 + 1 + 1, 0, none⟩ = false := blk_frozen hO.c7 0
          have HO := Lib.hid hO
          have HB9 := Lib.hid hB
          clear hO hB
          have HK := Lib.hid hK
          clear hK
          by_cases hs1 : s < 0
          · rw [if_pos (.inl hs1)] at h
            obtain ⟨rfl, rfl⟩ : -1 = r1 ∧ -1 = r2 := by simpa using h
            clear h
            gi_wp2
            go_wp2
            have hK2 := (((KeepsOthers.setCell W ⟨w.heap.size + 1 + 1, 0, none⟩ (.int .i64 (-1)))).trans (KeepsOthers.setCell _ ⟨w.heap.size + 1 + 1 + 1, 0, none⟩ (.int .i64 (-1)))).same D _ HK.out rfl
            exact occ_end ((HO.out.set6 HD.out (-1)).set7 HD.out (-1)) hK2 (below_set (below_set HB9.out (by omega)) (by omega)) (Nat.le_trans HB2.out.size hD) rfl rfl rfl
          · by_cases hs2 : 5000 < s
            · rw [if_pos (.inr hs2)] at h
              obtain ⟨rfl, rfl⟩ : -1 = r1 ∧ -1 = r2 := by simpa using h
              clear h
              gi_wp2
              go_wp2
              have hK2 := (((KeepsOthers.setCell W ⟨w.heap.size + 1 + 1, 0, none⟩ (.int .i64 (-1)))).trans (KeepsOthers.setCell _ ⟨w.heap.size + 1 + 1 + 1, 0, none⟩ (.int .i64 (-1)))).same D _ HK.out rfl
              exact occ_end ((HO.out.set6 HD.out (-1)).set7 HD.out (-1)) hK2 (below_set (below_set HB9.out (by omega)) (by omega)) (Nat.le_trans HB2.out.size hD) rfl rfl rfl
            · rw [if_neg (by omega)] at h
              obtain ⟨rfl, rfl⟩ : b = r1 ∧ s = r2 := by simpa using h
              clear h
              gi_wp2
              go_wp2
              go_region
              all_goals
                go_wp2
                have hK2 := (((KeepsOthers.setCell W ⟨w.heap.size + 1 + 1, 0, none⟩ (.int .i64 b))).trans (KeepsOthers.setCell _ ⟨w.heap.size + 1 + 1 + 1, 0, none⟩ (.int .i64 s))).same D _ HK.out rfl
                exact occ_end ((HO.out.set6 HD.out b).set7 HD.out s).drew (blk_drew hK2) (below_drew1 (below_set (below_set HB9.out (by omega)) (by omega))) (Nat.le_trans HB2.out.size hD) rfl rfl rfl
  · rw [if_neg hall] at h
    obtain ⟨rfl, rfl⟩ : -1 = r1 ∧ -1 = r2 := by simpa using h
    clear h
    by_cases hz : a2 ≤ 1000
    all_goals
      go_wp2
      all_goals first | (exfalso; omega) | exact occ_end0 w _ _ _ _ rfl rfl rfl
end

/-! ### laws_FnExactOccupy: function 3 -/
def laws_FnExactOccupy.f (k : Nat) (a0_0 : Int) (a0_1 : Int) (a0_2 : Int) (a1 : Int) (a2 : Int) : Option (Bool) := (laws_toMachine.f a0_0 a0_1 a0_2).bind fun bt119 => ((spec_Occupy.f k bt119.1 bt119.2.1 bt119.2.2 a1 a2).bind fun bt122 => ((laws_toMachine.f a0_0 a0_1 a0_2).bind fun bt124 => ((impl_Occupy.f bt124.1 bt124.2.1 bt124.2.2 a1 a2).bind fun bt127 => (if bt127.1 = bt122.1 then (if bt127.2 = bt122.2 then (some true) else (some false)) else (some false)))))
theorem laws_FnExactOccupy.mono : ∀ a0 a1 a2 a3 a4 k, LeO (laws_FnExactOccupy.f k a0 a1 a2 a3 a4) (laws_FnExactOccupy.f (k + 1) a0 a1 a2 a3 a4) := by
  intro a0 a1 a2 a3 a4 k
  unfold laws_FnExactOccupy.f
  repeat' first
      | (with_reducible exact spec_Occupy.mono _ _ _ _ _ _)
      | (with_reducible exact LeO.refl _)
      | (with_reducible exact LeO.none _)
      | (with_reducible refine LeO.ite ?_ ?_)
      | (with_reducible refine LeO.bind ?_ (fun _ => ?_))
      | exact spec_Occupy.mono _ _ _ _ _ _
      | exact LeO.none _
      | refine LeO.ite ?_ ?_
      | refine LeO.bind ?_ (fun _ => ?_)
set_option maxHeartbeats 8000000 in
set_option maxRecDepth 100000 in
theorem laws_FnExactOccupy.calls (k : Nat) (a0_0 : Int) (a0_1 : Int) (a0_2 : Int) (a1 : Int) (a2 : Int) (r : Bool) (w : World) (h : laws_FnExactOccupy.f k a0_0 a0_1 a0_2 a1 a2 = some r) :
    Calls Try.prog 3 #[.agg #[.int .i64 a0_0, .int .i64 a0_1, .int .i64 a0_2], .int .i64 a1, .int .i64 a2] w fun e w' => e = .returned (.bool r) ∧ Below w.heap.size w w' := by
  have hu23 := Try.underlying23
  have HB := Aside0.mk (Below.refl w.heap.size w)
  have H : ((laws_toMachine.f a0_0 a0_1 a0_2).bind fun bt119 => ((spec_Occupy.f k bt119.1 bt119.2.1 bt119.2.2 a1 a2).bind fun bt122 => ((laws_toMachine.f a0_0 a0_1 a0_2).bind fun bt124 => ((impl_Occupy.f bt124.1 bt124.2.1 bt124.2.2 a1 a2).bind fun bt127 => (if bt127.1 = bt122.1 then (if bt127.2 = bt122.2 then (some true) else (some false)) else (some false)))))) = some r := h
  clear h
  replace H := Option.bind_eq_some_iff.mp H
  obtain ⟨⟨t119, t120, t121⟩, A40, H⟩ := H
  replace H : ((spec_Occupy.f k t119 t120 t121 a1 a2).bind fun bt122 => ((laws_toMachine.f a0_0 a0_1 a0_2).bind fun bt124 => ((impl_Occupy.f bt124.1 bt124.2.1 bt124.2.2 a1 a2).bind fun bt127 => (if bt127.1 = bt122.1 then (if bt127.2 = bt122.2 then (some true) else (some false)) else (some false))))) = some r := H
  have A4 := Aside0.mk A40
  clear A40
  replace H := Option.bind_eq_some_iff.mp H
  obtain ⟨⟨t122, t123⟩, A50, H⟩ := H
  replace H : ((laws_toMachine.f a0_0 a0_1 a0_2).bind fun bt124 => ((impl_Occupy.f bt124.1 bt124.2.1 bt124.2.2 a1 a2).bind fun bt127 => (if bt127.1 = t122 then (if bt127.2 = t123 then (some true) else (some false)) else (some false)))) = some r := H
  have A5 := Aside0.mk A50
  clear A50
  replace H := Option.bind_eq_some_iff.mp H
  obtain ⟨⟨t124, t125, t126⟩, A60, H⟩ := H
  replace H : ((impl_Occupy.f t124 t125 t126 a1 a2).bind fun bt127 => (if bt127.1 = t122 then (if bt127.2 = t123 then (some true) else (some false)) else (some false))) = some r := H
  have A6 := Aside0.mk A60
  clear A60
  replace H := Option.bind_eq_some_iff.mp H
  obtain ⟨⟨t127, t128⟩, A70, H⟩ := H
  replace H : (if t127 = t122 then (if t128 = t123 then (some true) else (some false)) else (some false)) = some r := H
  have A7 := Aside0.mk A70
  clear A70
  by_cases c8 : t127 = t122
  · rw [if_pos c8] at H
    have c8b0 : (t127 == t122) = true := beq_iff_eq.mpr c8
    have c8b1 : (t127 != t122) = false := bne_eq_false_iff_eq.mpr c8
    clear c8
    by_cases c9 : t128 = t123
    · rw [if_pos c9] at H
      have c9b0 : (t128 == t123) = true := beq_iff_eq.mpr c9
      have c9b1 : (t128 != t123) = false := bne_eq_false_iff_eq.mpr c9
      clear c9
      obtain rfl := Option.some.inj H
      go_enter Try.func3, Try.ntmps3
      go_wp2_with (first | ((with_reducible refine gate_dst (N := 3) rfl ?_); refine box_event ?hg (N := 3) ?hd (cs := #[.int .i64 a0_0, .int .i64 a0_1, .int .i64 a0_2]) (t := 23) ?hr ?_; (case hd => rfl); (case hg => rfl); (case hr => first | (go_simp; done) | (go_simp; rfl)); intro gb118 hg w10 hbox hb; have n0_ := Aside0.mk (below_step (by repeat (first | (with_reducible first | exact HB.out | apply below_alloc | apply pw_below_drewN | apply below_drew1) | exact HB.out)) hb); have n1_ := Aside0.mk (hbox); have n2_ := Aside0.mk ((by rw [hg]; exact (below_size (by repeat (first | (with_reducible first | exact HB.out | apply below_alloc | apply pw_below_drewN | apply below_drew1) | exact HB.out))) : w.heap.size ≤ gb118)); have n3_ := Aside0.mk ((by rw [hg]; exact (below_size (by repeat (first | (with_reducible first | exact HB.out | apply below_alloc | apply pw_below_drewN | apply below_drew1) | exact HB.out))) : w.heap.size ≤ gb118)); clear HB; have HB := n0_; have BK118 := n1_; have GW118 := n2_; have GE118 := n3_; clear n0_ n1_ n2_ n3_; clear hb hbox hg; have hcz11_0 : w10.cell? ⟨gb118, 0, none⟩ = some (.int .i64 a0_0) := (blk_cell BK118.out 0).trans rfl; have hcz11_1 : w10.cell? ⟨gb118, 1, none⟩ = some (.int .i64 a0_1) := (blk_cell BK118.out 1).trans rfl; have hcz11_2 : w10.cell? ⟨gb118, 2, none⟩ = some (.int .i64 a0_2) := (blk_cell BK118.out 2).trans rfl; have hfz11_0 := blk_frozen BK118.out 0; have hfz11_1 := blk_frozen BK118.out 1; have hfz11_2 := blk_frozen BK118.out 2) | ((with_reducible refine gate_callee (f := 7) rfl ?_); refine goesL_ (some 13) rfl rfl Try.func7 (by kernel_rfl) rfl #[.agg #[.int .i64 a0_0, .int .i64 a0_1, .int .i64 a0_2]] rfl (by (try simp only [List.map_toArray, List.map_cons, List.map_nil]); first | done | rfl | (simp only [List.length_drop, List.length_take]; rfl)) ?_; (with_reducible refine (laws_toMachine.calls a0_0 a0_1 a0_2 t119 t120 t121 _ A4.out).mono ?_); rintro e w12 ⟨rfl, hb⟩; refine ⟨_, rfl, ?_⟩; have n0_ := Aside0.mk (blk_below (g := gb118) (o := .cells #[.int .i64 a0_0, .int .i64 a0_1, .int .i64 a0_2] 23 (0, 0)) (by (with_reducible repeat (first | refine blk_drewN ?_ _ | refine blk_drew ?_ | refine blk_alloc ?_ _)); exact BK118.out) hb); have n1_ := Aside0.mk (below_step (by repeat (first | (with_reducible first | exact HB.out | apply below_alloc | apply pw_below_drewN | apply below_drew1 | refine below_set ?_ GE118.out) | exact HB.out)) hb); clear BK118; clear HB; have BK118 := n0_; have HB := n1_; clear n0_ n1_; (try clear hb); (try clear hb2); (try clear hk); (try clear hi)) | ((with_reducible refine gate_callee (f := 6) rfl ?_); refine goesL_ (some 16) rfl rfl Try.func6 (by kernel_rfl) rfl #[.agg #[.int .i64 t119, .int .i64 t120, .int .i64 t121], .int .i64 a1, .int .i64 a2] rfl (by (try simp only [List.map_toArray, List.map_cons, List.map_nil]); first | done | rfl | (simp only [List.length_drop, List.length_take]; rfl)) ?_; (with_reducible refine (spec_Occupy.calls k t119 t120 t121 a1 a2 t122 t123 _ A5.out).mono ?_); rintro e w13 ⟨rfl, hb⟩; refine ⟨_, rfl, ?_⟩; have n0_ := Aside0.mk (blk_below (g := gb118) (o := .cells #[.int .i64 a0_0, .int .i64 a0_1, .int .i64 a0_2] 23 (0, 0)) (by (with_reducible repeat (first | refine blk_drewN ?_ _ | refine blk_drew ?_ | refine blk_alloc ?_ _)); exact BK118.out) hb); have n1_ := Aside0.mk (below_step (by repeat (first | (with_reducible first | exact HB.out | apply below_alloc | apply pw_below_drewN | apply below_drew1 | refine below_set ?_ GE118.out) | exact HB.out)) hb); clear BK118; clear HB; have BK118 := n0_; have HB := n1_; clear n0_ n1_; (try clear hb); (try clear hb2); (try clear hk); (try clear hi); have hcz14_0 : w13.cell? ⟨gb118, 0, none⟩ = some (.int .i64 a0_0) := (blk_cell BK118.out 0).trans rfl; have hcz14_1 : w13.cell? ⟨gb118, 1, none⟩ = some (.int .i64 a0_1) := (blk_cell BK118.out 1).trans rfl; have hcz14_2 : w13.cell? ⟨gb118, 2, none⟩ = some (.int .i64 a0_2) := (blk_cell BK118.out 2).trans rfl; have hfz14_0 := blk_frozen BK118.out 0; have hfz14_1 := blk_frozen BK118.out 1; have hfz14_2 := blk_frozen BK118.out 2) | ((with_reducible refine gate_callee (f := 7) rfl ?_); refine goesL_ (some 21) rfl rfl Try.func7 (by kernel_rfl) rfl #[.agg #[.int .i64 a0_0, .int .i64 a0_1, .int .i64 a0_2]] rfl (by (try simp only [List.map_toArray, List.map_cons, List.map_nil]); first | done | rfl | (simp only [List.length_drop, List.length_take]; rfl)) ?_; (with_reducible refine (laws_toMachine.calls a0_0 a0_1 a0_2 t124 t125 t126 _ A6.out).mono ?_); rintro e w15 ⟨rfl, hb⟩; refine ⟨_, rfl, ?_⟩; have n0_ := Aside0.mk (blk_below (g := gb118) (o := .cells #[.int .i64 a0_0, .int .i64 a0_1, .int .i64 a0_2] 23 (0, 0)) (by (with_reducible repeat (first | refine blk_drewN ?_ _ | refine blk_drew ?_ | refine blk_alloc ?_ _)); exact BK118.out) hb); have n1_ := Aside0.mk (below_step (by repeat (first | (with_reducible first | exact HB.out | apply below_alloc | apply pw_below_drewN | apply below_drew1 | refine below_set ?_ GE118.out) | exact HB.out)) hb); clear BK118; clear HB; have BK118 := n0_; have HB := n1_; clear n0_ n1_; (try clear hb); (try clear hb2); (try clear hk); (try clear hi)) | ((with_reducible refine gate_callee (f := 8) rfl ?_); refine goesL_ (some 24) rfl rfl Try.func8 (by kernel_rfl) rfl #[.agg #[.int .i64 t124, .int .i64 t125, .int .i64 t126], .int .i64 a1, .int .i64 a2] rfl (by (try simp only [List.map_toArray, List.map_cons, List.map_nil]); first | done | rfl | (simp only [List.length_drop, List.length_take]; rfl)) ?_; (with_reducible refine (impl_Occupy.calls t124 t125 t126 a1 a2 t127 t128 _ A7.out).mono ?_); rintro e w16 ⟨rfl, hb⟩; refine ⟨_, rfl, ?_⟩; have n0_ := Aside0.mk (blk_below (g := gb118) (o := .cells #[.int .i64 a0_0, .int .i64 a0_1, .int .i64 a0_2] 23 (0, 0)) (by (with_reducible repeat (first | refine blk_drewN ?_ _ | refine blk_drew ?_ | refine blk_alloc ?_ _)); exact BK118.out) hb); have n1_ := Aside0.mk (below_step (by repeat (first | (with_reducible first | exact HB.out | apply below_alloc | apply pw_below_drewN | apply below_drew1 | refine below_set ?_ GE118.out) | exact HB.out)) hb); clear BK118; clear HB; have BK118 := n0_; have HB := n1_; clear n0_ n1_; (try clear hb); (try clear hb2); (try clear hk); (try clear hi)))
      go_ret
      exact ⟨by first | rfl | (simp [errW_none, errW_some] <;> rfl) | (simp [*, errW_none, errW_some] <;> rfl), by repeat (first | (with_reducible first | exact HB.out | apply below_alloc | apply pw_below_drewN | apply below_drew1 | refine below_set ?_ GE118.out) | exact HB.out)⟩
    · rw [if_neg c9] at H
      have c9b0 : (t128 == t123) = false := beq_eq_false_iff_ne.mpr c9
      have c9b1 : (t128 != t123) = true := bne_iff_ne.mpr c9
      obtain rfl := Option.some.inj H
      go_enter Try.func3, Try.ntmps3
      go_wp2_with (first | ((with_reducible refine gate_dst (N := 3) rfl ?_); refine box_event ?hg (N := 3) ?hd (cs := #[.int .i64 a0_0, .int .i64 a0_1, .int .i64 a0_2]) (t := 23) ?hr ?_; (case hd => rfl); (case hg => rfl); (case hr => first | (go_simp; done) | (go_simp; rfl)); intro gb118 hg w17 hbox hb; have n0_ := Aside0.mk (below_step (by repeat (first | (with_reducible first | exact HB.out | apply below_alloc | apply pw_below_drewN | apply below_drew1) | exact HB.out)) hb); have n1_ := Aside0.mk (hbox); have n2_ := Aside0.mk ((by rw [hg]; exact (below_size (by repeat (first | (with_reducible first | exact HB.out | apply below_alloc | apply pw_below_drewN | apply below_drew1) | exact HB.out))) : w.heap.size ≤ gb118)); have n3_ := Aside0.mk ((by rw [hg]; exact (below_size (by repeat (first | (with_reducible first | exact HB.out | apply below_alloc | apply pw_below_drewN | apply below_drew1) | exact HB.out))) : w.heap.size ≤ gb118)); clear HB; have HB := n0_; have BK118 := n1_; have GW118 := n2_; have GE118 := n3_; clear n0_ n1_ n2_ n3_; clear hb hbox hg; have hcz18_0 : w17.cell? ⟨gb118, 0, none⟩ = some (.int .i64 a0_0) := (blk_cell BK118.out 0).trans rfl; have hcz18_1 : w17.cell? ⟨gb118, 1, none⟩ = some (.int .i64 a0_1) := (blk_cell BK118.out 1).trans rfl; have hcz18_2 : w17.cell? ⟨gb118, 2, none⟩ = some (.int .i64 a0_2) := (blk_cell BK118.out 2).trans rfl; have hfz18_0 := blk_frozen BK118.out 0; have hfz18_1 := blk_frozen BK118.out 1; have hfz18_2 := blk_frozen BK118.out 2) | ((with_reducible refine gate_callee (f := 7) rfl ?_); refine goesL_ (some 13) rfl rfl Try.func7 (by kernel_rfl) rfl #[.agg #[.int .i64 a0_0, .int .i64 a0_1, .int .i64 a0_2]] rfl (by (try simp only [List.map_toArray, List.map_cons, List.map_nil]); first | done | rfl | (simp only [List.length_drop, List.length_take]; rfl)) ?_; (with_reducible refine (laws_toMachine.calls a0_0 a0_1 a0_2 t119 t120 t121 _ A4.out).mono ?_); rintro e w19 ⟨rfl, hb⟩; refine ⟨_, rfl, ?_⟩; have n0_ := Aside0.mk (blk_below (g := gb118) (o := .cells #[.int .i64 a0_0, .int .i64 a0_1, .int .i64 a0_2] 23 (0, 0)) (by (with_reducible repeat (first | refine blk_drewN ?_ _ | refine blk_drew ?_ | refine blk_alloc ?_ _)); exact BK118.out) hb); have n1_ := Aside0.mk (below_step (by repeat (first | (with_reducible first | exact HB.out | apply below_alloc | apply pw_below_drewN | apply below_drew1 | refine below_set ?_ GE118.out) | exact HB.out)) hb); clear BK118; clear HB; have BK118 := n0_; have HB := n1_; clear n0_ n1_; (try clear hb); (try clear hb2); (try clear hk); (try clear hi)) | ((with_reducible refine gate_callee (f := 6) rfl ?_); refine goesL_ (some 16) rfl rfl Try.func6 (by kernel_rfl) rfl #[.agg #[.int .i64 t119, .int .i64 t120, .int .i64 t121], .int .i64 a1, .int .i64 a2] rfl (by (try simp only [List.map_toArray, List.map_cons, List.map_nil]); first | done | rfl | (simp only [List.length_drop, List.length_take]; rfl)) ?_; (with_reducible refine (spec_Occupy.calls k t119 t120 t121 a1 a2 t122 t123 _ A5.out).mono ?_); rintro e w20 ⟨rfl, hb⟩; refine ⟨_, rfl, ?_⟩; have n0_ := Aside0.mk (blk_below (g := gb118) (o := .cells #[.int .i64 a0_0, .int .i64 a0_1, .int .i64 a0_2] 23 (0, 0)) (by (with_reducible repeat (first | refine blk_drewN ?_ _ | refine blk_drew ?_ | refine blk_alloc ?_ _)); exact BK118.out) hb); have n1_ := Aside0.mk (below_step (by repeat (first | (with_reducible first | exact HB.out | apply below_alloc | apply pw_below_drewN | apply below_drew1 | refine below_set ?_ GE118.out) | exact HB.out)) hb); clear BK118; clear HB; have BK118 := n0_; have HB := n1_; clear n0_ n1_; (try clear hb); (try clear hb2); (try clear hk); (try clear hi); have hcz21_0 : w20.cell? ⟨gb118, 0, none⟩ = some (.int .i64 a0_0) := (blk_cell BK118.out 0).trans rfl; have hcz21_1 : w20.cell? ⟨gb118, 1, none⟩ = some (.int .i64 a0_1) := (blk_cell BK118.out 1).trans rfl; have hcz21_2 : w20.cell? ⟨gb118, 2, none⟩ = some (.int .i64 a0_2) := (blk_cell BK118.out 2).trans rfl; have hfz21_0 := blk_frozen BK118.out 0; have hfz21_1 := blk_frozen BK118.out 1; have hfz21_2 := blk_frozen BK118.out 2) | ((with_reducible refine gate_callee (f := 7) rfl ?_); refine goesL_ (some 21) rfl rfl Try.func7 (by kernel_rfl) rfl #[.agg #[.int .i64 a0_0, .int .i64 a0_1, .int .i64 a0_2]] rfl (by (try simp only [List.map_toArray, List.map_cons, List.map_nil]); first | done | rfl | (simp only [List.length_drop, List.length_take]; rfl)) ?_; (with_reducible refine (laws_toMachine.calls a0_0 a0_1 a0_2 t124 t125 t126 _ A6.out).mono ?_); rintro e w22 ⟨rfl, hb⟩; refine ⟨_, rfl, ?_⟩; have n0_ := Aside0.mk (blk_below (g := gb118) (o := .cells #[.int .i64 a0_0, .int .i64 a0_1, .int .i64 a0_2] 23 (0, 0)) (by (with_reducible repeat (first | refine blk_drewN ?_ _ | refine blk_drew ?_ | refine blk_alloc ?_ _)); exact BK118.out) hb); have n1_ := Aside0.mk (below_step (by repeat (first | (with_reducible first | exact HB.out | apply below_alloc | apply pw_below_drewN | apply below_drew1 | refine below_set ?_ GE118.out) | exact HB.out)) hb); clear BK118; clear HB; have BK118 := n0_; have HB := n1_; clear n0_ n1_; (try clear hb); (try clear hb2); (try clear hk); (try clear hi)) | ((with_reducible refine gate_callee (f := 8) rfl ?_); refine goesL_ (some 24) rfl rfl Try.func8 (by kernel_rfl) rfl #[.agg #[.int .i64 t124, .int .i64 t125, .int .i64 t126], .int .i64 a1, .int .i64 a2] rfl (by (try simp only [List.map_toArray, List.map_cons, List.map_nil]); first | done | rfl | (simp only [List.length_drop, List.length_take]; rfl)) ?_; (with_reducible refine (impl_Occupy.calls t124 t125 t126 a1 a2 t127 t128 _ A7.out).mono ?_); rintro e w23 ⟨rfl, hb⟩; refine ⟨_, rfl, ?_⟩; have n0_ := Aside0.mk (blk_below (g := gb118) (o := .cells #[.int .i64 a0_0, .int .i64 a0_1, .int .i64 a0_2] 23 (0, 0)) (by (with_reducible repeat (first | refine blk_drewN ?_ _ | refine blk_drew ?_ | refine blk_alloc ?_ _)); exact BK118.out) hb); have n1_ := Aside0.mk (below_step (by repeat (first | (with_reducible first | exact HB.out | apply below_alloc | apply pw_below_drewN | apply below_drew1 | refine below_set ?_ GE118.out) | exact HB.out)) hb); clear BK118; clear HB; have BK118 := n0_; have HB := n1_; clear n0_ n1_; (try clear hb); (try clear hb2); (try clear hk); (try clear hi)))
      go_ret
      exact ⟨by first | rfl | (simp [errW_none, errW_some] <;> rfl) | (simp [*, errW_none, errW_some] <;> rfl), by repeat (first | (with_reducible first | exact HB.out | apply below_alloc | apply pw_below_drewN | apply below_drew1 | refine below_set ?_ GE118.out) | exact HB.out)⟩
  · rw [if_neg c8] at H
    have c8b0 : (t127 == t122) = false := beq_eq_false_iff_ne.mpr c8
    have c8b1 : (t127 != t122) = true := bne_iff_ne.mpr c8
    obtain rfl := Option.some.inj H
    go_enter Try.func3, Try.ntmps3
    go_wp2_with (first | ((with_reducible refine gate_dst (N := 3) rfl ?_); refine box_event ?hg (N := 3) ?hd (cs := #[.int .i64 a0_0, .int .i64 a0_1, .int .i64 a0_2]) (t := 23) ?hr ?_; (case hd => rfl); (case hg => rfl); (case hr => first | (go_simp; done) | (go_simp; rfl)); intro gb118 hg w24 hbox hb; have n0_ := Aside0.mk (below_step (by repeat (first | (with_reducible first | exact HB.out | apply below_alloc | apply pw_below_drewN | apply below_drew1) | exact HB.out)) hb); have n1_ := Aside0.mk (hbox); have n2_ := Aside0.mk ((by rw [hg]; exact (below_size (by repeat (first | (with_reducible first | exact HB.out | apply below_alloc | apply pw_below_drewN | apply below_drew1) | exact HB.out))) : w.heap.size ≤ gb118)); have n3_ := Aside0.mk ((by rw [hg]; exact (below_size (by repeat (first | (with_reducible first | exact HB.out | apply below_alloc | apply pw_below_drewN | apply below_drew1) | exact HB.out))) : w.heap.size ≤ gb118)); clear HB; have HB := n0_; have BK118 := n1_; have GW118 := n2_; have GE118 := n3_; clear n0_ n1_ n2_ n3_; clear hb hbox hg; have hcz25_0 : w24.cell? ⟨gb118, 0, none⟩ = some (.int .i64 a0_0) := (blk_cell BK118.out 0).trans rfl; have hcz25_1 : w24.cell? ⟨gb118, 1, none⟩ = some (.int .i64 a0_1) := (blk_cell BK118.out 1).trans rfl; have hcz25_2 : w24.cell? ⟨gb118, 2, none⟩ = some (.int .i64 a0_2) := (blk_cell BK118.out 2).trans rfl; have hfz25_0 := blk_frozen BK118.out 0; have hfz25_1 := blk_frozen BK118.out 1; have hfz25_2 := blk_frozen BK118.out 2) | ((with_reducible refine gate_callee (f := 7) rfl ?_); refine goesL_ (some 13) rfl rfl Try.func7 (by kernel_rfl) rfl #[.agg #[.int .i64 a0_0, .int .i64 a0_1, .int .i64 a0_2]] rfl (by (try simp only [List.map_toArray, List.map_cons, List.map_nil]); first | done | rfl | (simp only [List.length_drop, List.length_take]; rfl)) ?_; (with_reducible refine (laws_toMachine.calls a0_0 a0_1 a0_2 t119 t120 t121 _ A4.out).mono ?_); rintro e w26 ⟨rfl, hb⟩; refine ⟨_, rfl, ?_⟩; have n0_ := Aside0.mk (blk_below (g := gb118) (o := .cells #[.int .i64 a0_0, .int .i64 a0_1, .int .i64 a0_2] 23 (0, 0)) (by (with_reducible repeat (first | refine blk_drewN ?_ _ | refine blk_drew ?_ | refine blk_alloc ?_ _)); exact BK118.out) hb); have n1_ := Aside0.mk (below_step (by repeat (first | (with_reducible first | exact HB.out | apply below_alloc | apply pw_below_drewN | apply below_drew1 | refine below_set ?_ GE118.out) | exact HB.out)) hb); clear BK118; clear HB; have BK118 := n0_; have HB := n1_; clear n0_ n1_; (try clear hb); (try clear hb2); (try clear hk); (try clear hi)) | ((with_reducible refine gate_callee (f := 6) rfl ?_); refine goesL_ (some 16) rfl rfl Try.func6 (by kernel_rfl) rfl #[.agg #[.int .i64 t119, .int .i64 t120, .int .i64 t121], .int .i64 a1, .int .i64 a2] rfl (by (try simp only [List.map_toArray, List.map_cons, List.map_nil]); first | done | rfl | (simp only [List.length_drop, List.length_take]; rfl)) ?_; (with_reducible refine (spec_Occupy.calls k t119 t120 t121 a1 a2 t122 t123 _ A5.out).mono ?_); rintro e w27 ⟨rfl, hb⟩; refine ⟨_, rfl, ?_⟩; have n0_ := Aside0.mk (blk_below (g := gb118) (o := .cells #[.int .i64 a0_0, .int .i64 a0_1, .int .i64 a0_2] 23 (0, 0)) (by (with_reducible repeat (first | refine blk_drewN ?_ _ | refine blk_drew ?_ | refine blk_alloc ?_ _)); exact BK118.out) hb); have n1_ := Aside0.mk (below_step (by repeat (first | (with_reducible first | exact HB.out | apply below_alloc | apply pw_below_drewN | apply below_drew1 | refine below_set ?_ GE118.out) | exact HB.out)) hb); clear BK118; clear HB; have BK118 := n0_; have HB := n1_; clear n0_ n1_; (try clear hb); (try clear hb2); (try clear hk); (try clear hi); have hcz28_0 : w27.cell? ⟨gb118, 0, none⟩ = some (.int .i64 a0_0) := (blk_cell BK118.out 0).trans rfl; have hcz28_1 : w27.cell? ⟨gb118, 1, none⟩ = some (.int .i64 a0_1) := (blk_cell BK118.out 1).trans rfl; have hcz28_2 : w27.cell? ⟨gb118, 2, none⟩ = some (.int .i64 a0_2) := (blk_cell BK118.out 2).trans rfl; have hfz28_0 := blk_frozen BK118.out 0; have hfz28_1 := blk_frozen BK118.out 1; have hfz28_2 := blk_frozen BK118.out 2) | ((with_reducible refine gate_callee (f := 7) rfl ?_); refine goesL_ (some 21) rfl rfl Try.func7 (by kernel_rfl) rfl #[.agg #[.int .i64 a0_0, .int .i64 a0_1, .int .i64 a0_2]] rfl (by (try simp only [List.map_toArray, List.map_cons, List.map_nil]); first | done | rfl | (simp only [List.length_drop, List.length_take]; rfl)) ?_; (with_reducible refine (laws_toMachine.calls a0_0 a0_1 a0_2 t124 t125 t126 _ A6.out).mono ?_); rintro e w29 ⟨rfl, hb⟩; refine ⟨_, rfl, ?_⟩; have n0_ := Aside0.mk (blk_below (g := gb118) (o := .cells #[.int .i64 a0_0, .int .i64 a0_1, .int .i64 a0_2] 23 (0, 0)) (by (with_reducible repeat (first | refine blk_drewN ?_ _ | refine blk_drew ?_ | refine blk_alloc ?_ _)); exact BK118.out) hb); have n1_ := Aside0.mk (below_step (by repeat (first | (with_reducible first | exact HB.out | apply below_alloc | apply pw_below_drewN | apply below_drew1 | refine below_set ?_ GE118.out) | exact HB.out)) hb); clear BK118; clear HB; have BK118 := n0_; have HB := n1_; clear n0_ n1_; (try clear hb); (try clear hb2); (try clear hk); (try clear hi)) | ((with_reducible refine gate_callee (f := 8) rfl ?_); refine goesL_ (some 24) rfl rfl Try.func8 (by kernel_rfl) rfl #[.agg #[.int .i64 t124, .int .i64 t125, .int .i64 t126], .int .i64 a1, .int .i64 a2] rfl (by (try simp only [List.map_toArray, List.map_cons, List.map_nil]); first | done | rfl | (simp only [List.length_drop, List.length_take]; rfl)) ?_; (with_reducible refine (impl_Occupy.calls t124 t125 t126 a1 a2 t127 t128 _ A7.out).mono ?_); rintro e w30 ⟨rfl, hb⟩; refine ⟨_, rfl, ?_⟩; have n0_ := Aside0.mk (blk_below (g := gb118) (o := .cells #[.int .i64 a0_0, .int .i64 a0_1, .int .i64 a0_2] 23 (0, 0)) (by (with_reducible repeat (first | refine blk_drewN ?_ _ | refine blk_drew ?_ | refine blk_alloc ?_ _)); exact BK118.out) hb); have n1_ := Aside0.mk (below_step (by repeat (first | (with_reducible first | exact HB.out | apply below_alloc | apply pw_below_drewN | apply below_drew1 | refine below_set ?_ GE118.out) | exact HB.out)) hb); clear BK118; clear HB; have BK118 := n0_; have HB := n1_; clear n0_ n1_; (try clear hb); (try clear hb2); (try clear hk); (try clear hi)))
    go_ret
    exact ⟨by first | rfl | (simp [errW_none, errW_some] <;> rfl) | (simp [*, errW_none, errW_some] <;> rfl), by repeat (first | (with_reducible first | exact HB.out | apply below_alloc | apply pw_below_drewN | apply below_drew1 | refine below_set ?_ GE118.out) | exact HB.out)⟩

end Go.Proofs.Ythenbichjdmdkaa.PFnExactOccupy
