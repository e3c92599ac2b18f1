/- Of drawn bills none is chosen twice, together they are no more than the cash, those due stand ahead of those taken for their rate, and one that is due and not chosen is more than what is left. Conditions: none. -/
import Derived.Test.YtdnfagcnojnmiaaPFnProposedx0
import Derived.Test.YtdnfagcnojnmiaaPFnProposedx1
import Derived.Test.YtdnfagcnojnmiaaPFnProposedx2
import Derived.Test.YtdnfagcnojnmiaaPFnProposedx3
import Derived.Test.YtdnfagcnojnmiaaPFnProposedx4
import Derived.Test.YtdnfagcnojnmiaaPFnProposedx5
import Derived.Test.YtdnfagcnojnmiaaPFnProposedx6
import Derived.Test.YtdnfagcnojnmiaaPFnProposedx7
import Derived.Test.YtdnfagcnojnmiaaPureAid
import Derived.Test.YtdnfagcnojnmiaaWMore
namespace Go.Proofs.Ytdnfagcnojnmiaa.Pure
open Go Go.RowKit Go.Proofs.Ytdnfagcnojnmiaa.PFnProposed Go.Proofs.YtdnfagcnojnmiaaW.PrintWords Go.Proofs.YtdnfagcnojnmiaaW.PrintLast Go.Proofs.Ytdnfagcnojnmiaa.Aid
set_option linter.unusedVariables false
set_option linter.unusedSimpArgs false
set_option maxRecDepth 100000
theorem and255 (n : Int) : 0 ≤ Go.bits .and .i64 n 255 ∧ Go.bits .and .i64 n 255 ≤ 255 := by
  have h : Go.bits .and .i64 n 255 = IntKind.i64.wrap ((BitVec.ofInt 64 n &&& BitVec.ofInt 64 255).toNat : Int) := rfl
  have hb : (BitVec.ofInt 64 n &&& BitVec.ofInt 64 255).toNat ≤ 255 := by
    rw [BitVec.toNat_and]
    exact Nat.le_trans Nat.and_le_right (by decide)
  rw [h]
  generalize (BitVec.ofInt 64 n &&& BitVec.ofInt 64 255).toNat = m at hb
  have : IntKind.i64.wrap (m : Int) = (m : Int) := by
    rw [IntKind.wrap_i64]; omega
  rw [this]
  omega
theorem new_ok (L : List Int) : ∀ (d i : Nat) (s : Int) (k : Nat), i + d = 4000 → d < k → ∃ t, spec_l1New.l0 k L s (i : Int) = some (L, 0, t) := by
  intro d
  induction d with
  | zero =>
    intro i s k hi hk
    obtain ⟨k, rfl⟩ : ∃ q, k = q + 1 := ⟨k - 1, by omega⟩
    refine ⟨s, ?_⟩
    rw [spec_l1New.l0, if_neg (show ¬ (i : Int) < 4000 by omega)]
    split <;> rfl
  | succ d ih =>
    intro i s k hi hk
    obtain ⟨k, rfl⟩ : ∃ q, k = q + 1 := ⟨k - 1, by omega⟩
    rw [spec_l1New.l0]
    by_cases h : (i : Int) < (L.length : Int)
    · have e : wrap64 ((i : Int) + 1) = ((i + 1 : Nat) : Int) := by rw [w64 (by omega) (by omega)]; omega
      rw [if_pos h, if_pos (show (i : Int) < 4000 by omega), if_pos (Int.natCast_nonneg i), e]
      exact ih (i + 1) _ k (by omega) (by omega)
    · exact ⟨s, by rw [if_neg h]⟩
theorem l1New_ok (L : List Int) (k : Nat) (hk : 4001 ≤ k) : ∃ t, spec_l1New.f k L = some (L, 0, t) := by
  unfold spec_l1New.f
  exact new_ok L 4000 0 _ k (by omega) (by omega)
theorem byte_ok (L : List Int) (i s : Int) (hL : L.length ≤ maxLen) (h0 : 0 ≤ i) (hi : i ≤ L.length) : ∃ v j t, spec_l1Byte.f L i s = some (v, j, t) ∧ 0 ≤ v ∧ v ≤ 255 ∧ 0 ≤ j ∧ j ≤ L.length := by
  have hm : maxLen ≤ 9223372036854775807 := by rw [maxLen_eq]; omega
  unfold spec_l1Byte.f
  by_cases h : i < (L.length : Int)
  · have e : wrap64 (i + 1) = i + 1 := w64 (by omega) (by omega)
    rw [if_pos h, if_pos h0, e]
    exact ⟨_, _, _, rfl, (and255 _).1, (and255 _).2, by omega, by omega⟩
  · rw [if_neg h]
    exact ⟨_, _, _, rfl, (and255 _).1, (and255 _).2, by omega, by omega⟩
theorem below_ok (L : List Int) (i s n : Int) (hL : L.length ≤ maxLen) (h0 : 0 ≤ i) (hi : i ≤ L.length) : ∃ v j t, spec_l1Below.f L i s n = some (v, j, t) ∧ 0 ≤ v ∧ (0 < n → v < n) ∧ 0 ≤ j ∧ j ≤ L.length := by
  unfold spec_l1Below.f
  by_cases hn : n ≤ 0
  · rw [if_pos hn]
    exact ⟨_, _, _, rfl, by omega, fun h => by omega, h0, hi⟩
  · rw [if_neg hn]
    have tm : ∀ z : Int, 0 ≤ z → 0 ≤ Int.tmod z n ∧ Int.tmod z n < n := by
      intro z hz
      rw [Int.tmod_eq_emod_of_nonneg hz]
      exact ⟨Int.emod_nonneg _ (by omega), Int.emod_lt_of_pos _ (by omega)⟩
    by_cases h2 : n ≤ 256
    · obtain ⟨v, j, t, e, v0, v1, j0, j1⟩ := byte_ok L i s hL h0 hi
      rw [if_pos h2, e, Option.bind_some, if_neg (by omega)]
      exact ⟨_, _, _, rfl, (tm v v0).1, fun _ => (tm v v0).2, j0, j1⟩
    · obtain ⟨v, j, t, e, v0, v1, j0, j1⟩ := byte_ok L i s hL h0 hi
      obtain ⟨v', j', t', e', v0', v1', j0', j1'⟩ := byte_ok L j t hL j0 j1
      obtain ⟨v2, j2, t2, e2, v02, v12, j02, j12⟩ := byte_ok L j' t' hL j0' j1'
      obtain ⟨v3, j3, t3, e3, v03, v13, j03, j13⟩ := byte_ok L j2 t2 hL j02 j12
      rw [if_neg h2, e, Option.bind_some]
      dsimp only
      rw [e', Option.bind_some]
      dsimp only
      rw [e2, Option.bind_some]
      dsimp only
      rw [e3, Option.bind_some, if_neg (by omega)]
      dsimp only
      have w : wrap64 (wrap64 (wrap64 (wrap64 (v * 16777216) + wrap64 (v' * 65536)) + wrap64 (v2 * 256)) + v3) = v * 16777216 + v' * 65536 + v2 * 256 + v3 := by
        rw [w64 (x := v * 16777216) (by omega) (by omega), w64 (x := v' * 65536) (by omega) (by omega), w64 (x := v2 * 256) (by omega) (by omega), w64 (x := v * 16777216 + v' * 65536) (by omega) (by omega), w64 (x := v * 16777216 + v' * 65536 + v2 * 256) (by omega) (by omega), w64 (by omega) (by omega)]
      rw [w]
      have tz := tm (v * 16777216 + v' * 65536 + v2 * 256 + v3) (by omega)
      exact ⟨_, _, _, rfl, tz.1, fun _ => tz.2, j03, j13⟩

theorem once_ok (L : List Int) (i s n : Int) (hL : L.length ≤ maxLen) (h0 : 0 ≤ i) (hi : i ≤ L.length) : ∃ (b : Bool) (j t : Int), spec_l1Once.f L i s n = some (b, j, t) ∧ 0 ≤ j ∧ j ≤ L.length := by
  unfold spec_l1Once.f
  obtain ⟨v, j, t, e, _, _, j0, j1⟩ := below_ok L i s n hL h0 hi
  rw [e, Option.bind_some]
  exact ⟨_, _, _, rfl, j0, j1⟩

theorem rd_mem (l : List Int) (v : Int) (h0 : 0 ≤ v) (h1 : v < (l.length : Int)) : rd l v ∈ l := by
  obtain ⟨n, rfl⟩ : ∃ n : Nat, v = n := ⟨v.toNat, by omega⟩
  have hn : n < l.length := by omega
  have : rd l (n : Int) = l[n]'hn := by
    unfold rd
    simp [hn]
  rw [this]
  exact List.getElem_mem hn

theorem pickInt_ok (L l : List Int) (i s : Int) (hL : L.length ≤ maxLen) (h0 : 0 ≤ i) (hi : i ≤ L.length) (hl : 0 < l.length) : ∃ v j t, spec_l1PickInt.f L i s l = some (v, j, t) ∧ v ∈ l ∧ 0 ≤ j ∧ j ≤ L.length := by
  unfold spec_l1PickInt.f
  obtain ⟨v, j, t, e, v0, v1, j0, j1⟩ := below_ok L i s (l.length : Int) hL h0 hi
  have v2 := v1 (by omega)
  rw [e, Option.bind_some]
  dsimp only
  rw [if_pos v0, if_pos v2]
  exact ⟨_, _, _, rfl, rd_mem l v v0 v2, j0, j1⟩

theorem spoil_ok (L l : List Int) (i s a : Int) (hL : L.length ≤ maxLen) (h0 : 0 ≤ i) (hi : i ≤ L.length) (hl : 0 < l.length) : ∃ v j t, spec_l1Spoil.f L i s a l = some (v, j, t) ∧ (v = a ∨ v ∈ l) ∧ 0 ≤ j ∧ j ≤ L.length := by
  unfold spec_l1Spoil.f
  obtain ⟨b, j, t, e, j0, j1⟩ := once_ok L i s 40 hL h0 hi
  rw [e, Option.bind_some]
  dsimp only
  cases b
  · rw [if_neg (by simp)]
    exact ⟨_, _, _, rfl, .inl rfl, j0, j1⟩
  · rw [if_pos rfl]
    obtain ⟨v, j', t', e', hv, j0', j1'⟩ := pickInt_ok L l j t hL j0 j1 hl
    rw [e', Option.bind_some]
    exact ⟨_, _, _, rfl, .inr hv, j0', j1'⟩

theorem two_dec (a b : Prop) [Decidable a] [Decidable b] : (if a then some (decide b) else some false) = some (decide (a ∧ b)) := by
  by_cases h : a
  · rw [if_pos h]; congr 1; rw [decide_eq_decide]; exact ⟨fun hb => ⟨h, hb⟩, fun hb => hb.2⟩
  · rw [if_neg h]; congr 1; symm; rw [decide_eq_false_iff_not]; exact fun hb => h hb.1

theorem l1In_eq (a b c : Int) : spec_l1In.f a b c = some (decide (b ≤ a ∧ a ≤ c)) := by unfold spec_l1In.f; exact two_dec (a ≥ b) (a ≤ c)

theorem l2Day_eq (a : Int) : spec_l2Day.f a = some (decide (0 ≤ a ∧ a ≤ 40000)) := by unfold spec_l2Day.f; rw [l1In_eq]; rfl

theorem l13Rate_eq (a : Int) : spec_l13Rate.f a = some (decide (0 ≤ a ∧ a ≤ 100000)) := by unfold spec_l13Rate.f; rw [l1In_eq]; rfl

/-! ### A stable sort by a question -/
structure Sw (B : Int → Int → Bool) : Prop where
  asym : ∀ x y, B x y = true → B y x = false
  nt : ∀ x y z, B x y = true → B x z = true ∨ B z y = true
theorem Sw.trans {B : Int → Int → Bool} (S : Sw B) {x y z : Int} (h : B x y = true) (h2 : B y z = true) : B x z = true := by
  rcases S.nt x y z h with h3 | h3
  · exact h3
  · rw [S.asym _ _ h2] at h3; cases h3
def Rr (B : Int → Int → Bool) (x y : Int) : Prop := B x y = true ∨ (B y x = false ∧ x < y)
def leB (B : Int → Int → Bool) (a b : Int) : Bool := !B b a
theorem mgS {B : Int → Int → Bool} (S : Sw B) : ∀ (n : Nat) (a b : List Int), a.length + b.length = n → a.Pairwise (Rr B) → b.Pairwise (Rr B) → (∀ x ∈ a, ∀ y ∈ b, x < y) → (List.merge a b (leB B)).Pairwise (Rr B) := by
  intro n
  induction n with
  | zero =>
    intro a b h ha hb _
    obtain rfl : a = [] := List.eq_nil_of_length_eq_zero (by omega)
    rw [List.nil_merge]; exact hb
  | succ n ih =>
    intro a b h ha hb hx
    cases a with
    | nil => rw [List.nil_merge]; exact hb
    | cons x a =>
      cases b with
      | nil => rw [List.merge_right]; exact ha
      | cons y b =>
        rw [List.cons_merge_cons]
        have ha' := List.pairwise_cons.1 ha
        have hb' := List.pairwise_cons.1 hb
        simp only [List.length_cons] at h
        cases hc : B y x
        · rw [if_pos (by simp [leB, hc])]
          refine List.pairwise_cons.2 ⟨fun z hz => ?_, ih _ _ (by simp only [List.length_cons]; omega) ha'.2 hb (fun p hp q hq => hx p (by simp [hp]) q hq)⟩
          rcases List.mem_merge.1 hz with hz | hz
          · exact ha'.1 z hz
          · have hxz := hx x (by simp) z hz
            cases hzx : B z x
            · exact .inr ⟨hzx, hxz⟩
            · rcases List.mem_cons.1 hz with rfl | hz
              · rw [hc] at hzx; cases hzx
              · exfalso
                rcases S.nt z x y hzx with h1 | h1
                · rcases hb'.1 z hz with h2 | ⟨h2, _⟩
                  · rw [S.asym _ _ h1] at h2; cases h2
                  · rw [h1] at h2; cases h2
                · rw [hc] at h1; cases h1
        · rw [if_neg (by simp [leB, hc])]
          refine List.pairwise_cons.2 ⟨fun z hz => ?_, ih _ _ (by simp only [List.length_cons]; omega) ha hb'.2 (fun p hp q hq => hx p hp q (by simp [hq]))⟩
          rcases List.mem_merge.1 hz with hz | hz
          · rcases List.mem_cons.1 hz with rfl | hz
            · exact .inl hc
            · refine .inl ?_
              rcases ha'.1 z hz with h2 | ⟨h2, _⟩
              · exact S.trans hc h2
              · rcases S.nt y x z hc with h1 | h1
                · exact h1
                · rw [h1] at h2; cases h2
          · exact hb'.1 z hz
theorem rdI (xs : List Int) (i : Nat) (h : i < xs.length) : rd xs (i : Int) = xs[i] := by
  unfold rd
  rw [Int.toNat_natCast, List.getD_eq_getElem?_getD, List.getElem?_eq_getElem h]; rfl
theorem set_done {α : Type} (done tail : List α) (x y : α) (p : Nat) (hp : done.length = p) : (done ++ y :: tail).set p x = (done ++ [x]) ++ tail := by
  subst hp
  rw [List.set_append_right _ _ (Nat.le_refl _), Nat.sub_self, List.set_cons_zero, List.append_assoc]; rfl
theorem mg_loop (lt : Int → Int → Option Bool) (B : Int → Int → Bool) (a b : List Int) (hn : a.length + b.length ≤ 1000000) (H : ∀ x ∈ b, ∀ y ∈ a, lt x y = some (B x y)) : ∀ (d k : Nat) (done tail : List Int) (i j : Nat), tail.length = d → i ≤ a.length → j ≤ b.length → i + j + d = a.length + b.length → done.length = i + j → impl_sortBy_int.l0 lt (k + 1 + d) (done ++ tail) a b (i : Int) (j : Int) ((a.length + b.length : Nat) : Int) ((i + j : Nat) : Int) = some (done ++ List.merge (a.drop i) (b.drop j) (leB B)) := by
  intro d
  induction d with
  | zero =>
    intro k done tail i j ht hi hj hd hdone
    obtain rfl : i = a.length := by omega
    obtain rfl : j = b.length := by omega
    obtain rfl : tail = [] := List.eq_nil_of_length_eq_zero ht
    rw [Nat.add_zero, impl_sortBy_int.l0, if_neg (by omega), List.drop_length, List.drop_length]
    simp
  | succ d ih =>
    intro k done tail i j ht hi hj hd hdone
    cases tail with
    | nil => simp at ht
    | cons y tail =>
      simp only [List.length_cons] at ht
      have hlen : (done ++ y :: tail).length = a.length + b.length := by simp; omega
      have ew : wrap64 (((i + j : Nat) : Int) + 1) = ((i + j + 1 : Nat) : Int) := w64i (show i + j < a.length + b.length by omega) (by omega)
      have takeA : ∀ (hia : i < a.length), impl_sortBy_int.l0 lt (k + 1 + d) ((done ++ y :: tail).set (i + j) a[i]) a b (wrap64 ((i : Int) + 1)) (j : Int) ((a.length + b.length : Nat) : Int) ((i + j + 1 : Nat) : Int) = some (done ++ a[i] :: List.merge (a.drop (i + 1)) (b.drop j) (leB B)) := by
        intro hia
        rw [set_done done tail _ y (i + j) hdone, w64i hia (by omega)]
        have := ih k (done ++ [a[i]]) tail (i + 1) j (by omega) (by omega) hj (by omega) (by simp; omega)
        rw [show i + 1 + j = i + j + 1 by omega] at this
        rw [this, List.append_assoc]; rfl
      have takeB : ∀ (hjb : j < b.length), impl_sortBy_int.l0 lt (k + 1 + d) ((done ++ y :: tail).set (i + j) b[j]) a b (i : Int) (wrap64 ((j : Int) + 1)) ((a.length + b.length : Nat) : Int) ((i + j + 1 : Nat) : Int) = some (done ++ b[j] :: List.merge (a.drop i) (b.drop (j + 1)) (leB B)) := by
        intro hjb
        rw [set_done done tail _ y (i + j) hdone, w64i hjb (by omega)]
        have := ih k (done ++ [b[j]]) tail i (j + 1) (by omega) hi (by omega) (by omega) (by simp; omega)
        rw [show i + (j + 1) = i + j + 1 by omega] at this
        rw [this, List.append_assoc]; rfl
      rw [← Nat.add_assoc, impl_sortBy_int.l0, if_pos (by omega), Int.toNat_natCast, hlen, ew]
      by_cases hjb : j = b.length
      · have hia : i < a.length := by omega
        rw [if_pos (by omega), if_pos (by omega), if_pos (by omega), if_pos (by omega), if_pos (by omega), rdI a i hia]
        rw [takeA hia, List.drop_eq_getElem_cons hia, show List.drop j b = [] by rw [hjb]; exact List.drop_length, List.merge_right, List.merge_right]
      · have hjb' : j < b.length := by omega
        rw [if_neg (by omega)]
        by_cases hia : i < a.length
        · rw [if_pos (by omega), if_pos (by omega), if_pos (by omega), if_pos (by omega), rdI a i hia, rdI b j hjb', H _ (List.getElem_mem hjb') _ (List.getElem_mem hia)]
          simp only [Option.bind_some]
          rw [List.drop_eq_getElem_cons hia, List.drop_eq_getElem_cons hjb', List.cons_merge_cons]
          cases hc : B b[j] a[i]
          · rw [if_neg (by simp), if_pos (by omega), if_pos (by omega), if_pos (by simp [leB, hc]), ← List.drop_eq_getElem_cons hjb']
            exact takeA hia
          · rw [if_pos rfl, if_pos (by omega), if_pos (by omega), if_neg (by simp [leB, hc]), ← List.drop_eq_getElem_cons hia]
            exact takeB hjb'
        · rw [if_neg (by omega), if_pos (by omega), if_pos (by omega), if_pos (by omega), if_pos (by omega), rdI b j hjb']
          rw [takeB hjb', List.drop_eq_getElem_cons hjb', show List.drop i a = [] by rw [show i = a.length by omega]; exact List.drop_length, List.nil_merge, List.nil_merge]
theorem sort_eq (lt : Int → Int → Option Bool) {B : Int → Int → Bool} (S : Sw B) : ∀ (n : Nat) (l : List Int), l.length = n → n ≤ 1000000 → l.Pairwise (· < ·) → (∀ x ∈ l, ∀ y ∈ l, lt x y = some (B x y)) → ∃ s, s.Perm l ∧ s.Pairwise (Rr B) ∧ ∀ k, 2 * n + 5 ≤ k → impl_sortBy_int.f lt k l = some s := by
  intro n
  induction n using Nat.strongRecOn with
  | _ n ih =>
    intro l hl hn hp H
    by_cases h2 : (l.length : Int) < 2
    · refine ⟨l, List.Perm.refl _, ?_, ?_⟩
      · match l, h2 with
        | [], _ => exact List.Pairwise.nil
        | [x], _ => exact List.pairwise_singleton _ _
        | x :: y :: l, h2 => simp only [List.length_cons] at h2; omega
      · intro k hk
        obtain ⟨k, rfl⟩ : ∃ m, k = m + 1 := ⟨k - 1, by omega⟩
        rw [impl_sortBy_int.f, if_pos h2]
    · have ew : wrap64 ((l.length : Int) / 2) = ((l.length / 2 : Nat) : Int) := by rw [w64 (by omega) (by omega)]; omega
      have ht : (l.take (l.length / 2)).length = l.length / 2 := by rw [List.length_take]; omega
      have hd : (l.drop (l.length / 2)).length = l.length - l.length / 2 := List.length_drop
      have hpp : (l.take (l.length / 2) ++ l.drop (l.length / 2)).Pairwise (· < ·) := by rw [List.take_append_drop]; exact hp
      rw [List.pairwise_append] at hpp
      obtain ⟨a, pa, sa, ea⟩ := ih _ (by omega) (l.take (l.length / 2)) ht (by omega) hpp.1 (fun x hx y hy => H x (List.mem_of_mem_take hx) y (List.mem_of_mem_take hy))
      obtain ⟨b, pb, sb, eb⟩ := ih _ (by omega) (l.drop (l.length / 2)) hd (by omega) hpp.2.1 (fun x hx y hy => H x (List.mem_of_mem_drop hx) y (List.mem_of_mem_drop hy))
      have la := pa.length_eq
      have lb := pb.length_eq
      refine ⟨List.merge a b (leB B), ?_, mgS S _ a b rfl sa sb (fun x hx y hy => hpp.2.2 x (pa.mem_iff.1 hx) y (pb.mem_iff.1 hy)), ?_⟩
      · refine (List.merge_perm_append _).trans ?_
        have := pa.append pb
        rwa [List.take_append_drop] at this
      · intro k hk
        obtain ⟨k, rfl⟩ : ∃ m, k = m + 1 := ⟨k - 1, by omega⟩
        rw [impl_sortBy_int.f, if_neg h2]
        rw [ew, Int.toNat_natCast]
        simp only [Option.bind_some, List.nil_append, List.length_nil, Nat.zero_add]
        rw [if_pos (by omega), if_pos (by omega), ht, if_pos (by omega), hd, if_pos (by omega), ea k (by omega), eb k (by omega)]
        simp only [Option.bind_some]
        have key := mg_loop lt B a b (by omega) (fun x hx y hy => H x (List.mem_of_mem_drop (pb.mem_iff.1 hx)) y (List.mem_of_mem_take (pa.mem_iff.1 hy))) l.length (k - 1 - l.length) [] l 0 0 rfl (by omega) (by omega) (by omega) rfl
        rw [show k - 1 - l.length + 1 + l.length = k by omega, List.nil_append, show a.length + b.length = l.length by omega, List.drop_zero, List.drop_zero, List.nil_append] at key
        exact key
/-! ### The order of bills -/
def due (b : List S54) (a2 x : Int) : Bool := impl_Propose.isM a2 (rd_T54 b x)
def elig (b : List S54) (a1 a2 x : Int) : Bool := due b a2 x || impl_Propose.isC a1 a2 (rd_T54 b x)
def bt (b : List S54) (a2 x y : Int) : Bool := if due b a2 x = true then (if due b a2 y = true then (decide ((rd_T54 b x).f0 < (rd_T54 b y).f0) || (decide ((rd_T54 b x).f0 = (rd_T54 b y).f0) && decide ((rd_T54 b x).f3 > (rd_T54 b y).f3))) else true) else (if due b a2 y = true then false else decide ((rd_T54 b x).f2 > (rd_T54 b y).f2))
theorem bt_sw (b : List S54) (a2 : Int) : Sw (bt b a2) := by
  constructor
  · intro x y
    unfold bt
    cases due b a2 x <;> cases due b a2 y <;> simp <;> omega
  · intro x y z
    unfold bt
    cases due b a2 x <;> cases due b a2 y <;> cases due b a2 z <;> simp <;> omega
theorem mem_must {b : List S54} {a2 x : Int} {n : Nat} : x ∈ impl_Propose.must b a2 n ↔ ∃ i : Nat, i < n ∧ due b a2 (i : Int) = true ∧ x = (i : Int) := by
  unfold impl_Propose.must due
  simp only [List.mem_map, List.mem_filter, List.mem_range]
  constructor
  · rintro ⟨i, ⟨h1, h2⟩, rfl⟩; exact ⟨i, h1, h2, rfl⟩
  · rintro ⟨i, h1, h2, rfl⟩; exact ⟨i, ⟨h1, h2⟩, rfl⟩
theorem mem_can {b : List S54} {a1 a2 x : Int} {n : Nat} : x ∈ impl_Propose.can b a1 a2 n ↔ ∃ i : Nat, i < n ∧ due b a2 (i : Int) = false ∧ impl_Propose.isC a1 a2 (rd_T54 b (i : Int)) = true ∧ x = (i : Int) := by
  unfold impl_Propose.can due
  simp only [List.mem_map, List.mem_filter, List.mem_range, Bool.and_eq_true, Bool.not_eq_true']
  constructor
  · rintro ⟨i, ⟨h1, h2, h3⟩, rfl⟩; exact ⟨i, h1, h2, h3, rfl⟩
  · rintro ⟨i, h1, h2, h3, rfl⟩; exact ⟨i, ⟨h1, h2, h3⟩, rfl⟩
theorem must_lt (b : List S54) (a2 : Int) (n : Nat) : (impl_Propose.must b a2 n).Pairwise (· < ·) := by
  unfold impl_Propose.must
  rw [List.pairwise_map]
  exact (List.pairwise_lt_range.filter _).imp (fun {a b} h => by omega)
theorem can_lt (b : List S54) (a1 a2 : Int) (n : Nat) : (impl_Propose.can b a1 a2 n).Pairwise (· < ·) := by
  unfold impl_Propose.can
  rw [List.pairwise_map]
  exact (List.pairwise_lt_range.filter _).imp (fun {a b} h => by omega)
theorem inb_of {b : List S54} {i : Nat} (h : i < b.length) : impl_Propose.inb b (i : Int) = true := by
  unfold impl_Propose.inb
  rw [decide_eq_true (by omega), decide_eq_true (by omega)]; rfl
structure Ord (b : List S54) (a1 a2 : Int) (L : List Int) : Prop where
  mem : ∀ x, x ∈ L ↔ ∃ i : Nat, i < b.length ∧ elig b a1 a2 (i : Int) = true ∧ x = (i : Int)
  pw : L.Pairwise (Rr (bt b a2))
  len : L.length ≤ b.length
theorem order_eq (b : List S54) (a1 a2 : Int) (hb : b.length ≤ 1000) : ∃ s1 s2, Ord b a1 a2 (s1 ++ s2) ∧ (s1 ++ s2).all (impl_Propose.inb b) = true ∧ ∀ k, 3000 ≤ k → impl_sortBy_int.f (impl_Propose.lt1 b) k (impl_Propose.must b a2 b.length) = some s1 ∧ impl_sortBy_int.f (impl_Propose.lt2 b) k (impl_Propose.can b a1 a2 b.length) = some s2 := by
  have l1 := impl_Propose.must_len b a2 b.length
  have l2 := impl_Propose.can_len b a1 a2 b.length
  obtain ⟨s1, p1, r1, e1⟩ := sort_eq (impl_Propose.lt1 b) (bt_sw b a2) _ (impl_Propose.must b a2 b.length) rfl (by omega) (must_lt b a2 b.length) (fun x hx y hy => by
    obtain ⟨i, hi, di, rfl⟩ := mem_must.1 hx
    obtain ⟨j, hj, dj, rfl⟩ := mem_must.1 hy
    unfold impl_Propose.lt1 bt
    rw [inb_of hi, inb_of hj, if_pos (show (true && true) = true from rfl), if_pos di, if_pos dj])
  obtain ⟨s2, p2, r2, e2⟩ := sort_eq (impl_Propose.lt2 b) (bt_sw b a2) _ (impl_Propose.can b a1 a2 b.length) rfl (by omega) (can_lt b a1 a2 b.length) (fun x hx y hy => by
    obtain ⟨i, hi, di, _, rfl⟩ := mem_can.1 hx
    obtain ⟨j, hj, dj, _, rfl⟩ := mem_can.1 hy
    unfold impl_Propose.lt2 bt
    rw [inb_of hi, inb_of hj, if_pos (show (true && true) = true from rfl), if_neg (by rw [di]; simp), if_neg (by rw [dj]; simp)])
  have hmem : ∀ x, x ∈ s1 ++ s2 ↔ ∃ i : Nat, i < b.length ∧ elig b a1 a2 (i : Int) = true ∧ x = (i : Int) := by
    intro x
    rw [List.mem_append, p1.mem_iff, p2.mem_iff, mem_must, mem_can]
    unfold elig
    constructor
    · rintro (⟨i, h1, h2, h3⟩ | ⟨i, h1, h2, h3, h4⟩)
      · exact ⟨i, h1, by rw [h2]; rfl, h3⟩
      · exact ⟨i, h1, by rw [h3]; simp, h4⟩
    · rintro ⟨i, h1, h2, h3⟩
      cases hd : due b a2 (i : Int)
      · rw [hd, Bool.false_or] at h2
        exact .inr ⟨i, h1, hd, h2, h3⟩
      · exact .inl ⟨i, h1, hd, h3⟩
  refine ⟨s1, s2, ⟨hmem, ?_, ?_⟩, ?_, fun k hk => ⟨e1 k (by omega), e2 k (by omega)⟩⟩
  · rw [List.pairwise_append]
    refine ⟨r1, r2, fun x hx y hy => .inl ?_⟩
    obtain ⟨i, hi, di, rfl⟩ := mem_must.1 (p1.mem_iff.1 hx)
    obtain ⟨j, hj, dj, _, rfl⟩ := mem_can.1 (p2.mem_iff.1 hy)
    unfold bt
    rw [if_pos di, if_neg (by rw [dj]; simp)]
  · rw [List.length_append, p1.length_eq, p2.length_eq]
    have hsub : ((List.range b.length).filter (fun (i : Nat) => impl_Propose.isM a2 (rd_T54 b (i : Int)))).length + ((List.range b.length).filter (fun (i : Nat) => !impl_Propose.isM a2 (rd_T54 b (i : Int)) && impl_Propose.isC a1 a2 (rd_T54 b (i : Int)))).length ≤ (List.range b.length).length := by
      generalize List.range b.length = R
      induction R with
      | nil => simp
      | cons x R ih =>
        simp only [List.filter_cons, List.length_cons]
        cases impl_Propose.isM a2 (rd_T54 b (x : Int)) <;> cases impl_Propose.isC a1 a2 (rd_T54 b (x : Int)) <;> simp <;> omega
    rw [List.length_range] at hsub
    unfold impl_Propose.must impl_Propose.can
    rw [List.length_map, List.length_map]
    exact hsub
  · rw [List.all_eq_true]
    intro x hx
    obtain ⟨i, hi, _, rfl⟩ := (hmem x).1 hx
    exact inb_of hi
theorem Rr_irrefl {B : Int → Int → Bool} (S : Sw B) (x : Int) : ¬ Rr B x x := by
  rintro (h | ⟨_, h⟩)
  · rw [S.asym x x h] at h; cases h
  · omega
theorem Rr_anti {B : Int → Int → Bool} (S : Sw B) {x y : Int} (h : Rr B x y) (h' : Rr B y x) : False := by
  rcases h with h | ⟨h1, h2⟩
  · rcases h' with h' | ⟨h', _⟩
    · rw [S.asym _ _ h] at h'; cases h'
    · rw [h] at h'; cases h'
  · rcases h' with h' | ⟨_, h'⟩
    · rw [h1] at h'; cases h'
    · omega
/-! ### The reference picks the best, again and again -/
theorem l7Has_eq (l : List Int) (a : Int) (hl : l.length ≤ 1000000) (k : Nat) (hk : l.length < k) : spec_l7Has.f k l a = some (decide (a ∈ l)) := by
  unfold spec_l7Has.f
  have key : ∀ (d i k : Nat), i + d = l.length → d < k → spec_l7Has.l0 k l a (i : Int) = some (decide (a ∈ l.drop i)) := by
    intro d
    induction d with
    | zero =>
      intro i k hi hk
      obtain ⟨k, rfl⟩ : ∃ m, k = m + 1 := ⟨k - 1, by omega⟩
      rw [spec_l7Has.l0, if_neg (by omega), List.drop_eq_nil_of_le (by omega)]
      rfl
    | succ d ih =>
      intro i k hi hk
      obtain ⟨k, rfl⟩ : ∃ m, k = m + 1 := ⟨k - 1, by omega⟩
      have hil : i < l.length := by omega
      rw [spec_l7Has.l0, if_pos (by omega), if_pos (by omega), rdI l i hil, w64i hil (by omega), ih (i + 1) k (by omega) (by omega), List.drop_eq_getElem_cons hil]
      by_cases h : l[i] = a
      · rw [if_pos h]; simp [h]
      · rw [if_neg h]
        congr 1
        rw [decide_eq_decide, List.mem_cons]
        exact ⟨.inr, fun h2 => h2.resolve_left (fun e => h e.symm)⟩
  exact key l.length 0 k (by omega) hk
def nx (b : List S54) (a2 : Int) (skip : Bool) (best i : Int) : Int := if skip = true then best else if best < 0 then i else if bt b a2 i best = true then i else best
theorem j5_eq (b : List S54) (a1 a2 cash : Int) (out seen : List Int) (best : Int) (i : Nat) (hi : i < b.length) (hn : b.length ≤ 1000) (hb : best < (b.length : Int)) (skip : Bool) (k : Nat) :
    ∃ k', k ≤ k' ∧ k' ≤ k + 1 ∧ spec_Propose.j5 (k + 2) b a1 a2 cash out seen best (i : Int) (due b a2 (i : Int)) skip = spec_Propose.l2 k' b a1 a2 cash out seen (nx b a2 skip best (i : Int)) ((i + 1 : Nat) : Int) := by
  have ew : wrap64 ((i : Int) + 1) = ((i + 1 : Nat) : Int) := w64i hi (by omega)
  unfold nx
  cases skip
  · rw [spec_Propose.j5, if_neg (show ¬ (false = true) by simp), if_neg (show ¬ (false = true) by simp), ew]
    by_cases h0 : best < 0
    · rw [if_pos h0, if_pos h0]; exact ⟨k + 1, by omega, by omega, rfl⟩
    · rw [if_neg h0, if_neg h0, if_pos (by omega), if_pos hb]
      have eb : decide ((rd_T54 b best).f0 ≤ a2) = due b a2 best := rfl
      rw [eb]
      unfold bt
      have hi0 : (0 : Int) ≤ (i : Int) := by omega
      have hi1 : (i : Int) < (b.length : Int) := by omega
      cases h1 : due b a2 (i : Int) <;> cases h2 : due b a2 best
      · simp only [bne_self_eq_false, Bool.false_eq_true, if_false, spec_Propose.j6, hi0, hi1, if_true, ew]
        refine ⟨k, by omega, by omega, ?_⟩
        by_cases h3 : (rd_T54 b (i : Int)).f2 > (rd_T54 b best).f2
        · rw [if_pos h3, if_pos (decide_eq_true h3)]
        · rw [if_neg h3, if_neg (by rw [decide_eq_false h3]; simp)]
      · refine ⟨k + 1, by omega, by omega, ?_⟩
        simp only [Bool.false_bne, Bool.false_eq_true, if_false, if_true]
      · refine ⟨k + 1, by omega, by omega, ?_⟩
        simp only [Bool.true_bne, Bool.not_false, Bool.false_eq_true, if_false, if_true]
      · simp only [bne_self_eq_false, Bool.false_eq_true, if_false, if_true, hi0, hi1]
        refine ⟨k, by omega, by omega, ?_⟩
        by_cases h3 : (rd_T54 b (i : Int)).f0 < (rd_T54 b best).f0
        · rw [if_pos h3, if_pos (by rw [decide_eq_true h3]; rfl)]
          simp only [spec_Propose.j6, if_true, ew]
        · rw [if_neg h3]
          by_cases h4 : (rd_T54 b (i : Int)).f0 = (rd_T54 b best).f0
          · rw [if_pos h4, decide_eq_false h3, decide_eq_true h4]
            simp only [spec_Propose.j6, if_true, ew, Bool.false_or, Bool.true_and]
            split <;> rfl
          · rw [if_neg h4, decide_eq_false h3, decide_eq_false h4]
            simp only [spec_Propose.j6, if_true, ew, Bool.false_or, Bool.false_and, Bool.false_eq_true, if_false]
  · rw [spec_Propose.j5, if_pos rfl, if_pos rfl, ew]
    exact ⟨k + 1, by omega, by omega, rfl⟩
theorem l2_step (b : List S54) (a1 a2 cash : Int) (out seen : List Int) (best : Int) (i : Nat) (hi : i < b.length) (hn : b.length ≤ 1000) (hb : best < (b.length : Int)) (k : Nat) (hs : seen.length ≤ 1000) (hk : 1000 ≤ k) :
    ∃ k', k ≤ k' ∧ k' ≤ k + 1 ∧ spec_Propose.l2 (k + 4) b a1 a2 cash out seen best (i : Int) = spec_Propose.l2 k' b a1 a2 cash out seen (nx b a2 (decide ((i : Int) ∈ seen) || !elig b a1 a2 (i : Int)) best (i : Int)) ((i + 1 : Nat) : Int) := by
  have has := l7Has_eq seen (i : Int) (by omega) (k + 2) (by omega)
  have ed : decide ((rd_T54 b (i : Int)).f0 ≤ a2) = due b a2 (i : Int) := rfl
  have go : ∀ x16 : Bool, (due b a2 (i : Int) = false → x16 = impl_Propose.isC a1 a2 (rd_T54 b (i : Int))) → ∃ k', k ≤ k' ∧ k' ≤ k + 1 ∧ spec_Propose.j4 (k + 3) b a1 a2 cash out seen best (i : Int) (due b a2 (i : Int)) x16 = spec_Propose.l2 k' b a1 a2 cash out seen (nx b a2 (decide ((i : Int) ∈ seen) || !elig b a1 a2 (i : Int)) best (i : Int)) ((i + 1 : Nat) : Int) := by
    intro x16 hx
    rw [spec_Propose.j4, has]
    simp only [Option.bind_some]
    unfold elig
    cases hseen : decide ((i : Int) ∈ seen)
    · rw [if_neg (by simp)]
      cases hd : due b a2 (i : Int)
      · rw [if_neg (by simp), hx hd, ← hd]
        simpa [hd] using j5_eq b a1 a2 cash out seen best i hi hn hb (!impl_Propose.isC a1 a2 (rd_T54 b (i : Int))) k
      · rw [if_pos rfl, ← hd]
        simpa [hd] using j5_eq b a1 a2 cash out seen best i hi hn hb false k
    · rw [if_pos rfl]
      simpa using j5_eq b a1 a2 cash out seen best i hi hn hb true k
  rw [spec_Propose.l2, if_pos (by omega), if_pos (by omega), ed]
  by_cases h1 : (rd_T54 b (i : Int)).f0 ≤ a2
  · rw [if_pos h1]
    exact go false (fun h => by rw [← ed, decide_eq_true h1] at h; cases h)
  · rw [if_neg h1, l1In_eq]
    simp only [Option.bind_some]
    by_cases h2 : a1 ≤ (rd_T54 b (i : Int)).f1 ∧ (rd_T54 b (i : Int)).f1 ≤ a2
    · rw [decide_eq_true h2, if_pos rfl]
      exact go _ (fun _ => by unfold impl_Propose.isC; rw [decide_eq_true h2.1, decide_eq_true h2.2]; rfl)
    · rw [decide_eq_false h2, if_neg (by simp)]
      refine go _ (fun _ => ?_)
      unfold impl_Propose.isC
      symm
      simp only [Bool.and_eq_false_iff, decide_eq_false_iff_not]
      omega
def Inv (b : List S54) (a1 a2 : Int) (seen : List Int) (best : Int) (i : Nat) : Prop := (best = -1 ∧ ∀ j : Nat, j < i → elig b a1 a2 (j : Int) = true → (j : Int) ∈ seen) ∨ (∃ m : Nat, best = (m : Int) ∧ m < i ∧ elig b a1 a2 (m : Int) = true ∧ (m : Int) ∉ seen ∧ ∀ j : Nat, j < i → elig b a1 a2 (j : Int) = true → (j : Int) ∉ seen → j = m ∨ Rr (bt b a2) (m : Int) (j : Int))
theorem Inv.step {b : List S54} {a1 a2 : Int} {seen : List Int} {best : Int} {i : Nat} (h : Inv b a1 a2 seen best i) : Inv b a1 a2 seen (nx b a2 (decide ((i : Int) ∈ seen) || !elig b a1 a2 (i : Int)) best (i : Int)) (i + 1) := by
  have S := bt_sw b a2
  unfold nx
  by_cases hs : (i : Int) ∈ seen
  · rw [if_pos (by simp [hs])]
    rcases h with ⟨h1, h2⟩ | ⟨m, h1, h2, h3, h4, h5⟩
    · exact .inl ⟨h1, fun j hj he => by rcases Nat.lt_succ_iff_lt_or_eq.1 hj with h | h; exact h2 j h he; exact h ▸ hs⟩
    · exact .inr ⟨m, h1, by omega, h3, h4, fun j hj he hn => by rcases Nat.lt_succ_iff_lt_or_eq.1 hj with h | h; exact h5 j h he hn; exact absurd (h ▸ hs) hn⟩
  · cases he : elig b a1 a2 (i : Int)
    · rw [if_pos (by simp)]
      rcases h with ⟨h1, h2⟩ | ⟨m, h1, h2, h3, h4, h5⟩
      · exact .inl ⟨h1, fun j hj he2 => by rcases Nat.lt_succ_iff_lt_or_eq.1 hj with h | h; exact h2 j h he2; rw [h, he] at he2; cases he2⟩
      · exact .inr ⟨m, h1, by omega, h3, h4, fun j hj he2 hn => by rcases Nat.lt_succ_iff_lt_or_eq.1 hj with h | h; exact h5 j h he2 hn; rw [h, he] at he2; cases he2⟩
    · rw [if_neg (by simp [hs])]
      rcases h with ⟨h1, h2⟩ | ⟨m, h1, h2, h3, h4, h5⟩
      · rw [if_pos (by omega)]
        exact .inr ⟨i, rfl, by omega, he, hs, fun j hj he2 hn => by rcases Nat.lt_succ_iff_lt_or_eq.1 hj with h | h; exact absurd (h2 j h he2) hn; exact .inl h⟩
      · subst h1
        rw [if_neg (by omega)]
        cases hb : bt b a2 (i : Int) (m : Int)
        · rw [if_neg (by simp)]
          exact .inr ⟨m, rfl, by omega, h3, h4, fun j hj he2 hn => by
            rcases Nat.lt_succ_iff_lt_or_eq.1 hj with h | h
            · exact h5 j h he2 hn
            · subst h; exact .inr (.inr ⟨hb, by omega⟩)⟩
        · rw [if_pos rfl]
          refine .inr ⟨i, rfl, by omega, he, hs, fun j hj he2 hn => ?_⟩
          rcases Nat.lt_succ_iff_lt_or_eq.1 hj with h | h
          · refine .inr (.inl ?_)
            rcases h5 j h he2 hn with h6 | h6
            · rw [h6]; exact hb
            · rcases h6 with h6 | ⟨h6, _⟩
              · exact S.trans hb h6
              · rcases S.nt _ _ (j : Int) hb with h7 | h7
                · exact h7
                · rw [h6] at h7; cases h7
          · exact .inl h
theorem Inv.lt {b : List S54} {a1 a2 : Int} {seen : List Int} {best : Int} {i : Nat} (h : Inv b a1 a2 seen best i) (hi : i ≤ b.length) (hb : 0 < b.length) : best < (b.length : Int) := by
  rcases h with ⟨h1, _⟩ | ⟨m, h1, h2, _⟩ <;> omega
theorem scanB (b : List S54) (a1 a2 cash : Int) (out seen : List Int) (hn : b.length ≤ 1000) (hs : seen.length ≤ 1000) : ∀ (d i k : Nat) (best : Int), i + d = b.length → Inv b a1 a2 seen best i → 4 * d + 1004 ≤ k → ∃ k' best', k ≤ k' + 4 * d ∧ k' ≤ k ∧ Inv b a1 a2 seen best' b.length ∧ spec_Propose.l2 k b a1 a2 cash out seen best (i : Int) = spec_Propose.l2 k' b a1 a2 cash out seen best' (b.length : Int) := by
  intro d
  induction d with
  | zero =>
    intro i k best hi hI hk
    obtain rfl : i = b.length := by omega
    exact ⟨k, best, by omega, Nat.le_refl _, hI, rfl⟩
  | succ d ih =>
    intro i k best hi hI hk
    obtain ⟨k, rfl⟩ : ∃ m, k = m + 4 := ⟨k - 4, by omega⟩
    obtain ⟨k1, g1, g2, e1⟩ := l2_step b a1 a2 cash out seen best i (by omega) hn (hI.lt (by omega) (by omega)) k hs (by omega)
    obtain ⟨k2, best', g3, g4, hI2, e2⟩ := ih (i + 1) k1 _ (by omega) hI.step (by omega)
    exact ⟨k2, best', by omega, by omega, hI2, e1.trans e2⟩
theorem pickL (b : List S54) (a1 a2 : Int) (L : List Int) (hn : b.length ≤ 1000) (O : Ord b a1 a2 L) : ∀ (d p k : Nat) (cash : Int) (out : List Int), p + d = L.length → 6000 * d + 6000 ≤ k → out.length ≤ p → spec_Propose.l1 k b a1 a2 cash out (L.take p) = some (impl_Propose.gr b (L.drop p) cash out) := by
  have S := bt_sw b a2
  have hL := O.len
  intro d
  induction d with
  | zero =>
    intro p k cash out hp hk ho
    obtain ⟨k, rfl⟩ : ∃ m, k = m + 1 := ⟨k - 1, by omega⟩
    rw [spec_Propose.l1]
    obtain ⟨k', best, g1, g2, hI, e⟩ := scanB b a1 a2 cash out (L.take p) hn (by rw [List.length_take]; omega) b.length 0 k (-1) (by omega) (.inl ⟨rfl, fun j hj => by omega⟩) (by omega)
    replace e : spec_Propose.l2 k b a1 a2 cash out (L.take p) (-1) 0 = _ := e
    obtain rfl : p = L.length := by omega
    rw [e]
    rw [List.take_length] at hI ⊢
    rcases hI with ⟨rfl, _⟩ | ⟨m, _, h2, h3, h4, _⟩
    · obtain ⟨k', rfl⟩ : ∃ m, k' = m + 1 := ⟨k' - 1, by omega⟩
      rw [spec_Propose.l2, if_neg (by omega), if_pos (by omega), List.drop_length]
      rfl
    · exact absurd ((O.mem _).2 ⟨m, h2, h3, rfl⟩) h4
  | succ d ih =>
    intro p k cash out hp hk ho
    obtain ⟨k, rfl⟩ : ∃ m, k = m + 1 := ⟨k - 1, by omega⟩
    have hpl : p < L.length := by omega
    rw [spec_Propose.l1]
    obtain ⟨k', best, g1, g2, hI, e⟩ := scanB b a1 a2 cash out (L.take p) hn (by rw [List.length_take]; omega) b.length 0 k (-1) (by omega) (.inl ⟨rfl, fun j hj => by omega⟩) (by omega)
    replace e : spec_Propose.l2 k b a1 a2 cash out (L.take p) (-1) 0 = _ := e
    rw [e]
    clear e
    have hpw := List.pairwise_iff_getElem.1 O.pw
    have hnot : L[p] ∉ L.take p := by
      intro h
      obtain ⟨q, hq, e⟩ := List.mem_iff_getElem.1 h
      rw [List.length_take] at hq
      rw [List.getElem_take] at e
      have := hpw q p (by omega) hpl (by omega)
      rw [e] at this
      exact Rr_irrefl S _ this
    obtain ⟨m, hm, em, eLp⟩ := (O.mem L[p]).1 (List.getElem_mem hpl)
    have hbest : best = L[p] := by
      rcases hI with ⟨_, h2⟩ | ⟨m', h1, h2, h3, h4, h5⟩
      · exact absurd (eLp ▸ h2 m hm em) hnot
      · subst h1
        have hin : (m' : Int) ∈ L := (O.mem _).2 ⟨m', h2, h3, rfl⟩
        obtain ⟨q, hq, eq⟩ := List.mem_iff_getElem.1 hin
        rcases Nat.lt_trichotomy q p with h | h | h
        · exfalso
          apply h4
          rw [← eq]
          exact List.mem_iff_getElem.2 ⟨q, by rw [List.length_take]; omega, by rw [List.getElem_take]⟩
        · subst h; exact eq.symm
        · have h6 := hpw p q hpl hq h
          rw [eq] at h6
          rcases h5 m hm em (eLp ▸ hnot) with h7 | h7
          · rw [eLp, h7]
          · rw [← eLp] at h7
            exact absurd h7 (fun h8 => Rr_anti S h6 h8)
    subst hbest
    obtain ⟨k', rfl⟩ : ∃ m, k' = m + 1 := ⟨k' - 1, by omega⟩
    have hlt : (L.take p).length = p := by rw [List.length_take]; omega
    rw [spec_Propose.l2, if_neg (by omega), if_neg (by omega), hlt, if_pos (by omega)]
    simp only [Option.bind_some]
    rw [if_pos (by omega), if_pos (by omega), List.take_append_getElem hpl, List.drop_eq_getElem_cons hpl, impl_Propose.gr]
    by_cases hc : (rd_T54 b L[p]).f3 ≤ cash
    · rw [if_pos hc, if_pos hc, if_pos (by omega)]
      exact ih (p + 1) k' _ _ (by omega) (by omega) (by rw [List.length_append]; simp; omega)
    · rw [if_neg hc, if_neg hc]
      exact ih (p + 1) k' _ _ (by omega) (by omega) (by omega)

/-! ### Both come to the same -/
theorem l0_step (b : List S54) (a1 a2 cash : Int) (out : List Int) (i : Nat) (hi : i < b.length) (hn : b.length ≤ 1000) (k : Nat) : spec_Propose.l0 (k + 1) b a1 a2 cash out (i : Int) = if impl_Propose.good (rd_T54 b (i : Int)) = true then spec_Propose.l0 k b a1 a2 cash out ((i + 1 : Nat) : Int) else some out := by
  rw [spec_Propose.l0, if_pos (by omega), if_pos (by omega), l2Day_eq, l2Day_eq, l13Rate_eq, l1In_eq, w64i hi (by omega)]
  unfold impl_Propose.good
  simp only [Option.bind_some]
  cases decide (0 ≤ (rd_T54 b (i : Int)).f0 ∧ (rd_T54 b (i : Int)).f0 ≤ 40000) <;> cases decide (0 ≤ (rd_T54 b (i : Int)).f1 ∧ (rd_T54 b (i : Int)).f1 ≤ 40000) <;> cases decide (0 ≤ (rd_T54 b (i : Int)).f2 ∧ (rd_T54 b (i : Int)).f2 ≤ 100000) <;> cases decide (1 ≤ (rd_T54 b (i : Int)).f3 ∧ (rd_T54 b (i : Int)).f3 ≤ 100000000000) <;> rfl
theorem l0_all (b : List S54) (a1 a2 cash : Int) (out : List Int) (hn : b.length ≤ 1000) (hg : ∀ n : Nat, n < b.length → impl_Propose.good (rd_T54 b (n : Int)) = true) : ∀ (d i k : Nat), i + d = b.length → spec_Propose.l0 (k + 1 + d) b a1 a2 cash out (i : Int) = spec_Propose.l1 k b a1 a2 cash out [] := by
  intro d
  induction d with
  | zero =>
    intro i k hi
    rw [Nat.add_zero, spec_Propose.l0, if_neg (by omega)]
  | succ d ih =>
    intro i k hi
    rw [← Nat.add_assoc, l0_step b a1 a2 cash out i (by omega) hn, if_pos (hg i (by omega))]
    exact ih (i + 1) k (by omega)
theorem l0_bad (b : List S54) (a1 a2 cash : Int) (out : List Int) (hn : b.length ≤ 1000) : ∀ (d i k : Nat), i + d = b.length → d ≤ k → (∃ n : Nat, i ≤ n ∧ n < b.length ∧ ¬ impl_Propose.good (rd_T54 b (n : Int)) = true) → spec_Propose.l0 k b a1 a2 cash out (i : Int) = some out := by
  intro d
  induction d with
  | zero => intro i k hi hk ⟨n, h1, h2, _⟩; omega
  | succ d ih =>
    intro i k hi hk ⟨n, h1, h2, h3⟩
    obtain ⟨k, rfl⟩ : ∃ m, k = m + 1 := ⟨k - 1, by omega⟩
    rw [l0_step b a1 a2 cash out i (by omega) hn]
    by_cases h : impl_Propose.good (rd_T54 b (i : Int)) = true
    · rw [if_pos h]
      have : i ≠ n := fun e => h3 (e ▸ h)
      exact ih (i + 1) k (by omega) (by omega) ⟨n, by omega, h2, h3⟩
    · rw [if_neg h]
theorem specF (k : Nat) (b : List S54) (a1 a2 a3 : Int) : spec_Propose.f (k + 1) b a1 a2 a3 = if impl_Propose.args b a1 a2 a3 = true then spec_Propose.l0 k b a1 a2 a3 [] 0 else some [] := by
  unfold spec_Propose.f impl_Propose.args
  simp only [Option.bind_some, l2Day_eq, l1In_eq, spec_Propose.j0, if_true]
  by_cases h0 : (b.length : Int) > 100
  · rw [if_pos h0, decide_eq_false (show ¬ b.length ≤ 100 by omega)]
    simp
  · rw [if_neg h0, decide_eq_true (show b.length ≤ 100 by omega), Bool.true_and]
    cases h1 : decide (0 ≤ a1 ∧ a1 ≤ 40000) <;> cases h2 : decide (0 ≤ a2 ∧ a2 ≤ 40000) <;> simp only [Bool.false_and, Bool.true_and, Bool.false_eq_true, if_false, if_true]
    by_cases h3 : a2 ≤ a1
    · rw [if_pos h3, decide_eq_false (show ¬ a1 < a2 by omega)]
      simp
    · rw [if_neg h3, decide_eq_true (show a1 < a2 by omega), Bool.true_and]
      cases decide (0 ≤ a3 ∧ a3 ≤ 100000000000) <;> simp
theorem prop_same (b : List S54) (a1 a2 a3 : Int) : ∃ r : List Int, (∀ k, 1000000 ≤ k → spec_Propose.f k b a1 a2 a3 = some r ∧ impl_Propose.f k b a1 a2 a3 = some r) ∧ (r = [] ∨ (impl_Propose.args b a1 a2 a3 = true ∧ (∀ n : Nat, n < b.length → impl_Propose.good (rd_T54 b (n : Int)) = true) ∧ ∃ L, Ord b a1 a2 L ∧ r = impl_Propose.gr b L a3 [])) := by
  cases ha : impl_Propose.args b a1 a2 a3
  · refine ⟨[], fun k hk => ?_, .inl rfl⟩
    obtain ⟨k, rfl⟩ : ∃ m, k = m + 1 := ⟨k - 1, by omega⟩
    rw [specF]
    unfold impl_Propose.f
    rw [ha]
    exact ⟨rfl, rfl⟩
  · have hlen : b.length ≤ 100 := by
      unfold impl_Propose.args at ha
      simp only [Bool.and_eq_true, decide_eq_true_eq] at ha
      exact ha.1
    by_cases hg : ∀ n : Nat, n < b.length → impl_Propose.good (rd_T54 b (n : Int)) = true
    · obtain ⟨s1, s2, O, hin, hs⟩ := order_eq b a1 a2 (by omega)
      refine ⟨impl_Propose.gr b (s1 ++ s2) a3 [], fun k hk => ⟨?_, ?_⟩, .inr ⟨rfl, hg, s1 ++ s2, O, rfl⟩⟩
      · obtain ⟨k, rfl⟩ : ∃ m, k = m + 1 := ⟨k - 1, by omega⟩
        rw [specF, ha, if_pos rfl]
        have e := l0_all b a1 a2 a3 [] (by omega) hg b.length 0 (k - 1 - b.length) (by omega)
        rw [show k - 1 - b.length + 1 + b.length = k by omega] at e
        refine Eq.trans e ?_
        have hL := O.len
        exact pickL b a1 a2 (s1 ++ s2) (by omega) O (s1 ++ s2).length 0 (k - 1 - b.length) a3 [] (by omega) (by omega) (Nat.le_refl _)
      · unfold impl_Propose.f
        rw [ha, if_pos rfl, if_pos (impl_Propose.all_good.2 hg), (hs k (by omega)).1]
        simp only [Option.bind_some]
        rw [(hs k (by omega)).2]
        simp only [Option.bind_some]
        have hL := O.len
        rw [if_pos (by rw [hin, decide_eq_true (by omega)]; rfl)]
    · have hbad : ∃ n : Nat, 0 ≤ n ∧ n < b.length ∧ ¬ impl_Propose.good (rd_T54 b (n : Int)) = true := by
        apply Classical.byContradiction
        intro hn
        refine hg (fun j hj => ?_)
        apply Classical.byContradiction
        intro h3
        exact hn ⟨j, by omega, hj, h3⟩
      refine ⟨[], fun k hk => ⟨?_, ?_⟩, .inl rfl⟩
      · obtain ⟨k, rfl⟩ : ∃ m, k = m + 1 := ⟨k - 1, by omega⟩
        rw [specF, ha, if_pos rfl]
        exact l0_bad b a1 a2 a3 [] (by omega) b.length 0 k (by omega) (by omega) hbad
      · unfold impl_Propose.f
        rw [ha, if_pos rfl, if_neg (fun h => hg (impl_Propose.all_good.1 h))]
/-! ### What is told of the chosen -/
def gs (b : List S54) : List Int → Int → List Int
  | [], _ => []
  | i :: is, c => if (rd_T54 b i).f3 ≤ c then i :: gs b is (c - (rd_T54 b i).f3) else gs b is c
theorem gr_gs (b : List S54) : ∀ (L : List Int) (c : Int) (out : List Int), 0 ≤ c → c ≤ 100000000000 → (∀ x ∈ L, 1 ≤ (rd_T54 b x).f3) → impl_Propose.gr b L c out = out ++ gs b L c := by
  intro L
  induction L with
  | nil => intro c out _ _ _; simp [impl_Propose.gr, gs]
  | cons x L ih =>
    intro c out h0 h1 h
    have hx := h x (by simp)
    rw [impl_Propose.gr, gs]
    by_cases hc : (rd_T54 b x).f3 ≤ c
    · rw [if_pos hc, if_pos hc, w64 (by omega) (by omega), ih _ _ (by omega) (by omega) (fun y hy => h y (by simp [hy])), List.append_assoc]
      rfl
    · rw [if_neg hc, if_neg hc, ih _ _ h0 h1 (fun y hy => h y (by simp [hy]))]
theorem rdB_set (x : List Bool) (i j : Nat) (hi : i < x.length) : rdOf false (x.set i true) (j : Int) = true ↔ (j = i ∨ rdOf false x (j : Int) = true) := by
  unfold rdOf
  rw [Int.toNat_natCast, List.getD_eq_getElem?_getD, List.getD_eq_getElem?_getD]
  by_cases h : j = i
  · subst h
    rw [List.getElem?_set_self hi]
    simp
  · rw [List.getElem?_set_ne (fun e => h e.symm)]
    simp [h]
theorem laws_l1 (b : List S54) (next c : Int) (taken : List Bool) (hn : b.length ≤ 1000) (ht : taken.length = b.length) (hc : 0 ≤ c) (h : ∀ j : Nat, j < b.length → due b next (j : Int) = true → rdOf false taken (j : Int) = true ∨ c < (rd_T54 b (j : Int)).f3) : ∀ (d i k : Nat), i + d = b.length → d < k → laws_FnProposed.l1 k b next c taken (i : Int) = some true := by
  intro d
  induction d with
  | zero =>
    intro i k hi hk
    obtain ⟨k, rfl⟩ : ∃ m, k = m + 1 := ⟨k - 1, by omega⟩
    rw [laws_FnProposed.l1, if_neg (by omega), decide_eq_true hc]
  | succ d ih =>
    intro i k hi hk
    obtain ⟨k, rfl⟩ : ∃ m, k = m + 1 := ⟨k - 1, by omega⟩
    rw [laws_FnProposed.l1, if_pos (by omega), if_pos (by omega), if_pos (by omega), w64i (show i < b.length by omega) (by omega), ih (i + 1) k (by omega) (by omega)]
    by_cases h1 : rdOf false taken (i : Int) = true
    · rw [if_pos h1]
    · rw [if_neg h1]
      by_cases h2 : (rd_T54 b (i : Int)).f0 ≤ next
      · rw [if_pos h2]
        have := (h i (by omega) (decide_eq_true h2)).resolve_left h1
        rw [if_neg (by omega)]
      · rw [if_neg h2]
theorem laws_l0 (b : List S54) (next : Int) (hn : b.length ≤ 1000) (hg : ∀ n : Nat, n < b.length → impl_Propose.good (rd_T54 b (n : Int)) = true) : ∀ (os pre got : List Int) (c : Int) (taken : List Bool) (late : Bool) (k : Nat), got = pre ++ gs b os c → taken.length = b.length → (∀ j : Nat, j < b.length → (rdOf false taken (j : Int) = true ↔ (j : Int) ∈ pre)) → (∀ x ∈ os, ∃ i : Nat, i < b.length ∧ x = (i : Int)) → (∀ x ∈ os, x ∉ pre) → os.Pairwise (· ≠ ·) → os.Pairwise (fun x y => due b next x = false → due b next y = false) → (late = true → ∀ x ∈ os, due b next x = false) → 0 ≤ c → c ≤ 100000000000 → pre.length + os.length ≤ 1000000 →
    (∀ j : Nat, j < b.length → due b next (j : Int) = true → (j : Int) ∈ pre ∨ (j : Int) ∈ os ∨ c < (rd_T54 b (j : Int)).f3) → os.length + b.length + 5 ≤ k → laws_FnProposed.l0 k b next c got taken late (pre.length : Int) = some true := by
  intro os
  induction os with
  | nil =>
    intro pre got c taken late k hgot ht hpre _ _ _ _ _ h0 h1 hl hcov hk
    obtain ⟨k, rfl⟩ : ∃ m, k = m + 1 := ⟨k - 1, by omega⟩
    rw [gs, List.append_nil] at hgot
    subst hgot
    rw [laws_FnProposed.l0, if_neg (by omega)]
    refine laws_l1 b next c taken hn ht h0 (fun j hj hd => ?_) b.length 0 k (by omega) (by simp only [List.length_nil] at hk; omega)
    rcases hcov j hj hd with h | h | h
    · exact .inl ((hpre j hj).2 h)
    · cases h
    · exact .inr h
  | cons x os ih =>
    intro pre got c taken late k hgot ht hpre hin hdis hne hord hlate h0 h1 hl hcov hk
    simp only [List.length_cons] at hk hl
    obtain ⟨i, hi, rfl⟩ := hin x (by simp)
    have hgood := hg i hi
    have hf3 : 1 ≤ (rd_T54 b (i : Int)).f3 ∧ (rd_T54 b (i : Int)).f3 ≤ 100000000000 := by
      unfold impl_Propose.good at hgood
      simp only [Bool.and_eq_true, decide_eq_true_eq] at hgood
      exact hgood.2.2.2
    rw [List.pairwise_cons] at hne hord
    by_cases hc : (rd_T54 b (i : Int)).f3 ≤ c
    · rw [gs, if_pos hc] at hgot
      obtain ⟨k, rfl⟩ : ∃ m, k = m + 1 := ⟨k - 1, by omega⟩
      have hgl : pre.length < got.length := by rw [hgot]; simp
      have hel : rd got (pre.length : Int) = (i : Int) := by
        unfold rd
        rw [hgot, Int.toNat_natCast, List.getD_eq_getElem?_getD, List.getElem?_append_right (Nat.le_refl _), Nat.sub_self]
        rfl
      have hnt : ¬ rdOf false taken (i : Int) = true := fun h => hdis (i : Int) (by simp) ((hpre i hi).1 h)
      rw [laws_FnProposed.l0, if_pos (by omega), if_pos (by omega), hel, if_neg (by omega), if_neg (by omega), if_pos (by omega), if_pos (by omega), if_neg hnt, Int.toNat_natCast, w64i (show pre.length < pre.length + 1 by omega) (by omega), w64 (by omega) (by omega)]
      have hnext := ih (pre ++ [(i : Int)]) got (c - (rd_T54 b (i : Int)).f3) (taken.set i true) (decide ((rd_T54 b (i : Int)).f0 > next)) k (by rw [hgot, List.append_assoc]; rfl) (by rw [List.length_set]; exact ht) (fun j hj => by
          rw [rdB_set taken i j (by omega), List.mem_append, hpre j hj, List.mem_singleton]
          constructor
          · rintro (h | h)
            · exact .inr (by omega)
            · exact .inl h
          · rintro (h | h)
            · exact .inr h
            · exact .inl (by omega)) (fun y hy => hin y (by simp [hy])) (fun y hy h => by
          rcases List.mem_append.1 h with h | h
          · exact hdis y (by simp [hy]) h
          · rw [List.mem_singleton] at h
            exact hne.1 y hy h.symm) hne.2 hord.2 (fun hlt y hy => hord.1 y hy (by
          unfold due impl_Propose.isM
          rw [decide_eq_false_iff_not]
          have := of_decide_eq_true hlt
          omega)) (by omega) (by omega) (by rw [List.length_append]; simp; omega) (fun j hj hd => by
          rcases hcov j hj hd with h | h | h
          · exact .inl (List.mem_append.2 (.inl h))
          · rcases List.mem_cons.1 h with h | h
            · exact .inl (List.mem_append.2 (.inr (by rw [h]; simp)))
            · exact .inr (.inl h)
          · exact .inr (.inr (by omega))) (by omega)
      rw [List.length_append, List.length_singleton] at hnext
      cases late
      · rw [if_neg (by simp), if_pos (by omega)]
        exact hnext
      · have hnd := hlate rfl (i : Int) (by simp)
        unfold due impl_Propose.isM at hnd
        rw [decide_eq_false_iff_not] at hnd
        rw [if_pos rfl, if_pos (by omega), if_neg hnd]
        exact hnext
    · rw [gs, if_neg hc] at hgot
      refine ih pre got c taken late k hgot ht hpre (fun y hy => hin y (by simp [hy])) (fun y hy => hdis y (by simp [hy])) hne.2 hord.2 (fun hlt y hy => hlate hlt y (by simp [hy])) h0 h1 (by omega) (fun j hj hd => ?_) (by omega)
      rcases hcov j hj hd with h | h | h
      · exact .inl h
      · rcases List.mem_cons.1 h with h | h
        · exact .inr (.inr (by rw [h]; omega))
        · exact .inr (.inl h)
      · exact .inr (.inr h)
/-! ### The drawn bills -/
theorem drawBills_ok (L : List Int) (hL : L.length ≤ maxLen) : ∀ (m : Nat) (x : List S54) (i s : Int) (k : Nat), x.length + m ≤ 1000 → m + 10 < k → 0 ≤ i → i ≤ L.length → ∃ R, spec_DrawPropose.l0 k x (m : Int) L i s = some R := by
  intro m
  induction m with
  | zero =>
    intro x i s k hx hk h0 hi
    obtain ⟨k, rfl⟩ : ∃ q, k = q + 1 + 1 + 1 := ⟨k - 3, by omega⟩
    rw [spec_DrawPropose.l0, if_neg (by omega)]
    obtain ⟨o, j, t, e, j0, j1⟩ := once_ok L i s 25 hL h0 hi
    rw [e, Option.bind_some]
    dsimp only
    have fin : ∀ (y : List S54) (i s : Int) (k : Nat), 0 ≤ i → i ≤ L.length → ∃ R, spec_DrawPropose.j2 (k + 1) y L i s = some R := by
      intro y i s k h0 hi
      rw [spec_DrawPropose.j2]
      obtain ⟨v1, j, t, e, _, _, j0, j1⟩ := below_ok L i s 20 hL h0 hi
      rw [e, Option.bind_some]
      dsimp only
      obtain ⟨v2, j, t, e, _, j0, j1⟩ := spoil_ok L [(-1), 40001, (-9223372036854775808)] j t v1 hL j0 j1 (by simp)
      unfold spec_l2BadDay.f
      rw [e, Option.bind_some, Option.bind_some]
      dsimp only
      obtain ⟨v3, j, t, e, _, _, j0, j1⟩ := below_ok L j t 20 hL j0 j1
      rw [e, Option.bind_some]
      dsimp only
      obtain ⟨v4, j, t, e, _, _, j0, j1⟩ := below_ok L j t 20000 hL j0 j1
      rw [e, Option.bind_some]
      dsimp only
      obtain ⟨v5, j, t, e, _, j0, j1⟩ := spoil_ok L [(-1), 0, 100000000000, 100000000001] j t v4 hL j0 j1 (by simp)
      rw [e, Option.bind_some]
      exact ⟨_, rfl⟩
    have mid : ∀ (q : Bool) (i s : Int), 0 ≤ i → i ≤ L.length → (q = true → 0 < (x.length : Int)) → ∃ R, spec_DrawPropose.j1 (k + 1 + 1) x q L i s = some R := by
      intro q i s h0 hi hq
      rw [spec_DrawPropose.j1]
      cases q
      · rw [if_neg (by simp)]
        exact fin x i s k h0 hi
      · obtain ⟨v, j, t, e, _, j0, j1⟩ := pickInt_ok L [0, 100000000000, 100000000001] i s hL h0 hi (by simp)
        rw [if_pos rfl, e, Option.bind_some, if_pos (hq rfl)]
        exact fin _ _ _ k j0 j1
    cases o
    · rw [if_neg (by simp)]
      exact mid false j t j0 j1 (fun h => by cases h)
    · rw [if_pos rfl]
      exact mid _ j t j0 j1 (fun h => of_decide_eq_true h)
  | succ m ih =>
    intro x i s k hx hk h0 hi
    obtain ⟨k, rfl⟩ : ∃ q, k = q + 1 := ⟨k - 1, by omega⟩
    rw [spec_DrawPropose.l0, if_pos (by omega)]
    have e0 : wrap64 (((m + 1 : Nat) : Int) - 1) = (m : Int) := by rw [w64 (by omega) (by omega)]; omega
    obtain ⟨v1, j, t, e, _, _, j0, j1⟩ := below_ok L i s 60 hL h0 hi
    rw [e, Option.bind_some]
    dsimp only
    obtain ⟨v2, j, t, e, _, _, j0, j1⟩ := below_ok L j t 40 hL j0 j1
    rw [e, Option.bind_some]
    dsimp only
    obtain ⟨v3, j, t, e, _, _, j0, j1⟩ := below_ok L j t 5 hL j0 j1
    rw [e, Option.bind_some]
    dsimp only
    obtain ⟨v4, j, t, e, _, _, j0, j1⟩ := below_ok L j t 9 hL j0 j1
    rw [e, Option.bind_some, if_pos (by omega), e0]
    dsimp only
    exact ih _ j t k (by rw [List.length_append]; simp; omega) (by omega) j0 j1
theorem draw_ok (L : List Int) (hL : L.length ≤ maxLen) (k : Nat) (hk : 5000 ≤ k) : ∃ R, spec_DrawPropose.f k L = some R := by
  unfold spec_DrawPropose.f
  obtain ⟨t, e⟩ := l1New_ok L k (by omega)
  rw [e, Option.bind_some]
  dsimp only
  obtain ⟨z, e, z0⟩ : ∃ z, spec_l1Size.f L 14 = some z ∧ z ≤ 14 := by
    unfold spec_l1Size.f
    split
    · exact ⟨_, rfl, by omega⟩
    · exact ⟨_, rfl, by omega⟩
  rw [e, Option.bind_some]
  obtain ⟨n, j, t, e, n0, n1, j0, j1⟩ := below_ok L 0 t z hL (by omega) (by omega)
  have n2 : n ≤ 14 := by
    by_cases hz : 0 < z
    · have := n1 hz; omega
    · have h := e
      unfold spec_l1Below.f at h
      rw [if_pos (by omega)] at h
      injection h with h
      injection h with h _
      omega
  rw [e, Option.bind_some]
  dsimp only
  obtain ⟨n, rfl⟩ : ∃ m : Nat, n = m := ⟨n.toNat, by omega⟩
  exact drawBills_ok L hL n [] j t k (by simp; omega) (by omega) j0 j1
theorem first_ok : impl_Propose.f 30 [(⟨9, 3, 100, 50⟩ : S54), (⟨4, 0, 0, 70⟩ : S54), (⟨5, 0, 0, 60⟩ : S54)] 1 5 125 = some [1, 0] := by kernel_rfl
theorem first_all (k : Nat) : impl_Propose.f (30 + k) [(⟨9, 3, 100, 50⟩ : S54), (⟨4, 0, 0, 70⟩ : S54), (⟨5, 0, 0, 60⟩ : S54)] 1 5 125 = some [1, 0] := by
  induction k with
  | zero => exact first_ok
  | succ k ih => exact impl_Propose.mono _ _ _ _ (30 + k) _ ih
theorem FnProposed : laws_FnProposed.Pure := by
  intro l0 hl _ _
  obtain ⟨k, hk⟩ : ∃ k, k = 2000000 := ⟨_, rfl⟩
  refine ⟨k, ?_⟩
  unfold laws_FnProposed.f laws_big.f
  simp only [Option.bind_some]
  by_cases hbig : (l0.length : Int) > 1048576
  · rw [if_pos (decide_eq_true hbig)]
  · rw [if_neg (by simpa using hbig)]
    have e1 := first_all (k - 30)
    rw [show 30 + (k - 30) = k by omega] at e1
    rw [e1]
    simp only [Option.bind_some]
    obtain ⟨k2, hk2⟩ : ∃ q, k = q + 1 := ⟨k - 1, by omega⟩
    rw [if_pos (by rfl), if_pos (by decide), if_pos (by rfl), if_pos (by decide), hk2, laws_FnProposed.j0, if_neg (by decide)]
    obtain ⟨⟨b, a1, a2, a3⟩, e2⟩ := draw_ok l0 hl k2 (by omega)
    rw [e2]
    simp only [Option.bind_some]
    obtain ⟨r, hr, hcase⟩ := prop_same b a1 a2 a3
    rw [(hr k2 (by omega)).1]
    simp only [Option.bind_some]
    rw [(hr k2 (by omega)).2]
    simp only [Option.bind_some, if_true]
    by_cases hr0 : (r.length : Int) = 0
    · rw [if_pos hr0]
    · rw [if_neg hr0]
      rcases hcase with rfl | ⟨ha, hg, L, O, rfl⟩
      · exact absurd rfl hr0
      · unfold impl_Propose.args at ha
        simp only [Bool.and_eq_true, decide_eq_true_eq] at ha
        obtain ⟨hlen, _, _, _, h30, h31⟩ := ha
        have S := bt_sw b a2
        have hf3 : ∀ x ∈ L, 1 ≤ (rd_T54 b x).f3 := by
          intro x hx
          obtain ⟨i, hi, _, rfl⟩ := (O.mem x).1 hx
          have := hg i hi
          unfold impl_Propose.good at this
          simp only [Bool.and_eq_true, decide_eq_true_eq] at this
          exact this.2.2.2.1
        have hgr := gr_gs b L a3 [] h30 h31 hf3
        rw [List.nil_append] at hgr
        rw [hgr, if_pos (by omega), if_pos (by omega)]
        have hL := O.len
        refine laws_l0 b a2 (by omega) hg L [] _ a3 _ false k2 (by rw [List.nil_append]) (by simp) (fun j hj => ?_) (fun x hx => ?_) (fun x _ h => by cases h) (O.pw.imp (fun {x y} h e => ?_)) (O.pw.imp (fun {x y} h hd => ?_)) (fun h => by cases h) h30 h31 (by simp; omega) (fun j hj hd => ?_) (by omega)
        · unfold rdOf
          rw [Int.toNat_natCast, List.getD_eq_getElem?_getD]
          simp [List.getElem?_replicate, hj]
        · obtain ⟨i, hi, _, e⟩ := (O.mem x).1 hx
          exact ⟨i, hi, e⟩
        · subst e
          exact Rr_irrefl S _ h
        · cases hy : due b a2 y
          · rfl
          · exfalso
            rcases h with h | ⟨h, _⟩
            · unfold bt at h
              rw [if_neg (by rw [hd]; simp), if_pos hy] at h
              cases h
            · unfold bt at h
              rw [if_pos hy, if_neg (by rw [hd]; simp)] at h
              cases h
        · exact .inr (.inl ((O.mem _).2 ⟨j, hj, by unfold elig; rw [hd]; rfl, rfl⟩))

end Go.Proofs.Ytdnfagcnojnmiaa.Pure
