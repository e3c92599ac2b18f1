/-
  The law FnExactPegs: its own walk, in company.
-/
import Derived.Test.YtakjhhkffiffdaaPegs
import Derived.Test.YtakjhhkffiffdaaPureLists
import Derived.Test.YtakjhhkffiffdaaWKept
set_option linter.unusedVariables false
set_option linter.unusedSimpArgs false
namespace Go.Proofs.Ytakjhhkffiffdaa
open Go.RowKit Go.Conc Go.Proofs.YtakjhhkffiffdaaLift Go.Proofs.YtakjhhkffiffdaaW.PrintWords Go.Proofs.Ytakjhhkffiffdaa.PFnExactPegs

/-- Blocks from a to b. -/
def iv (a b : Nat) : Nat → Prop := fun k => a ≤ k ∧ k < b
theorem to_iv {α : Type} {d : Kd α} {e : Nat} {W w w' : World} {v : Value} {xs : List α} (h : d.R e w' w.heap.size (fun _ => True) v xs) (hle : W.heap.size ≤ w.heap.size) : d.R e w' W.heap.size (iv w.heap.size w'.heap.size) v xs :=
  Kd.R_lower (Kd.R_mono (Kd.R_bound h) fun k hk => ⟨hk.2.1, hk.2.2.1⟩) hle

section
variable {W w : World} {A A' : Option Addr} {c c' : Nat} {ns os : List Int} {hv : Int} {res : List S34} {v v' : Value} {t t' B B' : Nat} {P P' : Nat → Prop}

theorem toI {l : List Int} (hA : KI.C w A l.length l) (hc : l.length ≤ c) (hl : l.length ≤ 4000000) : CallsA Try.prog 5 #[.slice A l.length c] w (fun u w' => KI.R 3 w' w.heap.size (fun _ => True) u l ∧ Below w.heap.size w w') :=
  toIntS_A hA hc (toIntS_eq l (by omega) (l.length + 1) (by omega))
theorem specP (h : KI.R t w B P v ns) (h' : KI.R t' w B' P' v' os) (hs : ∃ k, spec_Pegs.f k ns hv os = some res) : CallsA Try.prog 4 #[v, .int .i64 hv, v'] w (fun u w' => k34.R 34 w' w.heap.size (fun _ => True) u res ∧ Below w.heap.size w w') := by
  obtain ⟨A, c, rfl, hc, hC⟩ := Kd.R_reads h
  obtain ⟨A', c', rfl, hc', hC'⟩ := Kd.R_reads h'
  obtain ⟨k, hk⟩ := hs
  exact specPegs_A hC hc hC' hc' hk
theorem implP (h : KI.R t w B P v ns) (h' : KI.R t' w B' P' v' os) {k : Nat} (hs : Res ns os hv k res) : CallsA Try.prog 6 #[v, .int .i64 hv, v'] w (fun u w' => k34.R 34 w' w.heap.size (fun _ => True) u res ∧ Below w.heap.size w w') := by
  obtain ⟨A, c, rfl, hc, hC⟩ := Kd.R_reads h
  obtain ⟨A', c', rfl, hc', hC'⟩ := Kd.R_reads h'
  cases hs with
  | n1 h1 => exact pegs_n1 hC hc hC' hc' h1
  | n2 h1 h2 => exact pegs_n2 hC hc hC' hc' h1 h2
  | n3 h1 h2 h3 => exact pegs_n3 hC hc hC' hc' h1 h2 h3
  | y h1 h2 h3 hpr hns hos hol hord => exact pegs_y hC hc hC' hc' h1 h2 h3 hpr hns hos hol hord
theorem eqP {l : List S34} (h : k34.R t w B P v l) (h' : k34.R t' w B' P' v' l) (hl : l.length ≤ 4000000) : CallsA Try.prog 7 #[v, v'] w (fun u w' => u = .bool true ∧ Below w.heap.size w w') := by
  obtain ⟨A, c, rfl, hc, hC⟩ := Kd.R_reads h
  obtain ⟨A', c', rfl, hc', hC'⟩ := Kd.R_reads h'
  exact eqPegS_A hC hc hC' hc' (eqPegS_refl l (by omega) (l.length + 1) (by omega))
theorem eqI {l : List Int} (h : KI.R t w B P v l) (h' : KI.R t' w B' P' v' l) (hl : l.length ≤ 4000000) : CallsA Try.prog 8 #[v, v'] w (fun u w' => u = .bool true ∧ Below w.heap.size w w') := by
  obtain ⟨A, c, rfl, hc, hC⟩ := Kd.R_reads h
  obtain ⟨A', c', rfl, hc', hC'⟩ := Kd.R_reads h'
  exact eqIntS_A hC hc hC' hc' (eqIntS_refl l (by omega) (l.length + 1) (by omega))
theorem markI {l : List Int} {a : Int} (hB : Below W.heap.size W w) (h : KI.R 3 w W.heap.size P v l) (ha : 0 ≤ a) (ha2 : a ≤ 1000000000) (hl : l.length ≤ 4000000) :
    CallsA Try.prog 9 #[v, .int .i64 a] w (fun u w' => u = .int .i64 (a + l.length) ∧ Below W.heap.size W w' ∧ WKept w w' P) := by
  obtain ⟨M, hM⟩ := markIntS_eq l a ha (by omega) (l.length + 1) (by omega)
  exact (markIntS_A hB h hM).mono fun u w' ⟨h1, _, h3, h4⟩ => ⟨h1, h3, h4⟩
theorem markP {l : List S34} (hB : Below W.heap.size W w) (h : k34.R 34 w W.heap.size P v l) (hl : l.length ≤ 100000) :
    CallsA Try.prog 10 #[v, .int .i64 1] w (fun u w' => u = .int .i64 (1 + 3 * (l.length : Int)) ∧ (∃ M, k34.R 34 w' W.heap.size P v M ∧ M.length = l.length ∧ ∀ j, j < l.length → M[j]? = some (⟨1 + 3 * j, 2 + 3 * j, 3 + 3 * j⟩ : S34)) ∧ Below W.heap.size W w' ∧ WKept w w' P) := by
  obtain ⟨M, hM, m1, m2⟩ := markPegS_eq l (by omega) (l.length + 1) (by omega)
  exact (markPegS_A hB h hM).mono fun u w' ⟨h1, h2, h3, h4⟩ => ⟨h1, ⟨M, h2, m1, m2⟩, h3, h4⟩
theorem heldP {M : List S34} {n : Nat} (h : k34.R t w B P v M) (hl : M.length = n) (hm : ∀ j, j < n → M[j]? = some (⟨1 + 3 * j, 2 + 3 * j, 3 + 3 * j⟩ : S34)) (hn : n ≤ 100000) :
    CallsA Try.prog 11 #[v, .int .i64 1] w (fun u w' => u = .int .i64 (1 + 3 * (n : Int)) ∧ Below w.heap.size w w') := by
  obtain ⟨A, c, rfl, hc, hC⟩ := Kd.R_reads h
  exact heldPegS_A hC hc (heldPegS_eq M n (by omega) hl hm (n + 1) (by omega))
end

noncomputable def body3 : Code := Try.f3.body.getD .skip

/-- What the law comes to: it returns true; what was there is as it was. -/
abbrev PostL (W : World) (v : Value) (w' : World) : Prop := v = .bool true ∧ Below W.heap.size W w'

set_option maxRecDepth 100000 in
set_option maxHeartbeats 8000000 in
theorem law_a {W : World} {A0 A2 : Option Addr} {c0 c2 : Nat} {l0 l2 : List Int} {hv : Int} (h0 : KI.C W A0 l0.length l0) (hc0 : l0.length ≤ c0) (h2 : KI.C W A2 l2.length l2) (hc2 : l2.length ≤ c2) (hl : 1048576 < l0.length) :
    GetsA Try.prog (AtFin Try.prog (PostL W)) (G ((base 3).at ⟨#[.slice A0 l0.length c0, .int .i64 hv, .slice A2 l2.length c2, undef, undef, undef, undef, undef, undef, undef, undef, undef, undef, undef, undef, undef, undef, undef, undef, undef, undef, undef, undef, undef, undef, undef, undef, undef, undef, undef, undef, undef, undef, undef, undef, undef, undef, undef, undef, undef, undef, undef, undef, undef, undef, undef, undef, undef, undef, undef, undef, undef, undef, undef, undef, undef, undef, undef, undef, undef, undef, undef, undef, undef, undef, undef, undef, undef, undef, undef, undef, undef, undef, undef, undef, undef, undef, undef, undef, undef, undef, undef, undef, undef, undef, undef, undef, undef, undef, undef, undef, undef], []⟩ [.code body3]) []) W := by
  simp only [body3, Try.f3, Option.getD_some]
  have hd : (1048576 : Int) < (l0.length : Int) := by omega
  repeat (first | (refine GetsA.goes rfl (fun d => ?_); own_rw; refine ⟨⟨fun e he => by simp at he, by first | rfl | trivial⟩, ?_⟩) | (refine GetsA.goes rfl (fun d => ?_); refine goes_oper_k rfl rfl (by decide) (fun K hK => ?_); go_simp; refine hK _ _ ⟨⟨fun e he => by (have hm := mem_listed he; simp [go_sem] at hm), rfl⟩, ?_⟩; clear hK K) | (refine GetsA.goes rfl (fun d => ?_); rw [stepG_unwanted rfl rfl]; simp only [goes_go]; refine ⟨⟨by simp, by first | rfl | trivial⟩, ?_⟩))
  refine GetsA.goes rfl (fun d => ?_)
  rw [stepG_cond (t := true) rfl]
  simp only [goes_go, if_true, if_false, Bool.false_eq_true, ↓reduceIte]
  refine ⟨⟨by simp, by first | rfl | trivial⟩, ?_⟩
  repeat (first | (refine GetsA.goes rfl (fun d => ?_); own_rw; refine ⟨⟨fun e he => by simp at he, by first | rfl | trivial⟩, ?_⟩) | (refine GetsA.goes rfl (fun d => ?_); refine goes_oper_k rfl rfl (by decide) (fun K hK => ?_); go_simp; refine hK _ _ ⟨⟨fun e he => by (have hm := mem_listed he; simp [go_sem] at hm), rfl⟩, ?_⟩; clear hK K) | (refine GetsA.goes rfl (fun d => ?_); rw [stepG_unwanted rfl rfl]; simp only [goes_go]; refine ⟨⟨by simp, by first | rfl | trivial⟩, ?_⟩))
  refine GetsA.goes rfl (fun d => ?_)
  rw [stepG_ret']
  simp only [goes_go]
  refine ⟨⟨by simp, by first | rfl | trivial⟩, ?_⟩
  refine GetsA.done fun d => ⟨rfl, fun d' => ⟨.bool true, (W.at d).at d', #[], ?_, by simp, rfl, ?_⟩⟩
  · simp [G, stepG, unwind, doReturn, results, Frame.at, base, Try.func3, Try.f3, seen, GStep.after]
  · exact below_at (below_at (Below.refl _ W) _) _

set_option maxRecDepth 100000 in
set_option maxHeartbeats 8000000 in
theorem law_b {W : World} {A0 A2 : Option Addr} {c0 c2 : Nat} {l0 l2 : List Int} {hv : Int} (h0 : KI.C W A0 l0.length l0) (hc0 : l0.length ≤ c0) (h2 : KI.C W A2 l2.length l2) (hc2 : l2.length ≤ c2) (hl : l0.length ≤ 1048576) (hl2 : 1048576 < l2.length) :
    GetsA Try.prog (AtFin Try.prog (PostL W)) (G ((base 3).at ⟨#[.slice A0 l0.length c0, .int .i64 hv, .slice A2 l2.length c2, undef, undef, undef, undef, undef, undef, undef, undef, undef, undef, undef, undef, undef, undef, undef, undef, undef, undef, undef, undef, undef, undef, undef, undef, undef, undef, undef, undef, undef, undef, undef, undef, undef, undef, undef, undef, undef, undef, undef, undef, undef, undef, undef, undef, undef, undef, undef, undef, undef, undef, undef, undef, undef, undef, undef, undef, undef, undef, undef, undef, undef, undef, undef, undef, undef, undef, undef, undef, undef, undef, undef, undef, undef, undef, undef, undef, undef, undef, undef, undef, undef, undef, undef, undef, undef, undef, undef, undef, undef], []⟩ [.code body3]) []) W := by
  simp only [body3, Try.f3, Option.getD_some]
  have hd0 : ¬ (1048576 : Int) < (l0.length : Int) := by omega
  have hd : (1048576 : Int) < (l2.length : Int) := by omega
  repeat (first | (refine GetsA.goes rfl (fun d => ?_); own_rw; refine ⟨⟨fun e he => by simp at he, by first | rfl | trivial⟩, ?_⟩) | (refine GetsA.goes rfl (fun d => ?_); refine goes_oper_k rfl rfl (by decide) (fun K hK => ?_); go_simp; refine hK _ _ ⟨⟨fun e he => by (have hm := mem_listed he; simp [go_sem] at hm), rfl⟩, ?_⟩; clear hK K) | (refine GetsA.goes rfl (fun d => ?_); rw [stepG_unwanted rfl rfl]; simp only [goes_go]; refine ⟨⟨by simp, by first | rfl | trivial⟩, ?_⟩))
  refine GetsA.goes rfl (fun d => ?_)
  rw [stepG_cond (t := false) rfl]
  simp only [goes_go, if_true, if_false, Bool.false_eq_true, ↓reduceIte]
  refine ⟨⟨by simp, by first | rfl | trivial⟩, ?_⟩
  repeat (first | (refine GetsA.goes rfl (fun d => ?_); own_rw; refine ⟨⟨fun e he => by simp at he, by first | rfl | trivial⟩, ?_⟩) | (refine GetsA.goes rfl (fun d => ?_); refine goes_oper_k rfl rfl (by decide) (fun K hK => ?_); go_simp; refine hK _ _ ⟨⟨fun e he => by (have hm := mem_listed he; simp [go_sem] at hm), rfl⟩, ?_⟩; clear hK K) | (refine GetsA.goes rfl (fun d => ?_); rw [stepG_unwanted rfl rfl]; simp only [goes_go]; refine ⟨⟨by simp, by first | rfl | trivial⟩, ?_⟩))
  refine GetsA.goes rfl (fun d => ?_)
  rw [stepG_cond (t := true) rfl]
  simp only [goes_go, if_true, if_false, Bool.false_eq_true, ↓reduceIte]
  refine ⟨⟨by simp, by first | rfl | trivial⟩, ?_⟩
  repeat (first | (refine GetsA.goes rfl (fun d => ?_); own_rw; refine ⟨⟨fun e he => by simp at he, by first | rfl | trivial⟩, ?_⟩) | (refine GetsA.goes rfl (fun d => ?_); refine goes_oper_k rfl rfl (by decide) (fun K hK => ?_); go_simp; refine hK _ _ ⟨⟨fun e he => by (have hm := mem_listed he; simp [go_sem] at hm), rfl⟩, ?_⟩; clear hK K) | (refine GetsA.goes rfl (fun d => ?_); rw [stepG_unwanted rfl rfl]; simp only [goes_go]; refine ⟨⟨by simp, by first | rfl | trivial⟩, ?_⟩))
  refine GetsA.goes rfl (fun d => ?_)
  rw [stepG_ret']
  simp only [goes_go]
  refine ⟨⟨by simp, by first | rfl | trivial⟩, ?_⟩
  refine GetsA.done fun d => ⟨rfl, fun d' => ⟨.bool true, (W.at d).at d', #[], ?_, by simp, rfl, ?_⟩⟩
  · simp [G, stepG, unwind, doReturn, results, Frame.at, base, Try.func3, Try.f3, seen, GStep.after]
  · exact below_at (below_at (Below.refl _ W) _) _

set_option maxRecDepth 100000 in
set_option maxHeartbeats 8000000 in
theorem law_c {W : World} {A0 A2 : Option Addr} {c0 c2 : Nat} {l0 l2 : List Int} {hv : Int} (h0 : KI.C W A0 l0.length l0) (hc0 : l0.length ≤ c0) (h2 : KI.C W A2 l2.length l2) (hc2 : l2.length ≤ c2) (hl : l0.length ≤ 1048576) (hl2 : l2.length ≤ 1048576) :
    GetsA Try.prog (AtFin Try.prog (PostL W)) (G ((base 3).at ⟨#[.slice A0 l0.length c0, .int .i64 hv, .slice A2 l2.length c2, undef, undef, undef, undef, undef, undef, undef, undef, undef, undef, undef, undef, undef, undef, undef, undef, undef, undef, undef, undef, undef, undef, undef, undef, undef, undef, undef, undef, undef, undef, undef, undef, undef, undef, undef, undef, undef, undef, undef, undef, undef, undef, undef, undef, undef, undef, undef, undef, undef, undef, undef, undef, undef, undef, undef, undef, undef, undef, undef, undef, undef, undef, undef, undef, undef, undef, undef, undef, undef, undef, undef, undef, undef, undef, undef, undef, undef, undef, undef, undef, undef, undef, undef, undef, undef, undef, undef, undef, undef], []⟩ [.code body3]) []) W := by
  simp only [body3, Try.f3, Option.getD_some]
  have hd0 : ¬ (1048576 : Int) < (l0.length : Int) := by omega
  have hd2 : ¬ (1048576 : Int) < (l2.length : Int) := by omega
  obtain ⟨res, hspec, hres, kk, himpl⟩ := both l0 l2 hv (by omega) (by omega)
  repeat (first | (refine GetsA.goes rfl (fun d => ?_); own_rw; refine ⟨⟨fun e he => by simp at he, by first | rfl | trivial⟩, ?_⟩) | (refine GetsA.goes rfl (fun d => ?_); refine goes_oper_k rfl rfl (by decide) (fun K hK => ?_); go_simp; refine hK _ _ ⟨⟨fun e he => by (have hm := mem_listed he; simp [go_sem] at hm), rfl⟩, ?_⟩; clear hK K) | (refine GetsA.goes rfl (fun d => ?_); rw [stepG_unwanted rfl rfl]; simp only [goes_go]; refine ⟨⟨by simp, by first | rfl | trivial⟩, ?_⟩))
  refine GetsA.goes rfl (fun d => ?_)
  rw [stepG_cond (t := false) rfl]
  simp only [goes_go, if_true, if_false, Bool.false_eq_true, ↓reduceIte]
  refine ⟨⟨by simp, by first | rfl | trivial⟩, ?_⟩
  repeat (first | (refine GetsA.goes rfl (fun d => ?_); own_rw; refine ⟨⟨fun e he => by simp at he, by first | rfl | trivial⟩, ?_⟩) | (refine GetsA.goes rfl (fun d => ?_); refine goes_oper_k rfl rfl (by decide) (fun K hK => ?_); go_simp; refine hK _ _ ⟨⟨fun e he => by (have hm := mem_listed he; simp [go_sem] at hm), rfl⟩, ?_⟩; clear hK K) | (refine GetsA.goes rfl (fun d => ?_); rw [stepG_unwanted rfl rfl]; simp only [goes_go]; refine ⟨⟨by simp, by first | rfl | trivial⟩, ?_⟩))
  refine GetsA.goes rfl (fun d => ?_)
  rw [stepG_cond (t := false) rfl]
  simp only [goes_go, if_true, if_false, Bool.false_eq_true, ↓reduceIte]
  refine ⟨⟨by simp, by first | rfl | trivial⟩, ?_⟩
  repeat (first | (refine GetsA.goes rfl (fun d => ?_); own_rw; refine ⟨⟨fun e he => by simp at he, by first | rfl | trivial⟩, ?_⟩) | (refine GetsA.goes rfl (fun d => ?_); refine goes_oper_k rfl rfl (by decide) (fun K hK => ?_); go_simp; refine hK _ _ ⟨⟨fun e he => by (have hm := mem_listed he; simp [go_sem] at hm), rfl⟩, ?_⟩; clear hK K) | (refine GetsA.goes rfl (fun d => ?_); rw [stepG_unwanted rfl rfl]; simp only [goes_go]; refine ⟨⟨by simp, by first | rfl | trivial⟩, ?_⟩))
  refine getsA_call' rfl rfl (by decide) rfl Try.func5 nm5 rfl (by simp [Act.eval]) (toI h0 hc0 (by omega)) (fun u1 w1 hr => ?_)
  obtain ⟨r1, b1⟩ := hr
  walk_nrm
  have bel := b1
  have z1 := b1.size
  repeat (first | (refine GetsA.goes rfl (fun d => ?_); own_rw; refine ⟨⟨fun e he => by simp at he, by first | rfl | trivial⟩, ?_⟩) | (refine GetsA.goes rfl (fun d => ?_); refine goes_oper_k rfl rfl (by decide) (fun K hK => ?_); go_simp; refine hK _ _ ⟨⟨fun e he => by (have hm := mem_listed he; simp [go_sem] at hm), rfl⟩, ?_⟩; clear hK K) | (refine GetsA.goes rfl (fun d => ?_); rw [stepG_unwanted rfl rfl]; simp only [goes_go]; refine ⟨⟨by simp, by first | rfl | trivial⟩, ?_⟩))
  refine getsA_call' rfl rfl (by decide) rfl Try.func5 nm5 rfl (by simp [Act.eval]) (toI (Kd.C_below h2 bel) hc2 (by omega)) (fun u2 w2 hr => ?_)
  obtain ⟨r2, b2⟩ := hr
  walk_nrm
  replace r1 := Kd.R_below r1 b2
  replace bel := below_then bel b2
  have z2 := b2.size
  repeat (first | (refine GetsA.goes rfl (fun d => ?_); own_rw; refine ⟨⟨fun e he => by simp at he, by first | rfl | trivial⟩, ?_⟩) | (refine GetsA.goes rfl (fun d => ?_); refine goes_oper_k rfl rfl (by decide) (fun K hK => ?_); go_simp; refine hK _ _ ⟨⟨fun e he => by (have hm := mem_listed he; simp [go_sem] at hm), rfl⟩, ?_⟩; clear hK K) | (refine GetsA.goes rfl (fun d => ?_); rw [stepG_unwanted rfl rfl]; simp only [goes_go]; refine ⟨⟨by simp, by first | rfl | trivial⟩, ?_⟩))
  refine getsA_call' rfl rfl (by decide) rfl Try.func4 nm4 rfl (by simp [Act.eval]) (specP r1 r2 hspec) (fun u3 w3 hr => ?_)
  obtain ⟨r3, b3⟩ := hr
  walk_nrm
  replace r3 := to_iv (W := W) r3 bel.size
  replace bel := below_then bel b3
  have z3 := b3.size
  clear r1 r2
  repeat (first | (refine GetsA.goes rfl (fun d => ?_); own_rw; refine ⟨⟨fun e he => by simp at he, by first | rfl | trivial⟩, ?_⟩) | (refine GetsA.goes rfl (fun d => ?_); refine goes_oper_k rfl rfl (by decide) (fun K hK => ?_); go_simp; refine hK _ _ ⟨⟨fun e he => by (have hm := mem_listed he; simp [go_sem] at hm), rfl⟩, ?_⟩; clear hK K) | (refine GetsA.goes rfl (fun d => ?_); rw [stepG_unwanted rfl rfl]; simp only [goes_go]; refine ⟨⟨by simp, by first | rfl | trivial⟩, ?_⟩))
  refine getsA_call' rfl rfl (by decide) rfl Try.func5 nm5 rfl (by simp [Act.eval]) (toI (Kd.C_below h0 bel) hc0 (by omega)) (fun u4 w4 hr => ?_)
  obtain ⟨r4, b4⟩ := hr
  walk_nrm
  replace r4 := to_iv (W := W) r4 bel.size
  replace r3 := Kd.R_below r3 b4
  replace bel := below_then bel b4
  have z4 := b4.size
  repeat (first | (refine GetsA.goes rfl (fun d => ?_); own_rw; refine ⟨⟨fun e he => by simp at he, by first | rfl | trivial⟩, ?_⟩) | (refine GetsA.goes rfl (fun d => ?_); refine goes_oper_k rfl rfl (by decide) (fun K hK => ?_); go_simp; refine hK _ _ ⟨⟨fun e he => by (have hm := mem_listed he; simp [go_sem] at hm), rfl⟩, ?_⟩; clear hK K) | (refine GetsA.goes rfl (fun d => ?_); rw [stepG_unwanted rfl rfl]; simp only [goes_go]; refine ⟨⟨by simp, by first | rfl | trivial⟩, ?_⟩))
  refine getsA_call' rfl rfl (by decide) rfl Try.func5 nm5 rfl (by simp [Act.eval]) (toI (Kd.C_below h2 bel) hc2 (by omega)) (fun u5 w5 hr => ?_)
  obtain ⟨r5, b5⟩ := hr
  walk_nrm
  replace r5 := to_iv (W := W) r5 bel.size
  replace r3 := Kd.R_below r3 b5
  replace r4 := Kd.R_below r4 b5
  replace bel := below_then bel b5
  have z5 := b5.size
  repeat (first | (refine GetsA.goes rfl (fun d => ?_); own_rw; refine ⟨⟨fun e he => by simp at he, by first | rfl | trivial⟩, ?_⟩) | (refine GetsA.goes rfl (fun d => ?_); refine goes_oper_k rfl rfl (by decide) (fun K hK => ?_); go_simp; refine hK _ _ ⟨⟨fun e he => by (have hm := mem_listed he; simp [go_sem] at hm), rfl⟩, ?_⟩; clear hK K) | (refine GetsA.goes rfl (fun d => ?_); rw [stepG_unwanted rfl rfl]; simp only [goes_go]; refine ⟨⟨by simp, by first | rfl | trivial⟩, ?_⟩))
  refine getsA_call' rfl rfl (by decide) rfl Try.func6 nm6 rfl (by simp [Act.eval]) (implP r4 r5 himpl) (fun u6 w6 hr => ?_)
  obtain ⟨r6, b6⟩ := hr
  walk_nrm
  replace r6 := to_iv (W := W) r6 bel.size
  replace r3 := Kd.R_below r3 b6
  replace r4 := Kd.R_below r4 b6
  replace r5 := Kd.R_below r5 b6
  replace bel := below_then bel b6
  have z6 := b6.size
  repeat (first | (refine GetsA.goes rfl (fun d => ?_); own_rw; refine ⟨⟨fun e he => by simp at he, by first | rfl | trivial⟩, ?_⟩) | (refine GetsA.goes rfl (fun d => ?_); refine goes_oper_k rfl rfl (by decide) (fun K hK => ?_); go_simp; refine hK _ _ ⟨⟨fun e he => by (have hm := mem_listed he; simp [go_sem] at hm), rfl⟩, ?_⟩; clear hK K) | (refine GetsA.goes rfl (fun d => ?_); rw [stepG_unwanted rfl rfl]; simp only [goes_go]; refine ⟨⟨by simp, by first | rfl | trivial⟩, ?_⟩))
  refine getsA_call' rfl rfl (by decide) rfl Try.func7 nm7 rfl (by simp [Act.eval]) (eqP r6 r3 (by omega)) (fun u7 w7 hr => ?_)
  obtain ⟨rfl, b7⟩ := hr
  walk_nrm
  replace r3 := Kd.R_below r3 b7
  replace r4 := Kd.R_below r4 b7
  replace r5 := Kd.R_below r5 b7
  replace r6 := Kd.R_below r6 b7
  replace bel := below_then bel b7
  have z7 := b7.size
  repeat (first | (refine GetsA.goes rfl (fun d => ?_); own_rw; refine ⟨⟨fun e he => by simp at he, by first | rfl | trivial⟩, ?_⟩) | (refine GetsA.goes rfl (fun d => ?_); refine goes_oper_k rfl rfl (by decide) (fun K hK => ?_); go_simp; refine hK _ _ ⟨⟨fun e he => by (have hm := mem_listed he; simp [go_sem] at hm), rfl⟩, ?_⟩; clear hK K) | (refine GetsA.goes rfl (fun d => ?_); rw [stepG_unwanted rfl rfl]; simp only [goes_go]; refine ⟨⟨by simp, by first | rfl | trivial⟩, ?_⟩))
  refine GetsA.goes rfl (fun d => ?_)
  rw [stepG_cond (t := false) rfl]
  simp only [goes_go, if_true, if_false, Bool.false_eq_true, ↓reduceIte]
  refine ⟨⟨by simp, by first | rfl | trivial⟩, ?_⟩
  repeat (first | (refine GetsA.goes rfl (fun d => ?_); own_rw; refine ⟨⟨fun e he => by simp at he, by first | rfl | trivial⟩, ?_⟩) | (refine GetsA.goes rfl (fun d => ?_); refine goes_oper_k rfl rfl (by decide) (fun K hK => ?_); go_simp; refine hK _ _ ⟨⟨fun e he => by (have hm := mem_listed he; simp [go_sem] at hm), rfl⟩, ?_⟩; clear hK K) | (refine GetsA.goes rfl (fun d => ?_); rw [stepG_unwanted rfl rfl]; simp only [goes_go]; refine ⟨⟨by simp, by first | rfl | trivial⟩, ?_⟩))
  refine getsA_call' rfl rfl (by decide) rfl Try.func5 nm5 rfl (by simp [Act.eval]) (toI (Kd.C_below h0 bel) hc0 (by omega)) (fun u8 w8 hr => ?_)
  obtain ⟨r8, b8⟩ := hr
  walk_nrm
  replace r3 := Kd.R_below r3 b8
  replace r4 := Kd.R_below r4 b8
  replace r5 := Kd.R_below r5 b8
  replace r6 := Kd.R_below r6 b8
  replace bel := below_then bel b8
  have z8 := b8.size
  repeat (first | (refine GetsA.goes rfl (fun d => ?_); own_rw; refine ⟨⟨fun e he => by simp at he, by first | rfl | trivial⟩, ?_⟩) | (refine GetsA.goes rfl (fun d => ?_); refine goes_oper_k rfl rfl (by decide) (fun K hK => ?_); go_simp; refine hK _ _ ⟨⟨fun e he => by (have hm := mem_listed he; simp [go_sem] at hm), rfl⟩, ?_⟩; clear hK K) | (refine GetsA.goes rfl (fun d => ?_); rw [stepG_unwanted rfl rfl]; simp only [goes_go]; refine ⟨⟨by simp, by first | rfl | trivial⟩, ?_⟩))
  refine getsA_call' rfl rfl (by decide) rfl Try.func8 nm8 rfl (by simp [Act.eval]) (eqI r4 r8 (by omega)) (fun u9 w9 hr => ?_)
  obtain ⟨rfl, b9⟩ := hr
  walk_nrm
  replace r3 := Kd.R_below r3 b9
  replace r4 := Kd.R_below r4 b9
  replace r5 := Kd.R_below r5 b9
  replace r6 := Kd.R_below r6 b9
  replace bel := below_then bel b9
  have z9 := b9.size
  clear r8
  repeat (first | (refine GetsA.goes rfl (fun d => ?_); own_rw; refine ⟨⟨fun e he => by simp at he, by first | rfl | trivial⟩, ?_⟩) | (refine GetsA.goes rfl (fun d => ?_); refine goes_oper_k rfl rfl (by decide) (fun K hK => ?_); go_simp; refine hK _ _ ⟨⟨fun e he => by (have hm := mem_listed he; simp [go_sem] at hm), rfl⟩, ?_⟩; clear hK K) | (refine GetsA.goes rfl (fun d => ?_); rw [stepG_unwanted rfl rfl]; simp only [goes_go]; refine ⟨⟨by simp, by first | rfl | trivial⟩, ?_⟩))
  refine GetsA.goes rfl (fun d => ?_)
  rw [stepG_cond (t := false) rfl]
  simp only [goes_go, if_true, if_false, Bool.false_eq_true, ↓reduceIte]
  refine ⟨⟨by simp, by first | rfl | trivial⟩, ?_⟩
  repeat (first | (refine GetsA.goes rfl (fun d => ?_); own_rw; refine ⟨⟨fun e he => by simp at he, by first | rfl | trivial⟩, ?_⟩) | (refine GetsA.goes rfl (fun d => ?_); refine goes_oper_k rfl rfl (by decide) (fun K hK => ?_); go_simp; refine hK _ _ ⟨⟨fun e he => by (have hm := mem_listed he; simp [go_sem] at hm), rfl⟩, ?_⟩; clear hK K) | (refine GetsA.goes rfl (fun d => ?_); rw [stepG_unwanted rfl rfl]; simp only [goes_go]; refine ⟨⟨by simp, by first | rfl | trivial⟩, ?_⟩))
  refine getsA_call' rfl rfl (by decide) rfl Try.func5 nm5 rfl (by simp [Act.eval]) (toI (Kd.C_below h2 bel) hc2 (by omega)) (fun u10 w10 hr => ?_)
  obtain ⟨r10, b10⟩ := hr
  walk_nrm
  replace r3 := Kd.R_below r3 b10
  replace r4 := Kd.R_below r4 b10
  replace r5 := Kd.R_below r5 b10
  replace r6 := Kd.R_below r6 b10
  replace bel := below_then bel b10
  have z10 := b10.size
  repeat (first | (refine GetsA.goes rfl (fun d => ?_); own_rw; refine ⟨⟨fun e he => by simp at he, by first | rfl | trivial⟩, ?_⟩) | (refine GetsA.goes rfl (fun d => ?_); refine goes_oper_k rfl rfl (by decide) (fun K hK => ?_); go_simp; refine hK _ _ ⟨⟨fun e he => by (have hm := mem_listed he; simp [go_sem] at hm), rfl⟩, ?_⟩; clear hK K) | (refine GetsA.goes rfl (fun d => ?_); rw [stepG_unwanted rfl rfl]; simp only [goes_go]; refine ⟨⟨by simp, by first | rfl | trivial⟩, ?_⟩))
  refine getsA_call' rfl rfl (by decide) rfl Try.func8 nm8 rfl (by simp [Act.eval]) (eqI r5 r10 (by omega)) (fun u11 w11 hr => ?_)
  obtain ⟨rfl, b11⟩ := hr
  walk_nrm
  replace r3 := Kd.R_below r3 b11
  replace r4 := Kd.R_below r4 b11
  replace r5 := Kd.R_below r5 b11
  replace r6 := Kd.R_below r6 b11
  replace bel := below_then bel b11
  have z11 := b11.size
  clear r10
  repeat (first | (refine GetsA.goes rfl (fun d => ?_); own_rw; refine ⟨⟨fun e he => by simp at he, by first | rfl | trivial⟩, ?_⟩) | (refine GetsA.goes rfl (fun d => ?_); refine goes_oper_k rfl rfl (by decide) (fun K hK => ?_); go_simp; refine hK _ _ ⟨⟨fun e he => by (have hm := mem_listed he; simp [go_sem] at hm), rfl⟩, ?_⟩; clear hK K) | (refine GetsA.goes rfl (fun d => ?_); rw [stepG_unwanted rfl rfl]; simp only [goes_go]; refine ⟨⟨by simp, by first | rfl | trivial⟩, ?_⟩))
  refine GetsA.goes rfl (fun d => ?_)
  rw [stepG_cond (t := false) rfl]
  simp only [goes_go, if_true, if_false, Bool.false_eq_true, ↓reduceIte]
  refine ⟨⟨by simp, by first | rfl | trivial⟩, ?_⟩
  repeat (first | (refine GetsA.goes rfl (fun d => ?_); own_rw; refine ⟨⟨fun e he => by simp at he, by first | rfl | trivial⟩, ?_⟩) | (refine GetsA.goes rfl (fun d => ?_); refine goes_oper_k rfl rfl (by decide) (fun K hK => ?_); go_simp; refine hK _ _ ⟨⟨fun e he => by (have hm := mem_listed he; simp [go_sem] at hm), rfl⟩, ?_⟩; clear hK K) | (refine GetsA.goes rfl (fun d => ?_); rw [stepG_unwanted rfl rfl]; simp only [goes_go]; refine ⟨⟨by simp, by first | rfl | trivial⟩, ?_⟩))
  refine getsA_call' rfl rfl (by decide) rfl Try.func9 nm9 rfl (by simp [Act.eval]) (markI (a := 1) bel r4 (by omega) (by omega) (by omega)) (fun u12 w12 hr => ?_)
  obtain ⟨rfl, bel, q12⟩ := hr
  walk_nrm
  replace r3 := Kd.R_kept r3 q12 (fun k hk hs => by simp only [iv] at hk hs; omega)
  replace r5 := Kd.R_kept r5 q12 (fun k hk hs => by simp only [iv] at hk hs; omega)
  replace r6 := Kd.R_kept r6 q12 (fun k hk hs => by simp only [iv] at hk hs; omega)
  have z12 := q12.1
  clear r4
  repeat (first | (refine GetsA.goes rfl (fun d => ?_); own_rw; refine ⟨⟨fun e he => by simp at he, by first | rfl | trivial⟩, ?_⟩) | (refine GetsA.goes rfl (fun d => ?_); refine goes_oper_k rfl rfl (by decide) (fun K hK => ?_); go_simp; refine hK _ _ ⟨⟨fun e he => by (have hm := mem_listed he; simp [go_sem] at hm), rfl⟩, ?_⟩; clear hK K) | (refine GetsA.goes rfl (fun d => ?_); rw [stepG_unwanted rfl rfl]; simp only [goes_go]; refine ⟨⟨by simp, by first | rfl | trivial⟩, ?_⟩))
  refine getsA_call' rfl rfl (by decide) rfl Try.func9 nm9 rfl (by simp [Act.eval]) (markI (a := 1 + (l0.length : Int)) bel r5 (by omega) (by omega) (by omega)) (fun u13 w13 hr => ?_)
  obtain ⟨rfl, bel, q13⟩ := hr
  walk_nrm
  replace r3 := Kd.R_kept r3 q13 (fun k hk hs => by simp only [iv] at hk hs; omega)
  replace r6 := Kd.R_kept r6 q13 (fun k hk hs => by simp only [iv] at hk hs; omega)
  have z13 := q13.1
  clear r5
  have hk0 : ¬ 1 + (l0.length : Int) + (l2.length : Int) < 0 := by omega
  repeat (first | (refine GetsA.goes rfl (fun d => ?_); own_rw; refine ⟨⟨fun e he => by simp at he, by first | rfl | trivial⟩, ?_⟩) | (refine GetsA.goes rfl (fun d => ?_); refine goes_oper_k rfl rfl (by decide) (fun K hK => ?_); go_simp; refine hK _ _ ⟨⟨fun e he => by (have hm := mem_listed he; simp [go_sem] at hm), rfl⟩, ?_⟩; clear hK K) | (refine GetsA.goes rfl (fun d => ?_); rw [stepG_unwanted rfl rfl]; simp only [goes_go]; refine ⟨⟨by simp, by first | rfl | trivial⟩, ?_⟩))
  refine getsA_call' rfl rfl (by decide) rfl Try.func7 nm7 rfl (by simp [Act.eval]) (eqP r6 r3 (by omega)) (fun u14 w14 hr => ?_)
  obtain ⟨rfl, b14⟩ := hr
  walk_nrm
  replace r3 := Kd.R_below r3 b14
  replace r6 := Kd.R_below r6 b14
  replace bel := below_then bel b14
  have z14 := b14.size
  repeat (first | (refine GetsA.goes rfl (fun d => ?_); own_rw; refine ⟨⟨fun e he => by simp at he, by first | rfl | trivial⟩, ?_⟩) | (refine GetsA.goes rfl (fun d => ?_); refine goes_oper_k rfl rfl (by decide) (fun K hK => ?_); go_simp; refine hK _ _ ⟨⟨fun e he => by (have hm := mem_listed he; simp [go_sem] at hm), rfl⟩, ?_⟩; clear hK K) | (refine GetsA.goes rfl (fun d => ?_); rw [stepG_unwanted rfl rfl]; simp only [goes_go]; refine ⟨⟨by simp, by first | rfl | trivial⟩, ?_⟩))
  refine GetsA.goes rfl (fun d => ?_)
  rw [stepG_cond (t := false) rfl]
  simp only [goes_go, if_true, if_false, Bool.false_eq_true, ↓reduceIte]
  refine ⟨⟨by simp, by first | rfl | trivial⟩, ?_⟩
  repeat (first | (refine GetsA.goes rfl (fun d => ?_); own_rw; refine ⟨⟨fun e he => by simp at he, by first | rfl | trivial⟩, ?_⟩) | (refine GetsA.goes rfl (fun d => ?_); refine goes_oper_k rfl rfl (by decide) (fun K hK => ?_); go_simp; refine hK _ _ ⟨⟨fun e he => by (have hm := mem_listed he; simp [go_sem] at hm), rfl⟩, ?_⟩; clear hK K) | (refine GetsA.goes rfl (fun d => ?_); rw [stepG_unwanted rfl rfl]; simp only [goes_go]; refine ⟨⟨by simp, by first | rfl | trivial⟩, ?_⟩))
  refine getsA_call' rfl rfl (by decide) rfl Try.func10 nm10 rfl (by simp [Act.eval]) (markP bel r6 hres) (fun u15 w15 hr => ?_)
  obtain ⟨rfl, ⟨M, r6, m1, m2⟩, bel, q15⟩ := hr
  walk_nrm
  replace r3 := Kd.R_kept r3 q15 (fun k hk hs => by simp only [iv] at hk hs; omega)
  have z15 := q15.1
  have hk1 : ¬ 1 + 3 * (res.length : Int) < 0 := by omega
  repeat (first | (refine GetsA.goes rfl (fun d => ?_); own_rw; refine ⟨⟨fun e he => by simp at he, by first | rfl | trivial⟩, ?_⟩) | (refine GetsA.goes rfl (fun d => ?_); refine goes_oper_k rfl rfl (by decide) (fun K hK => ?_); go_simp; refine hK _ _ ⟨⟨fun e he => by (have hm := mem_listed he; simp [go_sem] at hm), rfl⟩, ?_⟩; clear hK K) | (refine GetsA.goes rfl (fun d => ?_); rw [stepG_unwanted rfl rfl]; simp only [goes_go]; refine ⟨⟨by simp, by first | rfl | trivial⟩, ?_⟩))
  refine getsA_call' rfl rfl (by decide) rfl Try.func11 nm11 rfl (by simp [Act.eval]) (heldP r6 m1 m2 hres) (fun u16 w16 hr => ?_)
  obtain ⟨rfl, b16⟩ := hr
  walk_nrm
  replace r3 := Kd.R_below r3 b16
  replace r6 := Kd.R_below r6 b16
  replace bel := below_then bel b16
  repeat (first | (refine GetsA.goes rfl (fun d => ?_); own_rw; refine ⟨⟨fun e he => by simp at he, by first | rfl | trivial⟩, ?_⟩) | (refine GetsA.goes rfl (fun d => ?_); refine goes_oper_k rfl rfl (by decide) (fun K hK => ?_); go_simp; refine hK _ _ ⟨⟨fun e he => by (have hm := mem_listed he; simp [go_sem] at hm), rfl⟩, ?_⟩; clear hK K) | (refine GetsA.goes rfl (fun d => ?_); rw [stepG_unwanted rfl rfl]; simp only [goes_go]; refine ⟨⟨by simp, by first | rfl | trivial⟩, ?_⟩))
  refine GetsA.goes rfl (fun d => ?_)
  rw [stepG_cond (t := false) rfl]
  simp only [goes_go, if_true, if_false, Bool.false_eq_true, ↓reduceIte]
  refine ⟨⟨by simp, by first | rfl | trivial⟩, ?_⟩
  repeat (first | (refine GetsA.goes rfl (fun d => ?_); own_rw; refine ⟨⟨fun e he => by simp at he, by first | rfl | trivial⟩, ?_⟩) | (refine GetsA.goes rfl (fun d => ?_); refine goes_oper_k rfl rfl (by decide) (fun K hK => ?_); go_simp; refine hK _ _ ⟨⟨fun e he => by (have hm := mem_listed he; simp [go_sem] at hm), rfl⟩, ?_⟩; clear hK K) | (refine GetsA.goes rfl (fun d => ?_); rw [stepG_unwanted rfl rfl]; simp only [goes_go]; refine ⟨⟨by simp, by first | rfl | trivial⟩, ?_⟩))
  refine GetsA.goes rfl (fun d => ?_)
  rw [stepG_cond (t := false) rfl]
  simp only [goes_go, if_true, if_false, Bool.false_eq_true, ↓reduceIte]
  refine ⟨⟨by simp, by first | rfl | trivial⟩, ?_⟩
  repeat (first | (refine GetsA.goes rfl (fun d => ?_); own_rw; refine ⟨⟨fun e he => by simp at he, by first | rfl | trivial⟩, ?_⟩) | (refine GetsA.goes rfl (fun d => ?_); refine goes_oper_k rfl rfl (by decide) (fun K hK => ?_); go_simp; refine hK _ _ ⟨⟨fun e he => by (have hm := mem_listed he; simp [go_sem] at hm), rfl⟩, ?_⟩; clear hK K) | (refine GetsA.goes rfl (fun d => ?_); rw [stepG_unwanted rfl rfl]; simp only [goes_go]; refine ⟨⟨by simp, by first | rfl | trivial⟩, ?_⟩))
  refine getsA_call' rfl rfl (by decide) rfl Try.func5 nm5 rfl (by simp [Act.eval]) (toI (Kd.C_below h0 bel) hc0 (by omega)) (fun u17 w17 hr => ?_)
  obtain ⟨r17, b17⟩ := hr
  walk_nrm
  replace r3 := Kd.R_below r3 b17
  replace r6 := Kd.R_below r6 b17
  replace bel := below_then bel b17
  repeat (first | (refine GetsA.goes rfl (fun d => ?_); own_rw; refine ⟨⟨fun e he => by simp at he, by first | rfl | trivial⟩, ?_⟩) | (refine GetsA.goes rfl (fun d => ?_); refine goes_oper_k rfl rfl (by decide) (fun K hK => ?_); go_simp; refine hK _ _ ⟨⟨fun e he => by (have hm := mem_listed he; simp [go_sem] at hm), rfl⟩, ?_⟩; clear hK K) | (refine GetsA.goes rfl (fun d => ?_); rw [stepG_unwanted rfl rfl]; simp only [goes_go]; refine ⟨⟨by simp, by first | rfl | trivial⟩, ?_⟩))
  refine getsA_call' rfl rfl (by decide) rfl Try.func5 nm5 rfl (by simp [Act.eval]) (toI (Kd.C_below h2 bel) hc2 (by omega)) (fun u18 w18 hr => ?_)
  obtain ⟨r18, b18⟩ := hr
  walk_nrm
  replace r3 := Kd.R_below r3 b18
  replace r6 := Kd.R_below r6 b18
  replace r17 := Kd.R_below r17 b18
  replace bel := below_then bel b18
  repeat (first | (refine GetsA.goes rfl (fun d => ?_); own_rw; refine ⟨⟨fun e he => by simp at he, by first | rfl | trivial⟩, ?_⟩) | (refine GetsA.goes rfl (fun d => ?_); refine goes_oper_k rfl rfl (by decide) (fun K hK => ?_); go_simp; refine hK _ _ ⟨⟨fun e he => by (have hm := mem_listed he; simp [go_sem] at hm), rfl⟩, ?_⟩; clear hK K) | (refine GetsA.goes rfl (fun d => ?_); rw [stepG_unwanted rfl rfl]; simp only [goes_go]; refine ⟨⟨by simp, by first | rfl | trivial⟩, ?_⟩))
  refine getsA_call' rfl rfl (by decide) rfl Try.func6 nm6 rfl (by simp [Act.eval]) (implP r17 r18 himpl) (fun u19 w19 hr => ?_)
  obtain ⟨r19, b19⟩ := hr
  walk_nrm
  replace r3 := Kd.R_below r3 b19
  replace r6 := Kd.R_below r6 b19
  replace bel := below_then bel b19
  repeat (first | (refine GetsA.goes rfl (fun d => ?_); own_rw; refine ⟨⟨fun e he => by simp at he, by first | rfl | trivial⟩, ?_⟩) | (refine GetsA.goes rfl (fun d => ?_); refine goes_oper_k rfl rfl (by decide) (fun K hK => ?_); go_simp; refine hK _ _ ⟨⟨fun e he => by (have hm := mem_listed he; simp [go_sem] at hm), rfl⟩, ?_⟩; clear hK K) | (refine GetsA.goes rfl (fun d => ?_); rw [stepG_unwanted rfl rfl]; simp only [goes_go]; refine ⟨⟨by simp, by first | rfl | trivial⟩, ?_⟩))
  refine getsA_call' rfl rfl (by decide) rfl Try.func7 nm7 rfl (by simp [Act.eval]) (eqP r19 r3 (by omega)) (fun u20 w20 hr => ?_)
  obtain ⟨rfl, b20⟩ := hr
  walk_nrm
  replace r3 := Kd.R_below r3 b20
  replace r6 := Kd.R_below r6 b20
  replace bel := below_then bel b20
  repeat (first | (refine GetsA.goes rfl (fun d => ?_); own_rw; refine ⟨⟨fun e he => by simp at he, by first | rfl | trivial⟩, ?_⟩) | (refine GetsA.goes rfl (fun d => ?_); refine goes_oper_k rfl rfl (by decide) (fun K hK => ?_); go_simp; refine hK _ _ ⟨⟨fun e he => by (have hm := mem_listed he; simp [go_sem] at hm), rfl⟩, ?_⟩; clear hK K) | (refine GetsA.goes rfl (fun d => ?_); rw [stepG_unwanted rfl rfl]; simp only [goes_go]; refine ⟨⟨by simp, by first | rfl | trivial⟩, ?_⟩))
  refine GetsA.goes rfl (fun d => ?_)
  rw [stepG_cond (t := false) rfl]
  simp only [goes_go, if_true, if_false, Bool.false_eq_true, ↓reduceIte]
  refine ⟨⟨by simp, by first | rfl | trivial⟩, ?_⟩
  repeat (first | (refine GetsA.goes rfl (fun d => ?_); own_rw; refine ⟨⟨fun e he => by simp at he, by first | rfl | trivial⟩, ?_⟩) | (refine GetsA.goes rfl (fun d => ?_); refine goes_oper_k rfl rfl (by decide) (fun K hK => ?_); go_simp; refine hK _ _ ⟨⟨fun e he => by (have hm := mem_listed he; simp [go_sem] at hm), rfl⟩, ?_⟩; clear hK K) | (refine GetsA.goes rfl (fun d => ?_); rw [stepG_unwanted rfl rfl]; simp only [goes_go]; refine ⟨⟨by simp, by first | rfl | trivial⟩, ?_⟩))
  refine getsA_call' rfl rfl (by decide) rfl Try.func11 nm11 rfl (by simp [Act.eval]) (heldP r6 m1 m2 hres) (fun u21 w21 hr => ?_)
  obtain ⟨rfl, b21⟩ := hr
  walk_nrm
  replace bel := below_then bel b21
  repeat (first | (refine GetsA.goes rfl (fun d => ?_); own_rw; refine ⟨⟨fun e he => by simp at he, by first | rfl | trivial⟩, ?_⟩) | (refine GetsA.goes rfl (fun d => ?_); refine goes_oper_k rfl rfl (by decide) (fun K hK => ?_); go_simp; refine hK _ _ ⟨⟨fun e he => by (have hm := mem_listed he; simp [go_sem] at hm), rfl⟩, ?_⟩; clear hK K) | (refine GetsA.goes rfl (fun d => ?_); rw [stepG_unwanted rfl rfl]; simp only [goes_go]; refine ⟨⟨by simp, by first | rfl | trivial⟩, ?_⟩))
  refine GetsA.goes rfl (fun d => ?_)
  rw [stepG_cond (t := false) rfl]
  simp only [goes_go, if_true, if_false, Bool.false_eq_true, ↓reduceIte]
  refine ⟨⟨by simp, by first | rfl | trivial⟩, ?_⟩
  repeat (first | (refine GetsA.goes rfl (fun d => ?_); own_rw; refine ⟨⟨fun e he => by simp at he, by first | rfl | trivial⟩, ?_⟩) | (refine GetsA.goes rfl (fun d => ?_); refine goes_oper_k rfl rfl (by decide) (fun K hK => ?_); go_simp; refine hK _ _ ⟨⟨fun e he => by (have hm := mem_listed he; simp [go_sem] at hm), rfl⟩, ?_⟩; clear hK K) | (refine GetsA.goes rfl (fun d => ?_); rw [stepG_unwanted rfl rfl]; simp only [goes_go]; refine ⟨⟨by simp, by first | rfl | trivial⟩, ?_⟩))
  refine GetsA.goes rfl (fun d => ?_)
  rw [stepG_cond (t := false) rfl]
  simp only [goes_go, if_true, if_false, Bool.false_eq_true, ↓reduceIte]
  refine ⟨⟨by simp, by first | rfl | trivial⟩, ?_⟩
  repeat (first | (refine GetsA.goes rfl (fun d => ?_); own_rw; refine ⟨⟨fun e he => by simp at he, by first | rfl | trivial⟩, ?_⟩) | (refine GetsA.goes rfl (fun d => ?_); refine goes_oper_k rfl rfl (by decide) (fun K hK => ?_); go_simp; refine hK _ _ ⟨⟨fun e he => by (have hm := mem_listed he; simp [go_sem] at hm), rfl⟩, ?_⟩; clear hK K) | (refine GetsA.goes rfl (fun d => ?_); rw [stepG_unwanted rfl rfl]; simp only [goes_go]; refine ⟨⟨by simp, by first | rfl | trivial⟩, ?_⟩))
  refine GetsA.goes rfl (fun d => ?_)
  rw [stepG_ret']
  simp only [goes_go]
  refine ⟨⟨by simp, by first | rfl | trivial⟩, ?_⟩
  refine GetsA.done fun d => ⟨rfl, fun d' => ⟨.bool true, (w21.at d).at d', #[], ?_, by simp, rfl, ?_⟩⟩
  · simp [G, stepG, unwind, doReturn, results, Frame.at, base, Try.func3, Try.f3, seen, GStep.after]
  · exact below_at (below_at bel _) _
end Go.Proofs.Ytakjhhkffiffdaa
