/-
  The receiver of impl.Pegs: its script, from the go statement to the receive that finds the channel closed.
-/
import Derived.Test.YtakjhhkffiffdaaRecv
set_option linter.unusedVariables false
set_option linter.unusedSimpArgs false
namespace Go.Proofs.Ytakjhhkffiffdaa
open Go.RowKit Go.Conc Go.Proofs.YtakjhhkffiffdaaLift Go.Proofs.YtakjhhkffiffdaaW.PrintWords Go.Proofs.Ytakjhhkffiffdaa.PFnExactPegs

section
variable (c : Nat) (W : World) (A0 A2 : Option Addr) (ns os : List Int) (X : List Frame)

theorem frR_comm {out : Value} {flag : Bool} (T : Array Value) (hT : SlotsR c out flag T) (w : World) : stepG Try.prog true (frR X T [0, 1]) w = .comm (core (frR X T [0, 1])) #[rcase c pz] true (.recv true) w #[] := by
  obtain ⟨hs, t8, t9, t34⟩ := hT
  obtain ⟨v0, v1, v2, v3, v4, v5, v6, v7, v8, v9, v10, v11, v12, v13, v14, v15, v16, v17, v18, v19, v20, v21, v22, v23, v24, v25, v26, v27, v28, v29, v30, v31, v32, v33, v34, v35, v36, v37, v38, v39, v40, v41, v42, v43, v44, v45, v46, v47, v48, v49, rfl⟩ := array50 T hs
  simp only [List.getElem?_toArray, List.getElem?_cons_succ, List.getElem?_cons_zero, Option.some.injEq] at t8 t9 t34
  subst t8 t9 t34
  simp only [frR, ops8, L6, body6, Try.f6, Option.getD_some, core_G]
  rw [stepG_comm (cases := #[rcase c pz]) (blocking := true) (shape := .recv true) (w' := w) rfl rfl (by decide) (by simp [go_sem, rcase, pz])]
  simp [listed, go_sem, seen]

theorem frR_served (T : Array Value) (v : Value) : Conc.served (core (frR X T [0, 1])) v = frR X (T.setIfInBounds 35 v) [1] := by
  simp only [frR, ops8, L6, body6, Try.f6, Option.getD_some, core_G, served_G]
  rfl

/-- Behind the receive that found the channel closed. -/
def FinR (xs : List S34) (fl : Bool) (g : Goroutine) (w : World) : Prop :=
  ∃ out T, SlotsR c out fl T ∧ T[35]? = some (.tuple #[pz, .bool false]) ∧ AF c W out xs w ∧ g = frR X T [1]

theorem slots_set {out : Value} {flag : Bool} {T : Array Value} (hT : SlotsR c out flag T) (v : Value) : SlotsR c out flag (T.setIfInBounds 35 v) ∧ (T.setIfInBounds 35 v)[35]? = some v := by
  obtain ⟨hs, t8, t9, t34⟩ := hT
  refine ⟨⟨by simpa using hs, by rw [Array.getElem?_setIfInBounds_ne (by decide)]; exact t8, by rw [Array.getElem?_setIfInBounds_ne (by decide)]; exact t9, by rw [Array.getElem?_setIfInBounds_ne (by decide)]; exact t34⟩, ?_⟩
  simp [hs]

theorem stopA_at (hb0 : ∀ ad, A0 = some ad → 0 < ns.length → ad.block < c) (hb2 : ∀ ad, A2 = some ad → 0 < os.length → ad.block < c) :
    ∀ (ps : List S34) (flag : Bool) (xs : List S34) (out : Value) (T : Array Value) (w : World), SlotsR c out flag T → AF c W out xs w → xs.length + ps.length ≤ 1000000 → (flag = true → ps = []) →
      (∀ pre p rest, ps = pre ++ p :: rest → p.f0 = -2 → rest = []) →
      StopA Try.prog c (Shared A0 A2 ns os) (Mine c) pz (FinR c W X (xs ++ ps) (flag || ps.any fun p => p.f0 == -2)) (ps.map pv) (frR X T [0, 1]) w := by
  intro ps
  induction ps with
  | nil =>
    intro flag xs out T w hT hF hlen hfl hlast
    refine ⟨rfl, #[], frR_comm c X T hT w, by simp, fun w₂ h₂ => ?_⟩
    simp only [frR_served]
    obtain ⟨h1, h2⟩ := slots_set c hT (.tuple #[pz, .bool false])
    exact ⟨out, _, by simpa using h1, h2, by simpa using hF.aside h₂, rfl⟩
  | cons p ps ih =>
    intro flag xs out T w hT hF hlen hfl hlast
    have hf : flag = false := by cases flag <;> first | rfl | exact absurd (hfl rfl) (by simp)
    subst hf
    refine ⟨rfl, #[], frR_comm c X T hT w, by simp, fun w₂ h₂ => ?_⟩
    simp only [frR_served]
    obtain ⟨h1, h2⟩ := slots_set c hT (.tuple #[pv p, .bool true])
    simp only [List.length_cons] at hlen
    refine (recvs_iff ..).2 ⟨0 + 33, seg_round c W A0 A2 ns os X hb0 hb2 _ 0 out xs p _ w₂ h1 h2 (hF.aside h₂) (by omega) fun out' T' w' hT' hF' => Goes.stop fun w₁ h₁ => ?_⟩
    have := ih (p.f0 == -2) (xs ++ [p]) out' T' w₁ hT' (hF'.aside h₁) (by simp; omega) (fun e => hlast [] p ps rfl (by simpa using e)) (fun pre p' rest e => hlast (p :: pre) p' rest (by rw [e]; rfl))
    have e1 : xs ++ p :: ps = xs ++ [p] ++ ps := by simp
    have e2 : (false || (p :: ps).any fun p => p.f0 == -2) = ((p.f0 == -2) || ps.any fun p => p.f0 == -2) := by simp
    rw [e1, e2]
    exact this

noncomputable def ops4 : Array Oper := match body6 with | .seq _ (.seq _ (.seq _ (.seq (.region _ ops _) _))) => ops | _ => #[]
noncomputable def rest5 : Code := match body6 with | .seq _ (.seq _ (.seq _ (.seq _ r))) => r | _ => .skip

set_option maxRecDepth 100000 in
set_option maxHeartbeats 4000000 in
/-- From behind the go statement to the first receive. -/
theorem seg_first (hb0 : ∀ ad, A0 = some ad → 0 < ns.length → ad.block < c) (hb2 : ∀ ad, A2 = some ad → 0 < os.length → ad.block < c) (Stop : Goroutine → World → Prop) (n₀ : Nat) (T : Array Value) (w : World) (hs : T.size = 50) (t7 : T[7]? = some (.chan (some c)))
    (hF : AF c W (.slice none 0 0) [] w)
    (next : ∀ out' T' w', SlotsR c out' false T' → AF c W out' [] w' → Goes Try.prog true (Go.Conc.Aside c) (DA c (Shared A0 A2 ns os) (Mine c)) Stop n₀ (frR X T' [0, 1]) w') :
    Goes Try.prog true (Go.Conc.Aside c) (DA c (Shared A0 A2 ns os) (Mine c)) Stop (n₀ + 19) (G ((base 6).at ⟨T, []⟩ [.inRegion ops4 [], .code rest5]) X) w := by
  obtain ⟨v0, v1, v2, v3, v4, v5, v6, v7, v8, v9, v10, v11, v12, v13, v14, v15, v16, v17, v18, v19, v20, v21, v22, v23, v24, v25, v26, v27, v28, v29, v30, v31, v32, v33, v34, v35, v36, v37, v38, v39, v40, v41, v42, v43, v44, v45, v46, v47, v48, v49, rfl⟩ := array50 T hs
  simp only [List.getElem?_toArray, List.getElem?_cons_succ, List.getElem?_cons_zero, Option.some.injEq] at t7
  subst t7
  simp only [frR, ops8, L6b, L6, R12, ops4, rest5, body6, Try.f6, Option.getD_some] at next ⊢
  iterate 3 (first | a_ctl hF AF.aside (DA_of_below hb0 hb2 (Below.refl _ _) (by simp)) | a_op hF AF.aside [] (DA_of_below hb0 hb2 (Below.refl _ _)) (evA_read _ _ (by simp)))
  refine Goes.step rfl (fun w₄ h₄ => ?_)
  replace hF := AF.aside hF h₄
  clear h₄
  refine goes_oper_k rfl rfl (by decide) (fun K hK => ?_)
  go_simp
  refine hK _ _ ⟨DA_of_below hb0 hb2 ((Below.refl _ _).alloc hF.size _) (fun e he => ?_), ?_⟩
  · have hm := mem_listed he
    simp [go_sem] at hm
  clear hK K
  have hnew : (w₄.alloc (.cells #[] 34)).heap[w₄.heap.size]? = some (.cells #[] 34) := heap_alloc_new _ _
  have hnc : c + 1 ≤ w₄.heap.size := hF.size
  have hF' : AF c W (.slice (some ⟨w₄.heap.size, 0, none⟩) 0 0) [] (w₄.alloc (.cells #[] 34)) := by
    have h := hF.alloc (.cells #[] 34)
    exact ⟨⟨[], ⟨rfl, .inr ⟨w₄.heap.size, 0, #[], rfl, hnc, hnew, Nat.le_refl _, by simp [maxLen], rfl, rfl⟩⟩, Reps.none _ _⟩, h.below, h.size⟩
  clear hF hnew
  generalize w₄.alloc (.cells #[] 34) = wb at hF' ⊢
  generalize w₄.heap.size = r at hF' hnc ⊢
  clear w₄
  iterate 15 (first | a_ctl hF' AF.aside (DA_of_below hb0 hb2 (Below.refl _ _) (by simp)) | a_op hF' AF.aside [] (DA_of_below hb0 hb2 (Below.refl _ _)) (evA_read _ _ (by simp)))
  exact next _ _ _ ⟨by simp, by simp, by simp, by simp⟩ hF'
end
end Go.Proofs.Ytakjhhkffiffdaa
