/-
  The sender of impl.Pegs (sendPegs), as a script: what it sends, told by the relation PR; then it closes the channel and leaves.
-/
import Derived.Conc.PipeGen
import Derived.Conc.PipeWords
import Derived.Test.YtakjhhkffiffdaaPegs0
set_option linter.unusedVariables false
set_option linter.unusedSimpArgs false
namespace Go.Proofs.Ytakjhhkffiffdaa
open Go.RowKit Go.Conc Go.Proofs.YtakjhhkffiffdaaLift Go.Proofs.YtakjhhkffiffdaaW.PrintWords Go.Proofs.Ytakjhhkffiffdaa.PFnExactPegs

def b16 : Frame := { (default : Frame) with fn := 16, kind := .deferred }
noncomputable def body16 : Code := Try.f16.body.getD .skip
noncomputable def L1 : Code := match body16 with | .seq _ (.seq (.seq _ (.block _ (.loop c))) _) => c | _ => .skip
noncomputable def R18 : Code := match body16 with | .seq _ (.seq _ r) => r | _ => .skip
noncomputable def L2 : Code := match L1 with | .seq _ (.seq _ (.seq (.block _ (.seq _ (.block _ (.loop c)))) _)) => c | _ => .skip
noncomputable def R17 : Code := match L1 with | .seq _ (.seq _ (.seq _ r)) => r | _ => .skip
noncomputable def L3 : Code := match L2 with | .seq _ (.block _ (.seq (.block _ (.loop c)) _)) => c | _ => .skip
noncomputable def M3 : Code := match L2 with | .seq _ (.block _ (.seq _ r)) => r | _ => .skip

theorem evB_cell {c : Nat} (a : Addr) (s : Bool) (h : a.block < c + 1) : EvB (Mine c) ⟨.cell a, false, s⟩ :=
  ⟨fun m => by simp, rfl, fun ⟨a', e, h'⟩ => by cases e; omega⟩

noncomputable def bot : Frame := { (default : Frame) with fn := Try.prog.funcs.size, defers := [], mode := .panicking [goexitEntry] }

theorem array66 (T : Array Value) (h : T.size = 66) : ∃ v0 v1 v2 v3 v4 v5 v6 v7 v8 v9 v10 v11 v12 v13 v14 v15 v16 v17 v18 v19 v20 v21 v22 v23 v24 v25 v26 v27 v28 v29 v30 v31 v32 v33 v34 v35 v36 v37 v38 v39 v40 v41 v42 v43 v44 v45 v46 v47 v48 v49 v50 v51 v52 v53 v54 v55 v56 v57 v58 v59 v60 v61 v62 v63 v64 v65 : Value, T = #[v0, v1, v2, v3, v4, v5, v6, v7, v8, v9, v10, v11, v12, v13, v14, v15, v16, v17, v18, v19, v20, v21, v22, v23, v24, v25, v26, v27, v28, v29, v30, v31, v32, v33, v34, v35, v36, v37, v38, v39, v40, v41, v42, v43, v44, v45, v46, v47, v48, v49, v50, v51, v52, v53, v54, v55, v56, v57, v58, v59, v60, v61, v62, v63, v64, v65] := by
  obtain ⟨l⟩ := T
  simp only [List.size_toArray] at h
  rcases l with _ | ⟨v0, l⟩
  · simp at h
  rcases l with _ | ⟨v1, l⟩
  · simp at h
  rcases l with _ | ⟨v2, l⟩
  · simp at h
  rcases l with _ | ⟨v3, l⟩
  · simp at h
  rcases l with _ | ⟨v4, l⟩
  · simp at h
  rcases l with _ | ⟨v5, l⟩
  · simp at h
  rcases l with _ | ⟨v6, l⟩
  · simp at h
  rcases l with _ | ⟨v7, l⟩
  · simp at h
  rcases l with _ | ⟨v8, l⟩
  · simp at h
  rcases l with _ | ⟨v9, l⟩
  · simp at h
  rcases l with _ | ⟨v10, l⟩
  · simp at h
  rcases l with _ | ⟨v11, l⟩
  · simp at h
  rcases l with _ | ⟨v12, l⟩
  · simp at h
  rcases l with _ | ⟨v13, l⟩
  · simp at h
  rcases l with _ | ⟨v14, l⟩
  · simp at h
  rcases l with _ | ⟨v15, l⟩
  · simp at h
  rcases l with _ | ⟨v16, l⟩
  · simp at h
  rcases l with _ | ⟨v17, l⟩
  · simp at h
  rcases l with _ | ⟨v18, l⟩
  · simp at h
  rcases l with _ | ⟨v19, l⟩
  · simp at h
  rcases l with _ | ⟨v20, l⟩
  · simp at h
  rcases l with _ | ⟨v21, l⟩
  · simp at h
  rcases l with _ | ⟨v22, l⟩
  · simp at h
  rcases l with _ | ⟨v23, l⟩
  · simp at h
  rcases l with _ | ⟨v24, l⟩
  · simp at h
  rcases l with _ | ⟨v25, l⟩
  · simp at h
  rcases l with _ | ⟨v26, l⟩
  · simp at h
  rcases l with _ | ⟨v27, l⟩
  · simp at h
  rcases l with _ | ⟨v28, l⟩
  · simp at h
  rcases l with _ | ⟨v29, l⟩
  · simp at h
  rcases l with _ | ⟨v30, l⟩
  · simp at h
  rcases l with _ | ⟨v31, l⟩
  · simp at h
  rcases l with _ | ⟨v32, l⟩
  · simp at h
  rcases l with _ | ⟨v33, l⟩
  · simp at h
  rcases l with _ | ⟨v34, l⟩
  · simp at h
  rcases l with _ | ⟨v35, l⟩
  · simp at h
  rcases l with _ | ⟨v36, l⟩
  · simp at h
  rcases l with _ | ⟨v37, l⟩
  · simp at h
  rcases l with _ | ⟨v38, l⟩
  · simp at h
  rcases l with _ | ⟨v39, l⟩
  · simp at h
  rcases l with _ | ⟨v40, l⟩
  · simp at h
  rcases l with _ | ⟨v41, l⟩
  · simp at h
  rcases l with _ | ⟨v42, l⟩
  · simp at h
  rcases l with _ | ⟨v43, l⟩
  · simp at h
  rcases l with _ | ⟨v44, l⟩
  · simp at h
  rcases l with _ | ⟨v45, l⟩
  · simp at h
  rcases l with _ | ⟨v46, l⟩
  · simp at h
  rcases l with _ | ⟨v47, l⟩
  · simp at h
  rcases l with _ | ⟨v48, l⟩
  · simp at h
  rcases l with _ | ⟨v49, l⟩
  · simp at h
  rcases l with _ | ⟨v50, l⟩
  · simp at h
  rcases l with _ | ⟨v51, l⟩
  · simp at h
  rcases l with _ | ⟨v52, l⟩
  · simp at h
  rcases l with _ | ⟨v53, l⟩
  · simp at h
  rcases l with _ | ⟨v54, l⟩
  · simp at h
  rcases l with _ | ⟨v55, l⟩
  · simp at h
  rcases l with _ | ⟨v56, l⟩
  · simp at h
  rcases l with _ | ⟨v57, l⟩
  · simp at h
  rcases l with _ | ⟨v58, l⟩
  · simp at h
  rcases l with _ | ⟨v59, l⟩
  · simp at h
  rcases l with _ | ⟨v60, l⟩
  · simp at h
  rcases l with _ | ⟨v61, l⟩
  · simp at h
  rcases l with _ | ⟨v62, l⟩
  · simp at h
  rcases l with _ | ⟨v63, l⟩
  · simp at h
  rcases l with _ | ⟨v64, l⟩
  · simp at h
  rcases l with _ | ⟨v65, l⟩
  · simp at h
  rcases l with _ | ⟨x, l⟩
  · exact ⟨v0, v1, v2, v3, v4, v5, v6, v7, v8, v9, v10, v11, v12, v13, v14, v15, v16, v17, v18, v19, v20, v21, v22, v23, v24, v25, v26, v27, v28, v29, v30, v31, v32, v33, v34, v35, v36, v37, v38, v39, v40, v41, v42, v43, v44, v45, v46, v47, v48, v49, v50, v51, v52, v53, v54, v55, v56, v57, v58, v59, v60, v61, v62, v63, v64, v65, rfl⟩
  · simp at h

theorem loud16 : (Try.prog.funcs[b16.fn]?).any (·.norace) = false := by kernel_rfl

section
variable (c : Nat) (A0 A2 : Option Addr) (c0 c2 : Nat) (ns os : List Int)


/-- What is left to do at the three heads. -/
noncomputable def todoS : Nat → List Item
  | 0 => [.code L1, .inLoop L1, .inBlock 0, .code R18]
  | 1 => [.code L2, .inLoop L2, .inBlock 2, .inBlock 1, .code R17, .inLoop L1, .inBlock 0, .code R18]
  | _ => [.code L3, .inLoop L3, .inBlock 4, .code M3, .inBlock 3, .inLoop L2, .inBlock 2, .inBlock 1, .code R17, .inLoop L1, .inBlock 0, .code R18]

def AnchS (lev b : Nat) (n : Int) (o : Nat) (left : Int) (g : Goroutine) : Prop :=
  ∃ T : Array Value, g = G (b16.at ⟨T, []⟩ (todoS lev)) [bot] ∧ T.size = 66 ∧ T[0]? = some (.slice A0 ns.length c0) ∧ T[2]? = some (.slice A2 os.length c2) ∧ T[3]? = some (.chan (some c)) ∧
    T[8]? = some (.int .i64 ((o : Int) - 1)) ∧ T[9]? = some (.int .i64 left) ∧ T[14]? = some (.slice A0 ns.length c0) ∧ T[15]? = some (.int .i64 ns.length) ∧ T[16]? = some (.int .i64 b) ∧
    (lev ≠ 0 → T[10]? = some (.int .i64 b) ∧ T[11]? = some (.int .i64 n))

/-- Behind the close it only leaves, and says nothing. -/
theorem quits (T : Array Value) (ops : Array Oper) : QuitsIn Try.prog 4 (G (b16.at ⟨T, []⟩ [.inRegion ops []]) [bot]) := by
  refine .inr ⟨rfl, _, fun w => stepG_region_end, ?_⟩
  refine .inr ⟨rfl, _, fun w => stepG_end, ?_⟩
  refine .inr ⟨rfl, G bot [], fun w => ?_, ?_⟩
  · simp [G, stepG, unwind, doReturn, results, Frame.at, b16, bot, Try.func16, Try.f16, seen, GStep.after, goexitEntry]
  refine .inr ⟨rfl, { G bot [] with status := .finished }, fun w => ?_, rfl⟩
  simp [G, stepG, unwind, bot, goexitEntry, Frame.catches]
  rfl

/-- .. by a return. -/
theorem quitsR (T : Array Value) (ops : Array Oper) (k : List Item) : QuitsIn Try.prog 4 (G (b16.at ⟨T, []⟩ (.inRegion ops [] :: .code .ret :: k)) [bot]) := by
  refine .inr ⟨rfl, _, fun w => stepG_region_end, ?_⟩
  refine .inr ⟨rfl, _, fun w => stepG_ret', ?_⟩
  refine .inr ⟨rfl, G bot [], fun w => ?_, ?_⟩
  · simp [G, stepG, unwind, doReturn, results, Frame.at, b16, bot, Try.func16, Try.f16, seen, GStep.after, goexitEntry]
  refine .inr ⟨rfl, { G bot [] with status := .finished }, fun w => ?_, rfl⟩
  simp [G, stepG, unwind, bot, goexitEntry, Frame.catches]
  rfl

set_option maxRecDepth 100000 in
set_option maxHeartbeats 4000000 in
theorem snd_fin (hn : ns.length ≤ 1000) (ho : os.length ≤ 1000) (hb0 : ∀ ad, A0 = some ad → 0 < ns.length → ad.block < c) (hb2 : ∀ ad, A2 = some ad → 0 < os.length → ad.block < c) (hnil0 : 0 < ns.length → ∃ ad, A0 = some ad) (hnil2 : 0 < os.length → ∃ ad, A2 = some ad) (n : Int) (o : Nat) (left : Int) : ∃ n', ∀ (g : Goroutine) (w : World), AnchS c A0 A2 c0 c2 ns os 0 ns.length n o left g → Goes Try.prog false (fun _ w₁ => Shared A0 A2 ns os w₁) (DB (Mine c)) (StopB Try.prog c (Shared A0 A2 ns os) (Mine c) (pvals [] false)) n' g w := by
    refine ⟨0 + 40, ?_⟩
    rintro g w ⟨T, rfl, hT, t0, t2, t3, t8, t9, t14, t15, t16, t10⟩
    obtain ⟨v0, v1, v2, v3, v4, v5, v6, v7, v8, v9, v10, v11, v12, v13, v14, v15, v16, v17, v18, v19, v20, v21, v22, v23, v24, v25, v26, v27, v28, v29, v30, v31, v32, v33, v34, v35, v36, v37, v38, v39, v40, v41, v42, v43, v44, v45, v46, v47, v48, v49, v50, v51, v52, v53, v54, v55, v56, v57, v58, v59, v60, v61, v62, v63, v64, v65, rfl⟩ := array66 T hT
    simp only [List.getElem?_toArray, List.getElem?_cons_succ, List.getElem?_cons_zero, Option.some.injEq] at t0 t2 t3 t8 t9 t14 t15 t16 t10
    subst t0 t2 t3 t8 t9 t14 t15 t16
    simp only [todoS, L1, L2, L3, M3, R17, R18, body16, Try.f16, Option.getD_some]
    repeat (first | b_ctl | b_op [Shared.el0 h₁, Shared.el2 h₁] (evB_cell _ _ (by simp only [addr_block]; omega)) | (refine Goes.step rfl (fun _ _ => ?_); rw [stepG_unwanted rfl rfl]; simp only [goes_go]; refine ⟨⟨rfl, by simp⟩, ?_⟩))
    b_cond false
    b_exit
    repeat (first | b_ctl | b_op [Shared.el0 h₁, Shared.el2 h₁] (evB_cell _ _ (by simp only [addr_block]; omega)) | (refine Goes.step rfl (fun _ _ => ?_); rw [stepG_unwanted rfl rfl]; simp only [goes_go]; refine ⟨⟨rfl, by simp⟩, ?_⟩))
    refine Goes.stop fun _ _ => ?_
    show AtClose _ _ _ _ _
    refine atClose_of (n := 4) rfl rfl (by decide) (fun w s r tm hc => ?_) (fun w s r tm hc => ?_) loud16 (fun ⟨a, h, _⟩ => by cases h) (by simp [mayWake, G, Frame.at]) (quits _ _)
    · have hr := run_close_open (P := Try.prog) #[40] 0 hc
      simp [go_sem, hr, World.shut]
    · have he := events_close_open (P := Try.prog) (es := #[]) #[40] 0 hc
      simp [go_sem, he]

set_option maxRecDepth 100000 in
set_option maxHeartbeats 4000000 in
theorem snd_need (hn : ns.length ≤ 1000) (ho : os.length ≤ 1000) (hb0 : ∀ ad, A0 = some ad → 0 < ns.length → ad.block < c) (hb2 : ∀ ad, A2 = some ad → 0 < os.length → ad.block < c) (hnil0 : 0 < ns.length → ∃ ad, A0 = some ad) (hnil2 : 0 < os.length → ∃ ad, A2 = some ad) {b : Nat} (n : Int) (o : Nat) (left : Int) {out : List S34} {bad : Bool} (h : b < ns.length) (ih : ∃ n', ∀ (g : Goroutine) (w : World), AnchS c A0 A2 c0 c2 ns os 1 b (ns.getD b 0) o left g → Goes Try.prog false (fun _ w₁ => Shared A0 A2 ns os w₁) (DB (Mine c)) (StopB Try.prog c (Shared A0 A2 ns os) (Mine c) (pvals out bad)) n' g w) : ∃ n', ∀ (g : Goroutine) (w : World), AnchS c A0 A2 c0 c2 ns os 0 b n o left g → Goes Try.prog false (fun _ w₁ => Shared A0 A2 ns os w₁) (DB (Mine c)) (StopB Try.prog c (Shared A0 A2 ns os) (Mine c) (pvals out bad)) n' g w := by
    obtain ⟨ad, rfl⟩ := hnil0 (by omega)
    have hb0 := hb0 ad rfl (by omega)
    obtain ⟨n₁, h₁⟩ := ih
    refine ⟨n₁ + 19, ?_⟩
    rintro g w ⟨T, rfl, hT, t0, t2, t3, t8, t9, t14, t15, t16, t10⟩
    obtain ⟨v0, v1, v2, v3, v4, v5, v6, v7, v8, v9, v10, v11, v12, v13, v14, v15, v16, v17, v18, v19, v20, v21, v22, v23, v24, v25, v26, v27, v28, v29, v30, v31, v32, v33, v34, v35, v36, v37, v38, v39, v40, v41, v42, v43, v44, v45, v46, v47, v48, v49, v50, v51, v52, v53, v54, v55, v56, v57, v58, v59, v60, v61, v62, v63, v64, v65, rfl⟩ := array66 T hT
    simp only [List.getElem?_toArray, List.getElem?_cons_succ, List.getElem?_cons_zero, Option.some.injEq] at t0 t2 t3 t8 t9 t14 t15 t16 t10
    subst t0 t2 t3 t8 t9 t14 t15 t16
    simp only [todoS, L1, L2, L3, M3, R17, R18, body16, Try.f16, Option.getD_some]
    repeat (first | b_ctl | b_op [Shared.el0 h₁, Shared.el2 h₁] (evB_cell _ _ (by simp only [addr_block]; omega)) | (refine Goes.step rfl (fun _ _ => ?_); rw [stepG_unwanted rfl rfl]; simp only [goes_go]; refine ⟨⟨rfl, by simp⟩, ?_⟩))
    b_cond true
    repeat (first | b_ctl | b_op [Shared.el0 h₁, Shared.el2 h₁] (evB_cell _ _ (by simp only [addr_block]; omega)) | (refine Goes.step rfl (fun _ _ => ?_); rw [stepG_unwanted rfl rfl]; simp only [goes_go]; refine ⟨⟨rfl, by simp⟩, ?_⟩))
    exact h₁ _ _ ⟨_, rfl, by simp, by simp, by simp, by simp, by simp, by simp, by simp, by simp, by simp, by simp [h]⟩

set_option maxRecDepth 100000 in
set_option maxHeartbeats 4000000 in
theorem snd_done (hn : ns.length ≤ 1000) (ho : os.length ≤ 1000) (hb0 : ∀ ad, A0 = some ad → 0 < ns.length → ad.block < c) (hb2 : ∀ ad, A2 = some ad → 0 < os.length → ad.block < c) (hnil0 : 0 < ns.length → ∃ ad, A0 = some ad) (hnil2 : 0 < os.length → ∃ ad, A2 = some ad) {b : Nat} {n : Int} (o : Nat) (left : Int) {out : List S34} {bad : Bool} (hb : b < ns.length) (h : n ≤ 0) (ih : ∃ n', ∀ (g : Goroutine) (w : World), AnchS c A0 A2 c0 c2 ns os 0 (b + 1) n o left g → Goes Try.prog false (fun _ w₁ => Shared A0 A2 ns os w₁) (DB (Mine c)) (StopB Try.prog c (Shared A0 A2 ns os) (Mine c) (pvals out bad)) n' g w) : ∃ n', ∀ (g : Goroutine) (w : World), AnchS c A0 A2 c0 c2 ns os 1 b n o left g → Goes Try.prog false (fun _ w₁ => Shared A0 A2 ns os w₁) (DB (Mine c)) (StopB Try.prog c (Shared A0 A2 ns os) (Mine c) (pvals out bad)) n' g w := by
    obtain ⟨n₁, h₁⟩ := ih
    have h' : ¬ 0 < n := by omega
    have hwr : IntKind.i64.wrap ((b : Int) + 1) = ((b + 1 : Nat) : Int) := by rw [IntKind.wrap_i64]; omega
    refine ⟨n₁ + 14, ?_⟩
    rintro g w ⟨T, rfl, hT, t0, t2, t3, t8, t9, t14, t15, t16, t10⟩
    obtain ⟨v0, v1, v2, v3, v4, v5, v6, v7, v8, v9, v10, v11, v12, v13, v14, v15, v16, v17, v18, v19, v20, v21, v22, v23, v24, v25, v26, v27, v28, v29, v30, v31, v32, v33, v34, v35, v36, v37, v38, v39, v40, v41, v42, v43, v44, v45, v46, v47, v48, v49, v50, v51, v52, v53, v54, v55, v56, v57, v58, v59, v60, v61, v62, v63, v64, v65, rfl⟩ := array66 T hT
    simp only [List.getElem?_toArray, List.getElem?_cons_succ, List.getElem?_cons_zero, Option.some.injEq] at t0 t2 t3 t8 t9 t14 t15 t16 t10
    obtain ⟨t10, t11⟩ := t10 (by decide)
    subst t10 t11
    subst t0 t2 t3 t8 t9 t14 t15 t16
    simp only [todoS, L1, L2, L3, M3, R17, R18, body16, Try.f16, Option.getD_some]
    repeat (first | b_ctl | b_op [Shared.el0 h₁, Shared.el2 h₁] (evB_cell _ _ (by simp only [addr_block]; omega)) | (refine Goes.step rfl (fun _ _ => ?_); rw [stepG_unwanted rfl rfl]; simp only [goes_go]; refine ⟨⟨rfl, by simp⟩, ?_⟩))
    b_cond false
    b_exit
    repeat (first | b_ctl | b_op [Shared.el0 h₁, Shared.el2 h₁] (evB_cell _ _ (by simp only [addr_block]; omega)) | (refine Goes.step rfl (fun _ _ => ?_); rw [stepG_unwanted rfl rfl]; simp only [goes_go]; refine ⟨⟨rfl, by simp⟩, ?_⟩))
    exact h₁ _ _ ⟨_, rfl, by simp, by simp, by simp, by simp, by simp, by simp, by simp, by simp, by simp, by simp⟩

set_option maxRecDepth 100000 in
set_option maxHeartbeats 4000000 in
theorem snd_more (hn : ns.length ≤ 1000) (ho : os.length ≤ 1000) (hb0 : ∀ ad, A0 = some ad → 0 < ns.length → ad.block < c) (hb2 : ∀ ad, A2 = some ad → 0 < os.length → ad.block < c) (hnil0 : 0 < ns.length → ∃ ad, A0 = some ad) (hnil2 : 0 < os.length → ∃ ad, A2 = some ad) {b : Nat} {n : Int} (o : Nat) (left : Int) {out : List S34} {bad : Bool} (h : 0 < n) (ih : ∃ n', ∀ (g : Goroutine) (w : World), AnchS c A0 A2 c0 c2 ns os 2 b n o left g → Goes Try.prog false (fun _ w₁ => Shared A0 A2 ns os w₁) (DB (Mine c)) (StopB Try.prog c (Shared A0 A2 ns os) (Mine c) (pvals out bad)) n' g w) : ∃ n', ∀ (g : Goroutine) (w : World), AnchS c A0 A2 c0 c2 ns os 1 b n o left g → Goes Try.prog false (fun _ w₁ => Shared A0 A2 ns os w₁) (DB (Mine c)) (StopB Try.prog c (Shared A0 A2 ns os) (Mine c) (pvals out bad)) n' g w := by
    obtain ⟨n₁, h₁⟩ := ih
    refine ⟨n₁ + 12, ?_⟩
    rintro g w ⟨T, rfl, hT, t0, t2, t3, t8, t9, t14, t15, t16, t10⟩
    obtain ⟨v0, v1, v2, v3, v4, v5, v6, v7, v8, v9, v10, v11, v12, v13, v14, v15, v16, v17, v18, v19, v20, v21, v22, v23, v24, v25, v26, v27, v28, v29, v30, v31, v32, v33, v34, v35, v36, v37, v38, v39, v40, v41, v42, v43, v44, v45, v46, v47, v48, v49, v50, v51, v52, v53, v54, v55, v56, v57, v58, v59, v60, v61, v62, v63, v64, v65, rfl⟩ := array66 T hT
    simp only [List.getElem?_toArray, List.getElem?_cons_succ, List.getElem?_cons_zero, Option.some.injEq] at t0 t2 t3 t8 t9 t14 t15 t16 t10
    obtain ⟨t10, t11⟩ := t10 (by decide)
    subst t10 t11
    subst t0 t2 t3 t8 t9 t14 t15 t16
    simp only [todoS, L1, L2, L3, M3, R17, R18, body16, Try.f16, Option.getD_some]
    repeat (first | b_ctl | b_op [Shared.el0 h₁, Shared.el2 h₁] (evB_cell _ _ (by simp only [addr_block]; omega)) | (refine Goes.step rfl (fun _ _ => ?_); rw [stepG_unwanted rfl rfl]; simp only [goes_go]; refine ⟨⟨rfl, by simp⟩, ?_⟩))
    b_cond true
    repeat (first | b_ctl | b_op [Shared.el0 h₁, Shared.el2 h₁] (evB_cell _ _ (by simp only [addr_block]; omega)) | (refine Goes.step rfl (fun _ _ => ?_); rw [stepG_unwanted rfl rfl]; simp only [goes_go]; refine ⟨⟨rfl, by simp⟩, ?_⟩))
    exact h₁ _ _ ⟨_, rfl, by simp, by simp, by simp, by simp, by simp, by simp, by simp, by simp, by simp, by simp⟩

set_option maxRecDepth 100000 in
set_option maxHeartbeats 4000000 in
theorem snd_skip (hn : ns.length ≤ 1000) (ho : os.length ≤ 1000) (hb0 : ∀ ad, A0 = some ad → 0 < ns.length → ad.block < c) (hb2 : ∀ ad, A2 = some ad → 0 < os.length → ad.block < c) (hnil0 : 0 < ns.length → ∃ ad, A0 = some ad) (hnil2 : 0 < os.length → ∃ ad, A2 = some ad) {b : Nat} {n : Int} {o : Nat} {out : List S34} {bad : Bool} (ho' : o < os.length) (ih : ∃ n', ∀ (g : Goroutine) (w : World), AnchS c A0 A2 c0 c2 ns os 2 b n (o + 1) (os.getD o 0) g → Goes Try.prog false (fun _ w₁ => Shared A0 A2 ns os w₁) (DB (Mine c)) (StopB Try.prog c (Shared A0 A2 ns os) (Mine c) (pvals out bad)) n' g w) : ∃ n', ∀ (g : Goroutine) (w : World), AnchS c A0 A2 c0 c2 ns os 2 b n o 0 g → Goes Try.prog false (fun _ w₁ => Shared A0 A2 ns os w₁) (DB (Mine c)) (StopB Try.prog c (Shared A0 A2 ns os) (Mine c) (pvals out bad)) n' g w := by
    obtain ⟨n₁, h₁⟩ := ih
    obtain ⟨ad, rfl⟩ := hnil2 (by omega)
    have hb2 := hb2 ad rfl (by omega)
    have hwr : IntKind.i64.wrap ((o : Int) - 1 + 1) = (o : Int) := by rw [IntKind.wrap_i64]; omega
    have hwr2 : IntKind.i64.wrap (o : Int) = (o : Int) := by rw [IntKind.wrap_i64]; omega
    have e1 : ((o + 1 : Nat) : Int) - 1 = (o : Int) := by omega
    refine ⟨n₁ + 31, ?_⟩
    rintro g w ⟨T, rfl, hT, t0, t2, t3, t8, t9, t14, t15, t16, t10⟩
    obtain ⟨v0, v1, v2, v3, v4, v5, v6, v7, v8, v9, v10, v11, v12, v13, v14, v15, v16, v17, v18, v19, v20, v21, v22, v23, v24, v25, v26, v27, v28, v29, v30, v31, v32, v33, v34, v35, v36, v37, v38, v39, v40, v41, v42, v43, v44, v45, v46, v47, v48, v49, v50, v51, v52, v53, v54, v55, v56, v57, v58, v59, v60, v61, v62, v63, v64, v65, rfl⟩ := array66 T hT
    simp only [List.getElem?_toArray, List.getElem?_cons_succ, List.getElem?_cons_zero, Option.some.injEq] at t0 t2 t3 t8 t9 t14 t15 t16 t10
    obtain ⟨t10, t11⟩ := t10 (by decide)
    subst t10 t11
    subst t0 t2 t3 t8 t9 t14 t15 t16
    simp only [todoS, L1, L2, L3, M3, R17, R18, body16, Try.f16, Option.getD_some]
    repeat (first | b_ctl | b_op [Shared.el0 h₁, Shared.el2 h₁] (evB_cell _ _ (by simp only [addr_block]; omega)) | (refine Goes.step rfl (fun _ _ => ?_); rw [stepG_unwanted rfl rfl]; simp only [goes_go]; refine ⟨⟨rfl, by simp⟩, ?_⟩))
    b_cond true
    repeat (first | b_ctl | b_op [Shared.el0 h₁, Shared.el2 h₁] (evB_cell _ _ (by simp only [addr_block]; omega)) | (refine Goes.step rfl (fun _ _ => ?_); rw [stepG_unwanted rfl rfl]; simp only [goes_go]; refine ⟨⟨rfl, by simp⟩, ?_⟩))
    exact h₁ _ _ ⟨_, rfl, by simp, by simp, by simp, by simp, by simp [e1], by simp [ho'], by simp, by simp, by simp, by simp⟩

set_option maxRecDepth 100000 in
set_option maxHeartbeats 4000000 in
theorem snd_lack (hn : ns.length ≤ 1000) (ho : os.length ≤ 1000) (hb0 : ∀ ad, A0 = some ad → 0 < ns.length → ad.block < c) (hb2 : ∀ ad, A2 = some ad → 0 < os.length → ad.block < c) (hnil0 : 0 < ns.length → ∃ ad, A0 = some ad) (hnil2 : 0 < os.length → ∃ ad, A2 = some ad) {b : Nat} {n : Int} {o : Nat} (ho' : ¬ o < os.length) (hoo : o ≤ 1000) : ∃ n', ∀ (g : Goroutine) (w : World), AnchS c A0 A2 c0 c2 ns os 2 b n o 0 g → Goes Try.prog false (fun _ w₁ => Shared A0 A2 ns os w₁) (DB (Mine c)) (StopB Try.prog c (Shared A0 A2 ns os) (Mine c) (pvals [] true)) n' g w := by
    have hwr : IntKind.i64.wrap ((o : Int) - 1 + 1) = (o : Int) := by rw [IntKind.wrap_i64]; omega
    have hwr2 : IntKind.i64.wrap (o : Int) = (o : Int) := by rw [IntKind.wrap_i64]; omega
    refine ⟨0 + 60, ?_⟩
    rintro g w ⟨T, rfl, hT, t0, t2, t3, t8, t9, t14, t15, t16, t10⟩
    obtain ⟨v0, v1, v2, v3, v4, v5, v6, v7, v8, v9, v10, v11, v12, v13, v14, v15, v16, v17, v18, v19, v20, v21, v22, v23, v24, v25, v26, v27, v28, v29, v30, v31, v32, v33, v34, v35, v36, v37, v38, v39, v40, v41, v42, v43, v44, v45, v46, v47, v48, v49, v50, v51, v52, v53, v54, v55, v56, v57, v58, v59, v60, v61, v62, v63, v64, v65, rfl⟩ := array66 T hT
    simp only [List.getElem?_toArray, List.getElem?_cons_succ, List.getElem?_cons_zero, Option.some.injEq] at t0 t2 t3 t8 t9 t14 t15 t16 t10
    obtain ⟨t10, t11⟩ := t10 (by decide)
    subst t10 t11
    subst t0 t2 t3 t8 t9 t14 t15 t16
    simp only [todoS, L1, L2, L3, M3, R17, R18, body16, Try.f16, Option.getD_some]
    repeat (first | b_ctl | b_op [Shared.el0 h₁, Shared.el2 h₁] (evB_cell _ _ (by simp only [addr_block]; omega)) | (refine Goes.step rfl (fun _ _ => ?_); rw [stepG_unwanted rfl rfl]; simp only [goes_go]; refine ⟨⟨rfl, by simp⟩, ?_⟩))
    b_cond false
    b_exit
    repeat (first | b_ctl | b_op [Shared.el0 h₁, Shared.el2 h₁] (evB_cell _ _ (by simp only [addr_block]; omega)) | (refine Goes.step rfl (fun _ _ => ?_); rw [stepG_unwanted rfl rfl]; simp only [goes_go]; refine ⟨⟨rfl, by simp⟩, ?_⟩))
    b_cond true
    repeat (first | b_ctl | b_op [Shared.el0 h₁, Shared.el2 h₁] (evB_cell _ _ (by simp only [addr_block]; omega)) | (refine Goes.step rfl (fun _ _ => ?_); rw [stepG_unwanted rfl rfl]; simp only [goes_go]; refine ⟨⟨rfl, by simp⟩, ?_⟩))
    refine Goes.stop fun _ _ => ?_
    show AtSend _ _ _ _ (pv ⟨-2, 0, 0⟩) (Sends _ _ _ _ ([])) _
    refine atSend_of rfl rfl (by decide) rfl rfl (by simp [Act.eval, pv]) ?_
    refine (sends_iff ..).2 ⟨0 + 20, ?_⟩
    walk_nrm
    repeat (first | b_ctl | b_op [Shared.el0 h₁, Shared.el2 h₁] (evB_cell _ _ (by simp only [addr_block]; omega)) | (refine Goes.step rfl (fun _ _ => ?_); rw [stepG_unwanted rfl rfl]; simp only [goes_go]; refine ⟨⟨rfl, by simp⟩, ?_⟩))
    refine Goes.stop fun _ _ => ?_
    show AtClose _ _ _ _ _
    refine atClose_of (n := 4) rfl rfl (by decide) (fun w s r tm hc => ?_) (fun w s r tm hc => ?_) loud16 (fun ⟨a, h, _⟩ => by cases h) (by simp [mayWake, G, Frame.at]) (quitsR _ _ _)
    · have hr := run_close_open (P := Try.prog) #[40] 0 hc
      simp [go_sem, hr, World.shut]
    · have he := events_close_open (P := Try.prog) (es := #[]) #[40] 0 hc
      simp [go_sem, he]

set_option maxRecDepth 100000 in
set_option maxHeartbeats 4000000 in
theorem snd_late (hn : ns.length ≤ 1000) (ho : os.length ≤ 1000) (hb0 : ∀ ad, A0 = some ad → 0 < ns.length → ad.block < c) (hb2 : ∀ ad, A2 = some ad → 0 < os.length → ad.block < c) (hnil0 : 0 < ns.length → ∃ ad, A0 = some ad) (hnil2 : 0 < os.length → ∃ ad, A2 = some ad) {b : Nat} {n : Int} {o : Nat} {left : Int} (h : left ≠ 0) (hbb : b + 1 < o) : ∃ n', ∀ (g : Goroutine) (w : World), AnchS c A0 A2 c0 c2 ns os 2 b n o left g → Goes Try.prog false (fun _ w₁ => Shared A0 A2 ns os w₁) (DB (Mine c)) (StopB Try.prog c (Shared A0 A2 ns os) (Mine c) (pvals [] true)) n' g w := by
    have hz : (left == 0) = false := by simpa using h
    have hbo : (b : Int) < (o : Int) - 1 := by omega
    refine ⟨0 + 60, ?_⟩
    rintro g w ⟨T, rfl, hT, t0, t2, t3, t8, t9, t14, t15, t16, t10⟩
    obtain ⟨v0, v1, v2, v3, v4, v5, v6, v7, v8, v9, v10, v11, v12, v13, v14, v15, v16, v17, v18, v19, v20, v21, v22, v23, v24, v25, v26, v27, v28, v29, v30, v31, v32, v33, v34, v35, v36, v37, v38, v39, v40, v41, v42, v43, v44, v45, v46, v47, v48, v49, v50, v51, v52, v53, v54, v55, v56, v57, v58, v59, v60, v61, v62, v63, v64, v65, rfl⟩ := array66 T hT
    simp only [List.getElem?_toArray, List.getElem?_cons_succ, List.getElem?_cons_zero, Option.some.injEq] at t0 t2 t3 t8 t9 t14 t15 t16 t10
    obtain ⟨t10, t11⟩ := t10 (by decide)
    subst t10 t11
    subst t0 t2 t3 t8 t9 t14 t15 t16
    simp only [todoS, L1, L2, L3, M3, R17, R18, body16, Try.f16, Option.getD_some]
    repeat (first | b_ctl | b_op [Shared.el0 h₁, Shared.el2 h₁] (evB_cell _ _ (by simp only [addr_block]; omega)) | (refine Goes.step rfl (fun _ _ => ?_); rw [stepG_unwanted rfl rfl]; simp only [goes_go]; refine ⟨⟨rfl, by simp⟩, ?_⟩))
    b_cond false
    b_exit
    repeat (first | b_ctl | b_op [Shared.el0 h₁, Shared.el2 h₁] (evB_cell _ _ (by simp only [addr_block]; omega)) | (refine Goes.step rfl (fun _ _ => ?_); rw [stepG_unwanted rfl rfl]; simp only [goes_go]; refine ⟨⟨rfl, by simp⟩, ?_⟩))
    b_cond true
    repeat (first | b_ctl | b_op [Shared.el0 h₁, Shared.el2 h₁] (evB_cell _ _ (by simp only [addr_block]; omega)) | (refine Goes.step rfl (fun _ _ => ?_); rw [stepG_unwanted rfl rfl]; simp only [goes_go]; refine ⟨⟨rfl, by simp⟩, ?_⟩))
    refine Goes.stop fun _ _ => ?_
    show AtSend _ _ _ _ (pv ⟨-2, 0, 0⟩) (Sends _ _ _ _ ([])) _
    refine atSend_of rfl rfl (by decide) rfl rfl (by simp [Act.eval, pv]) ?_
    refine (sends_iff ..).2 ⟨0 + 20, ?_⟩
    walk_nrm
    repeat (first | b_ctl | b_op [Shared.el0 h₁, Shared.el2 h₁] (evB_cell _ _ (by simp only [addr_block]; omega)) | (refine Goes.step rfl (fun _ _ => ?_); rw [stepG_unwanted rfl rfl]; simp only [goes_go]; refine ⟨⟨rfl, by simp⟩, ?_⟩))
    refine Goes.stop fun _ _ => ?_
    show AtClose _ _ _ _ _
    refine atClose_of (n := 4) rfl rfl (by decide) (fun w s r tm hc => ?_) (fun w s r tm hc => ?_) loud16 (fun ⟨a, h, _⟩ => by cases h) (by simp [mayWake, G, Frame.at]) (quitsR _ _ _)
    · have hr := run_close_open (P := Try.prog) #[40] 0 hc
      simp [go_sem, hr, World.shut]
    · have he := events_close_open (P := Try.prog) (es := #[]) #[40] 0 hc
      simp [go_sem, he]

set_option maxRecDepth 100000 in
set_option maxHeartbeats 4000000 in
theorem snd_less (hn : ns.length ≤ 1000) (ho : os.length ≤ 1000) (hb0 : ∀ ad, A0 = some ad → 0 < ns.length → ad.block < c) (hb2 : ∀ ad, A2 = some ad → 0 < os.length → ad.block < c) (hnil0 : 0 < ns.length → ∃ ad, A0 = some ad) (hnil2 : 0 < os.length → ∃ ad, A2 = some ad) {b : Nat} {n : Int} {o : Nat} {left : Int} {out : List S34} {bad : Bool} (h : 0 < left) (hn6 : n ≤ 1000000) (hlt : left < n) (hbb : ¬ b + 1 < o) (ih : ∃ n', ∀ (g : Goroutine) (w : World), AnchS c A0 A2 c0 c2 ns os 1 b (n - left) o 0 g → Goes Try.prog false (fun _ w₁ => Shared A0 A2 ns os w₁) (DB (Mine c)) (StopB Try.prog c (Shared A0 A2 ns os) (Mine c) (pvals out bad)) n' g w) : ∃ n', ∀ (g : Goroutine) (w : World), AnchS c A0 A2 c0 c2 ns os 2 b n o left g → Goes Try.prog false (fun _ w₁ => Shared A0 A2 ns os w₁) (DB (Mine c)) (StopB Try.prog c (Shared A0 A2 ns os) (Mine c) (pvals (⟨(o : Int) - 1, b, left⟩ :: out) bad)) n' g w := by
    have hbo : ¬ (b : Int) < (o : Int) - 1 := by omega
    obtain ⟨n₁, h₁⟩ := ih
    have hz : (left == 0) = false := by simp; omega
    have hwr : IntKind.i64.wrap (left - left) = 0 := by rw [IntKind.wrap_i64]; omega
    have hwr2 : IntKind.i64.wrap (n - left) = n - left := by rw [IntKind.wrap_i64]; omega
    have hwr3 : IntKind.i64.wrap 0 = 0 := by decide
    refine ⟨0 + 80, ?_⟩
    rintro g w ⟨T, rfl, hT, t0, t2, t3, t8, t9, t14, t15, t16, t10⟩
    obtain ⟨v0, v1, v2, v3, v4, v5, v6, v7, v8, v9, v10, v11, v12, v13, v14, v15, v16, v17, v18, v19, v20, v21, v22, v23, v24, v25, v26, v27, v28, v29, v30, v31, v32, v33, v34, v35, v36, v37, v38, v39, v40, v41, v42, v43, v44, v45, v46, v47, v48, v49, v50, v51, v52, v53, v54, v55, v56, v57, v58, v59, v60, v61, v62, v63, v64, v65, rfl⟩ := array66 T hT
    simp only [List.getElem?_toArray, List.getElem?_cons_succ, List.getElem?_cons_zero, Option.some.injEq] at t0 t2 t3 t8 t9 t14 t15 t16 t10
    obtain ⟨t10, t11⟩ := t10 (by decide)
    subst t10 t11
    subst t0 t2 t3 t8 t9 t14 t15 t16
    simp only [todoS, L1, L2, L3, M3, R17, R18, body16, Try.f16, Option.getD_some]
    repeat (first | b_ctl | b_op [Shared.el0 h₁, Shared.el2 h₁] (evB_cell _ _ (by simp only [addr_block]; omega)) | (refine Goes.step rfl (fun _ _ => ?_); rw [stepG_unwanted rfl rfl]; simp only [goes_go]; refine ⟨⟨rfl, by simp⟩, ?_⟩))
    b_cond false
    b_exit
    repeat (first | b_ctl | b_op [Shared.el0 h₁, Shared.el2 h₁] (evB_cell _ _ (by simp only [addr_block]; omega)) | (refine Goes.step rfl (fun _ _ => ?_); rw [stepG_unwanted rfl rfl]; simp only [goes_go]; refine ⟨⟨rfl, by simp⟩, ?_⟩))
    b_cond false
    repeat (first | b_ctl | b_op [Shared.el0 h₁, Shared.el2 h₁] (evB_cell _ _ (by simp only [addr_block]; omega)) | (refine Goes.step rfl (fun _ _ => ?_); rw [stepG_unwanted rfl rfl]; simp only [goes_go]; refine ⟨⟨rfl, by simp⟩, ?_⟩))
    b_cond true
    repeat (first | b_ctl | b_op [Shared.el0 h₁, Shared.el2 h₁] (evB_cell _ _ (by simp only [addr_block]; omega)) | (refine Goes.step rfl (fun _ _ => ?_); rw [stepG_unwanted rfl rfl]; simp only [goes_go]; refine ⟨⟨rfl, by simp⟩, ?_⟩))
    refine Goes.stop fun _ _ => ?_
    show AtSend _ _ _ _ (pv ⟨(o : Int) - 1, b, left⟩) (Sends _ _ _ _ (pvals out bad)) _
    refine atSend_of rfl rfl (by decide) rfl rfl (by simp [Act.eval, pv]) ?_
    refine (sends_iff ..).2 ⟨n₁ + 16, ?_⟩
    walk_nrm
    repeat (first | b_ctl | b_op [Shared.el0 h₁, Shared.el2 h₁] (evB_cell _ _ (by simp only [addr_block]; omega)) | (refine Goes.step rfl (fun _ _ => ?_); rw [stepG_unwanted rfl rfl]; simp only [goes_go]; refine ⟨⟨rfl, by simp⟩, ?_⟩))
    exact h₁ _ _ ⟨_, rfl, by simp, by simp, by simp, by simp, by simp, by simp, by simp, by simp, by simp, by simp⟩

set_option maxRecDepth 100000 in
set_option maxHeartbeats 4000000 in
theorem snd_full (hn : ns.length ≤ 1000) (ho : os.length ≤ 1000) (hb0 : ∀ ad, A0 = some ad → 0 < ns.length → ad.block < c) (hb2 : ∀ ad, A2 = some ad → 0 < os.length → ad.block < c) (hnil0 : 0 < ns.length → ∃ ad, A0 = some ad) (hnil2 : 0 < os.length → ∃ ad, A2 = some ad) {b : Nat} {n : Int} {o : Nat} {left : Int} {out : List S34} {bad : Bool} (h : 0 < n) (hl6 : left ≤ 1000000) (hlt : ¬ left < n) (hbb : ¬ b + 1 < o) (ih : ∃ n', ∀ (g : Goroutine) (w : World), AnchS c A0 A2 c0 c2 ns os 1 b 0 o (left - n) g → Goes Try.prog false (fun _ w₁ => Shared A0 A2 ns os w₁) (DB (Mine c)) (StopB Try.prog c (Shared A0 A2 ns os) (Mine c) (pvals out bad)) n' g w) : ∃ n', ∀ (g : Goroutine) (w : World), AnchS c A0 A2 c0 c2 ns os 2 b n o left g → Goes Try.prog false (fun _ w₁ => Shared A0 A2 ns os w₁) (DB (Mine c)) (StopB Try.prog c (Shared A0 A2 ns os) (Mine c) (pvals (⟨(o : Int) - 1, b, n⟩ :: out) bad)) n' g w := by
    have hbo : ¬ (b : Int) < (o : Int) - 1 := by omega
    obtain ⟨n₁, h₁⟩ := ih
    have hz : (left == 0) = false := by simp; omega
    have hwr : IntKind.i64.wrap (n - n) = 0 := by rw [IntKind.wrap_i64]; omega
    have hwr2 : IntKind.i64.wrap (left - n) = left - n := by rw [IntKind.wrap_i64]; omega
    have hwr3 : IntKind.i64.wrap 0 = 0 := by decide
    refine ⟨0 + 80, ?_⟩
    rintro g w ⟨T, rfl, hT, t0, t2, t3, t8, t9, t14, t15, t16, t10⟩
    obtain ⟨v0, v1, v2, v3, v4, v5, v6, v7, v8, v9, v10, v11, v12, v13, v14, v15, v16, v17, v18, v19, v20, v21, v22, v23, v24, v25, v26, v27, v28, v29, v30, v31, v32, v33, v34, v35, v36, v37, v38, v39, v40, v41, v42, v43, v44, v45, v46, v47, v48, v49, v50, v51, v52, v53, v54, v55, v56, v57, v58, v59, v60, v61, v62, v63, v64, v65, rfl⟩ := array66 T hT
    simp only [List.getElem?_toArray, List.getElem?_cons_succ, List.getElem?_cons_zero, Option.some.injEq] at t0 t2 t3 t8 t9 t14 t15 t16 t10
    obtain ⟨t10, t11⟩ := t10 (by decide)
    subst t10 t11
    subst t0 t2 t3 t8 t9 t14 t15 t16
    simp only [todoS, L1, L2, L3, M3, R17, R18, body16, Try.f16, Option.getD_some]
    repeat (first | b_ctl | b_op [Shared.el0 h₁, Shared.el2 h₁] (evB_cell _ _ (by simp only [addr_block]; omega)) | (refine Goes.step rfl (fun _ _ => ?_); rw [stepG_unwanted rfl rfl]; simp only [goes_go]; refine ⟨⟨rfl, by simp⟩, ?_⟩))
    b_cond false
    b_exit
    repeat (first | b_ctl | b_op [Shared.el0 h₁, Shared.el2 h₁] (evB_cell _ _ (by simp only [addr_block]; omega)) | (refine Goes.step rfl (fun _ _ => ?_); rw [stepG_unwanted rfl rfl]; simp only [goes_go]; refine ⟨⟨rfl, by simp⟩, ?_⟩))
    b_cond false
    repeat (first | b_ctl | b_op [Shared.el0 h₁, Shared.el2 h₁] (evB_cell _ _ (by simp only [addr_block]; omega)) | (refine Goes.step rfl (fun _ _ => ?_); rw [stepG_unwanted rfl rfl]; simp only [goes_go]; refine ⟨⟨rfl, by simp⟩, ?_⟩))
    b_cond false
    repeat (first | b_ctl | b_op [Shared.el0 h₁, Shared.el2 h₁] (evB_cell _ _ (by simp only [addr_block]; omega)) | (refine Goes.step rfl (fun _ _ => ?_); rw [stepG_unwanted rfl rfl]; simp only [goes_go]; refine ⟨⟨rfl, by simp⟩, ?_⟩))
    refine Goes.stop fun _ _ => ?_
    show AtSend _ _ _ _ (pv ⟨(o : Int) - 1, b, n⟩) (Sends _ _ _ _ (pvals out bad)) _
    refine atSend_of rfl rfl (by decide) rfl rfl (by simp [Act.eval, pv]) ?_
    refine (sends_iff ..).2 ⟨n₁ + 16, ?_⟩
    walk_nrm
    repeat (first | b_ctl | b_op [Shared.el0 h₁, Shared.el2 h₁] (evB_cell _ _ (by simp only [addr_block]; omega)) | (refine Goes.step rfl (fun _ _ => ?_); rw [stepG_unwanted rfl rfl]; simp only [goes_go]; refine ⟨⟨rfl, by simp⟩, ?_⟩))
    exact h₁ _ _ ⟨_, rfl, by simp, by simp, by simp, by simp, by simp, by simp, by simp, by simp, by simp, by simp⟩

end
end Go.Proofs.Ytakjhhkffiffdaa
