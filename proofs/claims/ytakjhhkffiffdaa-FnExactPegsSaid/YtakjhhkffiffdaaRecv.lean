/-
  The receiver of impl.Pegs: its walks between the stops.
-/
import Derived.Test.YtakjhhkffiffdaaPegs0
import Derived.Conc.PipeWords
import Derived.Laws.AppendOwn
import Derived.Conc.AppendEvents2
import Derived.Laws.NewBlocks
import Derived.Conc.PipeGen
set_option linter.unusedVariables false
set_option linter.unusedSimpArgs false
namespace Go.Proofs.Ytakjhhkffiffdaa
open Go.RowKit Go.Conc Go.Proofs.YtakjhhkffiffdaaLift Go.Proofs.YtakjhhkffiffdaaW.PrintWords Go.Proofs.Ytakjhhkffiffdaa.PFnExactPegs

def pz : Value := .agg #[.int .i64 0, .int .i64 0, .int .i64 0]

def pcells (p : S34) (cs : List Value) : Prop := cs = [.int .i64 p.f0, .int .i64 p.f1, .int .i64 p.f2]

/-- What the receiver knows behind the go statement. -/
structure AF (c : Nat) (W : World) (out : Value) (xs : List S34) (w : World) : Prop where
  own : OwnRow pcells 34 3 w (c + 1) out xs
  below : Below c W w
  size : c + 1 ≤ w.heap.size

theorem AF.aside {c : Nat} {W : World} {out : Value} {xs : List S34} {w w₁ : World} (h : AF c W out xs w) (ha : Go.Conc.Aside c w w₁) : AF c W out xs w₁ := by
  obtain ⟨inner, ⟨o1, o2⟩, hr⟩ := h.own
  refine ⟨⟨inner, ⟨o1, ?_⟩, hr⟩, ⟨ha.os.trans h.below.os, ha.tape.trans h.below.tape, ha.output.trans h.below.output, by rw [ha.size]; exact h.below.size, fun k hk => (ha.block k (by omega)).trans (h.below.block k hk)⟩, by rw [ha.size]; exact h.size⟩
  rcases o2 with h0 | ⟨g, cp, cur, e, hg, hh, r⟩
  · exact .inl h0
  · exact .inr ⟨g, cp, cur, e, hg, (ha.block g (by omega)).trans hh, r⟩

theorem AF.alloc {c : Nat} {W : World} {out : Value} {xs : List S34} {w : World} (h : AF c W out xs w) (o : Obj) : AF c W out xs (w.alloc o) := by
  obtain ⟨inner, ho, hr⟩ := h.own
  exact ⟨⟨inner, ho.alloc o, hr⟩, h.below.alloc (by have := h.size; omega) o, by have := h.size; simp; omega⟩

theorem AF.grown {c : Nat} {W : World} {out out' : Value} {xs xs' : List S34} {w w' : World} (h : AF c W out xs w) (hg : w.grownBy w' out.ownBlock) (ho : OwnRow pcells 34 3 w' (c + 1) out' xs') : AF c W out' xs' w' := by
  obtain ⟨inner, h0, hr⟩ := h.own
  exact ⟨ho, h.below.grown hg (by have := h.size; omega) (fun k hk => by have := (h0.lt k hk).1; omega), Nat.le_trans h.size hg.size⟩

/-- A store into a block of the receiver's that is not the row. -/
theorem AF.set {c : Nat} {W : World} {out : Value} {xs : List S34} {w : World} (h : AF c W out xs w) {p : Addr} (hp : c + 1 ≤ p.block) (hne : ∀ k, out.ownBlock = some k → k ≠ p.block) (u : Value) : AF c W out xs (w.setCell p u) := by
  obtain ⟨inner, ho, hr⟩ := h.own
  refine ⟨⟨inner, own_move ho (fun k hk => Below.heap_setCell w p u k (hne k hk)), hr⟩, ?_, by have := h.size; simpa [World.setCell] using this⟩
  exact h.below.trans ⟨rfl, rfl, rfl, by simp [World.setCell], fun k hk => Below.heap_setCell w p u k (by omega)⟩

theorem DA_of_below {c : Nat} {A0 A2 : Option Addr} {ns os : List Int} (hb0 : ∀ ad, A0 = some ad → 0 < ns.length → ad.block < c) (hb2 : ∀ ad, A2 = some ad → 0 < os.length → ad.block < c) {w w' : World} {es : Array Event} (h : Below (c + 1) w w') (he : ∀ e ∈ es, EvA (Mine c) e) :
    DA c (Shared A0 A2 ns os) (Mine c) w w' es :=
  ⟨fun hS => ⟨fun j ad hj ha => (h.cell (by rw [addr_block]; have := hb0 ad ha (by omega); omega)).trans (hS.el0 j ad hj ha), fun j ad hj ha => (h.cell (by rw [addr_block]; have := hb2 ad ha (by omega); omega)).trans (hS.el2 j ad hj ha)⟩, h.block c (by omega), he⟩

theorem evA_read {c : Nat} (l : Loc) (s : Bool) (h : ∀ m, l = .mark m → Neutral m) : EvA (Mine c) ⟨l, false, s⟩ := ⟨h, fun h => by cases h⟩
theorem evA_write {c : Nat} (a : Addr) (s : Bool) (h : c + 1 ≤ a.block) : EvA (Mine c) ⟨.cell a, true, s⟩ := ⟨fun m => by simp, fun _ => ⟨a, rfl, h⟩⟩

theorem below_set {B : Nat} (w : World) {p : Addr} (hp : B ≤ p.block) (u : Value) : Below B w (w.setCell p u) :=
  ⟨rfl, rfl, rfl, by simp [World.setCell], fun k hk => Below.heap_setCell w p u k (by omega)⟩
theorem set3_heap {w : World} {p : Nat} {a b d x y z : Value} {t : TypeId} (h : w.heap[p]? = some (.cells #[a, b, d] t)) :
    (((w.setCell ⟨p, 0, none⟩ x).setCell ⟨p, 1, none⟩ y).setCell ⟨p, 2, none⟩ z).heap[p]? = some (.cells #[x, y, z] t) := by
  simp [World.setCell, Array.getElem?_modify, h]

/-- .. with the round's own variable, in block p. -/
structure AP (c : Nat) (W : World) (out : Value) (xs : List S34) (p : Nat) (x : S34) (w : World) : Prop where
  af : AF c W out xs w
  blk : w.heap[p]? = some (.cells #[.int .i64 x.f0, .int .i64 x.f1, .int .i64 x.f2] 34)
theorem AP.aside {c : Nat} {W : World} {out : Value} {xs : List S34} {p : Nat} {x : S34} {w w₁ : World} (hp : c + 1 ≤ p) (h : AP c W out xs p x w) (ha : Go.Conc.Aside c w w₁) : AP c W out xs p x w₁ :=
  ⟨h.af.aside ha, (ha.block p (by omega)).trans h.blk⟩
theorem AP.c0 {c : Nat} {W : World} {out : Value} {xs : List S34} {p : Nat} {x : S34} {w : World} (h : AP c W out xs p x w) : w.cell? ⟨p, 0, none⟩ = some (.int .i64 x.f0) := by simp [World.cell?, h.blk]
theorem AP.c1 {c : Nat} {W : World} {out : Value} {xs : List S34} {p : Nat} {x : S34} {w : World} (h : AP c W out xs p x w) : w.cell? ⟨p, 1, none⟩ = some (.int .i64 x.f1) := by simp [World.cell?, h.blk]
theorem AP.c2 {c : Nat} {W : World} {out : Value} {xs : List S34} {p : Nat} {x : S34} {w : World} (h : AP c W out xs p x w) : w.cell? ⟨p, 2, none⟩ = some (.int .i64 x.f2) := by simp [World.cell?, h.blk]

/-- The operation 'append(s, x...)', by what the entry yields .. -/
theorem uponK_append {P : Program} {o : Oper} {a : Act} {K : Act → World → Prop} {w w' : World} {v xv v' : Value} (s x : Operand) (t : TypeId)
    (ho : o.op = .call { callee := .builtin .append, args := #[s, x], argTypes := #[t, t] }) (hs : a.eval s = v) (hx : a.eval x = xv)
    (hr : (Builtin.append_ #[t, t] o.type #[v, xv]).run P w = .ok v' w') (h : K (a.put o.dst v') w') : uponK o a K ((execOp a.eval o).run P w) := by
  unfold execOp
  simp only [ho, resolve, invoke, builtin, Sem.run_bind, Sem.run_pure, Result.andThen_ok, List.map_toArray, List.map_cons, List.map_nil, hs, hx, hr]
  exact h
/-- .. and by what it lists. -/
theorem events_append_op {P : Program} {o : Oper} {a : Act} {w : World} {v xv : Value} (s x : Operand) (t : TypeId)
    (ho : o.op = .call { callee := .builtin .append, args := #[s, x], argTypes := #[t, t] }) (hs : a.eval s = v) (hx : a.eval x = xv) (es : Array Event) :
    (execOp a.eval o).events P w es = (Builtin.append_ #[t, t] o.type #[v, xv]).events P w es := by
  unfold execOp
  simp only [ho, resolve, invoke, builtin, Sem.events_bind, Sem.run_pure, Sem.events_pure, Result.evThen_ok, List.map_toArray, List.map_cons, List.map_nil, hs, hx]
  cases (Builtin.append_ #[t, t] o.type #[v, xv]).run P w <;> rfl

noncomputable def body6 : Code := Try.f6.body.getD .skip
noncomputable def L6 : Code := match body6 with | .seq _ (.seq _ (.seq _ (.seq _ (.seq _ (.seq _ (.seq (.seq _ (.block _ (.loop c))) _)))))) => c | _ => .skip
noncomputable def R12 : Code := match body6 with | .seq _ (.seq _ (.seq _ (.seq _ (.seq _ (.seq _ (.seq _ r)))))) => r | _ => .skip
noncomputable def ops8 : Array Oper := match L6 with | .seq (.region _ ops _) _ => ops | _ => #[]
noncomputable def L6b : Code := match L6 with | .seq _ r => r | _ => .skip

theorem array50 (T : Array Value) (h : T.size = 50) : ∃ v0 v1 v2 v3 v4 v5 v6 v7 v8 v9 v10 v11 v12 v13 v14 v15 v16 v17 v18 v19 v20 v21 v22 v23 v24 v25 v26 v27 v28 v29 v30 v31 v32 v33 v34 v35 v36 v37 v38 v39 v40 v41 v42 v43 v44 v45 v46 v47 v48 v49 : Value, T = #[v0, v1, v2, v3, v4, v5, v6, v7, v8, v9, v10, v11, v12, v13, v14, v15, v16, v17, v18, v19, v20, v21, v22, v23, v24, v25, v26, v27, v28, v29, v30, v31, v32, v33, v34, v35, v36, v37, v38, v39, v40, v41, v42, v43, v44, v45, v46, v47, v48, v49] := by
  obtain ⟨l⟩ := T
  simp only [List.size_toArray] at h
  rcases l with _ | ⟨v0, l⟩
  · simp at h
  rcases l with _ | ⟨v1, l⟩
  · simp at h
  rcases l with _ | ⟨v2, l⟩
  · simp at h
  rcases l with _ | ⟨v3, l⟩
  · simp at h
  rcases l with _ | ⟨v4, l⟩
  · simp at h
  rcases l with _ | ⟨v5, l⟩
  · simp at h
  rcases l with _ | ⟨v6, l⟩
  · simp at h
  rcases l with _ | ⟨v7, l⟩
  · simp at h
  rcases l with _ | ⟨v8, l⟩
  · simp at h
  rcases l with _ | ⟨v9, l⟩
  · simp at h
  rcases l with _ | ⟨v10, l⟩
  · simp at h
  rcases l with _ | ⟨v11, l⟩
  · simp at h
  rcases l with _ | ⟨v12, l⟩
  · simp at h
  rcases l with _ | ⟨v13, l⟩
  · simp at h
  rcases l with _ | ⟨v14, l⟩
  · simp at h
  rcases l with _ | ⟨v15, l⟩
  · simp at h
  rcases l with _ | ⟨v16, l⟩
  · simp at h
  rcases l with _ | ⟨v17, l⟩
  · simp at h
  rcases l with _ | ⟨v18, l⟩
  · simp at h
  rcases l with _ | ⟨v19, l⟩
  · simp at h
  rcases l with _ | ⟨v20, l⟩
  · simp at h
  rcases l with _ | ⟨v21, l⟩
  · simp at h
  rcases l with _ | ⟨v22, l⟩
  · simp at h
  rcases l with _ | ⟨v23, l⟩
  · simp at h
  rcases l with _ | ⟨v24, l⟩
  · simp at h
  rcases l with _ | ⟨v25, l⟩
  · simp at h
  rcases l with _ | ⟨v26, l⟩
  · simp at h
  rcases l with _ | ⟨v27, l⟩
  · simp at h
  rcases l with _ | ⟨v28, l⟩
  · simp at h
  rcases l with _ | ⟨v29, l⟩
  · simp at h
  rcases l with _ | ⟨v30, l⟩
  · simp at h
  rcases l with _ | ⟨v31, l⟩
  · simp at h
  rcases l with _ | ⟨v32, l⟩
  · simp at h
  rcases l with _ | ⟨v33, l⟩
  · simp at h
  rcases l with _ | ⟨v34, l⟩
  · simp at h
  rcases l with _ | ⟨v35, l⟩
  · simp at h
  rcases l with _ | ⟨v36, l⟩
  · simp at h
  rcases l with _ | ⟨v37, l⟩
  · simp at h
  rcases l with _ | ⟨v38, l⟩
  · simp at h
  rcases l with _ | ⟨v39, l⟩
  · simp at h
  rcases l with _ | ⟨v40, l⟩
  · simp at h
  rcases l with _ | ⟨v41, l⟩
  · simp at h
  rcases l with _ | ⟨v42, l⟩
  · simp at h
  rcases l with _ | ⟨v43, l⟩
  · simp at h
  rcases l with _ | ⟨v44, l⟩
  · simp at h
  rcases l with _ | ⟨v45, l⟩
  · simp at h
  rcases l with _ | ⟨v46, l⟩
  · simp at h
  rcases l with _ | ⟨v47, l⟩
  · simp at h
  rcases l with _ | ⟨v48, l⟩
  · simp at h
  rcases l with _ | ⟨v49, l⟩
  · simp at h
  rcases l with _ | ⟨x, l⟩
  · exact ⟨v0, v1, v2, v3, v4, v5, v6, v7, v8, v9, v10, v11, v12, v13, v14, v15, v16, v17, v18, v19, v20, v21, v22, v23, v24, v25, v26, v27, v28, v29, v30, v31, v32, v33, v34, v35, v36, v37, v38, v39, v40, v41, v42, v43, v44, v45, v46, v47, v48, v49, rfl⟩
  · simp at h

section
variable (c : Nat) (W : World) (A0 A2 : Option Addr) (ns os : List Int) (X : List Frame)

/-- At the receive ('rest' = [0, 1]); behind it ('rest' = [1]: slot 35 holds what came). -/
noncomputable def frR (T : Array Value) (rest : List Nat) : Goroutine := G ((base 6).at ⟨T, []⟩ [.inRegion ops8 rest, .code L6b, .inLoop L6, .inBlock 0, .code R12]) X

structure SlotsR (out : Value) (flag : Bool) (T : Array Value) : Prop where
  size : T.size = 50
  t8 : T[8]? = some out
  t9 : T[9]? = some (.bool flag)
  t34 : T[34]? = some (.chan (some c))

set_option maxRecDepth 100000 in
set_option maxHeartbeats 4000000 in
theorem seg_round (hb0 : ∀ ad, A0 = some ad → 0 < ns.length → ad.block < c) (hb2 : ∀ ad, A2 = some ad → 0 < os.length → ad.block < c) (Stop : Goroutine → World → Prop) (n₀ : Nat) (out : Value) (xs : List S34) (x : S34) (T : Array Value) (w : World) (hT : SlotsR c out false T) (h35 : T[35]? = some (.tuple #[pv x, .bool true]))
    (hF : AF c W out xs w) (hlen : xs.length ≤ 1000000)
    (next : ∀ out' T' w', SlotsR c out' (x.f0 == -2) T' → AF c W out' (xs ++ [x]) w' → Goes Try.prog true (Go.Conc.Aside c) (DA c (Shared A0 A2 ns os) (Mine c)) Stop n₀ (frR X T' [0, 1]) w') :
    Goes Try.prog true (Go.Conc.Aside c) (DA c (Shared A0 A2 ns os) (Mine c)) Stop (n₀ + 33) (frR X T [1]) w := by
  obtain ⟨hs, t8, t9, t34⟩ := hT
  obtain ⟨v0, v1, v2, v3, v4, v5, v6, v7, v8, v9, v10, v11, v12, v13, v14, v15, v16, v17, v18, v19, v20, v21, v22, v23, v24, v25, v26, v27, v28, v29, v30, v31, v32, v33, v34, v35, v36, v37, v38, v39, v40, v41, v42, v43, v44, v45, v46, v47, v48, v49, rfl⟩ := array50 T hs
  simp only [List.getElem?_toArray, List.getElem?_cons_succ, List.getElem?_cons_zero, Option.some.injEq] at t8 t9 t34 h35
  subst t8 t9 t34 h35
  simp only [frR, ops8, L6b, L6, R12, body6, Try.f6, Option.getD_some, pv] at next ⊢
  repeat (first | a_ctl hF AF.aside (DA_of_below hb0 hb2 (Below.refl _ _) (by simp)) | a_op hF AF.aside [] (DA_of_below hb0 hb2 (Below.refl _ _)) (evA_read _ _ (by simp)))
  a_cond true hF AF.aside (DA_of_below hb0 hb2 (Below.refl _ _) (by simp))
  repeat (first | a_ctl hF AF.aside (DA_of_below hb0 hb2 (Below.refl _ _) (by simp)) | a_op hF AF.aside [] (DA_of_below hb0 hb2 (Below.refl _ _)) (evA_read _ _ (by simp)))
  -- alloc
  refine Goes.step rfl (fun w₁ h₁ => ?_)
  replace hF := AF.aside hF h₁
  clear h₁
  refine goes_oper_k rfl rfl (by decide) (fun K hK => ?_)
  go_simp
  refine hK _ _ ⟨DA_of_below hb0 hb2 ((Below.refl _ _).alloc hF.size _) (fun e he => ?_), ?_⟩
  · have hm := mem_listed he
    simp [go_sem] at hm
  clear hK K
  have hp : (w₁.alloc (.cells #[.int .i64 0, .int .i64 0, .int .i64 0] 34)).heap[w₁.heap.size]? = some (.cells #[.int .i64 0, .int .i64 0, .int .i64 0] 34) := heap_alloc_new _ _
  have hpc : c + 1 ≤ w₁.heap.size := hF.size
  have hne : ∀ k, v8.ownBlock = some k → k ≠ w₁.heap.size := fun k hk => by
    obtain ⟨inner, ho, _⟩ := hF.own
    have := (ho.lt k hk).2
    omega
  replace hF := hF.alloc (.cells #[.int .i64 0, .int .i64 0, .int .i64 0] 34)
  generalize w₁.alloc (.cells #[.int .i64 0, .int .i64 0, .int .i64 0] 34) = wa at hF hp ⊢
  generalize w₁.heap.size = p at hne hp hpc ⊢
  clear w₁
  -- store
  refine Goes.step rfl (fun w₂ h₂ => ?_)
  replace hF := AF.aside hF h₂
  replace hp : w₂.heap[p]? = _ := (h₂.block p (by omega)).trans hp
  clear h₂
  have hc0 : w₂.cell? ⟨p, 0, none⟩ = some (.int .i64 0) := by simp [World.cell?, hp]
  have hc1 : w₂.cell? ⟨p, 1, none⟩ = some (.int .i64 0) := by simp [World.cell?, hp]
  have hc2 : w₂.cell? ⟨p, 2, none⟩ = some (.int .i64 0) := by simp [World.cell?, hp]
  have hz0 : w₂.frozen? ⟨p, 0, none⟩ = false := by simp [World.frozen?, hp]
  have hz1 : w₂.frozen? ⟨p, 1, none⟩ = false := by simp [World.frozen?, hp]
  have hz2 : w₂.frozen? ⟨p, 2, none⟩ = false := by simp [World.frozen?, hp]
  refine goes_oper_k rfl rfl (by decide) (fun K hK => ?_)
  go_simp
  refine hK _ _ ⟨DA_of_below hb0 hb2 (((below_set w₂ (by exact hpc) _).trans (below_set _ (by exact hpc) _)).trans (below_set _ (by exact hpc) _)) (fun e he => ?_), ?_⟩
  · have hm := mem_listed he
    simp [go_sem, *] at hm
    rcases hm with rfl | rfl | rfl <;> exact evA_write _ _ hpc
  clear hK K
  have hP : AP c W v8 xs p x (((w₂.setCell ⟨p, 0, none⟩ (.int .i64 x.f0)).setCell ⟨p, 1, none⟩ (.int .i64 x.f1)).setCell ⟨p, 2, none⟩ (.int .i64 x.f2)) :=
    ⟨((hF.set (p := ⟨p, 0, none⟩) hpc hne _).set (p := ⟨p, 1, none⟩) hpc hne _).set (p := ⟨p, 2, none⟩) hpc hne _, set3_heap hp⟩
  clear hF hp hc0 hc1 hc2 hz0 hz1 hz2
  generalize (((w₂.setCell ⟨p, 0, none⟩ (.int .i64 x.f0)).setCell ⟨p, 1, none⟩ (.int .i64 x.f1)).setCell ⟨p, 2, none⟩ (.int .i64 x.f2)) = ws at hP ⊢
  clear w₂
  iterate 13 (first | a_ctl hP (AP.aside hpc) (DA_of_below hb0 hb2 (Below.refl _ _) (by simp)) | a_op hP (AP.aside hpc) [AP.c0 hP, AP.c1 hP, AP.c2 hP] (DA_of_below hb0 hb2 (Below.refl _ _)) (evA_read _ _ (by simp)))
  -- the struct is read
  refine Goes.step rfl (fun w₃ h₃ => ?_)
  replace hP := AP.aside hpc hP h₃
  clear h₃
  have k0 := hP.c0
  have k1 := hP.c1
  have k2 := hP.c2
  refine goes_oper_k rfl rfl (by decide) (fun K hK => ?_)
  go_simp
  refine hK _ _ ⟨DA_of_below hb0 hb2 (Below.refl _ _) (fun e he => ?_), ?_⟩
  · have hm := mem_listed he
    simp [go_sem, *] at hm
    rcases hm with rfl | rfl | rfl <;> exact evA_read _ _ (by simp)
  clear hK K k0 k1 k2
  -- buildSlice: a new block of three cells
  refine Goes.step rfl (fun w₄ h₄ => ?_)
  have hF := (AP.aside hpc hP h₄).af
  clear hP h₄
  refine goes_oper_k rfl rfl (by decide) (fun K hK => ?_)
  go_simp
  refine hK _ _ ⟨DA_of_below hb0 hb2 ((Below.refl _ _).alloc hF.size _) (fun e he => ?_), ?_⟩
  · have hm := mem_listed he
    simp [go_sem] at hm
  clear hK K
  have hnew : (w₄.alloc (.cells #[.int .i64 x.f0, .int .i64 x.f1, .int .i64 x.f2] 34)).heap[w₄.heap.size]? = some (.cells #[.int .i64 x.f0, .int .i64 x.f1, .int .i64 x.f2] 34) := heap_alloc_new _ _
  have hnc : c + 1 ≤ w₄.heap.size := hF.size
  replace hF := hF.alloc (.cells #[.int .i64 x.f0, .int .i64 x.f1, .int .i64 x.f2] 34)
  generalize w₄.alloc (.cells #[.int .i64 x.f0, .int .i64 x.f1, .int .i64 x.f2] 34) = wb at hF hnew ⊢
  generalize w₄.heap.size = r at hnew hnc ⊢
  clear w₄
  -- append: by the kit's law on what it yields and by the law on what it lists
  refine Goes.step rfl (fun w₅ h₅ => ?_)
  replace hF := AF.aside hF h₅
  replace hnew : w₅.heap[r]? = _ := (h₅.block r (by omega)).trans hnew
  clear h₅
  obtain ⟨i0, hi, hz0, hz1, hz2⟩ := info_parts info34
  have hnews : ∀ j u, [Value.int .i64 x.f0, Value.int .i64 x.f1, Value.int .i64 x.f2][j]? = some u → w₅.cell? ((⟨r, 0, none⟩ : Addr).add j) = some u := by
    intro j u hj
    match j, hj with
    | 0, hj => simp at hj; subst hj; simp [Addr.add, World.cell?, hnew]
    | 1, hj => simp at hj; subst hj; simp [Addr.add, World.cell?, hnew]
    | 2, hj => simp at hj; subst hj; simp [Addr.add, World.cell?, hnew]
    | j + 3, hj => simp at hj
  have h1 : ∀ u ∈ [Value.int .i64 x.f0, Value.int .i64 x.f1, Value.int .i64 x.f2], u.oneCell' = true := by
    intro u hu
    simp at hu
    rcases hu with rfl | rfl | rfl <;> rfl
  have h63 : xs.length + 1 ≤ maxLen := by simp only [maxLen]; omega
  have hby : (xs.length + 1) * 24 ≤ 140737488355328 := by omega
  obtain ⟨inner, hown, hrep⟩ := hF.own
  obtain ⟨out', w₆, hr, hown', hgrow, _⟩ := run_append_own (P := Try.prog) w₅ (c + 1) 23 23 34 i0 (.agg #[.int .i64 0, .int .i64 0, .int .i64 0]) 3 24 Try.underlying23 hi hz0 hz1 hz2 rfl (by decide) v8 xs.length inner hown ⟨r, 0, none⟩ 1 1 [.int .i64 x.f0, .int .i64 x.f1, .int .i64 x.f2] rfl hnews h1 h63 hby hF.size
  have hevs := events_append_own (P := Try.prog) w₅ (c + 1) 23 23 34 i0 (.agg #[.int .i64 0, .int .i64 0, .int .i64 0]) 3 24 Try.underlying23 hi hz0 hz1 hz2 v8 xs.length inner hown ⟨r, 0, none⟩ 1 1 [.int .i64 x.f0, .int .i64 x.f1, .int .i64 x.f2] rfl hnews h1 h63 hby
  refine goes_oper_k rfl rfl (by decide) (fun K hK => ?_)
  refine uponK_append (.tmp 44) (.tmp 46) 23 rfl rfl rfl hr (hK _ _ ⟨DA_of_below hb0 hb2 ((Below.refl _ _).grown hgrow hF.size (fun k hk => (hown.lt k hk).1)) (fun e he => ?_), ?_⟩)
  · have hm := mem_listed he
    rw [events_append_op (.tmp 44) (.tmp 46) 23 rfl rfl rfl] at hm
    rcases hevs e hm with ⟨ad, h2, h3⟩ | ⟨ad, h2, h3⟩ | ⟨m, rfl, hn⟩
    · exact ⟨fun m => by rw [h2]; simp, fun hw => by rw [h3] at hw; cases hw⟩
    · exact ⟨fun m => by rw [h2]; simp, fun _ => ⟨ad, h2, (hown.lt _ h3.symm).1⟩⟩
    · exact ⟨fun m' h' => (by cases h'; exact hn), fun hw => (by cases hw)⟩
  clear hK K
  replace hF : AF c W out' (xs ++ [x]) w₆ := hF.grown hgrow ⟨_, by simpa using hown', hrep.snoc rfl rfl⟩
  clear hr hown' hgrow hevs hnews hnew
  iterate 6 (first | a_ctl hF AF.aside (DA_of_below hb0 hb2 (Below.refl _ _) (by simp)) | a_op hF AF.aside [] (DA_of_below hb0 hb2 (Below.refl _ _)) (evA_read _ _ (by simp)))
  exact next _ _ _ ⟨by simp, by simp, by simp, by simp⟩ hF
end
end Go.Proofs.Ytakjhhkffiffdaa
