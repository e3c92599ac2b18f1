/-
  impl.Pegs, in company.
-/
import Derived.Test.YtakjhhkffiffdaaRecvWhole
import Derived.Test.YtakjhhkffiffdaaSendWhole
set_option linter.unusedVariables false
set_option linter.unusedSimpArgs false
namespace Go.Proofs.YtakjhhkffiffdaaLift
open Go.Conc
theorem getsA_call' {P : Program} {Q : Goroutine → World → Prop} {b : Frame} {a : Act} {k : List Item} {cs : List Frame} {w : World} {ops : Array Oper} {i : Nat} {rest : List Nat} {o : Oper} {f : FuncId} {fn : Func} {c : Code} {args : Array Operand} {ats : Array TypeId} {R : Value → World → Prop} {vals : Array Value}
    (ho : ops[i]? = some o) (hw : Region.wanted o (yielded ops a.tmps) = true) (hk : b.kind ≠ .early) (hop : o.op = .call { callee := .value (.func f), args, argTypes := ats })
    (hf : P.funcs[f]? = some fn) (hname : (fn.name == "runtime.NumGoroutine") = false) (hb : fn.body = some c) (ha : args.map a.eval = vals) (hc : CallsA P f vals w R)
    (next : ∀ v w', R v w' → GetsA P Q (G (b.at (a.put o.dst v) (.inRegion ops rest :: k)) cs) w') : GetsA P Q (G (b.at a (.inRegion ops (i :: rest) :: k)) cs) w :=
  getsA_call ho hw hk hop hf hname hb (by rw [ha]; exact hc) next
theorem getsA_now {P : Program} {Q : Goroutine → World → Prop} {g : Goroutine} {w : World} (h : GetsA P Q g w) : Gets P Q g w := h w.drawn
/-- The go statement. -/
theorem getsA_go {P : Program} {Q : Goroutine → World → Prop} {b : Frame} {a : Act} {k : List Item} {cs : List Frame} {w : World} {ops : Array Oper} {i : Nat} {rest : List Nat} {o : Oper} {dd : Deferred} {f : Fn} {cap : Array Value} {c : Nat} {S : World → Prop} {Mine : Loc → Prop} {z : Value} {vs : List Value} {s r : Nat} {tm : Bool}
    (ho : ops[i]? = some o) (hw : Region.wanted o (yielded ops a.tmps) = true) (hk : b.kind ≠ .early) (hr : ∀ w, (execOp a.eval o).run P w = .ok (.spawn dd) w) (he : ∀ w, (execOp a.eval o).events P w #[] = #[]) (hd : dd.target = .fn f cap)
    (hSt : ∀ w w₁, Go.Conc.Aside c w w₁ → S w → S w₁) (hS : S w) (hc : w.heap[c]? = some (.chan 0 #[] false s r tm)) (hB : Sends P c S Mine vs (born P dd))
    (hA : ∀ d, Recvs P c S Mine z Q vs (G (b.at (a.put o.dst undef) (.inRegion ops rest :: k)) cs) (w.at d)) : GetsA P Q (G (b.at a (.inRegion ops (i :: rest) :: k)) cs) w := by
  intro d0
  refine gets_fork rfl fun d => ⟨G (b.at (a.put o.dst undef) (.inRegion ops rest :: k)) cs, born P dd, w.at d, #[], c, S, Mine, z, vs, s, r, tm, ?_, by simp, hSt, hSt _ _ (Aside.at c w d) hS, hc, hA d, hB⟩
  show stepG P true _ (w.at d) = _
  rw [stepG_spawn (w' := w.at d) ho hw hk (hr _) hd]
  unfold listed
  rw [he, seen_none]

theorem getsA_then {P : Program} {Q Q' : Goroutine → World → Prop} {g : Goroutine} {w : World} (h : GetsA P Q g w) (h' : ∀ g' w', Q g' w' → GetsA P Q' g' w') : GetsA P Q' g w :=
  fun d => (h d).trans fun g' w' hq => getsA_now (h' g' w' hq)
end Go.Proofs.YtakjhhkffiffdaaLift
namespace Go.Proofs.Ytakjhhkffiffdaa
open Go.RowKit Go.Conc Go.Proofs.YtakjhhkffiffdaaLift Go.Proofs.YtakjhhkffiffdaaW.PrintWords Go.Proofs.Ytakjhhkffiffdaa.PFnExactPegs
attribute [local go_sem] Instr.makeChan

theorem nm4 : (Try.f4.name == "runtime.NumGoroutine") = false := by kernel_rfl
theorem nm5 : (Try.f5.name == "runtime.NumGoroutine") = false := by kernel_rfl
theorem nm6 : (Try.f6.name == "runtime.NumGoroutine") = false := by kernel_rfl
theorem nm7 : (Try.f7.name == "runtime.NumGoroutine") = false := by kernel_rfl
theorem nm8 : (Try.f8.name == "runtime.NumGoroutine") = false := by kernel_rfl
theorem nm9 : (Try.f9.name == "runtime.NumGoroutine") = false := by kernel_rfl
theorem nm10 : (Try.f10.name == "runtime.NumGoroutine") = false := by kernel_rfl
theorem nm11 : (Try.f11.name == "runtime.NumGoroutine") = false := by kernel_rfl
theorem nm14 : (Try.f14.name == "runtime.NumGoroutine") = false := by kernel_rfl
theorem nm15 : (Try.f15.name == "runtime.NumGoroutine") = false := by kernel_rfl

theorem below_then {w w1 w2 : World} (h : Below w.heap.size w w1) (k : Below w1.heap.size w1 w2) : Below w.heap.size w w2 :=
  ⟨k.os.trans h.os, k.tape.trans h.tape, k.output.trans h.output, Nat.le_trans h.size k.size, fun i hi => (k.block i (Nat.lt_of_lt_of_le hi h.size)).trans (h.block i hi)⟩

theorem CI_block {w : World} {A : Option Addr} {xs : List Int} (h : KI.C w A xs.length xs) : (∀ ad, A = some ad → 0 < xs.length → ad.block < w.heap.size) ∧ (0 < xs.length → ∃ ad, A = some ad) ∧ ∀ (j : Nat) (ad : Addr), j < xs.length → A = some ad → w.cell? (ad.add j) = some (.int .i64 (xs.getD j 0)) := by
  have key : ∀ (j : Nat) (ad : Addr), j < xs.length → A = some ad → w.cell? (ad.add j) = some (.int .i64 (xs.getD j 0)) := by
    intro j ad hj e
    obtain ⟨ad', e', hc⟩ := h.2.2 (by omega)
    rw [e] at e'
    cases e'
    obtain ⟨cs, hl, hK, hcell⟩ := hc j xs[j] (List.getElem?_eq_getElem hj)
    have hK' : cs = [.int .i64 xs[j]] := hK
    subst hK'
    have := hcell 0 _ rfl
    have e1 : KI.sz = 1 := rfl
    rw [e1, Nat.mul_one, Nat.add_zero] at this
    rw [this]
    simp [List.getD, List.getElem?_eq_getElem hj]
  refine ⟨fun ad e hp => ?_, fun hp => ?_, key⟩
  · have := World.block_lt_of_cell? _ _ (key 0 ad hp e)
    rwa [addr_block] at this
  · obtain ⟨ad, e, _⟩ := h.2.2 hp
    exact ⟨ad, e⟩

section
variable {w : World} {A0 A2 : Option Addr} {c0 c2 k : Nat} {ns os : List Int} {hv : Int}

/-- All that is sent. -/
def psOf (out : List S34) (bad : Bool) : List S34 := out ++ (if bad then [⟨-2, 0, 0⟩] else [])
theorem R_none34 (w : World) (base : Nat) : k34.R 34 w base (fun _ => True) (.slice none 0 0) [] := Kd.R_nil _ _ _ _ _

set_option maxRecDepth 100000 in
set_option maxHeartbeats 4000000 in
theorem pegs_n1 (hr0 : KI.C w A0 ns.length ns) (hc0 : ns.length ≤ c0) (hr2 : KI.C w A2 os.length os) (hc2 : os.length ≤ c2) (h1 : impl_listOk.f k ns (ns.length : Int) = some false) :
    CallsA Try.prog 6 #[.slice A0 ns.length c0, .int .i64 hv, .slice A2 os.length c2] w (fun v w' => k34.R 34 w' w.heap.size (fun _ => True) v [] ∧ Below w.heap.size w w') := by
  intro X fn cc g1 g2
  rw [Try.func6] at g1
  obtain rfl := Option.some.inj g1
  have hcc : cc = body6 := by
    have := Option.some.inj g2
    rw [← this]; rfl
  subst hcc
  have e0 : (#[.slice A0 ns.length c0, .int .i64 hv, .slice A2 os.length c2] ++ Array.replicate (Try.f6.ntmps - (#[.slice A0 ns.length c0, .int .i64 hv, .slice A2 os.length c2] : Array Value).size) undef : Array Value) = #[.slice A0 ns.length c0, .int .i64 hv, .slice A2 os.length c2, undef, undef, undef, undef, undef, undef, undef, undef, undef, undef, undef, undef, undef, undef, undef, undef, undef, undef, undef, undef, undef, undef, undef, undef, undef, undef, undef, undef, undef, undef, undef, undef, undef, undef, undef, undef, undef, undef, undef, undef, undef, undef, undef, undef, undef, undef, undef] := by
    apply Array.ext'
    rw [Array.toList_append, Array.toList_replicate]
    rfl
  rw [e0]
  clear e0 g1 g2
  simp only [body6, Try.f6, Option.getD_some]
  repeat (first | (refine GetsA.goes rfl (fun d => ?_); own_rw; refine ⟨⟨fun e he => by simp at he, by first | rfl | trivial⟩, ?_⟩) | (refine GetsA.goes rfl (fun d => ?_); refine goes_oper_k rfl rfl (by decide) (fun K hK => ?_); go_simp; refine hK _ _ ⟨⟨fun e he => by (have hm := mem_listed he; simp [go_sem] at hm), rfl⟩, ?_⟩; clear hK K) | (refine GetsA.goes rfl (fun d => ?_); rw [stepG_unwanted rfl rfl]; simp only [goes_go]; refine ⟨⟨by simp, by first | rfl | trivial⟩, ?_⟩))
  refine getsA_call' rfl rfl (by decide) rfl Try.func14 nm14 rfl (by simp [Act.eval]) (listOk_A hr0 hc0 h1) (fun v w' hv => ?_)
  obtain ⟨rfl, hb⟩ := hv
  walk_nrm
  repeat (first | (refine GetsA.goes rfl (fun d => ?_); own_rw; refine ⟨⟨fun e he => by simp at he, by first | rfl | trivial⟩, ?_⟩) | (refine GetsA.goes rfl (fun d => ?_); refine goes_oper_k rfl rfl (by decide) (fun K hK => ?_); go_simp; refine hK _ _ ⟨⟨fun e he => by (have hm := mem_listed he; simp [go_sem] at hm), rfl⟩, ?_⟩; clear hK K) | (refine GetsA.goes rfl (fun d => ?_); rw [stepG_unwanted rfl rfl]; simp only [goes_go]; refine ⟨⟨by simp, by first | rfl | trivial⟩, ?_⟩))
  refine GetsA.goes rfl (fun d => ?_)
  rw [stepG_cond (t := true) rfl]
  simp only [goes_go, if_true, if_false, Bool.false_eq_true, ↓reduceIte]
  refine ⟨⟨by simp, by first | rfl | trivial⟩, ?_⟩
  repeat (first | (refine GetsA.goes rfl (fun d => ?_); own_rw; refine ⟨⟨fun e he => by simp at he, by first | rfl | trivial⟩, ?_⟩) | (refine GetsA.goes rfl (fun d => ?_); refine goes_oper_k rfl rfl (by decide) (fun K hK => ?_); go_simp; refine hK _ _ ⟨⟨fun e he => by (have hm := mem_listed he; simp [go_sem] at hm), rfl⟩, ?_⟩; clear hK K) | (refine GetsA.goes rfl (fun d => ?_); rw [stepG_unwanted rfl rfl]; simp only [goes_go]; refine ⟨⟨by simp, by first | rfl | trivial⟩, ?_⟩))
  refine GetsA.goes rfl (fun d => ?_)
  rw [stepG_ret']
  simp only [goes_go]
  refine ⟨⟨by simp, by first | rfl | trivial⟩, ?_⟩
  refine GetsA.done fun d => ⟨_, ⟨_, _, Try.f6, 6, rfl, Try.func6, rfl, rfl⟩, ?_, below_at hb d⟩
  exact R_none34 _ _

set_option maxRecDepth 100000 in
set_option maxHeartbeats 4000000 in
theorem pegs_n2 (hr0 : KI.C w A0 ns.length ns) (hc0 : ns.length ≤ c0) (hr2 : KI.C w A2 os.length os) (hc2 : os.length ≤ c2) (h1 : impl_listOk.f k ns (ns.length : Int) = some true) (h2 : impl_listOk.f k os (ns.length : Int) = some false) :
    CallsA Try.prog 6 #[.slice A0 ns.length c0, .int .i64 hv, .slice A2 os.length c2] w (fun v w' => k34.R 34 w' w.heap.size (fun _ => True) v [] ∧ Below w.heap.size w w') := by
  intro X fn cc g1 g2
  rw [Try.func6] at g1
  obtain rfl := Option.some.inj g1
  have hcc : cc = body6 := by
    have := Option.some.inj g2
    rw [← this]; rfl
  subst hcc
  have e0 : (#[.slice A0 ns.length c0, .int .i64 hv, .slice A2 os.length c2] ++ Array.replicate (Try.f6.ntmps - (#[.slice A0 ns.length c0, .int .i64 hv, .slice A2 os.length c2] : Array Value).size) undef : Array Value) = #[.slice A0 ns.length c0, .int .i64 hv, .slice A2 os.length c2, undef, undef, undef, undef, undef, undef, undef, undef, undef, undef, undef, undef, undef, undef, undef, undef, undef, undef, undef, undef, undef, undef, undef, undef, undef, undef, undef, undef, undef, undef, undef, undef, undef, undef, undef, undef, undef, undef, undef, undef, undef, undef, undef, undef, undef, undef, undef] := by
    apply Array.ext'
    rw [Array.toList_append, Array.toList_replicate]
    rfl
  rw [e0]
  clear e0 g1 g2
  simp only [body6, Try.f6, Option.getD_some]
  repeat (first | (refine GetsA.goes rfl (fun d => ?_); own_rw; refine ⟨⟨fun e he => by simp at he, by first | rfl | trivial⟩, ?_⟩) | (refine GetsA.goes rfl (fun d => ?_); refine goes_oper_k rfl rfl (by decide) (fun K hK => ?_); go_simp; refine hK _ _ ⟨⟨fun e he => by (have hm := mem_listed he; simp [go_sem] at hm), rfl⟩, ?_⟩; clear hK K) | (refine GetsA.goes rfl (fun d => ?_); rw [stepG_unwanted rfl rfl]; simp only [goes_go]; refine ⟨⟨by simp, by first | rfl | trivial⟩, ?_⟩))
  refine getsA_call' rfl rfl (by decide) rfl Try.func14 nm14 rfl (by simp [Act.eval]) (listOk_A hr0 hc0 h1) (fun v w' hv => ?_)
  obtain ⟨rfl, hb⟩ := hv
  walk_nrm
  repeat (first | (refine GetsA.goes rfl (fun d => ?_); own_rw; refine ⟨⟨fun e he => by simp at he, by first | rfl | trivial⟩, ?_⟩) | (refine GetsA.goes rfl (fun d => ?_); refine goes_oper_k rfl rfl (by decide) (fun K hK => ?_); go_simp; refine hK _ _ ⟨⟨fun e he => by (have hm := mem_listed he; simp [go_sem] at hm), rfl⟩, ?_⟩; clear hK K) | (refine GetsA.goes rfl (fun d => ?_); rw [stepG_unwanted rfl rfl]; simp only [goes_go]; refine ⟨⟨by simp, by first | rfl | trivial⟩, ?_⟩))
  have hr2b := Kd.C_below hr2 hb
  refine getsA_call' rfl rfl (by decide) rfl Try.func14 nm14 rfl (by simp [Act.eval]) (listOk_A hr2b hc2 h2) (fun v w' hv => ?_)
  obtain ⟨rfl, hb2⟩ := hv
  walk_nrm
  replace hb := below_then hb hb2
  repeat (first | (refine GetsA.goes rfl (fun d => ?_); own_rw; refine ⟨⟨fun e he => by simp at he, by first | rfl | trivial⟩, ?_⟩) | (refine GetsA.goes rfl (fun d => ?_); refine goes_oper_k rfl rfl (by decide) (fun K hK => ?_); go_simp; refine hK _ _ ⟨⟨fun e he => by (have hm := mem_listed he; simp [go_sem] at hm), rfl⟩, ?_⟩; clear hK K) | (refine GetsA.goes rfl (fun d => ?_); rw [stepG_unwanted rfl rfl]; simp only [goes_go]; refine ⟨⟨by simp, by first | rfl | trivial⟩, ?_⟩))
  refine GetsA.goes rfl (fun d => ?_)
  rw [stepG_cond (t := true) rfl]
  simp only [goes_go, if_true, if_false, Bool.false_eq_true, ↓reduceIte]
  refine ⟨⟨by simp, by first | rfl | trivial⟩, ?_⟩
  repeat (first | (refine GetsA.goes rfl (fun d => ?_); own_rw; refine ⟨⟨fun e he => by simp at he, by first | rfl | trivial⟩, ?_⟩) | (refine GetsA.goes rfl (fun d => ?_); refine goes_oper_k rfl rfl (by decide) (fun K hK => ?_); go_simp; refine hK _ _ ⟨⟨fun e he => by (have hm := mem_listed he; simp [go_sem] at hm), rfl⟩, ?_⟩; clear hK K) | (refine GetsA.goes rfl (fun d => ?_); rw [stepG_unwanted rfl rfl]; simp only [goes_go]; refine ⟨⟨by simp, by first | rfl | trivial⟩, ?_⟩))
  refine GetsA.goes rfl (fun d => ?_)
  rw [stepG_ret']
  simp only [goes_go]
  refine ⟨⟨by simp, by first | rfl | trivial⟩, ?_⟩
  refine GetsA.done fun d => ⟨_, ⟨_, _, Try.f6, 6, rfl, Try.func6, rfl, rfl⟩, ?_, below_at hb d⟩
  exact R_none34 _ _

set_option maxRecDepth 100000 in
set_option maxHeartbeats 4000000 in
theorem pegs_n3 (hr0 : KI.C w A0 ns.length ns) (hc0 : ns.length ≤ c0) (hr2 : KI.C w A2 os.length os) (hc2 : os.length ≤ c2) (h1 : impl_listOk.f k ns (ns.length : Int) = some true) (h2 : impl_listOk.f k os (ns.length : Int) = some true) (h3 : impl_quantity.f hv = some false) :
    CallsA Try.prog 6 #[.slice A0 ns.length c0, .int .i64 hv, .slice A2 os.length c2] w (fun v w' => k34.R 34 w' w.heap.size (fun _ => True) v [] ∧ Below w.heap.size w w') := by
  intro X fn cc g1 g2
  rw [Try.func6] at g1
  obtain rfl := Option.some.inj g1
  have hcc : cc = body6 := by
    have := Option.some.inj g2
    rw [← this]; rfl
  subst hcc
  have e0 : (#[.slice A0 ns.length c0, .int .i64 hv, .slice A2 os.length c2] ++ Array.replicate (Try.f6.ntmps - (#[.slice A0 ns.length c0, .int .i64 hv, .slice A2 os.length c2] : Array Value).size) undef : Array Value) = #[.slice A0 ns.length c0, .int .i64 hv, .slice A2 os.length c2, undef, undef, undef, undef, undef, undef, undef, undef, undef, undef, undef, undef, undef, undef, undef, undef, undef, undef, undef, undef, undef, undef, undef, undef, undef, undef, undef, undef, undef, undef, undef, undef, undef, undef, undef, undef, undef, undef, undef, undef, undef, undef, undef, undef, undef, undef, undef] := by
    apply Array.ext'
    rw [Array.toList_append, Array.toList_replicate]
    rfl
  rw [e0]
  clear e0 g1 g2
  simp only [body6, Try.f6, Option.getD_some]
  repeat (first | (refine GetsA.goes rfl (fun d => ?_); own_rw; refine ⟨⟨fun e he => by simp at he, by first | rfl | trivial⟩, ?_⟩) | (refine GetsA.goes rfl (fun d => ?_); refine goes_oper_k rfl rfl (by decide) (fun K hK => ?_); go_simp; refine hK _ _ ⟨⟨fun e he => by (have hm := mem_listed he; simp [go_sem] at hm), rfl⟩, ?_⟩; clear hK K) | (refine GetsA.goes rfl (fun d => ?_); rw [stepG_unwanted rfl rfl]; simp only [goes_go]; refine ⟨⟨by simp, by first | rfl | trivial⟩, ?_⟩))
  refine getsA_call' rfl rfl (by decide) rfl Try.func14 nm14 rfl (by simp [Act.eval]) (listOk_A hr0 hc0 h1) (fun v w' hv => ?_)
  obtain ⟨rfl, hb⟩ := hv
  walk_nrm
  repeat (first | (refine GetsA.goes rfl (fun d => ?_); own_rw; refine ⟨⟨fun e he => by simp at he, by first | rfl | trivial⟩, ?_⟩) | (refine GetsA.goes rfl (fun d => ?_); refine goes_oper_k rfl rfl (by decide) (fun K hK => ?_); go_simp; refine hK _ _ ⟨⟨fun e he => by (have hm := mem_listed he; simp [go_sem] at hm), rfl⟩, ?_⟩; clear hK K) | (refine GetsA.goes rfl (fun d => ?_); rw [stepG_unwanted rfl rfl]; simp only [goes_go]; refine ⟨⟨by simp, by first | rfl | trivial⟩, ?_⟩))
  have hr2b := Kd.C_below hr2 hb
  refine getsA_call' rfl rfl (by decide) rfl Try.func14 nm14 rfl (by simp [Act.eval]) (listOk_A hr2b hc2 h2) (fun v w' hv => ?_)
  obtain ⟨rfl, hb2⟩ := hv
  walk_nrm
  replace hb := below_then hb hb2
  repeat (first | (refine GetsA.goes rfl (fun d => ?_); own_rw; refine ⟨⟨fun e he => by simp at he, by first | rfl | trivial⟩, ?_⟩) | (refine GetsA.goes rfl (fun d => ?_); refine goes_oper_k rfl rfl (by decide) (fun K hK => ?_); go_simp; refine hK _ _ ⟨⟨fun e he => by (have hm := mem_listed he; simp [go_sem] at hm), rfl⟩, ?_⟩; clear hK K) | (refine GetsA.goes rfl (fun d => ?_); rw [stepG_unwanted rfl rfl]; simp only [goes_go]; refine ⟨⟨by simp, by first | rfl | trivial⟩, ?_⟩))
  refine getsA_call' rfl rfl (by decide) rfl Try.func15 nm15 rfl (by simp [Act.eval]) (quantity_A h3) (fun v w' hv => ?_)
  obtain ⟨rfl, hb2⟩ := hv
  walk_nrm
  replace hb := below_then hb hb2
  repeat (first | (refine GetsA.goes rfl (fun d => ?_); own_rw; refine ⟨⟨fun e he => by simp at he, by first | rfl | trivial⟩, ?_⟩) | (refine GetsA.goes rfl (fun d => ?_); refine goes_oper_k rfl rfl (by decide) (fun K hK => ?_); go_simp; refine hK _ _ ⟨⟨fun e he => by (have hm := mem_listed he; simp [go_sem] at hm), rfl⟩, ?_⟩; clear hK K) | (refine GetsA.goes rfl (fun d => ?_); rw [stepG_unwanted rfl rfl]; simp only [goes_go]; refine ⟨⟨by simp, by first | rfl | trivial⟩, ?_⟩))
  refine GetsA.goes rfl (fun d => ?_)
  rw [stepG_cond (t := true) rfl]
  simp only [goes_go, if_true, if_false, Bool.false_eq_true, ↓reduceIte]
  refine ⟨⟨by simp, by first | rfl | trivial⟩, ?_⟩
  repeat (first | (refine GetsA.goes rfl (fun d => ?_); own_rw; refine ⟨⟨fun e he => by simp at he, by first | rfl | trivial⟩, ?_⟩) | (refine GetsA.goes rfl (fun d => ?_); refine goes_oper_k rfl rfl (by decide) (fun K hK => ?_); go_simp; refine hK _ _ ⟨⟨fun e he => by (have hm := mem_listed he; simp [go_sem] at hm), rfl⟩, ?_⟩; clear hK K) | (refine GetsA.goes rfl (fun d => ?_); rw [stepG_unwanted rfl rfl]; simp only [goes_go]; refine ⟨⟨by simp, by first | rfl | trivial⟩, ?_⟩))
  refine GetsA.goes rfl (fun d => ?_)
  rw [stepG_ret']
  simp only [goes_go]
  refine ⟨⟨by simp, by first | rfl | trivial⟩, ?_⟩
  refine GetsA.done fun d => ⟨_, ⟨_, _, Try.f6, 6, rfl, Try.func6, rfl, rfl⟩, ?_, below_at hb d⟩
  exact R_none34 _ _

set_option maxRecDepth 100000 in
set_option maxHeartbeats 4000000 in
theorem pegs_y (hr0 : KI.C w A0 ns.length ns) (hc0 : ns.length ≤ c0) (hr2 : KI.C w A2 os.length os) (hc2 : os.length ≤ c2) (h1 : impl_listOk.f k ns (ns.length : Int) = some true) (h2 : impl_listOk.f k os (ns.length : Int) = some true) (h3 : impl_quantity.f hv = some true) {out : List S34} {bad : Bool} (hpr : PR ns os 0 0 0 0 hv out bad) (hns : ns.length ≤ 1000) (hos : os.length ≤ 1000) (hol : out.length ≤ 100000) (hord : ∀ p ∈ out, p.f0 ≠ -2) :
    CallsA Try.prog 6 #[.slice A0 ns.length c0, .int .i64 hv, .slice A2 os.length c2] w (fun v w' => k34.R 34 w' w.heap.size (fun _ => True) v (if bad then [] else out) ∧ Below w.heap.size w w') := by
  intro X fn cc g1 g2
  rw [Try.func6] at g1
  obtain rfl := Option.some.inj g1
  have hcc : cc = body6 := by
    have := Option.some.inj g2
    rw [← this]; rfl
  subst hcc
  have e0 : (#[.slice A0 ns.length c0, .int .i64 hv, .slice A2 os.length c2] ++ Array.replicate (Try.f6.ntmps - (#[.slice A0 ns.length c0, .int .i64 hv, .slice A2 os.length c2] : Array Value).size) undef : Array Value) = #[.slice A0 ns.length c0, .int .i64 hv, .slice A2 os.length c2, undef, undef, undef, undef, undef, undef, undef, undef, undef, undef, undef, undef, undef, undef, undef, undef, undef, undef, undef, undef, undef, undef, undef, undef, undef, undef, undef, undef, undef, undef, undef, undef, undef, undef, undef, undef, undef, undef, undef, undef, undef, undef, undef, undef, undef, undef, undef] := by
    apply Array.ext'
    rw [Array.toList_append, Array.toList_replicate]
    rfl
  rw [e0]
  clear e0 g1 g2
  simp only [body6, Try.f6, Option.getD_some]
  repeat (first | (refine GetsA.goes rfl (fun d => ?_); own_rw; refine ⟨⟨fun e he => by simp at he, by first | rfl | trivial⟩, ?_⟩) | (refine GetsA.goes rfl (fun d => ?_); refine goes_oper_k rfl rfl (by decide) (fun K hK => ?_); go_simp; refine hK _ _ ⟨⟨fun e he => by (have hm := mem_listed he; simp [go_sem] at hm), rfl⟩, ?_⟩; clear hK K) | (refine GetsA.goes rfl (fun d => ?_); rw [stepG_unwanted rfl rfl]; simp only [goes_go]; refine ⟨⟨by simp, by first | rfl | trivial⟩, ?_⟩))
  refine getsA_call' rfl rfl (by decide) rfl Try.func14 nm14 rfl (by simp [Act.eval]) (listOk_A hr0 hc0 h1) (fun v w' hv => ?_)
  obtain ⟨rfl, hb⟩ := hv
  walk_nrm
  repeat (first | (refine GetsA.goes rfl (fun d => ?_); own_rw; refine ⟨⟨fun e he => by simp at he, by first | rfl | trivial⟩, ?_⟩) | (refine GetsA.goes rfl (fun d => ?_); refine goes_oper_k rfl rfl (by decide) (fun K hK => ?_); go_simp; refine hK _ _ ⟨⟨fun e he => by (have hm := mem_listed he; simp [go_sem] at hm), rfl⟩, ?_⟩; clear hK K) | (refine GetsA.goes rfl (fun d => ?_); rw [stepG_unwanted rfl rfl]; simp only [goes_go]; refine ⟨⟨by simp, by first | rfl | trivial⟩, ?_⟩))
  have hr2b := Kd.C_below hr2 hb
  refine getsA_call' rfl rfl (by decide) rfl Try.func14 nm14 rfl (by simp [Act.eval]) (listOk_A hr2b hc2 h2) (fun v w' hv => ?_)
  obtain ⟨rfl, hb2⟩ := hv
  walk_nrm
  replace hb := below_then hb hb2
  repeat (first | (refine GetsA.goes rfl (fun d => ?_); own_rw; refine ⟨⟨fun e he => by simp at he, by first | rfl | trivial⟩, ?_⟩) | (refine GetsA.goes rfl (fun d => ?_); refine goes_oper_k rfl rfl (by decide) (fun K hK => ?_); go_simp; refine hK _ _ ⟨⟨fun e he => by (have hm := mem_listed he; simp [go_sem] at hm), rfl⟩, ?_⟩; clear hK K) | (refine GetsA.goes rfl (fun d => ?_); rw [stepG_unwanted rfl rfl]; simp only [goes_go]; refine ⟨⟨by simp, by first | rfl | trivial⟩, ?_⟩))
  refine getsA_call' rfl rfl (by decide) rfl Try.func15 nm15 rfl (by simp [Act.eval]) (quantity_A h3) (fun v w' hv => ?_)
  obtain ⟨rfl, hb2⟩ := hv
  walk_nrm
  replace hb := below_then hb hb2
  repeat (first | (refine GetsA.goes rfl (fun d => ?_); own_rw; refine ⟨⟨fun e he => by simp at he, by first | rfl | trivial⟩, ?_⟩) | (refine GetsA.goes rfl (fun d => ?_); refine goes_oper_k rfl rfl (by decide) (fun K hK => ?_); go_simp; refine hK _ _ ⟨⟨fun e he => by (have hm := mem_listed he; simp [go_sem] at hm), rfl⟩, ?_⟩; clear hK K) | (refine GetsA.goes rfl (fun d => ?_); rw [stepG_unwanted rfl rfl]; simp only [goes_go]; refine ⟨⟨by simp, by first | rfl | trivial⟩, ?_⟩))
  refine GetsA.goes rfl (fun d => ?_)
  rw [stepG_cond (t := false) rfl]
  simp only [goes_go, if_true, if_false, Bool.false_eq_true, ↓reduceIte]
  refine ⟨⟨by simp, by first | rfl | trivial⟩, ?_⟩
  repeat (first | (refine GetsA.goes rfl (fun d => ?_); own_rw; refine ⟨⟨fun e he => by simp at he, by first | rfl | trivial⟩, ?_⟩) | (refine GetsA.goes rfl (fun d => ?_); refine goes_oper_k rfl rfl (by decide) (fun K hK => ?_); go_simp; refine hK _ _ ⟨⟨fun e he => by (have hm := mem_listed he; simp [go_sem] at hm), rfl⟩, ?_⟩; clear hK K) | (refine GetsA.goes rfl (fun d => ?_); rw [stepG_unwanted rfl rfl]; simp only [goes_go]; refine ⟨⟨by simp, by first | rfl | trivial⟩, ?_⟩))
  -- the channel
  refine GetsA.turns rfl (fun d => ?_)
  refine goes_oper_k rfl rfl (by decide) (fun K hK => ?_)
  go_simp
  refine hK _ _ ⟨fun e he => by (have hm := mem_listed he; simp [go_sem] at hm), ?_⟩
  clear hK K
  have hchan : ((w'.at d).alloc (.chan 0 #[] false 0 0 false)).heap[w'.heap.size]? = some (.chan 0 #[] false 0 0 false) := heap_alloc_new (w'.at d) _
  have hb1 : Below w'.heap.size w' ((w'.at d).alloc (.chan 0 #[] false 0 0 false)) := (below_at (Below.refl _ w') d).alloc (Nat.le_refl _) _
  have hsz : w'.heap.size + 1 ≤ ((w'.at d).alloc (.chan 0 #[] false 0 0 false)).heap.size := by rw [World.size_alloc]; exact Nat.le_refl _
  have esz : (w'.at d).heap.size = w'.heap.size := rfl
  rw [esz]
  clear esz
  generalize (w'.at d).alloc (.chan 0 #[] false 0 0 false) = w4 at hchan hb1 hsz ⊢
  clear d
  repeat (first | (refine GetsA.goes rfl (fun d => ?_); own_rw; refine ⟨⟨fun e he => by simp at he, by first | rfl | trivial⟩, ?_⟩) | (refine GetsA.goes rfl (fun d => ?_); refine goes_oper_k rfl rfl (by decide) (fun K hK => ?_); go_simp; refine hK _ _ ⟨⟨fun e he => by (have hm := mem_listed he; simp [go_sem] at hm), rfl⟩, ?_⟩; clear hK K) | (refine GetsA.goes rfl (fun d => ?_); rw [stepG_unwanted rfl rfl]; simp only [goes_go]; refine ⟨⟨by simp, by first | rfl | trivial⟩, ?_⟩))
  have hr0' := Kd.C_below hr0 hb
  have hr2' := Kd.C_below hr2 hb
  obtain ⟨b0, n0, e0⟩ := CI_block hr0'
  obtain ⟨b2, n2, e2⟩ := CI_block hr2'
  have hF : AF w'.heap.size w' (.slice none 0 0) [] w4 := ⟨OwnRow.none_ _ _ _ _ _, hb1, hsz⟩
  have hSh : Shared A0 A2 ns os w4 := ⟨fun j ad hj e => (hb1.cell (by rw [addr_block]; exact b0 ad e (by omega))).trans (e0 j ad hj e), fun j ad hj e => (hb1.cell (by rw [addr_block]; exact b2 ad e (by omega))).trans (e2 j ad hj e)⟩
  refine getsA_then (Q := FinR w'.heap.size w' X (psOf out bad) bad) ?_ ?_
  · refine getsA_go (dd := call16 A0 A2 c0 c2 ns os hv w'.heap.size) (f := .func 16) (cap := #[]) (S := Shared A0 A2 ns os) (Mine := Mine w'.heap.size) (z := pz) (vs := pvals out bad) rfl rfl (by decide) (fun w => by simp [go_sem, call16, Deferred.ofValue]) (fun w => by simp [go_sem, Deferred.ofValue]) rfl (fun wa wb ha h => ?_) hSh hchan (sends_all w'.heap.size A0 A2 c0 c2 ns os hv hns hos b0 b2 n0 n2 hpr) fun d => ?_
    · exact ⟨fun j ad hj e => (World.cell?_of_block (ha.block _ (by rw [addr_block]; have := b0 ad e (by omega); omega))).trans (h.el0 j ad hj e), fun j ad hj e => (World.cell?_of_block (ha.block _ (by rw [addr_block]; have := b2 ad e (by omega); omega))).trans (h.el2 j ad hj e)⟩
    have hF4 : AF w'.heap.size w' (.slice none 0 0) [] (w4.at d) := hF.aside (Aside.at _ w4 d)
    · have hpv : pvals out bad = (psOf out bad).map pv := by cases bad <;> simp [pvals, psOf]
      rw [hpv]
      have hany : ∀ p ∈ out, (p.f0 == -2) = false := fun p hp => by simpa using hord p hp
      have hfl : (false || (psOf out bad).any fun p : S34 => p.f0 == -2) = bad := by
        unfold psOf
        rw [List.any_append]
        have : (out.any fun p : S34 => p.f0 == -2) = false := by
          rw [List.any_eq_false]
          intro p hp
          simp [hany p hp]
        rw [this]
        cases bad <;> simp
      have key := fun (T : Array Value) (hs : T.size = 50) (t7 : T[7]? = some (.chan (some w'.heap.size))) => seg_first w'.heap.size w' A0 A2 ns os X b0 b2 (StopA Try.prog w'.heap.size (Shared A0 A2 ns os) (Mine w'.heap.size) pz (FinR w'.heap.size w' X (psOf out bad) bad) ((psOf out bad).map pv)) 0 T (w4.at d) hs t7 hF4 (fun out' T' w5 hT' hF' => Goes.stop fun w₁ h₁ => by
        have := stopA_at w'.heap.size w' A0 A2 ns os X b0 b2 (psOf out bad) false [] out' T' w₁ hT' (hF'.aside h₁) (by cases bad <;> simp [psOf] <;> omega) (fun e => by cases e) (fun pre p rest e hp => by
          rcases List.eq_nil_or_concat rest with rfl | ⟨r', q, rfl⟩
          · rfl
          · exfalso
            unfold psOf at e
            have hmem : p ∈ out := by
              cases bad with
              | false =>
                simp only [Bool.false_eq_true, if_false, List.append_nil] at e
                rw [e]; simp
              | true =>
                simp only [if_true] at e
                have e' : out ++ [(⟨-2, 0, 0⟩ : S34)] = (pre ++ p :: r') ++ [q] := by rw [e]; simp
                have := (List.append_inj' e' rfl).1
                rw [this]; simp
            exact hord p hmem hp)
        rw [hfl, List.nil_append] at this
        exact this)
      simp only [ops4, rest5, body6, Try.f6, Option.getD_some] at key
      exact (recvs_iff ..).2 ⟨0 + 19, key _ rfl rfl⟩
  · rintro g' w2 ⟨outv, T, ⟨hs, t8, t9, t34⟩, t35, hF2, rfl⟩
    obtain ⟨v0, v1, v2, v3, v4, v5, v6, v7, v8, v9, v10, v11, v12, v13, v14, v15, v16, v17, v18, v19, v20, v21, v22, v23, v24, v25, v26, v27, v28, v29, v30, v31, v32, v33, v34, v35, v36, v37, v38, v39, v40, v41, v42, v43, v44, v45, v46, v47, v48, v49, rfl⟩ := array50 T hs
    simp only [List.getElem?_toArray, List.getElem?_cons_succ, List.getElem?_cons_zero, Option.some.injEq] at t8 t9 t34 t35
    subst t8 t9 t34 t35
    simp only [frR, ops8, L6b, L6, R12, body6, Try.f6, Option.getD_some]
    have hbl : Below w.heap.size w w2 := below_then hb hF2.below
    repeat (first | (refine GetsA.goes rfl (fun d => ?_); own_rw; refine ⟨⟨fun e he => by simp at he, by first | rfl | trivial⟩, ?_⟩) | (refine GetsA.goes rfl (fun d => ?_); refine goes_oper_k rfl rfl (by decide) (fun K hK => ?_); go_simp; refine hK _ _ ⟨⟨fun e he => by (have hm := mem_listed he; simp [go_sem] at hm), rfl⟩, ?_⟩; clear hK K) | (refine GetsA.goes rfl (fun d => ?_); rw [stepG_unwanted rfl rfl]; simp only [goes_go]; refine ⟨⟨by simp, by first | rfl | trivial⟩, ?_⟩))
    refine GetsA.goes rfl (fun d => ?_)
    rw [stepG_cond (t := false) rfl]
    simp only [goes_go, if_true, if_false, Bool.false_eq_true, ↓reduceIte]
    refine ⟨⟨by simp, by first | rfl | trivial⟩, ?_⟩
    refine GetsA.goes rfl (fun d => ?_)
    apply goes_exit
    · rfl
    refine ⟨⟨by simp, by first | rfl | trivial⟩, ?_⟩
    repeat (first | (refine GetsA.goes rfl (fun d => ?_); own_rw; refine ⟨⟨fun e he => by simp at he, by first | rfl | trivial⟩, ?_⟩) | (refine GetsA.goes rfl (fun d => ?_); refine goes_oper_k rfl rfl (by decide) (fun K hK => ?_); go_simp; refine hK _ _ ⟨⟨fun e he => by (have hm := mem_listed he; simp [go_sem] at hm), rfl⟩, ?_⟩; clear hK K) | (refine GetsA.goes rfl (fun d => ?_); rw [stepG_unwanted rfl rfl]; simp only [goes_go]; refine ⟨⟨by simp, by first | rfl | trivial⟩, ?_⟩))
    cases bad with
    | false =>
      refine GetsA.goes rfl (fun d => ?_)
      rw [stepG_cond (t := false) rfl]
      simp only [goes_go, if_true, if_false, Bool.false_eq_true, ↓reduceIte]
      refine ⟨⟨by simp, by first | rfl | trivial⟩, ?_⟩
      repeat (first | (refine GetsA.goes rfl (fun d => ?_); own_rw; refine ⟨⟨fun e he => by simp at he, by first | rfl | trivial⟩, ?_⟩) | (refine GetsA.goes rfl (fun d => ?_); refine goes_oper_k rfl rfl (by decide) (fun K hK => ?_); go_simp; refine hK _ _ ⟨⟨fun e he => by (have hm := mem_listed he; simp [go_sem] at hm), rfl⟩, ?_⟩; clear hK K) | (refine GetsA.goes rfl (fun d => ?_); rw [stepG_unwanted rfl rfl]; simp only [goes_go]; refine ⟨⟨by simp, by first | rfl | trivial⟩, ?_⟩))
      refine GetsA.goes rfl (fun d => ?_)
      rw [stepG_ret']
      simp only [goes_go]
      refine ⟨⟨by simp, by first | rfl | trivial⟩, ?_⟩
      refine GetsA.done fun d => ⟨_, ⟨_, _, Try.f6, 6, rfl, Try.func6, rfl, rfl⟩, ?_, below_at hbl d⟩
      have h := hF2.own
      unfold psOf at h
      simp only [Bool.false_eq_true, if_false, List.append_nil] at h ⊢
      exact ⟨fun _ _ => trivial, OwnRow.imp_ (OwnRow.lower h (by have := hb.size; omega)) (fun p cs hp => by subst hp; exact k34_mkM _ _ _ _)⟩
    | true =>
      refine GetsA.goes rfl (fun d => ?_)
      rw [stepG_cond (t := true) rfl]
      simp only [goes_go, if_true, if_false, Bool.false_eq_true, ↓reduceIte]
      refine ⟨⟨by simp, by first | rfl | trivial⟩, ?_⟩
      repeat (first | (refine GetsA.goes rfl (fun d => ?_); own_rw; refine ⟨⟨fun e he => by simp at he, by first | rfl | trivial⟩, ?_⟩) | (refine GetsA.goes rfl (fun d => ?_); refine goes_oper_k rfl rfl (by decide) (fun K hK => ?_); go_simp; refine hK _ _ ⟨⟨fun e he => by (have hm := mem_listed he; simp [go_sem] at hm), rfl⟩, ?_⟩; clear hK K) | (refine GetsA.goes rfl (fun d => ?_); rw [stepG_unwanted rfl rfl]; simp only [goes_go]; refine ⟨⟨by simp, by first | rfl | trivial⟩, ?_⟩))
      refine GetsA.goes rfl (fun d => ?_)
      rw [stepG_ret']
      simp only [goes_go]
      refine ⟨⟨by simp, by first | rfl | trivial⟩, ?_⟩
      refine GetsA.done fun d => ⟨_, ⟨_, _, Try.f6, 6, rfl, Try.func6, rfl, rfl⟩, ?_, below_at hbl d⟩
      exact R_none34 _ _
end
end Go.Proofs.Ytakjhhkffiffdaa
