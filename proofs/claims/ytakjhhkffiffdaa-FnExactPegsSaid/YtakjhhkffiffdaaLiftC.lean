/-
  LIFT (C): PLAIN CONFIGURATIONS: what one step does to them, alike over whatever callers stand behind.
-/
import Derived.Test.YtakjhhkffiffdaaLiftB
import Derived.Conc.Own5
set_option linter.unusedVariables false
set_option linter.unusedSimpArgs false
namespace Go.Proofs.YtakjhhkffiffdaaLift
open Go.Conc

def codeOk (P : Program) (F : List FuncId) : Code → Bool
  | .skip | .label _ | .ret | .exit _ => true
  | .seq a b | .cond _ a b => codeOk P F a && codeOk P F b
  | .block _ c | .loop c => codeOk P F c
  | .region _ ops _ => ops.all (plainOp P F)
  | _ => false
def itemOk (P : Program) (F : List FuncId) : Item → Bool
  | .code c | .inLoop c => codeOk P F c
  | .inBlock _ => true
  | .inRegion ops _ => ops.all (plainOp P F)
  | _ => false

/-- The functions that the lift takes: closed under their calls. -/
def Closed' (P : Program) (F : List FuncId) : Prop := ∀ f, f ∈ F → ∃ fn c, P.funcs[f]? = some fn ∧ (fn.name == "runtime.NumGoroutine") = false ∧ fn.body = some c ∧ codeOk P F c = true

/-- A frame of such a function: on its way, or on its way out. -/
structure Fr where
  fn : FuncId
  tmps : Array Value
  todo : List Item
  out : Bool

def Fr.frame (x : Fr) : Frame := if x.out then { (base x.fn).at ⟨x.tmps, []⟩ x.todo with mode := .returning } else (base x.fn).at ⟨x.tmps, []⟩ x.todo
def Fr.ok (P : Program) (F : List FuncId) (x : Fr) : Prop := x.fn ∈ F ∧ x.todo.all (itemOk P F) = true

/-- The goroutine: frame x, above it xs, behind them X. -/
def conf (x : Fr) (xs : List Fr) (X : List Frame) : Goroutine := G x.frame (xs.map Fr.frame ++ X)

/-- One step of a plain configuration, alike over every X. -/
inductive StepIs (P : Program) (F : List FuncId) (x : Fr) (xs : List Fr) (w : World) : Prop
  | go (x' : Fr) (xs' : List Fr) (w' : World) (es : Array Event) (hx : x'.ok P F) (hxs : ∀ y ∈ xs', y.ok P F ∧ y.out = false) (hm : Moved w w') (he : ∀ e ∈ es, Calm e)
      (hs : ∀ main X, stepG P main (conf x xs X) w = .go (conf x' xs' X) w' es)
      (ht : ∀ main X τ e, Agree w w' τ e → stepG P main (conf x xs X) (re w τ e) = .go (conf x' xs' X) (re w' τ (e + (w'.drawn - w.drawn))) es)
  | panic (w' : World) (hm : Moved w w') (ht : ∀ main X τ e, Agree w w' τ e → ∃ (fr : Frame) (chain : List PanicEntry) (v : World) (y : Array Event), fr.fn ∈ F ∧ stepG P main (conf x xs X) (re w τ e) = .go (G { fr with mode := .panicking chain, defers := [] } (xs.map Fr.frame ++ X)) v y)
  | ended (w' : World) (hm : Moved w w') (ht : ∀ main X τ e, Agree w w' τ e → ∃ (o : Outcome) (v : World) (y : Array Event), stepG P main (conf x xs X) (re w τ e) = .ended o v y)

variable {P : Program} {F : List FuncId}

/-- A move of control: the same in every world. -/
theorem StepIs.ctl {x x' : Fr} {xs : List Fr} {w : World} (hx : x'.ok P F) (hxs : ∀ y ∈ xs, y.ok P F ∧ y.out = false)
    (hs : ∀ main X w, stepG P main (conf x xs X) w = .go (conf x' xs X) w) : StepIs P F x xs w :=
  .go x' xs w #[] hx hxs (.refl w) (by simp) (fun main X => hs main X w) (fun main X τ e _ => by rw [hs]; simp)

theorem exitTo_ok {id : Nat} : ∀ {k k' : List Item}, exitTo id k = some k' → k.all (itemOk P F) = true → k'.all (itemOk P F) = true
  | [], _, h, _ => by simp [exitTo] at h
  | i :: k, k', h, hk => by
    simp only [List.all_cons, Bool.and_eq_true] at hk
    cases i <;> simp only [exitTo] at h
    case inBlock id' =>
      split at h
      · cases h; exact hk.2
      · exact exitTo_ok h hk.2
    all_goals exact exitTo_ok h hk.2

theorem run_of {α : Type} {s : Sem α} {w : World} {es es' : Array Event} {r : Result α} (h : s.runT P w es = (r, es')) : s.run P w = r ∧ s.events P w es = es' := by
  rw [Sem.runT_eq] at h
  cases h
  exact ⟨rfl, rfl⟩

theorem conf_run (f : FuncId) (t : Array Value) (k : List Item) (xs : List Fr) (X : List Frame) : conf ⟨f, t, k, false⟩ xs X = G ((base f).at ⟨t, []⟩ k) (xs.map Fr.frame ++ X) := rfl
theorem frame_run (f : FuncId) (t : Array Value) (k : List Item) : (Fr.mk f t k false).frame = (base f).at ⟨t, []⟩ k := rfl

theorem eval_func (a : Act) (f : FuncId) : a.eval (.func f) = .func (.func f) #[] #[] := rfl

theorem bodied {f : FuncId} (hC : Closed' P F) (hf : f ∈ F) : Bodied P f := by
  obtain ⟨fn, c, h1, h2, h3, _⟩ := hC f hf
  exact ⟨fn, c, h1, h2, h3⟩

theorem cond_lost {main : Bool} {b : Frame} {a : Act} {k : List Item} {cs : List Frame} {w : World} {c : Operand} {x y : Code} (h : ∀ t, a.eval c ≠ .bool t) :
    ∃ (o : Outcome) (v : World) (z : Array Event), stepG P main (G (b.at a (.code (.cond c x y) :: k)) cs) w = .ended o v z := by
  have he := Frame.eval_at b a (.code (.cond c x y) :: k) c
  simp only [Frame.at] at he
  cases hv : a.eval c with
  | bool t => exact absurd hv (h t)
  | _ => exact ⟨.stuck "cond: bool expected" ((b.at a (.code (.cond c x y) :: k)).pos P), w, #[], by simp [G, stepG, stepG.exec, Frame.at, he, hv]⟩

theorem exit_lost {main : Bool} {b : Frame} {a : Act} {k : List Item} {cs : List Frame} {w : World} {id : Nat} (h : exitTo id k = none) :
    ∃ (o : Outcome) (v : World) (z : Array Event), stepG P main (G (b.at a (.code (.exit id) :: k)) cs) w = .ended o v z := by
  exact ⟨.stuck "exit, goto: no such block or label" ((b.at a (.code (.exit id) :: k)).pos P), w, #[], by simp [G, stepG, stepG.exec, Frame.at, h]⟩

set_option maxHeartbeats 1000000 in
theorem step_oper {f : FuncId} {t : Array Value} {k : List Item} {xs : List Fr} {w : World} {ops : Array Oper} {i : Nat} {rest : List Nat} {o : Oper} (hC : Closed' P F) (hf : f ∈ F) (hk : k.all (itemOk P F) = true) (hops : ops.all (plainOp P F) = true)
    (hxs : ∀ y ∈ xs, y.ok P F ∧ y.out = false) (ho : ops[i]? = some o) (hw : Region.wanted o (yielded ops t) = true) : StepIs P F ⟨f, t, .inRegion ops (i :: rest) :: k, false⟩ xs w := by
  have hpo : plainOp P F o = true := by
    have := Array.all_eq_true_iff_forall_mem.1 hops o (Array.mem_of_getElem? ho)
    exact this
  have hT := t_execOp (P := P) (F := F) (fun g hg => bodied hC hg) (ρ := (⟨t, []⟩ : Act).eval) (eval_func _) hpo
  obtain ⟨r, es', h1, hm, ha, hsame⟩ := hT.does w #[]
  obtain ⟨hr, hev⟩ := run_of h1
  have hcalm : ∀ e ∈ seen P f es', Calm e := fun e he => by
    have : e ∈ es' := by
      have := mem_listed (P := P) (fn := f) (a := ⟨t, []⟩) (o := o) (w := w) (e := e) (by unfold listed; rw [hev]; exact he)
      rwa [hev] at this
    rcases ha e this with h | h
    · simp at h
    · exact h
  have hl : listed P f ⟨t, []⟩ o w = seen P f es' := by unfold listed; rw [hev]
  have okk : ∀ d v l, (Fr.mk f ((⟨t, []⟩ : Act).put d v).tmps (.inRegion ops l :: k) false).ok P F := fun d v l => ⟨hf, by simp [itemOk, hops, hk]⟩
  have hput : ∀ d v, (⟨t, []⟩ : Act).put d v = ⟨((⟨t, []⟩ : Act).put d v).tmps, []⟩ := fun d v => by cases d <;> rfl
  have nk : (base f).kind ≠ .early := by simp [base]
  match r, hr, hm, hsame with
  | .ok (.value v) w', hr, hm, hsame =>
    refine .go ⟨f, ((⟨t, []⟩ : Act).put o.dst v).tmps, .inRegion ops rest :: k, false⟩ xs w' (seen P f es') (okk _ _ _) hxs hm hcalm (fun main X => ?_) (fun main X τ e hag => ?_)
    · have := stepG_value (P := P) (main := main) (rest := rest) (b := base f) (a := ⟨t, []⟩) (k := k) (cs := xs.map Fr.frame ++ X) ho hw nk hr
      rw [show (base f).fn = f from rfl, hl, hput] at this
      rw [conf_run, this]; rfl
    · obtain ⟨hr2, hev2⟩ := run_of (hsame.2 τ e hag)
      have := stepG_value (P := P) (main := main) (rest := rest) (b := base f) (a := ⟨t, []⟩) (k := k) (cs := xs.map Fr.frame ++ X) ho hw nk hr2
      rw [show (base f).fn = f from rfl, show listed P f ⟨t, []⟩ o (re w τ e) = seen P f es' by unfold listed; rw [hev2], hput] at this
      rw [conf_run, this]; rfl
  | .ok .skip w', hr, hm, hsame =>
    refine .go ⟨f, ((⟨t, []⟩ : Act).put o.dst undef).tmps, .inRegion ops rest :: k, false⟩ xs w' (seen P f es') (okk _ _ _) hxs hm hcalm (fun main X => ?_) (fun main X τ e hag => ?_)
    · have := stepG_none (P := P) (main := main) (rest := rest) (b := base f) (a := ⟨t, []⟩) (k := k) (cs := xs.map Fr.frame ++ X) ho hw nk hr
      rw [show (base f).fn = f from rfl, hl, hput] at this
      rw [conf_run, this]; rfl
    · obtain ⟨hr2, hev2⟩ := run_of (hsame.2 τ e hag)
      have := stepG_none (P := P) (main := main) (rest := rest) (b := base f) (a := ⟨t, []⟩) (k := k) (cs := xs.map Fr.frame ++ X) ho hw nk hr2
      rw [show (base f).fn = f from rfl, show listed P f ⟨t, []⟩ o (re w τ e) = seen P f es' by unfold listed; rw [hev2], hput] at this
      rw [conf_run, this]; rfl
  | .ok (.enter g args) w', hr, hm, hsame =>
    have hg : g ∈ F := hsame.1
    obtain ⟨fn, c, h1, h2, h3, h4⟩ := hC g hg
    refine .go ⟨g, args ++ Array.replicate (fn.ntmps - args.size) undef, [.code c], false⟩ (⟨f, t, .inRegion ops (i :: rest) :: k, false⟩ :: xs) w' (seen P f es') ⟨hg, by simp [itemOk, h4]⟩ ?_ hm hcalm (fun main X => ?_) (fun main X τ e hag => ?_)
    · intro y hy
      rcases List.mem_cons.1 hy with rfl | hy
      · exact ⟨⟨hf, by simp [itemOk, hops, hk]⟩, rfl⟩
      · exact hxs y hy
    · have := stepG_enter (P := P) (main := main) (rest := rest) (b := base f) (a := ⟨t, []⟩) (k := k) (cs := xs.map Fr.frame ++ X) ho hw nk hr
      rw [show (base f).fn = f from rfl, hl, enter_at args h1 h3] at this
      rw [conf_run, this]; rfl
    · obtain ⟨hr2, hev2⟩ := run_of (hsame.2 τ e hag)
      have := stepG_enter (P := P) (main := main) (rest := rest) (b := base f) (a := ⟨t, []⟩) (k := k) (cs := xs.map Fr.frame ++ X) ho hw nk hr2
      rw [show (base f).fn = f from rfl, show listed P f ⟨t, []⟩ o (re w τ e) = seen P f es' by unfold listed; rw [hev2], enter_at args h1 h3] at this
      rw [conf_run, this]; rfl
  | .halt h w', hr, hm, hsame =>
    cases h with
    | panic v =>
      refine .panic w' hm fun main X τ e hag => ?_
      obtain ⟨hr2, hev2⟩ := run_of (hsame τ e hag)
      refine ⟨(base f).at ⟨t, []⟩ (.inRegion ops (i :: rest) :: k), [{ v, recovered := false }], re w' τ (e + (w'.drawn - w.drawn)), seen P f es', hf, ?_⟩
      rw [conf_run, stepG_oper ho hw]
      have hk' : ((base f).kind == CallKind.early) = false := rfl
      simp [stepG.apply, hr2, hev2, G, Frame.at, hk', GStep.after, Frame.raise, base]
    | _ =>
      refine .ended w' hm fun main X τ e hag => ?_
      obtain ⟨h', x, y, hrr, hd⟩ := hsame τ e hag
      obtain ⟨hr2, hev2⟩ := run_of hrr
      rw [conf_run, stepG_oper ho hw]
      cases h' with
      | stuck s => exact ⟨_, _, _, by simp [stepG.apply, hr2, GStep.after]; exact ⟨rfl, rfl, rfl⟩⟩
      | unsupported u =>
        cases u with
        | initOrder g => exact absurd rfl (hd g)
        | _ => exact ⟨_, _, _, by simp [stepG.apply, hr2, GStep.after]; exact ⟨rfl, rfl, rfl⟩⟩
      | _ => exact hd.elim

theorem step_run {f : FuncId} {t : Array Value} {todo : List Item} {xs : List Fr} {w : World} (hC : Closed' P F) (h : (Fr.mk f t todo false).ok P F) (hxs : ∀ y ∈ xs, y.ok P F ∧ y.out = false) : StepIs P F ⟨f, t, todo, false⟩ xs w := by
  obtain ⟨hf, htodo⟩ := h
  cases todo with
  | nil => exact .ctl (x' := ⟨f, t, [], true⟩) ⟨hf, rfl⟩ hxs fun main X w => stepG_end
  | cons i k =>
    simp only [List.all_cons, Bool.and_eq_true] at htodo
    obtain ⟨hi, hk⟩ := htodo
    have ok : ∀ k' o, k'.all (itemOk P F) = true → (Fr.mk f t k' o).ok P F := fun k' o h => ⟨hf, h⟩
    cases i with
    | inBlock id => exact .ctl (ok k false hk) hxs fun main X w => stepG_inBlock
    | inLoop c => exact .ctl (ok (.code c :: .inLoop c :: k) false (by simpa [itemOk, hk] using hi)) hxs fun main X w => stepG_inLoop
    | code c =>
      have hc : codeOk P F c = true := hi
      cases c with
      | skip => exact .ctl (ok k false hk) hxs fun main X w => stepG_skip
      | label l => exact .ctl (ok k false hk) hxs fun main X w => stepG_label
      | ret => exact .ctl (ok _ true (by simp [itemOk, codeOk, hk])) hxs fun main X w => stepG_ret'
      | seq a b =>
        simp only [codeOk, Bool.and_eq_true] at hc
        exact .ctl (ok (.code a :: .code b :: k) false (by simp [itemOk, hc.1, hc.2, hk])) hxs fun main X w => stepG_seq
      | block id c => exact .ctl (ok (.code c :: .inBlock id :: k) false (by simpa [itemOk, hk, codeOk] using hc)) hxs fun main X w => stepG_block
      | loop c => exact .ctl (ok (.code c :: .inLoop c :: k) false (by simpa [itemOk, hk, codeOk] using hc)) hxs fun main X w => stepG_loop
      | cond c a b =>
        simp only [codeOk, Bool.and_eq_true] at hc
        by_cases hb : ∃ t', (⟨t, []⟩ : Act).eval c = .bool t'
        · obtain ⟨t', ht'⟩ := hb
          exact .ctl (ok (.code (if t' then a else b) :: k) false (by cases t' <;> simp [itemOk, hc.1, hc.2, hk])) hxs fun main X w => stepG_cond ht'
        · exact .ended w (.refl w) fun main X τ e _ => cond_lost fun t' h => hb ⟨t', h⟩
      | exit id =>
        cases hx : exitTo id k with
        | some k' => exact .ctl (ok k' false (exitTo_ok hx hk)) hxs fun main X w => stepG_exit hx
        | none => exact .ended w (.refl w) fun main X τ e _ => exit_lost hx
      | region id ops draw =>
        have hops : ops.all (plainOp P F) = true := hc
        cases draw with
        | false => exact .ctl (ok (.inRegion ops (List.range ops.size) :: k) false (by simp [itemOk, hops, hk])) hxs fun main X w => stepG_region
        | true =>
          have hstep : ∀ main X (w : World), stepG P main (conf ⟨f, t, .code (.region id ops true) :: k, false⟩ xs X) w = .go (conf ⟨f, t, .inRegion ops (Region.schedule (P.follows .mixedOrders) ops (w.tape w.drawn (.order f id))) :: k, false⟩ xs X) { w with drawn := w.drawn + 1 } := by
            intro main X w
            rw [conf_run, conf_run]
            simp [G, stepG, stepG.exec, Frame.at, choose, Sem.run, Question.forced, Question.cut, base]
          refine .go _ xs { w with drawn := w.drawn + 1 } #[] (ok _ false (by simp [itemOk, hops, hk])) hxs ⟨rfl, Nat.le_succ _, fun _ _ _ => Iff.rfl⟩ (by simp) (fun main X => hstep main X w) (fun main X τ e hag => ?_)
          have h0 : τ e = w.tape w.drawn := by simpa using hag 0 (by simp)
          rw [hstep]
          have h1 : (re w τ e).tape (re w τ e).drawn = w.tape w.drawn := h0
          rw [h1]
          simp [re]
      | _ => simp [codeOk] at hc
    | inRegion ops l =>
      have hops : ops.all (plainOp P F) = true := hi
      cases l with
      | nil => exact .ctl (ok k false hk) hxs fun main X w => stepG_region_end
      | cons i rest =>
        cases ho : ops[i]? with
        | none =>
          exact .ctl (ok (.inRegion ops rest :: k) false (by simp [itemOk, hops, hk])) hxs fun main X w => by
            rw [conf_run, conf_run]
            simp [G, stepG, stepG.exec, Frame.at, ho, Frame.finish]
        | some o =>
          cases hw : Region.wanted o (yielded ops t) with
          | true => exact step_oper hC hf hk hops hxs ho hw
          | false =>
            refine .ctl (x' := ⟨f, ((⟨t, []⟩ : Act).put o.dst undef).tmps, .inRegion ops rest :: k, false⟩) ⟨hf, by simp [itemOk, hops, hk]⟩ hxs fun main X w => ?_
            rw [conf_run, conf_run, stepG_unwanted (a := ⟨t, []⟩) ho hw]
            cases o.dst <;> rfl
    | _ => simp [itemOk] at hi

theorem t_asAddr (v : Value) : Tame P Any (asAddr v) := by
  unfold asAddr
  split
  · exact trivial
  · exact t_runtimePanic _
  · exact t_stuck _
theorem t_results (fn : Func) (t : Array Value) : Tame P Any (results fn t) := by
  unfold results
  refine t_bind (t_mapM _ (fun r => ?_) _) fun vs => trivial
  split
  · exact trivial
  · exact t_bind (t_asAddr _) fun _ => t_loadVar _ _

theorem finish_fr (y : Fr) (hy : y.ok P F) (ho : y.out = false) (v : Value) : ∃ y' : Fr, y'.ok P F ∧ y'.out = false ∧ y.frame.finish v = y'.frame := by
  obtain ⟨f, t, todo, out⟩ := y
  cases ho
  obtain ⟨hf, ht⟩ := hy
  cases todo with
  | nil => exact ⟨⟨f, t, [], false⟩, ⟨hf, ht⟩, rfl, rfl⟩
  | cons i k =>
    simp only [List.all_cons, Bool.and_eq_true] at ht
    have same : ∀ {fr : Frame}, fr = (Fr.mk f t (i :: k) false).frame → ∃ y' : Fr, y'.ok P F ∧ y'.out = false ∧ fr = y'.frame := fun h => ⟨⟨f, t, i :: k, false⟩, ⟨hf, by simp [ht.1, ht.2]⟩, rfl, h⟩
    cases i with
    | inRegion ops l =>
      cases l with
      | nil => exact same rfl
      | cons i rest =>
        have hops : ops.all (plainOp P F) = true := ht.1
        refine ⟨⟨f, ((⟨t, []⟩ : Act).put ((ops[i]?).bind (·.dst)) v).tmps, .inRegion ops rest :: k, false⟩, ⟨hf, by simp [itemOk, hops, ht.2]⟩, rfl, ?_⟩
        rw [frame_run, frame_run, Frame.finish_at]
        cases (ops[i]?).bind (·.dst) <;> rfl
    | code c => exact same rfl
    | inBlock id => exact same rfl
    | inLoop c => exact same rfl
    | _ => simp [itemOk] at ht

theorem step_out {f : FuncId} {t : Array Value} {k : List Item} {y : Fr} {ys : List Fr} {w : World} (hC : Closed' P F) (hf : f ∈ F) (hxs : ∀ z ∈ y :: ys, z.ok P F ∧ z.out = false) : StepIs P F ⟨f, t, k, true⟩ (y :: ys) w := by
  obtain ⟨fn, c, h1, h2, h3, h4⟩ := hC f hf
  obtain ⟨r, es', hrun, hm, ha, hsame⟩ := (t_results (P := P) fn t).does w #[]
  have hcalm : ∀ e ∈ seen P f es', Calm e := fun e he => by
    have : e ∈ es' := mem_seen he
    rcases ha e this with h | h
    · simp at h
    · exact h
  have hgen : ∀ main X (w : World), stepG P main (conf ⟨f, t, k, true⟩ (y :: ys) X) w = (GStep.after (seen P f ((results fn t).runT P w #[]).2) (match ((results fn t).runT P w #[]).1 with
      | .ok v w => .go (G (y.frame.finish v) (ys.map Fr.frame ++ X)) w
      | .halt (.stuck s) w => .ended (.stuck s (Frame.pos P (Fr.mk f t k true).frame)) w
      | .halt _ w => .ended (.stuck "return: the result variables cannot be read" (Frame.pos P (Fr.mk f t k true).frame)) w)) := by
    intro main X w
    simp only [conf, Fr.frame, G, stepG, unwind, Frame.at, base, h1, if_true]
    congr 1
  have hys : ∀ z ∈ ys, z.ok P F ∧ z.out = false := fun z hz => hxs z (List.mem_cons_of_mem _ hz)
  match r, hrun, hm, hsame with
  | .ok v w', hrun, hm, hsame =>
    obtain ⟨y', hy1, hy2, hy3⟩ := finish_fr y (hxs y (List.mem_cons_self ..)).1 (hxs y (List.mem_cons_self ..)).2 v
    refine .go y' ys w' (seen P f es') hy1 hys hm hcalm (fun main X => ?_) (fun main X τ e hag => ?_)
    · rw [hgen, hrun]; simp only [GStep.after, hy3, conf, Array.append_empty]
    · rw [hgen, hsame.2 τ e hag]; simp only [GStep.after, hy3, conf, Array.append_empty]
  | .halt h w', hrun, hm, hsame =>
    refine .ended w' hm fun main X τ e hag => ?_
    rw [hgen]
    cases h with
    | panic v => rw [hsame τ e hag]; exact ⟨_, _, _, rfl⟩
    | _ =>
      obtain ⟨h', x, z, hrr, hd⟩ := hsame τ e hag
      rw [hrr]
      cases h' <;> exact ⟨_, _, _, rfl⟩

end Go.Proofs.YtakjhhkffiffdaaLift
