/-
  LIFT (G): THE PHASE: a child (goroutine j) sends over a channel without a buffer and closes it; goroutine 0 receives till it finds it closed; beside leavers; on every tape.
-/
import Derived.Test.YtakjhhkffiffdaaLiftF
import Derived.Conc.CrowdComm
set_option linter.unusedVariables false
set_option linter.unusedSimpArgs false
namespace Go.Proofs.YtakjhhkffiffdaaLift
open Go.Conc
open Go.ConcN (sumTo upd sumTo_upd upd_ne upd_same)

theorem get_of_inv {P : Program} {α : Type} {r : α → α → Prop} (wf : WellFounded r) (Inv : α → Machine → Trace → Prop) (Q : Machine → Trace → Prop)
    (h : ∀ μ m t, Inv μ m t → Q m t ∨ (∃ m' ops μ', stepT P m = (.next m', ops) ∧ r μ' μ ∧ Inv μ' m' (t ++ ops))) :
    ∀ μ m t, Inv μ m t → ∃ n m' t', runNT P n m t = (.next m', t') ∧ Q m' t' := by
  intro μ
  induction μ using wf.induction with
  | _ μ ih =>
    intro m t hI
    rcases h μ m t hI with hq | ⟨m', ops, μ', hs, hr, hI'⟩
    · exact ⟨0, m, t, rfl, hq⟩
    · obtain ⟨n, m2, t2, h1, h2⟩ := ih μ' hr m' (t ++ ops) hI'
      exact ⟨n + 1, m2, t2, by rw [runNT_succ_next hs]; exact h1, h2⟩

/-- All but goroutines 0 and j are only leaving. -/
structure Around (P : Program) (j : Nat) (t : Trace) (gs : Array Goroutine) (q : Nat → Nat) : Prop where
  pos : 0 < j
  lt : j < gs.size
  old : ∀ i g, 0 < i → i ≠ j → gs[i]? = some g → QuitsD P (q i) (Deaf t i) g
  above : ∀ i, gs.size ≤ i → Deaf t i = 0

section
variable {P : Program} {j : Nat} {t u : Trace} {gs gs' : Array Goroutine} {q : Nat → Nat}

/-- The others stand as they stood, or have been let try again. -/
def Others (P : Program) (j : Nat) (gs gs' : Array Goroutine) : Prop := gs'.size = gs.size ∧ ∀ k x, 0 < k → k ≠ j → gs'[k]? = some x → ∃ y, gs[k]? = some y ∧ (x = y ∨ ∃ g g' w', x = woken P g g' w' y)

theorem Around.keep (h : Around P j t gs q) (ho : Others P j gs gs') (hu : ∀ i, i ≠ 0 → i ≠ j → Deaf (t ++ u) i = Deaf t i) : Around P j (t ++ u) gs' q := by
  have hpos := h.pos
  have hlt := h.lt
  refine ⟨h.pos, by rw [ho.1]; exact h.lt, fun i g hi hij hg => ?_, fun i hi => ?_⟩
  · obtain ⟨y, hy, hx⟩ := ho.2 i g hi hij hg
    have hq := h.old i y hi hij hy
    rw [hu i (by omega) hij]
    rcases hx with rfl | ⟨g1, g2, w', rfl⟩
    · exact hq
    · rw [woken_quitsD hq]; exact hq
  · rw [ho.1] at hi
    rw [hu i (by omega) (by omega)]
    exact h.above i hi

theorem others_set (k : Nat) (hk : k = 0 ∨ k = j) (x : Goroutine) : Others P j gs (gs.setIfInBounds k x) :=
  ⟨by simp, fun i y hi hij hy => by
    rw [Array.getElem?_setIfInBounds_ne (by omega)] at hy
    exact ⟨y, hy, .inl rfl⟩⟩
theorem others_set2 (k l : Nat) (hk : k = 0 ∨ k = j) (hl : l = 0 ∨ l = j) (x y : Goroutine) : Others P j gs ((gs.setIfInBounds k x).setIfInBounds l y) :=
  ⟨by simp, fun i z hi hij hz => by
    rw [Array.getElem?_setIfInBounds_ne (by omega), Array.getElem?_setIfInBounds_ne (by omega)] at hz
    exact ⟨z, hz, .inl rfl⟩⟩
theorem others_go (k : Nat) (hk : k = 0 ∨ k = j) (g g' : Goroutine) (w' : World) (x : Goroutine) : Others P j gs ((gs.map (woken P g g' w')).setIfInBounds k x) :=
  ⟨by simp, fun i z hi hij hz => by
    rw [Array.getElem?_setIfInBounds_ne (by omega), Array.getElem?_map] at hz
    obtain ⟨y, hy, rfl⟩ := Option.map_eq_some_iff.1 hz
    exact ⟨y, hy, .inr ⟨g, g', w', rfl⟩⟩⟩

theorem deaf_ops {g : Nat} (hg : g = 0 ∨ g = j) (fn : FuncId) (pos : String) (es : Array Event) : ∀ i, i ≠ 0 → i ≠ j → Deaf (t ++ MemOp.ofEvents g fn pos es) i = Deaf t i := fun i h0 hj =>
  Deaf_other t (g := i) (g' := g) (by omega) _ (fun op hop => by obtain ⟨e, _, rfl⟩ := Go.Conc.mem_ofEvents hop; rfl)

/-- Nobody but j offers anything at a channel. -/
theorem Around.offers (h : Around P j t gs q) (c : Nat) (s : Bool) : ∀ k x, k ≠ j → (gs.setIfInBounds 0 ph)[k]? = some x → offersAt x c s = [] := by
  intro k x hk hx
  rcases getElem?_stand gs 0 k x hx with ⟨_, rfl⟩ | ⟨h0, hx'⟩
  · rfl
  · have hq := h.old k x (by omega) hk hx'
    exact offersAt_of_not_blocked (by rcases hq.status with e | e <;> rw [e] <;> simp) c s
/-- Nobody but 0 and j offers anything. -/
theorem Around.offersj (h : Around P j t gs q) (c : Nat) (s : Bool) : ∀ k x, k ≠ 0 → (gs.setIfInBounds j ph)[k]? = some x → offersAt x c s = [] := by
  intro k x hk hx
  rcases getElem?_stand gs j k x hx with ⟨_, rfl⟩ | ⟨h0, hx'⟩
  · rfl
  · have hq := h.old k x (by omega) h0 hx'
    exact offersAt_of_not_blocked (by rcases hq.status with e | e <;> rw [e] <;> simp) c s

theorem Around.awake {a b : Goroutine} (h : Around P j t gs q) (h0 : gs[0]? = some a) (hj : gs[j]? = some b) (ha : awake a) (hb : awake b) : ∀ g ∈ gs, awake g := by
  intro g hg
  obtain ⟨i, hi, rfl⟩ := Array.mem_iff_getElem.1 hg
  have hgi : gs[i]? = some gs[i] := Array.getElem?_eq_getElem hi
  by_cases e0 : i = 0
  · subst e0
    rw [hgi] at h0
    rw [Option.some.inj h0]; exact ha
  · by_cases ej : i = j
    · subst ej
      rw [hgi] at hj
      rw [Option.some.inj hj]; exact hb
    · exact awake_of ((h.old i _ (by omega) ej hgi).status.elim .inl fun x => .inr (.inr x))

/-- A leaver slips. -/
theorem Around.slips {i k : Nat} {g g' : Goroutine} {es : Array Event} {w : World} (h : Around P j t gs q) (hi0 : 0 < i) (hij : i ≠ j) (hlt : i < gs.size) (hq : QuitsD P k (deafBehind (Deaf t i) es) g')
    (fn : FuncId) (pos : String) : Around P j (t ++ MemOp.ofEvents i fn pos es) ((gs.map (woken P g g' w)).setIfInBounds i g') (upd q i k) := by
  have hpos := h.pos
  have hjlt := h.lt
  refine ⟨h.pos, by simpa using h.lt, fun m x hm hmj hx => ?_, fun m hm => ?_⟩
  · by_cases hmi : i = m
    · subst hmi
      rw [Array.getElem?_setIfInBounds_self_of_lt (by simpa using hlt)] at hx
      obtain rfl := Option.some.inj hx
      rw [upd_same, Deaf_own]
      exact hq
    · rw [Array.getElem?_setIfInBounds_ne hmi, Array.getElem?_map] at hx
      obtain ⟨y, hy, rfl⟩ := Option.map_eq_some_iff.1 hx
      have hqm := h.old m y hm hmj hy
      rw [woken_quitsD hqm, upd_ne q k (Ne.symm hmi), Deaf_other t hmi _ (fun op hop => by obtain ⟨e, _, rfl⟩ := Go.Conc.mem_ofEvents hop; rfl)]
      exact hqm
  · have hm' : gs.size ≤ m := by simpa using hm
    rw [Deaf_other t (g' := i) (by omega) _ (fun op hop => by obtain ⟨e, _, rfl⟩ := Go.Conc.mem_ofEvents hop; rfl)]
    exact h.above m hm'
end

section
variable {P : Program} {c j : Nat} {S : World → Prop} {Mine : Loc → Prop} {z : Value} {Fin : Goroutine → World → Prop}

variable (P c j S Mine z Fin) in
inductive PInv : Nat × Nat → Machine → Trace → Prop
  | opn (vs : List Value) (gs : Array Goroutine) (a b : Goroutine) (w : World) (sl : Option (Nat × Nat)) (t : Trace) (q : Nat → Nat) (s r : Nat) (tm : Bool) (ra rb : Nat)
      (hS : S w) (hc : w.heap[c]? = some (.chan 0 #[] false s r tm)) (h0 : gs[0]? = some a) (hj : gs[j]? = some b) (hA : SitA P c S Mine z Fin vs ra a w) (hB : SitB P c S Mine vs rb b) (hpos : 0 < ra + rb) (hT : Ph Mine j t) (hR : Around P j t gs q) :
      PInv (vs.length + 2, ra + rb + sumTo gs.size q) (crowd gs w sl) t
  | shut (gs : Array Goroutine) (a b : Goroutine) (w : World) (sl : Option (Nat × Nat)) (t : Trace) (q : Nat → Nat) (s r : Nat) (tm : Bool) (n k m : Nat)
      (hc : w.heap[c]? = some (.chan 0 #[] true s r tm)) (h0 : gs[0]? = some a) (hj : gs[j]? = some b) (hA : Goes P true (Aside c) (DA c S Mine) (StopA P c S Mine z Fin []) n a w) (hB : QuitsIn P k b) (hT : Sh Mine j c m t) (hR : Around P j t gs q) :
      PInv (1, n + k + sumTo gs.size q) (crowd gs w sl) t
  | fin (gs : Array Goroutine) (a : Goroutine) (w : World) (sl : Option (Nat × Nat)) (t : Trace) (q : Nat → Nat) (h0 : gs[0]? = some a) (hL : Leavers P t gs q) (hT : Pst t) (hF : Fin a w) : PInv (0, 0) (crowd gs w sl) t

/-- The channel's four operations touch nothing. -/
theorem met4 (g1 g2 : Nat) (f1 f2 : FuncId) (p1 p2 : String) (c s r cap : Nat) :
    (∀ op ∈ (#[{ g := g1, fn := f1, pos := p1, act := .send c s }, { g := g2, fn := f2, pos := p2, act := .recv c r cap }, { g := g1, fn := f1, pos := p1, act := .sendDone c s }, { g := g2, fn := f2, pos := p2, act := .recvDone c r }] : Trace), op.act.touch? = none) ∧
    ∀ g, ∀ op ∈ (#[{ g := g1, fn := f1, pos := p1, act := .send c s }, { g := g2, fn := f2, pos := p2, act := .recv c r cap }, { g := g1, fn := f1, pos := p1, act := .sendDone c s }, { g := g2, fn := f2, pos := p2, act := .recvDone c r }] : Trace), ∀ d, deafStep g d op = d := by
  constructor
  · intro op hop
    simp only [List.mem_toArray, List.mem_cons, List.not_mem_nil, or_false] at hop
    rcases hop with rfl | rfl | rfl | rfl <;> rfl
  · intro g op hop d
    simp only [List.mem_toArray, List.mem_cons, List.not_mem_nil, or_false] at hop
    rcases hop with rfl | rfl | rfl | rfl <;> rfl

theorem get_set0 {gs : Array Goroutine} {a x : Goroutine} (h0 : gs[0]? = some a) : (gs.setIfInBounds 0 x)[0]? = some x := by
  have hlt : 0 < gs.size := (Array.getElem?_eq_some_iff.1 h0).1
  simp [hlt]
theorem get_setj {gs : Array Goroutine} {j : Nat} {b x : Goroutine} (hj : gs[j]? = some b) : (gs.setIfInBounds j x)[j]? = some x := by
  have hlt : j < gs.size := (Array.getElem?_eq_some_iff.1 hj).1
  simp [hlt]
theorem get_set_ne {gs : Array Goroutine} {i j : Nat} {x : Goroutine} (h : i ≠ j) : (gs.setIfInBounds i x)[j]? = gs[j]? := Array.getElem?_setIfInBounds_ne h

theorem pstep_opn (hSt : ∀ w w₁, Aside c w w₁ → S w → S w₁) {vs : List Value} {gs : Array Goroutine} {a b : Goroutine} {w : World} {sl : Option (Nat × Nat)} {t : Trace} {q : Nat → Nat} {s r : Nat} {tm : Bool} {ra rb : Nat}
    (hS : S w) (hc : w.heap[c]? = some (.chan 0 #[] false s r tm)) (h0 : gs[0]? = some a) (hj : gs[j]? = some b) (hA : SitA P c S Mine z Fin vs ra a w) (hB : SitB P c S Mine vs rb b) (hpos : 0 < ra + rb) (hT : Ph Mine j t) (hR : Around P j t gs q) :
    ∃ m' ops μ', stepT P (crowd gs w sl) = (.next m', ops) ∧ Lt2 μ' (vs.length + 2, ra + rb + sumTo gs.size q) ∧ PInv P c j S Mine z Fin μ' m' (t ++ ops) := by
  have hj0 : j ≠ 0 := by have := hR.pos; omega
  have hjb : (j == 0) = false := by simpa using hj0
  have sA := hA.status
  have sB := hB.status hS
  have awA : awake a := awake_of (by rcases sA with ⟨h, _⟩ | ⟨h, _⟩ <;> simp [h])
  have awB : awake b := awake_of (by rcases sB with ⟨h, _⟩ | ⟨h, _⟩ <;> simp [h])
  have some1 : ∃ (i : Nat) (g : Goroutine), gs[i]? = some g ∧ g.status = .running := by
    rcases sA with ⟨h, _⟩ | ⟨_, e0⟩
    · exact ⟨0, a, h0, h⟩
    · rcases sB with ⟨h, _⟩ | ⟨_, e1⟩
      · exact ⟨j, b, hj, h⟩
      · omega
  obtain ⟨i, g, d, sl', hi, hg, hst⟩ := crowd_pick (P := P) (w := w) (sl := sl) (hR.awake h0 hj awA awB) some1
  have hAs : Aside c w (w.at d) := Aside.at c w d
  have hS1 : S (w.at d) := hSt _ _ hAs hS
  have hc1 : (w.at d).heap[c]? = some (.chan 0 #[] false s r tm) := hc
  have hw2 : Aside c (w.at d) ((w.at d).passed c s r tm) := Aside.put c _ _
  by_cases ei0 : i = 0
  · -- THE RECEIVER MOVES
    subst ei0
    obtain rfl : g = a := by rw [h0] at hi; exact (Option.some.inj hi).symm
    rcases hA with ⟨n, rfl, hgo⟩ | ⟨_, g', rfl, _⟩
    · rcases hgo.cases with hstop | ⟨n', rfl, hstep⟩
      · have hat := hstop _ hAs
        obtain ⟨es, hcomm, hes⟩ := hat.comm
        have hcomm' : stepG P (0 == 0) g (w.at d) = .comm (core g) #[rcase c z] true (.recv true) (w.at d) es := hcomm
        rcases hB with ⟨k, rfl, hgb⟩ | ⟨rfl, v, vs', g₂, z', rfl, rfl, hnext⟩
        · -- the sender is on its way: the receiver waits
          have hbs : b.status ≠ .blocked := by rw [hgb.running (fun _ _ => StopB.running) w hS]; simp
          have hpn : partners (gs.setIfInBounds 0 ph) c true = [] := partners_nil fun k x hx => by
            by_cases ekj : k = j
            · subst ekj
              rw [get_set_ne (Ne.symm hj0), hj] at hx
              obtain rfl := Option.some.inj hx
              exact offersAt_of_not_blocked hbs c true
            · exact hR.offers c true k x ekj hx
          have hrun := crowd_waits (sl := sl') h0 hcomm' (fun cc hcc => by
            simp only [List.mem_toArray, List.mem_cons, List.not_mem_nil, or_false] at hcc
            subst hcc
            exact ways_recv_none hc1 hpn)
          refine ⟨_, _, (vs.length + 2, 0 + (k + 1) + sumTo (gs.setIfInBounds 0 (parked (core g) #[rcase c z] (.recv true))).size q), hst.trans hrun, .right _ (by simp <;> omega), ?_⟩
          exact .opn vs _ _ b (w.at d) sl' _ q s r tm 0 (k + 1) hS1 hc1 (get_set0 h0) (by rw [get_set_ne (Ne.symm hj0)]; exact hj) (.inr ⟨rfl, g, rfl, fun w₁ h₁ => hstop w₁ (hAs.trans h₁)⟩) (.inl ⟨k, rfl, hgb⟩) (by omega) (hT.own0 hj0 hes)
            (hR.keep (others_set 0 (.inl rfl) _) (deaf_ops (.inl rfl) _ _ _))
        · -- the sender waits: both are Go.Conc.served in this one step
          obtain ⟨na, hna⟩ := (recvs_iff P c S Mine z _ vs' _ _).1 (hat.cons _ hw2)
          obtain ⟨nb, hnb⟩ := (sends_iff P c S Mine vs' _).1 hnext
          have hpo : partners (gs.setIfInBounds 0 ph) c true = [(j, 0)] := by
            rw [partners_one (j := j) (g := parked g₂ #[scase c v z'] .send) (by rw [get_set_ne (Ne.symm hj0)]; exact hj) (fun k x hk hx => hR.offers c true k x hk hx), offersAt_parked_send]
            simp
          have hrun := crowd_recv_meets (sl := sl') h0 hcomm' hc1 hj0 hj hpo
          rw [finishComm_send, finishComm_recv] at hrun
          refine ⟨_, _, (vs'.length + 2, (na + 1) + (nb + 1) + sumTo ((gs.setIfInBounds j (Go.Conc.served g₂ undef)).setIfInBounds 0 (Go.Conc.served (core g) (.tuple #[v, .bool true]))).size q), hst.trans hrun, .left _ _ (by simp), ?_⟩
          rw [← Array.append_assoc]
          have h4 := met4 j 0 g₂.frame.fn (core g).frame.fn g₂.frame.place (core g).frame.place c s r 0
          refine .opn vs' _ _ _ _ sl' _ q (s + 1) (r + 1) tm (na + 1) (nb + 1) (hSt _ _ hw2 hS1) (heap_put hc1) (get_set0 (a := g) (by rw [get_set_ne hj0]; exact h0)) (by rw [get_set_ne (Ne.symm hj0)]; exact get_setj hj) (.inl ⟨na, rfl, hna⟩) (.inl ⟨nb, rfl, hnb⟩) (by omega)
            ((hT.own0 hj0 hes).appQuiet h4.1 h4.2) ?_
          exact (hR.keep (others_set2 j 0 (.inr rfl) (.inl rfl) _ _) (deaf_ops (.inl rfl) _ _ _)).keep ⟨rfl, fun k x _ _ hx => ⟨x, hx, .inl rfl⟩⟩ fun i _ _ => Deaf_quiet (h4.2 i)
      · -- a step of its own
        obtain ⟨a', w', es, hgo', ⟨hSS, hcc, hes⟩, hg'⟩ := hstep _ hAs
        have hc' : w'.heap[c]? = some (.chan 0 #[] false s r tm) := hcc.trans hc1
        have hrun := runT_crowd_go (P := P) (sl := sl') (i := 0) h0 (show stepG P (0 == 0) g (w.at d) = _ from hgo')
        have hlt : 0 < gs.size := (Array.getElem?_eq_some_iff.1 h0).1
        refine ⟨_, _, (vs.length + 2, (n' + 1) + rb + sumTo ((gs.map (woken P g a' w')).setIfInBounds 0 a').size q), hst.trans hrun, .right _ (by simp <;> omega), ?_⟩
        refine .opn vs _ a' b w' sl' _ q s r tm (n' + 1) rb (hSS hS1) hc' (by simp [hlt]) ?_ (.inl ⟨n', rfl, hg'⟩) hB (by omega) (hT.own0 hj0 hes) (hR.keep (others_go 0 (.inl rfl) _ _ _ _) (deaf_ops (.inl rfl) _ _ _))
        rw [get_set_ne (Ne.symm hj0), Array.getElem?_map, hj]
        simp only [Option.map_some, hB.woken hS hc']
    · simp [parked] at hg
  · by_cases eij : i = j
    · -- THE SENDER MOVES
      subst eij
      obtain rfl : g = b := by rw [hj] at hi; exact (Option.some.inj hi).symm
      rcases hB with ⟨k, rfl, hgb⟩ | ⟨_, v, vs', g₂, z', _, rfl, _⟩
      · rcases hgb.cases with hstop | ⟨k', rfl, hstep⟩
        · have hat := hstop _ hS1
          cases vs with
          | nil =>
            -- it closes the channel
            obtain ⟨_, hwake, g₂, es, nq, hclose, hes, hq⟩ := hat
            have hgo := hclose _ s r tm hS1 hc1
            have hrun := runT_crowd_go (P := P) (sl := sl') (i := i) hj (by rw [hjb]; exact hgo)
            have hw3 : Aside c (w.at d) ((w.at d).shut c s r tm) := Aside.put c _ _
            have hc2 : ((w.at d).shut c s r tm).heap[c]? = some (.chan 0 #[] true s r tm) := heap_put hc1
            have hwk : ∀ o, woken P g g₂ ((w.at d).shut c s r tm) o = o.again ((w.at d).shut c s r tm) := by
              intro o; unfold Go.Conc.woken; rcases hq.status with h | h <;> simp [hwake, h]
            have hA' : ∃ n, Goes P true (Aside c) (DA c S Mine) (StopA P c S Mine z Fin []) n (a.again ((w.at d).shut c s r tm)) ((w.at d).shut c s r tm) := by
              rcases hA with ⟨n, _, hg⟩ | ⟨_, g, rfl, hs⟩
              · rw [again_running _ (.inl (hg.running (fun _ _ => StopA.running) w (Aside.refl c w)))]
                exact ⟨n, Goes.rely (R := Aside c) (fun _ _ _ h h' => Aside.trans h h') hg (hAs.trans hw3)⟩
              · rw [again_parked_shut rfl hc2]
                exact ⟨0, fun w₁ h₁ => (hs w₁ ((hAs.trans hw3).trans h₁)).again⟩
            obtain ⟨na, hna⟩ := hA'
            refine ⟨_, _, (1, na + nq + sumTo ((gs.map (woken P g g₂ ((w.at d).shut c s r tm))).setIfInBounds i g₂).size q), hst.trans hrun, .left _ _ (by simp), ?_⟩
            refine .shut _ (a.again ((w.at d).shut c s r tm)) g₂ _ sl' _ q s r tm na nq _ hc2 ?_ (get_setj (b := woken P g g₂ ((w.at d).shut c s r tm) g) (by rw [Array.getElem?_map, hj]; rfl)) hna hq (hT.shut hj0 hes) (hR.keep (others_go i (.inr rfl) _ _ _ _) (deaf_ops (.inr rfl) _ _ _))
            rw [get_set_ne hj0, Array.getElem?_map, h0]
            simp only [Option.map_some, hwk]
          | cons v vs' =>
            obtain ⟨_, g₂, z', es, hcomm, hes, hnext⟩ := hat
            have hcm := hcomm _ hS1
            have hcm' : stepG P (i == 0) g (w.at d) = .comm g₂ #[scase c v z'] true .send (w.at d) es := by rw [hjb]; exact hcm
            rcases hA with ⟨n, rfl, hg2⟩ | ⟨rfl, g', rfl, hs⟩
            · -- the receiver is on its way: the sender waits
              have has : a.status ≠ .blocked := by rw [hg2.running (fun _ _ => StopA.running) w (Aside.refl c w)]; simp
              have hpn : partners (gs.setIfInBounds i ph) c false = [] := partners_nil fun k x hx => by
                by_cases ek0 : k = 0
                · subst ek0
                  rw [get_set_ne hj0, h0] at hx
                  obtain rfl := Option.some.inj hx
                  exact offersAt_of_not_blocked has c false
                · exact hR.offersj c false k x ek0 hx
              have hrun := crowd_waits (sl := sl') hj hcm' (fun cc hcc => by
                simp only [List.mem_toArray, List.mem_cons, List.not_mem_nil, or_false] at hcc
                subst hcc
                exact ways_send_none hc1 (by simp) hpn)
              refine ⟨_, _, ((v :: vs').length + 2, (n + 1) + 0 + sumTo (gs.setIfInBounds i (parked g₂ #[scase c v z'] .send)).size q), hst.trans hrun, .right _ (by simp), ?_⟩
              exact .opn (v :: vs') _ a _ (w.at d) sl' _ q s r tm (n + 1) 0 hS1 hc1 (by rw [get_set_ne hj0]; exact h0) (get_setj hj) (.inl ⟨n, rfl, Goes.rely (R := Aside c) (fun _ _ _ h h' => Aside.trans h h') hg2 hAs⟩) (.inr ⟨rfl, v, vs', g₂, z', rfl, rfl, hnext⟩) (by omega) (hT.ownj hj0 hes)
                (hR.keep (others_set i (.inr rfl) _) (deaf_ops (.inr rfl) _ _ _))
            · -- the receiver waits: both are Go.Conc.served in this one step
              obtain ⟨na, hna⟩ := (recvs_iff P c S Mine z _ vs' _ _).1 ((hs _ hAs).cons _ hw2)
              obtain ⟨nb, hnb⟩ := (sends_iff P c S Mine vs' _).1 hnext
              have hpo : partners (gs.setIfInBounds i ph) c false = [(0, 0)] := by
                rw [partners_one (j := 0) (g := parked (core g') #[rcase c z] (.recv true)) (by rw [get_set_ne hj0]; exact h0) (fun k x hk hx => hR.offersj c false k x hk hx), offersAt_parked_recv]
                simp
              have hrun := crowd_send_meets (sl := sl') hj hcm' hc1 (Ne.symm hj0) h0 hpo
              rw [finishComm_send, finishComm_recv] at hrun
              refine ⟨_, _, (vs'.length + 2, (na + 1) + (nb + 1) + sumTo ((gs.setIfInBounds 0 (Go.Conc.served (core g') (.tuple #[v, .bool true]))).setIfInBounds i (Go.Conc.served g₂ undef)).size q), hst.trans hrun, .left _ _ (by simp), ?_⟩
              rw [← Array.append_assoc]
              have h4 := met4 i 0 g₂.frame.fn (core g').frame.fn g₂.frame.place (core g').frame.place c s r 0
              refine .opn vs' _ _ _ _ sl' _ q (s + 1) (r + 1) tm (na + 1) (nb + 1) (hSt _ _ hw2 hS1) (heap_put hc1) (by rw [get_set_ne hj0]; exact get_set0 h0) (get_setj (b := g) (by rw [get_set_ne (Ne.symm hj0)]; exact hj)) (.inl ⟨na, rfl, hna⟩) (.inl ⟨nb, rfl, hnb⟩) (by omega)
                ((hT.ownj hj0 hes).appQuiet h4.1 h4.2) ?_
              exact (hR.keep (others_set2 0 i (.inl rfl) (.inr rfl) _ _) (deaf_ops (.inr rfl) _ _ _)).keep ⟨rfl, fun k x _ _ hx => ⟨x, hx, .inl rfl⟩⟩ fun i _ _ => Deaf_quiet (h4.2 i)
        · -- a step of its own: the world is handed back
          obtain ⟨b', w', es, hgo, ⟨rfl, hes⟩, hg'⟩ := hstep _ hS1
          have hrun := runT_crowd_go (P := P) (sl := sl') (i := i) hj (by rw [hjb]; exact hgo)
          refine ⟨_, _, (vs.length + 2, ra + (k' + 1) + sumTo ((gs.map (woken P g b' (w.at d))).setIfInBounds i b').size q), hst.trans hrun, .right _ (by simp <;> omega), ?_⟩
          refine .opn vs _ a b' (w.at d) sl' _ q s r tm ra (k' + 1) hS1 hc1 ?_ (get_setj (b := woken P g b' (w.at d) g) (by rw [Array.getElem?_map, hj]; rfl)) (hA.rely hAs) (.inl ⟨k', rfl, hg'.anyWorld default⟩) (by omega) (hT.ownj hj0 hes) (hR.keep (others_go i (.inr rfl) _ _ _ _) (deaf_ops (.inr rfl) _ _ _))
          rw [get_set_ne hj0, Array.getElem?_map, h0]
          simp only [Option.map_some, hA.woken hc1]
      · simp [parked] at hg
    · -- a leaver slips
      have hq := hR.old i g (by omega) eij hi
      have hi0 : (i == 0) = false := by simpa using ei0
      have hlt : i < gs.size := (Array.getElem?_eq_some_iff.1 hi).1
      cases hqi : q i with
      | zero => rw [hqi] at hq; rw [hq.1] at hg; cases hg
      | succ k =>
        rw [hqi] at hq
        rcases hq with ⟨hf, _⟩ | ⟨_, g', es, hm, hstp, hq'⟩
        · rw [hf] at hg; cases hg
        have hrun := runT_crowd_go (P := P) (sl := sl') (i := i) hi (by rw [hi0]; exact hstp (w.at d))
        have hsz : ((gs.map (woken P g g' (w.at d))).setIfInBounds i g').size = gs.size := by simp
        have hsum : sumTo gs.size (upd q i k) + (k + 1) = sumTo gs.size q + k := by
          have := sumTo_upd q k id hlt
          simpa [hqi] using this
        refine ⟨_, _, (vs.length + 2, ra + rb + sumTo ((gs.map (woken P g g' (w.at d))).setIfInBounds i g').size (upd q i k)), hst.trans hrun, .right _ (by rw [hsz]; omega), ?_⟩
        refine .opn vs _ a b (w.at d) sl' _ (upd q i k) s r tm ra rb hS1 hc1 ?_ ?_ (hA.rely hAs) hB hpos (hT.mute ei0 eij hm) (hR.slips (by omega) eij hlt hq' _ _)
        · rw [get_set_ne ei0, Array.getElem?_map, h0]
          simp only [Option.map_some, hA.woken hc1]
        · rw [get_set_ne eij, Array.getElem?_map, hj]
          simp only [Option.map_some, hB.woken hS hc1]

theorem pstep_shut {gs : Array Goroutine} {a b : Goroutine} {w : World} {sl : Option (Nat × Nat)} {t : Trace} {q : Nat → Nat} {s r : Nat} {tm : Bool} {n k m : Nat}
    (hc : w.heap[c]? = some (.chan 0 #[] true s r tm)) (h0 : gs[0]? = some a) (hj : gs[j]? = some b) (hA : Goes P true (Aside c) (DA c S Mine) (StopA P c S Mine z Fin []) n a w) (hB : QuitsIn P k b) (hT : Sh Mine j c m t) (hR : Around P j t gs q) :
    ∃ m' ops μ', stepT P (crowd gs w sl) = (.next m', ops) ∧ Lt2 μ' (1, n + k + sumTo gs.size q) ∧ PInv P c j S Mine z Fin μ' m' (t ++ ops) := by
  have hj0 : j ≠ 0 := by have := hR.pos; omega
  have hjb : (j == 0) = false := by simpa using hj0
  have hra : a.status = .running := hA.running (fun _ _ => StopA.running) w (Aside.refl c w)
  have sB := hB.status
  have awB : awake b := awake_of (sB.elim .inl fun h => .inr (.inr h))
  obtain ⟨i, g, d, sl', hi, hg, hst⟩ := crowd_pick (P := P) (w := w) (sl := sl) (hR.awake h0 hj (awake_of (.inl hra)) awB) ⟨0, a, h0, hra⟩
  have hAs : Aside c w (w.at d) := Aside.at c w d
  have hc1 : (w.at d).heap[c]? = some (.chan 0 #[] true s r tm) := hc
  by_cases ei0 : i = 0
  · subst ei0
    obtain rfl : g = a := by rw [h0] at hi; exact (Option.some.inj hi).symm
    rcases hA.cases with hstop | ⟨n', rfl, hstep⟩
    · -- the receiver finds the channel closed
      have hat := hstop _ hAs
      obtain ⟨es, hcomm, hes⟩ := hat.comm
      have hcomm' : stepG P (0 == 0) g (w.at d) = .comm (core g) #[rcase c z] true (.recv true) (w.at d) es := hcomm
      have hbs : b.status ≠ .blocked := by rcases sB with h | h <;> rw [h] <;> simp
      have hpn : partners (gs.setIfInBounds 0 ph) c true = [] := partners_nil fun k x hx => by
        by_cases ekj : k = j
        · subst ekj
          rw [get_set_ne (Ne.symm hj0), hj] at hx
          obtain rfl := Option.some.inj hx
          exact offersAt_of_not_blocked hbs c true
        · exact hR.offers c true k x ekj hx
      have hrun := crowd_recv_closed (sl := sl') h0 hcomm' hc1 hpn
      rw [finishComm_recv] at hrun
      have hT1 : Sh Mine j c m (t ++ MemOp.ofEvents 0 g.frame.fn g.frame.place es) := hT.app (hT.ph.own0 hj0 hes) fun op hop e => by
        obtain ⟨x, _, rfl⟩ := Go.Conc.mem_ofEvents hop
        exact absurd e (Ne.symm hj0)
      have hR1 := hR.keep (others_set 0 (.inl rfl) (Go.Conc.served (core g) (.tuple #[z, .bool false]))) (deaf_ops (.inl rfl) g.frame.fn g.frame.place es)
      have hq1 : ∀ g', ∀ op ∈ (#[{ g := 0, fn := (core g).frame.fn, pos := (core g).frame.place, act := .recvClosed c }] : Trace), ∀ d, deafStep g' d op = d := by simp [deafStep]
      have hP1 := hT1.take (core g).frame.fn (core g).frame.place
      refine ⟨_, _, (0, 0), hst.trans hrun, .left _ _ (by omega), ?_⟩
      rw [← Array.append_assoc]
      refine .fin _ _ _ sl' _ (upd q j k) (get_set0 h0) ⟨fun x y hx hy => ?_, fun x hx => ?_⟩ hP1 (hat.nil _ (Aside.refl c _))
      · by_cases exj : x = j
        · subst exj
          rw [get_set_ne (Ne.symm hj0), hj] at hy
          obtain rfl := Option.some.inj hy
          rw [upd_same, Deaf_quiet (hq1 x), hT1.ph.hearsj]
          exact QuitsD.of_quitsIn hB
        · rw [upd_ne q k exj, Deaf_quiet (hq1 x)]
          exact hR1.old x y hx exj hy
      · rw [Deaf_quiet (hq1 x)]
        exact hR1.above x hx
    · obtain ⟨a', w', es, hgo, ⟨_, hcc, hes⟩, hg'⟩ := hstep _ hAs
      have hrun := runT_crowd_go (P := P) (sl := sl') (i := 0) h0 (show stepG P (0 == 0) g (w.at d) = _ from hgo)
      have hlt : 0 < gs.size := (Array.getElem?_eq_some_iff.1 h0).1
      refine ⟨_, _, (1, n' + k + sumTo ((gs.map (woken P g a' w')).setIfInBounds 0 a').size q), hst.trans hrun, .right _ (by simp <;> omega), ?_⟩
      refine .shut _ a' b w' sl' _ q s r tm n' k m (hcc.trans hc1) (by simp [hlt]) ?_ hg' hB (hT.app (hT.ph.own0 hj0 hes) fun op hop e => ?_) (hR.keep (others_go 0 (.inl rfl) _ _ _ _) (deaf_ops (.inl rfl) _ _ _))
      · rw [get_set_ne (Ne.symm hj0), Array.getElem?_map, hj]
        simp only [Option.map_some, woken_quits hB]
      · obtain ⟨x, _, rfl⟩ := Go.Conc.mem_ofEvents hop
        exact absurd e (Ne.symm hj0)
  · by_cases eij : i = j
    · -- the sender leaves
      subst eij
      obtain rfl : g = b := by rw [hj] at hi; exact (Option.some.inj hi).symm
      cases k with
      | zero => rw [show g.status = .finished from hB] at hg; cases hg
      | succ k =>
        rcases hB with h | ⟨_, b', hw, hq⟩
        · rw [h] at hg; cases hg
        · have hrun := runT_crowd_go (P := P) (sl := sl') (i := i) hj (by rw [hjb]; exact hw (w.at d))
          refine ⟨_, _, (1, n + k + sumTo ((gs.map (woken P g b' (w.at d))).setIfInBounds i b').size q), hst.trans hrun, .right _ (by simp), ?_⟩
          rw [ofEvents_none, Array.append_empty]
          refine .shut _ a b' (w.at d) sl' t q s r tm n k m hc1 ?_ (get_setj (b := woken P g b' (w.at d) g) (by rw [Array.getElem?_map, hj]; rfl)) (Goes.rely (R := Aside c) (fun _ _ _ h h' => Aside.trans h h') hA hAs) hq hT ?_
          · rw [get_set_ne hj0, Array.getElem?_map, h0]
            simp only [Option.map_some, woken_running hra]
          · have := hR.keep (u := #[]) (others_go i (.inr rfl) g b' (w.at d) b') (fun x _ _ => by rw [Array.append_empty])
            rwa [Array.append_empty] at this
    · -- a leaver slips
      have hq := hR.old i g (by omega) eij hi
      have hi0 : (i == 0) = false := by simpa using ei0
      have hlt : i < gs.size := (Array.getElem?_eq_some_iff.1 hi).1
      cases hqi : q i with
      | zero => rw [hqi] at hq; rw [hq.1] at hg; cases hg
      | succ k' =>
        rw [hqi] at hq
        rcases hq with ⟨hf, _⟩ | ⟨_, g', es, hm, hstp, hq'⟩
        · rw [hf] at hg; cases hg
        have hrun := runT_crowd_go (P := P) (sl := sl') (i := i) hi (by rw [hi0]; exact hstp (w.at d))
        have hsz : ((gs.map (woken P g g' (w.at d))).setIfInBounds i g').size = gs.size := by simp
        have hsum : sumTo gs.size (upd q i k') + (k' + 1) = sumTo gs.size q + k' := by
          have := sumTo_upd q k' id hlt
          simpa [hqi] using this
        refine ⟨_, _, (1, n + k + sumTo ((gs.map (woken P g g' (w.at d))).setIfInBounds i g').size (upd q i k')), hst.trans hrun, .right _ (by rw [hsz]; omega), ?_⟩
        refine .shut _ a b (w.at d) sl' _ (upd q i k') s r tm n k m hc1 ?_ ?_ (Goes.rely (R := Aside c) (fun _ _ _ h h' => Aside.trans h h') hA hAs) hB (hT.app (hT.ph.mute ei0 eij hm) fun op hop e => ?_) (hR.slips (by omega) eij hlt hq' _ _)
        · rw [get_set_ne ei0, Array.getElem?_map, h0]
          simp only [Option.map_some, woken_running hra]
        · rw [get_set_ne eij, Array.getElem?_map, hj]
          simp only [Option.map_some, woken_quits hB]
        · obtain ⟨x, _, rfl⟩ := Go.Conc.mem_ofEvents hop
          exact absurd e eij

/-- ████ A GO STATEMENT, AND ALL THAT PASSES TILL GOROUTINE 0 FINDS THE CHANNEL CLOSED. ████ -/
theorem gets_fork {Q : Goroutine → World → Prop} {g : Goroutine} {w : World} (hs : g.status = .running)
    (h : ∀ d, ∃ (a' child : Goroutine) (w' : World) (es : Array Event) (c : Nat) (S : World → Prop) (Mine : Loc → Prop) (z : Value) (vs : List Value) (s r : Nat) (tm : Bool),
      stepG P true g (w.at d) = .spawn a' child w' es ∧ (∀ e ∈ es, Calm e) ∧ (∀ w w₁, Aside c w w₁ → S w → S w₁) ∧ S w' ∧ w'.heap[c]? = some (.chan 0 #[] false s r tm) ∧ Recvs P c S Mine z Q vs a' w' ∧ Sends P c S Mine vs child) :
    Gets P Q g w := by
  intro gs sl t q h0 hL hP
  obtain ⟨N, gs1, d0, d, sl0, sl', t1, q1, hr, hsz, h01, hL1, hP1, hst⟩ := slip (P := P) _ gs g w sl t q (Nat.le_refl _) h0 hs hL hP
  obtain ⟨a', child, w', es, c, S, Mine, z, vs, s, r, tm, hsp, hes, hSt, hS, hc, hA, hB⟩ := h d
  obtain ⟨na, hna⟩ := (recvs_iff P c S Mine z _ vs _ _).1 hA
  obtain ⟨nb, hnb⟩ := (sends_iff P c S Mine vs _).1 hB
  have hlt : 0 < gs1.size := (Array.getElem?_eq_some_iff.1 h01).1
  have hrun := runT_crowd_spawn (P := P) (sl := sl') (i := 0) h01 (show stepG P (0 == 0) g (w.at d) = _ from hsp)
  have hP2 := hP1.own (fn := g.frame.fn) (pos := g.frame.place) hes
  have hother : ∀ i, i ≠ 0 → Deaf (t1 ++ MemOp.ofEvents 0 g.frame.fn g.frame.place es) i = Deaf t1 i := fun i hi => Deaf_other t1 (g := i) (g' := 0) (by omega) _ (fun op hop => by obtain ⟨e, _, rfl⟩ := Go.Conc.mem_ofEvents hop; rfl)
  have hdj : Deaf (t1 ++ MemOp.ofEvents 0 g.frame.fn g.frame.place es) gs1.size = 0 := by rw [hother _ (by omega)]; exact hL1.above _ (Nat.le_refl _)
  have hT := hP2.hire hdj Mine g.frame.fn g.frame.place child.frame.fn g.frame.place
  have eops : t1 ++ ((MemOp.ofEvents 0 g.frame.fn g.frame.place es).push { g := 0, fn := g.frame.fn, pos := g.frame.place, act := .go gs1.size } |>.push { g := gs1.size, fn := child.frame.fn, pos := g.frame.place, act := .start }) =
      t1 ++ MemOp.ofEvents 0 g.frame.fn g.frame.place es ++ #[{ g := 0, fn := g.frame.fn, pos := g.frame.place, act := .go gs1.size }, { g := gs1.size, fn := child.frame.fn, pos := g.frame.place, act := .start }] := by
    rw [Array.push_eq_append, Array.push_eq_append, Array.append_assoc, Array.append_assoc]
    rfl
  have hq2 : ∀ g', ∀ op ∈ (#[{ g := 0, fn := g.frame.fn, pos := g.frame.place, act := .go gs1.size }, { g := gs1.size, fn := child.frame.fn, pos := g.frame.place, act := .start }] : Trace), ∀ d, deafStep g' d op = d := by simp [deafStep]
  have hR : Around P gs1.size (t1 ++ MemOp.ofEvents 0 g.frame.fn g.frame.place es ++ #[{ g := 0, fn := g.frame.fn, pos := g.frame.place, act := .go gs1.size }, { g := gs1.size, fn := child.frame.fn, pos := g.frame.place, act := .start }]) ((gs1.setIfInBounds 0 a').push child) q1 := by
    refine ⟨hlt, by simp, fun i x hi hij hx => ?_, fun i hi => ?_⟩
    · rw [Array.getElem?_push] at hx
      simp only [Array.size_setIfInBounds, if_neg hij] at hx
      rw [get_set_ne (by omega)] at hx
      rw [Deaf_quiet (hq2 i), hother i (by omega)]
      exact hL1.old i x hi hx
    · simp at hi
      rw [Deaf_quiet (hq2 i), hother i (by omega)]
      exact hL1.above i (by omega)
  have hinv : PInv P c gs1.size S Mine z Q (vs.length + 2, (na + 1) + (nb + 1) + sumTo ((gs1.setIfInBounds 0 a').push child).size q1) (crowd ((gs1.setIfInBounds 0 a').push child) w' sl') (t1 ++ MemOp.ofEvents 0 g.frame.fn g.frame.place es ++ #[{ g := 0, fn := g.frame.fn, pos := g.frame.place, act := .go gs1.size }, { g := gs1.size, fn := child.frame.fn, pos := g.frame.place, act := .start }]) := by
    refine .opn vs _ a' child w' sl' _ q1 s r tm (na + 1) (nb + 1) hS hc ?_ ?_ (.inl ⟨na, rfl, hna⟩) (.inl ⟨nb, rfl, hnb⟩) (by omega) hT hR
    · rw [Array.getElem?_push]
      have : ¬ 0 = (gs1.setIfInBounds 0 a').size := by simp; omega
      rw [if_neg this]
      exact get_set0 h01
    · rw [Array.getElem?_push, if_pos (by simp)]
  obtain ⟨n, m', t', hr2, gs', a2, w2, sl2, q2, rfl, h02, hL2, hP3, hQ⟩ := get_of_inv (P := P) (r := Lt2) (Prod.lex Nat.lt_wfRel Nat.lt_wfRel).wf (PInv P c gs1.size S Mine z Q)
    (fun m t => ∃ gs' a2 w2 sl2 q2, m = crowd gs' w2 sl2 ∧ gs'[0]? = some a2 ∧ Leavers P t gs' q2 ∧ Pst t ∧ Q a2 w2) (fun μ m t hI => by
      match μ, m, t, hI with
      | _, _, _, .opn vs gs a b w sl t q s r tm ra rb hS hc h0 hj hA hB hpos hT hR => exact .inr (pstep_opn hSt hS hc h0 hj hA hB hpos hT hR)
      | _, _, _, .shut gs a b w sl t q s r tm n k m hc h0 hj hA hB hT hR => exact .inr (pstep_shut hc h0 hj hA hB hT hR)
      | _, _, _, .fin gs a w sl t q h0 hL hT hF => exact .inl ⟨gs, a, w, sl, q, rfl, h0, hL, hT, hF⟩) _ _ _ hinv
  refine ⟨N + 1 + n, gs', a2, w2, sl2, t', q2, ?_, h02, hL2, hP3, hQ⟩
  rw [Nat.add_assoc, runNT_add, hr]
  simp only
  rw [runNT_add]
  simp only [runNT, hst, hrun, eops]
  exact hr2
end
end Go.Proofs.YtakjhhkffiffdaaLift
