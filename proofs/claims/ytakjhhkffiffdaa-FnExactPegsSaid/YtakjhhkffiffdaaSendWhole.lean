/-
  The sender's script, whole: from the go statement.
-/
import Derived.Test.YtakjhhkffiffdaaSend
set_option linter.unusedVariables false
set_option linter.unusedSimpArgs false
namespace Go.Proofs.Ytakjhhkffiffdaa
open Go.RowKit Go.Conc Go.Proofs.YtakjhhkffiffdaaLift Go.Proofs.YtakjhhkffiffdaaW.PrintWords Go.Proofs.Ytakjhhkffiffdaa.PFnExactPegs

/-- How many orders are taken up is bounded. -/
theorem PR.le {ns os : List Int} {lev b : Nat} {n : Int} {o : Nat} {left : Int} {out : List S34} {bad : Bool} (h : PR ns os lev b n o left out bad) : True := trivial

section
variable (c : Nat) (A0 A2 : Option Addr) (c0 c2 : Nat) (ns os : List Int)

theorem sends_PR (hn : ns.length ≤ 1000) (ho : os.length ≤ 1000) (hb0 : ∀ ad, A0 = some ad → 0 < ns.length → ad.block < c) (hb2 : ∀ ad, A2 = some ad → 0 < os.length → ad.block < c) (hnil0 : 0 < ns.length → ∃ ad, A0 = some ad) (hnil2 : 0 < os.length → ∃ ad, A2 = some ad)
    {lev b : Nat} {n : Int} {o : Nat} {left : Int} {out : List S34} {bad : Bool} (h : PR ns os lev b n o left out bad) (hoo : o ≤ 1000) :
    ∃ n', ∀ (g : Goroutine) (w : World), AnchS c A0 A2 c0 c2 ns os lev b n o left g → Goes Try.prog false (fun _ w₁ => Shared A0 A2 ns os w₁) (DB (Mine c)) (StopB Try.prog c (Shared A0 A2 ns os) (Mine c) (pvals out bad)) n' g w := by
  induction h with
  | fin h => subst h; exact snd_fin c A0 A2 c0 c2 ns os hn ho hb0 hb2 hnil0 hnil2 _ _ _
  | need h _ ih => exact snd_need c A0 A2 c0 c2 ns os hn ho hb0 hb2 hnil0 hnil2 _ _ _ h (ih hoo)
  | done hb h _ ih => exact snd_done c A0 A2 c0 c2 ns os hn ho hb0 hb2 hnil0 hnil2 _ _ hb h (ih hoo)
  | more h _ ih => exact snd_more c A0 A2 c0 c2 ns os hn ho hb0 hb2 hnil0 hnil2 _ _ h (ih hoo)
  | skip h _ ih => exact snd_skip c A0 A2 c0 c2 ns os hn ho hb0 hb2 hnil0 hnil2 h (ih (by omega))
  | late h hb => exact snd_late c A0 A2 c0 c2 ns os hn ho hb0 hb2 hnil0 hnil2 h hb
  | lack h => exact snd_lack c A0 A2 c0 c2 ns os hn ho hb0 hb2 hnil0 hnil2 h hoo
  | less h hn6 hlt hb _ ih => exact snd_less c A0 A2 c0 c2 ns os hn ho hb0 hb2 hnil0 hnil2 h hn6 hlt hb (ih hoo)
  | full h hl6 hlt hb _ ih => exact snd_full c A0 A2 c0 c2 ns os hn ho hb0 hb2 hnil0 hnil2 h hl6 hlt hb (ih hoo)
end

/-- The call that the go statement holds. -/
def call16 (A0 A2 : Option Addr) (c0 c2 : Nat) (ns os : List Int) (have_ : Int) (c : Nat) : Deferred :=
  { target := .fn (.func 16) #[], args := #[.slice A0 ns.length c0, .int .i64 have_, .slice A2 os.length c2, .chan (some c)] }

/-- The child's first step. -/
theorem born_step (A0 A2 : Option Addr) (c0 c2 : Nat) (ns os : List Int) (have_ : Int) (c : Nat) (w : World) : stepG Try.prog false (born Try.prog (call16 A0 A2 c0 c2 ns os have_ c)) w =
    .go (G (b16.at ⟨#[.slice A0 ns.length c0, .int .i64 have_, .slice A2 os.length c2, .chan (some c)] ++ Array.replicate 62 undef, []⟩ [.code body16]) [bot]) w #[] := by
  simp [born, call16, stepG, unwind, callDeferred, invoke, callFunc, Try.func16, Try.f16, seen, GStep.after, G, Frame.enter, Frame.at, b16, bot, body16]

set_option maxRecDepth 100000 in
set_option maxHeartbeats 4000000 in
theorem sends_all (c : Nat) (A0 A2 : Option Addr) (c0 c2 : Nat) (ns os : List Int) (have_ : Int) (hn : ns.length ≤ 1000) (ho : os.length ≤ 1000) (hb0 : ∀ ad, A0 = some ad → 0 < ns.length → ad.block < c) (hb2 : ∀ ad, A2 = some ad → 0 < os.length → ad.block < c) (hnil0 : 0 < ns.length → ∃ ad, A0 = some ad) (hnil2 : 0 < os.length → ∃ ad, A2 = some ad)
    {out : List S34} {bad : Bool} (h : PR ns os 0 0 0 0 have_ out bad) :
    Sends Try.prog c (Shared A0 A2 ns os) (Mine c) (pvals out bad) (born Try.prog (call16 A0 A2 c0 c2 ns os have_ c)) := by
  obtain ⟨n₁, h₁⟩ := sends_PR c A0 A2 c0 c2 ns os hn ho hb0 hb2 hnil0 hnil2 h (by omega)
  refine (sends_iff ..).2 ⟨n₁ + 15 + 1, Goes.step rfl fun w₁ _ => ?_⟩
  rw [born_step]
  refine ⟨⟨rfl, by simp⟩, ?_⟩
  simp only [body16, Try.f16, Option.getD_some]
  have e : (#[.slice A0 ns.length c0, .int .i64 have_, .slice A2 os.length c2, .chan (some c)] ++ Array.replicate 62 undef : Array Value) = #[.slice A0 ns.length c0, .int .i64 have_, .slice A2 os.length c2, .chan (some c), undef, undef, undef, undef, undef, undef, undef, undef, undef, undef, undef, undef, undef, undef, undef, undef, undef, undef, undef, undef, undef, undef, undef, undef, undef, undef, undef, undef, undef, undef, undef, undef, undef, undef, undef, undef, undef, undef, undef, undef, undef, undef, undef, undef, undef, undef, undef, undef, undef, undef, undef, undef, undef, undef, undef, undef, undef, undef, undef, undef, undef, undef] := by
    apply Array.ext'
    rw [Array.toList_append, Array.toList_replicate]
    rfl
  rw [e]
  repeat (first | b_ctl | b_op [Shared.el0 h₁, Shared.el2 h₁] (evB_cell _ _ (by simp only [addr_block]; omega)))
  exact h₁ _ _ ⟨_, rfl, by simp, by simp, by simp, by simp, by simp, by simp, by simp, by simp, by simp, by simp⟩
end Go.Proofs.Ytakjhhkffiffdaa
