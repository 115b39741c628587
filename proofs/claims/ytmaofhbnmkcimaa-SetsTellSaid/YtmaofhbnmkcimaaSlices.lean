/- slices.Clone of a []int. -/
import Derived.Test.YtmaofhbnmkcimaaKit
namespace Go.Proofs.Ytmaofhbnmkcimaa
open Go.RowKit
set_option linter.unusedVariables false

theorem info_int : (Try.prog.info? 3).map (fun i => (i.zero, i.size, i.bytes)) = some (some (.int .i64 0), 1, 8) := by kernel_rfl

set_option maxRecDepth 100000 in
set_option maxHeartbeats 1000000 in
theorem slices_clone (a : Option Addr) (n c : Nat) (xs : List Value) (w : World) (hr : Rd w w.heap.size a n xs) (h1 : ∀ u ∈ xs, u.oneCell' = true) (hnil : a = none → c = 0) (hn : n * 8 ≤ 140737488355328) :
    Calls Try.prog 30 #[.slice a n c] w fun e w' => ∃ v, e = .returned v ∧ w'.ownsRow w.heap.size 3 1 v n xs ∧ Below w.heap.size w w' := by
  cases a with
  | none =>
    have hc := hnil rfl
    subst hc
    have hn0 : n = 0 := by
      rcases Nat.eq_zero_or_pos n with h | h
      · exact h
      · obtain ⟨b, o, e, _⟩ := hr.2 h
        cases e
    subst hn0
    have hx : xs = [] := List.eq_nil_of_length_eq_zero hr.1
    subst hx
    have hq := fun W => Lib.run_eql_slice_nil (P := Try.prog) W 31 3 none 0 0 0 0 Try.underlying31
    go_enter Try.func30, Try.ntmps30
    go_wp2_with fail
    go_ret
    exact ⟨_, rfl, World.ownsRow_nil _ _ _ _, Below.refl _ _⟩
  | some ad =>
    have hq := fun W => Lib.run_eql_slice_nil (P := Try.prog) W 31 3 (some ad) n c 0 0 Try.underlying31
    have HR := Lib.hid hr
    have H1 := Lib.hid h1
    clear hr h1 hnil
    go_enter Try.func30, Try.ntmps30
    go_wp2_with (at_builtin; refine wp_appRd _ rfl _ _ 31 rfl w.heap.size 3 (.int .i64 0) 8 Try.underlying31 info_int rfl (.slice (some ⟨w.heap.size, 0, none⟩) 0 0) 0 [] rfl ?o1 w.heap.size ad n c xs rfl ?o2 H1.out ?o3 ?o4 ?o5 ?_)
    case o1 => exact World.ownsRow_made w #[] 0 (Nat.le_refl _) (by unfold maxLen; omega) (by simp)
    case o2 => exact HR.out.keep (fun p hp => World.cell?_alloc_lt _ _ _ hp)
    case o3 => omega
    case o4 => unfold maxLen; omega
    case o5 => simp
    intro v w1 hown hg hv
    have hb : Below w.heap.size w w1 := ((Below.refl _ _).alloc (Nat.le_refl _) _).grown hg (by simp) (fun k hk => by simp [Value.ownBlock] at hk; omega)
    have hown' : w1.ownsRow w.heap.size 3 1 v n xs := by simpa using hown
    go_wp2_with fail
    go_ret
    exact ⟨_, rfl, hown', hb⟩
end Go.Proofs.Ytmaofhbnmkcimaa
