/- Contracts of the package soliton: Table, Degree, Draw; the document's. -/
import Derived.Test.YtiaoegdpofpneaaSolA
import Derived.Test.YtiaoegdpofpneaaDraw
namespace Go.Proofs.Ytiaoegdpofpneaa
open Go.RowKit
set_option linter.unusedVariables false

/-- A slice of the call's own, or nil, that reads as l. -/
def OwnI (w : World) (C : Nat) (v : Value) (l : List Nat) : Prop := w.ownsRow C 3 1 v l.length (cellsI l)
theorem OwnI.nil (w : World) (C : Nat) : OwnI w C (.slice none 0 0) [] := World.ownsRow_nil _ _ _ _
theorem OwnI.below {w w' : World} {C : Nat} {v : Value} {l : List Nat} (h : OwnI w C v l) (hb : Below w.heap.size w w') : OwnI w' C v l := own_new h hb
theorem OwnI.base {w : World} {C C' : Nat} {v : Value} {l : List Nat} (h : OwnI w C v l) (hC : C' ≤ C) : OwnI w C' v l := own_base h hC
theorem OwnI.rd {w : World} {C : Nat} {v : Value} {l : List Nat} (h : OwnI w C v l) : ∃ a c, v = .slice a l.length c ∧ Rd w w.heap.size a l.length (cellsI l) := rd_of_own h
theorem OwnI.append {w' : World} {C : Nat} {v' : Value} {l : List Nat} {x : Nat} (h : w'.ownsRow C 3 1 v' (l.length + 1) (cellsI l ++ [.int .i64 (x : Nat)])) : OwnI w' C v' (l ++ [x]) := by
  unfold OwnI
  rw [show cellsI (l ++ [x]) = cellsI l ++ [.int .i64 (x : Nat)] by simp [cellsI], List.length_append]
  exact h
theorem Rd.atI {w : World} {B : Nat} {a : Option Addr} {l : List Nat} (h : Rd w B a l.length (cellsI l)) {i : Nat} (hi : i < l.length) :
    ∃ b o, a = some ⟨b, o, none⟩ ∧ b < B ∧ ∀ j, j < l.length → w.cell? ⟨b, o + j, none⟩ = some (.int .i64 (l.getD j 0 : Nat)) := by
  obtain ⟨b, o, rfl, hb, hc⟩ := h.2 (by omega)
  exact ⟨b, o, rfl, hb, fun j hj => hc j _ (cellsI_get hj)⟩

set_option maxRecDepth 100000 in
set_option maxHeartbeats 2000000 in
theorem sol_table (l : Int) (hl : -9223372036854775808 ≤ l ∧ l ≤ 9223372036854775807) (w : World) :
    Calls Try.prog 28 #[.int .i64 l] w fun e w' => ∃ v, e = .returned v ∧ OwnI w' w.heap.size v (tabI l) ∧ Below w.heap.size w w' := by
  by_cases hin : 1 ≤ l ∧ l ≤ 64
  · obtain ⟨n, rfl⟩ := Int.eq_ofNat_of_zero_le (a := l) (by omega)
    have h1 : 1 ≤ n := by omega
    have h2 : n ≤ 64 := by omega
    rw [tabI_in ⟨h1, h2⟩]
    clear hl hin
    have HW : Hid (∀ k, 1 ≤ k → k ≤ n → ∀ w, Calls Try.prog 51 #[.int .i64 n, .int .i64 k] w fun e w' => e = .returned (.int .i64 (wtN n k : Nat)) ∧ w = w') := Lib.hid fun k a b w => sol_weight n k h1 h2 a b w
    obtain ⟨i0, hi, hz0, hz1, hz2⟩ := info_parts info_int
    go_enter Try.func28, Try.ntmps28
    go_wp2_with (at_make; refine wpList_make_own _ rfl _ _ 30 rfl w.heap.size 3 i0 (.int .i64 0) 1 Try.underlying30 hi hz0 hz1 _ _ _ n rfl rfl rfl ?m1 ?m2 ?m3 ?_)
    case m1 => rw [hz2]; omega
    case m2 => unfold maxLen; omega
    case m3 => exact Nat.le_refl _
    intro w1 hown hg
    have hb1 : Below w.heap.size w w1 := (Below.refl _ _).grown hg (Nat.le_refl _) (by simp)
    have HO : Hid (OwnI w1 w.heap.size (.slice (some ⟨w.heap.size, 0, none⟩) 0 n) ((tabN n).take 0)) := hown
    have HB := Lib.hid hb1
    clear hown hg hb1 hi hz0 hz1 hz2
    go_wp2_with fail
    generalize hB0 : w.heap.size = B0 at *
    have HB0 := Lib.hid hB0
    clear hB0
    generalize (Value.slice (some ⟨B0, 0, none⟩) 0 (n : Nat)) = v0 at *
    go_loopw [3, 4, 5] (fun v s i wr => ∃ k : Nat, k ≤ n ∧ i = .int .i64 ((k : Int) + 1) ∧ s = .int .i64 (sumN n k : Nat) ∧ Hid (OwnI wr B0 v ((tabN n).take k)) ∧ Hid (Below B0 w wr)) (fun _ _ i _ => n + 1 - (intOf i).toNat)
    case atStart => exact ⟨0, by omega, rfl, rfl, HO, HB⟩
    case round =>
      clear HO HB
      obtain ⟨k, hk, rfl, rfl, HO, HB⟩ := hrel
      by_cases hlt : k < n
      · have hw : ∀ w, Calls Try.prog 51 #[.int .i64 n, .int .i64 ((k : Int) + 1)] w fun e w' => e = .returned (.int .i64 (wtN n (k + 1) : Nat)) ∧ w = w' := HW.out (k + 1) (by omega) (by omega)
        have hs0 := sum_lt h2 (k := k) (by omega)
        have hs1 := sum_lt h2 (k := k + 1) (by omega)
        have hss : (sumN n k : Int) + (wtN n (k + 1) : Int) = (sumN n (k + 1) : Nat) := by rw [← Int.natCast_add]; rfl
        have htk := tabN_take hlt
        have hlen : ((tabN n).take k).length = k := by rw [List.length_take, tabN_len]; omega
        have CW := Lib.hid hw
        have HT := Lib.hid htk
        have HL := Lib.hid hlen
        clear hw htk hlen
        generalize sumN n k = s0 at *
        generalize hs1e : sumN n (k + 1) = s1 at *
        have HS1 := Lib.hid hs1e
        clear hs1e
        generalize wtN n (k + 1) = wt at *
        go_wp2_with fail
        refine (CW.out _).mono ?_
        rintro e w2 ⟨rfl, rfl⟩
        have ho := HO.out
        unfold OwnI at ho
        rw [HL.out] at ho
        have hsz : B0 ≤ wr.heap.size := by have := HB.out.size; have := HB0.out; omega
        go_wp2_with (at_builtin; refine wp_app1 _ rfl _ _ 30 rfl B0 3 (.int .i64 0) 8 Try.underlying30 info_int rfl _ k _ rfl (ho.alloc _) _ (.int .i64 (s1 : Nat)) rfl ?p2 rfl ?p3 ?p4 ?p5 ?_)
        case p2 => go_simp
        case p3 => omega
        case p4 => unfold maxLen; omega
        case p5 => simp; omega
        intro v6 w6 hown6 hg6 _
        have HO6 : Hid (OwnI w6 B0 v6 ((tabN n).take (k + 1))) := Lib.hid (by rw [HT.out]; exact OwnI.append (by rw [HL.out]; exact hown6))
        have HB6 : Hid (Below B0 w w6) := Lib.hid ((HB.out.alloc hsz _).grown hg6 (by simp; omega) (fun g hg => (ho.lt g hg).1))
        clear ho hown6 hg6 HO HB
        go_wp2_with fail
        go_roundw
        case rel => exact ⟨k + 1, by omega, by go_num, by rw [HS1.out], HO6, HB6⟩
        case measure => simp [intOf]; omega
      · obtain rfl : k = n := by omega
        have ht : (tabN k).take k = tabN k := List.take_of_length_le (by rw [tabN_len]; exact Nat.le_refl _)
        rw [ht] at HO
        go_wp2_with fail
        go_ret
        exact ⟨_, rfl, by rw [HB0.out]; exact HO.out, by rw [HB0.out]; exact HB.out⟩
  · have hout : l < 1 ∨ 64 < l := by omega
    rw [tabI_out hout]
    clear hin
    by_cases h1 : l < 1
    · go_enter Try.func28, Try.ntmps28
      go_wp2_with fail
      go_ret
      exact ⟨_, rfl, OwnI.nil _ _, Below.refl _ _⟩
    · have h2 : 64 < l := by omega
      go_enter Try.func28, Try.ntmps28
      go_wp2_with fail
      go_ret
      exact ⟨_, rfl, OwnI.nil _ _, Below.refl _ _⟩
end Go.Proofs.Ytiaoegdpofpneaa
