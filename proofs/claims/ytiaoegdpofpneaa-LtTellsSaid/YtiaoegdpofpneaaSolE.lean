/- Contracts: Draw of soliton, DrawDegree of the document; the walks of wellspringlaw06: wakes, DegreeShares. -/
import Derived.Test.YtiaoegdpofpneaaSolD
namespace Go.Proofs.Ytiaoegdpofpneaa
open Go.RowKit
set_option linter.unusedVariables false

def drawV (xs : List Nat) (s : Int) : Nat := if xs = [] then 0 else degP xs (bval s (xs.getD (xs.length - 1) 0 : Nat))
def drawR (xs : List Nat) (s : Int) : Nat := if xs = [] then 0 else degR xs (bval s (xs.getD (xs.length - 1) 0 : Nat))
def drawS (xs : List Nat) (s : Int) : Int := if xs = [] then s else bst s (xs.getD (xs.length - 1) 0 : Nat)
theorem draw_tab (l s : Int) : drawV (tabI l) s = drawR (tabI l) s := by
  unfold drawV drawR
  split
  · rfl
  · exact deg_tabI l _
theorem tab_small (l : Int) : ∀ i, (tabI l).getD i 0 < 4611686018427387904 := by
  intro i
  unfold tabI
  split
  · rcases Nat.lt_or_ge i l.toNat with h | h
    · rw [tabN_get h]
      have := sum_lt (l := l.toNat) (k := i + 1) (by omega) h
      omega
    · rw [List.getD_eq_getElem?_getD, List.getElem?_eq_none (by rw [tabN_len]; exact h)]; decide
  · simp
theorem tabI_len (l : Int) : (tabI l).length ≤ 64 := by
  unfold tabI
  split
  · rw [tabN_len]; omega
  · simp

theorem Rd.set {w : World} {B : Nat} {a : Option Addr} {n : Nat} {xs : List Value} (h : Rd w B a n xs) {p : Addr} (hp : B ≤ p.block) (v : Value) : Rd (w.setCell p v) B a n xs :=
  h.keep fun q hq => World.cell?_of_block (w := w) (Below.heap_setCell w p v q.block (by omega))

set_option maxRecDepth 100000 in
set_option maxHeartbeats 2000000 in
theorem sol_draw (xs : List Nat) (B : Nat) (a : Option Addr) (n c : Nat) (s : Int) (p : Addr) (w : World) (hr : Rd w B a n (cellsI xs)) (hxn : xs.length = n) (hn : n ≤ 4096) (hb : ∀ i, xs.getD i 0 < 4611686018427387904)
    (hc : w.cell? p = some (.int .u64 s)) (hf : w.frozen? p = false) (hp : B ≤ p.block ∨ ∃ b o, a = some ⟨b, o, none⟩ ∧ b ≠ p.block) :
    Calls Try.prog 35 #[.slice a n c, .pointer (some p)] w fun e w' => e = .returned (.int .i64 (drawV xs s : Nat)) ∧ w.setCell p (.int .u64 (drawS xs s)) = w' := by
  by_cases h0 : n = 0
  · subst h0
    have hxe : xs = [] := List.eq_nil_of_length_eq_zero hxn
    subst hxe
    have hself := Lib.hid (setCell_self w p _ hc)
    have hd : drawS [] s = s := rfl
    rw [hd]
    clear hr hb hd
    go_enter Try.func35, Try.ntmps35
    go_wp2_with fail
    go_ret
    exact ⟨rfl, hself.out⟩
  · obtain ⟨b, o, rfl, hbB, hcx⟩ := hr.2 (by omega)
    have hne : ¬ xs = [] := by rintro rfl; simp at hxn; omega
    have hbp : b ≠ p.block := by
      rcases hp with h | ⟨b', o', e, h⟩
      · omega
      · simp at e; rw [e.1]; exact h
    clear hp
    have hv1 : drawV xs s = degP xs (bval s (xs.getD (n - 1) 0 : Nat)) := by unfold drawV; rw [if_neg hne, hxn]
    have hs1 : drawS xs s = bst s (xs.getD (n - 1) 0 : Nat) := by unfold drawS; rw [if_neg hne, hxn]
    rw [hv1, hs1]
    have cl := hcx (n - 1) _ (cellsI_get (by omega))
    have hl := hb (n - 1)
    have hr2 : ∀ v, Rd (w.setCell p v) (b + 1) (some ⟨b, o, none⟩) n (cellsI xs) := fun v => ⟨hr.1, fun _ => ⟨b, o, rfl, by omega, fun i u hu => (World.cell?_of_block (w := w) (Below.heap_setCell w p v b hbp)).trans (hcx i u hu)⟩⟩
    have hbv := bval_bd s (xs.getD (n - 1) 0 : Nat)
    have cD := fun v => sol_degree xs (b + 1) (some ⟨b, o, none⟩) n c (bval s (xs.getD (n - 1) 0 : Nat)) (w.setCell p v) (hr2 v) hxn hn hb (by omega)
    have h00 : ((n : Int) == 0) = false := by rw [beq_eq_false_iff_ne]; omega
    have ht : ((n : Int) - 1).toNat = n - 1 := by omega
    have hn1 : 0 ≤ (n : Int) - 1 := by omega
    have cB := fun w hc hf => draw_below s (xs.getD (n - 1) 0 : Nat) p w hc hf (by omega)
    generalize degP xs (bval s (xs.getD (n - 1) 0 : Nat)) = out at *
    generalize xs.getD (n - 1) 0 = last at *
    have CD := Lib.hid cD
    have CB := Lib.hid cB
    clear hr hcx hb hr2 hne hv1 hs1 cD cB hxn
    go_enter Try.func35, Try.ntmps35
    go_wp2_with fail
    refine (CB.out _ hc hf).mono ?_
    rintro e w1 ⟨rfl, rfl⟩
    go_wp2_with fail
    refine (CD.out _).mono ?_
    rintro e w1 ⟨rfl, rfl⟩
    go_wp2_with fail
    go_ret
    exact ⟨rfl, rfl⟩

set_option maxRecDepth 100000 in
set_option maxHeartbeats 2000000 in
theorem ref_drawDegree (xs : List Nat) (B : Nat) (a : Option Addr) (n c : Nat) (s : Int) (p : Addr) (w : World) (hr : Rd w B a n (cellsI xs)) (hxn : xs.length = n) (hn : n ≤ 4096) (hb : ∀ i, xs.getD i 0 < 4611686018427387904)
    (hc : w.cell? p = some (.int .u64 s)) (hf : w.frozen? p = false) (hp : B ≤ p.block ∨ ∃ b o, a = some ⟨b, o, none⟩ ∧ b ≠ p.block) :
    Calls Try.prog 36 #[.slice a n c, .pointer (some p)] w fun e w' => e = .returned (.int .i64 (drawR xs s : Nat)) ∧ w.setCell p (.int .u64 (drawS xs s)) = w' := by
  by_cases h0 : n = 0
  · subst h0
    have hxe : xs = [] := List.eq_nil_of_length_eq_zero hxn
    subst hxe
    have hself := Lib.hid (setCell_self w p _ hc)
    have hd : drawS [] s = s := rfl
    rw [hd]
    clear hr hb hd
    go_enter Try.func36, Try.ntmps36
    go_wp2_with fail
    go_ret
    exact ⟨rfl, hself.out⟩
  · obtain ⟨b, o, rfl, hbB, hcx⟩ := hr.2 (by omega)
    have hne : ¬ xs = [] := by rintro rfl; simp at hxn; omega
    have hbp : b ≠ p.block := by
      rcases hp with h | ⟨b', o', e, h⟩
      · omega
      · simp at e; rw [e.1]; exact h
    clear hp
    have hv1 : drawR xs s = degR xs (bval s (xs.getD (n - 1) 0 : Nat)) := by unfold drawR; rw [if_neg hne, hxn]
    have hs1 : drawS xs s = bst s (xs.getD (n - 1) 0 : Nat) := by unfold drawS; rw [if_neg hne, hxn]
    rw [hv1, hs1]
    have cl := hcx (n - 1) _ (cellsI_get (by omega))
    have hl := hb (n - 1)
    have hr2 : ∀ v, Rd (w.setCell p v) (b + 1) (some ⟨b, o, none⟩) n (cellsI xs) := fun v => ⟨hr.1, fun _ => ⟨b, o, rfl, by omega, fun i u hu => (World.cell?_of_block (w := w) (Below.heap_setCell w p v b hbp)).trans (hcx i u hu)⟩⟩
    have hbv := bval_bd s (xs.getD (n - 1) 0 : Nat)
    have cD := fun v => ref_degree xs (b + 1) (some ⟨b, o, none⟩) n c (bval s (xs.getD (n - 1) 0 : Nat)) (w.setCell p v) (hr2 v) hxn hn hb (by omega)
    have h00 : ((n : Int) == 0) = false := by rw [beq_eq_false_iff_ne]; omega
    have ht : ((n : Int) - 1).toNat = n - 1 := by omega
    have hn1 : 0 ≤ (n : Int) - 1 := by omega
    have cB := fun w hc hf => rdraw_below s (xs.getD (n - 1) 0 : Nat) p w hc hf (by omega)
    generalize degR xs (bval s (xs.getD (n - 1) 0 : Nat)) = out at *
    generalize xs.getD (n - 1) 0 = last at *
    have CD := Lib.hid cD
    have CB := Lib.hid cB
    clear hr hcx hb hr2 hne hv1 hs1 cD cB hxn
    go_enter Try.func36, Try.ntmps36
    go_wp2_with fail
    refine (CB.out _ hc hf).mono ?_
    rintro e w1 ⟨rfl, rfl⟩
    go_wp2_with fail
    refine (CD.out _).mono ?_
    rintro e w1 ⟨rfl, rfl⟩
    go_wp2_with fail
    go_ret
    exact ⟨rfl, rfl⟩

theorem tabI_one : tabI 1 = [2097152] := by decide +kernel
theorem degP_one : degP [2097152] 5 = 1 := by decide +kernel
set_option maxRecDepth 100000 in
set_option maxHeartbeats 2000000 in
theorem wakes06 (w : World) : Calls Try.prog 29 #[] w fun e w' => e = .returned (.bool true) ∧ Below w.heap.size w w' := by
  go_enter Try.func29, Try.ntmps29
  go_wp2_with fail
  refine (sol_table 1 (by omega) _).mono ?_
  rintro e w1 ⟨v, rfl, ho, hb⟩
  rw [tabI_one] at ho
  obtain ⟨a, c, rfl, hr⟩ := ho.rd
  have hr : Rd w1 w1.heap.size a 1 (cellsI [2097152]) := hr
  have cD := sol_degree [2097152] _ a 1 c 5 w1 hr rfl (by omega) (fun i => by cases i <;> simp) (by omega)
  rw [degP_one] at cD
  obtain ⟨b, o, rfl, _, hc⟩ := hr.2 (by omega)
  have c0 := hc 0 (.int .i64 2097152) rfl
  simp at c0
  have CD := Lib.hid cD
  have HB := Lib.hid hb
  clear cD hb hr hc ho
  go_wp2_with fail
  refine CD.out.mono ?_
  rintro e w2 ⟨rfl, rfl⟩
  go_wp2_with fail
  go_ret
  exact ⟨rfl, HB.out⟩
end Go.Proofs.Ytiaoegdpofpneaa
