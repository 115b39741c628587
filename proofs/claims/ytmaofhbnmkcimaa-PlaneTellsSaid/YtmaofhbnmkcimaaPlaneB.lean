/- The package plane: At and Spot. -/
import Derived.Test.YtmaofhbnmkcimaaPlane
namespace Go.Proofs.Ytmaofhbnmkcimaa
open Go.RowKit
set_option linter.unusedVariables false

/-- Behind so many steps. -/
def Sp.it : Nat → Sp | 0 => Sp.start | n + 1 => (Sp.it n).on
instance (s : Sp) : Decidable s.small := by unfold Sp.small; exact inferInstance
def Sp.chk : Nat → Sp → Bool | 0, s => decide s.small | k + 1, s => decide s.small && Sp.chk k s.on
theorem chk_ok : Sp.chk 4100 Sp.start = true := by decide +kernel
theorem chk_it (n : Nat) : ∀ (j k : Nat), k ≤ n → Sp.chk n (Sp.it j) = true → (Sp.it (j + k)).small := by
  induction n with
  | zero => intro j k hk h; obtain rfl : k = 0 := Nat.le_zero.1 hk; exact of_decide_eq_true h
  | succ n ih =>
    intro j k hk h
    rw [Sp.chk, Bool.and_eq_true] at h
    cases k with
    | zero => exact of_decide_eq_true h.1
    | succ k =>
      have := ih (j + 1) k (by omega) h.2
      rwa [show j + 1 + k = j + (k + 1) by omega] at this
theorem it_small {k : Nat} (h : k ≤ 4100) : (Sp.it k).small := by
  have := chk_it 4100 0 k h chk_ok
  rwa [Nat.zero_add] at this
def atN (n : Int) : Int × Int := if 0 ≤ n ∧ n < 4096 then ((Sp.it n.toNat).x, (Sp.it n.toNat).y) else (0, 0)

/-- The same, three parts ahead of the label. -/
theorem wp_goto_loop3 {P : Program} {Q : Exit → Act → World → Prop} {a : Act} {w : World} {p1 p2 p3 rest : Code} (l : Nat) (J : Nat → Act → World → Prop) (n₀ : Nat)
    (hf : findLabel (p1.seq (p2.seq (p3.seq ((Code.label l).seq rest)))) l = some (Code.skip.seq rest))
    (first : p1.wp P (Exit.then (fun a w => p2.wp P (Exit.then (fun a w => p3.wp P (Exit.then (J n₀) (Exit.jump l (fun _ _ => False) Q)) a w) (Exit.jump l (fun _ _ => False) Q)) a w) (Exit.jump l (fun _ _ => False) Q)) a w)
    (pass : ∀ n a w, J n a w → rest.wp P (Exit.jump l (fun a' w' => ∃ n', n' < n ∧ J n' a' w') Q) a w) : (Code.scope (p1.seq (p2.seq (p3.seq ((Code.label l).seq rest))))).wp P Q a w := by
  have up : ∀ {c : Code} {K K' : Act → World → Prop} {a : Act} {w : World}, c.wp P (Exit.then K (Exit.jump l (fun _ _ => False) Q)) a w → (∀ a w, K a w → K' a w) → c.wp P (Exit.then K' (Exit.jump l (fun a w => ∃ n, J n a w) Q)) a w := by
    intro c K K' a w h hk
    refine wp_mono h ?_
    intro e a' w' hq
    cases e with
    | normal => exact hk _ _ hq
    | goto l' => exact hq.2.elim
    | exit id => exact hq
    | ret => exact hq
    | panic ch => exact hq
    | outgrown => exact hq
  refine wp_scope_jumps l (fun a w => ∃ n, J n a w) (fun a w => leastOf (fun n => J n a w)) hf ?_ ?_
  · refine wp_seq (up first fun a w h => wp_seq (up h fun a w h => wp_seq (up h fun a w h => wp_seq (wp_label ?_))))
    refine wp_mono (pass n₀ a w h) ?_
    intro e a' w' hq
    cases e with
    | goto l' => exact ⟨hq.1, let ⟨n', _, hn⟩ := hq.2; ⟨n', hn⟩⟩
    | normal => exact hq
    | exit id => exact hq
    | ret => exact hq
    | panic ch => exact hq
    | outgrown => exact hq
  · intro a w hJ
    refine wp_seq (wp_skip ?_)
    refine wp_mono (pass _ a w (leastOf_spec hJ).1) ?_
    intro e a' w' hq
    cases e with
    | goto l' =>
      obtain ⟨h1, n', hlt, hn'⟩ := hq
      exact ⟨h1, ⟨n', hn'⟩, Nat.lt_of_le_of_lt ((leastOf_spec ⟨n', hn'⟩).2 n' hn') hlt⟩
    | normal => exact hq
    | exit id => exact hq
    | ret => exact hq
    | panic ch => exact hq
    | outgrown => exact hq

set_option maxRecDepth 100000 in
set_option maxHeartbeats 2000000 in
theorem plane_at (n : Int) (hn : -9223372036854775808 ≤ n ∧ n ≤ 9223372036854775807) (w : World) :
    Calls Try.prog 14 #[.int .i64 n] w fun e w' => ∃ r i, e = .returned (.complex .f64 r i) ∧ Cz r i (atN n).1 (atN n).2 ∧ Below w.heap.size w w' := by
  by_cases hin : 0 ≤ n ∧ n < 4096
  · have ha : atN n = ((Sp.it n.toNat).x, (Sp.it n.toNat).y) := if_pos hin
    rw [ha]
    clear ha
    obtain ⟨m, rfl⟩ := Int.eq_ofNat_of_zero_le hin.1
    rw [Int.toNat_natCast]
    have hm : m < 4096 := by omega
    clear hn hin
    go_enter Try.func14, Try.ntmps14
    go_wp2_with fail
    refine wp_goto_loop3 0 (fun n a' w' => ∃ (k g : Nat) (u5 u6 u7 u8 u9 u10 u11 u12 u13 u14 u15 u16 u17 u18 u19 u20 u21 u22 : Value), (k ≤ m ∧ n = m - k ∧ w.heap.size ≤ g ∧ Hid (SpAt w' g (Sp.it k)) ∧ Hid (Below w.heap.size w w')) ∧
      a' = { tmps := #[.int .i64 m, undef, .complex .f64 0 0, .pointer (some ⟨g, 0, none⟩), .int .i64 k, u5, u6, u7, u8, u9, u10, u11, u12, u13, u14, u15, u16, u17, u18, u19, u20, u21, u22], defers := [] }) m rfl ?_ ?_
    · go_wp2_with fail
      refine (plane_start _).mono ?_
      rintro e w1 ⟨g, rfl, hg, hS, hb⟩
      have HS := Lib.hid hS
      have HB := Lib.hid hb
      clear hS hb
      go_wp2_with fail
      exact ⟨0, g, _, _, _, _, _, _, _, _, _, _, _, _, _, _, _, _, _, _, ⟨by omega, by omega, hg, HS, HB⟩, rfl⟩
    · rintro n a' wr ⟨k, g, u5, u6, u7, u8, u9, u10, u11, u12, u13, u14, u15, u16, u17, u18, u19, u20, u21, u22, ⟨hk, rfl, hg, HS, HB⟩, rfl⟩
      by_cases hkm : k = m
      · have hkb : ((k : Int) == (m : Int)) = true := by rw [hkm, beq_self_eq_true]
        obtain ⟨ar, ai, sr, si, hz1, hz2, hB⟩ := HS.out
        have c0 := hB.cell 0
        simp at c0
        have HZ := Lib.hid hz1
        clear hz1 hz2 hB
        go_wp2_with fail
        simp only [Exit.jump]
        go_ret
        exact ⟨ar, ai, rfl, by rw [← hkm]; exact HZ.out, HB.out⟩
      · have hkb : ((k : Int) == (m : Int)) = false := by rw [beq_eq_false_iff_ne]; omega
        go_wp2_with fail
        refine (plane_on g (Sp.it k) _ HS.out (it_small (by omega))).mono ?_
        rintro e w2 ⟨⟨v, rfl⟩, hS2, hG⟩
        have HS2 := Lib.hid hS2
        have HB2 : Hid (Below w.heap.size w w2) := by
          refine HB.out.trans ?_
          exact ((Below.refl _ wr).grown hG HB.out.size (fun z hz => by simp at hz; omega))
        clear hS2 hG
        go_wp2_with fail
        go_step3
        exact ⟨rfl, m - (k + 1), by omega, k + 1, g, _, _, _, _, _, _, _, _, _, _, _, _, _, _, _, _, _, _, ⟨by omega, by omega, hg, HS2, HB2⟩, rfl⟩
  · have ha : atN n = (0, 0) := if_neg hin
    rw [ha]
    clear ha
    go_enter Try.func14, Try.ntmps14
    go_wp2_with fail
    refine wp_goto_loop3 0 (fun n a' w' => False) 0 rfl ?_ (fun _ _ _ h => h.elim)
    by_cases h0 : n < 0
    · go_wp2_with fail
      simp only [Exit.jump]
      go_ret
      exact ⟨0, 0, rfl, ⟨fz_zero, fz_zero⟩, Below.refl _ _⟩
    · have h1 : 4096 ≤ n := by omega
      clear hin
      go_wp2_with fail
      simp only [Exit.jump]
      go_ret
      exact ⟨0, 0, rfl, ⟨fz_zero, fz_zero⟩, Below.refl _ _⟩

/-- The first of the places from k on, j of them, that is met. -/
def fstK (f : Nat → Bool) (k : Nat) : Nat → Option Nat | 0 => none | j + 1 => if f k then some k else fstK f (k + 1) j
def spotV (f : Nat → Bool) : Value := match fstK f 0 4096 with
  | some k => .tuple #[.int .i64 k, .bool true]
  | none => .tuple #[.int .i64 0, .bool false]

set_option maxRecDepth 100000 in
set_option maxHeartbeats 2000000 in
theorem plane_spot (zr zi : Nat) (f : Nat → Bool) (w : World)
    (hf : ∀ k ar ai, k < 4096 → Cz ar ai (Sp.it k).x (Sp.it k).y → ((FloatKind.f64.format.order ar zr == some .eq) && (FloatKind.f64.format.order ai zi == some .eq)) = f k) :
    Calls Try.prog 13 #[.complex .f64 zr zi] w fun e w' => e = .returned (spotV f) ∧ Below w.heap.size w w' := by
  have HF := Lib.hid hf
  clear hf
  go_enter Try.func13, Try.ntmps13
  go_wp2_with fail
  refine (plane_start _).mono ?_
  rintro e w1 ⟨g, rfl, hg, hS, hb⟩
  have HS := Lib.hid hS
  have HB := Lib.hid hb
  clear hS hb
  go_wp2_with fail
  go_loopw [7] (fun i wr => ∃ k : Nat, k ≤ 4096 ∧ i = .int .i64 k ∧ Hid (SpAt wr g (Sp.it k)) ∧ Hid (Below w.heap.size w wr) ∧ Hid (fstK f k (4096 - k) = fstK f 0 4096)) (fun i _ => 4096 - (intOf i).toNat)
  case atStart => exact ⟨0, by omega, rfl, HS, HB, Lib.hid rfl⟩
  case round =>
    obtain ⟨k, hk, rfl, HK, HBk, HFk⟩ := hrel
    clear HS HB
    by_cases hlt : k < 4096
    · obtain ⟨ar, ai, sr, si, hz1, hz2, hB⟩ := HK.out
      have c0 := hB.cell 0
      simp at c0
      have hfk := HF.out k ar ai hlt hz1
      have HST : Hid (fstK f 0 4096 = if f k then some k else fstK f (k + 1) (4096 - (k + 1))) := Lib.hid (by
        rw [← HFk.out, show 4096 - k = (4096 - (k + 1)) + 1 by omega, fstK])
      clear hz1 hz2 hB
      cases hfv : f k
      · rw [hfv] at hfk HST
        have HFV := Lib.hid hfv
        clear hfv
        go_wp2_with fail
        refine (plane_on g (Sp.it k) _ HK.out (it_small (by omega))).mono ?_
        rintro e w2 ⟨⟨v, rfl⟩, hS2, hG⟩
        have HS2 := Lib.hid hS2
        have HB2 : Hid (Below w.heap.size w w2) := by
          refine HBk.out.trans ?_
          exact ((Below.refl _ wr).grown hG HBk.out.size (fun z hz => by simp at hz; omega))
        clear hS2 hG hfk
        go_wp2_with fail
        go_roundw
        case rel => exact ⟨k + 1, by omega, by go_num, HS2, HB2, Lib.hid HST.out.symm⟩
        case measure => simp [intOf]; omega
      · rw [hfv] at hfk HST
        clear hfv
        go_wp2_with fail
        go_ret2
        exact ⟨by unfold spotV; rw [HST.out]; rfl, HBk.out⟩
    · obtain rfl : k = 4096 := by omega
      go_wp2_with fail
      go_ret2
      exact ⟨by unfold spotV; rw [← HFk.out]; rfl, HBk.out⟩
end Go.Proofs.Ytmaofhbnmkcimaa
