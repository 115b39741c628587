/- Contracts: Dot, Lead, Unit of the package row; Axpy, Scale, Sum, Dot, Lead of the document. -/
import Derived.Test.YtfbhbjhfebkpfaaRow
import Derived.Test.YtfbhbjhfebkpfaaSpanM
namespace Go.Proofs.Ytfbhbjhfebkpfaa
open Go.RowKit
set_option linter.unusedVariables false

set_option maxRecDepth 100000 in
set_option maxHeartbeats 4000000 in
theorem ref_axpy (c : Nat) (xs ys : List Nat) (B : Nat) (a b : Option Addr) (n d d2 : Nat) (w : World) (hc : c < 256) (hx : Rd w B a n (cellsB xs)) (hy : Rd w B b n (cellsB ys)) (hB : B ≤ w.heap.size) (hbx : By xs) (hby : By ys) (hn : n ≤ 1000000) :
    Calls Try.prog 59 #[.int .u8 c, .slice a n d, .slice b n d2] w fun e w' => ∃ v, e = .returned v ∧ OwnB w' w.heap.size v (axL c xs ys) ∧ Below w.heap.size w w' := by
  have lx := hx.len
  have ly := hy.len
  rw [cellsB_len] at lx ly
  have hRl : (axL c xs ys).length = n := by rw [axL_len (by omega)]; exact ly
  have HRG : Hid (∀ k, (axL c xs ys).getD k 0 = ys.getD k 0 ^^^ fm c (xs.getD k 0)) := Lib.hid fun k => axL_get (by omega) k
  have hmk := make_bytes hn
  have HX := Lib.hid (hx.more hB)
  have HY := Lib.hid (hy.more hB)
  have HBX := Lib.hid hbx
  have HBY := Lib.hid hby
  have HRL := Lib.hid hRl
  clear hx hy hbx hby lx ly hRl
  generalize axL c xs ys = R at *
  go_enter Try.func59, Try.ntmps59
  go_wp2_with (simp only [hmk])
  have hB1 := Blk.new w 5 (rowB (List.replicate n 0))
  have hb1 := (Below.refl w.heap.size w).alloc (Nat.le_refl _) (.cells (rowB (List.replicate n 0)) 5)
  have HB : Hid (Blk (w.alloc (.cells (rowB (List.replicate n 0)) 5)) w.heap.size 5 (rowB (partL R 0))) := Lib.hid (by rw [partL_zero, HRL.out]; exact hB1)
  have HBL := Lib.hid hb1
  clear hB1 hb1 hmk
  generalize w.alloc (.cells (rowB (List.replicate n 0)) 5) = w1 at *
  generalize hG : w.heap.size = G at *
  have HG := Lib.hid hG
  clear hG
  go_loopw [8, 14] (fun _ i wr => ∃ k : Nat, k ≤ n ∧ i = .int .i64 k ∧ Hid (Blk wr G 5 (rowB (partL R k))) ∧ Hid (Below G w wr)) (fun _ i _ => n - (intOf i).toNat)
  case atStart => exact ⟨0, by omega, rfl, HB, HBL⟩
  case round =>
    clear HB HBL
    obtain ⟨k, hk, rfl, HB, HBL⟩ := hrel
    by_cases hlt : k < n
    · obtain ⟨bx, ox, rfl, hbx, hcx⟩ := HX.out.atB hlt
      obtain ⟨by', oy, rfl, hby, hcy⟩ := HY.out.atB hlt
      have cx := (HBL.out.cell (p := ⟨bx, ox + k, none⟩) hbx).trans (hcx k hlt)
      have cy := (HBL.out.cell (p := ⟨by', oy + k, none⟩) hby).trans (hcy k hlt)
      have hx1 := getD_lt HBX.out k
      have hy1 := getD_lt HBY.out k
      have hrg := HRG.out k
      have hkR : k < R.length := by rw [HRL.out]; exact hlt
      have hset := HB.out.set k (.int .u8 (R.getD k 0 : Nat))
      rw [rowB_set, partL_set hkR] at hset
      have co := (HB.out.cell k).trans (rowB_get (by rw [partL_len (by omega)]; exact hkR))
      rw [partL_get hkR] at co
      have fo := HB.out.frozen k
      rw [hrg] at hset
      generalize xs.getD k 0 = x at *
      generalize ys.getD k 0 = y at *
      have cM : Calls Try.prog 33 #[.int .u8 c, .int .u8 x] wr.drew fun e w'' => e = .returned (.int .u8 (fm c x : Nat)) ∧ w'' = wr.drew := (ref_mul c x hc hx1 wr.drew).mono fun e w' ⟨h1, h2⟩ => ⟨h1, h2.symm⟩
      have hz := fm_bd c x
      generalize fm c x = z at *
      have e1 := u8_xor_nat y z hy1 hz
      have HS := Lib.hid hset
      have CM := Lib.hid cM
      clear hset hrg hcx hcy cM
      generalize y ^^^ z = q at *
      have hlt' : (k : Int) < (n : Int) := by omega
      go_wp2_with fail
      go_still_tail 14, (by kernel_rfl)
      still_call CM.out
      repeat still_step
      refine wpStill_nil ?_
      change wpList _ _ _ _ _ wr.drew
      have co2 : wr.drew.cell? ⟨G, k, none⟩ = some (.int .u8 0) := co
      have fo2 : wr.drew.frozen? ⟨G, k, none⟩ = false := fo
      have HS2 : Hid (Blk (wr.drew.setCell ⟨G, k, none⟩ (.int .u8 (q : Nat))) G 5 (rowB (partL R (k + 1)))) := Lib.hid HS.out
      have HB2 : Hid (Below G w (wr.drew.setCell ⟨G, k, none⟩ (.int .u8 (q : Nat)))) := Lib.hid ((Below.drew HBL.out).setCell (Nat.le_refl _) _)
      clear HS HBL HB cx cy co fo CM
      generalize wr.drew = w3 at *
      go_wp2_with fail
      go_roundw
      case rel => first | exact ⟨k + 1, by omega, by go_num, HS2, HB2⟩ | ((repeat apply Exists.intro); exact ⟨⟨k + 1, by omega, by go_num, HS2, HB2⟩, rfl⟩)
      case measure => simp [intOf]; omega
    · obtain rfl : k = n := by omega
      have hf : partL R k = R := by rw [← HRL.out]; exact partL_full R
      rw [hf] at HB
      have ho := own_of_blk HB.out (C := G) (Nat.le_refl _) (by rw [HRL.out]; exact hn)
      rw [HRL.out] at ho
      have HO := Lib.hid ho
      clear ho hf HB
      go_wp2_with fail
      go_ret
      exact ⟨_, rfl, by rw [HG.out]; exact HO.out, by rw [HG.out]; exact HBL.out⟩

theorem ax_zeros {c : Nat} {xs : List Nat} {n : Nat} (h : xs.length = n) : axL c xs (List.replicate n 0) = scL c xs := by
  refine List.ext_getElem (by rw [axL_len (by rw [List.length_replicate]; exact h), List.length_replicate, scL_len, h]) fun i h1 h2 => ?_
  have e := axL_get (c := c) (a := xs) (b := List.replicate n 0) (by rw [List.length_replicate]; exact h) i
  rw [List.getD_eq_getElem?_getD, List.getElem?_eq_getElem h1] at e
  have e2 := scL_get c xs i
  rw [List.getD_eq_getElem?_getD, List.getElem?_eq_getElem h2] at e2
  simp only [Option.getD_some] at e e2
  rw [e, e2]
  have : (List.replicate n 0).getD i 0 = 0 := by rw [List.getD_eq_getElem?_getD, List.getElem?_replicate]; split <;> rfl
  rw [this, Nat.zero_xor]
theorem By.zeros (n : Nat) : By (List.replicate n 0) := fun x hx => by rw [List.eq_of_mem_replicate hx]; decide
theorem rd_blkB {w : World} {g : Nat} {l : List Nat} (h : Blk w g 5 (rowB l)) : Rd w w.heap.size (some ⟨g, 0, none⟩) l.length (cellsB l) := by
  refine ⟨cellsB_len l, fun _ => ⟨g, 0, rfl, h.lt, fun i u hu => ?_⟩⟩
  rw [Nat.zero_add, h.cell i]
  simpa [rowB] using hu

set_option maxRecDepth 100000 in
set_option maxHeartbeats 2000000 in
theorem ref_scale (c : Nat) (xs : List Nat) (B : Nat) (a : Option Addr) (n d : Nat) (w : World) (hc : c < 256) (hx : Rd w B a n (cellsB xs)) (hB : B ≤ w.heap.size) (hbx : By xs) (hn : n ≤ 1000000) :
    Calls Try.prog 55 #[.int .u8 c, .slice a n d] w fun e w' => ∃ v, e = .returned v ∧ OwnB w' w.heap.size v (scL c xs) ∧ Below w.heap.size w w' := by
  have lx := hx.len
  rw [cellsB_len] at lx
  have hmk := make_bytes hn
  have hb1 := (Below.refl w.heap.size w).alloc (Nat.le_refl _) (.cells (rowB (List.replicate n 0)) 5)
  have hr := rd_blkB (Blk.new w 5 (rowB (List.replicate n 0)))
  rw [List.length_replicate] at hr
  have cA := ref_axpy c xs (List.replicate n 0) (w.alloc (.cells (rowB (List.replicate n 0)) 5)).heap.size a (some ⟨w.heap.size, 0, none⟩) n d n (w.alloc (.cells (rowB (List.replicate n 0)) 5)) hc ((hx.below hb1 hB).more (by simp; omega)) hr (Nat.le_refl _) hbx (By.zeros n) hn
  rw [ax_zeros lx] at cA
  have hz : (w.alloc (.cells (rowB (List.replicate n 0)) 5)).heap.size = w.heap.size + 1 := by simp
  have CA := Lib.hid cA
  have HB1 := Lib.hid hb1
  have HZ := Lib.hid hz
  clear cA hr hx hbx lx hb1 hz
  go_enter Try.func55, Try.ntmps55
  go_wp2_with (simp only [hmk])
  generalize w.alloc (.cells (rowB (List.replicate n 0)) 5) = w1 at *
  refine CA.out.mono ?_
  rintro e w2 ⟨v, rfl, ho, hb⟩
  have HO := Lib.hid (ho.base (C' := w.heap.size) (by rw [HZ.out]; omega))
  have HB := Lib.hid (HB1.out.trans (hb.mono (by rw [HZ.out]; omega)))
  clear ho hb
  go_wp2_with fail
  go_ret
  exact ⟨_, rfl, HO.out, HB.out⟩

set_option maxRecDepth 100000 in
set_option maxHeartbeats 2000000 in
theorem ref_sum (xs ys : List Nat) (B : Nat) (a b : Option Addr) (n d d2 : Nat) (w : World) (hx : Rd w B a n (cellsB xs)) (hy : Rd w B b n (cellsB ys)) (hB : B ≤ w.heap.size) (hbx : By xs) (hby : By ys) (hn : n ≤ 1000000) :
    Calls Try.prog 58 #[.slice a n d, .slice b n d2] w fun e w' => ∃ v, e = .returned v ∧ OwnB w' w.heap.size v (axL 1 xs ys) ∧ Below w.heap.size w w' := by
  have CA := Lib.hid (ref_axpy 1 xs ys B a b n d d2 w (by omega) hx hy hB hbx hby hn)
  clear hx hy hbx hby
  go_enter Try.func58, Try.ntmps58
  go_wp2_with fail
  have hA : Calls Try.prog 59 #[.int .u8 1, .slice a n d, .slice b n d2] w _ := CA.out
  refine hA.mono ?_
  rintro e w2 ⟨v, rfl, ho, hb⟩
  have HO := Lib.hid ho
  have HB := Lib.hid hb
  clear ho hb
  go_wp2_with fail
  go_ret
  exact ⟨_, rfl, HO.out, HB.out⟩

/-- What two rows come to: the first k places. -/
def dotK (xs ys : List Nat) : Nat → Nat | 0 => 0 | k + 1 => dotK xs ys k ^^^ fm (xs.getD k 0) (ys.getD k 0)
theorem dotK_lt (xs ys : List Nat) (k : Nat) : dotK xs ys k < 256 := by
  induction k with
  | zero => exact (by decide : (0 : Nat) < 256)
  | succ k ih => exact xor_lt ih (fm_bd _ _)

set_option maxRecDepth 100000 in
set_option maxHeartbeats 4000000 in
theorem ref_dot (xs ys : List Nat) (B : Nat) (a b : Option Addr) (n d d2 : Nat) (w : World) (hx : Rd w B a n (cellsB xs)) (hy : Rd w B b n (cellsB ys)) (hbx : By xs) (hby : By ys) (hn : n ≤ 1000000) :
    Calls Try.prog 60 #[.slice a n d, .slice b n d2] w fun e w' => e = .returned (.int .u8 (dotK xs ys n : Nat)) ∧ ∃ j, w' = w.drewN j := by
  have HX := Lib.hid hx
  have HY := Lib.hid hy
  have HBX := Lib.hid hbx
  have HBY := Lib.hid hby
  clear hx hy hbx hby
  go_enter Try.func60, Try.ntmps60
  go_wp2_with fail
  go_loopw [5, 6, 9] (fun s _ i wr => ∃ k : Nat, k ≤ n ∧ i = .int .i64 k ∧ s = .int .u8 (dotK xs ys k : Nat) ∧ Hid (∃ j, wr = w.drewN j)) (fun _ _ i _ => n - (intOf i).toNat)
  case atStart => exact ⟨0, by omega, rfl, rfl, Lib.hid ⟨0, rfl⟩⟩
  case round =>
    obtain ⟨k, hk, rfl, rfl, HJ⟩ := hrel
    obtain ⟨j, hj⟩ := HJ.out
    clear HJ
    by_cases hlt : k < n
    · obtain ⟨bx, ox, rfl, _, hcx⟩ := HX.out.atB hlt
      obtain ⟨by', oy, rfl, _, hcy⟩ := HY.out.atB hlt
      have cx : wr.cell? ⟨bx, ox + k, none⟩ = some (.int .u8 (xs.getD k 0 : Nat)) := by rw [hj]; exact hcx k hlt
      have cy : wr.cell? ⟨by', oy + k, none⟩ = some (.int .u8 (ys.getD k 0 : Nat)) := by rw [hj]; exact hcy k hlt
      have hx1 := getD_lt HBX.out k
      have hy1 := getD_lt HBY.out k
      have hs := dotK_lt xs ys k
      have hst : dotK xs ys (k + 1) = dotK xs ys k ^^^ fm (xs.getD k 0) (ys.getD k 0) := rfl
      have HST := Lib.hid hst
      clear hst hcx hcy
      generalize xs.getD k 0 = x at *
      generalize ys.getD k 0 = y at *
      generalize dotK xs ys k = s at *
      have cM : ∀ i, Calls Try.prog 33 #[.int .u8 x, .int .u8 y] (wr.drewN i) fun e w'' => e = .returned (.int .u8 (fm x y : Nat)) ∧ w'' = wr.drewN i := fun i => (ref_mul x y hx1 hy1 _).mono fun e w' ⟨h1, h2⟩ => ⟨h1, h2.symm⟩
      have hz := fm_bd x y
      have CM := Lib.hid cM
      clear cM
      generalize fm x y = z at *
      have e1 := u8_xor_nat s z hs hz
      have hlt' : (k : Int) < (n : Int) := by omega
      have HJ := Lib.hid hj
      clear hj
      go_wp2_with fail
      go_quiet ((go_at_call 33; exact Calls.quiet_of_same (CM.out _)))
      go_wp2_with fail
      go_roundw
      case rel => first | exact ⟨k + 1, by omega, by go_num, by rw [HST.out], Lib.hid ⟨j + nq, by rw [HJ.out, World.drewN_drewN]⟩⟩ | ((repeat apply Exists.intro); exact ⟨⟨k + 1, by omega, by go_num, by rw [HST.out], Lib.hid ⟨j + nq, by rw [HJ.out, World.drewN_drewN]⟩⟩, rfl⟩)
      case measure => simp [intOf]; omega
    · obtain rfl : k = n := by omega
      go_wp2_with fail
      go_ret
      exact ⟨rfl, j, rfl⟩

set_option maxRecDepth 100000 in
set_option maxHeartbeats 2000000 in
theorem row_dot_un (p : Option Addr) (a b : Option Addr) (n m c d : Nat) (w : World) (hnm : n ≠ m) :
    Calls Try.prog 54 #[.pointer p, .slice a n c, .slice b m d] w fun e w' => e = .returned (.tuple #[.int .u8 0, .bool false]) ∧ w = w' := by
  have hne : ((n : Int) != (m : Int)) = true := by simp; omega
  go_enter Try.func54, Try.ntmps54
  go_wp2_with fail
  go_ret2
  exact ⟨rfl, rfl⟩

set_option maxRecDepth 100000 in
set_option maxHeartbeats 4000000 in
theorem row_dot (p : Option Addr) (xs ys : List Nat) (a b : Option Addr) (n d d2 : Nat) (w : World) (hF : Fp w p) (hx : Rd w w.heap.size a n (cellsB xs)) (hy : Rd w w.heap.size b n (cellsB ys)) (hbx : By xs) (hby : By ys) (hn : n ≤ 1000000) :
    Calls Try.prog 54 #[.pointer p, .slice a n d, .slice b n d2] w fun e w' => e = .returned (.tuple #[.int .u8 (dotK xs ys n : Nat), .bool true]) ∧ Below w.heap.size w w' := by
  have HX := Lib.hid hx
  have HY := Lib.hid hy
  have HBX := Lib.hid hbx
  have HBY := Lib.hid hby
  clear hx hy hbx hby
  have hnn : ((n : Int) != (n : Int)) = false := by simp
  go_enter Try.func54, Try.ntmps54
  go_wp2_with fail
  refine (row_sure p _ hF).mono ?_
  rintro e w1 ⟨gf, rfl, hfl, hb0⟩
  have HFL := Lib.hid hfl
  have HB0 := Lib.hid hb0
  clear hfl hb0
  go_wp2_with fail
  go_loopw [8, 9, 19] (fun s _ i wr => ∃ k : Nat, k ≤ n ∧ i = .int .i64 k ∧ s = .int .u8 (dotK xs ys k : Nat) ∧ Hid (∃ j, wr = w1.drewN j)) (fun _ _ i _ => n - (intOf i).toNat)
  case atStart => exact ⟨0, by omega, rfl, rfl, Lib.hid ⟨0, rfl⟩⟩
  case round =>
    obtain ⟨k, hk, rfl, rfl, HJ⟩ := hrel
    obtain ⟨j, hj⟩ := HJ.out
    clear HJ
    by_cases hlt : k < n
    · obtain ⟨bx, ox, rfl, hbx', hcx⟩ := HX.out.atB hlt
      obtain ⟨by', oy, rfl, hby', hcy⟩ := HY.out.atB hlt
      have cx : wr.cell? ⟨bx, ox + k, none⟩ = some (.int .u8 (xs.getD k 0 : Nat)) := by rw [hj]; exact (HB0.out.cell (p := ⟨bx, ox + k, none⟩) hbx').trans (hcx k hlt)
      have cy : wr.cell? ⟨by', oy + k, none⟩ = some (.int .u8 (ys.getD k 0 : Nat)) := by rw [hj]; exact (HB0.out.cell (p := ⟨by', oy + k, none⟩) hby').trans (hcy k hlt)
      have hx1 := getD_lt HBX.out k
      have hy1 := getD_lt HBY.out k
      have hs := dotK_lt xs ys k
      have hst : dotK xs ys (k + 1) = dotK xs ys k ^^^ fm (xs.getD k 0) (ys.getD k 0) := rfl
      have HST := Lib.hid hst
      have hFr : Fld wr gf := by rw [hj]; exact HFL.out
      clear hst hcx hcy
      generalize xs.getD k 0 = x at *
      generalize ys.getD k 0 = y at *
      generalize dotK xs ys k = s at *
      have cM : ∀ i, Calls Try.prog 26 #[.pointer (some ⟨gf, 0, none⟩), .int .u8 x, .int .u8 y] (wr.drewN i) fun e w'' => e = .returned (.int .u8 (fm x y : Nat)) ∧ ∃ m, w'' = (wr.drewN i).drewN m := fun i => gf_mul gf x y hx1 hy1 (wr.drewN i) hFr
      have hz := fm_bd x y
      have CM := Lib.hid cM
      clear cM hFr
      generalize fm x y = z at *
      have e1 := u8_xor_nat s z hs hz
      have hlt' : (k : Int) < (n : Int) := by omega
      have HJ := Lib.hid hj
      clear hj
      go_wp2_with fail
      go_quiet ((go_at_call 26; exact Calls.quiet_of (CM.out _)))
      go_wp2_with fail
      go_roundw
      case rel => first | exact ⟨k + 1, by omega, by go_num, by rw [HST.out], Lib.hid ⟨j + nq, by rw [HJ.out, World.drewN_drewN]⟩⟩ | ((repeat apply Exists.intro); exact ⟨⟨k + 1, by omega, by go_num, by rw [HST.out], Lib.hid ⟨j + nq, by rw [HJ.out, World.drewN_drewN]⟩⟩, rfl⟩)
      case measure => simp [intOf]; omega
    · obtain rfl : k = n := by omega
      go_wp2_with fail
      go_ret2
      exact ⟨rfl, below_drewN HB0.out j⟩
end Go.Proofs.Ytfbhbjhfebkpfaa
