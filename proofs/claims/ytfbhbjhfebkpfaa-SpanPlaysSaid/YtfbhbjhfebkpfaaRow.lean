/- Contracts of the package row, and of the document's rows: Sum, Scale, Axpy. -/
import Derived.Test.YtfbhbjhfebkpfaaGfP
import Derived.Test.YtfbhbjhfebkpfaaRefB
import Derived.Test.YtfbhbjhfebkpfaaElim
import Derived.Test.YtfbhbjhfebkpfaaSpare
import Derived.StillTailTactics
namespace Go.Proofs.Ytfbhbjhfebkpfaa
open Go.RowKit
set_option linter.unusedVariables false

def cellsB (l : List Nat) : List Value := l.map fun x : Nat => Value.int .u8 x
def rowB (l : List Nat) : Array Value := (cellsB l).toArray
theorem cellsB_len (l : List Nat) : (cellsB l).length = l.length := List.length_map _
theorem cellsB_one (l : List Nat) : ∀ u ∈ cellsB l, u.oneCell' = true := by
  intro u hu
  obtain ⟨x, _, rfl⟩ := List.mem_map.1 hu
  rfl
theorem cellsB_get {l : List Nat} {i : Nat} (h : i < l.length) : (cellsB l)[i]? = some (.int .u8 (l.getD i 0 : Nat)) := by
  simp [cellsB, List.getD_eq_getElem?_getD, List.getElem?_map, List.getElem?_eq_getElem h]
theorem rowB_size (l : List Nat) : (rowB l).size = l.length := by simp [rowB, cellsB]
theorem rowB_get {l : List Nat} {i : Nat} (h : i < l.length) : (rowB l)[i]? = some (.int .u8 (l.getD i 0 : Nat)) := by
  simp only [rowB, List.getElem?_toArray]; exact cellsB_get h
theorem rowB_set (l : List Nat) (i x : Nat) : (rowB l).setIfInBounds i (.int .u8 (x : Nat)) = rowB (l.set i x) := by
  apply Array.ext'
  rw [Array.toList_setIfInBounds]
  simp [rowB, cellsB]
def By (l : List Nat) : Prop := ∀ x ∈ l, x < 256
theorem cellsB_ints (l : List Nat) : cellsB l = (l.map fun x : Nat => (x : Int)).map (Value.int .u8) := by simp [cellsB]

/-- The first k of R, noughts behind. -/
def partL (R : List Nat) (k : Nat) : List Nat := R.take k ++ List.replicate (R.length - k) 0
theorem partL_len {R : List Nat} {k : Nat} (h : k ≤ R.length) : (partL R k).length = R.length := by simp [partL]; omega
theorem partL_zero (R : List Nat) : partL R 0 = List.replicate R.length 0 := by simp [partL]
theorem partL_full (R : List Nat) : partL R R.length = R := by simp [partL]
theorem partL_set {R : List Nat} {k : Nat} (h : k < R.length) : (partL R k).set k (R.getD k 0) = partL R (k + 1) := by
  unfold partL
  rw [List.take_succ_eq_append_getElem h, show R.length - k = (R.length - (k + 1)) + 1 by omega, List.replicate_succ, List.set_append_right _ _ (by rw [List.length_take]; omega)]
  rw [List.length_take, Nat.min_eq_left (by omega), Nat.sub_self, List.set_cons_zero, List.append_assoc, List.singleton_append, List.getD_eq_getElem?_getD, List.getElem?_eq_getElem h]
  rfl
theorem partL_get {R : List Nat} {k : Nat} (h : k < R.length) : (partL R k).getD k 0 = 0 := by
  unfold partL
  rw [List.getD_eq_getElem?_getD, List.getElem?_append_right (by rw [List.length_take]; omega), List.length_take, Nat.min_eq_left (by omega), Nat.sub_self, List.getElem?_replicate, if_pos (by omega)]
  rfl
theorem made_zero (n : Nat) : madeCells #[Value.int .u8 0] n = rowB (List.replicate n 0) := by
  apply Array.ext (by rw [size_madeCells, rowB_size, List.length_replicate])
  intro i h1 h2
  simp [madeCells, rowB, cellsB, Nat.mod_one]

def OwnB (w : World) (C : Nat) (v : Value) (l : List Nat) : Prop := w.ownsRow C 5 1 v l.length (cellsB l)
theorem OwnB.nil (w : World) (C : Nat) : OwnB w C (.slice none 0 0) [] := World.ownsRow_nil _ _ _ _
theorem OwnB.base {w : World} {C C' : Nat} {v : Value} {l : List Nat} (h : OwnB w C v l) (hC : C' ≤ C) : OwnB w C' v l := own_base h hC
theorem OwnB.below {w w' : World} {C : Nat} {v : Value} {l : List Nat} (h : OwnB w C v l) (hb : Below w.heap.size w w') : OwnB w' C v l := own_new h hb
theorem OwnB.drewN {w : World} {C : Nat} {v : Value} {l : List Nat} (h : OwnB w C v l) (j : Nat) : OwnB (w.drewN j) C v l := h
theorem OwnB.rd {w : World} {C : Nat} {v : Value} {l : List Nat} (h : OwnB w C v l) : ∃ a c, v = .slice a l.length c ∧ Rd w w.heap.size a l.length (cellsB l) := rd_of_own h
theorem own_of_blk {w : World} {g C : Nat} {l : List Nat} (h : Blk w g 5 (rowB l)) (hC : C ≤ g) (hl : l.length ≤ 1000000) : OwnB w C (.slice (some ⟨g, 0, none⟩) l.length l.length) l :=
  ⟨by rw [cellsB_len]; omega, .inr ⟨g, l.length, rowB l, rfl, hC, h, Nat.le_refl _, by unfold maxLen; omega, by rw [rowB_size]; omega, by rw [Nat.mul_one]; exact List.take_of_length_le (by rw [Array.length_toList, rowB_size]; exact Nat.le_refl _)⟩⟩
theorem Rd.atB {w : World} {B : Nat} {a : Option Addr} {n : Nat} {l : List Nat} (h : Rd w B a n (cellsB l)) {k : Nat} (hk : k < n) : ∃ b o, a = some ⟨b, o, none⟩ ∧ b < B ∧ ∀ j, j < n → w.cell? ⟨b, o + j, none⟩ = some (.int .u8 (l.getD j 0 : Nat)) := by
  obtain ⟨b, o, rfl, hb, hc⟩ := h.2 (by omega)
  have hl := h.len
  rw [cellsB_len] at hl
  exact ⟨b, o, rfl, hb, fun j hj => hc j _ (cellsB_get (by omega))⟩

theorem make_bytes {n : Nat} (hn : n ≤ 1000000) (w : World) : (Instr.makeSlice 49 (.int .i64 (n : Int)) (.int .i64 (n : Int))).run Try.prog w = .ok (.slice (some ⟨w.heap.size, 0, none⟩) n n) (w.alloc (.cells (rowB (List.replicate n 0)) 5)) := by
  obtain ⟨i0, hi, hz0, hz1, hz2⟩ := info_parts infoS_u8
  have h := run_make (P := Try.prog) w 49 5 i0 (.int .u8 0) Try.underlying49 hi hz0 .i64 .i64 (n : Int) (n : Int) (by omega) (by omega) (by rw [hz2]; omega) (by omega)
  rw [hz1, Nat.mul_one, Int.toNat_natCast] at h
  rw [← made_zero]
  exact h

theorem row_sure (p : Option Addr) (w : World) (hF : Fp w p) :
    Calls Try.prog 84 #[.pointer p] w fun e w' => ∃ g, e = .returned (.pointer (some ⟨g, 0, none⟩)) ∧ Fld w' g ∧ Below w.heap.size w w' := by
  rcases hF with rfl | ⟨g, rfl, hF⟩
  · go_enter Try.func84, Try.ntmps84
    go_wp2_with fail
    refine (gf_new _).mono ?_
    rintro e w1 ⟨g, rfl, hg, hF, hb⟩
    go_wp2_with fail
    go_ret
    exact ⟨g, rfl, hF, hb⟩
  · go_enter Try.func84, Try.ntmps84
    go_wp2_with fail
    go_ret
    exact ⟨g, rfl, hF, Below.refl _ _⟩

set_option maxRecDepth 100000 in
set_option maxHeartbeats 2000000 in
theorem row_sum_un (a b : Option Addr) (n m c d : Nat) (w : World) (hnm : n ≠ m) :
    Calls Try.prog 47 #[.slice a n c, .slice b m d] w fun e w' => e = .returned (.tuple #[.slice none 0 0, .bool false]) ∧ w = w' := by
  have hne : ((n : Int) != (m : Int)) = true := by simp; omega
  go_enter Try.func47, Try.ntmps47
  go_wp2_with fail
  go_ret2
  exact ⟨rfl, rfl⟩

set_option maxRecDepth 100000 in
set_option maxHeartbeats 4000000 in
theorem row_sum (xs ys : List Nat) (a b : Option Addr) (n c d : Nat) (w : World) (hx : Rd w w.heap.size a n (cellsB xs)) (hy : Rd w w.heap.size b n (cellsB ys)) (hbx : By xs) (hby : By ys) (hn : n ≤ 1000000) :
    Calls Try.prog 47 #[.slice a n c, .slice b n d] w fun e w' => ∃ v, e = .returned (.tuple #[v, .bool true]) ∧ OwnB w' w.heap.size v (axL 1 xs ys) ∧ Below w.heap.size w w' := by
  have lx := hx.len
  have ly := hy.len
  rw [cellsB_len] at lx ly
  have hRl : (axL 1 xs ys).length = n := by rw [axL_len (by omega)]; exact ly
  have HRG : Hid (∀ k, (axL 1 xs ys).getD k 0 = xs.getD k 0 ^^^ ys.getD k 0) := Lib.hid fun k => by
    rw [axL_get (by omega), fm_oneL _ (getD_lt hbx k), Nat.xor_comm]
  have hmk := make_bytes hn
  have HX := Lib.hid hx
  have HY := Lib.hid hy
  have HBX := Lib.hid hbx
  have HBY := Lib.hid hby
  have HRL := Lib.hid hRl
  clear hx hy hbx hby lx ly hRl
  generalize axL 1 xs ys = R at *
  have hnn : ((n : Int) != (n : Int)) = false := by simp
  go_enter Try.func47, Try.ntmps47
  go_wp2_with (simp only [hmk])
  have hB1 := Blk.new w 5 (rowB (List.replicate n 0))
  have hb1 := (Below.refl w.heap.size w).alloc (Nat.le_refl _) (.cells (rowB (List.replicate n 0)) 5)
  have HB : Hid (Blk (w.alloc (.cells (rowB (List.replicate n 0)) 5)) w.heap.size 5 (rowB (partL R 0))) := Lib.hid (by rw [partL_zero, HRL.out]; exact hB1)
  have HBL := Lib.hid hb1
  clear hB1 hb1 hmk
  generalize w.alloc (.cells (rowB (List.replicate n 0)) 5) = w1 at *
  generalize hG : w.heap.size = G at *
  have HG := Lib.hid hG
  clear hG
  go_loopw [7, 18] (fun _ i wr => ∃ k : Nat, k ≤ n ∧ i = .int .i64 k ∧ Hid (Blk wr G 5 (rowB (partL R k))) ∧ Hid (Below G w wr)) (fun _ i _ => n - (intOf i).toNat)
  case atStart => exact ⟨0, by omega, rfl, HB, HBL⟩
  case round =>
    clear HB HBL
    obtain ⟨k, hk, rfl, HB, HBL⟩ := hrel
    by_cases hlt : k < n
    · obtain ⟨bx, ox, rfl, hbx, hcx⟩ := HX.out.atB hlt
      obtain ⟨by', oy, rfl, hby, hcy⟩ := HY.out.atB hlt
      have cx := (HBL.out.cell (p := ⟨bx, ox + k, none⟩) hbx).trans (hcx k hlt)
      have cy := (HBL.out.cell (p := ⟨by', oy + k, none⟩) hby).trans (hcy k hlt)
      have hx1 := getD_lt HBX.out k
      have hy1 := getD_lt HBY.out k
      have hrg := HRG.out k
      have hkR : k < R.length := by rw [HRL.out]; exact hlt
      have hset := HB.out.set k (.int .u8 (R.getD k 0 : Nat))
      rw [rowB_set, partL_set hkR] at hset
      have co := (HB.out.cell k).trans (rowB_get (by rw [partL_len (by omega)]; exact hkR))
      rw [partL_get hkR] at co
      have fo := HB.out.frozen k
      rw [hrg] at hset
      generalize xs.getD k 0 = x at *
      generalize ys.getD k 0 = y at *
      have e1 := u8_xor_nat x y hx1 hy1
      have HS := Lib.hid hset
      clear hset hrg hcx hcy
      generalize x ^^^ y = z at *
      have hlt' : (k : Int) < (n : Int) := by omega
      go_wp2_with fail
      go_still_tail 12, (by kernel_rfl)
      change wpList _ _ _ _ _ wr.drew
      have co2 : wr.drew.cell? ⟨G, k, none⟩ = some (.int .u8 0) := co
      have fo2 : wr.drew.frozen? ⟨G, k, none⟩ = false := fo
      have HS2 : Hid (Blk (wr.drew.setCell ⟨G, k, none⟩ (.int .u8 (z : Nat))) G 5 (rowB (partL R (k + 1)))) := Lib.hid HS.out
      have HB2 : Hid (Below G w (wr.drew.setCell ⟨G, k, none⟩ (.int .u8 (z : Nat)))) := Lib.hid ((Below.drew HBL.out).setCell (Nat.le_refl _) _)
      clear HS HBL HB cx cy co fo
      generalize wr.drew = w3 at *
      go_wp2_with fail
      go_roundw
      case rel => first | exact ⟨k + 1, by omega, by go_num, HS2, HB2⟩ | ((repeat apply Exists.intro); exact ⟨⟨k + 1, by omega, by go_num, HS2, HB2⟩, rfl⟩)
      case measure => simp [intOf]; omega
    · obtain rfl : k = n := by omega
      have hf : partL R k = R := by rw [← HRL.out]; exact partL_full R
      rw [hf] at HB
      have ho := own_of_blk HB.out (C := G) (Nat.le_refl _) (by rw [HRL.out]; exact hn)
      rw [HRL.out] at ho
      have HO := Lib.hid ho
      clear ho hf HB
      go_wp2_with fail
      go_ret2
      exact ⟨_, rfl, by rw [HG.out]; exact HO.out, by rw [HG.out]; exact HBL.out⟩

set_option maxRecDepth 100000 in
set_option maxHeartbeats 4000000 in
theorem row_scale (p : Option Addr) (c : Nat) (xs : List Nat) (a : Option Addr) (n d : Nat) (w : World) (hF : Fp w p) (hc : c < 256) (hx : Rd w w.heap.size a n (cellsB xs)) (hbx : By xs) (hn : n ≤ 1000000) :
    Calls Try.prog 50 #[.pointer p, .int .u8 c, .slice a n d] w fun e w' => ∃ v, e = .returned v ∧ OwnB w' w.heap.size v (scL c xs) ∧ Below w.heap.size w w' := by
  have lx := hx.len
  rw [cellsB_len] at lx
  have hRl : (scL c xs).length = n := by rw [scL, List.length_map]; exact lx
  have HRG : Hid (∀ k, (scL c xs).getD k 0 = fm c (xs.getD k 0)) := Lib.hid fun k => scL_get c xs k
  have hmk := make_bytes hn
  have HX := Lib.hid hx
  have HBX := Lib.hid hbx
  have HRL := Lib.hid hRl
  clear hx hbx lx hRl
  generalize scL c xs = R at *
  go_enter Try.func50, Try.ntmps50
  go_wp2_with fail
  refine (row_sure p _ hF).mono ?_
  rintro e w1 ⟨gf, rfl, hfl, hb0⟩
  have HFL := Lib.hid hfl
  have hfz := Blk.lt hfl
  go_wp2_with (simp only [hmk])
  have hG1 : w.heap.size ≤ w1.heap.size := hb0.size
  have hB1 := Blk.new w1 5 (rowB (List.replicate n 0))
  have HB : Hid (Blk (w1.alloc (.cells (rowB (List.replicate n 0)) 5)) w1.heap.size 5 (rowB (partL R 0))) := Lib.hid (by rw [partL_zero, HRL.out]; exact hB1)
  have HBL := Lib.hid (hb0.alloc hG1 (.cells (rowB (List.replicate n 0)) 5))
  have HF2 := Lib.hid (HFL.out.below ((Below.refl w1.heap.size w1).alloc (Nat.le_refl _) (.cells (rowB (List.replicate n 0)) 5)) hfz)
  clear hB1 hmk hfl HFL hb0
  generalize w1.alloc (.cells (rowB (List.replicate n 0)) 5) = w2 at *
  generalize hG : w.heap.size = G at *
  have HG := Lib.hid hG
  clear hG
  generalize w1.heap.size = g at *
  go_loopw [8, 9, 17] (fun _ _ i wr => ∃ k : Nat, k ≤ n ∧ i = .int .i64 k ∧ Hid (Blk wr g 5 (rowB (partL R k))) ∧ Hid (Fld wr gf) ∧ Hid (Below G w wr)) (fun _ _ i _ => n - (intOf i).toNat)
  case atStart => exact ⟨0, by omega, rfl, HB, HF2, HBL⟩
  case round =>
    clear HB HBL HF2
    obtain ⟨k, hk, rfl, HB, HF2, HBL⟩ := hrel
    by_cases hlt : k < n
    · obtain ⟨bx, ox, rfl, hbx, hcx⟩ := HX.out.atB hlt
      have cx := (HBL.out.cell (p := ⟨bx, ox + k, none⟩) (by have := HG.out; omega)).trans (hcx k hlt)
      have hx1 := getD_lt HBX.out k
      have hrg := HRG.out k
      have hkR : k < R.length := by rw [HRL.out]; exact hlt
      have hset := HB.out.set k (.int .u8 (R.getD k 0 : Nat))
      rw [rowB_set, partL_set hkR] at hset
      have co := (HB.out.cell k).trans (rowB_get (by rw [partL_len (by omega)]; exact hkR))
      rw [partL_get hkR] at co
      have fo := HB.out.frozen k
      rw [hrg] at hset
      generalize xs.getD k 0 = x at *
      have CM := Lib.hid (gf_mul gf c x hc hx1 wr HF2.out)
      have HS := Lib.hid hset
      clear hset hrg hcx
      generalize fm c x = z at *
      have hlt' : (k : Int) < (n : Int) := by omega
      go_wp2_with fail
      refine CM.out.mono ?_
      rintro e w3 ⟨rfl, j, rfl⟩
      have co2 : (wr.drewN j).cell? ⟨g, k, none⟩ = some (.int .u8 0) := co
      have fo2 : (wr.drewN j).frozen? ⟨g, k, none⟩ = false := fo
      have HS2 : Hid (Blk ((wr.drewN j).setCell ⟨g, k, none⟩ (.int .u8 (z : Nat))) g 5 (rowB (partL R (k + 1)))) := Lib.hid HS.out
      have HB2 : Hid (Below G w ((wr.drewN j).setCell ⟨g, k, none⟩ (.int .u8 (z : Nat)))) := Lib.hid ((below_drewN HBL.out j).setCell hG1 _)
      have HF3 : Hid (Fld ((wr.drewN j).setCell ⟨g, k, none⟩ (.int .u8 (z : Nat))) gf) := Lib.hid (Blk.far (w := wr.drewN j) HF2.out (by simp; omega) _)
      clear HS HBL HB cx co fo CM HF2
      generalize wr.drewN j = w4 at *
      go_wp2_with fail
      go_roundw
      case rel => first | exact ⟨k + 1, by omega, by go_num, HS2, HF3, HB2⟩ | ((repeat apply Exists.intro); exact ⟨⟨k + 1, by omega, by go_num, HS2, HF3, HB2⟩, rfl⟩)
      case measure => simp [intOf]; omega
    · obtain rfl : k = n := by omega
      have hf : partL R k = R := by rw [← HRL.out]; exact partL_full R
      rw [hf] at HB
      have ho := own_of_blk HB.out (C := G) hG1 (by rw [HRL.out]; exact hn)
      rw [HRL.out] at ho
      have HO := Lib.hid ho
      clear ho hf HB
      go_wp2_with fail
      go_ret
      exact ⟨_, rfl, by rw [HG.out]; exact HO.out, by rw [HG.out]; exact HBL.out⟩

theorem By.sc (c : Nat) (xs : List Nat) : By (scL c xs) := by
  intro x hx
  obtain ⟨y, _, rfl⟩ := List.mem_map.1 hx
  exact fm_bd _ _
theorem By.ax {c : Nat} {a b : List Nat} (h : By b) : By (axL c a b) := axL_byt h
theorem scL_len (c : Nat) (xs : List Nat) : (scL c xs).length = xs.length := List.length_map _
theorem ax_sc {c : Nat} {a b : List Nat} (hl : a.length = b.length) : axL 1 (scL c a) b = axL c a b := by
  refine List.ext_getElem? fun i => ?_
  unfold axL scL
  rw [List.getElem?_zipWith, List.getElem?_zipWith, List.getElem?_map]
  cases a[i]? with
  | none => rfl
  | some x => cases b[i]? with
    | none => rfl
    | some y => simp only [Option.map_some]; rw [fm_oneL _ (fm_bd _ _)]

set_option maxRecDepth 100000 in
set_option maxHeartbeats 2000000 in
theorem row_axpy (p : Option Addr) (c : Nat) (xs ys : List Nat) (a b : Option Addr) (n d d2 : Nat) (w : World) (hF : Fp w p) (hc : c < 256) (hx : Rd w w.heap.size a n (cellsB xs)) (hy : Rd w w.heap.size b n (cellsB ys)) (hbx : By xs) (hby : By ys) (hn : n ≤ 1000000) :
    Calls Try.prog 48 #[.pointer p, .int .u8 c, .slice a n d, .slice b n d2] w fun e w' => ∃ v, e = .returned (.tuple #[v, .bool true]) ∧ OwnB w' w.heap.size v (axL c xs ys) ∧ Below w.heap.size w w' := by
  have lx := hx.len
  have ly := hy.len
  rw [cellsB_len] at lx ly
  have HAX := Lib.hid (ax_sc (c := c) (a := xs) (b := ys) (by omega))
  have HSL : Hid ((scL c xs).length = n) := Lib.hid (by rw [scL_len]; exact lx)
  have cS := row_scale p c xs a n d w hF hc hx hbx hn
  have HY := Lib.hid hy
  have HBY := Lib.hid hby
  have HSB := Lib.hid (By.sc c xs)
  clear hx hy hbx hby lx ly
  generalize scL c xs = S at *
  have CS := Lib.hid cS
  clear cS
  go_enter Try.func48, Try.ntmps48
  go_wp2_with fail
  refine CS.out.mono ?_
  rintro e w1 ⟨v, rfl, ho, hb⟩
  obtain ⟨aS, cS', rfl, hrs⟩ := ho.rd
  rw [HSL.out] at hrs ⊢
  have hY1 := (HY.out.below hb (Nat.le_refl _)).more hb.size
  have CU := Lib.hid (row_sum S ys aS b n cS' d2 w1 hrs hY1 HSB.out HBY.out hn)
  have HB := Lib.hid hb
  clear hrs hY1 hb ho CS
  go_wp2_with fail
  refine CU.out.mono ?_
  rintro e w2 ⟨v2, rfl, ho2, hb2⟩
  rw [HAX.out] at ho2
  have HO := Lib.hid (ho2.base HB.out.size)
  have HB2 := Lib.hid (HB.out.trans (hb2.mono HB.out.size))
  clear ho2 hb2
  go_wp2_with fail
  go_ret2
  exact ⟨_, rfl, HO.out, HB2.out⟩
set_option maxRecDepth 100000 in
set_option maxHeartbeats 2000000 in
theorem row_axpy_un (p : Option Addr) (c : Nat) (xs : List Nat) (a b : Option Addr) (n m d d2 : Nat) (w : World) (hF : Fp w p) (hc : c < 256) (hx : Rd w w.heap.size a n (cellsB xs)) (hbx : By xs) (hn : n ≤ 1000000) (hnm : n ≠ m) :
    Calls Try.prog 48 #[.pointer p, .int .u8 c, .slice a n d, .slice b m d2] w fun e w' => e = .returned (.tuple #[.slice none 0 0, .bool false]) ∧ Below w.heap.size w w' := by
  have lx := hx.len
  rw [cellsB_len] at lx
  have HSL : Hid ((scL c xs).length = n) := Lib.hid (by rw [scL_len]; exact lx)
  have cS := row_scale p c xs a n d w hF hc hx hbx hn
  clear hx hbx lx
  generalize scL c xs = S at *
  have CS := Lib.hid cS
  clear cS
  go_enter Try.func48, Try.ntmps48
  go_wp2_with fail
  refine CS.out.mono ?_
  rintro e w1 ⟨v, rfl, ho, hb⟩
  obtain ⟨aS, cS', rfl, hrs⟩ := ho.rd
  rw [HSL.out]
  have CU := Lib.hid (row_sum_un aS b n m cS' d2 w1 hnm)
  have HB := Lib.hid hb
  clear hrs hb ho CS
  go_wp2_with fail
  refine CU.out.mono ?_
  rintro e w2 ⟨rfl, rfl⟩
  go_wp2_with fail
  go_ret2
  exact ⟨rfl, HB.out⟩
end Go.Proofs.Ytfbhbjhfebkpfaa
