/- The walks of wellspringlaw02.RowLaws, RowDots. -/
import Derived.Test.YtfbhbjhfebkpfaaRowD
namespace Go.Proofs.Ytfbhbjhfebkpfaa
open Go.RowKit
set_option linter.unusedVariables false

theorem bytes_of {zs : List Int} (h : ∀ z ∈ zs, (Lit.int .u8 z).wf = true) : ∃ xs : List Nat, zs.map (Value.int .u8) = cellsB xs ∧ By xs := by
  induction zs with
  | nil => exact ⟨[], rfl, fun x hx => by simp at hx⟩
  | cons z zs ih =>
    obtain ⟨xs, h1, h2⟩ := ih fun y hy => h y (List.mem_cons_of_mem _ hy)
    obtain ⟨p1, p2⟩ := bounds_u8 (h z (List.mem_cons_self ..))
    obtain ⟨k, rfl⟩ := Int.eq_ofNat_of_zero_le p1
    refine ⟨k :: xs, ?_, fun x hx => ?_⟩
    · rw [List.map_cons, h1]; rfl
    · rcases List.mem_cons.1 hx with rfl | hx
      · omega
      · exact h2 x hx

theorem rd_cut {w : World} {B : Nat} {a : Option Addr} {len cap : Nat} {xs : List Nat} (h : Rd w B a len (cellsB xs)) (hc : len ≤ cap) {lo n : Nat} (hn : lo + n ≤ len) :
    Rd w B (if cap = lo then a else Option.map (fun x => x.add lo) a) n (cellsB ((xs.drop lo).take n)) := by
  have hl := h.len
  rw [cellsB_len] at hl
  refine ⟨by rw [cellsB_len, List.length_take, List.length_drop]; omega, fun h0 => ?_⟩
  obtain ⟨b, o, rfl, hb, hcell⟩ := h.atB (k := lo) (by omega)
  rw [if_neg (by omega)]
  refine ⟨b, o + lo, by simp [Addr.add_lit], hb, fun i u hu => ?_⟩
  have hi : i < n := by
    have := (List.getElem?_eq_some_iff.1 hu).1
    rw [cellsB_len, List.length_take, List.length_drop] at this; omega
  have := hcell (lo + i) (by omega)
  rw [← Nat.add_assoc] at this
  rw [this]
  rw [cellsB_get (by rw [List.length_take, List.length_drop]; omega)] at hu
  rw [← hu]
  simp only [List.getD_eq_getElem?_getD, List.getElem?_take, if_pos hi, List.getElem?_drop]
theorem By.part {xs : List Nat} (h : By xs) (lo n : Nat) : By ((xs.drop lo).take n) := fun x hx => h x (List.mem_of_mem_drop (List.mem_of_mem_take hx))
theorem part_len {xs : List Nat} {lo n : Nat} (h : lo + n ≤ xs.length) : ((xs.drop lo).take n).length = n := by rw [List.length_take, List.length_drop]; omega

theorem ext_getD {a b : List Nat} (hl : a.length = b.length) (h : ∀ i, a.getD i 0 = b.getD i 0) : a = b := by
  refine List.ext_getElem hl fun i h1 h2 => ?_
  have := h i
  rw [List.getD_eq_getElem?_getD, List.getElem?_eq_getElem h1, List.getD_eq_getElem?_getD, List.getElem?_eq_getElem h2] at this
  exact this
theorem ax_comm1 {a b : List Nat} (hl : a.length = b.length) (ha : By a) (hb : By b) : axL 1 a b = axL 1 b a := by
  refine ext_getD (by rw [axL_len hl, axL_len hl.symm]; exact hl.symm) fun i => ?_
  rw [axL_get hl, axL_get hl.symm, fm_oneL _ (getD_lt ha i), fm_oneL _ (getD_lt hb i), Nat.xor_comm]
theorem ax_ax {c : Nat} {a b e : List Nat} (hc : c < 256) (h1 : a.length = b.length) (h2 : a.length = e.length) (ha : By a) (hb : By b) : axL c (axL 1 a b) e = axL c b (axL c a e) := by
  have l1 : (axL 1 a b).length = e.length := by rw [axL_len h1]; omega
  have l2 : b.length = (axL c a e).length := by rw [axL_len h2]; omega
  refine ext_getD (by rw [axL_len l1, axL_len l2, axL_len h2]) fun i => ?_
  rw [axL_get l1, axL_get l2, axL_get h1, axL_get h2, fm_oneL _ (getD_lt ha i), fm_xor hc (getD_lt hb i) (getD_lt ha i), Nat.xor_assoc, Nat.xor_comm (fm c _) (fm c _)]
theorem ax_back {a b : List Nat} (h1 : a.length = b.length) (ha : By a) (hb : By b) : axL 1 (axL 1 a b) b = a := by
  have l1 : (axL 1 a b).length = b.length := axL_len h1
  refine ext_getD (by rw [axL_len l1]; exact h1.symm) fun i => ?_
  rw [axL_get l1, axL_get h1, fm_oneL _ (getD_lt ha i), fm_oneL _ (xor_lt (getD_lt hb i) (getD_lt ha i)), ← Nat.xor_assoc, Nat.xor_self, Nat.zero_xor]
theorem sc_sc {c d : Nat} {a : List Nat} (hc : c < 256) (hd : d < 256) (ha : By a) : scL c (scL d a) = scL (fm c d) a := by
  refine ext_getD (by rw [scL_len, scL_len, scL_len]) fun i => ?_
  rw [scL_get, scL_get, scL_get, fm_assoc c d _ hc hd (getD_lt ha i)]
theorem dot_ax {c : Nat} {a b e : List Nat} (hc : c < 256) (h1 : a.length = b.length) (ha : By a) (hb : By b) (he : By e) : ∀ k, dotK (axL c a b) e k = fm c (dotK e a k) ^^^ dotK b e k
  | 0 => by show 0 = fm c 0 ^^^ 0; rw [fm_zero_right]; rfl
  | k + 1 => by
    show dotK (axL c a b) e k ^^^ fm ((axL c a b).getD k 0) (e.getD k 0) = fm c (dotK e a k ^^^ fm (e.getD k 0) (a.getD k 0)) ^^^ (dotK b e k ^^^ fm (b.getD k 0) (e.getD k 0))
    rw [dot_ax hc h1 ha hb he k, axL_get h1, fm_xor hc (dotK_lt _ _ _) (fm_bd _ _), fm_xor_left (getD_lt hb k) (fm_bd _ _) (getD_lt he k), fm_assoc c _ _ hc (getD_lt ha k) (getD_lt he k), fm_comm (a.getD k 0) (e.getD k 0)]
    generalize fm c (dotK e a k) = p; generalize dotK b e k = q; generalize fm (b.getD k 0) (e.getD k 0) = r; generalize fm c (fm (e.getD k 0) (a.getD k 0)) = s
    apply Nat.eq_of_testBit_eq
    intro i
    simp only [Nat.testBit_xor]
    cases p.testBit i <;> cases q.testBit i <;> cases r.testBit i <;> cases s.testBit i <;> rfl
theorem dot_e {n k : Nat} {a : List Nat} (hk : k < n) (ha : By a) : dotK (eRow n k) a n = a.getD k 0 := by
  have h : ∀ j, dotK (eRow n k) a j = if k < j then a.getD k 0 else 0 := by
    intro j
    induction j with
    | zero => rfl
    | succ j ih =>
      show dotK (eRow n k) a j ^^^ fm ((eRow n k).getD j 0) (a.getD j 0) = _
      rw [ih, eRow_get]
      by_cases h1 : j = k
      · subst h1
        rw [if_neg (by omega), if_pos ⟨rfl, hk⟩, if_pos (by omega), fm_oneL _ (getD_lt ha j), Nat.zero_xor]
      · rw [if_neg (show ¬ (j = k ∧ k < n) from fun h => h1 h.1), fm_zero_left, Nat.xor_zero]
        by_cases h2 : k < j
        · rw [if_pos h2, if_pos (by omega)]
        · rw [if_neg h2, if_neg (by omega)]
  rw [h, if_pos hk]
theorem same_B (xs : List Nat) (a b : Option Addr) (n c d : Nat) (w : World) (hx : Rd w w.heap.size a n (cellsB xs)) (hy : Rd w w.heap.size b n (cellsB xs)) (hn : n ≤ 1000000) :
    Calls Try.prog 49 #[.slice a n c, .slice b n d] w fun e w' => e = .returned (.bool true) ∧ ∃ j, w' = w.drewN j := by
  rw [cellsB_ints] at hx hy
  have h := same_u8 _ _ a b n n c d w hx hy (by unfold maxLen; omega) (by unfold maxLen; omega)
  rw [decide_eq_true rfl] at h
  exact h

set_option maxRecDepth 100000 in
set_option maxHeartbeats 8000000 in
theorem rowLaws_walk (w : World) (a : Option Addr) (len cap : Nat) (zs : List Int) (hr : Rd w w.heap.size a len (zs.map (Value.int .u8))) (hc : len ≤ cap ∧ cap ≤ maxLen ∧ (a = none → cap = 0)) (hz : ∀ z ∈ zs, (Lit.int .u8 z).wf = true) (c : Int) (hcb : 0 ≤ c ∧ c ≤ 255) (d : Int) (hdb : 0 ≤ d ∧ d ≤ 255) :
    Calls Try.prog 10 #[.slice a len cap, .int .u8 c, .int .u8 d] w fun e w' => e = .returned (.bool true) ∧ Below w.heap.size w w' := by
  obtain ⟨xs, hxs, hby⟩ := bytes_of hz
  rw [hxs] at hr
  obtain ⟨c, rfl⟩ := Int.eq_ofNat_of_zero_le hcb.1
  obtain ⟨d, rfl⟩ := Int.eq_ofNat_of_zero_le hdb.1
  obtain ⟨hc1, hc2, hc3⟩ := hc
  have HCB := Lib.hid hcb
  have HDB := Lib.hid hdb
  have CC := Lib.hid fun w => keep_cut a len cap 150 w hc1 hc2 (by decide) hc3
  generalize hN : Nat.min len 150 = N at *
  have hN1 : N ≤ len := by rw [← hN]; exact Nat.min_le_left _ _
  have hN2 : N ≤ 150 := by rw [← hN]; exact Nat.min_le_right _ _
  have hq : ((N : Int).tdiv 3) = ((N / 3 : Nat) : Int) := (Int.ofNat_tdiv N 3).symm
  have HS := Lib.hid ((Sx.nil w).add (eRd a len (cellsB xs)) hr)
  have hcI : (cap : Int) ≤ 9223372036854775807 := by unfold maxLen at hc2; omega
  clear hc2 hxs hz
  clear hr hN
  go_enter Try.func10, Try.ntmps10
  go_wp2_with fail
  refine (CC.out _).mono ?_
  rintro e w1 ⟨rfl, rfl⟩
  go_wp2_with fail
  refine (gf_new _).mono ?_
  rintro e w1 ⟨g, rfl, hg, hF, hb⟩
  have HS1 := Lib.hid ((HS.out.step hb).add (eFp (some ⟨g, 0, none⟩)) (.inr ⟨g, rfl, hF⟩))
  clear hb hF
  generalize hn : (N : Int) / 3 = q at *
  obtain ⟨n, rfl⟩ := Int.eq_ofNat_of_zero_le (show 0 ≤ q by omega)
  have hn3 : 3 * n ≤ N := by omega
  have hnb : n ≤ 50 := by omega
  obtain ⟨m2, hm2⟩ : ∃ m, m = 2 * n := ⟨_, rfl⟩
  obtain ⟨m3, hm3⟩ : ∃ m, m = 3 * n := ⟨_, rfl⟩
  have f1 : n ≤ cap := by omega
  have f2 : m2 ≤ cap := by omega
  have f3 : m3 ≤ cap := by omega
  have f4 : n ≤ m2 := by omega
  have f5 : m2 ≤ m3 := by omega
  have t2 : IntKind.i64.wrap (2 * (n : Int)) = (m2 : Int) := by rw [IntKind.wrap_i64] <;> omega
  have t3 : IntKind.i64.wrap (3 * (n : Int)) = (m3 : Int) := by rw [IntKind.wrap_i64] <;> omega
  have HM2 := Lib.hid hm2
  have HM3 := Lib.hid hm3
  clear hm2 hm3
  have HN := Lib.hid hn
  clear hn hq hcb hdb hc3
  go_wp2_with fail
  go_quiet (fail)
  have e1 : m2 - n = n := by have := HM2.out; omega
  have e2 : m3 - m2 = n := by have := HM2.out; have := HM3.out; omega
  have hlx : xs.length = len := by have := (HS1.out.rd 1 rfl).len; rwa [cellsB_len] at this
  have r1 := rd_cut (HS1.out.rd 1 rfl) hc1 (lo := 0) (n := n) (by omega)
  have r2 := rd_cut (HS1.out.rd 1 rfl) hc1 (lo := n) (n := n) (by omega)
  have r3 := rd_cut (HS1.out.rd 1 rfl) hc1 (lo := m2) (n := n) (by have := HM2.out; omega)
  have b1 := hby.part 0 n
  have b2 := hby.part n n
  have b3 := hby.part m2 n
  have l1 := part_len (xs := xs) (lo := 0) (n := n) (by omega)
  have l2 := part_len (xs := xs) (lo := n) (n := n) (by omega)
  have l3 := part_len (xs := xs) (lo := m2) (n := n) (by have := HM2.out; omega)
  rw [e1, e2]
  have e3 : (if cap = 0 then a else Option.map (fun x => x.add 0) a) = a := by
    split
    · rfl
    · cases a <;> simp [Addr.add]
  rw [e3] at r1
  generalize (if cap = n then a else Option.map (fun x => x.add n) a) = a2 at *
  generalize (if cap = m2 then a else Option.map (fun x => x.add m2) a) = a3 at *
  generalize (xs.drop 0).take n = xa at *
  generalize (xs.drop n).take n = xb at *
  generalize (xs.drop m2).take n = xe at *
  have S0 := Lib.hid ((((HS1.out.add (eRd a n _) r1).add (eRd a2 n _) r2).add (eRd a3 n _) r3).drewN nq)
  clear r1 r2 r3 hlx e1 e2 HM2 HM3 HS1 HS CC HN t2 t3 f1 f2 f3 f4 f5 hn3 hN1 hN2
  generalize w1.drewN nq = w2 at *
  generalize cap - n = c2 at *
  generalize cap - m2 = c3 at *
  -- [e, b, a, f, l]
  have B1 := Lib.hid b1
  have B2 := Lib.hid b2
  have B3 := Lib.hid b3
  have L1 := Lib.hid l1
  have L2 := Lib.hid l2
  have L3 := Lib.hid l3
  clear b1 b2 b3 l1 l2 l3
  have hcb : c < 256 := by have := HCB.out; omega
  have hdb : d < 256 := by have := HDB.out; omega
  have LS : Hid ((axL 1 xa xb).length = n) := Lib.hid (by have := L1.out; have := L2.out; rw [axL_len (by omega)]; omega)
  have LT : Hid ((axL 1 xb xa).length = n) := Lib.hid (by have := L1.out; have := L2.out; rw [axL_len (by omega)]; omega)
  have LU : Hid ((axL c (axL 1 xa xb) xe).length = n) := Lib.hid (by have := LS.out; have := L3.out; rw [axL_len (by omega)]; omega)
  have LV : Hid ((axL c xa xe).length = n) := Lib.hid (by have := L1.out; have := L3.out; rw [axL_len (by omega)]; omega)
  have LW : Hid ((axL c xb (axL c xa xe)).length = n) := Lib.hid (by have := L2.out; have := LV.out; rw [axL_len (by omega)]; omega)
  have LZ : Hid ((axL 1 (axL 1 xa xb) xb).length = n) := Lib.hid (by have := L2.out; have := LS.out; rw [axL_len (by omega)]; omega)
  have LP : Hid ((scL d xa).length = n) := Lib.hid (by rw [scL_len]; exact L1.out)
  have LQ : Hid ((scL c (scL d xa)).length = n) := Lib.hid (by rw [scL_len]; exact LP.out)
  have LR : Hid ((scL (fm c d) xa).length = n) := Lib.hid (by rw [scL_len]; exact L1.out)
  have E1 := Lib.hid (ax_comm1 (a := xa) (b := xb) (by have := L1.out; have := L2.out; omega) B1.out B2.out)
  have E2 := Lib.hid (ax_ax (c := c) (a := xa) (b := xb) (e := xe) hcb (by have := L1.out; have := L2.out; omega) (by have := L1.out; have := L3.out; omega) B1.out B2.out)
  have E3 := Lib.hid (ax_back (a := xa) (b := xb) (by have := L1.out; have := L2.out; omega) B1.out B2.out)
  have E4 := Lib.hid (sc_sc hcb hdb B1.out)
  go_wp2_with fail
  refine (row_sum xa xb a a2 n cap c2 w2 (S0.out.rd 2 rfl) (S0.out.rd 1 rfl) B1.out B2.out (by omega)).mono ?_
  rintro e w3 ⟨v1, rfl, ho, hb⟩
  obtain ⟨x1, y1, rfl, hr⟩ := ho.rd2 LS.out
  have S1 := Lib.hid ((S0.out.step hb).add _ hr.1)
  clear ho hb hr S0
  go_wp2_with fail
  refine (row_sum xb xa a2 a n c2 cap w3 (S1.out.rd 2 rfl) (S1.out.rd 3 rfl) B2.out B1.out (by omega)).mono ?_
  rintro e w4 ⟨v2, rfl, ho, hb⟩
  obtain ⟨x2, y2, rfl, hr⟩ := ho.rd2 LT.out
  have S2 := Lib.hid ((S1.out.step hb).add _ hr.1)
  clear ho hb hr S1
  -- [t, s, e, b, a, f, l]
  go_wp2_with fail
  refine (row_axpy _ c _ xe x1 a3 n y1 c3 w4 (S2.out.fp 5 rfl) hcb (S2.out.rd 1 rfl) (S2.out.rd 2 rfl) (By.ax B2.out) B3.out (by omega)).mono ?_
  rintro e w5 ⟨v3, rfl, ho, hb⟩
  obtain ⟨x3, y3, rfl, hr⟩ := ho.rd2 LU.out
  have S3 := Lib.hid ((S2.out.step hb).add _ hr.1)
  clear ho hb hr S2
  -- [u, t, s, e, b, a, f, l]
  go_wp2_with fail
  refine (row_axpy _ c xa xe a a3 n cap c3 w5 (S3.out.fp 6 rfl) hcb (S3.out.rd 5 rfl) (S3.out.rd 3 rfl) B1.out B3.out (by omega)).mono ?_
  rintro e w6 ⟨v4, rfl, ho, hb⟩
  obtain ⟨x4, y4, rfl, hr⟩ := ho.rd2 LV.out
  have S4 := Lib.hid ((S3.out.step hb).add _ hr.1)
  clear ho hb hr S3
  -- [v, u, t, s, e, b, a, f, l]
  go_wp2_with fail
  refine (row_axpy _ c xb _ a2 x4 n c2 y4 w6 (S4.out.fp 7 rfl) hcb (S4.out.rd 5 rfl) (S4.out.rd 0 rfl) B2.out (By.ax B3.out) (by omega)).mono ?_
  rintro e w7 ⟨v5, rfl, ho, hb⟩
  obtain ⟨x5, y5, rfl, hr⟩ := ho.rd2 LW.out
  have S5 := Lib.hid ((S4.out.step hb).add _ hr.1)
  clear ho hb hr S4
  -- [w, v, u, t, s, e, b, a, f, l]
  go_wp2_with fail
  refine (row_sum _ xb x1 a2 n y1 c2 w7 (S5.out.rd 4 rfl) (S5.out.rd 6 rfl) (By.ax B2.out) B2.out (by omega)).mono ?_
  rintro e w8 ⟨v6, rfl, ho, hb⟩
  obtain ⟨x6, y6, rfl, hr⟩ := ho.rd2 LZ.out
  have S6 := Lib.hid ((S5.out.step hb).add _ hr.1)
  clear ho hb hr S5
  -- [z, w, v, u, t, s, e, b, a, f, l]
  go_wp2_with fail
  refine (same_B (axL 1 xa xb) x1 x2 n y1 y2 w8 (S6.out.rd 5 rfl) (by rw [E1.out]; exact S6.out.rd 4 rfl) (by omega)).mono ?_
  rintro e w9 ⟨rfl, j, rfl⟩
  have S7 := Lib.hid (S6.out.drewN j)
  clear S6
  generalize w8.drewN j = w9 at *
  go_wp2_with fail
  refine (same_B (axL c (axL 1 xa xb) xe) x3 x5 n y3 y5 w9 (S7.out.rd 3 rfl) (by rw [E2.out]; exact S7.out.rd 1 rfl) (by omega)).mono ?_
  rintro e w10 ⟨rfl, j, rfl⟩
  have S8 := Lib.hid (S7.out.drewN j)
  clear S7
  generalize w9.drewN j = w10 at *
  go_wp2_with fail
  refine (same_B xa x6 a n y6 cap w10 (by have h := S8.out.rd 0 rfl; rw [E3.out] at h; exact h) (S8.out.rd 8 rfl) (by omega)).mono ?_
  rintro e w11 ⟨rfl, j, rfl⟩
  have S9 := Lib.hid (S8.out.drewN j)
  clear S8
  generalize w10.drewN j = w11 at *
  go_wp2_with fail
  refine (row_scale _ d xa a n cap w11 (S9.out.fp 9 rfl) hdb (S9.out.rd 8 rfl) B1.out (by omega)).mono ?_
  rintro e w12 ⟨v7, rfl, ho, hb⟩
  obtain ⟨x7, y7, rfl, hr⟩ := ho.rd2 LP.out
  have S10 := Lib.hid ((S9.out.step hb).add _ hr.1)
  clear ho hb hr S9
  go_wp2_with fail
  refine (row_scale _ c _ x7 n y7 w12 (S10.out.fp 10 rfl) hcb (S10.out.rd 0 rfl) (By.sc _ _) (by omega)).mono ?_
  rintro e w13 ⟨v8, rfl, ho, hb⟩
  obtain ⟨x8, y8, rfl, hr⟩ := ho.rd2 LQ.out
  have S11 := Lib.hid ((S10.out.step hb).add _ hr.1)
  clear ho hb hr S10
  go_wp2_with fail
  obtain ⟨gg, hgg, hFF⟩ : ∃ gg, (some ⟨g, 0, none⟩ : Option Addr) = some ⟨gg, 0, none⟩ ∧ Fld w13 gg := by
    rcases S11.out.fp 11 rfl with h | ⟨gg, h1, h2⟩
    · cases h
    · exact ⟨gg, h1, h2⟩
  obtain rfl : g = gg := by injection hgg with h; injection h
  refine (gf_mul g c d hcb hdb w13 hFF).mono ?_
  rintro e w14 ⟨rfl, j, rfl⟩
  have S12 := Lib.hid (S11.out.drewN j)
  clear S11 hgg hFF
  generalize w13.drewN j = w14 at *
  go_wp2_with fail
  refine (row_scale _ (fm c d) xa a n cap w14 (S12.out.fp 11 rfl) (fm_bd _ _) (S12.out.rd 10 rfl) B1.out (by omega)).mono ?_
  rintro e w15 ⟨v9, rfl, ho, hb⟩
  obtain ⟨x9, y9, rfl, hr⟩ := ho.rd2 LR.out
  have S13 := Lib.hid ((S12.out.step hb).add _ hr.1)
  clear ho hb hr S12
  go_wp2_with fail
  refine (same_B (scL c (scL d xa)) x8 x9 n y8 y9 w15 (S13.out.rd 1 rfl) (by rw [E4.out]; exact S13.out.rd 0 rfl) (by omega)).mono ?_
  rintro e w16 ⟨rfl, j, rfl⟩
  have S14 := Lib.hid (S13.out.drewN j)
  clear S13
  generalize w15.drewN j = w16 at *
  go_wp2_with fail
  refine (wakes02 w16).mono ?_
  rintro e w17 ⟨rfl, hb⟩
  have S15 := Lib.hid (S14.out.step hb)
  clear hb S14
  go_wp2_with fail
  go_ret
  exact ⟨rfl, S15.out.1⟩
end Go.Proofs.Ytfbhbjhfebkpfaa
