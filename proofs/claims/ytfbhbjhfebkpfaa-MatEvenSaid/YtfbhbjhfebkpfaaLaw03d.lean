/- law03: rows of one length, side by side with others of as many (MatEven). -/
import Derived.Test.YtfbhbjhfebkpfaaRefS
import Derived.Test.YtfbhbjhfebkpfaaMatG
import Derived.Test.YtfbhbjhfebkpfaaLaw03a
namespace Go.Proofs.Ytfbhbjhfebkpfaa
open Go.RowKit
set_option linter.unusedVariables false

def scN (n : Nat) (A B : List (List Nat)) : Nat := if A.length = 0 then 1 else solC n A B
def srN (n : Nat) (A B : List (List Nat)) : List (List Nat) := if A.length = 0 then [] else solR n A B
theorem srN_wf {n k : Nat} {A B : List (List Nat)} (hA : Wf n A) (hB : Wf k B) (hl : A.length = B.length) : Wf k (srN n A B) ∧ (srN n A B).length ≤ A.length := by
  unfold srN
  split
  · exact ⟨fun r hr => by simp at hr, by simp⟩
  · unfold solR
    split
    · obtain ⟨ls, hI⟩ := redF_inv (sideM_wf hl hA hB) n
      refine ⟨map_drop_wf (n := n) (fun x hx => hI.wf x (List.mem_of_mem_take hx)), ?_⟩
      rw [List.length_map, List.length_take, redF_len, sideM_len hl]
      omega
    · exact ⟨fun r hr => by simp at hr, by simp⟩

theorem mat_solve_any (p : Option Addr) (n k m c d : Nat) (A B : List (List Nat)) (a b : Option Addr) (w : World) (hF : Fp w p) (hA : RdM w w.heap.size a m A) (hB : RdM w w.heap.size b m B) (hWA : Wf n A) (hWB : Wf k B) (hn : n ≤ 64) (hk : k ≤ 64) (hm : m ≤ 1000000) :
    Calls Try.prog 68 #[.pointer p, .slice a m c, .slice b m d] w fun e w' => ∃ v, e = .returned (.tuple #[v, .int .i64 (scN n A B : Nat)]) ∧ MOwn w' w.heap.size v (srN n A B) ∧ Below w.heap.size w w' := by
  unfold scN srN
  rcases Nat.eq_zero_or_pos m with h0 | h0
  · have hl : A.length = 0 := by rw [hA.len]; exact h0
    rw [if_pos hl, if_pos hl]
    refine (mat_Solve_arg p n k m m c d A B a b w hA hB hWA hWB hn hk hm hm (.inr h0)).mono ?_
    rintro e w' ⟨rfl, rfl⟩
    exact ⟨_, rfl, MOwn.nil _ _, Below.refl _ _⟩
  · have hl : ¬ A.length = 0 := by rw [hA.len]; omega
    rw [if_neg hl, if_neg hl]
    exact mat_Solve p n k m c d A B a b w hF hA hB hWA hWB hn hk hm h0
theorem ref_solve_any (n k m c d : Nat) (A B : List (List Nat)) (a b : Option Addr) (w : World) (hA : RdM w w.heap.size a m A) (hB : RdM w w.heap.size b m B) (hWA : Wf n A) (hWB : Wf k B) (hn : n ≤ 64) (hk : k ≤ 64) (hm : m ≤ 1000000) :
    Calls Try.prog 69 #[.slice a m c, .slice b m d] w fun e w' => ∃ v, e = .returned (.tuple #[v, .int .i64 (scN n A B : Nat)]) ∧ MOwn w' w.heap.size v (srN n A B) ∧ Below w.heap.size w w' := by
  unfold scN srN
  rcases Nat.eq_zero_or_pos m with h0 | h0
  · have hl : A.length = 0 := by rw [hA.len]; exact h0
    rw [if_pos hl, if_pos hl]
    refine (ref_solve_arg m m c d n k A B a b w hA hB hWA hWB hn hk hm hm (.inr h0)).mono ?_
    rintro e w' ⟨rfl, hb⟩
    exact ⟨_, rfl, MOwn.nil _ _, hb⟩
  · have hl : ¬ A.length = 0 := by rw [hA.len]; omega
    rw [if_neg hl, if_neg hl]
    exact ref_solve n k m c d A B a b w hA hB hWA hWB hn hk hm h0

set_option maxRecDepth 100000 in
set_option maxHeartbeats 8000000 in
theorem matEven_walk (w : World) (a : Option Addr) (len cap : Nat) (zs : List Int) (hr : Rd w w.heap.size a len (zs.map (Value.int .u8))) (hc : len ≤ cap ∧ cap ≤ maxLen ∧ (a = none → cap = 0)) (hz : ∀ z ∈ zs, (Lit.int .u8 z).wf = true)
    (b : Option Addr) (len2 cap2 : Nat) (zs2 : List Int) (hr2 : Rd w w.heap.size b len2 (zs2.map (Value.int .u8))) (hd : len2 ≤ cap2 ∧ cap2 ≤ maxLen ∧ (b = none → cap2 = 0)) (hz2 : ∀ z ∈ zs2, (Lit.int .u8 z).wf = true) (n0 : Int) (hn0 : -9223372036854775808 ≤ n0 ∧ n0 ≤ 9223372036854775807) (k0 : Int) (hk0 : -9223372036854775808 ≤ k0 ∧ k0 ≤ 9223372036854775807) (nt : Bool) :
    Calls Try.prog 16 #[.slice a len cap, .slice b len2 cap2, .int .i64 n0, .int .i64 k0, .bool nt] w fun e w' => e = .returned (.bool true) ∧ Below w.heap.size w w' := by
  obtain ⟨xs, hxs, hby⟩ := bytes_of hz
  obtain ⟨ys, hys, hby2⟩ := bytes_of hz2
  rw [hxs] at hr
  rw [hys] at hr2
  obtain ⟨hc1, hc2, hc3⟩ := hc
  obtain ⟨hd1, hd2, hd3⟩ := hd
  have CW := Lib.hid (keep_within n0 12 w hn0 (by omega) (by omega))
  have CW2 := Lib.hid fun w => keep_within k0 4 w hk0 (by omega) (by omega)
  have CC := Lib.hid fun w => keep_cut a len cap 140 w hc1 hc2 (by decide) hc3
  have CC2 := Lib.hid fun w => keep_cut b len2 cap2 60 w hd1 hd2 (by decide) hd3
  have hq1 : 0 ≤ n0 % 12 := Int.emod_nonneg _ (by omega)
  have hq2 : n0 % 12 < 12 := Int.emod_lt_of_pos _ (by omega)
  have hp1 : 0 ≤ k0 % 4 := Int.emod_nonneg _ (by omega)
  have hp2 : k0 % 4 < 4 := Int.emod_lt_of_pos _ (by omega)
  generalize n0 % 12 = q at *
  generalize k0 % 4 = p at *
  obtain ⟨n1, rfl⟩ := Int.eq_ofNat_of_zero_le hq1
  obtain ⟨k1, rfl⟩ := Int.eq_ofNat_of_zero_le hp1
  obtain ⟨n, hn⟩ : ∃ n, n = 1 + n1 := ⟨_, rfl⟩
  obtain ⟨k, hk⟩ : ∃ k, k = 1 + k1 := ⟨_, rfl⟩
  have hnI : (1 : Int) + (n1 : Int) = (n : Int) := by omega
  have hkI : (1 : Int) + (k1 : Int) = (k : Int) := by omega
  have hn1 : 1 ≤ n := by omega
  have hn2 : n ≤ 12 := by omega
  have hk1 : 1 ≤ k := by omega
  have hk2 : k ≤ 4 := by omega
  have HR := Lib.hid (rd_cut0 hr (n := Nat.min len 140) (Nat.min_le_left _ _))
  have HR2 := Lib.hid (rd_cut0 hr2 (n := Nat.min len2 60) (Nat.min_le_left _ _))
  have hm1 : Nat.min len 140 ≤ cap := Nat.le_trans (Nat.min_le_left _ _) hc1
  have hN60 : Nat.min len2 60 ≤ 60 := Nat.min_le_right _ _
  have hby3 : By (xs.take (Nat.min len 140)) := fun x hx => hby x (List.mem_of_mem_take hx)
  have hby4 : By (ys.take (Nat.min len2 60)) := fun x hx => hby2 x (List.mem_of_mem_take hx)
  generalize Nat.min len 140 = N at *
  generalize xs.take N = xa at *
  generalize Nat.min len2 60 = N2 at *
  generalize ys.take N2 = xb at *
  have CE := Lib.hid (law_even n xa _ a N cap w HR.out (Nat.le_refl _) ⟨hm1, hc2, hc3⟩ hn1 (by omega))
  have HAW := Lib.hid (evenL_wf (n := n) 14 xa hby3)
  have HAL := Lib.hid (evenL_len (n := n) 14 xa)
  have HBY := Lib.hid hby4
  generalize evenL n 14 xa = A at *
  have HN := Lib.hid hn
  have HK := Lib.hid hk
  clear hr hr2 hc1 hc2 hc3 hd1 hd2 hd3 hq1 hq2 hp1 hp2 hn hk HR hm1 hby hby2 hby3 hby4 hxs hys hz hz2 hn0 hk0
  go_enter Try.func16, Try.ntmps16
  go_wp2_with fail
  refine (CC.out _).mono ?_
  rintro e w1 ⟨rfl, rfl⟩
  go_wp2_with fail
  refine (CC2.out _).mono ?_
  rintro e w1 ⟨rfl, rfl⟩
  go_wp2_with fail
  refine CW.out.mono ?_
  rintro e w1 ⟨rfl, rfl⟩
  go_wp2_with fail
  refine CE.out.mono ?_
  rintro e w1 ⟨v, rfl, hE, hb⟩
  obtain ⟨L, hL⟩ : ∃ L, A.length = L := ⟨_, rfl⟩
  have hL14 : L ≤ 14 := by rw [← hL]; exact HAL.out
  obtain ⟨aA, cA, rfl, hA, hnA, hcA, hmA⟩ := hE.rdM2 hL
  have HB1 := Lib.hid hb
  have HA1 := Lib.hid hA
  have HL := Lib.hid hL
  have hC0 : w.heap.size ≤ w1.heap.size := hb.size
  clear hE hb hA CW CC CC2 CE hnA hmA hL HAL
  go_wp2_with fail
  refine (CW2.out _).mono ?_
  rintro e w2 ⟨rfl, rfl⟩
  clear CW2
  generalize hC : w1.heap.size = C at *
  have HC := Lib.hid hC
  clear hC
  have HM0 : Hid (∃ Bm, MOwn w1 C (.slice none 0 0) Bm ∧ Wf k Bm ∧ Bm.length = 0) := Lib.hid ⟨[], MOwn.nil _ _, fun r hr => by simp at hr, rfl⟩
  have HBW0 : Hid (Below C w1 w1) := Lib.hid (Below.refl _ _)
  go_wp2_with fail
  go_loopw [12, 37] (fun v i wr => ∃ r : Nat, r ≤ L ∧ i = .int .i64 r ∧ Hid (∃ Bm, MOwn wr C v Bm ∧ Wf k Bm ∧ Bm.length = r) ∧ Hid (Below C w1 wr)) (fun _ i _ => L - (intOf i).toNat)
  case atStart => exact ⟨0, by omega, rfl, HM0, HBW0⟩
  case round =>
    clear HM0 HBW0
    obtain ⟨r, hr, rfl, HM, HB⟩ := hrel
    rename World => wo
    have hCr : C ≤ wo.heap.size := by have := HB.out.size; have := HC.out; omega
    by_cases hrL : r < L
    · have hrLI : (r : Int) < (L : Int) := by omega
      obtain ⟨x, hx⟩ : ∃ x, r * k = x := ⟨_, rfl⟩
      have hx2 : x ≤ 56 := by rw [← hx]; exact Nat.mul_le_mul (show r ≤ 14 by omega) hk2
      have hxI : (r : Int) * (k : Int) = (x : Int) := by rw [← hx]; simp
      have hxw : IntKind.i64.wrap (x : Int) = (x : Int) := by rw [IntKind.wrap_i64]; omega
      have hmk := make_bytes (n := k) (by omega)
      clear hx
      go_wp2_with (simp only [hmk])
      have hO0 : OwnB (wo.alloc (.cells (rowB (List.replicate k 0)) 5)) wo.heap.size (.slice (some ⟨wo.heap.size, 0, none⟩) k k) (List.replicate k 0) := by
        have := own_of_blk (l := List.replicate k 0) (Blk.new wo 5 (rowB (List.replicate k 0))) (Nat.le_refl _) (by rw [List.length_replicate]; omega)
        rwa [List.length_replicate] at this
      have HO0 : Hid (∃ l, OwnB (wo.alloc (.cells (rowB (List.replicate k 0)) 5)) wo.heap.size (.slice (some ⟨wo.heap.size, 0, none⟩) k k) l ∧ l.length = k ∧ By l) := Lib.hid ⟨_, hO0, by rw [List.length_replicate], By.zeros _⟩
      have HBD0 := Lib.hid ((Below.refl wo.heap.size wo).alloc (Nat.le_refl _) (.cells (rowB (List.replicate k 0)) 5))
      clear hO0 hmk
      generalize wo.alloc (.cells (rowB (List.replicate k 0)) 5) = w3 at *
      generalize hD : wo.heap.size = D at *
      have HD := Lib.hid hD
      clear hD
      go_wp2_with fail
      go_loopw [44] (fun i wq => ∃ j : Nat, j ≤ k ∧ i = .int .i64 j ∧ Hid (∃ l, OwnB wq D (.slice (some ⟨D, 0, none⟩) k k) l ∧ l.length = k ∧ By l) ∧ Hid (Below D wo wq)) (fun i _ => k - (intOf i).toNat)
      case atStart => exact ⟨0, by omega, rfl, HO0, HBD0⟩
      case round =>
        clear HO0 HBD0
        obtain ⟨j, hj, rfl, HO, HBD⟩ := hrel
        by_cases hjk : j < k
        · have hjkI : (j : Int) < (k : Int) := by omega
          obtain ⟨y, hy⟩ : ∃ y, x + j = y := ⟨_, rfl⟩
          have hyI : (x : Int) + (j : Int) = (y : Int) := by omega
          have hyw : IntKind.i64.wrap (y : Int) = (y : Int) := by rw [IntKind.wrap_i64]; omega
          clear hy
          by_cases hst : y < N2 ∧ nt = false
          · obtain ⟨hy2, rfl⟩ := hst
            have hy2I : (y : Int) < (N2 : Int) := by omega
            obtain ⟨l, hO, hl, hlb⟩ := HO.out
            obtain ⟨bx, ox, rfl, hbx, hcc⟩ := HR2.out.atB hy2
            have c0 := hcc y hy2
            have c1 := (HB1.out.cell (p := ⟨bx, ox + y, none⟩) hbx).trans c0
            have c2 := (HB.out.cell (p := ⟨bx, ox + y, none⟩) (by show bx < C; omega)).trans c1
            have c3 := (HBD.out.cell (p := ⟨bx, ox + y, none⟩) (by show bx < D; have := HD.out; omega)).trans c2
            obtain ⟨cc, cf⟩ := OwnB.cell hO hl (k := j) hjk
            have hzb := getD_lt HBY.out y
            clear hcc c0 c1 c2
            generalize xb.getD y 0 = z at *
            have hS := OwnB.stored hO hl j z
            have HO5 : Hid (∃ l, OwnB (wr.setCell ⟨D, j, none⟩ (.int .u8 (z : Nat))) D (.slice (some ⟨D, 0, none⟩) k k) l ∧ l.length = k ∧ By l) := Lib.hid ⟨_, hS.1, by rw [List.length_set]; exact hl, fun u hu => by
              rcases List.mem_or_eq_of_mem_set hu with h | h
              · exact hlb u h
              · rw [h]; exact hzb⟩
            have HB5 : Hid (Below D wo (wr.setCell ⟨D, j, none⟩ (.int .u8 (z : Nat)))) := Lib.hid (Below.setCell HBD.out (p := ⟨D, j, none⟩) (Nat.le_refl _) _)
            clear hS HO HBD hO hl hlb
            go_wp2_with fail
            clear cc cf c3
            generalize wr.setCell ⟨D, j, none⟩ (.int .u8 (z : Nat)) = w5 at *
            go_wp2_with fail
            go_roundw
            case rel => first | exact ⟨j + 1, by omega, by go_num, HO5, HB5⟩ | ((repeat apply Exists.intro); exact ⟨⟨j + 1, by omega, by go_num, HO5, HB5⟩, rfl⟩)
            case measure => simp [intOf]; omega
          · have hcase : ¬ (y : Int) < (N2 : Int) ∨ ((y : Int) < (N2 : Int) ∧ nt = true) := by
              by_cases h : y < N2
              · right
                refine ⟨by omega, ?_⟩
                cases nt with
                | false => exact absurd ⟨h, rfl⟩ hst
                | true => rfl
              · left; omega
            clear hst
            rcases hcase with h1 | ⟨h1, rfl⟩
            all_goals (
              go_wp2_with fail
              go_roundw
              case rel => first | exact ⟨j + 1, by omega, by go_num, HO, HBD⟩ | ((repeat apply Exists.intro); exact ⟨⟨j + 1, by omega, by go_num, HO, HBD⟩, rfl⟩)
              case measure => simp [intOf]; omega)
        · obtain rfl : j = k := by omega
          obtain ⟨l, hO, hl, hlb⟩ := HO.out
          obtain ⟨Bm, hM, hW, hBl⟩ := HM.out
          have hmt : Bm.length ≤ 1000000 := by rw [hBl]; omega
          have hO2 : OwnB wr wo.heap.size (.slice (some ⟨D, 0, none⟩) j j) l := by rw [HD.out]; exact hO
          have hBD2 : Below wo.heap.size wo wr := by rw [HD.out]; exact HBD.out
          have hCo : C ≤ wo.heap.size := by rw [HD.out]; exact hCr
          have HBm := Lib.hid hM
          have HO2 := Lib.hid hO2
          have HBD2 := Lib.hid hBD2
          have HWL := Lib.hid (And.intro hW (And.intro hBl (And.intro hl hlb)))
          clear hO hM hW hBl hl hlb hO2 hBD2 HO HM
          go_wp2_with (at_builtin; refine wp_appRow (w0 := wo) (w1 := wr) rfl _ _ rfl HBm.out HBD2.out HO2.out hCo hmt rfl rfl ?_)
          intro v' w6 hM6 hb6 hg6 hat6
          have HM6 : Hid (∃ Bm, MOwn w6 C v' Bm ∧ Wf j Bm ∧ Bm.length = r + 1) := Lib.hid ⟨_, hM6, wf_snoc HWL.out.1 HWL.out.2.2.1 HWL.out.2.2.2, by rw [List.length_append, HWL.out.2.1]; rfl⟩
          have HB6 := Lib.hid (HB.out.trans hb6)
          clear hM6 hb6 hg6 hat6 HBm HBD HBD2 HO2 HB HWL
          go_wp2_with fail
          go_roundw
          case rel => first | exact ⟨r + 1, by omega, by go_num, HM6, HB6⟩ | ((repeat apply Exists.intro); exact ⟨⟨r + 1, by omega, by go_num, HM6, HB6⟩, rfl⟩)
          case measure => simp [intOf]; omega
    · obtain rfl : r = L := by omega
      obtain ⟨Bm, hM, hW, hBl⟩ := HM.out
      obtain ⟨aB, cB, rfl, hB2, -, -, -⟩ := hM.rdM2 hBl
      have HBW := Lib.hid (HB1.out.trans (HB.out.mono hC0))
      have S1 := Lib.hid (((Sx.nil wo).add (eRdM aA r A) ((HA1.out.below HB.out (by have := HC.out; omega)).more (by have := HC.out; omega))).add (eRdM aB r Bm) hB2)
      have HWB := Lib.hid hW
      have hAB : A.length = Bm.length := by rw [HL.out, hBl]
      have hsw := srN_wf HAW.out hW hAB
      obtain ⟨Z, hZ⟩ : ∃ Z, (srN n A Bm).length = Z := ⟨_, rfl⟩
      have HZ := Lib.hid hZ
      have hZ14 : Z ≤ 14 := by rw [← hZ]; have := hsw.2; rw [HL.out] at this; omega
      have HSL : Hid (∀ l ∈ srN n A Bm, l.length ≤ 1000000) := Lib.hid (fun l hl => by have := (hsw.1 l hl).1; omega)
      obtain ⟨ls, hRed, -⟩ := rref_spec HAW.out
      obtain ⟨Y, hY⟩ : ∃ Y, (rref A).length = Y := ⟨_, rfl⟩
      have HY := Lib.hid hY
      have hY12 : Y ≤ 12 := by rw [← hY]; have := (rref_len HAW.out).1; omega
      have HRL : Hid (∀ l ∈ rref A, l.length ≤ 1000000) := Lib.hid (fun l hl => by have := (hRed.wf l hl).1; omega)
      clear hM hW hBl hB2 HM HB hAB hsw hZ hRed hY
      -- [b, a]
      go_wp2_with fail
      refine (gf_new _).mono ?_
      rintro e w3 ⟨g, rfl, hg, hF, hb⟩
      have S2 := Lib.hid ((S1.out.step hb).add (eFp (some ⟨g, 0, none⟩)) (.inr ⟨g, rfl, hF⟩))
      clear hb hF hg S1
      -- [f, b, a]
      have CS := Lib.hid (mat_solve_any (some ⟨g, 0, none⟩) n k r cA cB A Bm aA aB w3 (S2.out.fp 0 rfl) (S2.out.rdM 2 rfl) (S2.out.rdM 1 rfl) HAW.out HWB.out (by omega) (by omega) (by omega))
      have CR := Lib.hid fun w hA hB => ref_solve_any n k r cA cB A Bm aA aB w hA hB HAW.out HWB.out (by omega) (by omega) (by omega)
      generalize srN n A Bm = SR at *
      generalize scN n A Bm = sc at *
      go_wp2_with fail
      refine CS.out.mono ?_
      rintro e w4 ⟨v, rfl, hM, hb⟩
      obtain ⟨aS, cS, rfl, hS, -, -, -⟩ := hM.rdM2 HZ.out
      have S3 := Lib.hid ((S2.out.step hb).add (eRdM aS Z SR) hS)
      clear hM hb hS S2 CS
      -- [s, f, b, a]
      go_wp2_with fail
      refine (CR.out w4 (S3.out.rdM 3 rfl) (S3.out.rdM 2 rfl)).mono ?_
      rintro e w5 ⟨v, rfl, hM, hb⟩
      obtain ⟨aT, cT, rfl, hT, -, -, -⟩ := hM.rdM2 HZ.out
      have S4 := Lib.hid ((S3.out.step hb).add (eRdM aT Z SR) hT)
      clear hM hb hT S3 CR
      -- [t, s, f, b, a]
      have hss : ((sc : Int) == (sc : Int)) = true := by simp
      go_wp2_with fail
      refine (keep_rows SR aS aT Z cS cT w5 (S4.out.rdM 1 rfl) (S4.out.rdM 0 rfl) (by omega) HSL.out).mono ?_
      rintro e w6 ⟨rfl, z, rfl⟩
      have S5 := Lib.hid (S4.out.drewN z)
      clear S4
      generalize w5.drewN z = w6 at *
      go_wp2_with fail
      refine (mat_Reduce (some ⟨g, 0, none⟩) n r cA A aA w6 (S5.out.fp 2 rfl) (S5.out.rdM 4 rfl) HAW.out (by omega) (by omega)).mono ?_
      rintro e w7 ⟨v, rfl, hM, hb⟩
      obtain ⟨aU, cU, rfl, hU, -, -, -⟩ := hM.rdM2 HY.out
      have S6 := Lib.hid ((S5.out.step hb).add (eRdM aU Y (rref A)) hU)
      clear hM hb hU S5
      -- [u, t, s, f, b, a]
      go_wp2_with fail
      refine (ref_reduce n r cA A aA w7 (S6.out.rdM 5 rfl) HAW.out (by omega) (by omega)).mono ?_
      rintro e w8 ⟨v, rfl, hM, hb⟩
      obtain ⟨aV, cV, rfl, hV, -, -, -⟩ := hM.rdM2 HY.out
      have S7 := Lib.hid ((S6.out.step hb).add (eRdM aV Y (rref A)) hV)
      clear hM hb hV S6
      go_wp2_with fail
      refine (keep_rows (rref A) aU aV Y cU cV w8 (S7.out.rdM 1 rfl) (S7.out.rdM 0 rfl) (by omega) HRL.out).mono ?_
      rintro e w9 ⟨rfl, z2, rfl⟩
      have S8 := Lib.hid (S7.out.drewN z2)
      clear S7
      generalize w8.drewN z2 = w9 at *
      go_wp2_with fail
      refine (wakes03 w9).mono ?_
      rintro e w10 ⟨rfl, hb⟩
      have S9 := Lib.hid (S8.out.step hb)
      clear hb S8
      go_wp2_with fail
      go_ret
      exact ⟨rfl, HBW.out.trans (S9.out.1.mono (by omega))⟩
end Go.Proofs.Ytfbhbjhfebkpfaa
