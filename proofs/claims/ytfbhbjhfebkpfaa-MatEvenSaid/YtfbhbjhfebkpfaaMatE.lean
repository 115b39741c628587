/- Contract of mat.Mul. -/
import Derived.Test.YtfbhbjhfebkpfaaEven
namespace Go.Proofs.Ytfbhbjhfebkpfaa
open Go.RowKit
set_option linter.unusedVariables false

theorem mrow_zero (w : Nat) (r : List Nat) (x : List (List Nat)) : mrow w r x 0 = List.replicate w 0 := rfl
theorem mrow_succ (w : Nat) (r : List Nat) (x : List (List Nat)) (k : Nat) : mrow w r x (k + 1) = axL (r.getD k 0) (x.getD k []) (mrow w r x k) := rfl

set_option maxRecDepth 100000 in
set_option maxHeartbeats 4000000 in
theorem mat_Mul_no (p : Option Addr) (n k m l c d : Nat) (A X : List (List Nat)) (a x : Option Addr) (w : World) (hA : RdM w w.heap.size a m A) (hX : RdM w w.heap.size x l X) (hWA : Wf n A) (hWX : Wf k X) (hn : n ≤ 64) (hk : k ≤ 64) (hm : m ≤ 1000000) (hl : l ≤ 1000000) (h0 : 0 < m) (hne : n ≠ l) :
    Calls Try.prog 67 #[.pointer p, .slice a m c, .slice x l d] w fun e w' => e = .returned (.tuple #[.slice none 0 0, .bool false]) ∧ w = w' := by
  have C1 := Lib.hid (mat_may n m A _ a c w hA hWA hn hm)
  have C2 := Lib.hid (mat_may k l X _ x d w hX hWX hk hl)
  have C3 := Lib.hid (mat_width A _ a m c w hA hm)
  rw [wid_eq hWA (fun e => by rw [e] at hA; have := hA.len; simp at this; omega)] at C3
  have hneI : ((n : Int) != (l : Int)) = true := by simp; omega
  have h0I : (0 : Int) < (m : Int) := by omega
  clear hA hX hWA hWX
  go_enter Try.func67, Try.ntmps67
  go_wp2_with fail
  refine C1.out.mono ?_
  rintro e w1 ⟨rfl, rfl⟩
  go_wp2_with fail
  refine C2.out.mono ?_
  rintro e w1 ⟨rfl, rfl⟩
  go_wp2_with fail
  refine C3.out.mono ?_
  rintro e w1 ⟨rfl, rfl⟩
  go_wp2_with fail
  go_ret2
  exact ⟨rfl, rfl⟩

set_option maxRecDepth 100000 in
set_option maxHeartbeats 4000000 in
theorem mat_Mul_nil (p : Option Addr) (k l c d : Nat) (X : List (List Nat)) (a x : Option Addr) (w : World) (hF : Fp w p) (hX : RdM w w.heap.size x l X) (hWX : Wf k X) (hk : k ≤ 64) (hl : l ≤ 1000000) :
    Calls Try.prog 67 #[.pointer p, .slice a 0 c, .slice x l d] w fun e w' => e = .returned (.tuple #[.slice none 0 0, .bool true]) ∧ Below w.heap.size w w' := by
  have C1 := Lib.hid (mat_may 0 0 [] _ a c w (RdM.nil w w.heap.size a) (by unfold Wf; simp) (by omega) (by omega))
  have C2 := Lib.hid (mat_may k l X _ x d w hX hWX hk hl)
  have HF := Lib.hid hF
  clear hX hWX hF
  go_enter Try.func67, Try.ntmps67
  go_wp2_with fail
  refine C1.out.mono ?_
  rintro e w1 ⟨rfl, rfl⟩
  go_wp2_with fail
  refine C2.out.mono ?_
  rintro e w1 ⟨rfl, rfl⟩
  go_wp2_with fail
  refine (mat_sure p w HF.out).mono ?_
  rintro e w2 ⟨gf, rfl, hfl, hb⟩
  have HB := Lib.hid hb
  clear hfl hb
  go_wp2_with fail
  go_loopw [8, 10, 11, 12, 13, 38] (fun o _ _ _ _ i wr => i = .int .i64 0 ∧ o = .slice none 0 0 ∧ w2 = wr) (fun _ _ _ _ _ _ _ => 0)
  case atStart => exact ⟨rfl, rfl, rfl⟩
  case round =>
    obtain ⟨rfl, rfl, rfl⟩ := hrel
    go_wp2_with fail
    go_ret2
    exact ⟨rfl, HB.out⟩

set_option maxRecDepth 100000 in
set_option maxHeartbeats 8000000 in
theorem mat_Mul_pos (p : Option Addr) (n k m c d : Nat) (A X : List (List Nat)) (a x : Option Addr) (w : World) (hF : Fp w p) (hA : RdM w w.heap.size a m A) (hX : RdM w w.heap.size x n X) (hWA : Wf n A) (hWX : Wf k X) (hn : n ≤ 64) (hk : k ≤ 64) (hm : m ≤ 1000000) (h0 : 0 < m) :
    Calls Try.prog 67 #[.pointer p, .slice a m c, .slice x n d] w fun e w' => ∃ v, e = .returned (.tuple #[v, .bool true]) ∧ MOwn w' w.heap.size v (mulM A X) ∧ Below w.heap.size w w' := by
  have C1 := Lib.hid (mat_may n m A _ a c w hA hWA hn hm)
  have C2 := Lib.hid (mat_may k n X _ x d w hX hWX hk (by omega))
  have C3 := Lib.hid (mat_width A _ a m c w hA hm)
  rw [wid_eq hWA (fun e => by rw [e] at hA; have := hA.len; simp at this; omega)] at C3
  have HA := Lib.hid hA
  have HX := Lib.hid hX
  have HLA := Lib.hid hA.len
  have HLX := Lib.hid hX.len
  have HWA := Lib.hid hWA
  have HWX := Lib.hid hWX
  have HF := Lib.hid hF
  have hwX : wid X ≤ k := wid_le hWX
  have HMU : Hid (∀ r, r < m → (mulM A X).take (r + 1) = (mulM A X).take r ++ [mrow (wid X) (A.getD r []) X n]) := Lib.hid fun r hr => by
    have hrA : r < A.length := by rw [hA.len]; exact hr
    have hrM : r < (mulM A X).length := by unfold mulM; rw [List.length_map]; exact hrA
    have h1 : (mulM A X)[r]? = some (mrow (wid X) (A.getD r []) X n) := by
      unfold mulM
      rw [List.getElem?_map, getD_some hrA, ← hX.len]
      rfl
    rw [List.getElem?_eq_getElem hrM] at h1
    rw [List.take_succ_eq_append_getElem hrM, Option.some.inj h1]
  have HML : Hid ((mulM A X).length = m) := Lib.hid (by unfold mulM; rw [List.length_map]; exact hA.len)
  have hnn : ((n : Int) != (n : Int)) = false := by simp
  have h0I : (0 : Int) < (m : Int) := by omega
  have hMROW : Hid (∀ r i, i ≤ n → (mrow (wid X) (A.getD r []) X i).length = wid X) := Lib.hid fun r i hi => by
    by_cases hX0 : X = []
    · have : n = 0 := by rw [← hX.len, hX0]; rfl
      obtain rfl : i = 0 := by omega
      rw [mrow_zero, List.length_replicate]
    · rw [wid_eq hWX hX0]; exact (mrow_ok hWX i (by rw [hX.len]; exact hi)).1
  have hMBY : Hid (∀ r i, i ≤ n → By (mrow (wid X) (A.getD r []) X i)) := Lib.hid fun r i hi => by
    by_cases hX0 : X = []
    · have : n = 0 := by rw [← hX.len, hX0]; rfl
      obtain rfl : i = 0 := by omega
      exact By.zeros _
    · rw [wid_eq hWX hX0]; exact (mrow_ok hWX i (by rw [hX.len]; exact hi)).2.1
  clear hA hX hWA hWX hF
  go_enter Try.func67, Try.ntmps67
  go_wp2_with fail
  refine C1.out.mono ?_
  rintro e w1 ⟨rfl, rfl⟩
  go_wp2_with fail
  refine C2.out.mono ?_
  rintro e w1 ⟨rfl, rfl⟩
  go_wp2_with fail
  refine C3.out.mono ?_
  rintro e w1 ⟨rfl, rfl⟩
  go_wp2_with fail
  refine (mat_sure p w HF.out).mono ?_
  rintro e w2 ⟨gf, rfl, hfl, hb⟩
  have HFL := Lib.hid hfl
  have HB := Lib.hid hb
  clear hfl hb C1 C2 C3 HF
  go_wp2_with fail
  have HM0 : Hid (MOwn w2 w.heap.size (.slice none 0 0) ((mulM A X).take 0)) := Lib.hid (MOwn.nil _ _)
  generalize hG : w.heap.size = G at *
  have HG := Lib.hid hG
  clear hG
  go_loopw [8, 10, 11, 12, 13, 38] (fun o _ _ _ _ i wr => ∃ r : Nat, r ≤ m ∧ i = .int .i64 r ∧ Hid (MOwn wr G o ((mulM A X).take r)) ∧ Hid (Fld wr gf) ∧ Hid (Below G w wr)) (fun _ _ _ _ _ i _ => m - (intOf i).toNat)
  case atStart => exact ⟨0, by omega, rfl, HM0, HFL, HB⟩
  case round =>
    clear HM0 HFL HB
    obtain ⟨r, hr, rfl, HM, HFL, HB⟩ := hrel
    rename World => wo
    have hGr : G ≤ wo.heap.size := by have := HB.out.size; have := HG.out; omega
    by_cases hrm : r < m
    · have hrmI : (r : Int) < (m : Int) := by omega
      obtain ⟨b, o, a', c', rfl, hb, hcell, hrd, -, -, -⟩ := (HA.out.below HB.out (Nat.le_refl _)).at hrm
      have hgr := HWA.out.get (i := r) (by rw [HLA.out]; exact hrm)
      rw [hgr.1] at hcell hrd
      have CWD := Lib.hid (mat_width X G x n d wo (HX.out.below HB.out (Nat.le_refl _)) (by omega))
      have hmk := make_bytes (n := wid X) (by omega)
      have HTK := Lib.hid (HMU.out r hrm)
      have HRL := Lib.hid (hMROW.out r)
      have HRB := Lib.hid (hMBY.out r)
      have HAR := Lib.hid hgr.2
      have HRD := Lib.hid hrd
      clear hgr hrd
      generalize hWX : wid X = q at *
      have HWXq := Lib.hid hWX
      clear hWX
      generalize A.getD r [] = R at *
      go_wp2_with fail
      refine CWD.out.mono ?_
      rintro e w3 ⟨rfl, rfl⟩
      go_wp2_with (simp only [hmk])
      have hO0 : OwnB (wo.alloc (.cells (rowB (List.replicate q 0)) 5)) wo.heap.size (.slice (some ⟨wo.heap.size, 0, none⟩) q q) (mrow q R X 0) := by
        rw [mrow_zero]
        have := own_of_blk (l := List.replicate q 0) (Blk.new wo 5 (rowB (List.replicate q 0))) (Nat.le_refl _) (by rw [List.length_replicate]; omega)
        rwa [List.length_replicate] at this
      have HO0 := Lib.hid hO0
      have HB0 : Hid (Below wo.heap.size wo (wo.alloc (.cells (rowB (List.replicate q 0)) 5))) := Lib.hid ((Below.refl _ _).alloc (Nat.le_refl _) _)
      clear hO0 hmk CWD
      generalize wo.alloc (.cells (rowB (List.replicate q 0)) 5) = w3 at *
      generalize hD : wo.heap.size = D at *
      have HD := Lib.hid hD
      clear hD
      go_loopw [12, 13, 47] (fun _ _ i wq => ∃ j : Nat, j ≤ n ∧ i = .int .i64 j ∧ Hid (OwnB wq D (.slice (some ⟨D, 0, none⟩) q q) (mrow q R X j)) ∧ Hid (Below D wo wq)) (fun _ _ i _ => n - (intOf i).toNat)
      case atStart => exact ⟨0, by omega, rfl, HO0, HB0⟩
      case round =>
        clear HO0 HB0
        obtain ⟨j, hj, rfl, HO, HBD⟩ := hrel
        have hGD : G ≤ D := hGr
        by_cases hjn : j < n
        · have hjnI : (j : Int) < (n : Int) := by omega
          have hBG : Below G w wr := HB.out.trans (HBD.out.mono hGD)
          obtain ⟨bR, oR, rfl, hbR, hcR⟩ := HRD.out.atB hjn
          have cR : wr.cell? ⟨bR, oR + j, none⟩ = some (.int .u8 (R.getD j 0 : Nat)) := (HBD.out.cell (p := ⟨bR, oR + j, none⟩) (by show bR < D; omega)).trans (hcR j hjn)
          obtain ⟨bX, oX, aX, cX, rfl, hbX, hcX, hrX, -, -, -⟩ := (HX.out.below hBG (Nat.le_refl _)).at hjn
          have hgx := HWX.out.get (i := j) (by rw [HLX.out]; exact hjn)
          have hwk : wid X = k := wid_eq HWX.out (fun e => by have := HLX.out; rw [e] at this; simp at this; omega)
          have hqk : q = k := by rw [← HWXq.out]; exact hwk
          rw [hgx.1, ← hqk] at hcX hrX
          have hx : ∀ w', wr.grownBy w' (Value.slice (some ⟨D, 0, none⟩) q q).ownBlock → Rd w' w'.heap.size aX q (cellsB (X.getD j [])) := fun w' hg => by
            have hb : Below D wr w' := below_grownBy hg (fun g e => by simp [Value.ownBlock] at e; omega) (by have := HBD.out.size; have := HD.out; omega)
            exact (hrX.below hb hGD).more (by have := hb.size; have := HBD.out.size; have := HD.out; omega)
          have CA := Lib.hid (mat_add gf (R.getD j 0) (X.getD j []) (mrow q R X j) aX q cX D (.slice (some ⟨D, 0, none⟩) q q) wr (HFL.out.below HBD.out (by have := Blk.lt HFL.out; rw [HD.out] at this; exact this)) (getD_lt HAR.out j) hx HO.out (HRL.out j (by omega)) (by unfold By; exact hgx.2) (HRB.out j (by omega)) (by omega))
          have HST : Hid (axL (R.getD j 0) (X.getD j []) (mrow q R X j) = mrow q R X (j + 1)) := Lib.hid (mrow_succ q R X j).symm
          have hDr : D ≤ wr.heap.size := by have := HBD.out.size; have := HD.out; omega
          clear hx hgx hwk hqk hrX hcR
          generalize axL (R.getD j 0) (X.getD j []) (mrow q R X j) = Y at *
          generalize R.getD j 0 = z at *
          go_wp2_with fail
          refine CA.out.mono ?_
          rintro e w5 ⟨rfl, ho5, hg5⟩
          rw [HST.out] at ho5
          have HO5 := Lib.hid ho5
          have HB5 := Lib.hid (HBD.out.trans (below_grownBy hg5 (fun g e => by simp [Value.ownBlock] at e; omega) hDr))
          clear ho5 hg5 CA HO HBD cR hcX hBG
          go_wp2_with fail
          go_roundw
          case rel => first | exact ⟨j + 1, by omega, by go_num, HO5, HB5⟩ | ((repeat apply Exists.intro); exact ⟨⟨j + 1, by omega, by go_num, HO5, HB5⟩, rfl⟩)
          case measure => simp [intOf]; omega
        · obtain rfl : j = n := by omega
          have hmt : ((mulM A X).take r).length ≤ 1000000 := by rw [List.length_take]; omega
          have hGD2 : G ≤ wo.heap.size := by rw [HD.out]; exact hGr
          have HBD2 : Hid (Below wo.heap.size wo wr) := Lib.hid (by rw [HD.out]; exact HBD.out)
          have HO2 : Hid (OwnB wr wo.heap.size (.slice (some ⟨D, 0, none⟩) q q) (mrow q R X j)) := Lib.hid (by rw [HD.out]; exact HO.out)
          have HF5 : Hid (Fld wr gf) := Lib.hid (HFL.out.below HBD2.out (Blk.lt HFL.out))
          go_wp2_with (at_builtin; refine wp_appRow (w0 := wo) (w1 := wr) rfl _ _ rfl HM.out HBD2.out HO2.out hGD2 hmt rfl rfl ?_)
          intro v' w6 hM6 hb6 hg6 hat6
          rw [← HTK.out] at hM6
          have HM6 := Lib.hid hM6
          have HB6 := Lib.hid (HB.out.trans hb6)
          have HF6 : Hid (Fld w6 gf) := Lib.hid (by
            refine Blk.grown (Blk.alloc HF5.out _) hg6 ?_
            obtain ⟨vs, hMV⟩ := HM.out
            rcases hMV.hd.2 with ⟨h1, _⟩ | ⟨g', cap, cur, h1, _, hb, _⟩
            · rw [h1]; simp [Value.ownBlock]
            · rw [h1]
              have : gf ≠ g' := Blk.ne (t := 100) (t' := 49) HFL.out hb (by decide)
              simpa [Value.ownBlock] using this)
          clear hM6 hb6 hg6 hat6 HM HBD HBD2 HO HO2 HF5 HTK HFL HB
          go_wp2_with fail
          go_roundw
          case rel => first | exact ⟨r + 1, by omega, by go_num, HM6, HF6, HB6⟩ | ((repeat apply Exists.intro); exact ⟨⟨r + 1, by omega, by go_num, HM6, HF6, HB6⟩, rfl⟩)
          case measure => simp [intOf]; omega
    · obtain rfl : r = m := by omega
      rw [List.take_of_length_le (by rw [HML.out]; exact Nat.le_refl _)] at HM
      go_wp2_with fail
      go_ret2
      exact ⟨_, rfl, by rw [HG.out]; exact HM.out, by rw [HG.out]; exact HB.out⟩

theorem mat_Mul (p : Option Addr) (n k m l c d : Nat) (A X : List (List Nat)) (a x : Option Addr) (w : World) (hF : Fp w p) (hA : RdM w w.heap.size a m A) (hX : RdM w w.heap.size x l X) (hWA : Wf n A) (hWX : Wf k X) (hn : n ≤ 64) (hk : k ≤ 64) (hm : m ≤ 1000000) (hl : l ≤ 1000000) (hfit : 0 < m → n = l) :
    Calls Try.prog 67 #[.pointer p, .slice a m c, .slice x l d] w fun e w' => ∃ v, e = .returned (.tuple #[v, .bool true]) ∧ MOwn w' w.heap.size v (mulM A X) ∧ Below w.heap.size w w' := by
  rcases Nat.eq_zero_or_pos m with h | h
  · subst h
    obtain rfl : A = [] := List.eq_nil_of_length_eq_zero hA.len
    exact (mat_Mul_nil p k l c d X a x w hF hX hWX hk hl).mono fun e w' ⟨h1, h2⟩ => ⟨_, h1, MOwn.nil _ _, h2⟩
  · obtain rfl := hfit h
    exact mat_Mul_pos p n k m c d A X a x w hF hA hX hWA hWX hn hk hm h
end Go.Proofs.Ytfbhbjhfebkpfaa
