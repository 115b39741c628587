/- law04: rows, one by one (SpanPlays). -/
import Derived.Test.YtfbhbjhfebkpfaaPlaysC
import Derived.Test.YtfbhbjhfebkpfaaLaw04a
import Derived.Deep.DeepCutAuto
namespace Go.Proofs.Ytfbhbjhfebkpfaa
open Go.RowKit
set_option linter.unusedVariables false

/-- An operation whose guard holds. -/
theorem wpList_open {P : Program} {ops : Array Oper} {rest : List Oper} {o : Oper} {a : Act} {w : World} {Q : Exit → Act → World → Prop} (hw : Region.wanted o (yielded ops a.tmps) = true)
    (h : wpList P ops Q ({ o with guard := none } :: rest) a w) : wpList P ops Q (o :: rest) a w := by
  unfold wpList at h ⊢
  rw [if_pos hw]
  have e : Region.wanted { o with guard := none } (yielded ops a.tmps) = true := rfl
  rw [if_pos e] at h
  exact h

set_option maxRecDepth 100000 in
set_option maxHeartbeats 2000000 in
theorem plays_out (w : World) (n0 : Int) (hno : n0 < 0 ∨ 64 < n0) (v1 v2 : Value) :
    Calls Try.prog 21 #[.int .i64 n0, v1, v2] w fun e w' => e = .returned (.bool true) ∧ Below w.heap.size w w' := by
  have CN := Lib.hid fun gf w => span_new_un gf n0 w hno
  have hb0 : (decide (0 ≤ n0) && decide (n0 ≤ 64)) = false := by rcases hno with h | h <;> simp <;> omega
  rcases hno with h | h
  · have h1 : ¬ 0 ≤ n0 := by omega
    clear h hb0
    go_enter Try.func21, Try.ntmps21
    go_wp2_with fail
    refine (gf_new _).mono ?_
    rintro e w1 ⟨gf, rfl, hg, hF, hb⟩
    have HB1 := Lib.hid hb
    clear hg hF hb
    go_wp2_with fail
    refine (CN.out _ _).mono ?_
    rintro e w2 ⟨rfl, rfl⟩
    go_wp2_with fail
    refine (wakes04 _).mono ?_
    rintro e w2 ⟨rfl, hb⟩
    have HB2 := Lib.hid (HB1.out.trans (hb.mono HB1.out.size))
    clear hb
    go_wp2_with fail
    go_ret
    exact ⟨rfl, HB2.out⟩
  · have h1 : 0 ≤ n0 := by omega
    have h2 : ¬ n0 ≤ 64 := by omega
    clear h hb0
    go_enter Try.func21, Try.ntmps21
    go_wp2_with fail
    refine (gf_new _).mono ?_
    rintro e w1 ⟨gf, rfl, hg, hF, hb⟩
    have HB1 := Lib.hid hb
    clear hg hF hb
    go_wp2_with fail
    refine (CN.out _ _).mono ?_
    rintro e w2 ⟨rfl, rfl⟩
    go_wp2_with fail
    refine (wakes04 _).mono ?_
    rintro e w2 ⟨rfl, hb⟩
    have HB2 := Lib.hid (HB1.out.trans (hb.mono HB1.out.size))
    clear hb
    go_wp2_with fail
    go_ret
    exact ⟨rfl, HB2.out⟩

set_option maxRecDepth 100000 in
set_option maxHeartbeats 2000000 in
theorem plays_long (w : World) (n : Nat) (hn : n ≤ 64) (a : Option Addr) (len cap : Nat) (hl : 24 < len) (v2 : Value) :
    Calls Try.prog 21 #[.int .i64 n, .slice a len cap, v2] w fun e w' => e = .returned (.bool true) ∧ Below w.heap.size w w' := by
  have h1 : (0 : Int) ≤ (n : Int) := by omega
  have h2 : (n : Int) ≤ 64 := by omega
  have h3 : (24 : Int) < (len : Int) := by omega
  go_enter Try.func21, Try.ntmps21
  go_wp2_with fail
  refine (gf_new _).mono ?_
  rintro e w1 ⟨gf, rfl, hg, hF, hb⟩
  have HB1 := Lib.hid hb
  have HF1 := Lib.hid hF
  clear hg hF hb
  go_wp2_with fail
  refine (span_new gf n w1 HF1.out hn).mono ?_
  rintro e w2 ⟨gs, rfl, hgs, hS, hb⟩
  have HB2 := Lib.hid (HB1.out.trans (hb.mono HB1.out.size))
  clear hS hb
  go_wp2_with fail
  refine (wakes04 _).mono ?_
  rintro e w3 ⟨rfl, hb⟩
  have HB3 := Lib.hid (HB2.out.trans (hb.mono HB2.out.size))
  clear hb
  go_wp2_with fail
  go_ret
  exact ⟨rfl, HB3.out⟩

theorem below_first {w w' : World} {v : Value} (hg : w.grownBy w' v.ownBlock) (hv : v.ownBlock = none) : Below w.heap.size w w' := by rw [hv] at hg; exact below_none hg
theorem below_again {w w1 w2 : World} {v : Value} (hb : Below w.heap.size w w1) (hat : v.ownBlock = none ∨ v.ownBlock = some w.heap.size) (hg : w1.grownBy w2 v.ownBlock) : Below w.heap.size w w2 :=
  hb.grown hg hb.size fun b h => by
    rcases hat with h1 | h1
    · rw [h1] at h; cases h
    · rw [h1] at h; injection h with h; omega

set_option maxRecDepth 100000 in
set_option maxHeartbeats 16000000 in
theorem plays_in (w : World) (n : Nat) (hn : n ≤ 64) (a : Option Addr) (len cap : Nat) (M0 : List (List Nat)) (hM0 : RdM w w.heap.size a len M0) (hlen : len ≤ 24) (hc : len ≤ cap ∧ cap ≤ maxLen ∧ (a = none → cap = 0)) (hby : ∀ l ∈ M0, By l)
    (b : Option Addr) (len2 cap2 : Nat) (ys : List Nat) (hr2 : Rd w w.heap.size b len2 (cellsB ys)) (hd : len2 ≤ cap2 ∧ cap2 ≤ maxLen ∧ (b = none → cap2 = 0)) (hby2 : By ys) :
    Calls Try.prog 21 #[.int .i64 n, .slice a len cap, .slice b len2 cap2] w fun e w' => e = .returned (.bool true) ∧ Below w.heap.size w w' := by
  obtain ⟨hd1, hd2, hd3⟩ := hd
  obtain ⟨hc1, hc2, hc3⟩ := hc
  have h1 : (0 : Int) ≤ (n : Int) := by omega
  have h2 : (n : Int) ≤ 64 := by omega
  have h3 : ¬ (24 : Int) < (len : Int) := by omega
  have CC2 := Lib.hid fun w => keep_cut b len2 cap2 n w hd1 hd2 (by unfold maxLen; omega) hd3
  have HR2 := Lib.hid (rd_cut0 hr2 (n := Nat.min len2 n) (Nat.min_le_left _ _))
  have hm1 : Nat.min len2 n ≤ n := Nat.min_le_right _ _
  have hby3 : By (ys.take (Nat.min len2 n)) := fun x hx => hby2 x (List.mem_of_mem_take hx)
  generalize Nat.min len2 n = m2 at *
  generalize ys.take m2 = rx at *
  obtain ⟨k2, hk2⟩ : ∃ k2, k2 = n - m2 := ⟨_, rfl⟩
  have hk2I : (n : Int) - (m2 : Int) = (k2 : Int) := by omega
  have hk2w : IntKind.i64.wrap (k2 : Int) = (k2 : Int) := by rw [IntKind.wrap_i64]; omega
  have hrxl : rx.length = m2 := by have := HR2.out.len; rwa [cellsB_len] at this
  have hrrl : (rx ++ List.replicate k2 0).length = n := by rw [List.length_append, List.length_replicate]; omega
  have hrrb : By (rx ++ List.replicate k2 0) := by
    intro x hx
    rcases List.mem_append.1 hx with hx | hx
    · exact hby3 x hx
    · exact By.zeros k2 x hx
  have hl1 : ([] : List Nat).length + m2 ≤ 1000000 := by simp; omega
  have hl2 : ([] ++ rx).length + k2 ≤ 1000000 := by simp; omega
  have HRL := Lib.hid hrrl
  have HRB := Lib.hid hrrb
  have HM0 := Lib.hid hM0
  have HBY := Lib.hid hby
  have HD3 := Lib.hid hd3
  clear hd1 hd2 hd3 hc1 hc2 hc3 hr2 hby2 hby3 hk2 hrxl hrrl hrrb hM0 hby
  go_enter Try.func21, Try.ntmps21
  go_wp2_with fail
  refine (gf_new _).mono ?_
  rintro e w1 ⟨gf, rfl, hg, hF, hb⟩
  have HB1 := Lib.hid hb
  have HF1 := Lib.hid hF
  clear hg hF hb
  go_wp2_with fail
  refine (span_new gf n w1 HF1.out hn).mono ?_
  rintro e w2 ⟨gs, rfl, hgs, hS, hb⟩
  have HB2 := Lib.hid (HB1.out.trans (hb.mono HB1.out.size))
  have HS2 := Lib.hid (hS.base HB1.out.size)
  clear hS hb HF1 HB1 hgs
  generalize hG : w.heap.size = G at *
  have HG := Lib.hid hG
  clear hG
  have hG2 : G ≤ w2.heap.size := by have := HB2.out.size; have := HG.out; omega
  go_wp2_with fail
  refine (CC2.out _).mono ?_
  rintro e w3 ⟨rfl, rfl⟩
  have HR2 := Lib.hid (HR2.out.below HB2.out (Nat.le_refl _))
  clear CC2 h3
  have hnl : (Value.slice none 0 0).ownBlock = none := rfl
  go_wp2_with (at_builtin; refine wp_appB (w := w2) (C := G) (v := .slice none 0 0) (xs := []) (ys := rx) rfl _ _ rfl (OwnB.nil _ _) hG2 hl1 rfl rfl HD3.out HR2.out ?_)
  intro v3 w3 hO3 hb3 hg3 hat3
  have HO3 := Lib.hid hO3
  have HBG3 := Lib.hid hb3
  have HN3 := Lib.hid (below_none hg3)
  have HAT3 : Hid (v3.ownBlock = none ∨ v3.ownBlock = some w2.heap.size) := Lib.hid hat3
  have hG3 : G ≤ w3.heap.size := Nat.le_trans hG2 hb3.size
  clear hO3 hb3 hg3 hat3
  go_wp2_with (at_builtin; refine wp_appZ (w := w3) (C := G) (k := k2) rfl _ _ rfl HO3.out hG3 hl2 rfl rfl ?_)
  intro v4 w4 hO4 hb4 hg4 hat4
  have hN4 := below_again HN3.out HAT3.out hg4
  have hP4 : PlR w w4 G gs n (.slice none 0 0) v4 [] [] (rx ++ List.replicate k2 0) :=
    ⟨EvQ.nil _ _, ⟨none, HS2.out.new hN4, by simp⟩, by simpa using hO4, by intro x hx; simp at hx, by intro x hx; simp at hx, HB2.out.trans (hN4.mono hG2), Nat.le_trans hG3 hb4.size⟩
  generalize rx ++ List.replicate k2 0 = rr at *
  obtain ⟨ar, cr, rfl, -, hnr⟩ := hP4.ow.rd2 HRL.out
  have HP4 := Lib.hid hP4
  have HNR := Lib.hid hnr
  clear hP4 hO4 hb4 hg4 hat4 hN4 HO3 HBG3 HN3 HAT3 HR2 HS2 HB2 hG2 hG3 hl1 hl2 hk2I hk2w hnl hnr HD3
  go_wp2_with fail
  go_loopw [8, 55] (fun v i wr => ∃ (r : Nat) (M : List (List Nat)), r ≤ len ∧ i = .int .i64 r ∧ M.length ≤ r ∧ Hid (PlR w wr G gs n v (.slice ar n cr) M M rr)) (fun _ i _ => len - (intOf i).toNat)
  case atStart => exact ⟨0, [], by omega, rfl, by simp, HP4⟩
  case round =>
    clear HP4
    obtain ⟨r, M, hr, rfl, hMr, HP⟩ := hrel
    obtain ⟨aM, cM, rfl⟩ := HP.out.val
    by_cases hrL : r < len
    · have hrLI : (r : Int) < (len : Int) := by omega
      obtain ⟨bh, oh, ax, cx, rfl, hbh, hcell0, hrd0, hnil, hlc, hcm⟩ := HM0.out.at hrL
      have hcell := (HP.out.be.cell (p := ⟨bh, oh + r, none⟩) hbh).trans hcell0
      have hrM : r < M0.length := by have := HM0.out.1; omega
      have hby := HBY.out _ (List.mem_of_getElem? (getD_some hrM))
      have hrd := hrd0.below HP.out.be (Nat.le_refl _)
      have CC := Lib.hid fun w => keep_cut ax (M0.getD r []).length cx (n + 1) w hlc hcm (by unfold maxLen; omega) hnil
      have hn1 : (n : Int) + 1 = ((n + 1 : Nat) : Int) := by omega
      have hrx := rd_cut0 hrd (n := Nat.min (M0.getD r []).length (n + 1)) (Nat.min_le_left _ _)
      have hmx : Nat.min (M0.getD r []).length (n + 1) ≤ n + 1 := Nat.min_le_right _ _
      have hmc : Nat.min (M0.getD r []).length (n + 1) ≤ cx := Nat.le_trans (Nat.min_le_left _ _) hlc
      have hbx : By ((M0.getD r []).take (Nat.min (M0.getD r []).length (n + 1))) := fun x hx => hby x (List.mem_of_mem_take hx)
      generalize Nat.min (M0.getD r []).length (n + 1) = m at *
      generalize (M0.getD r []).take m = xl at *
      obtain ⟨n1, hn1'⟩ : ∃ n1, n1 = n + 1 := ⟨_, rfl⟩
      rw [← hn1'] at hn1 CC
      have hxl : xl.length = m := by have := hrx.len; rwa [cellsB_len] at this
      have HX : Hid (RwQ wr G ax cx xl) := Lib.hid (.inl ⟨by rw [hxl]; exact hrx, hnil, by rw [hxl]; exact hmc, hcm⟩)
      have HBX := Lib.hid hbx
      have HXL := Lib.hid hxl
      have HXC := Lib.hid (And.intro hnil hrx)
      clear hrd0 hrd hby hcell0 hlc hcm hrM hmc hbx hxl hnil hrx hn1'
      generalize (M0.getD r []).length = lx at *
      go_wp2_with fail
      refine (CC.out _).mono ?_
      rintro e w5 ⟨rfl, rfl⟩
      clear CC hcell
      go_upto_region 13 with fail
      go_cut [73] (fun s wx => s = .bool (decide (0 < (r : Int).tmod 3 ∧ m < n)) ∧ wx = wr)
      case first =>
        by_cases h3 : 0 < (r : Int).tmod 3
        · by_cases hmn : (m : Int) < (n : Int)
          · have e : decide (0 < (r : Int).tmod 3 ∧ m < n) = true := decide_eq_true ⟨h3, by omega⟩
            go_wp2_with fail
            go_meet
            exact ⟨congrArg Value.bool e.symm, rfl⟩
          · have e : decide (0 < (r : Int).tmod 3 ∧ m < n) = false := decide_eq_false fun h => hmn (by omega)
            go_wp2_with fail
            go_meet
            exact ⟨congrArg Value.bool e.symm, rfl⟩
        · have e : decide (0 < (r : Int).tmod 3 ∧ m < n) = false := decide_eq_false fun h => h3 h.1
          go_wp2_with fail
          go_meet
          exact ⟨congrArg Value.bool e.symm, rfl⟩
      case rest =>
      obtain ⟨rfl, rfl⟩ := hcut
      have hbq : Hid (decide (0 < (r : Int).tmod 3 ∧ m < n) = true → m < n) := Lib.hid fun h => (of_decide_eq_true h).2
      generalize decide (0 < (r : Int).tmod 3 ∧ m < n) = bq at *
      go_upto_if 73 with fail
      go_cut [10] (fun v wx => Hid (∃ (a1 : Option Addr) (c1 k1 : Nat) (x1 : List Nat), v = .slice a1 k1 c1 ∧ x1.length = k1 ∧ k1 ≤ n + 1 ∧ By x1 ∧ RwQ wx G a1 c1 x1 ∧ PlR w wx G gs n (.slice aM M.length cM) (.slice ar n cr) M M rr))
      case first =>
        cases bq with
        | false =>
          go_wp2_with fail
          go_meet
          exact Lib.hid ⟨ax, cx, m, xl, rfl, HXL.out, hmx, HBX.out, HX.out, HP.out⟩
        | true =>
          have hmn := hbq.out rfl
          obtain ⟨kq, hkq⟩ : ∃ kq, kq = n - m := ⟨_, rfl⟩
          have hkI : (n : Int) - (m : Int) = (kq : Int) := by omega
          have hkw : IntKind.i64.wrap (kq : Int) = (kq : Int) := by rw [IntKind.wrap_i64]; omega
          have hGw := HP.out.sz
          have hl1 : ([] : List Nat).length + m ≤ 1000000 := by simp; omega
          have hl2 : ([] ++ xl).length + kq ≤ 1000000 := by simp; have := HXL.out; omega
          have hpl : (xl ++ List.replicate kq 0).length = n := by rw [List.length_append, List.length_replicate, HXL.out]; omega
          have hpb : By (xl ++ List.replicate kq 0) := by
            intro x hx
            rcases List.mem_append.1 hx with hx | hx
            · exact HBX.out x hx
            · exact By.zeros kq x hx
          have HPL := Lib.hid hpl
          have HPB := Lib.hid hpb
          clear hpl hpb hkq hmn hmx hbq
          go_wp2_with (at_builtin; refine wp_appB (C := G) (v := .slice none 0 0) (xs := []) (ys := xl) rfl _ _ rfl (OwnB.nil _ _) hGw hl1 rfl rfl HXC.out.1 HXC.out.2 ?_)
          intro v3 w3 hO3 hb3 hg3 hat3
          have HO3 := Lib.hid hO3
          have HN3 := Lib.hid (below_none hg3)
          have HAT3 := Lib.hid hat3
          have hG3 : G ≤ w3.heap.size := Nat.le_trans hGw hb3.size
          clear hO3 hb3 hg3 hat3
          go_wp2_with (at_builtin; refine wp_appZ (w := w3) (C := G) (k := kq) rfl _ _ rfl HO3.out hG3 hl2 rfl rfl ?_)
          intro v4 w4 hO4 hb4 hg4 hat4
          have hN4 := below_again HN3.out HAT3.out hg4
          have HP4 := Lib.hid (HP.out.new hN4)
          have HO4 : Hid (OwnB w4 G v4 (xl ++ List.replicate kq 0)) := Lib.hid (by simpa using hO4)
          clear hO4 hb4 hg4 hat4 hN4 HO3 HN3 HAT3 HP hGw hG3 hl1 hl2 hkI hkw
          generalize xl ++ List.replicate kq 0 = x1 at *
          obtain ⟨a1, c1, rfl, -⟩ := HO4.out.rd2 HPL.out
          go_wp2_with fail
          go_meet
          exact Lib.hid ⟨a1, c1, n, x1, rfl, HPL.out, Nat.le_succ n, HPB.out, .inr (by rw [HPL.out]; exact HO4.out), HP4.out⟩
      case rest =>
      have HC := hcut
      clear hcut hbq HX HBX HXL HXC HP hmx
      rename World => wc0
      obtain ⟨a1, c1, k1, x1, rfl, hxl, hk1, hxb, hX, hP⟩ := HC.out
      have HX := Lib.hid hX
      have HP := Lib.hid hP
      have HXL := Lib.hid hxl
      have HXB := Lib.hid hxb
      clear HC hX hP hxl hxb
      have hq24 : M.length ≤ 1000000 := by omega
      have hxl6 : k1 ≤ 1000000 := by omega
      go_wp2_with fail
      refine (plays_rank HP.out rfl hn hq24).mono ?_
      rintro e w6 ⟨rfl, hb6⟩
      have HP6 := Lib.hid (HP.out.new hb6)
      have HX6 := Lib.hid (HX.out.new HP.out.sz hb6)
      clear HP HX hb6
      go_upto_if 86 with fail
      go_cut [8, 12] (fun v b wx => Hid (∃ (M' : List (List Nat)) (nw : Bool), b = .bool nw ∧ AddQ n M M' x1 nw ∧ M'.length ≤ r + 1 ∧ RwQ wx G a1 c1 x1 ∧ PlR w wx G gs n v (.slice ar n cr) M' M rr))
      case first =>
        by_cases hkn : k1 = n
        · subst hkn
          have hkk : ((k1 : Int) == (k1 : Int)) = true := by simp
          have hW1 : Wf k1 (M ++ [x1]) := wf_snoc HP6.out.wf HXL.out HXB.out
          have hgt := new_gt HP6.out.wf HXL.out HXB.out
          have HGT := Lib.hid hgt
          have HW1 := Lib.hid hW1
          have hM1 : (M ++ [x1]).length ≤ 1000000 := by rw [List.length_append]; simp; omega
          have HEV := Lib.hid HP6.out.ev
          have hGw := HP6.out.sz
          have hMl1 : M.length ≤ 1000000 := hq24
          clear hgt hW1
          go_wp2_with (at_builtin; refine wp_appQ (w := w6) (G := G) (M := M) (l := x1) rfl _ _ rfl HEV.out HX6.out HXL.out hGw hMl1 rfl rfl ?_)
          intro v9 w9 hE9 hg9 hat9
          have hP9 := HP6.out.appd hE9 HW1.out hg9 hat9
          generalize hMx : M ++ [x1] = Mx at *
          have HMX := Lib.hid hMx
          have hMx1 : Mx.length ≤ r + 1 := by rw [← hMx, List.length_append]; simp; omega
          clear hMx
          obtain ⟨a9, c9, rfl⟩ := hP9.val
          have HX9 : Hid (RwQ w9 G a1 c1 x1) := Lib.hid ((HX6.out.new HP6.out.sz ((Below.refl _ _).alloc (Nat.le_refl _) _)).gr (HEV.out.new hGw ((Below.refl _ _).alloc (Nat.le_refl _) _)).ofh hg9 (Nat.le_trans hGw (by simp)))
          have HP9 := Lib.hid hP9
          clear hP9 hE9 hg9 hat9 HEV HX6 HP6 hMl1
          go_wp2_with fail
          refine (plays_rank HP9.out rfl hn hM1).mono ?_
          rintro e w10 ⟨rfl, hb10⟩
          have HP10 := Lib.hid (HP9.out.new hb10)
          have HX10 := Lib.hid (HX9.out.new HP9.out.sz hb10)
          clear hb10 HP9 HX9 hkk
          go_wp2_with fail
          go_meet
          exact Lib.hid ⟨Mx, newB M x1, congrArg Value.bool HGT.out, .inl ⟨HXL.out, HMX.out.symm, rfl⟩, hMx1, HX10.out, HP10.out⟩
        · have hkk : ((k1 : Int) == (n : Int)) = false := by simp; omega
          have hkI : ¬ (k1 : Int) = (n : Int) := by omega
          go_wp2_with fail
          go_meet
          exact Lib.hid ⟨M, false, rfl, .inr ⟨fun e => hkn (HXL.out.symm.trans e), rfl, rfl⟩, by omega, HX6.out, HP6.out⟩
      case rest =>
      have HC := hcut
      clear hcut HP6 HX6
      obtain ⟨M1, nw, rfl, haq, hM1, hX, hP⟩ := HC.out
      obtain ⟨aN, cN, rfl⟩ := hP.val
      have HX := Lib.hid hX
      have HP := Lib.hid hP
      have HAQ := Lib.hid haq
      clear HC hX hP haq
      rename World => wc1
      have hxi : Hid (Rd wc1 wc1.heap.size a1 k1 ((x1.map fun x : Nat => (x : Int)).map (Value.int .u8))) := Lib.hid (by
        have h := HX.out.rd HP.out.sz
        rw [HXL.out, cellsB_ints] at h
        exact h)
      go_wp2_with fail
      refine (keep_spare_u8 (x1.map fun x : Nat => (x : Int)) a1 k1 c1 71 wc1 hxi.out hxl6).mono ?_
      rintro e w11 ⟨gi, rfl, -, hBi, hb11⟩
      have HP11 := Lib.hid (HP.out.new hb11)
      have HX11 := Lib.hid (HX.out.new HP.out.sz hb11)
      have HBI := Lib.hid hBi
      clear hBi hb11 HP HX hxi
      go_wp2_with fail
      refine (plays_add HP11.out HX11.out HXB.out HXL.out HBI.out HAQ.out hn).mono ?_
      rintro e w12 ⟨rfl, hP12, hX12, hB12⟩
      have hnw : (nw != nw) = false := by simp
      have HP12 := Lib.hid hP12
      have HKT := Lib.hid (keep_kept_u8 (x1.map fun x : Nat => (x : Int)) gi a1 k1 c1 71 w12 hB12 (by rw [List.length_map]; exact HXL.out) (by
        have h := hX12.rd hP12.sz
        rw [HXL.out, cellsB_ints] at h
        exact h) hxl6)
      clear hP12 hX12 hB12 HP11 HX11 HBI
      go_wp2_with fail
      refine HKT.out.mono ?_
      rintro e w13 ⟨rfl, j13, rfl⟩
      have HP13 := Lib.hid (HP12.out.drewN j13)
      clear HKT HP12 hnw
      generalize w12.drewN j13 = w13 at *
      have hM1m : M1.length ≤ 1000000 := by omega
      have hM1k : M1.length ≤ 1000 := by omega
      go_wp2_with fail
      refine (plays_srank HP13.out).mono ?_
      rintro e w14 ⟨rfl, rfl⟩
      go_wp2_with fail
      refine (plays_rank HP13.out rfl hn hM1m).mono ?_
      rintro e w14 ⟨rfl, hb14⟩
      have HP14 := Lib.hid (HP13.out.new hb14)
      have HHAS := Lib.hid (has_eq HP14.out.wf HRL.out HRB.out)
      have HWR := Lib.hid (wf_snoc HP14.out.wf HRL.out HRB.out)
      clear hb14 HP13
      generalize hdd : (rref M1).length = d1 at *
      have hne : ((d1 : Int) != (d1 : Int)) = false := by simp
      have HDD := Lib.hid hdd
      clear hdd
      go_wp2_with (at_builtin; refine wp_appAll (wr := w14) (G := G) (M := M1) rfl _ _ rfl HP14.out.ev HP14.out.sz hM1m rfl rfl ?_)
      intro v15 w15 hE15 hb15
      have HE15 := Lib.hid hE15
      have HB15 := Lib.hid hb15
      have HO15 := Lib.hid (HP14.out.ow.below hb15)
      clear hE15 hb15 hne
      go_wp2_with (at_builtin; refine wp_appLast (wr := w14) (w2 := w15) (G := G) (M := M1) (rr := rr) rfl _ _ rfl HE15.out HB15.out HO15.out HRL.out HP14.out.sz hM1k rfl rfl ?_)
      intro v16 w16 hE16 hb16
      have hl16 : (M1 ++ [rr]).length ≤ 1000000 := by rw [List.length_append]; simp; omega
      generalize M1 ++ [rr] = My at *
      obtain ⟨a16, c16, rfl⟩ := hE16.val
      have HE16 := Lib.hid hE16
      have HP16 := Lib.hid (HP14.out.new hb16)
      clear hE16 hb16 HE15 HB15 HO15 HP14
      go_wp2_with fail
      refine (ev_rank HE16.out rfl HWR.out hn hl16).mono ?_
      rintro e w17 ⟨rfl, hb17⟩
      have HP17 := Lib.hid (HP16.out.new hb17)
      clear hb17 HP16 HE16 hl16
      generalize (rref My).length = d2 at *
      have CR := Lib.hid (plays_rank HP17.out rfl hn hM1m)
      rw [HDD.out] at CR
      go_wp2_with fail
      refine CR.out.mono ?_
      rintro e w18 ⟨rfl, hb18⟩
      have HP18 := Lib.hid (HP17.out.new hb18)
      have hhas := HHAS.out
      clear hb18 HP17 CR HHAS HWR
      have CH := Lib.hid (plays_has HP18.out HRL.out rfl HRB.out hn)
      generalize hasB M1 rr = hb at *
      go_wp2_with fail
      refine CH.out.mono ?_
      rintro e w19 ⟨rfl, hb19⟩
      have HP19 := Lib.hid (HP18.out.new hb19)
      have hbb : (hb != hb) = false := by simp
      clear hb19 HP18 CH hhas
      go_wp2_with fail
      go_roundw
      case rel => first | exact ⟨r + 1, M1, by omega, by go_num, by omega, HP19⟩ | ((repeat apply Exists.intro); exact ⟨⟨r + 1, M1, by omega, by go_num, by omega, HP19⟩, rfl⟩)
      case measure => simp [intOf]; omega
    · obtain rfl : r = len := by omega
      obtain ⟨o, hS, -⟩ := HP.out.sp
      have hsz := HP.out.sz
      have hMm : M.length ≤ 1000000 := by omega
      have hrw := HP.out.ow.rd2 HRL.out
      obtain ⟨ar1, cr1, e1, hrr, -⟩ := hrw
      injection e1 with e1 e2 e3
      subst e1 e3
      obtain ⟨ls, hRed, -⟩ := rref_spec HP.out.wf
      have HRed := Lib.hid hRed
      have CM := Lib.hid (ref_reduce n M.length cM M aM wr (HP.out.ev.ev hsz).rdM.1 HP.out.wf hn hMm)
      have hrl := (rref_len HP.out.wf).1
      have HBE := Lib.hid HP.out.be
      have S0 : Hid (Sx wr wr [eSpR G gs n o (rref M), eRd ar n (cellsB rr)]) := Lib.hid (((Sx.nil wr).add (eRd ar n (cellsB rr)) hrr).add (eSpR G gs n o (rref M)) hS)
      clear hS hrr hRed HP hMm
      generalize rref M = R at *
      obtain ⟨Z, hZ⟩ : ∃ Z, R.length = Z := ⟨_, rfl⟩
      have HZ := Lib.hid hZ
      have hZ64 : Z ≤ 64 := by omega
      clear hZ hrl
      generalize hD : wr.heap.size = D at *
      have HD := Lib.hid hD
      clear hD
      -- [s, r]
      go_wp2_with fail
      refine CM.out.mono ?_
      rintro e w5 ⟨v, rfl, hM, hb⟩
      obtain ⟨aR, cR, rfl, hM1, -, -, -⟩ := hM.rdM2 HZ.out
      have S1 := Lib.hid ((S0.out.step (hb.mono (by rw [HD.out]; exact Nat.le_refl _))).add (eRdM aR Z R) hM1)
      clear hM hb hM1 S0 CM
      -- [m, s, r]
      have hD5 : D ≤ w5.heap.size := by have := S1.out.1.size; have := HD.out; omega
      have hn0 : ([] : List Nat).length + n ≤ 1000000 := by simp; omega
      go_wp2_with (at_builtin; refine wp_appB (w := w5) (C := D) (v := .slice none 0 0) (xs := []) (ys := rr) rfl _ _ rfl (OwnB.nil _ _) hD5 hn0 rfl rfl HNR.out (S1.out.rd 2 rfl) ?_)
      intro v6 w6 hO6 hb6 hg6 hat6
      have HO6 : Hid (OwnB w6 D v6 (restR (R.take 0) rr)) := Lib.hid (by simpa [restR] using hO6)
      have S2 := Lib.hid (S1.out.step (below_none hg6))
      clear hO6 hb6 hg6 hat6 S1 hD5
      go_wp2_with fail
      go_loopw [16, 136] (fun v i wq => ∃ k : Nat, k ≤ Z ∧ i = .int .i64 k ∧ Hid (OwnB wq D v (restR (R.take k) rr)) ∧ Hid (Sx wr wq [eRdM aR Z R, eSpR G gs n o R, eRd ar n (cellsB rr)])) (fun _ i _ => Z - (intOf i).toNat)
      case atStart => exact ⟨0, by omega, rfl, HO6, S2⟩
      case round =>
        clear HO6 S2
        rename World => wo
        obtain ⟨k, hk, rfl, HO, S2⟩ := hrel
        have hDr : D ≤ wo.heap.size := by have := S2.out.1.size; have := HD.out; omega
        have hwt : Wf n (R.take k) := fun l hl => HRed.out.wf l (List.mem_of_mem_take hl)
        obtain ⟨hlo, hbo⟩ := restR_wf hwt HRL.out HRB.out
        by_cases hkZ : k < Z
        · have hkZI : (k : Int) < (Z : Int) := by omega
          have hkR : k < R.length := by rw [HZ.out]; exact hkZ
          obtain ⟨b2, o2, a2, c2, rfl, hb2, hcell2, hrd2, -⟩ := (S2.out.rdM 0 rfl).at hkZ
          have hgr := HRed.out.wf.get hkR
          rw [hgr.1] at hcell2 hrd2
          obtain ⟨hl1, hl2⟩ := HRed.out.leadI hkR
          have CL := Lib.hid (ref_lead (R.getD k []) _ a2 n c2 wo hrd2 hgr.2 (by unfold maxLen; omega))
          rw [hl1] at CL
          have HST : Hid (restR (R.take (k + 1)) rr = axL ((restR (R.take k) rr).getD (leadN (R.getD k [])) 0) (R.getD k []) (restR (R.take k) rr)) := Lib.hid (by rw [take_snoc hkR, restR_snoc])
          obtain ⟨ao, co, rfl, hro, -⟩ := HO.out.rd2 hlo
          obtain ⟨b1, o1, rfl, hb1, hcc⟩ := Rd.atB hro (k := leadN (R.getD k [])) hl2
          have cq := hcc _ hl2
          have hq256 := getD_lt hbo (leadN (R.getD k []))
          have CA := Lib.hid fun j => ref_axpy ((restR (R.take k) rr).getD (leadN (R.getD k [])) 0) (R.getD k []) (restR (R.take k) rr) wo.heap.size a2 (some ⟨b1, o1, none⟩) n c2 co (wo.drewN j) hq256 (hrd2.below (below_drewN (Below.refl wo.heap.size wo) j) (Nat.le_refl _)) (Rd.below hro (below_drewN (Below.refl wo.heap.size wo) j) (Nat.le_refl _)) (Nat.le_refl _) hgr.2 hbo (by omega)
          rw [← HST.out] at CA
          clear hcc hrd2 hgr hl1 hro hlo hbo hwt HST HO hq256
          generalize (restR (R.take k) rr).getD (leadN (R.getD k [])) 0 = q at *
          generalize leadN (R.getD k []) = l at *
          have hlN : (l : Int) < (n : Int) := by omega
          go_wp2_with fail
          refine CL.out.mono ?_
          rintro e w7 ⟨rfl, j7, rfl⟩
          go_wp2_with fail
          refine (CA.out _).mono ?_
          rintro e w8 ⟨v8, rfl, hO8, hb8⟩
          have HO8 : Hid (OwnB w8 D v8 (restR (R.take (k + 1)) rr)) := Lib.hid (hO8.base hDr)
          have S3 := Lib.hid ((S2.out.drewN j7).step hb8)
          clear hO8 hb8 S2 CL CA cq
          go_wp2_with fail
          go_roundw
          case rel => first | exact ⟨k + 1, by omega, by go_num, HO8, S3⟩ | ((repeat apply Exists.intro); exact ⟨⟨k + 1, by omega, by go_num, HO8, S3⟩, rfl⟩)
          case measure => simp [intOf]; omega
        · obtain rfl : k = Z := by omega
          rw [List.take_of_length_le (by rw [HZ.out]; exact Nat.le_refl _)] at HO hlo hbo
          obtain ⟨aw, cw, rfl, hw, -⟩ := HO.out.rd2 hlo
          have S3 := Lib.hid (S2.out.add (eRd aw n (cellsB (restR R rr))) hw)
          have HYL := Lib.hid hlo
          clear hw HO S2 hwt hlo hbo
          -- [want, m, s, r]
          have CR := Lib.hid (span_rest G gs n o R ls rr ar cr wo (S3.out.spR 2 rfl) HRed.out (S3.out.rd 3 rfl) HNR.out HRB.out hn)
          have hRw : Wf n R := HRed.out.wf
          have HRW := Lib.hid hRw
          have HRl : Hid (∀ l ∈ R, l.length ≤ 1000000) := Lib.hid (fun l hl => by have := (HRW.out l hl).1; omega)
          have hRl : R.length ≤ 64 := by rw [HZ.out]; exact hZ64
          have HRl2 := Lib.hid hRl
          clear hRw hRl
          generalize restR R rr = y at *
          go_wp2_with fail
          refine CR.out.mono ?_
          rintro e wA ⟨v, rfl, hO, hb⟩
          obtain ⟨ay, cy, rfl, hY, -⟩ := hO.rd2 HYL.out
          have S4 := Lib.hid ((S3.out.step hb).add (eRd ay n (cellsB y)) hY)
          clear hO hb hY S3 CR
          -- [left, want, m, s, r]
          go_wp2_with (at_builtin; refine wp_appB (w := wA) (C := wA.heap.size) (v := .slice none 0 0) (xs := []) (ys := rr) rfl _ _ rfl (OwnB.nil _ _) (Nat.le_refl _) hn0 rfl rfl HNR.out (S4.out.rd 4 rfl) ?_)
          intro vB wB hOB hbB hgB hatB
          have HOB := Lib.hid hOB
          have hsB : wA.heap.size ≤ wB.heap.size := hbB.size
          have HBB := Lib.hid hbB
          have hrm : ([] ++ rr).length ≤ 1000000 := by simp; have := HRL.out; omega
          clear hOB hbB hgB hatB
          go_wp2_with (at_builtin; refine wp_appB1 (w := wB) (C := wA.heap.size) (y := 1) rfl _ _ rfl rfl HOB.out hsB hrm rfl rfl ?_)
          intro vC wC hOC hbC
          have S5 := Lib.hid (S4.out.step (HBB.out.trans hbC))
          have hlC : ([] ++ rr ++ [1]).length = n + 1 := by simp; exact HRL.out
          obtain ⟨aC, cC, rfl, -⟩ := hOC.rd2 hlC
          clear hOC hbC hlC HOB HBB S4 hsB
          go_wp2_with fail
          refine (span_rest_un G gs n (n + 1) o R aC cC wC (S5.out.spR 3 rfl) (by omega)).mono ?_
          rintro e wD ⟨rfl, rfl⟩
          go_wp2_with fail
          refine (same_B y ay aw n cy cw wC (S5.out.rd 0 rfl) (S5.out.rd 1 rfl) (by omega)).mono ?_
          rintro e wE ⟨rfl, jE, rfl⟩
          have S6 := Lib.hid (S5.out.drewN jE)
          clear S5
          generalize wC.drewN jE = wE at *
          go_wp2_with fail
          refine (span_rows G gs n o R wE (S6.out.spR 3 rfl) HRW.out hn HRl2.out).mono ?_
          rintro e wF ⟨v, rfl, hM, hb⟩
          obtain ⟨aF, cF, rfl, hM1, -, -, -⟩ := hM.rdM2 HZ.out
          have S7 := Lib.hid ((S6.out.step hb).add (eRdM aF k R) hM1)
          clear hM hb hM1 S6
          -- [rows, left, want, m, s, r]
          go_wp2_with fail
          refine (keep_rows R aF aR k cF cR wF (S7.out.rdM 0 rfl) (S7.out.rdM 3 rfl) (by omega) HRl.out).mono ?_
          rintro e wH ⟨rfl, jH, rfl⟩
          have S8 := Lib.hid (S7.out.drewN jH)
          clear S7
          generalize wF.drewN jH = wH at *
          go_wp2_with (at_builtin; refine wpList_open (by rfl) ?_; refine wp_appB (w := wH) (C := wH.heap.size) (v := .slice none 0 0) (xs := []) (ys := rr) rfl _ _ rfl (OwnB.nil _ _) (Nat.le_refl _) hn0 rfl rfl HNR.out (S8.out.rd 5 rfl) ?_)
          intro vI wI hOI hbI hgI hatI
          have HOI := Lib.hid hOI
          have hsI : wH.heap.size ≤ wI.heap.size := hbI.size
          have HBI := Lib.hid hbI
          clear hOI hbI hgI hatI
          go_wp2_with (at_builtin; refine wpList_open (by rfl) ?_; refine wp_appB1 (w := wI) (C := wH.heap.size) (y := 0) rfl _ _ rfl rfl HOI.out hsI hrm rfl rfl ?_)
          intro vJ wJ hOJ hbJ
          have S9 := Lib.hid (S8.out.step (HBI.out.trans hbJ))
          have hlJ : ([] ++ rr ++ [0]).length = n + 1 := by simp; exact HRL.out
          obtain ⟨aJ, cJ, rfl, -⟩ := hOJ.rd2 hlJ
          clear hOJ hbJ hlJ HOI HBI S8 hsI
          go_wp2_with fail
          refine (span_has_un G gs n (n + 1) o R aJ cJ wJ (S9.out.spR 4 rfl) (by omega)).mono ?_
          rintro e wK ⟨rfl, rfl⟩
          go_wp2_with fail
          refine (wakes04 _).mono ?_
          rintro e wL ⟨rfl, hb⟩
          have S10 := Lib.hid (S9.out.step hb)
          clear hb S9
          go_wp2_with fail
          go_ret
          exact ⟨rfl, by rw [HG.out]; exact HBE.out.trans (S10.out.1.mono (by rw [HD.out]; exact hsz))⟩

theorem spanPlays_walk (w : World) (n0 : Int) (hn0 : -9223372036854775808 ≤ n0 ∧ n0 ≤ 9223372036854775807) (a : Option Addr) (len cap : Nat) (M0 : List (List Nat)) (hM0 : RdM w w.heap.size a len M0) (hc : len ≤ cap ∧ cap ≤ maxLen ∧ (a = none → cap = 0)) (hby : ∀ l ∈ M0, By l)
    (b : Option Addr) (len2 cap2 : Nat) (zs2 : List Int) (hr2 : Rd w w.heap.size b len2 (zs2.map (Value.int .u8))) (hd : len2 ≤ cap2 ∧ cap2 ≤ maxLen ∧ (b = none → cap2 = 0)) (hz2 : ∀ z ∈ zs2, (Lit.int .u8 z).wf = true) :
    Calls Try.prog 21 #[.int .i64 n0, .slice a len cap, .slice b len2 cap2] w fun e w' => e = .returned (.bool true) ∧ Below w.heap.size w w' := by
  by_cases hn : 0 ≤ n0 ∧ n0 ≤ 64
  · obtain ⟨n, rfl⟩ := Int.eq_ofNat_of_zero_le hn.1
    by_cases hl : 24 < len
    · exact plays_long w n (by omega) a len cap hl _
    · obtain ⟨ys, hys, hby2⟩ := bytes_of hz2
      rw [hys] at hr2
      exact plays_in w n (by omega) a len cap M0 hM0 (by omega) hc hby b len2 cap2 ys hr2 hd hby2
  · exact plays_out w n0 (by omega) _ _
end Go.Proofs.Ytfbhbjhfebkpfaa
