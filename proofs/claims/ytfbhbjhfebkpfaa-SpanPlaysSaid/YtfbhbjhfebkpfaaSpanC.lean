/- Contracts of the package span: New, Rest, Has, Rank, Rows, and of a nil span. -/
import Derived.Test.YtfbhbjhfebkpfaaSpanA
import Derived.Test.YtfbhbjhfebkpfaaSpanN
namespace Go.Proofs.Ytfbhbjhfebkpfaa
open Go.RowKit
set_option linter.unusedVariables false

theorem blk3s {w : World} {g : Nat} {t : TypeId} {x y z : Value} (h : Blk w g t #[x, y, z]) : w.cell? ⟨g, 0, none⟩ = some x ∧ w.cell? ⟨g, 1, none⟩ = some y ∧ w.cell? ⟨g, 2, none⟩ = some z := ⟨h.cell 0, h.cell 1, h.cell 2⟩
theorem Red.cnt {n : Nat} {R : List (List Nat)} {ls : List Nat} (h : Red n R ls) : R.length ≤ n := by
  have := (rref_len h.wf).1
  rwa [rref_id h] at this
theorem Red.leadI {n : Nat} {R : List (List Nat)} {ls : List Nat} (h : Red n R ls) {i : Nat} (hi : i < R.length) : leadI (R.getD i []) = ((leadN (R.getD i []) : Nat) : Int) ∧ leadN (R.getD i []) < n := by
  obtain ⟨h1, h2, _⟩ := h.at hi
  obtain ⟨h3, _⟩ := h.lead_at hi
  rw [h3]; exact ⟨h1, h2⟩
theorem take_snoc {M : List (List Nat)} {k : Nat} (h : k < M.length) : M.take (k + 1) = M.take k ++ [M.getD k []] := by
  rw [List.take_succ_eq_append_getElem h, List.getD_eq_getElem?_getD, List.getElem?_eq_getElem h]; rfl

set_option maxRecDepth 100000 in
set_option maxHeartbeats 1000000 in
theorem span_new (gf n : Nat) (w : World) (hF : Fld w gf) (hn : n ≤ 64) :
    Calls Try.prog 72 #[.pointer (some ⟨gf, 0, none⟩), .int .i64 n] w fun e w' => ∃ g, e = .returned (.pointer (some ⟨g, 0, none⟩)) ∧ w.heap.size ≤ g ∧ SpR w' w.heap.size g n none [] ∧ Below w.heap.size w w' := by
  have h1 : ¬ (n : Int) < 0 := by omega
  have h2 : ¬ (n : Int) > 64 := by omega
  have HF := Lib.hid hF
  clear hF
  go_enter Try.func72, Try.ntmps72
  go_wp2_with fail
  go_ret
  exact ⟨_, rfl, Nat.le_refl _, ⟨Nat.le_refl _, gf, none, 0, Blk.new _ _ _, Blk.alloc HF.out _, MOwn.nil _ _, rfl⟩, (Below.refl _ _).alloc (Nat.le_refl _) _⟩

set_option maxRecDepth 100000 in
set_option maxHeartbeats 4000000 in
theorem span_rest (C g n : Nat) (o : Option Nat) (R : List (List Nat)) (ls r : List Nat) (a : Option Addr) (c : Nat) (w : World) (hS : SpR w C g n o R) (hR : Red n R ls) (hx : Rd w w.heap.size a n (cellsB r)) (hnil : a = none → c = 0) (hb : By r) (hn : n ≤ 64) :
    Calls Try.prog 79 #[.pointer (some ⟨g, 0, none⟩), .slice a n c] w fun e w' => ∃ v, e = .returned (.tuple #[v, .bool true]) ∧ OwnB w' w.heap.size v (restR R r) ∧ Below w.heap.size w w' := by
  obtain ⟨_, gf, av, cv, hB, hF, hM, _⟩ := hS
  obtain ⟨c0, c1, c2⟩ := blk3s hB
  have CC := Lib.hid (bytes_clone r _ a n c w hx (Nat.le_refl _) hnil (by omega))
  have HM := Lib.hid hM.rdM
  have HBk := Lib.hid hB
  have hglt := hB.lt
  have HF := Lib.hid hF
  have HR := Lib.hid hR
  have HBr := Lib.hid hb
  have HLr : Hid (r.length = n) := Lib.hid (by have := hx.len; rwa [cellsB_len] at this)
  obtain ⟨K, hK⟩ : ∃ K, R.length = K := ⟨_, rfl⟩
  have hKn : K ≤ n := by rw [← hK]; exact hR.cnt
  rw [hK] at HM c2
  have HK := Lib.hid hK
  have hnn : ((n : Int) != (n : Int)) = false := by simp
  clear hB hF hM hx hnil hR hb hK HBk
  have HBk := Lib.hid (And.intro c0 c2)
  go_enter Try.func79, Try.ntmps79
  go_wp2_with fail
  refine CC.out.mono ?_
  rintro e w1 ⟨v, rfl, ho, hb1⟩
  have HO : Hid (OwnB w1 w.heap.size v (restR (R.take 0) r)) := Lib.hid (by simpa [restR] using ho)
  have k0 := (hb1.cell (p := ⟨g, 0, none⟩) hglt).trans c0
  have k2 := (hb1.cell (p := ⟨g, 2, none⟩) hglt).trans c2
  have HB1 := Lib.hid hb1
  clear ho hb1 CC c0 c1 c2
  generalize hG : w.heap.size = G at *
  have HG := Lib.hid hG
  clear hG
  go_wp2_with fail
  clear k0 k2
  go_loopw [6, 8, 9, 28, 39] (fun v _ _ i _ wr => ∃ k : Nat, k ≤ K ∧ i = .int .i64 k ∧ Hid (OwnB wr G v (restR (R.take k) r)) ∧ Hid (Below G w wr)) (fun _ _ _ i _ _ => K - (intOf i).toNat)
  case atStart => exact ⟨0, by omega, rfl, HO, HB1⟩
  case round =>
    clear HO HB1
    obtain ⟨k, hk, rfl, HO, HB⟩ := hrel
    have hGr : G ≤ wr.heap.size := by have := HB.out.size; have := HG.out; omega
    have hwt : Wf n (R.take k) := fun l hl => HR.out.wf l (List.mem_of_mem_take hl)
    obtain ⟨hlo, hbo⟩ := restR_wf hwt HLr.out HBr.out
    obtain ⟨ao, co, e0, hro⟩ := HO.out.rd
    rw [hlo] at e0 hro
    by_cases hlt : k < K
    · have hltI : (k : Int) < (K : Int) := by omega
      have hkR : k < R.length := by rw [HK.out]; exact hlt
      obtain ⟨bh, oh, ax, cx, rfl, hbh, hcell, hrd, -⟩ := HM.out.at hlt
      have hg := HR.out.wf.get hkR
      rw [hg.1] at hcell hrd
      have hcell' := (HB.out.cell (p := ⟨bh, oh + k, none⟩) hbh).trans hcell
      have hrd' := hrd.below HB.out (Nat.le_refl _)
      obtain ⟨hl1, hl2⟩ := HR.out.leadI hkR
      have CL := Lib.hid fun (w : World) (hr : Rd w G ax n (cellsB (R.getD k []))) => row_lead (R.getD k []) G ax n cx w hr hg.2 (by unfold maxLen; omega)
      rw [hl1] at CL
      have HST : Hid (restR (R.take (k + 1)) r = axL ((restR (R.take k) r).getD (leadN (R.getD k [])) 0) (R.getD k []) (restR (R.take k) r)) := Lib.hid (by rw [take_snoc hkR, restR_snoc])
      have HRD := Lib.hid hrd'
      have HX := Lib.hid hg
      have HRO := Lib.hid hro
      have HLO := Lib.hid hlo
      have HBO := Lib.hid hbo
      subst e0
      clear hcell hrd hrd' hl1 hwt hro hlo hbo hg
      generalize hQ1 : restR (R.take (k + 1)) r = Q' at *
      have HQ1 := Lib.hid hQ1
      clear hQ1
      generalize restR (R.take k) r = Q at *
      generalize R.getD k [] = x at *
      generalize hL : leadN x = L at *
      have HL := Lib.hid hL
      clear hL
      go_wp2_with fail
      refine (CL.out _ HRD.out).mono ?_
      rintro e w2 ⟨rfl, j, rfl⟩
      have hLI : (L : Int) < (n : Int) := by omega
      obtain ⟨b1, o1, rfl, hb1, hcc⟩ := HRO.out.atB (k := L) hl2
      have cq := hcc L hl2
      clear hcc
      generalize hq : Q.getD L 0 = q at *
      have HQ := Lib.hid hq
      clear hq
      by_cases hq0 : q = 0
      · subst hq0
        have HO2 : Hid (OwnB (wr.drewN j) G (.slice (some ⟨b1, o1, none⟩) n co) Q') := Lib.hid (by rw [HST.out, axL_zero (by rw [HX.out.1, HLO.out])]; exact HO.out)
        have HB2 : Hid (Below G w (wr.drewN j)) := Lib.hid (below_drewN HB.out j)
        clear HST
        go_wp2_with fail
        go_roundw
        case rel => first | exact ⟨k + 1, by omega, by go_num, by rw [HQ1.out]; exact HO2, HB2⟩ | ((repeat apply Exists.intro); exact ⟨⟨k + 1, by omega, by go_num, HO2, HB2⟩, rfl⟩)
        case measure => simp [intOf]; omega
      · have hqz : ((q : Int) != 0) = true := by simp; omega
        have hq256 : q < 256 := by rw [← HQ.out]; exact getD_lt HBO.out L
        have k0 := (HB.out.cell (p := ⟨g, 0, none⟩) hglt).trans HBk.out.1
        have CA := Lib.hid (row_axpy (some ⟨gf, 0, none⟩) q x Q ax (some ⟨b1, o1, none⟩) n cx co (wr.drewN j) (Fp.of (Blk.drewN (HF.out.below HB.out (by have := Blk.lt HF.out; rw [HG.out] at this; exact this)) j)) hq256 (HRD.out.more hGr) HRO.out HX.out.2 HBO.out (by omega))
        rw [← HST.out] at CA
        clear HST
        go_wp2_with fail
        refine CA.out.mono ?_
        rintro e w3 ⟨v3, rfl, ho3, hb3⟩
        have HO3 : Hid (OwnB w3 G v3 Q') := Lib.hid (OwnB.base ho3 hGr)
        have HB3 : Hid (Below G w w3) := Lib.hid ((below_drewN HB.out j).trans (hb3.mono hGr))
        clear ho3 hb3 CA k0
        go_wp2_with fail
        go_roundw
        case rel => first | exact ⟨k + 1, by omega, by go_num, by rw [HQ1.out]; exact HO3, HB3⟩ | ((repeat apply Exists.intro); exact ⟨⟨k + 1, by omega, by go_num, HO3, HB3⟩, rfl⟩)
        case measure => simp [intOf]; omega
    · obtain rfl : k = K := by omega
      rw [List.take_of_length_le (by rw [HK.out]; exact Nat.le_refl _)] at HO
      go_wp2_with fail
      go_ret2
      exact ⟨_, rfl, by rw [HG.out]; exact HO.out, by rw [HG.out]; exact HB.out⟩

set_option maxRecDepth 100000 in
set_option maxHeartbeats 1000000 in
theorem span_rest_un (C g n m : Nat) (o : Option Nat) (R : List (List Nat)) (a : Option Addr) (c : Nat) (w : World) (hS : SpR w C g n o R) (hne : m ≠ n) :
    Calls Try.prog 79 #[.pointer (some ⟨g, 0, none⟩), .slice a m c] w fun e w' => e = .returned (.tuple #[.slice none 0 0, .bool false]) ∧ w = w' := by
  obtain ⟨_, gf, av, cv, hB, hF, hM, _⟩ := hS
  obtain ⟨c0, c1, c2⟩ := blk3s hB
  have hnn : ((m : Int) != (n : Int)) = true := by simp; omega
  clear hB hF hM
  go_enter Try.func79, Try.ntmps79
  go_wp2_with fail
  go_ret2
  exact ⟨rfl, rfl⟩

set_option maxRecDepth 100000 in
set_option maxHeartbeats 1000000 in
theorem span_has (C g n : Nat) (o : Option Nat) (R : List (List Nat)) (ls r : List Nat) (a : Option Addr) (c : Nat) (w : World) (hS : SpR w C g n o R) (hR : Red n R ls) (hx : Rd w w.heap.size a n (cellsB r)) (hnil : a = none → c = 0) (hb : By r) (hn : n ≤ 64) :
    Calls Try.prog 78 #[.pointer (some ⟨g, 0, none⟩), .slice a n c] w fun e w' => e = .returned (.bool (decide (leadI (restR R r) < 0))) ∧ Below w.heap.size w w' := by
  have CR := Lib.hid (span_rest C g n o R ls r a c w hS hR hx hnil hb hn)
  obtain ⟨hlo, hbo⟩ := restR_wf hR.wf (by have := hx.len; rwa [cellsB_len] at this) hb
  generalize restR R r = q at *
  have HLO := Lib.hid hlo
  have HBO := Lib.hid hbo
  clear hS hR hx hb hlo hbo
  go_enter Try.func78, Try.ntmps78
  go_wp2_with fail
  refine CR.out.mono ?_
  rintro e w1 ⟨v, rfl, ho, hb1⟩
  obtain ⟨a1, c1, rfl, hr1⟩ := ho.rd
  have HR1 := Lib.hid hr1
  have HB1 := Lib.hid hb1
  clear ho hr1 hb1 CR
  have hqm : q.length ≤ maxLen := by rw [HLO.out]; unfold maxLen; omega
  go_wp2_with fail
  refine (row_lead q _ a1 q.length c1 w1 HR1.out HBO.out hqm).mono ?_
  rintro e w2 ⟨rfl, j, rfl⟩
  go_wp2_with fail
  go_ret
  exact ⟨by first | rfl | (congr 2), below_drewN HB1.out j⟩
theorem span_has_un (C g n m : Nat) (o : Option Nat) (R : List (List Nat)) (a : Option Addr) (c : Nat) (w : World) (hS : SpR w C g n o R) (hne : m ≠ n) :
    Calls Try.prog 78 #[.pointer (some ⟨g, 0, none⟩), .slice a m c] w fun e w' => e = .returned (.bool false) ∧ w = w' := by
  have CR := Lib.hid (span_rest_un C g n m o R a c w hS hne)
  clear hS
  go_enter Try.func78, Try.ntmps78
  go_wp2_with fail
  refine CR.out.mono ?_
  rintro e w1 ⟨rfl, rfl⟩
  go_wp2_with fail
  go_ret
  exact ⟨rfl, rfl⟩
theorem span_rank (C g n : Nat) (o : Option Nat) (R : List (List Nat)) (w : World) (hS : SpR w C g n o R) :
    Calls Try.prog 74 #[.pointer (some ⟨g, 0, none⟩)] w fun e w' => e = .returned (.int .i64 (R.length : Nat)) ∧ w = w' := by
  obtain ⟨_, gf, av, cv, hB, hF, hM, _⟩ := hS
  obtain ⟨c0, c1, c2⟩ := blk3s hB
  clear hB hF hM
  go_enter Try.func74, Try.ntmps74
  go_wp2_with fail
  go_ret
  exact ⟨rfl, rfl⟩
set_option maxRecDepth 100000 in
set_option maxHeartbeats 4000000 in
theorem span_rows (C g n : Nat) (o : Option Nat) (R : List (List Nat)) (w : World) (hS : SpR w C g n o R) (hW : Wf n R) (hn : n ≤ 64) (hl : R.length ≤ 64) :
    Calls Try.prog 75 #[.pointer (some ⟨g, 0, none⟩)] w fun e w' => ∃ v, e = .returned v ∧ MOwn w' w.heap.size v R ∧ Below w.heap.size w w' := by
  obtain ⟨_, gf, av, cv, hB, hF, hM, _⟩ := hS
  obtain ⟨c0, c1, c2⟩ := blk3s hB
  have HM := Lib.hid hM.rdM
  have HW := Lib.hid hW
  obtain ⟨K, hK⟩ : ∃ K, R.length = K := ⟨_, rfl⟩
  rw [hK] at HM c2 hl
  have HK := Lib.hid hK
  clear hB hF hM hK hW
  generalize hG : w.heap.size = G at *
  have HG := Lib.hid hG
  clear hG
  have HO0 : Hid (MOwn w G (.slice none 0 0) (R.take 0)) := Lib.hid (by rw [List.take_zero]; exact MOwn.nil _ _)
  have HB0 : Hid (Below G w w) := Lib.hid (Below.refl _ _)
  go_enter Try.func75, Try.ntmps75
  go_wp2_with fail
  clear c0 c1 c2
  go_loopw [3, 5, 13] (fun v _ i wr => ∃ k : Nat, k ≤ K ∧ i = .int .i64 k ∧ Hid (MOwn wr G v (R.take k)) ∧ Hid (Below G w wr)) (fun _ _ i _ => K - (intOf i).toNat)
  case atStart => exact ⟨0, by omega, rfl, HO0, HB0⟩
  case round =>
    clear HO0 HB0
    obtain ⟨k, hk, rfl, HO, HBL⟩ := hrel
    have hGr : G ≤ wr.heap.size := by have := HBL.out.size; have := HG.out; omega
    by_cases hlt : k < K
    · have hltI : (k : Int) < (K : Int) := by omega
      have hkR : k < R.length := by rw [HK.out]; exact hlt
      obtain ⟨bh, oh, ax, cx, rfl, hbh, hcell, hrd, hnil, -⟩ := HM.out.at hlt
      have hg := HW.out.get hkR
      rw [hg.1] at hcell hrd
      have hcell' := (HBL.out.cell (p := ⟨bh, oh + k, none⟩) hbh).trans hcell
      have CC := Lib.hid (bytes_clone (R.getD k []) G ax n cx wr (hrd.below HBL.out (Nat.le_refl _)) hGr hnil (by omega))
      have HTK := Lib.hid (take_snoc hkR)
      have hmt : (R.take k).length ≤ 1000000 := by rw [List.length_take, HK.out]; omega
      clear hcell hrd hg hnil
      generalize R.getD k [] = x at *
      go_wp2_with fail
      refine CC.out.mono ?_
      rintro e w2 ⟨u, rfl, hu, hb2⟩
      obtain ⟨ua, uc, rfl, _⟩ := hu.rd
      have HU := Lib.hid hu
      have HB2 := Lib.hid hb2
      clear hu hb2 CC
      go_wp2_with (at_builtin; refine wp_appRow (w0 := wr) (w1 := w2) rfl _ _ rfl HO.out HB2.out HU.out hGr hmt rfl rfl ?_)
      intro v' w3 hM3 hb3 hg3 hat
      rw [← HTK.out] at hM3
      have HM3 := Lib.hid hM3
      have HB3 := Lib.hid (HBL.out.trans hb3)
      clear hM3 hb3 hg3 hat HO HB2 HU HTK
      go_wp2_with fail
      go_roundw
      case rel => first | exact ⟨k + 1, by omega, by go_num, HM3, HB3⟩ | ((repeat apply Exists.intro); exact ⟨⟨k + 1, by omega, by go_num, HM3, HB3⟩, rfl⟩)
      case measure => simp [intOf]; omega
    · obtain rfl : k = K := by omega
      rw [List.take_of_length_le (by rw [HK.out]; exact Nat.le_refl _)] at HO
      go_wp2_with fail
      go_ret
      exact ⟨_, rfl, HO.out, HBL.out⟩
end Go.Proofs.Ytfbhbjhfebkpfaa
