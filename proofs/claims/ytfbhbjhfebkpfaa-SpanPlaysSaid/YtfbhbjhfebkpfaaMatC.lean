/- Contract of mat.reduce. -/
import Derived.Test.YtfbhbjhfebkpfaaMatB
import Derived.Deep.DeepCutAuto
namespace Go.Proofs.Ytfbhbjhfebkpfaa
open Go.RowKit
set_option linter.unusedVariables false

theorem MOwn.at2 {w : World} {C g n c : Nat} {M : List (List Nat)} (h : MOwn w C (.slice (some ⟨g, 0, none⟩) n c) M) {i : Nat} (hi : i < n) {r : Nat} (hr : (M.getD i []).length = r) :
    ∃ a' c', w.cell? ⟨g, i, none⟩ = some (.slice a' r c') ∧ w.frozen? ⟨g, i, none⟩ = false ∧ OwnB w C (.slice a' r c') (M.getD i []) := by
  have := h.at hi
  rw [hr] at this
  exact this
/-- Two rows: what is written into one leaves the other. -/
theorem MOwn.two {w : World} {C g n c : Nat} {M : List (List Nat)} (h : MOwn w C (.slice (some ⟨g, 0, none⟩) n c) M) {i j : Nat} (hi : i < n) (hj : j < n) (hne : i ≠ j) {ui uj : Value} (hci : w.cell? ⟨g, i, none⟩ = some ui) (hcj : w.cell? ⟨g, j, none⟩ = some uj) :
    OwnB w C ui (M.getD i []) ∧ ∀ w', w.grownBy w' uj.ownBlock → OwnB w' C ui (M.getD i []) := by
  have hl := h.len
  obtain ⟨vs, h⟩ := h
  have hd := h.hd
  rw [hl] at hd
  have hui : vs[i]? = some ui := by rw [← hd.cellAt i (by omega)]; exact hci
  have huj : vs[j]? = some uj := by rw [← hd.cellAt j (by omega)]; exact hcj
  have ho := (h.of hui).1
  exact ⟨ho, fun w' hg => ho.kept hg (h.apart i j ui uj hne hui huj)⟩
theorem fld_grown {w w' : World} {C gf : Nat} {u : Value} {l : List Nat} (hF : Fld w gf) (ho : OwnB w C u l) (hg : w.grownBy w' u.ownBlock) : Fld w' gf := by
  refine Blk.grown hF hg ?_
  rcases ho.2 with ⟨h1, _⟩ | ⟨g', cap, cur, h1, _, hb, _⟩
  · rw [h1]; simp [Value.ownBlock]
  · rw [h1]
    have : gf ≠ g' := Blk.ne (t := 100) (t' := 5) hF hb (by decide)
    simpa [Value.ownBlock] using this
theorem fld_hd {w : World} {C g n c gf : Nat} {M : List (List Nat)} (h : MOwn w C (.slice (some ⟨g, 0, none⟩) n c) M) (hF : Fld w gf) : gf ≠ g := by
  obtain ⟨vs, h⟩ := h
  rcases h.hd.2 with ⟨h1, _⟩ | ⟨g', cap, cur, h1, _, hb, _⟩
  · simp at h1
  · injection h1 with h1
    injection h1 with h1
    injection h1 with h1
    subst h1
    exact Blk.ne (t := 100) (t' := 49) hF hb (by decide)
theorem below_grownBy {w w' : World} {C : Nat} {u : Value} (h : w.grownBy w' u.ownBlock) (hu : ∀ g, u.ownBlock = some g → C ≤ g) (hC : C ≤ w.heap.size) : Below C w w' := (Below.refl _ _).grown h hC hu

set_option maxRecDepth 100000 in
set_option maxHeartbeats 8000000 in
theorem mat_reduce (gf n m cols c C : Nat) (M : List (List Nat)) (a : Option Addr) (w : World) (hF : Fld w gf) (h : MOwn w C (.slice a m c) M) (hW : Wf n M) (hcol : cols ≤ n) (hC : C ≤ w.heap.size) (hm : m ≤ 1000000) (hn : n ≤ 1000000) :
    Calls Try.prog 89 #[.pointer (some ⟨gf, 0, none⟩), .slice a m c, .int .i64 cols] w fun e w' => e = .returned (.int .i64 ((redF M cols).2 : Nat)) ∧ MOwn w' C (.slice a m c) (redF M cols).1 ∧ Below C w w' := by
  have HW := Lib.hid hW
  have HM : Hid (MOwn w C (.slice a m c) (redF M 0).1) := Lib.hid h
  have HF := Lib.hid hF
  have HLM := Lib.hid h.len
  clear hW h hF
  go_enter Try.func89, Try.ntmps89
  go_wp2_with fail
  go_loopw [7, 8, 9, 10, 12] (fun top _ _ _ i wr => ∃ k : Nat, k ≤ cols ∧ i = .int .i64 k ∧ top = .int .i64 ((redF M k).2 : Nat) ∧ Hid (MOwn wr C (.slice a m c) (redF M k).1) ∧ Hid (Fld wr gf) ∧ Hid (Below C w wr)) (fun _ _ _ _ i _ => cols - (intOf i).toNat)
  case atStart => exact ⟨0, by omega, rfl, rfl, HM, HF, Lib.hid (Below.refl _ _)⟩
  case round =>
    clear HM HF
    obtain ⟨k, hk, rfl, rfl, HM, HF, HB⟩ := hrel
    by_cases hlt : k < cols
    · obtain ⟨ls, hinv⟩ := redF_inv HW.out k
      have hw1 := hinv.wf
      have hle := hinv.le
      rw [redF_len, HLM.out] at hle
      have hl1 : (redF M k).1.length = m := by rw [redF_len]; exact HLM.out
      have hst : redF M (k + 1) = stepM (redF M k).1 (redF M k).2 k := rfl
      have HST := Lib.hid hst
      clear hst hinv
      generalize (redF M k).1 = M1 at *
      generalize (redF M k).2 = t at *
      have HW1 := Lib.hid hw1
      have HL1 := Lib.hid hl1
      have CB := Lib.hid (mat_begins n m t k M1 wr.heap.size a c wr HM.out.rdM hw1 (by omega) hle hm hn)
      clear hw1 hl1
      have hlt' : (k : Int) < (cols : Int) := by omega
      cases hf : fndF M1 k t (m - t) with
      | none =>
        have e1 : begI M1 k t (m - t) = -1 := by unfold begI; rw [hf]
        rw [e1] at CB
        have e2 : redF M (k + 1) = (M1, t) := by rw [HST.out]; unfold stepM; rw [HL1.out, hf]
        have E2 := Lib.hid e2
        clear e1 e2 hf HST
        go_wp2_with fail
        refine CB.out.mono ?_
        rintro e w2 ⟨rfl, rfl⟩
        go_wp2_with fail
        go_roundw
        case rel => exact ⟨k + 1, by omega, by go_num, by rw [E2.out], by rw [E2.out]; exact HM, HF, HB⟩
        case measure => simp [intOf]; omega
      | some p =>
        obtain ⟨p1, p2, p3, -⟩ := fndF_some _ _ _ hf
        have hpm : p < m := by omega
        have htm : t < m := by omega
        have e1 : begI M1 k t (m - t) = p := by unfold begI; rw [hf]
        rw [e1] at CB
        have e2 : redF M (k + 1) = (elimTo (pivM M1 t k p) t k m, t + 1) := by rw [HST.out]; unfold stepM; rw [HL1.out, hf]
        have E2 := Lib.hid e2
        clear e1 e2 hf HST
        obtain ⟨g, rfl, hgC, hgs⟩ := HM.out.form (by omega)
        obtain ⟨at_, ct, hct, hft, hot⟩ := HM.out.at2 htm (HW1.out.get (by rw [HL1.out]; exact htm)).1
        obtain ⟨ap, cp, hcp, hfp, hop⟩ := HM.out.at2 hpm (HW1.out.get (by rw [HL1.out]; exact hpm)).1
        have HS := Lib.hid (HM.out.swap htm hpm hct hcp)
        have hp0 : ¬ ((p : Int) < 0) := by omega
        have htI : (t : Int) < (m : Int) := by omega
        have hpI : (p : Int) < (m : Int) := by omega
        go_wp2_with fail
        refine CB.out.mono ?_
        rintro e w2 ⟨rfl, rfl⟩
        obtain ⟨N, hN⟩ : ∃ N, N = swp M1 t p := ⟨_, rfl⟩
        have e3 : pivM M1 t k p = N.set t (scL (fi (gt N t k)) (N.getD t [])) := by rw [hN]; rfl
        have hNl : N.length = m := by rw [hN, swp_len]; exact HL1.out
        have hNw : Wf n N := by
          rw [hN]
          refine wf_of fun i hi => ?_
          rw [swp_len, HL1.out] at hi
          rw [swp_row (by rw [HL1.out]; exact htm) (by rw [HL1.out]; exact hpm)]
          exact HW1.out.get (by rw [HL1.out]; exact sg_lt htm hpm hi)
        rw [e3] at E2
        rw [← hN] at HS
        have HNL := Lib.hid hNl
        have HNW := Lib.hid hNw
        clear e3 hN hNl hNw p3
        go_wp2_with fail
        go_cut [] (fun wx => Hid (Fld wx gf) ∧ Hid (Below C w wx) ∧ g < wx.heap.size ∧ Hid (MOwn wx C (.slice (some ⟨g, 0, none⟩) m c) N))
        case first =>
          by_cases htp : t = p
          · subst htp
            rw [hct] at hcp
            obtain ⟨rfl, rfl⟩ : at_ = ap ∧ ct = cp := by simpa using hcp
            clear hcp hfp hop hot
            go_region
            have HF2 : Hid (Fld ((wr.setCell ⟨g, t, none⟩ (Value.slice at_ n ct)).setCell ⟨g, t, none⟩ (Value.slice at_ n ct)).drew gf) := Lib.hid (Blk.far (w := wr.setCell ⟨g, t, none⟩ (Value.slice at_ n ct)) (Blk.far (w := wr) HF.out (fld_hd HM.out HF.out) _) (fld_hd HM.out HF.out) _)
            have HB2 : Hid (Below C w ((wr.setCell ⟨g, t, none⟩ (Value.slice at_ n ct)).setCell ⟨g, t, none⟩ (Value.slice at_ n ct)).drew) := Lib.hid (((HB.out.setCell (p := ⟨g, t, none⟩) hgC _).setCell (p := ⟨g, t, none⟩) hgC _).drew)
            have hgs2 : g < ((wr.setCell ⟨g, t, none⟩ (Value.slice at_ n ct)).setCell ⟨g, t, none⟩ (Value.slice at_ n ct)).drew.heap.size := by simpa [World.setCell] using hgs
            have HS3 : Hid (MOwn ((wr.setCell ⟨g, t, none⟩ (Value.slice at_ n ct)).setCell ⟨g, t, none⟩ (Value.slice at_ n ct)).drew C (Value.slice (some ⟨g, 0, none⟩) m c) N) := Lib.hid (HS.out.drewN 1)
            go_wp2_with fail
            go_meet
            exact ⟨HF2, HB2, hgs2, HS3⟩
          · have htp' : ¬ ((t : Int) = (p : Int)) := by omega
            clear hop hot
            go_region
            have HF2 : Hid (Fld ((wr.setCell ⟨g, t, none⟩ (Value.slice ap n cp)).setCell ⟨g, p, none⟩ (Value.slice at_ n ct)).drew gf) := Lib.hid (Blk.far (w := wr.setCell ⟨g, t, none⟩ (Value.slice ap n cp)) (Blk.far (w := wr) HF.out (fld_hd HM.out HF.out) _) (fld_hd HM.out HF.out) _)
            have HB2 : Hid (Below C w ((wr.setCell ⟨g, t, none⟩ (Value.slice ap n cp)).setCell ⟨g, p, none⟩ (Value.slice at_ n ct)).drew) := Lib.hid (((HB.out.setCell (p := ⟨g, t, none⟩) hgC _).setCell (p := ⟨g, p, none⟩) hgC _).drew)
            have hgs2 : g < ((wr.setCell ⟨g, t, none⟩ (Value.slice ap n cp)).setCell ⟨g, p, none⟩ (Value.slice at_ n ct)).drew.heap.size := by simpa [World.setCell] using hgs
            have HS3 : Hid (MOwn ((wr.setCell ⟨g, t, none⟩ (Value.slice ap n cp)).setCell ⟨g, p, none⟩ (Value.slice at_ n ct)).drew C (Value.slice (some ⟨g, 0, none⟩) m c) N) := Lib.hid (HS.out.drewN 1)
            go_wp2_with fail
            go_meet
            exact ⟨HF2, HB2, hgs2, HS3⟩
        case rest =>
        obtain ⟨HF2, HB2, hgs2, HS3⟩ := hcut
        clear CB hle hgs HW1 HL1 HS hct hft hcp hfp hop hot HM HF HB
        obtain ⟨at2, ct2, hct, hft, hot⟩ := HS3.out.at2 htm (HNW.out.get (by rw [HNL.out]; exact htm)).1
        have hotb := (HNW.out.get (i := t) (by rw [HNL.out]; exact htm)).2
        have hotl := (HNW.out.get (i := t) (by rw [HNL.out]; exact htm)).1
        have hkn : k < n := by omega
        obtain ⟨at3, ct3, e3, hrt⟩ := hot.rd
        injection e3 with e3 e4 e5
        subst e3 e5
        clear e4
        rw [hotl] at hrt
        obtain ⟨bt, ot, rfl, hbt, hcc⟩ := hrt.atB hkn
        have cx := hcc k hkn
        have hgt : (N.getD t []).getD k 0 = gt N t k := rfl
        rw [hgt] at cx
        have hgb := HNW.out.lt t k
        have HPW : Hid (Wf n (N.set t (scL (fi (gt N t k)) (N.getD t [])))) := Lib.hid (by
          intro r hr
          rcases List.mem_or_eq_of_mem_set hr with h | h
          · exact HNW.out r h
          · rw [h]; exact ⟨by rw [scL_len]; exact hotl, By.sc _ _⟩)
        have CI := Lib.hid (gf_inv gf (gt N t k) hgb wc.drew (Blk.drew HF2.out))
        have CS := Lib.hid fun j => row_scale (some ⟨gf, 0, none⟩) (fi (gt N t k)) (N.getD t []) (some ⟨bt, ot, none⟩) n ct2 (wc.drewN j) (Fp.of (Blk.drewN HF2.out j)) (fi_bd _) hrt hotb hn
        have hk1 : (k : Int) < (n : Int) := by omega
        clear hcc hot hrt hotb hotl hgt
        generalize hQ : N.set t (scL (fi (gt N t k)) (N.getD t [])) = Q at *
        have HQ := Lib.hid hQ
        clear hQ
        generalize gt N t k = q at *
        generalize fi q = fq at *
        have HRL : Hid (scL fq (N.getD t []) = scL fq (N.getD t [])) := Lib.hid rfl
        generalize scL fq (N.getD t []) = R at *
        go_wp2_with fail
        go_cut [] (fun wx => Hid (Fld wx gf) ∧ Hid (Below C w wx) ∧ Hid (MOwn wx C (.slice (some ⟨g, 0, none⟩) m c) Q))
        case first =>
          go_region_with (first
            | (go_at_call 29; refine CI.out.mono ?_; rintro e w4 ⟨rfl, j, rfl⟩)
            | (go_at_call 50; refine (CS.out _).mono ?_; rintro e w5 ⟨v5, rfl, ho5, hb5⟩; obtain ⟨a5, c5, rfl, hr5⟩ := ho5.rd; clear hr5
               have hf5 := (hb5.frozen (p := ⟨g, t, none⟩) hgs2).trans hft
               have hc5 := (hb5.cell (p := ⟨g, t, none⟩) hgs2).trans hct))
          all_goals (
            have hM5 := MOwn.put (w0 := wc.drewN (1 + j)) (HS3.out.drewN (1 + j)) hb5 htm ho5 (by have := HB2.out.size; show C ≤ wc.heap.size; omega)
            rw [HQ.out] at hM5
            have HF5 : Hid (Fld (w5.setCell ⟨g, t, none⟩ (Value.slice a5 R.length c5)) gf) := Lib.hid (Blk.far (w := w5) (Blk.below (Blk.drewN HF2.out (1 + j)) hb5 (Blk.lt HF2.out)) (fld_hd HS3.out HF2.out) _)
            have HB5 : Hid (Below C w (w5.setCell ⟨g, t, none⟩ (Value.slice a5 R.length c5))) := Lib.hid (((below_drewN HB2.out (1 + j)).trans (hb5.mono (by have := HB2.out.size; show C ≤ wc.heap.size; omega))).setCell (p := ⟨g, t, none⟩) hgC _)
            have HM5 := Lib.hid hM5
            clear hM5 hb5 ho5
            go_wp2_with fail
            go_meet
            exact ⟨HF5, HB5, HM5⟩)
        case rest =>
        obtain ⟨HF3, HB3, HM3⟩ := hcut
        have HQL : Hid (Q.length = m) := Lib.hid (by rw [← HQ.out, List.length_set]; exact HNL.out)
        clear CI CS HRL HF2 HB2 hgs2 HS3 hft hct hbt hk1 cx hgb HNL HNW HQ p1 p2 hpm hpI hp0
        have HM4 : Hid (MOwn wc C (.slice (some ⟨g, 0, none⟩) m c) (elimTo Q t k 0)) := Lib.hid (by rw [elimTo_zero]; exact HM3.out)
        clear HM3
        go_wp2_with fail
        go_loopw [10, 55] (fun _ i wq => ∃ r : Nat, r ≤ m ∧ i = .int .i64 r ∧ Hid (MOwn wq C (.slice (some ⟨g, 0, none⟩) m c) (elimTo Q t k r)) ∧ Hid (Fld wq gf) ∧ Hid (Below C w wq)) (fun _ i _ => m - (intOf i).toNat)
        case atStart => exact ⟨0, by omega, rfl, HM4, HF3, HB3⟩
        case round =>
          clear HM4 HF3 HB3
          obtain ⟨r, hr, rfl, HM4, HF3, HB3⟩ := hrel
          by_cases hrm : r < m
          · have hrmI : (r : Int) < (m : Int) := by omega
            have hrQ : r < Q.length := by rw [HQL.out]; exact hrm
            have htQ : t < Q.length := by rw [HQL.out]; exact htm
            by_cases hrt : r = t
            · have hrtI : ((r : Int) != (t : Int)) = false := by simp [hrt]
              have HM5 : Hid (MOwn wr C (.slice (some ⟨g, 0, none⟩) m c) (elimTo Q t k (r + 1))) := Lib.hid (by rw [elimTo_step HPW.out hrQ, if_pos hrt]; exact HM4.out)
              clear hrt HM4
              go_wp2_with fail
              go_roundw
              case rel => exact ⟨r + 1, by omega, by go_num, HM5, HF3, HB3⟩
              case measure => simp [intOf]; omega
            · have hrtI : ((r : Int) != (t : Int)) = true := by simp; omega
              have hwE := elimTo_wf HPW.out k r htQ
              have hlE : (elimTo Q t k r).length = m := by rw [elimTo_len]; exact HQL.out
              have hrw1 : (elimTo Q t k r).getD r [] = Q.getD r [] := by rw [elimTo_row t k r hrQ, if_neg (by omega)]
              have hrw2 : (elimTo Q t k r).getD t [] = Q.getD t [] := by rw [elimTo_row t k r htQ, if_neg (by omega)]
              obtain ⟨ar, cr, hcr, -, hor⟩ := HM4.out.at2 hrm (hwE.get (i := r) (by rw [hlE]; exact hrm)).1
              obtain ⟨at4, ct4, hct4, -, hot4⟩ := HM4.out.at2 htm (hwE.get (i := t) (by rw [hlE]; exact htm)).1
              obtain ⟨hot5, hkeep⟩ := HM4.out.two htm hrm (fun e => hrt e.symm) hct4 hcr
              rw [hrw1] at hor
              rw [hrw2] at hkeep hot4
              have hgr := HPW.out.get hrQ
              have hgt2 := HPW.out.get htQ
              obtain ⟨ar3, cr3, e3, hrr⟩ := hor.rd
              injection e3 with e3 e4 e5
              subst e3 e5
              clear e4
              rw [hgr.1] at hrr
              obtain ⟨br, orr, rfl, hbr, hcc⟩ := hrr.atB hkn
              have cx := hcc k hkn
              have hgt3 : (Q.getD r []).getD k 0 = gt Q r k := rfl
              rw [hgt3] at cx
              have hx : ∀ w', wr.drew.grownBy w' (Value.slice (some ⟨br, orr, none⟩) n cr).ownBlock → Rd w' w'.heap.size at4 n (cellsB (Q.getD t [])) := fun w' hg => by
                obtain ⟨a6, c6, e6, h6⟩ := (hkeep w' (grownBy_trans (grownBy_drewN (grownBy_refl wr _) 1) hg)).rd
                injection e6 with e7 e8 e9
                subst e7
                rw [hgt2.1] at h6
                exact h6
              have CA := Lib.hid (mat_add gf (gt Q r k) (Q.getD t []) (Q.getD r []) at4 n ct4 C (.slice (some ⟨br, orr, none⟩) n cr) wr.drew (Blk.drew HF3.out) (HPW.out.lt r k) hx (hor.drewN 1) hgr.1 hgt2.2 hgr.2 hn)
              have hstep : elimTo Q t k (r + 1) = (elimTo Q t k r).set r (axL (gt Q r k) (Q.getD t []) (Q.getD r [])) := by rw [elimTo_step HPW.out hrQ, if_neg hrt]
              have HSTEP := Lib.hid hstep
              have HOR := Lib.hid hor
              have hk1 : (k : Int) < (n : Int) := by omega
              have hwrs : C ≤ wr.heap.size := by have := HB3.out.size; omega
              clear hkeep hor hot4 hot5 hrr hcc hx hwE hlE hrw1 hrw2 hgr hgt2 hgt3 hstep
              generalize axL (gt Q r k) (Q.getD t []) (Q.getD r []) = X at *
              generalize gt Q r k = q at *
              go_wp2_with fail
              go_still_tail 16, (by kernel_rfl)
              change wpList _ _ _ _ _ wr.drew
              go_wp2_with fail
              refine CA.out.mono ?_
              rintro e w6 ⟨rfl, ho6, hg6⟩
              have hg6' : wr.grownBy w6 (Value.slice (some ⟨br, orr, none⟩) n cr).ownBlock := grownBy_trans (grownBy_drewN (grownBy_refl wr _) 1) hg6
              have HM6 : Hid (MOwn w6 C (.slice (some ⟨g, 0, none⟩) m c) (elimTo Q t k (r + 1))) := Lib.hid (by rw [HSTEP.out]; exact HM4.out.wrote hrm hcr hg6' ho6)
              have HF6 : Hid (Fld w6 gf) := Lib.hid (fld_grown HF3.out HOR.out hg6')
              have HB6 : Hid (Below C w w6) := Lib.hid (HB3.out.trans (below_grownBy hg6' (fun g hg => (HOR.out.lt g hg).1) hwrs))
              clear ho6 hg6 hg6' HM4 HF3 HB3 hcr hct4 cx CA HSTEP HOR
              go_wp2_with fail
              go_roundw
              case rel => first | exact ⟨r + 1, by omega, by go_num, HM6, HF6, HB6⟩ | ((repeat apply Exists.intro); exact ⟨⟨r + 1, by omega, by go_num, HM6, HF6, HB6⟩, rfl⟩)
              case measure => simp [intOf]; omega
          · obtain rfl : r = m := by omega
            have HM7 : Hid (MOwn wr C (.slice (some ⟨g, 0, none⟩) r c) (redF M (k + 1)).1) := Lib.hid (by rw [E2.out]; exact HM4.out)
            have HT7 : Hid (t + 1 = (redF M (k + 1)).2) := Lib.hid (by rw [E2.out])
            have ht1 : (t : Int) + 1 = (((redF M (k + 1)).2 : Nat) : Int) := by rw [← HT7.out]; omega
            have HT8 := Lib.hid ht1
            clear ht1 HM4 E2
            go_wp2_with fail
            go_roundw
            case rel => exact ⟨k + 1, by omega, by go_num, by rw [← HT8.out], HM7, HF3, HB3⟩
            case measure => simp [intOf]; omega
    · obtain rfl : k = cols := by omega
      go_wp2_with fail
      go_ret
      exact ⟨rfl, HM.out, HB.out⟩
end Go.Proofs.Ytfbhbjhfebkpfaa
