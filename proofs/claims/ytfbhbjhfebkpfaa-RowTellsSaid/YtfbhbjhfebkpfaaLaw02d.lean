/- The walk of wellspringlaw02.RowTells. -/
import Derived.Test.YtfbhbjhfebkpfaaLaw02a
namespace Go.Proofs.Ytfbhbjhfebkpfaa
open Go.RowKit
set_option linter.unusedVariables false

theorem OwnB.rd3 {w : World} {C : Nat} {v : Value} {l : List Nat} {n : Nat} (h : OwnB w C v l) (hn : l.length = n) : ∃ a c, v = .slice a n c ∧ (eRd a n (cellsB l)).ok w ∧ (a = none → c = 0) ∧ n ≤ c ∧ (c : Int) ≤ 9223372036854775807 := by
  subst hn
  obtain ⟨a, c, e1, hr, hnil⟩ := rd_of_own' h
  refine ⟨a, c, e1, hr, hnil, ?_⟩
  rcases h.2 with ⟨h2, h3⟩ | ⟨g, cap, cur, h2, _, _, h3, h4, _⟩
  · rw [h2] at e1; simp at e1; omega
  · rw [h2] at e1; simp at e1; obtain ⟨_, rfl⟩ := e1; unfold maxLen at h4; omega
theorem lead_e {n k : Nat} (hk : k < n) : leadI (eRow n k) = (k : Int) := by
  refine leadI_at (fun i hi => ?_) ?_
  · rw [eRow_get, if_neg (by omega)]
  · rw [eRow_get, if_pos ⟨rfl, hk⟩]; decide
theorem lead_rest {n k : Nat} (hk : k < n) : leadI (((eRow n k).drop (k + 1)).take (n - (k + 1))) = -1 := by
  refine leadI_none fun i hi => ?_
  simp only [List.getD_eq_getElem?_getD, List.getElem?_take, List.getElem?_drop]
  split
  · have := eRow_get n k (k + 1 + i)
    rw [List.getD_eq_getElem?_getD] at this
    rw [this, if_neg (by omega)]
  · rfl

set_option maxRecDepth 100000 in
set_option maxHeartbeats 8000000 in
theorem rowTells_walk (w : World) (a : Option Addr) (len cap : Nat) (zs : List Int) (hr : Rd w w.heap.size a len (zs.map (Value.int .u8))) (hc : len ≤ cap ∧ cap ≤ maxLen ∧ (a = none → cap = 0)) (hz : ∀ z ∈ zs, (Lit.int .u8 z).wf = true)
    (b : Option Addr) (len2 cap2 : Nat) (zs2 : List Int) (hr2 : Rd w w.heap.size b len2 (zs2.map (Value.int .u8))) (hd : len2 ≤ cap2 ∧ cap2 ≤ maxLen ∧ (b = none → cap2 = 0)) (hz2 : ∀ z ∈ zs2, (Lit.int .u8 z).wf = true) (c : Int) (hcb : 0 ≤ c ∧ c ≤ 255)
    (n0 : Int) (hn0 : -9223372036854775808 ≤ n0 ∧ n0 ≤ 9223372036854775807) (at_ : Int) (hat : -9223372036854775808 ≤ at_ ∧ at_ ≤ 9223372036854775807) (none_ : Bool) :
    Calls Try.prog 12 #[.slice a len cap, .slice b len2 cap2, .int .u8 c, .int .i64 n0, .int .i64 at_, .bool none_] w fun e w' => e = .returned (.bool true) ∧ Below w.heap.size w w' := by
  obtain ⟨xs, hxs, hby⟩ := bytes_of hz
  obtain ⟨ys, hys, hby2⟩ := bytes_of hz2
  have HSP := Lib.hid fun w (h : Rd w w.heap.size a len (cellsB xs)) h2 => keep_spare_u8 zs a len cap 71 w (by rw [hxs]; exact h) h2
  have HSQ := Lib.hid fun w (h : Rd w w.heap.size b len2 (cellsB ys)) h2 => keep_spare_u8 zs2 b len2 cap2 71 w (by rw [hys]; exact h) h2
  have hzl : zs.length = len := by have := hr.len; simpa using this
  have hzl2 : zs2.length = len2 := by have := hr2.len; simpa using this
  have HKX := Lib.hid fun w g (hB : Blk w g 5 (spareL .u8 zs 71 2).toArray) (h : Rd w w.heap.size a len (cellsB xs)) h2 => keep_kept_u8 zs g a len cap 71 w hB hzl (by rw [hxs]; exact h) h2
  have HKY := Lib.hid fun w g (hB : Blk w g 5 (spareL .u8 zs2 71 2).toArray) (h : Rd w w.heap.size b len2 (cellsB ys)) h2 => keep_kept_u8 zs2 g b len2 cap2 71 w hB hzl2 (by rw [hys]; exact h) h2
  have HRX := Lib.hid fun w g (hB : Blk w g 5 (spareL .u8 zs 71 2).toArray) => (show (eRd (some ⟨g, 0, none⟩) len (cellsB xs)).ok w by have := rd_spare hB; rwa [hzl, hxs] at this)
  have HRY := Lib.hid fun w g (hB : Blk w g 5 (spareL .u8 zs2 71 2).toArray) => (show (eRd (some ⟨g, 0, none⟩) len2 (cellsB ys)).ok w by have := rd_spare hB; rwa [hzl2, hys] at this)
  rw [hxs] at hr
  rw [hys] at hr2
  generalize (spareL .u8 zs 71 2).toArray = spx at *
  generalize (spareL .u8 zs2 71 2).toArray = spy at *
  obtain ⟨c, rfl⟩ := Int.eq_ofNat_of_zero_le hcb.1
  have hcc : c < 256 := by omega
  have HCB := Lib.hid hcc
  have HN0 := Lib.hid hn0
  have HAT := Lib.hid hat
  have LX : Hid (xs.length = len) := Lib.hid (by have := hr.len; rwa [cellsB_len] at this)
  have LY : Hid (ys.length = len2) := Lib.hid (by have := hr2.len; rwa [cellsB_len] at this)
  have hcI : (len : Int) ≤ 9223372036854775807 := by have := hc.1; have := hc.2.1; unfold maxLen at this; omega
  have hdI : (len2 : Int) ≤ 9223372036854775807 := by have := hd.1; have := hd.2.1; unfold maxLen at this; omega
  have S0 : Hid (Sx w w _) := Lib.hid (((Sx.nil w).add (eRd a len (cellsB xs)) hr).add (eRd b len2 (cellsB ys)) hr2)
  have BX := Lib.hid hby
  have BY := Lib.hid hby2
  clear hr hr2 hc hd hxs hys hz hz2 hcb hby hby2 hzl hzl2 hcc hn0 hat
  clear zs zs2
  by_cases hbig : 200 < (len : Int)
  · go_enter Try.func12, Try.ntmps12
    go_wp2_with fail
    refine (wakes02 _).mono ?_
    rintro e w1 ⟨rfl, hb⟩
    have S1 := Lib.hid (S0.out.step hb)
    clear hb
    go_wp2_with fail
    go_ret
    exact ⟨rfl, S1.out.1⟩
  by_cases hbig2 : 200 < (len2 : Int)
  · go_enter Try.func12, Try.ntmps12
    go_wp2_with fail
    refine (wakes02 _).mono ?_
    rintro e w1 ⟨rfl, hb⟩
    have S1 := Lib.hid (S0.out.step hb)
    clear hb
    go_wp2_with fail
    go_ret
    exact ⟨rfl, S1.out.1⟩
  have hlen : len ≤ 200 := by omega
  have hlen2 : len2 ≤ 200 := by omega
  cases none_ with
  | false =>
      go_enter Try.func12, Try.ntmps12
      go_wp2_with fail
      refine (gf_new _).mono ?_
      rintro e w1 ⟨g, rfl, hg, hF, hb⟩
      have S1 := Lib.hid ((S0.out.step hb).add (eFp (some ⟨g, 0, none⟩)) (.inr ⟨g, rfl, hF⟩))
      clear hb hF S0 hg
      -- [f, b, a]
      go_wp2_with fail
      refine (HSP.out _ (S1.out.rd 2 rfl) (by omega)).mono ?_
      rintro e w2 ⟨gx, rfl, _, hbk, hb⟩
      have S2 := Lib.hid (((S1.out.step hb).add (eBlk gx 5 spx) hbk).add _ (HRX.out _ gx hbk))
      clear hb hbk S1
      go_wp2_with fail
      refine (HSQ.out _ (S2.out.rd 3 rfl) (by omega)).mono ?_
      rintro e w3 ⟨gy, rfl, _, hbk, hb⟩
      have S3 := Lib.hid (((S2.out.step hb).add (eBlk gy 5 spy) hbk).add _ (HRY.out _ gy hbk))
      clear hb hbk S2
      -- [y, blk y, x, blk x, f, b, a]
      have lead_n := Lib.hid fun w' (h : Rd w' w'.heap.size (some ⟨gx, 0, none⟩) len (cellsB xs)) => row_lead xs w'.heap.size (some ⟨gx, 0, none⟩) len (len + 2) w' h BX.out (by unfold maxLen; omega)
      have leadr_n := Lib.hid fun w' (h : Rd w' w'.heap.size a len (cellsB xs)) => ref_lead xs w'.heap.size a len cap w' h BX.out (by unfold maxLen; omega)
      have lim : Hid ((scL c xs).length = len) := Lib.hid (by rw [scL_len]; exact LX.out)
      by_cases hl : len = len2
      · subst hl
        have hl2 : ((len : Int) == (len : Int)) = true := by simp
        have LS : Hid ((axL 1 xs ys).length = len) := Lib.hid (by have := LX.out; have := LY.out; rw [axL_len (by omega)]; omega)
        have LT : Hid ((axL c xs ys).length = len) := Lib.hid (by have := LX.out; have := LY.out; rw [axL_len (by omega)]; omega)
        go_wp2_with fail
        refine (row_sum xs ys _ _ len _ _ w3 (S3.out.rd 2 rfl) (S3.out.rd 0 rfl) BX.out BY.out (by omega)).mono ?_
        rintro e w4 ⟨v1, rfl, ho, hb⟩
        obtain ⟨x1, y1, rfl, hr⟩ := ho.rd2 LS.out
        have S4 := Lib.hid ((S3.out.step hb).add _ hr.1)
        clear ho hb hr S3
        go_wp2_with fail
        refine (row_axpy _ c xs ys _ _ len _ _ w4 (S4.out.fp 5 rfl) HCB.out (S4.out.rd 3 rfl) (S4.out.rd 1 rfl) BX.out BY.out (by omega)).mono ?_
        rintro e w5 ⟨v2, rfl, ho, hb⟩
        obtain ⟨x2, y2, rfl, hr⟩ := ho.rd2 LT.out
        have S5 := Lib.hid ((S4.out.step hb).add _ hr.1)
        clear ho hb hr S4
        -- [t, s, y, blk y, x, blk x, f, b, a]
        go_wp2_with fail
        refine (row_dot _ xs ys _ _ len _ _ w5 (S5.out.fp 6 rfl) (S5.out.rd 4 rfl) (S5.out.rd 2 rfl) BX.out BY.out (by omega)).mono ?_
        rintro e w6 ⟨rfl, hb⟩
        have S6 := Lib.hid (S5.out.step hb)
        clear hb S5
        have HDR := Lib.hid fun w' (h1 : Rd w' w'.heap.size a len (cellsB xs)) (h2 : Rd w' w'.heap.size b len (cellsB ys)) => ref_dot xs ys w'.heap.size a b len cap cap2 w' h1 h2 BX.out BY.out (by omega)
        generalize dotK xs ys len = dd at *
        go_wp2_with fail
        refine (row_scale _ c xs _ len _ w6 (S6.out.fp 6 rfl) HCB.out (S6.out.rd 4 rfl) BX.out (by omega)).mono ?_
        rintro e w7 ⟨v3, rfl, ho, hb⟩
        obtain ⟨x3, y3, rfl, hr⟩ := ho.rd2 lim.out
        have S7 := Lib.hid ((S6.out.step hb).add _ hr.1)
        clear ho hb hr S6
        -- [sc, t, s, y, blk y, x, blk x, f, b, a]
        go_wp2_with fail
        refine (ref_scale c xs _ a len cap w7 HCB.out (S7.out.rd 9 rfl) (Nat.le_refl _) BX.out (by omega)).mono ?_
        rintro e w8 ⟨v4, rfl, ho, hb⟩
        obtain ⟨x4, y4, rfl, hr⟩ := ho.rd2 lim.out
        have S8 := Lib.hid ((S7.out.step hb).add _ hr.1)
        clear ho hb hr S7
        go_wp2_with fail
        refine (same_B (scL c xs) x3 x4 len y3 y4 w8 (S8.out.rd 1 rfl) (S8.out.rd 0 rfl) (by omega)).mono ?_
        rintro e w9 ⟨rfl, j, rfl⟩
        have S9 := Lib.hid (S8.out.drewN j)
        clear S8
        generalize w8.drewN j = w9 at *
        go_wp2_with fail
        refine (lead_n.out w9 (S9.out.rd 6 rfl)).mono ?_
        rintro e w10 ⟨rfl, j, rfl⟩
        have S10 := Lib.hid (S9.out.drewN j)
        clear S9
        generalize w9.drewN j = w10 at *
        go_wp2_with fail
        refine (leadr_n.out w10 (S10.out.rd 10 rfl)).mono ?_
        rintro e w11 ⟨rfl, j, rfl⟩
        have S11 := Lib.hid (S10.out.drewN j)
        clear S10 lead_n leadr_n
        generalize w10.drewN j = w11 at *
        generalize leadI xs = li at *
        -- [rsc, sc, t, s, y, blk y, x, blk x, f, b, a]
        go_wp2_with fail
        refine (ref_sum xs ys _ a b len cap cap2 w11 (S11.out.rd 10 rfl) (S11.out.rd 9 rfl) (Nat.le_refl _) BX.out BY.out (by omega)).mono ?_
        rintro e w12 ⟨v5, rfl, ho, hb⟩
        obtain ⟨x5, y5, rfl, hr⟩ := ho.rd2 LS.out
        have S12 := Lib.hid ((S11.out.step hb).add _ hr.1)
        clear ho hb hr S11
        go_wp2_with fail
        refine (same_B (axL 1 xs ys) x1 x5 len y1 y5 w12 (S12.out.rd 4 rfl) (S12.out.rd 0 rfl) (by omega)).mono ?_
        rintro e w13 ⟨rfl, j, rfl⟩
        have S13 := Lib.hid (S12.out.drewN j)
        clear S12
        generalize w12.drewN j = w13 at *
        go_wp2_with fail
        refine (ref_axpy c xs ys _ a b len cap cap2 w13 HCB.out (S13.out.rd 11 rfl) (S13.out.rd 10 rfl) (Nat.le_refl _) BX.out BY.out (by omega)).mono ?_
        rintro e w14 ⟨v6, rfl, ho, hb⟩
        obtain ⟨x6, y6, rfl, hr⟩ := ho.rd2 LT.out
        have S14 := Lib.hid ((S13.out.step hb).add _ hr.1)
        clear ho hb hr S13
        go_wp2_with fail
        refine (same_B (axL c xs ys) x2 x6 len y2 y6 w14 (S14.out.rd 4 rfl) (S14.out.rd 0 rfl) (by omega)).mono ?_
        rintro e w15 ⟨rfl, j, rfl⟩
        have S15 := Lib.hid (S14.out.drewN j)
        clear S14
        generalize w14.drewN j = w15 at *
        go_wp2_with fail
        refine (HDR.out w15 (S15.out.rd 12 rfl) (S15.out.rd 11 rfl)).mono ?_
        rintro e w16 ⟨rfl, j, rfl⟩
        -- [rt, rs, rsc, sc, t, s, y, blk y, x, blk x, f, b, a]
        have SZ : Hid (Sx w (w15.drewN j) [eRd (some ⟨gy, 0, none⟩) len (cellsB ys), eBlk gy 5 spy, eRd (some ⟨gx, 0, none⟩) len (cellsB xs), eBlk gx 5 spx, eFp (some ⟨g, 0, none⟩), eRd b len (cellsB ys), eRd a len (cellsB xs)]) := Lib.hid (let h := S15.out.drewN j; ⟨h.1, fun e he => h.2 e (List.mem_append_right [_, _, _, _, _, _] he)⟩)
        clear S15
        generalize w15.drewN j = w3 at *
        clear HDR LS LT lim HSP HSQ HRX HRY
        by_cases hmay : 1 ≤ n0 ∧ n0 ≤ 64 ∧ 0 ≤ at_ ∧ at_ < n0
        · obtain ⟨p1, p2, p3, p4⟩ := hmay
          obtain ⟨n, rfl⟩ := Int.eq_ofNat_of_zero_le (show 0 ≤ n0 by omega)
          obtain ⟨k, rfl⟩ := Int.eq_ofNat_of_zero_le p3
          have hk : k < n := by omega
          have hn64 : n ≤ 64 := by omega
          have HLE := Lib.hid (lead_e hk)
          obtain ⟨k1, hk1⟩ : ∃ k1, k1 = k + 1 := ⟨_, rfl⟩
          have HLR := Lib.hid (lead_rest hk)
          rw [← hk1] at HLR
          go_wp2_with fail
          refine (row_unit n k _ hn64 hk).mono ?_
          rintro e w20 ⟨v8, rfl, ho, hb⟩
          obtain ⟨x8, y8, rfl, hr8, hni, hny, hyI⟩ := ho.rd3 (eRow_len n k)
          have SY := Lib.hid ((SZ.out.step hb).add _ hr8)
          have HR8 := Lib.hid hr8
          clear ho hb hr8 SZ hni
          have CL := Lib.hid fun w' (h : Rd w' w'.heap.size x8 n (cellsB (eRow n k))) => row_lead (eRow n k) w'.heap.size x8 n y8 w' h (eRow_by n k) (by unfold maxLen; omega)
          rw [HLE.out] at CL
          have q1 : k1 ≤ n := by omega
          have q2 : k1 ≤ y8 := by omega
          have qI : ((k : Int) + 1) = (k1 : Int) := by omega
          have hk2 := Lib.hid hk1
          clear hk1
          by_cases hy : y8 = k1
          · have hy' := hy.symm
            clear hy
            subst hy'
            have CM := Lib.hid fun w' bb oo => row_lead [] 0 (some ⟨bb, oo, none⟩) 0 0 w' (rd_nil _ _ _) (by unfold By; decide) (by decide)
            rw [show leadI [] = -1 by decide +kernel] at CM
            obtain ⟨bb, oo, rfl, _, hcc⟩ := (HR8.out : Rd _ _ _ _ _).atB hk
            clear hcc HR8
            go_wp2_with fail
            refine (CL.out _ (SY.out.rd 0 rfl)).mono ?_
            rintro e w21 ⟨rfl, j, rfl⟩
            have SX := Lib.hid (SY.out.drewN j)
            clear SY
            generalize w20.drewN j = w21 at *
            obtain ⟨b9, o9, e9, _, hcc⟩ := (SX.out.rd 0 rfl).atB hk
            injection e9 with e9; injection e9 with e9 e10; subst e9 e10
            have cx := hcc k hk
            rw [eRow_get, if_pos ⟨rfl, hk⟩] at cx
            clear hcc
            go_wp2_with fail
            refine (CM.out _ _ _).mono ?_
            rintro e w22 ⟨rfl, j2, rfl⟩
            have SY := Lib.hid (SX.out.drewN j2)
            clear SX
            go_wp2_with fail
            refine (HKX.out _ gx (SY.out.blk 4 rfl) (SY.out.rd 7 rfl) (by omega)).mono ?_
            rintro e w30 ⟨rfl, j, rfl⟩
            have SW := Lib.hid (SY.out.drewN j)
            try simp only [World.drewN_drewN] at SW
            clear SY
            go_wp2_with fail
            refine (HKY.out _ gy (SW.out.blk 2 rfl) (SW.out.rd 6 rfl) (by omega)).mono ?_
            rintro e w31 ⟨rfl, j2, rfl⟩
            have SV := Lib.hid (SW.out.drewN j2)
            try simp only [World.drewN_drewN] at SV
            clear SW
            go_wp2_with fail
            refine (wakes02 _).mono ?_
            rintro e w32 ⟨rfl, hb⟩
            have SU := Lib.hid (SV.out.step hb)
            clear hb SV
            go_wp2_with fail
            go_ret
            exact ⟨rfl, SU.out.1⟩
          · have r9 := fun w' (h : Rd w' w'.heap.size x8 n (cellsB (eRow n k))) => rd_cut h hny (lo := k1) (n := n - k1) (by omega)
            rw [if_neg hy] at r9
            have CM := Lib.hid fun w' (h : Rd w' w'.heap.size x8 n (cellsB (eRow n k))) c9 => row_lead _ w'.heap.size _ (n - k1) c9 w' (r9 w' h) ((eRow_by n k).part _ _) (by unfold maxLen; omega)
            rw [HLR.out] at CM
            clear r9
            obtain ⟨bb, oo, rfl, _, hcc⟩ := (HR8.out : Rd _ _ _ _ _).atB hk
            clear hcc HR8
            simp only [Option.map_some, Addr.add_lit] at CM
            go_wp2_with fail
            refine (CL.out _ (SY.out.rd 0 rfl)).mono ?_
            rintro e w21 ⟨rfl, j, rfl⟩
            have SX := Lib.hid (SY.out.drewN j)
            clear SY
            generalize w20.drewN j = w21 at *
            obtain ⟨b9, o9, e9, _, hcc⟩ := (SX.out.rd 0 rfl).atB hk
            injection e9 with e9; injection e9 with e9 e10; subst e9 e10
            have cx := hcc k hk
            rw [eRow_get, if_pos ⟨rfl, hk⟩] at cx
            clear hcc
            go_wp2_with fail
            refine (CM.out _ (SX.out.rd 0 rfl) _).mono ?_
            rintro e w22 ⟨rfl, j2, rfl⟩
            have SY := Lib.hid (SX.out.drewN j2)
            clear SX
            go_wp2_with fail
            refine (HKX.out _ gx (SY.out.blk 4 rfl) (SY.out.rd 7 rfl) (by omega)).mono ?_
            rintro e w30 ⟨rfl, j, rfl⟩
            have SW := Lib.hid (SY.out.drewN j)
            try simp only [World.drewN_drewN] at SW
            clear SY
            go_wp2_with fail
            refine (HKY.out _ gy (SW.out.blk 2 rfl) (SW.out.rd 6 rfl) (by omega)).mono ?_
            rintro e w31 ⟨rfl, j2, rfl⟩
            have SV := Lib.hid (SW.out.drewN j2)
            try simp only [World.drewN_drewN] at SV
            clear SW
            go_wp2_with fail
            refine (wakes02 _).mono ?_
            rintro e w32 ⟨rfl, hb⟩
            have SU := Lib.hid (SV.out.step hb)
            clear hb SV
            go_wp2_with fail
            go_ret
            exact ⟨rfl, SU.out.1⟩
        · have CU := Lib.hid fun w => row_unit_un n0 at_ w hmay
          have SY := SZ
          clear SZ
          go_wp2_with fail
          refine (CU.out _).mono ?_
          rintro e w20 ⟨rfl, rfl⟩
          go_wp2_with fail
          all_goals
            first
            | omega
            | skip
            refine (HKX.out _ gx (SY.out.blk 3 rfl) (SY.out.rd 6 rfl) (by omega)).mono ?_
            rintro e w30 ⟨rfl, j, rfl⟩
            have SW := Lib.hid (SY.out.drewN j)
            try simp only [World.drewN_drewN] at SW
            clear SY
            go_wp2_with fail
            refine (HKY.out _ gy (SW.out.blk 1 rfl) (SW.out.rd 5 rfl) (by omega)).mono ?_
            rintro e w31 ⟨rfl, j2, rfl⟩
            have SV := Lib.hid (SW.out.drewN j2)
            try simp only [World.drewN_drewN] at SV
            clear SW
            go_wp2_with fail
            refine (wakes02 _).mono ?_
            rintro e w32 ⟨rfl, hb⟩
            have SU := Lib.hid (SV.out.step hb)
            clear hb SV
            go_wp2_with fail
            go_ret
            exact ⟨rfl, SU.out.1⟩
      · have hl2 : ((len : Int) == (len2 : Int)) = false := by simp; omega
        have hl3 : ¬ (len : Int) = (len2 : Int) := by omega
        go_wp2_with fail
        refine (row_sum_un _ _ len len2 _ _ w3 hl).mono ?_
        rintro e w4 ⟨rfl, rfl⟩
        go_wp2_with fail
        refine (row_axpy_un _ c xs _ _ len len2 _ _ w3 (S3.out.fp 4 rfl) HCB.out (S3.out.rd 2 rfl) BX.out (by omega) hl).mono ?_
        rintro e w5 ⟨rfl, hb⟩
        have S5 := Lib.hid (S3.out.step hb)
        clear hb S3
        -- [y, blk y, x, blk x, f, b, a]
        go_wp2_with fail
        refine (row_dot_un _ _ _ len len2 _ _ w5 hl).mono ?_
        rintro e w6 ⟨rfl, rfl⟩
        go_wp2_with fail
        refine (row_scale _ c xs _ len _ w5 (S5.out.fp 4 rfl) HCB.out (S5.out.rd 2 rfl) BX.out (by omega)).mono ?_
        rintro e w7 ⟨v3, rfl, ho, hb⟩
        obtain ⟨x3, y3, rfl, hr⟩ := ho.rd2 lim.out
        have S7 := Lib.hid ((S5.out.step hb).add _ hr.1)
        clear ho hb hr S5
        go_wp2_with fail
        refine (ref_scale c xs _ a len cap w7 HCB.out (S7.out.rd 7 rfl) (Nat.le_refl _) BX.out (by omega)).mono ?_
        rintro e w8 ⟨v4, rfl, ho, hb⟩
        obtain ⟨x4, y4, rfl, hr⟩ := ho.rd2 lim.out
        have S8 := Lib.hid ((S7.out.step hb).add _ hr.1)
        clear ho hb hr S7
        go_wp2_with fail
        refine (same_B (scL c xs) x3 x4 len y3 y4 w8 (S8.out.rd 1 rfl) (S8.out.rd 0 rfl) (by omega)).mono ?_
        rintro e w9 ⟨rfl, j, rfl⟩
        have S9 := Lib.hid (S8.out.drewN j)
        clear S8
        generalize w8.drewN j = w9 at *
        go_wp2_with fail
        refine (lead_n.out w9 (S9.out.rd 4 rfl)).mono ?_
        rintro e w10 ⟨rfl, j, rfl⟩
        have S10 := Lib.hid (S9.out.drewN j)
        clear S9
        generalize w9.drewN j = w10 at *
        go_wp2_with fail
        refine (leadr_n.out w10 (S10.out.rd 8 rfl)).mono ?_
        rintro e w11 ⟨rfl, j, rfl⟩
        have SZ : Hid (Sx w (w10.drewN j) [eRd (some ⟨gy, 0, none⟩) len2 (cellsB ys), eBlk gy 5 spy, eRd (some ⟨gx, 0, none⟩) len (cellsB xs), eBlk gx 5 spx, eFp (some ⟨g, 0, none⟩), eRd b len2 (cellsB ys), eRd a len (cellsB xs)]) := Lib.hid (let h := S10.out.drewN j; ⟨h.1, fun e he => h.2 e (List.mem_append_right [_, _] he)⟩)
        clear S10 lead_n leadr_n
        generalize w10.drewN j = w3 at *
        generalize leadI xs = li at *
        clear lim HSP HSQ HRX HRY
        by_cases hmay : 1 ≤ n0 ∧ n0 ≤ 64 ∧ 0 ≤ at_ ∧ at_ < n0
        · obtain ⟨p1, p2, p3, p4⟩ := hmay
          obtain ⟨n, rfl⟩ := Int.eq_ofNat_of_zero_le (show 0 ≤ n0 by omega)
          obtain ⟨k, rfl⟩ := Int.eq_ofNat_of_zero_le p3
          have hk : k < n := by omega
          have hn64 : n ≤ 64 := by omega
          have HLE := Lib.hid (lead_e hk)
          obtain ⟨k1, hk1⟩ : ∃ k1, k1 = k + 1 := ⟨_, rfl⟩
          have HLR := Lib.hid (lead_rest hk)
          rw [← hk1] at HLR
          go_wp2_with fail
          refine (row_unit n k _ hn64 hk).mono ?_
          rintro e w20 ⟨v8, rfl, ho, hb⟩
          obtain ⟨x8, y8, rfl, hr8, hni, hny, hyI⟩ := ho.rd3 (eRow_len n k)
          have SY := Lib.hid ((SZ.out.step hb).add _ hr8)
          have HR8 := Lib.hid hr8
          clear ho hb hr8 SZ hni
          have CL := Lib.hid fun w' (h : Rd w' w'.heap.size x8 n (cellsB (eRow n k))) => row_lead (eRow n k) w'.heap.size x8 n y8 w' h (eRow_by n k) (by unfold maxLen; omega)
          rw [HLE.out] at CL
          have q1 : k1 ≤ n := by omega
          have q2 : k1 ≤ y8 := by omega
          have qI : ((k : Int) + 1) = (k1 : Int) := by omega
          have hk2 := Lib.hid hk1
          clear hk1
          by_cases hy : y8 = k1
          · have hy' := hy.symm
            clear hy
            subst hy'
            have CM := Lib.hid fun w' bb oo => row_lead [] 0 (some ⟨bb, oo, none⟩) 0 0 w' (rd_nil _ _ _) (by unfold By; decide) (by decide)
            rw [show leadI [] = -1 by decide +kernel] at CM
            obtain ⟨bb, oo, rfl, _, hcc⟩ := (HR8.out : Rd _ _ _ _ _).atB hk
            clear hcc HR8
            go_wp2_with fail
            refine (CL.out _ (SY.out.rd 0 rfl)).mono ?_
            rintro e w21 ⟨rfl, j, rfl⟩
            have SX := Lib.hid (SY.out.drewN j)
            clear SY
            generalize w20.drewN j = w21 at *
            obtain ⟨b9, o9, e9, _, hcc⟩ := (SX.out.rd 0 rfl).atB hk
            injection e9 with e9; injection e9 with e9 e10; subst e9 e10
            have cx := hcc k hk
            rw [eRow_get, if_pos ⟨rfl, hk⟩] at cx
            clear hcc
            go_wp2_with fail
            refine (CM.out _ _ _).mono ?_
            rintro e w22 ⟨rfl, j2, rfl⟩
            have SY := Lib.hid (SX.out.drewN j2)
            clear SX
            go_wp2_with fail
            refine (HKX.out _ gx (SY.out.blk 4 rfl) (SY.out.rd 7 rfl) (by omega)).mono ?_
            rintro e w30 ⟨rfl, j, rfl⟩
            have SW := Lib.hid (SY.out.drewN j)
            try simp only [World.drewN_drewN] at SW
            clear SY
            go_wp2_with fail
            refine (HKY.out _ gy (SW.out.blk 2 rfl) (SW.out.rd 6 rfl) (by omega)).mono ?_
            rintro e w31 ⟨rfl, j2, rfl⟩
            have SV := Lib.hid (SW.out.drewN j2)
            try simp only [World.drewN_drewN] at SV
            clear SW
            go_wp2_with fail
            refine (wakes02 _).mono ?_
            rintro e w32 ⟨rfl, hb⟩
            have SU := Lib.hid (SV.out.step hb)
            clear hb SV
            go_wp2_with fail
            go_ret
            exact ⟨rfl, SU.out.1⟩
          · have r9 := fun w' (h : Rd w' w'.heap.size x8 n (cellsB (eRow n k))) => rd_cut h hny (lo := k1) (n := n - k1) (by omega)
            rw [if_neg hy] at r9
            have CM := Lib.hid fun w' (h : Rd w' w'.heap.size x8 n (cellsB (eRow n k))) c9 => row_lead _ w'.heap.size _ (n - k1) c9 w' (r9 w' h) ((eRow_by n k).part _ _) (by unfold maxLen; omega)
            rw [HLR.out] at CM
            clear r9
            obtain ⟨bb, oo, rfl, _, hcc⟩ := (HR8.out : Rd _ _ _ _ _).atB hk
            clear hcc HR8
            simp only [Option.map_some, Addr.add_lit] at CM
            go_wp2_with fail
            refine (CL.out _ (SY.out.rd 0 rfl)).mono ?_
            rintro e w21 ⟨rfl, j, rfl⟩
            have SX := Lib.hid (SY.out.drewN j)
            clear SY
            generalize w20.drewN j = w21 at *
            obtain ⟨b9, o9, e9, _, hcc⟩ := (SX.out.rd 0 rfl).atB hk
            injection e9 with e9; injection e9 with e9 e10; subst e9 e10
            have cx := hcc k hk
            rw [eRow_get, if_pos ⟨rfl, hk⟩] at cx
            clear hcc
            go_wp2_with fail
            refine (CM.out _ (SX.out.rd 0 rfl) _).mono ?_
            rintro e w22 ⟨rfl, j2, rfl⟩
            have SY := Lib.hid (SX.out.drewN j2)
            clear SX
            go_wp2_with fail
            refine (HKX.out _ gx (SY.out.blk 4 rfl) (SY.out.rd 7 rfl) (by omega)).mono ?_
            rintro e w30 ⟨rfl, j, rfl⟩
            have SW := Lib.hid (SY.out.drewN j)
            try simp only [World.drewN_drewN] at SW
            clear SY
            go_wp2_with fail
            refine (HKY.out _ gy (SW.out.blk 2 rfl) (SW.out.rd 6 rfl) (by omega)).mono ?_
            rintro e w31 ⟨rfl, j2, rfl⟩
            have SV := Lib.hid (SW.out.drewN j2)
            try simp only [World.drewN_drewN] at SV
            clear SW
            go_wp2_with fail
            refine (wakes02 _).mono ?_
            rintro e w32 ⟨rfl, hb⟩
            have SU := Lib.hid (SV.out.step hb)
            clear hb SV
            go_wp2_with fail
            go_ret
            exact ⟨rfl, SU.out.1⟩
        · have CU := Lib.hid fun w => row_unit_un n0 at_ w hmay
          have SY := SZ
          clear SZ
          go_wp2_with fail
          refine (CU.out _).mono ?_
          rintro e w20 ⟨rfl, rfl⟩
          go_wp2_with fail
          all_goals
            first
            | omega
            | skip
            refine (HKX.out _ gx (SY.out.blk 3 rfl) (SY.out.rd 6 rfl) (by omega)).mono ?_
            rintro e w30 ⟨rfl, j, rfl⟩
            have SW := Lib.hid (SY.out.drewN j)
            try simp only [World.drewN_drewN] at SW
            clear SY
            go_wp2_with fail
            refine (HKY.out _ gy (SW.out.blk 1 rfl) (SW.out.rd 5 rfl) (by omega)).mono ?_
            rintro e w31 ⟨rfl, j2, rfl⟩
            have SV := Lib.hid (SW.out.drewN j2)
            try simp only [World.drewN_drewN] at SV
            clear SW
            go_wp2_with fail
            refine (wakes02 _).mono ?_
            rintro e w32 ⟨rfl, hb⟩
            have SU := Lib.hid (SV.out.step hb)
            clear hb SV
            go_wp2_with fail
            go_ret
            exact ⟨rfl, SU.out.1⟩
  | true =>
      go_enter Try.func12, Try.ntmps12
      go_wp2_with fail
      refine (gf_new _).mono ?_
      rintro e w1 ⟨g, rfl, hg, hF, hb⟩
      have S1 := Lib.hid ((S0.out.step hb).add (eFp (none)) (.inl rfl))
      clear hb hF S0 hg
      -- [f, b, a]
      go_wp2_with fail
      refine (HSP.out _ (S1.out.rd 2 rfl) (by omega)).mono ?_
      rintro e w2 ⟨gx, rfl, _, hbk, hb⟩
      have S2 := Lib.hid (((S1.out.step hb).add (eBlk gx 5 spx) hbk).add _ (HRX.out _ gx hbk))
      clear hb hbk S1
      go_wp2_with fail
      refine (HSQ.out _ (S2.out.rd 3 rfl) (by omega)).mono ?_
      rintro e w3 ⟨gy, rfl, _, hbk, hb⟩
      have S3 := Lib.hid (((S2.out.step hb).add (eBlk gy 5 spy) hbk).add _ (HRY.out _ gy hbk))
      clear hb hbk S2
      -- [y, blk y, x, blk x, f, b, a]
      have lead_n := Lib.hid fun w' (h : Rd w' w'.heap.size (some ⟨gx, 0, none⟩) len (cellsB xs)) => row_lead xs w'.heap.size (some ⟨gx, 0, none⟩) len (len + 2) w' h BX.out (by unfold maxLen; omega)
      have leadr_n := Lib.hid fun w' (h : Rd w' w'.heap.size a len (cellsB xs)) => ref_lead xs w'.heap.size a len cap w' h BX.out (by unfold maxLen; omega)
      have lim : Hid ((scL c xs).length = len) := Lib.hid (by rw [scL_len]; exact LX.out)
      by_cases hl : len = len2
      · subst hl
        have hl2 : ((len : Int) == (len : Int)) = true := by simp
        have LS : Hid ((axL 1 xs ys).length = len) := Lib.hid (by have := LX.out; have := LY.out; rw [axL_len (by omega)]; omega)
        have LT : Hid ((axL c xs ys).length = len) := Lib.hid (by have := LX.out; have := LY.out; rw [axL_len (by omega)]; omega)
        go_wp2_with fail
        refine (row_sum xs ys _ _ len _ _ w3 (S3.out.rd 2 rfl) (S3.out.rd 0 rfl) BX.out BY.out (by omega)).mono ?_
        rintro e w4 ⟨v1, rfl, ho, hb⟩
        obtain ⟨x1, y1, rfl, hr⟩ := ho.rd2 LS.out
        have S4 := Lib.hid ((S3.out.step hb).add _ hr.1)
        clear ho hb hr S3
        go_wp2_with fail
        refine (row_axpy _ c xs ys _ _ len _ _ w4 (S4.out.fp 5 rfl) HCB.out (S4.out.rd 3 rfl) (S4.out.rd 1 rfl) BX.out BY.out (by omega)).mono ?_
        rintro e w5 ⟨v2, rfl, ho, hb⟩
        obtain ⟨x2, y2, rfl, hr⟩ := ho.rd2 LT.out
        have S5 := Lib.hid ((S4.out.step hb).add _ hr.1)
        clear ho hb hr S4
        -- [t, s, y, blk y, x, blk x, f, b, a]
        go_wp2_with fail
        refine (row_dot _ xs ys _ _ len _ _ w5 (S5.out.fp 6 rfl) (S5.out.rd 4 rfl) (S5.out.rd 2 rfl) BX.out BY.out (by omega)).mono ?_
        rintro e w6 ⟨rfl, hb⟩
        have S6 := Lib.hid (S5.out.step hb)
        clear hb S5
        have HDR := Lib.hid fun w' (h1 : Rd w' w'.heap.size a len (cellsB xs)) (h2 : Rd w' w'.heap.size b len (cellsB ys)) => ref_dot xs ys w'.heap.size a b len cap cap2 w' h1 h2 BX.out BY.out (by omega)
        generalize dotK xs ys len = dd at *
        go_wp2_with fail
        refine (row_scale _ c xs _ len _ w6 (S6.out.fp 6 rfl) HCB.out (S6.out.rd 4 rfl) BX.out (by omega)).mono ?_
        rintro e w7 ⟨v3, rfl, ho, hb⟩
        obtain ⟨x3, y3, rfl, hr⟩ := ho.rd2 lim.out
        have S7 := Lib.hid ((S6.out.step hb).add _ hr.1)
        clear ho hb hr S6
        -- [sc, t, s, y, blk y, x, blk x, f, b, a]
        go_wp2_with fail
        refine (ref_scale c xs _ a len cap w7 HCB.out (S7.out.rd 9 rfl) (Nat.le_refl _) BX.out (by omega)).mono ?_
        rintro e w8 ⟨v4, rfl, ho, hb⟩
        obtain ⟨x4, y4, rfl, hr⟩ := ho.rd2 lim.out
        have S8 := Lib.hid ((S7.out.step hb).add _ hr.1)
        clear ho hb hr S7
        go_wp2_with fail
        refine (same_B (scL c xs) x3 x4 len y3 y4 w8 (S8.out.rd 1 rfl) (S8.out.rd 0 rfl) (by omega)).mono ?_
        rintro e w9 ⟨rfl, j, rfl⟩
        have S9 := Lib.hid (S8.out.drewN j)
        clear S8
        generalize w8.drewN j = w9 at *
        go_wp2_with fail
        refine (lead_n.out w9 (S9.out.rd 6 rfl)).mono ?_
        rintro e w10 ⟨rfl, j, rfl⟩
        have S10 := Lib.hid (S9.out.drewN j)
        clear S9
        generalize w9.drewN j = w10 at *
        go_wp2_with fail
        refine (leadr_n.out w10 (S10.out.rd 10 rfl)).mono ?_
        rintro e w11 ⟨rfl, j, rfl⟩
        have S11 := Lib.hid (S10.out.drewN j)
        clear S10 lead_n leadr_n
        generalize w10.drewN j = w11 at *
        generalize leadI xs = li at *
        -- [rsc, sc, t, s, y, blk y, x, blk x, f, b, a]
        go_wp2_with fail
        refine (ref_sum xs ys _ a b len cap cap2 w11 (S11.out.rd 10 rfl) (S11.out.rd 9 rfl) (Nat.le_refl _) BX.out BY.out (by omega)).mono ?_
        rintro e w12 ⟨v5, rfl, ho, hb⟩
        obtain ⟨x5, y5, rfl, hr⟩ := ho.rd2 LS.out
        have S12 := Lib.hid ((S11.out.step hb).add _ hr.1)
        clear ho hb hr S11
        go_wp2_with fail
        refine (same_B (axL 1 xs ys) x1 x5 len y1 y5 w12 (S12.out.rd 4 rfl) (S12.out.rd 0 rfl) (by omega)).mono ?_
        rintro e w13 ⟨rfl, j, rfl⟩
        have S13 := Lib.hid (S12.out.drewN j)
        clear S12
        generalize w12.drewN j = w13 at *
        go_wp2_with fail
        refine (ref_axpy c xs ys _ a b len cap cap2 w13 HCB.out (S13.out.rd 11 rfl) (S13.out.rd 10 rfl) (Nat.le_refl _) BX.out BY.out (by omega)).mono ?_
        rintro e w14 ⟨v6, rfl, ho, hb⟩
        obtain ⟨x6, y6, rfl, hr⟩ := ho.rd2 LT.out
        have S14 := Lib.hid ((S13.out.step hb).add _ hr.1)
        clear ho hb hr S13
        go_wp2_with fail
        refine (same_B (axL c xs ys) x2 x6 len y2 y6 w14 (S14.out.rd 4 rfl) (S14.out.rd 0 rfl) (by omega)).mono ?_
        rintro e w15 ⟨rfl, j, rfl⟩
        have S15 := Lib.hid (S14.out.drewN j)
        clear S14
        generalize w14.drewN j = w15 at *
        go_wp2_with fail
        refine (HDR.out w15 (S15.out.rd 12 rfl) (S15.out.rd 11 rfl)).mono ?_
        rintro e w16 ⟨rfl, j, rfl⟩
        -- [rt, rs, rsc, sc, t, s, y, blk y, x, blk x, f, b, a]
        have SZ : Hid (Sx w (w15.drewN j) [eRd (some ⟨gy, 0, none⟩) len (cellsB ys), eBlk gy 5 spy, eRd (some ⟨gx, 0, none⟩) len (cellsB xs), eBlk gx 5 spx, eFp (none), eRd b len (cellsB ys), eRd a len (cellsB xs)]) := Lib.hid (let h := S15.out.drewN j; ⟨h.1, fun e he => h.2 e (List.mem_append_right [_, _, _, _, _, _] he)⟩)
        clear S15
        generalize w15.drewN j = w3 at *
        clear HDR LS LT lim HSP HSQ HRX HRY
        by_cases hmay : 1 ≤ n0 ∧ n0 ≤ 64 ∧ 0 ≤ at_ ∧ at_ < n0
        · obtain ⟨p1, p2, p3, p4⟩ := hmay
          obtain ⟨n, rfl⟩ := Int.eq_ofNat_of_zero_le (show 0 ≤ n0 by omega)
          obtain ⟨k, rfl⟩ := Int.eq_ofNat_of_zero_le p3
          have hk : k < n := by omega
          have hn64 : n ≤ 64 := by omega
          have HLE := Lib.hid (lead_e hk)
          obtain ⟨k1, hk1⟩ : ∃ k1, k1 = k + 1 := ⟨_, rfl⟩
          have HLR := Lib.hid (lead_rest hk)
          rw [← hk1] at HLR
          go_wp2_with fail
          refine (row_unit n k _ hn64 hk).mono ?_
          rintro e w20 ⟨v8, rfl, ho, hb⟩
          obtain ⟨x8, y8, rfl, hr8, hni, hny, hyI⟩ := ho.rd3 (eRow_len n k)
          have SY := Lib.hid ((SZ.out.step hb).add _ hr8)
          have HR8 := Lib.hid hr8
          clear ho hb hr8 SZ hni
          have CL := Lib.hid fun w' (h : Rd w' w'.heap.size x8 n (cellsB (eRow n k))) => row_lead (eRow n k) w'.heap.size x8 n y8 w' h (eRow_by n k) (by unfold maxLen; omega)
          rw [HLE.out] at CL
          have q1 : k1 ≤ n := by omega
          have q2 : k1 ≤ y8 := by omega
          have qI : ((k : Int) + 1) = (k1 : Int) := by omega
          have hk2 := Lib.hid hk1
          clear hk1
          by_cases hy : y8 = k1
          · have hy' := hy.symm
            clear hy
            subst hy'
            have CM := Lib.hid fun w' bb oo => row_lead [] 0 (some ⟨bb, oo, none⟩) 0 0 w' (rd_nil _ _ _) (by unfold By; decide) (by decide)
            rw [show leadI [] = -1 by decide +kernel] at CM
            obtain ⟨bb, oo, rfl, _, hcc⟩ := (HR8.out : Rd _ _ _ _ _).atB hk
            clear hcc HR8
            go_wp2_with fail
            refine (CL.out _ (SY.out.rd 0 rfl)).mono ?_
            rintro e w21 ⟨rfl, j, rfl⟩
            have SX := Lib.hid (SY.out.drewN j)
            clear SY
            generalize w20.drewN j = w21 at *
            obtain ⟨b9, o9, e9, _, hcc⟩ := (SX.out.rd 0 rfl).atB hk
            injection e9 with e9; injection e9 with e9 e10; subst e9 e10
            have cx := hcc k hk
            rw [eRow_get, if_pos ⟨rfl, hk⟩] at cx
            clear hcc
            go_wp2_with fail
            refine (CM.out _ _ _).mono ?_
            rintro e w22 ⟨rfl, j2, rfl⟩
            have SY := Lib.hid (SX.out.drewN j2)
            clear SX
            go_wp2_with fail
            refine (HKX.out _ gx (SY.out.blk 4 rfl) (SY.out.rd 7 rfl) (by omega)).mono ?_
            rintro e w30 ⟨rfl, j, rfl⟩
            have SW := Lib.hid (SY.out.drewN j)
            try simp only [World.drewN_drewN] at SW
            clear SY
            go_wp2_with fail
            refine (HKY.out _ gy (SW.out.blk 2 rfl) (SW.out.rd 6 rfl) (by omega)).mono ?_
            rintro e w31 ⟨rfl, j2, rfl⟩
            have SV := Lib.hid (SW.out.drewN j2)
            try simp only [World.drewN_drewN] at SV
            clear SW
            go_wp2_with fail
            refine (wakes02 _).mono ?_
            rintro e w32 ⟨rfl, hb⟩
            have SU := Lib.hid (SV.out.step hb)
            clear hb SV
            go_wp2_with fail
            go_ret
            exact ⟨rfl, SU.out.1⟩
          · have r9 := fun w' (h : Rd w' w'.heap.size x8 n (cellsB (eRow n k))) => rd_cut h hny (lo := k1) (n := n - k1) (by omega)
            rw [if_neg hy] at r9
            have CM := Lib.hid fun w' (h : Rd w' w'.heap.size x8 n (cellsB (eRow n k))) c9 => row_lead _ w'.heap.size _ (n - k1) c9 w' (r9 w' h) ((eRow_by n k).part _ _) (by unfold maxLen; omega)
            rw [HLR.out] at CM
            clear r9
            obtain ⟨bb, oo, rfl, _, hcc⟩ := (HR8.out : Rd _ _ _ _ _).atB hk
            clear hcc HR8
            simp only [Option.map_some, Addr.add_lit] at CM
            go_wp2_with fail
            refine (CL.out _ (SY.out.rd 0 rfl)).mono ?_
            rintro e w21 ⟨rfl, j, rfl⟩
            have SX := Lib.hid (SY.out.drewN j)
            clear SY
            generalize w20.drewN j = w21 at *
            obtain ⟨b9, o9, e9, _, hcc⟩ := (SX.out.rd 0 rfl).atB hk
            injection e9 with e9; injection e9 with e9 e10; subst e9 e10
            have cx := hcc k hk
            rw [eRow_get, if_pos ⟨rfl, hk⟩] at cx
            clear hcc
            go_wp2_with fail
            refine (CM.out _ (SX.out.rd 0 rfl) _).mono ?_
            rintro e w22 ⟨rfl, j2, rfl⟩
            have SY := Lib.hid (SX.out.drewN j2)
            clear SX
            go_wp2_with fail
            refine (HKX.out _ gx (SY.out.blk 4 rfl) (SY.out.rd 7 rfl) (by omega)).mono ?_
            rintro e w30 ⟨rfl, j, rfl⟩
            have SW := Lib.hid (SY.out.drewN j)
            try simp only [World.drewN_drewN] at SW
            clear SY
            go_wp2_with fail
            refine (HKY.out _ gy (SW.out.blk 2 rfl) (SW.out.rd 6 rfl) (by omega)).mono ?_
            rintro e w31 ⟨rfl, j2, rfl⟩
            have SV := Lib.hid (SW.out.drewN j2)
            try simp only [World.drewN_drewN] at SV
            clear SW
            go_wp2_with fail
            refine (wakes02 _).mono ?_
            rintro e w32 ⟨rfl, hb⟩
            have SU := Lib.hid (SV.out.step hb)
            clear hb SV
            go_wp2_with fail
            go_ret
            exact ⟨rfl, SU.out.1⟩
        · have CU := Lib.hid fun w => row_unit_un n0 at_ w hmay
          have SY := SZ
          clear SZ
          go_wp2_with fail
          refine (CU.out _).mono ?_
          rintro e w20 ⟨rfl, rfl⟩
          go_wp2_with fail
          all_goals
            first
            | omega
            | skip
            refine (HKX.out _ gx (SY.out.blk 3 rfl) (SY.out.rd 6 rfl) (by omega)).mono ?_
            rintro e w30 ⟨rfl, j, rfl⟩
            have SW := Lib.hid (SY.out.drewN j)
            try simp only [World.drewN_drewN] at SW
            clear SY
            go_wp2_with fail
            refine (HKY.out _ gy (SW.out.blk 1 rfl) (SW.out.rd 5 rfl) (by omega)).mono ?_
            rintro e w31 ⟨rfl, j2, rfl⟩
            have SV := Lib.hid (SW.out.drewN j2)
            try simp only [World.drewN_drewN] at SV
            clear SW
            go_wp2_with fail
            refine (wakes02 _).mono ?_
            rintro e w32 ⟨rfl, hb⟩
            have SU := Lib.hid (SV.out.step hb)
            clear hb SV
            go_wp2_with fail
            go_ret
            exact ⟨rfl, SU.out.1⟩
      · have hl2 : ((len : Int) == (len2 : Int)) = false := by simp; omega
        have hl3 : ¬ (len : Int) = (len2 : Int) := by omega
        go_wp2_with fail
        refine (row_sum_un _ _ len len2 _ _ w3 hl).mono ?_
        rintro e w4 ⟨rfl, rfl⟩
        go_wp2_with fail
        refine (row_axpy_un _ c xs _ _ len len2 _ _ w3 (S3.out.fp 4 rfl) HCB.out (S3.out.rd 2 rfl) BX.out (by omega) hl).mono ?_
        rintro e w5 ⟨rfl, hb⟩
        have S5 := Lib.hid (S3.out.step hb)
        clear hb S3
        -- [y, blk y, x, blk x, f, b, a]
        go_wp2_with fail
        refine (row_dot_un _ _ _ len len2 _ _ w5 hl).mono ?_
        rintro e w6 ⟨rfl, rfl⟩
        go_wp2_with fail
        refine (row_scale _ c xs _ len _ w5 (S5.out.fp 4 rfl) HCB.out (S5.out.rd 2 rfl) BX.out (by omega)).mono ?_
        rintro e w7 ⟨v3, rfl, ho, hb⟩
        obtain ⟨x3, y3, rfl, hr⟩ := ho.rd2 lim.out
        have S7 := Lib.hid ((S5.out.step hb).add _ hr.1)
        clear ho hb hr S5
        go_wp2_with fail
        refine (ref_scale c xs _ a len cap w7 HCB.out (S7.out.rd 7 rfl) (Nat.le_refl _) BX.out (by omega)).mono ?_
        rintro e w8 ⟨v4, rfl, ho, hb⟩
        obtain ⟨x4, y4, rfl, hr⟩ := ho.rd2 lim.out
        have S8 := Lib.hid ((S7.out.step hb).add _ hr.1)
        clear ho hb hr S7
        go_wp2_with fail
        refine (same_B (scL c xs) x3 x4 len y3 y4 w8 (S8.out.rd 1 rfl) (S8.out.rd 0 rfl) (by omega)).mono ?_
        rintro e w9 ⟨rfl, j, rfl⟩
        have S9 := Lib.hid (S8.out.drewN j)
        clear S8
        generalize w8.drewN j = w9 at *
        go_wp2_with fail
        refine (lead_n.out w9 (S9.out.rd 4 rfl)).mono ?_
        rintro e w10 ⟨rfl, j, rfl⟩
        have S10 := Lib.hid (S9.out.drewN j)
        clear S9
        generalize w9.drewN j = w10 at *
        go_wp2_with fail
        refine (leadr_n.out w10 (S10.out.rd 8 rfl)).mono ?_
        rintro e w11 ⟨rfl, j, rfl⟩
        have SZ : Hid (Sx w (w10.drewN j) [eRd (some ⟨gy, 0, none⟩) len2 (cellsB ys), eBlk gy 5 spy, eRd (some ⟨gx, 0, none⟩) len (cellsB xs), eBlk gx 5 spx, eFp (none), eRd b len2 (cellsB ys), eRd a len (cellsB xs)]) := Lib.hid (let h := S10.out.drewN j; ⟨h.1, fun e he => h.2 e (List.mem_append_right [_, _] he)⟩)
        clear S10 lead_n leadr_n
        generalize w10.drewN j = w3 at *
        generalize leadI xs = li at *
        clear lim HSP HSQ HRX HRY
        by_cases hmay : 1 ≤ n0 ∧ n0 ≤ 64 ∧ 0 ≤ at_ ∧ at_ < n0
        · obtain ⟨p1, p2, p3, p4⟩ := hmay
          obtain ⟨n, rfl⟩ := Int.eq_ofNat_of_zero_le (show 0 ≤ n0 by omega)
          obtain ⟨k, rfl⟩ := Int.eq_ofNat_of_zero_le p3
          have hk : k < n := by omega
          have hn64 : n ≤ 64 := by omega
          have HLE := Lib.hid (lead_e hk)
          obtain ⟨k1, hk1⟩ : ∃ k1, k1 = k + 1 := ⟨_, rfl⟩
          have HLR := Lib.hid (lead_rest hk)
          rw [← hk1] at HLR
          go_wp2_with fail
          refine (row_unit n k _ hn64 hk).mono ?_
          rintro e w20 ⟨v8, rfl, ho, hb⟩
          obtain ⟨x8, y8, rfl, hr8, hni, hny, hyI⟩ := ho.rd3 (eRow_len n k)
          have SY := Lib.hid ((SZ.out.step hb).add _ hr8)
          have HR8 := Lib.hid hr8
          clear ho hb hr8 SZ hni
          have CL := Lib.hid fun w' (h : Rd w' w'.heap.size x8 n (cellsB (eRow n k))) => row_lead (eRow n k) w'.heap.size x8 n y8 w' h (eRow_by n k) (by unfold maxLen; omega)
          rw [HLE.out] at CL
          have q1 : k1 ≤ n := by omega
          have q2 : k1 ≤ y8 := by omega
          have qI : ((k : Int) + 1) = (k1 : Int) := by omega
          have hk2 := Lib.hid hk1
          clear hk1
          by_cases hy : y8 = k1
          · have hy' := hy.symm
            clear hy
            subst hy'
            have CM := Lib.hid fun w' bb oo => row_lead [] 0 (some ⟨bb, oo, none⟩) 0 0 w' (rd_nil _ _ _) (by unfold By; decide) (by decide)
            rw [show leadI [] = -1 by decide +kernel] at CM
            obtain ⟨bb, oo, rfl, _, hcc⟩ := (HR8.out : Rd _ _ _ _ _).atB hk
            clear hcc HR8
            go_wp2_with fail
            refine (CL.out _ (SY.out.rd 0 rfl)).mono ?_
            rintro e w21 ⟨rfl, j, rfl⟩
            have SX := Lib.hid (SY.out.drewN j)
            clear SY
            generalize w20.drewN j = w21 at *
            obtain ⟨b9, o9, e9, _, hcc⟩ := (SX.out.rd 0 rfl).atB hk
            injection e9 with e9; injection e9 with e9 e10; subst e9 e10
            have cx := hcc k hk
            rw [eRow_get, if_pos ⟨rfl, hk⟩] at cx
            clear hcc
            go_wp2_with fail
            refine (CM.out _ _ _).mono ?_
            rintro e w22 ⟨rfl, j2, rfl⟩
            have SY := Lib.hid (SX.out.drewN j2)
            clear SX
            go_wp2_with fail
            refine (HKX.out _ gx (SY.out.blk 4 rfl) (SY.out.rd 7 rfl) (by omega)).mono ?_
            rintro e w30 ⟨rfl, j, rfl⟩
            have SW := Lib.hid (SY.out.drewN j)
            try simp only [World.drewN_drewN] at SW
            clear SY
            go_wp2_with fail
            refine (HKY.out _ gy (SW.out.blk 2 rfl) (SW.out.rd 6 rfl) (by omega)).mono ?_
            rintro e w31 ⟨rfl, j2, rfl⟩
            have SV := Lib.hid (SW.out.drewN j2)
            try simp only [World.drewN_drewN] at SV
            clear SW
            go_wp2_with fail
            refine (wakes02 _).mono ?_
            rintro e w32 ⟨rfl, hb⟩
            have SU := Lib.hid (SV.out.step hb)
            clear hb SV
            go_wp2_with fail
            go_ret
            exact ⟨rfl, SU.out.1⟩
          · have r9 := fun w' (h : Rd w' w'.heap.size x8 n (cellsB (eRow n k))) => rd_cut h hny (lo := k1) (n := n - k1) (by omega)
            rw [if_neg hy] at r9
            have CM := Lib.hid fun w' (h : Rd w' w'.heap.size x8 n (cellsB (eRow n k))) c9 => row_lead _ w'.heap.size _ (n - k1) c9 w' (r9 w' h) ((eRow_by n k).part _ _) (by unfold maxLen; omega)
            rw [HLR.out] at CM
            clear r9
            obtain ⟨bb, oo, rfl, _, hcc⟩ := (HR8.out : Rd _ _ _ _ _).atB hk
            clear hcc HR8
            simp only [Option.map_some, Addr.add_lit] at CM
            go_wp2_with fail
            refine (CL.out _ (SY.out.rd 0 rfl)).mono ?_
            rintro e w21 ⟨rfl, j, rfl⟩
            have SX := Lib.hid (SY.out.drewN j)
            clear SY
            generalize w20.drewN j = w21 at *
            obtain ⟨b9, o9, e9, _, hcc⟩ := (SX.out.rd 0 rfl).atB hk
            injection e9 with e9; injection e9 with e9 e10; subst e9 e10
            have cx := hcc k hk
            rw [eRow_get, if_pos ⟨rfl, hk⟩] at cx
            clear hcc
            go_wp2_with fail
            refine (CM.out _ (SX.out.rd 0 rfl) _).mono ?_
            rintro e w22 ⟨rfl, j2, rfl⟩
            have SY := Lib.hid (SX.out.drewN j2)
            clear SX
            go_wp2_with fail
            refine (HKX.out _ gx (SY.out.blk 4 rfl) (SY.out.rd 7 rfl) (by omega)).mono ?_
            rintro e w30 ⟨rfl, j, rfl⟩
            have SW := Lib.hid (SY.out.drewN j)
            try simp only [World.drewN_drewN] at SW
            clear SY
            go_wp2_with fail
            refine (HKY.out _ gy (SW.out.blk 2 rfl) (SW.out.rd 6 rfl) (by omega)).mono ?_
            rintro e w31 ⟨rfl, j2, rfl⟩
            have SV := Lib.hid (SW.out.drewN j2)
            try simp only [World.drewN_drewN] at SV
            clear SW
            go_wp2_with fail
            refine (wakes02 _).mono ?_
            rintro e w32 ⟨rfl, hb⟩
            have SU := Lib.hid (SV.out.step hb)
            clear hb SV
            go_wp2_with fail
            go_ret
            exact ⟨rfl, SU.out.1⟩
        · have CU := Lib.hid fun w => row_unit_un n0 at_ w hmay
          have SY := SZ
          clear SZ
          go_wp2_with fail
          refine (CU.out _).mono ?_
          rintro e w20 ⟨rfl, rfl⟩
          go_wp2_with fail
          all_goals
            first
            | omega
            | skip
            refine (HKX.out _ gx (SY.out.blk 3 rfl) (SY.out.rd 6 rfl) (by omega)).mono ?_
            rintro e w30 ⟨rfl, j, rfl⟩
            have SW := Lib.hid (SY.out.drewN j)
            try simp only [World.drewN_drewN] at SW
            clear SY
            go_wp2_with fail
            refine (HKY.out _ gy (SW.out.blk 1 rfl) (SW.out.rd 5 rfl) (by omega)).mono ?_
            rintro e w31 ⟨rfl, j2, rfl⟩
            have SV := Lib.hid (SW.out.drewN j2)
            try simp only [World.drewN_drewN] at SV
            clear SW
            go_wp2_with fail
            refine (wakes02 _).mono ?_
            rintro e w32 ⟨rfl, hb⟩
            have SU := Lib.hid (SV.out.step hb)
            clear hb SV
            go_wp2_with fail
            go_ret
            exact ⟨rfl, SU.out.1⟩
end Go.Proofs.Ytfbhbjhfebkpfaa
