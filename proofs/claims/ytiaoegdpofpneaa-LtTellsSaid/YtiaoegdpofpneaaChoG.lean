/- law07: the walk of SomeTells. -/
import Derived.Test.YtiaoegdpofpneaaChoF
import Derived.Test.YtiaoegdpofpneaaChoC
import Derived.Deep.RegionHeld3
namespace Go.Proofs.Ytiaoegdpofpneaa
open Go.RowKit Go.Sort
set_option linter.unusedVariables false

def okI (n k : Int) : Bool := decide (0 ≤ n ∧ n ≤ 64 ∧ 0 ≤ k ∧ k ≤ n)
def outL (s n k : Int) : List Nat := if okI n k then chosen false n.toNat s k.toNat else []
def stpL (s n k : Int) : Int := if okI n k then shufS false n.toNat s k.toNat else s
theorem outL_len (s n k : Int) : (outL s n k).length ≤ 64 := by
  unfold outL okI
  split
  · rename_i h
    simp only [decide_eq_true_eq] at h
    rw [chosen_len (by omega)]; omega
  · simp
theorem setD_same {w : World} {b o : Nat} {s : Int} (h : At w ⟨b, o, none⟩ (.int .u64 s)) : setD w (some ⟨b, o, none⟩) s = w := setCell_self w _ _ h.1
theorem cho_any (b o : Nat) (s n k : Int) (w : World) (hD : At w ⟨b, o, none⟩ (.int .u64 s)) :
    Calls Try.prog 38 #[.pointer (some ⟨b, o, none⟩), .int .i64 n, .int .i64 k] w fun e w' => ∃ v, e = .returned v ∧ OwnI w' w.heap.size v (outL s n k) ∧ Below w.heap.size (setD w (some ⟨b, o, none⟩) (stpL s n k)) w' := by
  by_cases h : 0 ≤ n ∧ n ≤ 64 ∧ 0 ≤ k ∧ k ≤ n
  · obtain ⟨N, rfl⟩ := Int.eq_ofNat_of_zero_le h.1
    obtain ⟨K, rfl⟩ := Int.eq_ofNat_of_zero_le h.2.2.1
    have e : okI (N : Int) (K : Int) = true := decide_eq_true h
    unfold outL stpL
    rw [if_pos e, if_pos e]
    exact cho_some (some ⟨b, o, none⟩) s N K w (by omega) (by omega) (.inr ⟨b, o, rfl, hD⟩)
  · have e : ¬ okI n k = true := by simp only [okI, decide_eq_true_eq]; exact h
    unfold outL stpL
    rw [if_neg e, if_neg e, setD_same hD]
    exact (cho_some_un _ n k w h).mono fun e w' ⟨h1, h2⟩ => ⟨_, h1, h2 ▸ OwnI.nil _ _, h2 ▸ Below.refl _ _⟩
theorem ref_any (b o : Nat) (s n k : Int) (w : World) (hD : At w ⟨b, o, none⟩ (.int .u64 s)) :
    Calls Try.prog 39 #[.pointer (some ⟨b, o, none⟩), .int .i64 n, .int .i64 k] w fun e w' => ∃ v, e = .returned v ∧ OwnI w' w.heap.size v (outL s n k) ∧ Below w.heap.size (setD w (some ⟨b, o, none⟩) (stpL s n k)) w' := by
  by_cases h : 0 ≤ n ∧ n ≤ 64 ∧ 0 ≤ k ∧ k ≤ n
  · obtain ⟨N, rfl⟩ := Int.eq_ofNat_of_zero_le h.1
    obtain ⟨K, rfl⟩ := Int.eq_ofNat_of_zero_le h.2.2.1
    have e : okI (N : Int) (K : Int) = true := decide_eq_true h
    unfold outL stpL
    rw [if_pos e, if_pos e]
    exact ref_some b o s N K w (by omega) (by omega) hD
  · have e : ¬ okI n k = true := by simp only [okI, decide_eq_true_eq]; exact h
    unfold outL stpL
    rw [if_neg e, if_neg e, setD_same hD]
    exact (ref_some_un _ n k w h).mono fun e w' ⟨h1, h2⟩ => ⟨_, h1, h2 ▸ OwnI.nil _ _, h2 ▸ Below.refl _ _⟩
theorem same_I (Z : List Nat) (a b : Option Addr) (n c d : Nat) (w : World) (hx : Rd w w.heap.size a n (cellsI Z)) (hy : Rd w w.heap.size b n (cellsI Z)) (hn : n ≤ 1000000) :
    Calls Try.prog 32 #[.slice a n c, .slice b n d] w fun e w' => e = .returned (.bool true) ∧ ∃ j, w' = w.drewN j := by
  have e : cellsI Z = (Z.map fun x : Nat => (x : Int)).map (Value.int .i64) := by simp [cellsI]
  rw [e] at hx hy
  have h := same_i64 _ _ a b n n c d w hx hy (by unfold maxLen; omega) (by unfold maxLen; omega)
  rw [decide_eq_true rfl] at h
  exact h
/-- Behind a call that writes one cell and lays memory. -/
structure Aft (W : World) (b o : Nat) (t : Int) (w' : World) : Prop where
  far : ∀ k, k ≠ b → k < W.heap.size → w'.heap[k]? = W.heap[k]?
  at_ : At w' ⟨b, o, none⟩ (.int .u64 t)
  size : W.heap.size ≤ w'.heap.size
theorem aft_of {W w' : World} {b o : Nat} {s t : Int} (hD : At W ⟨b, o, none⟩ (.int .u64 s)) (h : Below W.heap.size (setD W (some ⟨b, o, none⟩) t) w') : Aft W b o t w' :=
  ⟨fun k hk hl => (h.block k hl).trans (Below.heap_setCell W ⟨b, o, none⟩ (.int .u64 t) k hk), (hD.put (.int .u64 t)).below h hD.lt, by have := h.size; rw [setD_size] at this; exact this⟩
theorem Aft.cell {W w' : World} {b o : Nat} {t : Int} (h : Aft W b o t w') {k i : Nat} (hk : k ≠ b) (hl : k < W.heap.size) : w'.cell? ⟨k, i, none⟩ = W.cell? ⟨k, i, none⟩ := World.cell?_of_block (w := W) (a := ⟨k, i, none⟩) (h.far k hk hl)
theorem Aft.at2 {W w' : World} {b o : Nat} {t : Int} (h : Aft W b o t w') {k i : Nat} {v : Value} (hk : k ≠ b) (ha : At W ⟨k, i, none⟩ v) : At w' ⟨k, i, none⟩ v :=
  ⟨(h.cell hk ha.lt).trans ha.1, (World.frozen?_of_block (w := W) (a := ⟨k, i, none⟩) (h.far k hk ha.lt)).trans ha.2⟩
theorem Aft.own {W w' : World} {b o : Nat} {t : Int} (h : Aft W b o t w') {C : Nat} {v : Value} {l : List Nat} (ho : OwnI W C v l) (hb : b < C) : OwnI w' C v l := by
  unfold OwnI at ho ⊢
  refine ⟨ho.1, ?_⟩
  rcases ho.2 with h2 | ⟨g, cap, cur, rfl, hg, hh, r⟩
  · exact .inl h2
  · exact .inr ⟨g, cap, cur, rfl, hg, (h.far g (by omega) (Array.getElem?_eq_some_iff.1 hh).1).trans hh, r⟩
theorem Aft.blk {W w' : World} {b o : Nat} {t : Int} (h : Aft W b o t w') {g : Nat} {ty : TypeId} {cs : Array Value} (hB : Blk W g ty cs) (hb : g ≠ b) : Blk w' g ty cs := (h.far g hb hB.lt).trans hB
theorem Aft.below {W w w' : World} {b o G : Nat} {s t : Int} (hD : At W ⟨b, o, none⟩ (.int .u64 s)) (h : Below W.heap.size (setD W (some ⟨b, o, none⟩) t) w') (hB : Below G w W) (hb : G ≤ b) : Below G w w' :=
  (hB.setCell (p := ⟨b, o, none⟩) hb (.int .u64 t)).trans (h.mono (by have := hD.lt; simp at this; omega))
theorem four_pairs (a b c d e f g h : Int) {k : Nat} (hk : k < 4) : ∃ x y : Int,
    (#[Value.int .i64 a, .int .i64 b, .int .i64 c, .int .i64 d, .int .i64 e, .int .i64 f, .int .i64 g, .int .i64 h] : Array Value)[k * 2]? = some (.int .i64 x) ∧ (#[Value.int .i64 a, .int .i64 b, .int .i64 c, .int .i64 d, .int .i64 e, .int .i64 f, .int .i64 g, .int .i64 h] : Array Value)[k * 2 + 1]? = some (.int .i64 y) := by
  match k, hk with
  | 0, _ => exact ⟨a, b, rfl, rfl⟩
  | 1, _ => exact ⟨c, d, rfl, rfl⟩
  | 2, _ => exact ⟨e, f, rfl, rfl⟩
  | 3, _ => exact ⟨g, h, rfl, rfl⟩

set_option maxRecDepth 100000 in
set_option maxHeartbeats 8000000 in
theorem someTells_walk (w : World) (sd : Int) (hsd : 0 ≤ sd ∧ sd ≤ 18446744073709551615) (n0 : Int) (hn0 : -9223372036854775808 ≤ n0 ∧ n0 ≤ 9223372036854775807) (k0 : Int) (hk0 : -9223372036854775808 ≤ k0 ∧ k0 ≤ 9223372036854775807) (m0 : Int) (hm0 : -9223372036854775808 ≤ m0 ∧ m0 ≤ 9223372036854775807) :
    Calls Try.prog 11 #[.int .u64 sd, .int .i64 n0, .int .i64 k0, .int .i64 m0] w fun e w' => e = .returned (.bool true) ∧ Below w.heap.size w w' := by
  have hs0 : 0 ≤ sd % 4294967296 ∧ sd % 4294967296 ≤ 4294967295 := by omega
  have HDN := Lib.hid fun w => draw_new (sd % 4294967296) w hs0.1 hs0.2
  generalize hse : sd % 4294967296 = s0 at *
  have q1 := Lib.hid fun w => keep_within n0 65 w hn0 (by omega) (by omega)
  have q2 := Lib.hid fun w => keep_within k0 70 w hk0 (by omega) (by omega)
  have q3 := Lib.hid fun w => keep_within n0 20 w hn0 (by omega) (by omega)
  have q4 := Lib.hid fun w => keep_within m0 20 w hm0 (by omega) (by omega)
  have q5 := Lib.hid fun w => keep_within m0 66 w hm0 (by omega) (by omega)
  have q6 := Lib.hid fun w => keep_within k0 9 w hk0 (by omega) (by omega)
  have b2 : 0 ≤ k0 % 70 ∧ k0 % 70 < 70 := ⟨Int.emod_nonneg _ (by omega), Int.emod_lt_of_pos _ (by omega)⟩
  generalize n0 % 65 = z1 at *
  generalize k0 % 70 = z2 at *
  generalize n0 % 20 = z3 at *
  generalize m0 % 20 = z4 at *
  generalize m0 % 66 = z5 at *
  generalize k0 % 9 = z6 at *
  have hse2 : IntKind.u32.wrap sd = s0 := by rw [IntKind.wrap_u32]; exact hse
  have hs64 : IntKind.u64.wrap s0 = s0 := by rw [IntKind.wrap_u64]; omega
  go_enter Try.func11, Try.ntmps11
  go_wp2_with fail
  refine (HDN.out _).mono ?_
  rintro e w1 ⟨rfl, rfl⟩
  go_wp2_with fail
  refine (q1.out _).mono ?_
  rintro e w2 ⟨rfl, rfl⟩
  go_wp2_with fail
  refine (q2.out _).mono ?_
  rintro e w2 ⟨rfl, rfl⟩
  go_wp2_with fail
  refine (q3.out _).mono ?_
  rintro e w2 ⟨rfl, rfl⟩
  go_wp2_with fail
  refine (q4.out _).mono ?_
  rintro e w2 ⟨rfl, rfl⟩
  go_wp2_with fail
  refine (q5.out _).mono ?_
  rintro e w2 ⟨rfl, rfl⟩
  go_wp2_with fail
  refine (q6.out _).mono ?_
  rintro e w2 ⟨rfl, rfl⟩
  go_wp2_with fail
  generalize hG : w.heap.size = G at *
  have HG := Lib.hid hG
  go_loopw [13, 51] (fun _ i wr => ∃ k : Nat, k ≤ 4 ∧ i = .int .i64 k ∧ Hid (Blk wr (G + 1 + 1) 53 #[.int .i64 n0, .int .i64 k0, .int .i64 z1, .int .i64 (z2 - 2), .int .i64 z3, .int .i64 z4, .int .i64 z5, .int .i64 z6]) ∧ Hid (∃ s', At wr ⟨G, 0, none⟩ (.int .u64 s') ∧ At wr ⟨G + 1, 0, none⟩ (.int .u64 s')) ∧ Hid (Below G w wr)) (fun _ i _ => 4 - (intOf i).toNat)
  case atStart =>
    subst hG
    have hb1 := Blk.new ((w.alloc (.cells #[.int .u64 s0] 74)).alloc (.cells #[.int .u64 s0] 34)) 53 #[.int .i64 n0, .int .i64 k0, .int .i64 z1, .int .i64 (z2 - 2), .int .i64 z3, .int .i64 z4, .int .i64 z5, .int .i64 z6]
    have e : ((w.alloc (.cells #[.int .u64 s0] 74)).alloc (.cells #[.int .u64 s0] 34)).heap.size = w.heap.size + 1 + 1 := by simp
    rw [e] at hb1
    have h1 : At (((w.alloc (.cells #[.int .u64 s0] 74)).alloc (.cells #[.int .u64 s0] 34))) ⟨w.heap.size + 1, 0, none⟩ (.int .u64 s0) := by
      have := At.new (w.alloc (.cells #[.int .u64 s0] 74)) (.int .u64 s0) 34
      rwa [show (w.alloc (.cells #[.int .u64 s0] 74)).heap.size = w.heap.size + 1 by simp] at this
    exact ⟨0, by omega, rfl, Lib.hid hb1, Lib.hid ⟨s0, ((At.new w (.int .u64 s0) _).alloc _).alloc _, h1.alloc _⟩, Lib.hid ((((Below.refl _ _).alloc (Nat.le_refl _) _).alloc (by simp) _).alloc (by simp; omega) _)⟩
  case round =>
    clear hG
    obtain ⟨k, hk, rfl, HK, HS, HB⟩ := hrel
    obtain ⟨s, hd, hr⟩ := HS.out
    clear HS
    by_cases hlt : k < 4
    · obtain ⟨x, y, g0, g1⟩ := four_pairs n0 k0 z1 (z2 - 2) z3 z4 z5 z6 hlt
      have c0 := (HK.out.cell (k * 2)).trans g0
      have c1 := (HK.out.cell (k * 2 + 1)).trans g1
      have hlt' : (k : Int) < 4 := by omega
      have HD := Lib.hid hd
      have HR := Lib.hid hr
      clear g0 g1 hd hr
      go_wp2_with fail
      have hGr := HK.out.lt
      have hK1 := HK.out.alloc (.cells #[.int .i64 x, .int .i64 y] 53)
      have hX1 := Blk.new wr 53 #[.int .i64 x, .int .i64 y]
      have hB1 := HB.out.alloc (by have := HB.out.size; have := HG.out; omega) (.cells #[.int .i64 x, .int .i64 y] 53)
      have hD1 := HD.out.alloc (.cells #[.int .i64 x, .int .i64 y] 53)
      have hR1 := HR.out.alloc (.cells #[.int .i64 x, .int .i64 y] 53)
      clear HK HB c0 c1 HD HR
      generalize wr.heap.size = g at *
      generalize wr.alloc (.cells #[.int .i64 x, .int .i64 y] 53) = w1 at *
      have cx := hX1.cell 0
      have cy := hX1.cell 1
      simp at cx cy
      have HK1 := Lib.hid hK1
      have HX1 := Lib.hid hX1
      have HB1 := Lib.hid hB1
      have hDd : At w1.drew ⟨G, 0, none⟩ (.int .u64 s) := hD1
      have HDD := Lib.hid hDd
      have HRD : Hid (At w1.drew ⟨G + 1, 0, none⟩ (.int .u64 s)) := Lib.hid hR1
      have CS := Lib.hid (cho_any G 0 s x y w1.drew hDd)
      have CR := Lib.hid fun w => ref_any (G + 1) 0 s x y w
      have HLL := Lib.hid (outL_len s x y)
      have hx1s : g < w1.drew.heap.size := hX1.lt
      have hgs : G + 1 < g := by omega
      clear hK1 hX1 hB1 hD1 hR1 hDd
      generalize outL s x y = Z at *
      generalize stpL s x y = s2 at *
      obtain ⟨zl, hzl⟩ : ∃ zl, Z.length = zl := ⟨_, rfl⟩
      have HZL := Lib.hid hzl
      have hz64 : zl ≤ 64 := by have := HLL.out; omega
      clear hzl
      go_region_held3 (fun w' => w'.cell? ⟨g, 0, none⟩ = some (.int .i64 x) ∧ w'.cell? ⟨g, 1, none⟩ = some (.int .i64 y)) (go_keep)
        (first
        | (go_at_call 38; refine CS.out.mono ?_; rintro e w2 ⟨v1, rfl, ho1, hb1⟩
           obtain ⟨a1, c1, rfl, -⟩ := ho1.rd
           have af1 := aft_of HDD.out hb1
           have kc0 := (af1.cell (k := g) (i := 0) (by omega) hx1s).trans cx
           have kc1 := (af1.cell (k := g) (i := 1) (by omega) hx1s).trans cy)
        | (go_at_call 39; refine (CR.out w2 (af1.at2 (by omega) HRD.out)).mono ?_; rintro e w3 ⟨v2, rfl, ho2, hb2⟩
           obtain ⟨a2, c2, rfl, -⟩ := ho2.rd
           have af2 := aft_of (af1.at2 (by omega) HRD.out) hb2
           have kc2 := (af2.cell (k := g) (i := 0) (by omega) (Nat.lt_of_lt_of_le hx1s af1.size)).trans kc0
           have kc3 := (af2.cell (k := g) (i := 1) (by omega) (Nat.lt_of_lt_of_le hx1s af1.size)).trans kc1
           have o1 := (af2.own ho1 (by have := hx1s; omega)).rd
           obtain ⟨a3, c3, e3, hr3⟩ := o1
           obtain ⟨a4, c4, e4, hr4⟩ := ho2.rd)
        | (go_at_call 32
           refine (same_I Z a1 a2 Z.length c1 c2 w3 hr3 hr4 (by have := HLL.out; omega)).mono ?_; rintro e w4 ⟨rfl, j, rfl⟩))
      have HK5 : Hid (Blk (w3.drewN j) (G + 1 + 1) 53 #[.int .i64 n0, .int .i64 k0, .int .i64 z1, .int .i64 (z2 - 2), .int .i64 z3, .int .i64 z4, .int .i64 z5, .int .i64 z6]) := Lib.hid (af2.blk (af1.blk (W := w1.drew) HK1.out (by omega)) (by omega))
      have HS5 : Hid (∃ s', At (w3.drewN j) ⟨G, 0, none⟩ (.int .u64 s') ∧ At (w3.drewN j) ⟨G + 1, 0, none⟩ (.int .u64 s')) := Lib.hid ⟨s2, af2.at2 (by omega) af1.at_, af2.at_⟩
      have hB2 : Below G w w2 := Aft.below HDD.out hb1 (HB1.out.drew) (Nat.le_refl _)
      have HB5 : Hid (Below G w (w3.drewN j)) := Lib.hid (below_drewN (Aft.below (af1.at2 (by omega) HRD.out) hb2 hB2 (by omega)) j)
      clear hB2 hb1 hb2 af1 af2 ho1 ho2 hr3 hr4 kc0 kc1 kc2 kc3 cx cy HK1 HX1 HB1 HDD HRD CS CR
      generalize w3.drewN j = w5 at *
      go_wp2_with fail
      go_roundw
      case rel => first | exact ⟨k + 1, by omega, by go_num, HK5, HS5, HB5⟩ | ((repeat apply Exists.intro); exact ⟨⟨k + 1, by omega, by go_num, HK5, HS5, HB5⟩, rfl⟩)
      case measure => simp [intOf]; omega
    · obtain rfl : k = 4 := by omega
      have HD := Lib.hid hd
      have HR := Lib.hid hr
      have hGr : G ≤ wr.heap.size := by have := HB.out.size; have := HG.out; omega
      have CN := Lib.hid (draw_next s ⟨G, 0, none⟩ wr hd.1 hd.2)
      have hR2 : At (wr.setCell ⟨G, 0, none⟩ (.int .u64 (nxt s))) ⟨G + 1, 0, none⟩ (.int .u64 s) := hr.far (q := ⟨G, 0, none⟩) (by simp) _
      have CM := Lib.hid (rdraw_next s ⟨G + 1, 0, none⟩ (wr.setCell ⟨G, 0, none⟩ (.int .u64 (nxt s))) hR2.1 hR2.2)
      have HB2 := Lib.hid ((HB.out.setCell (p := ⟨G, 0, none⟩) (Nat.le_refl _) (.int .u64 (nxt s))).setCell (p := ⟨G + 1, 0, none⟩) (by simp) (.int .u64 (nxt s)))
      clear hd hr hR2 HB HK HD HR
      have hoo : (outOf s == outOf s) = true := by simp
      go_wp2_with fail
      refine CN.out.mono ?_
      rintro e w2 ⟨rfl, rfl⟩
      go_wp2_with fail
      refine CM.out.mono ?_
      rintro e w3 ⟨rfl, rfl⟩
      go_wp2_with fail
      refine (wakes07 _).mono ?_
      rintro e w4 ⟨rfl, hb⟩
      have HB4 := Lib.hid (HB2.out.trans (hb.mono (by have := HB2.out.size; have := HG.out; omega)))
      clear hb
      go_wp2_with fail
      go_ret
      exact ⟨rfl, by rw [HG.out]; exact HB4.out⟩
end Go.Proofs.Ytiaoegdpofpneaa
