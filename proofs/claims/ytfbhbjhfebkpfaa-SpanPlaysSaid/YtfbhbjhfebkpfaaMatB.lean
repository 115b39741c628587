/- Contracts of the package mat: add (a row is changed in its place), begins. -/
import Derived.Test.YtfbhbjhfebkpfaaMatA
namespace Go.Proofs.Ytfbhbjhfebkpfaa
open Go.RowKit
set_option linter.unusedVariables false

/-- The first k places of what comes, what was behind. -/
def mixL (c : Nat) (xs ys : List Nat) (k : Nat) : List Nat := (axL c xs ys).take k ++ ys.drop k
theorem mixL_len {c : Nat} {xs ys : List Nat} (h : xs.length = ys.length) {k : Nat} (hk : k ≤ ys.length) : (mixL c xs ys k).length = ys.length := by
  unfold mixL
  rw [List.length_append, List.length_take, List.length_drop, axL_len h]; omega
theorem mixL_zero (c : Nat) (xs ys : List Nat) : mixL c xs ys 0 = ys := rfl
theorem mixL_full {c : Nat} {xs ys : List Nat} (h : xs.length = ys.length) : mixL c xs ys ys.length = axL c xs ys := by
  unfold mixL
  rw [List.drop_length, List.append_nil, List.take_of_length_le (by rw [axL_len h]; exact Nat.le_refl _)]
theorem mixL_get {c : Nat} {xs ys : List Nat} (h : xs.length = ys.length) {k : Nat} (hk : k < ys.length) : (mixL c xs ys k).getD k 0 = ys.getD k 0 := by
  unfold mixL
  rw [List.getD_eq_getElem?_getD, List.getElem?_append_right (by rw [List.length_take, axL_len h]; omega), List.length_take, axL_len h, Nat.min_eq_left (by omega), Nat.sub_self, List.getElem?_drop, Nat.add_zero, List.getD_eq_getElem?_getD]
theorem mixL_set {c : Nat} {xs ys : List Nat} (h : xs.length = ys.length) {k : Nat} (hk : k < ys.length) : (mixL c xs ys k).set k (ys.getD k 0 ^^^ fm c (xs.getD k 0)) = mixL c xs ys (k + 1) := by
  have hax : k < (axL c xs ys).length := by rw [axL_len h]; exact hk
  rw [← axL_get h k]
  unfold mixL
  rw [List.set_append_right _ _ (by rw [List.length_take]; omega), List.length_take, Nat.min_eq_left (by omega), Nat.sub_self]
  rw [List.take_succ_eq_append_getElem hax, List.append_assoc, List.singleton_append]
  congr 1
  rw [List.drop_eq_getElem_cons hk, List.set_cons_zero, List.getD_eq_getElem?_getD, List.getElem?_eq_getElem hax]
  rfl

theorem OwnB.form {w : World} {C : Nat} {v : Value} {l : List Nat} (h : OwnB w C v l) (h0 : 0 < l.length) : ∃ g cap, v = .slice (some ⟨g, 0, none⟩) l.length cap ∧ C ≤ g ∧ g < w.heap.size := World.ownsRow.form h h0
theorem OwnB.cell {w : World} {C g n c : Nat} {l : List Nat} (h : OwnB w C (.slice (some ⟨g, 0, none⟩) n c) l) (hl : l.length = n) {k : Nat} (hk : k < n) : w.cell? ⟨g, k, none⟩ = some (.int .u8 (l.getD k 0 : Nat)) ∧ w.frozen? ⟨g, k, none⟩ = false := by
  unfold OwnB at h
  rw [hl] at h
  exact ⟨(h.cellAt k (by omega)).trans (cellsB_get (by omega)), h.frozenAt k⟩
theorem cellsB_set (l : List Nat) (k x : Nat) : (cellsB l).set k (.int .u8 (x : Nat)) = cellsB (l.set k x) := by
  unfold cellsB
  rw [List.map_set]
theorem OwnB.stored {w : World} {C g n c : Nat} {l : List Nat} (h : OwnB w C (.slice (some ⟨g, 0, none⟩) n c) l) (hl : l.length = n) (k x : Nat) :
    OwnB (w.setCell ⟨g, k, none⟩ (.int .u8 (x : Nat))) C (.slice (some ⟨g, 0, none⟩) n c) (l.set k x) ∧ w.grownBy (w.setCell ⟨g, k, none⟩ (.int .u8 (x : Nat))) (some g) := by
  unfold OwnB at h ⊢
  rw [hl] at h
  rw [List.length_set, hl, ← cellsB_set]
  exact h.stored k _
theorem grownBy_refl (w : World) (r : Option Nat) : w.grownBy w r := ⟨rfl, rfl, rfl, Nat.le_refl _, fun _ _ _ => rfl⟩
theorem grownBy_trans {a b c : World} {r : Option Nat} (h : a.grownBy b r) (k : b.grownBy c r) : a.grownBy c r :=
  ⟨k.os.trans h.os, k.tape.trans h.tape, k.output.trans h.output, Nat.le_trans h.size k.size, fun i hi hr => (k.block i (Nat.lt_of_lt_of_le hi h.size) hr).trans (h.block i hi hr)⟩
theorem grownBy_drewN {a b : World} {r : Option Nat} (h : a.grownBy b r) (j : Nat) : a.grownBy (b.drewN j) r := ⟨h.os, h.tape, h.output, h.size, h.block⟩
theorem Blk.ne {w : World} {g g' : Nat} {t t' : TypeId} {cs cs' : Array Value} (h : Blk w g t cs) (h' : Blk w g' t' cs') (hne : t ≠ t') : g ≠ g' := by
  intro e
  subst e
  have := h.symm.trans h'
  injection this with this
  injection this with _ ht
  exact hne ht
theorem fld_own {w : World} {C g gf n c : Nat} {l : List Nat} (h : OwnB w C (.slice (some ⟨g, 0, none⟩) n c) l) (hF : Fld w gf) : gf ≠ g := by
  rcases h.2 with ⟨h1, _⟩ | ⟨g', cap, cur, h1, _, hb, _⟩
  · simp at h1
  · injection h1 with h1
    injection h1 with h1
    injection h1 with h1
    subst h1
    exact Blk.ne (t := 100) (t' := 5) hF hb (by decide)

set_option maxRecDepth 100000 in
set_option maxHeartbeats 4000000 in
theorem mat_add (gf c : Nat) (xs ys : List Nat) (a : Option Addr) (n ca C : Nat) (u : Value) (w : World) (hF : Fld w gf) (hc : c < 256) (hx : ∀ w', w.grownBy w' u.ownBlock → Rd w' w'.heap.size a n (cellsB xs)) (hu : OwnB w C u ys) (hly : ys.length = n) (hbx : By xs) (hby : By ys) (hn : n ≤ 1000000) :
    Calls Try.prog 92 #[.pointer (some ⟨gf, 0, none⟩), .int .u8 c, .slice a n ca, u] w fun e w' => e = .returned (.tuple #[]) ∧ OwnB w' C u (axL c xs ys) ∧ w.grownBy w' u.ownBlock := by
  have hlx : xs.length = n := by have := (hx w (grownBy_refl _ _)).len; rwa [cellsB_len] at this
  by_cases hc0 : c = 0
  · subst hc0
    rw [axL_zero (by omega)]
    clear hx hbx hby hlx hly
    have HU := Lib.hid hu
    clear hu
    go_enter Try.func92, Try.ntmps92
    go_wp2_with fail
    (try simp only [Exit.inBlock, Exit.then]); refine bodyPost_ret (results_none rfl _ _ _) rfl ?_
    exact ⟨rfl, HU.out, grownBy_refl _ _⟩
  · have hcz : ((c : Int) == 0) = false := by simpa using hc0
    have HX := Lib.hid hx
    have HBX := Lib.hid hbx
    have HBY := Lib.hid hby
    have HLX := Lib.hid hlx
    have HLY := Lib.hid hly
    have HU : Hid (OwnB w C u (mixL c xs ys 0)) := Lib.hid hu
    have HF := Lib.hid hF
    clear hx hbx hby hlx hly hu hF
    go_enter Try.func92, Try.ntmps92
    go_wp2_with fail
    go_loopw [8, 9, 14] (fun _ _ i wr => ∃ k : Nat, k ≤ n ∧ i = .int .i64 k ∧ Hid (OwnB wr C u (mixL c xs ys k)) ∧ Hid (Fld wr gf) ∧ Hid (w.grownBy wr u.ownBlock)) (fun _ _ i _ => n - (intOf i).toNat)
    case atStart => exact ⟨0, by omega, rfl, HU, HF, Lib.hid (grownBy_refl _ _)⟩
    case round =>
      clear HU HF
      obtain ⟨k, hk, rfl, HU, HF, HG⟩ := hrel
      by_cases hlt : k < n
      · have hx1 := HX.out wr HG.out
        obtain ⟨bx, ox, rfl, hbx, hcx⟩ := hx1.atB hlt
        have cx := hcx k hlt
        have hml : (mixL c xs ys k).length = n := by rw [mixL_len (by rw [HLX.out, HLY.out]) (by rw [HLY.out]; omega)]; exact HLY.out
        obtain ⟨g, cap, rfl, hgC, hgs⟩ := HU.out.form (by omega)
        rw [hml] at HU HG HX ⊢
        obtain ⟨cy, fy⟩ := HU.out.cell hml hlt
        rw [mixL_get (by rw [HLX.out, HLY.out]) (by rw [HLY.out]; exact hlt)] at cy
        have hst := HU.out.stored hml k (ys.getD k 0 ^^^ fm c (xs.getD k 0))
        rw [mixL_set (by rw [HLX.out, HLY.out]) (by rw [HLY.out]; exact hlt)] at hst
        have hxb := getD_lt HBX.out k
        have hyb := getD_lt HBY.out k
        have hgf := fld_own HU.out HF.out
        have hml2 := hml
        have HGF := Lib.hid hgf
        clear hx1 hcx hml hgf
        generalize xs.getD k 0 = x at *
        generalize ys.getD k 0 = y at *
        have CM := Lib.hid (gf_mul gf c x hc hxb wr.drew (Blk.drew HF.out))
        have hz := fm_bd c x
        generalize fm c x = z at *
        have e1 := u8_xor_nat y z hyb hz
        generalize y ^^^ z = q at *
        have HST := Lib.hid hst
        clear hst
        have hlt' : (k : Int) < (n : Int) := by omega
        go_wp2_with fail
        go_region_with ((go_at_call 26; refine CM.out.mono ?_; rintro e w3 ⟨rfl, j, rfl⟩))
        all_goals (
          have HU2 : Hid (OwnB ((wr.drewN (1 + j)).setCell ⟨g, k, none⟩ (.int .u8 (q : Nat))) C (.slice (some ⟨g, 0, none⟩) n cap) (mixL c xs ys (k + 1))) := Lib.hid HST.out.1
          have HG2 : Hid (w.grownBy ((wr.drewN (1 + j)).setCell ⟨g, k, none⟩ (.int .u8 (q : Nat))) (Value.slice (some ⟨g, 0, none⟩) n cap).ownBlock) := Lib.hid (grownBy_trans HG.out (grownBy_trans (grownBy_drewN (grownBy_refl _ _) (1 + j)) ((OwnB.stored (HU.out.drewN (1 + j)) hml2 k q).2)))
          have HF2 : Hid (Fld ((wr.drewN (1 + j)).setCell ⟨g, k, none⟩ (.int .u8 (q : Nat))) gf) := Lib.hid (Blk.far (w := wr.drewN (1 + j)) HF.out HGF.out _)
          clear HST HU HG HF CM cx cy fy
          generalize (wr.drewN (1 + j)).setCell ⟨g, k, none⟩ (.int .u8 (q : Nat)) = w4 at *
          go_wp2_with fail
          go_roundw
          case rel => first | exact ⟨k + 1, by omega, by go_num, HU2, HF2, HG2⟩ | ((repeat apply Exists.intro); exact ⟨⟨k + 1, by omega, by go_num, HU2, HF2, HG2⟩, rfl⟩)
          case measure => simp [intOf]; omega)
      · obtain rfl : k = n := by omega
        have hf : mixL c xs ys k = axL c xs ys := by rw [← HLY.out]; exact mixL_full (by rw [HLX.out, HLY.out])
        rw [hf] at HU
        go_wp2_with fail
        go_end0
        exact ⟨rfl, HU.out, HG.out⟩

/-- As Q; by a goto: what J says of the label. -/
def jumpsTo (J : Nat → Act → World → Prop) (Q : Exit → Act → World → Prop) : Exit → Act → World → Prop
  | .goto l', a, w => J l' a w
  | e, a, w => Q e a w
theorem wp_scope_jumpsTo {P : Program} {Q : Exit → Act → World → Prop} {c : Code} {a : Act} {w : World} (J : Nat → Nat → Act → World → Prop)
    (first : c.wp P (jumpsTo (fun l a w => ∃ n, J l n a w) Q) a w)
    (pass : ∀ l n a w, J l n a w → ∃ rest, findLabel c l = some rest ∧ rest.wp P (jumpsTo (fun l' a' w' => ∃ n', n' < n ∧ J l' n' a' w') Q) a w) : (Code.scope c).wp P Q a w := by
  intro b k cs
  have hg : ∀ l rest, findLabel c l = some rest → gotoIn l (.inScope c :: k) = some (.code rest :: .inScope c :: k) := fun l rest hf => by simp [gotoIn, hf]
  have key : ∀ n l a w rest, J l n a w → findLabel c l = some rest → ∃ e a' w', Q e a' w' ∧ Arrives P (lone (b.at a (.code rest :: .inScope c :: k)) cs w) b k cs e a' w' := by
    intro n
    induction n using Nat.strongRecOn with
    | _ n ih =>
      intro l a w rest hJ hf
      obtain ⟨rest', hf', hw⟩ := pass l n a w hJ
      obtain rfl : rest = rest' := by rw [hf] at hf'; exact Option.some.inj hf'
      obtain ⟨e, a₁, w₁, hq, harr⟩ := hw b (.inScope c :: k) cs
      cases e with
      | normal => exact ⟨.normal, a₁, w₁, hq, Steps.trans harr (.one step_inScope)⟩
      | exit id => exact ⟨.exit id, a₁, w₁, hq, fun k' hk => harr k' (by simp [exitTo, hk])⟩
      | goto l' =>
        obtain ⟨n', hlt, hJ'⟩ := hq
        obtain ⟨rest2, hf2, _⟩ := pass l' n' a₁ w₁ hJ'
        obtain ⟨e₂, a₂, w₂, hq₂, harr₂⟩ := ih n' hlt l' a₁ w₁ rest2 hJ' hf2
        exact ⟨e₂, a₂, w₂, hq₂, .of_steps (harr _ (hg l' rest2 hf2)) harr₂⟩
      | ret => exact ⟨_, a₁, w₁, hq, harr⟩
      | panic ch => exact ⟨_, a₁, w₁, hq, harr⟩
      | outgrown => exact ⟨_, a₁, w₁, hq, harr⟩
  obtain ⟨e, a₁, w₁, hq, harr⟩ := first b (.inScope c :: k) cs
  cases e with
  | normal => exact ⟨.normal, a₁, w₁, hq, .head step_scope (Steps.trans harr (.one step_inScope))⟩
  | exit id => exact ⟨.exit id, a₁, w₁, hq, fun k' hk => .head step_scope (harr k' (by simp [exitTo, hk]))⟩
  | goto l' =>
    obtain ⟨n', hJ'⟩ := hq
    obtain ⟨rest2, hf2, _⟩ := pass l' n' a₁ w₁ hJ'
    obtain ⟨e₂, a₂, w₂, hq₂, harr₂⟩ := key n' l' a₁ w₁ rest2 hJ' hf2
    exact ⟨e₂, a₂, w₂, hq₂, .of_steps (.head step_scope (harr _ (hg l' rest2 hf2))) harr₂⟩
  | ret => exact ⟨_, a₁, w₁, hq, .of_steps (.one step_scope) harr⟩
  | panic ch => exact ⟨_, a₁, w₁, hq, .of_steps (.one step_scope) harr⟩
  | outgrown => exact ⟨_, a₁, w₁, hq, .of_steps (.one step_scope) harr⟩
/-- 'pre; l: rest', where rest jumps back to l, or out to m (behind which rest2 stands). -/
theorem wp_goto_two {P : Program} {Q : Exit → Act → World → Prop} {a : Act} {w : World} {pre rest : Code} (l m : Nat) (hlm : l ≠ m) (J : Nat → Act → World → Prop) (K : Act → World → Prop) (n₀ : Nat) (rest2 : Code)
    (hf : findLabel (pre.seq ((Code.label l).seq rest)) l = some (Code.skip.seq rest))
    (hf2 : findLabel (pre.seq ((Code.label l).seq rest)) m = some (Code.skip.seq rest2))
    (first : pre.wp P (Exit.then (J n₀) (jumpsTo (fun _ _ _ => False) Q)) a w)
    (pass : ∀ n a w, J n a w → rest.wp P (jumpsTo (fun l' a' w' => (l' = l ∧ ∃ n', n' < n ∧ J n' a' w') ∨ (l' = m ∧ K a' w')) Q) a w)
    (out : ∀ a w, K a w → rest2.wp P (jumpsTo (fun _ _ _ => False) Q) a w) : (Code.scope (pre.seq ((Code.label l).seq rest))).wp P Q a w := by
  have weak : ∀ n (e : Exit) (a' : Act) (w' : World), jumpsTo (fun l' a' w' => (l' = l ∧ ∃ n', n' < n ∧ J n' a' w') ∨ (l' = m ∧ K a' w')) Q e a' w' → jumpsTo (fun l' a' w' => ∃ n', n' < n + 1 ∧ ((l' = l ∧ ∃ k, n' = k + 1 ∧ J k a' w') ∨ (l' = m ∧ n' = 0 ∧ K a' w'))) Q e a' w' := by
    intro n e a' w' hq
    cases e with
    | goto l' =>
      rcases hq with ⟨h1, n', h2, h3⟩ | ⟨h1, h2⟩
      · exact ⟨n' + 1, by omega, .inl ⟨h1, n', rfl, h3⟩⟩
      · exact ⟨0, by omega, .inr ⟨h1, rfl, h2⟩⟩
    | normal => exact hq
    | exit id => exact hq
    | ret => exact hq
    | panic ch => exact hq
    | outgrown => exact hq
  refine wp_scope_jumpsTo (fun l' n a w => (l' = l ∧ ∃ k, n = k + 1 ∧ J k a w) ∨ (l' = m ∧ n = 0 ∧ K a w)) ?_ ?_
  · refine wp_seq (wp_mono first ?_)
    intro e a' w' hq
    cases e with
    | normal =>
      refine wp_seq (wp_label ?_)
      refine wp_mono (pass n₀ a' w' hq) ?_
      intro e a' w' hq
      have := weak _ e a' w' hq
      cases e with
      | goto l' => obtain ⟨n', _, h⟩ := this; exact ⟨n', h⟩
      | normal => exact hq
      | exit id => exact hq
      | ret => exact hq
      | panic ch => exact hq
      | outgrown => exact hq
    | goto l' => exact hq.elim
    | exit id => exact hq
    | ret => exact hq
    | panic ch => exact hq
    | outgrown => exact hq
  · intro l' n a w hJ
    rcases hJ with ⟨rfl, k, rfl, hJ⟩ | ⟨rfl, rfl, hK⟩
    · exact ⟨_, hf, wp_seq (wp_skip (wp_mono (pass k a w hJ) (weak k)))⟩
    · refine ⟨_, hf2, wp_seq (wp_skip (wp_mono (out a w hK) ?_))⟩
      intro e a' w' hq
      cases e with
      | goto l' => exact hq.elim
      | normal => exact hq
      | exit id => exact hq
      | ret => exact hq
      | panic ch => exact hq
      | outgrown => exact hq

/-- Where a column's first row from i on is that has no 0 there, of k rows; -1: none. -/
def begI (M : List (List Nat)) (col i k : Nat) : Int := match fndF M col i k with | some p => (p : Int) | none => -1
theorem begI_zero (M : List (List Nat)) (col i : Nat) : begI M col i 0 = -1 := rfl
theorem begI_hit {M : List (List Nat)} {col i k : Nat} (h : gt M i col ≠ 0) : begI M col i (k + 1) = i := by unfold begI; rw [fndF, if_pos h]
theorem begI_miss {M : List (List Nat)} {col i k : Nat} (h : gt M i col = 0) : begI M col i (k + 1) = begI M col (i + 1) k := by unfold begI; rw [fndF, if_neg (fun h2 => h2 h)]
theorem ret_i64 {a b : Int} (h : a = b) : Ending.returned (.int .i64 a) = .returned (.int .i64 b) := by rw [h]

set_option maxRecDepth 100000 in
set_option maxHeartbeats 4000000 in
theorem mat_begins (n m top col : Nat) (M : List (List Nat)) (B : Nat) (a : Option Addr) (c : Nat) (w : World) (h : RdM w B a m M) (hW : Wf n M) (hcol : col < n) (ht : top ≤ m) (hm : m ≤ 1000000) (hn : n ≤ 1000000) :
    Calls Try.prog 96 #[.slice a m c, .int .i64 top, .int .i64 col] w fun e w' => e = .returned (.int .i64 (begI M col top (m - top))) ∧ w = w' := by
  have H := Lib.hid h
  have HW := Lib.hid hW
  clear h hW
  go_enter Try.func96, Try.ntmps96
  go_wp2_with fail
  refine wp_goto_two 0 1 (by decide) (fun x a' w' => ∃ (i : Nat) (u8 u9 u10 u11 u12 u13 u14 u15 u16 u17 u18 u19 u20 u21 u22 u23 : Value), (i ≤ m ∧ m - i < x ∧ Hid (begI M col i (m - i) = begI M col top (m - top)) ∧ w = w') ∧
      a' = { tmps := #[.slice a m c, .int .i64 top, .int .i64 col, undef, undef, undef, .int .i64 0, .int .i64 i, u8, u9, u10, u11, u12, u13, u14, u15, u16, u17, u18, u19, u20, u21, u22, u23], defers := [] }) (fun a' w' => ∃ (i : Nat) (u8 u9 u10 u11 u12 u13 u14 u15 u16 u17 u18 u19 u20 u21 u22 u23 : Value), (Hid ((i : Int) = begI M col top (m - top)) ∧ w = w') ∧
      a' = { tmps := #[.slice a m c, .int .i64 top, .int .i64 col, undef, undef, undef, .int .i64 0, .int .i64 i, u8, u9, u10, u11, u12, u13, u14, u15, u16, u17, u18, u19, u20, u21, u22, u23], defers := [] }) (m - top + 1) _ rfl rfl ?_ ?_ ?_
  · go_wp2_with fail
    exact ⟨top, _, _, _, _, _, _, _, _, _, _, _, _, _, _, _, _, ⟨ht, by omega, Lib.hid rfl, by first | rfl | trivial⟩, rfl⟩
  · rintro x a' w' ⟨i, u8, u9, u10, u11, u12, u13, u14, u15, u16, u17, u18, u19, u20, u21, u22, u23, ⟨hi, hx, HR, rfl⟩, rfl⟩
    by_cases hlt : i < m
    · obtain ⟨b, o, a', c', rfl, hb, hcell, hrd, _⟩ := H.out.at hlt
      have hl := (HW.out.get (i := i) (by rw [H.out.len]; exact hlt)).1
      rw [hl] at hcell hrd
      obtain ⟨bx, ox, rfl, hbx, hcx⟩ := hrd.atB hcol
      have cx := hcx col hcol
      have hmi : m - i = (m - (i + 1)) + 1 := by omega
      have hgt : (M.getD i []).getD col 0 = gt M i col := rfl
      rw [hgt] at cx
      have hlt' : (i : Int) < (m : Int) := by omega
      have hlt2 : (col : Int) < (n : Int) := by omega
      by_cases h0 : gt M i col = 0
      · have HR2 : Hid (begI M col (i + 1) (m - (i + 1)) = begI M col top (m - top)) := Lib.hid (by rw [← HR.out, hmi, begI_miss h0])
        rw [h0] at cx
        clear hcx hrd hl hmi hgt h0 HR
        obtain ⟨y, rfl⟩ : ∃ y, x = y + 1 := ⟨x - 1, by omega⟩
        go_wp2_with fail
        go_step3
        exact .inl ⟨rfl, y, by omega, i + 1, _, _, _, _, _, _, _, _, _, _, _, _, _, _, _, _, ⟨by omega, by omega, HR2, by first | rfl | trivial⟩, by rfl⟩
      · have HR2 : Hid ((i : Int) = begI M col top (m - top)) := Lib.hid (by rw [← HR.out, hmi, begI_hit h0])
        generalize gt M i col = q at *
        have hq : ((q : Int) != 0) = true := by simp; omega
        clear hcx hrd hl hmi hgt HR
        go_wp2_with fail
        go_step3
        exact .inr ⟨rfl, i, _, _, _, _, _, _, _, _, _, _, _, _, _, _, _, _, ⟨HR2, by first | rfl | trivial⟩, by rfl⟩
    · obtain rfl : i = m := by omega
      have HR2 : Hid ((-1 : Int) = begI M col top (i - top)) := Lib.hid (by rw [← HR.out, Nat.sub_self, begI_zero])
      go_wp2_with fail
      simp only [jumpsTo]
      go_ret
      exact ⟨ret_i64 HR2.out, rfl⟩
  · rintro a' w' ⟨i, u8, u9, u10, u11, u12, u13, u14, u15, u16, u17, u18, u19, u20, u21, u22, u23, ⟨HR, rfl⟩, rfl⟩
    go_wp2_with fail
    simp only [jumpsTo]
    go_ret
    exact ⟨ret_i64 HR.out, rfl⟩
end Go.Proofs.Ytfbhbjhfebkpfaa
