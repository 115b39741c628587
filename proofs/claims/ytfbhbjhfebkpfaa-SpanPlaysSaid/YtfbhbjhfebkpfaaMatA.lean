/- Contracts of the package mat: May, own, sure, width, add, begins; bytes.Clone. -/
import Derived.Test.YtfbhbjhfebkpfaaMat
import Derived.Deep.RegionWith
namespace Go.Proofs.Ytfbhbjhfebkpfaa
open Go.RowKit
set_option linter.unusedVariables false

theorem info_rows : (Try.prog.info? 49).map (fun i => (i.zero, i.size, i.bytes)) = some (some (.slice none 0 0), 1, 24) := by kernel_rfl

set_option maxRecDepth 100000 in
set_option maxHeartbeats 1000000 in
theorem bytes_clone (xs : List Nat) (B : Nat) (a : Option Addr) (n c : Nat) (w : World) (hx : Rd w B a n (cellsB xs)) (hB : B ≤ w.heap.size) (hnil : a = none → c = 0) (hn : n ≤ 1000000) :
    Calls Try.prog 93 #[.slice a n c] w fun e w' => ∃ v, e = .returned v ∧ OwnB w' w.heap.size v xs ∧ Below w.heap.size w w' := by
  have hlx : xs.length = n := by have := hx.len; rwa [cellsB_len] at this
  cases a with
  | none =>
    obtain rfl := hnil rfl
    have hn0 : n = 0 := by
      rcases Nat.eq_zero_or_pos n with h | h
      · exact h
      · obtain ⟨b, o, e, _⟩ := hx.2 h
        cases e
    subst hn0
    obtain rfl : xs = [] := List.eq_nil_of_length_eq_zero hlx
    have hq := fun W => Lib.run_eql_slice_nil (P := Try.prog) W 49 5 none 0 0 0 0 Try.underlying49
    clear hx hnil hlx
    go_enter Try.func93, Try.ntmps93
    go_wp2_with fail
    go_ret
    exact ⟨_, rfl, OwnB.nil _ _, Below.refl _ _⟩
  | some ad =>
    have hq := fun W => Lib.run_eql_slice_nil (P := Try.prog) W 49 5 (some ad) n c 0 0 Try.underlying49
    have HX := Lib.hid hx
    have HL := Lib.hid hlx
    clear hx hnil hlx
    go_enter Try.func93, Try.ntmps93
    go_wp2_with (at_builtin; refine wp_appRd _ rfl _ _ 49 rfl w.heap.size 5 (.int .u8 0) 1 Try.underlying49 infoS_u8 rfl (.slice (some ⟨w.heap.size, 0, none⟩) 0 0) 0 [] rfl ?o1 B ad n c (cellsB xs) rfl ?o2 (cellsB_one xs) ?o3 ?o4 ?o5 ?_)
    case o1 => exact World.ownsRow_made w #[] 0 (Nat.le_refl _) (by unfold maxLen; omega) (by simp)
    case o2 => exact HX.out.keep (fun p hp => World.cell?_alloc_lt _ _ _ (by omega))
    case o3 => omega
    case o4 => unfold maxLen; omega
    case o5 => simp
    intro v w1 hown hg hv
    have hb : Below w.heap.size w w1 := ((Below.refl _ _).alloc (Nat.le_refl _) _).grown hg (by simp) (fun k hk => by simp [Value.ownBlock] at hk; omega)
    have hown' : OwnB w1 w.heap.size v xs := by first | (rw [← HL.out] at hown; exact hown) | (rw [Nat.zero_add, List.nil_append, ← HL.out] at hown; exact hown)
    have HO := Lib.hid hown'
    have HB := Lib.hid hb
    clear hown hg hb hv hown'
    go_wp2_with fail
    go_ret
    exact ⟨_, rfl, HO.out, HB.out⟩

/-- 'append(out, row)', the row made since. -/
theorem wp_appRow {w0 w1 : World} {ops : Array Oper} {rest : List Oper} {o : Oper} {a : Act} {Q : Exit → Act → World → Prop} (hgd : o.guard = none) (s x : Operand) {C : Nat} {v u : Value} {M : List (List Nat)} {l : List Nat}
    (ho : o.op = .call { callee := .builtin .append, args := #[s, x], argTypes := #[46, 46] })
    (h : MOwn w0 C v M) (hb : Below w0.heap.size w0 w1) (hu : OwnB w1 w0.heap.size u l) (hC : C ≤ w0.heap.size) (hl : M.length ≤ 1000000)
    (hs : a.eval s = v) (hx : a.eval x = .slice (some ⟨w1.heap.size, 0, none⟩) 1 1)
    (K : ∀ v' w2, MOwn w2 C v' (M ++ [l]) → Below C w0 w2 → (w1.alloc (.cells #[u] 49)).grownBy w2 v.ownBlock → (v'.ownBlock = v.ownBlock ∨ v'.ownBlock = some (w1.heap.size + 1)) → wpList Try.prog ops Q rest (a.put o.dst v') w2) :
    wpList Try.prog ops Q (o :: rest) a (w1.alloc (.cells #[u] 49)) := by
  obtain ⟨vs, h⟩ := h
  have hs1 := hb.size
  have h1 := h.new hb
  have hba := (Below.refl w1.heap.size w1).alloc (Nat.le_refl _) (.cells #[u] 49)
  have h2 := h1.new hba
  have hone : u.oneCell' = true := by obtain ⟨a', c', e, _⟩ := hu.rd; rw [e]; rfl
  refine wp_app1At (P := Try.prog) _ hgd s x 46 ho C 49 (.slice none 0 0) 24 Try.underlying46 info_rows rfl v M.length vs hs h2.hd w1.heap.size u hx (cell_lit w1 #[u] _ 0) hone (by omega) (by unfold maxLen; omega) (by simp; omega) fun v' w2 hown hg hat => ?_
  have hrow : ∀ (i : Nat) u', vs[i]? = some u' → ∀ b, u'.ownBlock = some b → b < w0.heap.size := fun i u' hu' b hb' => ((h.of hu').1.lt b hb').2
  refine K v' w2 ⟨_, h2.snoc hrow hC (hu.below hba) hown hg⟩ ?_ hg (by rcases hat with h | h; exact .inl h; right; rw [h]; simp)
  refine (((hb.mono hC).alloc (by omega) _).grown hg (by simp; omega) fun k hk => ?_)
  exact (h.hd.lt k hk).1

set_option maxRecDepth 100000 in
set_option maxHeartbeats 2000000 in
theorem mat_may (n m : Nat) (M : List (List Nat)) (B : Nat) (a : Option Addr) (c : Nat) (w : World) (h : RdM w B a m M) (hW : Wf n M) (hn : n ≤ 64) (hm : m ≤ 1000000) :
    Calls Try.prog 87 #[.slice a m c] w fun e w' => e = .returned (.bool true) ∧ w = w' := by
  have H := Lib.hid h
  have HW := Lib.hid hW
  clear h hW
  go_enter Try.func87, Try.ntmps87
  go_wp2_with fail
  go_loopw [4, 7] (fun _ i wr => ∃ k : Nat, k ≤ m ∧ i = .int .i64 k ∧ wr = w) (fun _ i _ => m - (intOf i).toNat)
  case atStart => exact ⟨0, by omega, rfl, rfl⟩
  case round =>
    obtain ⟨k, hk, rfl, rfl⟩ := hrel
    by_cases hlt : k < m
    · obtain ⟨b, o, a0, c0, rfl, hb, hc0, _⟩ := H.out.at (show 0 < m by omega)
      obtain ⟨b', o', a1, c1, e, _, hc1, _⟩ := H.out.at hlt
      injection e with e
      injection e with e1 e2 e3
      subst e1 e2
      have l0 := (HW.out.get (i := 0) (by rw [H.out.len]; omega)).1
      have l1 := (HW.out.get (i := k) (by rw [H.out.len]; omega)).1
      rw [l0, Nat.add_zero] at hc0
      rw [l1] at hc1
      have hnn : ((n : Int) != (n : Int)) = false := by simp
      have hlt' : (k : Int) < (m : Int) := by omega
      have hn' : ¬ ((n : Int) > 64) := by omega
      clear l0 l1
      go_wp2_with fail
      go_roundw
      case rel => exact ⟨k + 1, by omega, by go_num, by first | trivial | rfl⟩
      case measure => simp [intOf]; omega
    · obtain rfl : k = m := by omega
      go_wp2_with fail
      go_ret
      exact ⟨rfl, rfl⟩

set_option maxRecDepth 100000 in
set_option maxHeartbeats 4000000 in
theorem mat_own (M : List (List Nat)) (B : Nat) (a : Option Addr) (m c : Nat) (w : World) (h : RdM w B a m M) (hB : B ≤ w.heap.size) (hl : ∀ l ∈ M, l.length ≤ 1000000) (hm : m ≤ 1000000) :
    Calls Try.prog 88 #[.slice a m c] w fun e w' => ∃ g c', e = .returned (.slice (some ⟨g, 0, none⟩) m c') ∧ MOwn w' w.heap.size (.slice (some ⟨g, 0, none⟩) m c') M ∧ Below w.heap.size w w' := by
  have H := Lib.hid (h.more hB)
  have HL := Lib.hid hl
  have HM := Lib.hid h.len
  clear h hl
  obtain ⟨i0, hi, hz0, hz1, hz2⟩ := info_parts info_rows
  have hmk : ∀ w : World, (Instr.makeSlice 46 (.int .i64 0) (.int .i64 (m : Int))).run Try.prog w = .ok (.slice (some ⟨w.heap.size, 0, none⟩) 0 m) (w.alloc (.cells (madeCells #[Value.slice none 0 0] m) 49)) := by
    intro w
    have h := run_make (P := Try.prog) w 46 49 i0 (.slice none 0 0) Try.underlying46 hi hz0 .i64 .i64 0 (m : Int) (by omega) (by omega) (by rw [hz2]; omega) (by omega)
    rw [hz1, Nat.mul_one, Int.toNat_zero, Int.toNat_natCast] at h
    exact h
  have hms : (madeCells #[Value.slice none 0 0] m).size = m * 1 := by rw [size_madeCells, Nat.mul_one]
  clear hi hz0 hz1 hz2
  generalize madeCells #[Value.slice none 0 0] m = cur at *
  go_enter Try.func88, Try.ntmps88
  go_wp2_with (simp only [hmk])
  have HO : Hid (∃ g cc, Value.slice (some ⟨w.heap.size, 0, none⟩) 0 m = .slice (some ⟨g, 0, none⟩) 0 cc ∧ MOwn (w.alloc (.cells cur 49)) w.heap.size (Value.slice (some ⟨w.heap.size, 0, none⟩) 0 m) (M.take 0)) := Lib.hid ⟨_, _, rfl, [], World.ownsRow_made w cur m (Nat.le_refl _) (by unfold maxLen; omega) hms, by simp, by simp⟩
  have HBL := Lib.hid ((Below.refl w.heap.size w).alloc (Nat.le_refl _) (.cells cur 49))
  clear hmk hms
  generalize w.alloc (.cells cur 49) = w1 at *
  generalize hG : w.heap.size = G at *
  have HG := Lib.hid hG
  clear hG
  go_loopw [3, 5, 11] (fun v _ i wr => ∃ k : Nat, k ≤ m ∧ i = .int .i64 k ∧ Hid (∃ g cc, v = .slice (some ⟨g, 0, none⟩) k cc ∧ MOwn wr G v (M.take k)) ∧ Hid (Below G w wr)) (fun _ _ i _ => m - (intOf i).toNat)
  case atStart => exact ⟨0, by omega, rfl, HO, HBL⟩
  case round =>
    clear HO HBL
    obtain ⟨k, hk, rfl, HO, HBL⟩ := hrel
    by_cases hlt : k < m
    · obtain ⟨g, cc, rfl, hO⟩ := HO.out
      have hkM : k < M.length := by rw [HM.out]; exact hlt
      have hcaps := hO.caps
      obtain ⟨b, o, a', c', rfl, hb, hcell, hrd, hnil, hcap, _⟩ := H.out.at hlt
      have hcell' := (HBL.out.cell (p := ⟨b, o + k, none⟩) hb).trans hcell
      have hGr : G ≤ wr.heap.size := by have := HBL.out.size; have := HG.out; omega
      have hrd' := hrd.below HBL.out (Nat.le_refl _)
      have htk : M.take (k + 1) = M.take k ++ [M.getD k []] := by
        rw [List.take_succ_eq_append_getElem hkM, List.getD_eq_getElem?_getD, List.getElem?_eq_getElem hkM]; rfl
      have hlen := HL.out _ (getD_memr hkM)
      have CC := Lib.hid (bytes_clone (M.getD k []) G a' (M.getD k []).length c' wr hrd' hGr hnil hlen)
      have HTK := Lib.hid htk
      have HOO := Lib.hid hO
      have hlt' : (k : Int) < (m : Int) := by omega
      have hmt : (M.take k).length ≤ 1000000 := by rw [List.length_take]; omega
      clear htk hlen hcell hrd hrd' hO hcaps hcap hnil hkM
      generalize M.getD k [] = l at *
      go_wp2_with fail
      refine CC.out.mono ?_
      rintro e w2 ⟨u, rfl, hu, hb2⟩
      obtain ⟨ua, uc, rfl, _⟩ := hu.rd
      have HU := Lib.hid hu
      have HB2 := Lib.hid hb2
      clear hu hb2 CC
      go_wp2_with (at_builtin; refine wp_appRow (w0 := wr) (w1 := w2) rfl _ _ rfl HOO.out HB2.out HU.out hGr hmt rfl rfl ?_)
      intro v' w3 hM3 hb3 hg3 hat
      have hv : ∃ g cc, v' = .slice (some ⟨g, 0, none⟩) (k + 1) cc := by
        obtain ⟨vs, hMV⟩ := hM3
        obtain ⟨g, cap, e, _⟩ := hMV.form (by simp)
        refine ⟨g, cap, ?_⟩
        rw [e]
        congr 1
        rw [List.length_append, List.length_take, List.length_singleton]
        have := HM.out
        omega
      have HM3 : Hid (∃ g cc, v' = .slice (some ⟨g, 0, none⟩) (k + 1) cc ∧ MOwn w3 G v' (M.take (k + 1))) := Lib.hid (by
        obtain ⟨g, cc, e⟩ := hv
        exact ⟨g, cc, e, by rw [HTK.out]; exact hM3⟩)
      have HB3 := Lib.hid (HBL.out.trans hb3)
      clear hM3 hb3 hg3 hat hv HOO HB2 HU HTK
      go_wp2_with fail
      go_roundw
      case rel => first | exact ⟨k + 1, by omega, by go_num, HM3, HB3⟩ | ((repeat apply Exists.intro); exact ⟨⟨k + 1, by omega, by go_num, HM3, HB3⟩, rfl⟩)
      case measure => simp [intOf]; omega
    · obtain rfl : k = m := by omega
      have HF : Hid (∃ g cc, u3 = .slice (some ⟨g, 0, none⟩) k cc ∧ MOwn wr G u3 M) := Lib.hid (by
        obtain ⟨g, cc, e, hO⟩ := HO.out
        exact ⟨g, cc, e, by rw [List.take_of_length_le (by rw [HM.out]; exact Nat.le_refl _)] at hO; exact hO⟩)
      go_wp2_with fail
      go_ret
      obtain ⟨g, cc, e, hO⟩ := HF.out
      subst e
      exact ⟨g, cc, rfl, by rw [HG.out]; exact hO, by rw [HG.out]; exact HBL.out⟩

theorem mat_sure (p : Option Addr) (w : World) (hF : Fp w p) :
    Calls Try.prog 90 #[.pointer p] w fun e w' => ∃ g, e = .returned (.pointer (some ⟨g, 0, none⟩)) ∧ Fld w' g ∧ Below w.heap.size w w' := by
  rcases hF with rfl | ⟨g, rfl, hF⟩
  · go_enter Try.func90, Try.ntmps90
    go_wp2_with fail
    refine (gf_new _).mono ?_
    rintro e w1 ⟨g, rfl, hg, hF, hb⟩
    go_wp2_with fail
    go_ret
    exact ⟨g, rfl, hF, hb⟩
  · go_enter Try.func90, Try.ntmps90
    go_wp2_with fail
    go_ret
    exact ⟨g, rfl, hF, Below.refl _ _⟩

set_option maxRecDepth 100000 in
set_option maxHeartbeats 1000000 in
theorem mat_width (M : List (List Nat)) (B : Nat) (a : Option Addr) (m c : Nat) (w : World) (h : RdM w B a m M) (hm : m ≤ 1000000) :
    Calls Try.prog 91 #[.slice a m c] w fun e w' => e = .returned (.int .i64 (wid M : Nat)) ∧ w = w' := by
  rcases Nat.eq_zero_or_pos m with h0 | h0
  · subst h0
    obtain rfl : M = [] := List.eq_nil_of_length_eq_zero h.len
    clear h
    go_enter Try.func91, Try.ntmps91
    go_wp2_with fail
    go_ret
    exact ⟨rfl, rfl⟩
  · obtain ⟨b, o, a', c', rfl, hb, hcell, _⟩ := h.at h0
    have e : (M.getD 0 []).length = wid M := rfl
    rw [e, Nat.add_zero] at hcell
    have hm0 : ((m : Int) == 0) = false := by rw [beq_eq_false_iff_ne]; omega
    have hmp : (0 : Int) < (m : Int) := by omega
    clear h e
    generalize wid M = q at *
    go_enter Try.func91, Try.ntmps91
    go_wp2_with fail
    go_ret
    exact ⟨rfl, rfl⟩
end Go.Proofs.Ytfbhbjhfebkpfaa
