/- Contract of the document's Solve. -/
import Derived.Test.YtfbhbjhfebkpfaaRefM
import Derived.Test.YtfbhbjhfebkpfaaSolQ
import Derived.Deep.RegionHeld3
import Derived.BigRegion
import Derived.Test.YtfbhbjhfebkpfaaRgn
namespace Go.Proofs.Ytfbhbjhfebkpfaa
open Go.RowKit
set_option linter.unusedVariables false

/-- 'append(out, row)' in a region that draws; where the new slice lies. -/
theorem step_appRowAt {w0 w1 : World} {ops : Array Oper} {o : Oper} {a : Act} {K : Act → World → Prop} {Q : Exit → Act → World → Prop} {E : Prop} (hgd : o.guard = none) (s x : Operand) {C : Nat} {v u : Value} {M : List (List Nat)} {l : List Nat}
    (ho : o.op = .call { callee := .builtin .append, args := #[s, x], argTypes := #[46, 46] })
    (h : MOwn w0 C v M) (hb : Below w0.heap.size w0 w1) (hu : OwnB w1 w0.heap.size u l) (hC : C ≤ w0.heap.size) (hl : M.length ≤ 1000000)
    (hs : a.eval s = v) (hx : a.eval x = .slice (some ⟨w1.heap.size, 0, none⟩) 1 1)
    (hK : ∀ v' w2, MOwn w2 C v' (M ++ [l]) → Below C w0 w2 → (w1.alloc (.cells #[u] 49)).grownBy w2 v.ownBlock → (v'.ownBlock = v.ownBlock ∨ v'.ownBlock = some (w1.heap.size + 1)) → K (a.put o.dst v') w2) :
    if Region.wanted o (yielded ops a.tmps) = true then Oper.wp Try.prog o a (w1.alloc (.cells #[u] 49)) K Q else E := by
  obtain ⟨vs, h⟩ := h
  have hs1 := hb.size
  have h1 := h.new hb
  have hba := (Below.refl w1.heap.size w1).alloc (Nat.le_refl _) (.cells #[u] 49)
  have h2 := h1.new hba
  have hone : u.oneCell' = true := by obtain ⟨a', c', e, _⟩ := hu.rd; rw [e]; rfl
  have hr : Rd (w1.alloc (.cells #[u] 49)) (w1.alloc (.cells #[u] 49)).heap.size (some ⟨w1.heap.size, 0, none⟩) 1 [u] := ⟨rfl, fun _ => ⟨w1.heap.size, 0, rfl, by simp, fun i u' hu' => by
    cases i with
    | zero => obtain rfl : u = u' := by simpa using hu'
              exact cell_lit w1 #[u] _ 0
    | succ i => simp at hu'⟩⟩
  refine step_appAt (P := Try.prog) hgd s x 46 ho C 49 (.slice none 0 0) 24 Try.underlying46 info_rows rfl v M.length vs hs h2.hd _ _ 1 1 [u] hx (fun e => by cases e) hr (fun u' hu' => by rw [List.mem_singleton] at hu'; rw [hu']; exact hone) (by omega) (by unfold maxLen; omega) (by simp; omega) fun v' w2 hown hg hat => ?_
  have hrow : ∀ (i : Nat) u', vs[i]? = some u' → ∀ b, u'.ownBlock = some b → b < w0.heap.size := fun i u' hu' b hb' => ((h.of hu').1.lt b hb').2
  refine hK v' w2 ⟨_, h2.snoc hrow hC (hu.below hba) hown hg⟩ ?_ hg (by rcases hat with h | h; exact .inl h; right; rw [h]; simp)
  refine (((hb.mono hC).alloc (by omega) _).grown hg (by simp; omega) fun k hk => ?_)
  exact (h.hd.lt k hk).1
/-- Rows whose headers lie elsewhere stay where other headers are written. -/
theorem MOwn.other {w w' : World} {C D : Nat} {v v2 : Value} {M N : List (List Nat)} (h : MOwn w C v M) (h2 : MOwn w D v2 N) (hg : w.grownBy w' v2.ownBlock) (hne : v.ownBlock = none ∨ v.ownBlock ≠ v2.ownBlock) : MOwn w' C v M := by
  obtain ⟨vs, h⟩ := h
  obtain ⟨vs2, h2⟩ := h2
  exact ⟨vs, h.hd.kept hg hne, fun i l hl => by
    obtain ⟨u, h3, h4⟩ := h.row i l hl
    exact ⟨u, h3, h4.kept hg (own_ne h4 h2.hd tne_hd)⟩, h.apart⟩
theorem grown_set (w : World) (g i : Nat) (u : Value) : w.grownBy (w.setCell ⟨g, i, none⟩ u) (some g) :=
  ⟨rfl, rfl, rfl, by simp, fun k _ hk => heap_setCell_other w ⟨g, i, none⟩ k u (fun e => hk (by rw [e]))⟩
theorem MOwn.hlt {w : World} {C : Nat} {v : Value} {M : List (List Nat)} (h : MOwn w C v M) : ∀ b, v.ownBlock = some b → C ≤ b ∧ b < w.heap.size := by
  obtain ⟨vs, h⟩ := h
  exact fun b hb => h.hd.lt b hb

/-- The same, said of the headers. -/
theorem MOwnV.other {w w' : World} {C D : Nat} {v v2 : Value} {M N : List (List Nat)} {vs : List Value} (h : MOwnV w C v M vs) (h2 : MOwn w D v2 N) (hg : w.grownBy w' v2.ownBlock) (hne : v.ownBlock = none ∨ v.ownBlock ≠ v2.ownBlock) : MOwnV w' C v M vs := by
  obtain ⟨vs2, h2⟩ := h2
  exact ⟨h.hd.kept hg hne, fun i l hl => by
    obtain ⟨u, h3, h4⟩ := h.row i l hl
    exact ⟨u, h3, h4.kept hg (own_ne h4 h2.hd tne_hd)⟩, h.apart⟩
/-- A header is laid anew: a row made since w0. -/
theorem MOwn.putT {w0 w : World} {C g n c : Nat} {M : List (List Nat)} (h : MOwn w0 C (.slice (some ⟨g, 0, none⟩) n c) M) (hT : ∀ vs, MOwnV w0 C (.slice (some ⟨g, 0, none⟩) n c) M vs → MOwnV w C (.slice (some ⟨g, 0, none⟩) n c) M vs) {i : Nat} (hi : i < n) {u : Value} {l : List Nat} (ho : OwnB w w0.heap.size u l) (hC : C ≤ w0.heap.size) :
    MOwn (w.setCell ⟨g, i, none⟩ u) C (.slice (some ⟨g, 0, none⟩) n c) (M.set i l) := by
  have hl := h.len
  obtain ⟨vs, h⟩ := h
  have hv := h.vlen
  have hlt0 : ∀ (k : Nat) u', vs[k]? = some u' → ∀ b, u'.ownBlock = some b → b < w0.heap.size := fun k u' hu b hb => ((h.of hu).1.lt b hb).2
  replace h := hT _ h
  have hd := h.hd
  rw [hl] at hd
  obtain ⟨d1, g1⟩ := hd.stored i u
  have hgw : u.ownBlock = none ∨ u.ownBlock ≠ some g := by have := own_ne ho hd tne_hd; simpa [Value.ownBlock] using this
  have hrow : ∀ (k : Nat) u, vs[k]? = some u → u.ownBlock = none ∨ u.ownBlock ≠ some g := fun k u hu => by have := h.hdrow hu; simpa [Value.ownBlock] using this
  refine ⟨vs.set i u, by rw [List.length_set, hl]; exact d1, fun k l' hk => ?_, fun k k' u1 u2 hne hu1 hu2 => ?_⟩
  · rcases set_get hk with ⟨rfl, rfl, h3⟩ | ⟨h1, h2⟩
    · exact ⟨u, set_same (by omega), (ho.base hC).kept g1 hgw⟩
    · obtain ⟨u1, h3, h4⟩ := h.row k l' h2
      exact ⟨u1, by rw [set_far h1]; exact h3, h4.kept g1 (hrow k u1 h3)⟩
  · rcases set_get hu1 with ⟨rfl, rfl, h3⟩ | ⟨h1, h2⟩
    · rcases set_get hu2 with ⟨rfl, _, _⟩ | ⟨h1, h2⟩
      · exact absurd rfl hne
      · cases e : u1.ownBlock with
        | none => exact .inl rfl
        | some b =>
          right
          intro e2
          have := hlt0 _ _ h2 b e2.symm
          have := (ho.lt b e).1
          omega
    · rcases set_get hu2 with ⟨rfl, rfl, _⟩ | ⟨h3, h4⟩
      · cases e : u1.ownBlock with
        | none => exact .inl rfl
        | some b =>
          right
          intro e2
          have := hlt0 _ _ h2 b e
          have := (ho.lt b e2.symm).1
          omega
      · exact h.apart k k' u1 u2 hne h2 h4
/-- Two rows laid anew, one in each of two matrices. -/
theorem put_two {w0 w : World} {G gx gy n cx cy : Nat} {X Y : List (List Nat)} (hX : MOwn w0 G (.slice (some ⟨gx, 0, none⟩) n cx) X) (hY : MOwn w0 G (.slice (some ⟨gy, 0, none⟩) n cy) Y) (hne : gx ≠ gy) (hb : Below w0.heap.size w0 w) (hG : G ≤ w0.heap.size) {i : Nat} (hi : i < n) {u v : Value} {lx ly : List Nat} (hu : OwnB w w0.heap.size u lx) (hv : OwnB w w0.heap.size v ly) :
    MOwn ((w.setCell ⟨gx, i, none⟩ u).setCell ⟨gy, i, none⟩ v) G (.slice (some ⟨gx, 0, none⟩) n cx) (X.set i lx) ∧ MOwn ((w.setCell ⟨gx, i, none⟩ u).setCell ⟨gy, i, none⟩ v) G (.slice (some ⟨gy, 0, none⟩) n cy) (Y.set i ly) := by
  have hX1 := hX.putT (fun vs h => h.new hb) hi hu hG
  have hgx := grown_set w gx i u
  have hXw := hX.new hb
  have hneXY : (Value.slice (some ⟨gx, 0, none⟩) n cx).ownBlock = none ∨ (Value.slice (some ⟨gx, 0, none⟩) n cx).ownBlock ≠ (Value.slice (some ⟨gy, 0, none⟩) n cy).ownBlock := .inr (by simp [Value.ownBlock]; exact hne)
  have hneYX : (Value.slice (some ⟨gy, 0, none⟩) n cy).ownBlock = none ∨ (Value.slice (some ⟨gy, 0, none⟩) n cy).ownBlock ≠ (Value.slice (some ⟨gx, 0, none⟩) n cx).ownBlock := .inr (by simp [Value.ownBlock]; exact fun e => hne e.symm)
  have hT : ∀ vs, MOwnV w0 G (.slice (some ⟨gy, 0, none⟩) n cy) Y vs → MOwnV (w.setCell ⟨gx, i, none⟩ u) G (.slice (some ⟨gy, 0, none⟩) n cy) Y vs := fun vs h => (h.new hb).other hXw hgx hneYX
  have hv2 : OwnB (w.setCell ⟨gx, i, none⟩ u) w0.heap.size v ly := by
    obtain ⟨vsx, hXV⟩ := hXw
    exact hv.kept hgx (by have := own_ne hv hXV.hd tne_hd; simpa [Value.ownBlock] using this)
  have hY1 := hY.putT hT hi hv2 hG
  refine ⟨hX1.other (v2 := .slice (some ⟨gy, 0, none⟩) n cy) (D := G) (N := Y) ?_ (grown_set _ gy i v) hneXY, hY1⟩
  obtain ⟨vs, hYV⟩ := hY
  exact ⟨vs, hT vs hYV⟩
/-- Two headers change places, in each of two matrices. -/
theorem swap_two {w : World} {G gx gy n cx cy : Nat} {X Y : List (List Nat)} (hX : MOwn w G (.slice (some ⟨gx, 0, none⟩) n cx) X) (hY : MOwn w G (.slice (some ⟨gy, 0, none⟩) n cy) Y) (hne : gx ≠ gy) {i j : Nat} (hi : i < n) (hj : j < n) {ui uj vi vj : Value} (h1 : w.cell? ⟨gx, i, none⟩ = some ui) (h2 : w.cell? ⟨gx, j, none⟩ = some uj) (h3 : w.cell? ⟨gy, i, none⟩ = some vi) (h4 : w.cell? ⟨gy, j, none⟩ = some vj) :
    MOwn ((((w.setCell ⟨gx, i, none⟩ uj).setCell ⟨gx, j, none⟩ ui).setCell ⟨gy, i, none⟩ vj).setCell ⟨gy, j, none⟩ vi) G (.slice (some ⟨gx, 0, none⟩) n cx) (swp X i j) ∧ MOwn ((((w.setCell ⟨gx, i, none⟩ uj).setCell ⟨gx, j, none⟩ ui).setCell ⟨gy, i, none⟩ vj).setCell ⟨gy, j, none⟩ vi) G (.slice (some ⟨gy, 0, none⟩) n cy) (swp Y i j) := by
  have hneXY : (Value.slice (some ⟨gx, 0, none⟩) n cx).ownBlock = none ∨ (Value.slice (some ⟨gx, 0, none⟩) n cx).ownBlock ≠ (Value.slice (some ⟨gy, 0, none⟩) n cy).ownBlock := .inr (by simp [Value.ownBlock]; exact hne)
  have hneYX : (Value.slice (some ⟨gy, 0, none⟩) n cy).ownBlock = none ∨ (Value.slice (some ⟨gy, 0, none⟩) n cy).ownBlock ≠ (Value.slice (some ⟨gx, 0, none⟩) n cx).ownBlock := .inr (by simp [Value.ownBlock]; exact fun e => hne e.symm)
  have hX1 := hX.swap hi hj h1 h2
  have hg1 : w.grownBy ((w.setCell ⟨gx, i, none⟩ uj).setCell ⟨gx, j, none⟩ ui) (some gx) := grownBy_trans (grown_set _ _ _ _) (grown_set _ _ _ _)
  have hY1 := hY.other hX hg1 hneYX
  have hlt : gy < w.heap.size := (hY.hlt gy rfl).2
  have hk : ∀ o, ((w.setCell ⟨gx, i, none⟩ uj).setCell ⟨gx, j, none⟩ ui).cell? ⟨gy, o, none⟩ = w.cell? ⟨gy, o, none⟩ := fun o => World.cell?_of_block (a := ⟨gy, o, none⟩) (hg1.block gy hlt (fun e => hne (by injection e with e; exact e.symm)))
  have hY2 := hY1.swap hi hj ((hk i).trans h3) ((hk j).trans h4)
  have hg2 : ((w.setCell ⟨gx, i, none⟩ uj).setCell ⟨gx, j, none⟩ ui).grownBy ((((w.setCell ⟨gx, i, none⟩ uj).setCell ⟨gx, j, none⟩ ui).setCell ⟨gy, i, none⟩ vj).setCell ⟨gy, j, none⟩ vi) (some gy) := grownBy_trans (grown_set _ _ _ _) (grown_set _ _ _ _)
  exact ⟨hX1.other hY1 hg2 hneXY, hY2⟩
theorem elim_row_same {f : List Nat → List Nat} (hf : f [] = []) {P : List (List Nat)} {col s i : Nat} (hi : i < P.length) (h : ¬ (i < s ∧ i ≠ col)) : ((elimTo P col col s).map f).getD i [] = (P.map f).getD i [] := by
  rw [getD_map hf, getD_map hf, elimTo_row col col s hi, if_neg h]
theorem sideM_drop {n : Nat} {a b : List (List Nat)} (h : a.length = b.length) (ha : Wf n a) : (sideM a b).map (List.drop n) = b := by
  refine extM (by rw [List.length_map, sideM_len h]; exact h) fun i hi => ?_
  rw [List.length_map, sideM_len h] at hi
  rw [getD_map List.drop_nil, sideM_row h, List.drop_left' (ha.get hi).1]
theorem cutS_zero {n : Nat} {A B : List (List Nat)} (h : A.length = B.length) (ha : Wf n A) : cutS (List.take n) A B 0 = A ∧ cutS (List.drop n) A B 0 = B :=
  ⟨sideM_take h ha, sideM_drop h ha⟩
theorem map_take_wf {n k : Nat} {L : List (List Nat)} (h : Wf (n + k) L) : Wf n (L.map (List.take n)) := by
  intro r hr
  obtain ⟨x, hx, rfl⟩ := List.mem_map.1 hr
  exact ⟨by rw [List.length_take, (h x hx).1]; omega, fun y hy => (h x hx).2 y (List.mem_of_mem_take hy)⟩
theorem map_drop_wf {n k : Nat} {L : List (List Nat)} (h : Wf (n + k) L) : Wf k (L.map (List.drop n)) := by
  intro r hr
  obtain ⟨x, hx, rfl⟩ := List.mem_map.1 hr
  exact ⟨by rw [List.length_drop, (h x hx).1]; omega, fun y hy => (h x hx).2 y (List.mem_of_mem_drop hy)⟩
theorem wf_swp {n : Nat} {M : List (List Nat)} (h : Wf n M) {i j : Nat} (hi : i < M.length) (hj : j < M.length) : Wf n (swp M i j) :=
  wf_of fun k hk => by
    rw [swp_len] at hk
    rw [swp_row hi hj]
    exact h.get (sg_lt hi hj hk)
theorem swp_at {M : List (List Nat)} {i j : Nat} (hi : i < M.length) (hj : j < M.length) : (swp M i j).getD i [] = M.getD j [] := by
  rw [swp_row hi hj]; unfold sg; rw [if_pos rfl]

set_option maxRecDepth 100000 in
set_option maxHeartbeats 2000000 in
theorem ref_solve_arg (m l c d : Nat) (n k : Nat) (A B : List (List Nat)) (a b : Option Addr) (w : World) (hA : RdM w w.heap.size a m A) (hB : RdM w w.heap.size b l B) (hWA : Wf n A) (hWB : Wf k B) (hn : n ≤ 64) (hk : k ≤ 64) (hm : m ≤ 1000000) (hl : l ≤ 1000000) (hno : m ≠ l ∨ m = 0) :
    Calls Try.prog 69 #[.slice a m c, .slice b l d] w fun e w' => e = .returned (.tuple #[.slice none 0 0, .int .i64 1]) ∧ Below w.heap.size w w' := by
  have C1 := Lib.hid (ref_mayMat n m A _ a c w hA hWA hn hm)
  have C2 := Lib.hid fun j => ref_mayMat k l B _ b d (w.drewN j) (hB.drewN j) hWB hk hl
  have hcase : (((m : Int) != (l : Int)) = true) ∨ (((m : Int) != (l : Int)) = false ∧ ((m : Int) == 0) = true) := by
    by_cases h : m = l
    · right
      rcases hno with h1 | h1
      · exact absurd h h1
      · exact ⟨by simp [h], by simp [h1]⟩
    · left; simp; omega
  clear hA hB hWA hWB hno
  go_enter Try.func69, Try.ntmps69
  go_wp2_with fail
  refine C1.out.mono ?_
  rintro e w1 ⟨rfl, j, rfl⟩
  go_wp2_with fail
  refine (C2.out j).mono ?_
  rintro e w1 ⟨rfl, j2, rfl⟩
  rcases hcase with h1 | ⟨h1, h2⟩
  all_goals (
    go_wp2_with fail
    go_ret2
    exact ⟨rfl, below_drewN (Below.refl _ _) (j + j2)⟩)

set_option maxRecDepth 100000 in
set_option maxHeartbeats 8000000 in
theorem ref_solve (n k m c d : Nat) (A B : List (List Nat)) (a b : Option Addr) (w : World) (hA : RdM w w.heap.size a m A) (hB : RdM w w.heap.size b m B) (hWA : Wf n A) (hWB : Wf k B) (hn : n ≤ 64) (hk : k ≤ 64) (hm : m ≤ 1000000) (h0 : 0 < m) :
    Calls Try.prog 69 #[.slice a m c, .slice b m d] w fun e w' => ∃ v, e = .returned (.tuple #[v, .int .i64 (solC n A B : Nat)]) ∧ MOwn w' w.heap.size v (solR n A B) ∧ Below w.heap.size w w' := by
  have C1 := Lib.hid (ref_mayMat n m A _ a c w hA hWA hn hm)
  have C2 := Lib.hid fun j => ref_mayMat k m B _ b d (w.drewN j) (hB.drewN j) hWB hk hm
  have C3 := Lib.hid fun j => ref_rank n m c A a (w.drewN j) (hA.drewN j) hWA hn hm
  have HA := Lib.hid hA
  have HB := Lib.hid hB
  have HWA := Lib.hid hWA
  have HWB := Lib.hid hWB
  have HLA := Lib.hid hA.len
  have HLB := Lib.hid hB.len
  have hA0 : A ≠ [] := fun e => by have := hA.len; rw [e] at this; simp at this; omega
  have hAB : A.length = B.length := by rw [hA.len, hB.len]
  have HA0 := Lib.hid hA0
  have HAB := Lib.hid hAB
  have hrn := (rref_len hWA).1
  obtain ⟨bA, oA, a0, c0, eA, hbA, hcA, -⟩ := hA.at h0
  rw [(hWA.get (i := 0) (by rw [hA.len]; exact h0)).1, Nat.add_zero] at hcA
  subst eA
  have hmm : ((m : Int) != (m : Int)) = false := by simp
  have hm0 : ((m : Int) == 0) = false := by rw [beq_eq_false_iff_ne]; omega
  have h0I : (0 : Int) < (m : Int) := by omega
  have HCA := Lib.hid hcA
  generalize hrk : (rref A).length = rk at *
  have HRK := Lib.hid hrk
  clear hA hB hWA hWB hA0 hAB hrk hcA
  go_enter Try.func69, Try.ntmps69
  go_wp2_with fail
  refine C1.out.mono ?_
  rintro e w1 ⟨rfl, j, rfl⟩
  go_wp2_with fail
  refine (C2.out j).mono ?_
  rintro e w1 ⟨rfl, j2, rfl⟩
  rw [World.drewN_drewN]
  have hcA : (w.drewN (j + j2)).cell? ⟨bA, oA, none⟩ = some (.slice a0 n c0) := HCA.out
  go_wp2_with fail
  refine (C3.out (j + j2)).mono ?_
  rintro e w1 ⟨rfl, hb⟩
  have HB1 : Hid (Below w.heap.size w w1) := Lib.hid ((below_drewN (Below.refl w.heap.size w) (j + j2)).trans hb)
  clear hb C1 C2 C3 hcA
  by_cases hlow : rk < n
  · have hlowI : (rk : Int) < (n : Int) := by omega
    obtain ⟨s1, s2⟩ := sol_low HWA.out HAB.out HA0.out (by rw [HRK.out]; exact hlow)
    have S1 := Lib.hid s1
    have S2 := Lib.hid s2
    clear s1 s2
    go_wp2_with fail
    go_ret2
    exact ⟨_, by rw [S1.out]; rfl, by rw [S2.out]; exact MOwn.nil _ _, HB1.out⟩
  · have hlowI : ¬ (rk : Int) < (n : Int) := by omega
    obtain rfl : rk = n := by omega
    obtain ⟨hcl, hok⟩ := solve_ref HWA.out HWB.out HAB.out HA0.out HRK.out
    have HCL := Lib.hid hcl
    have HOK := Lib.hid hok
    have HFF := Lib.hid fun col (hc : col < rk) => full_find HWA.out HAB.out HA0.out HRK.out hc
    clear hcl hok
    generalize hG : w.heap.size = G at *
    have HG := Lib.hid hG
    clear hG
    have HX0 : Hid (MOwn w1 G (.slice none 0 0) (A.take 0)) := Lib.hid (by rw [List.take_zero]; exact MOwn.nil _ _)
    have HY0 : Hid (MOwn w1 G (.slice none 0 0) (B.take 0)) := Lib.hid (by rw [List.take_zero]; exact MOwn.nil _ _)
    go_wp2_with fail
    go_loopw [7, 8, 46] (fun x y i wr => ∃ r : Nat, r ≤ m ∧ i = .int .i64 r ∧ Hid (MOwn wr G x (A.take r)) ∧ Hid (MOwn wr G y (B.take r)) ∧ Hid (x.ownBlock = none ∨ x.ownBlock ≠ y.ownBlock) ∧ Hid (Below G w wr)) (fun _ _ i _ => m - (intOf i).toNat)
    case atStart => exact ⟨0, by omega, rfl, HX0, HY0, Lib.hid (.inl rfl), HB1⟩
    case round =>
      clear HX0 HY0 HB1
      obtain ⟨r, hr, rfl, HX, HY, HN, HB1⟩ := hrel
      rename World => wo
      have hGr : G ≤ wo.heap.size := by have := HB1.out.size; have := HG.out; omega
      by_cases hrm : r < m
      · have hrmI : (r : Int) < (m : Int) := by omega
        have hrA : r < A.length := by rw [HLA.out]; exact hrm
        have hrB : r < B.length := by rw [HLB.out]; exact hrm
        obtain ⟨b1, o1, a1, c1, e1, hb1, hcell1, hrd1, hnil1, -⟩ := HA.out.at hrm
        injection e1 with e1
        injection e1 with e1 e2 e3
        subst e1 e2
        clear e3
        obtain ⟨b2, o2, a2, c2, rfl, hb2, hcell2, hrd2, hnil2, -⟩ := HB.out.at hrm
        rw [(HWA.out.get hrA).1] at hcell1 hrd1
        rw [(HWB.out.get hrB).1] at hcell2 hrd2
        have k1 := (HB1.out.cell (p := ⟨bA, oA + r, none⟩) hb1).trans hcell1
        have k2 := (HB1.out.cell (p := ⟨b2, o2 + r, none⟩) hb2).trans hcell2
        have HR1 := Lib.hid (hrd1.below HB1.out (Nat.le_refl _))
        have HR2 := Lib.hid (hrd2.below HB1.out (Nat.le_refl _))
        have HTA := Lib.hid (show A.take (r + 1) = A.take r ++ [A.getD r []] by rw [List.take_succ_eq_append_getElem hrA, List.getD_eq_getElem?_getD, List.getElem?_eq_getElem hrA]; rfl)
        have HTB := Lib.hid (show B.take (r + 1) = B.take r ++ [B.getD r []] by rw [List.take_succ_eq_append_getElem hrB, List.getD_eq_getElem?_getD, List.getElem?_eq_getElem hrB]; rfl)
        have HL1 := Lib.hid (HWA.out.get hrA).1
        have HL2 := Lib.hid (HWB.out.get hrB).1
        have hmt1 : (A.take r).length ≤ 1000000 := by rw [List.length_take, HLA.out]; omega
        have hmt2 : (B.take r).length ≤ 1000000 := by rw [List.length_take, HLB.out]; omega
        have hbA1 : bA < wo.heap.size := by omega
        have hb21 : b2 < wo.heap.size := by omega
        clear hcell1 hcell2 hrd1 hrd2
        generalize A.getD r [] = xa at *
        generalize B.getD r [] = xb at *
        go_wp2_with fail
        go_region_held3 (fun w' => w'.cell? ⟨bA, oA + r, none⟩ = some (.slice a1 rk c1) ∧ w'.cell? ⟨b2, o2 + r, none⟩ = some (.slice a2 k c2)) (go_keep) (first
          | (change (if _ = true then Oper.wp _ (Oper.mk (some 54) _ _ _ _ _) _ _ _ _ else _)
             refine step_appAt rfl _ _ 49 rfl wo.heap.size 5 (.int .u8 0) 1 Try.underlying49 infoS_u8 rfl (.slice none 0 0) 0 [] rfl (World.ownsRow_nil _ _ _ _) _ a1 rk c1 (cellsB xa) rfl hnil1 HR1.out (cellsB_one xa) (by omega) (by unfold maxLen; omega) (by exact Nat.le_refl _) ?_
             intro u1 w2 hown hg2 hat2
             have hu : OwnB w2 wo.heap.size u1 xa := by first | (rw [← HL1.out] at hown; exact hown) | (rw [Nat.zero_add, List.nil_append, ← HL1.out] at hown; exact hown)
             have hb2r : Below wo.heap.size wo w2 := ((Below.refl wo.heap.size wo).drew).trans ⟨hg2.os, hg2.tape, hg2.output, hg2.size, fun k hk => hg2.block k hk (by simp [Value.ownBlock])⟩
             obtain ⟨ua, uc, rfl, _⟩ := hu.rd
             have HU1 := Lib.hid hu
             have HBU1 := Lib.hid hb2r
             have m1 := (hb2r.cell (p := ⟨bA, oA + r, none⟩) hbA1).trans k1
             have m2 := (hb2r.cell (p := ⟨b2, o2 + r, none⟩) hb21).trans k2
             have hbs1 : bA < w2.heap.size := Nat.lt_of_lt_of_le hbA1 hb2r.size
             have hbs2 : b2 < w2.heap.size := Nat.lt_of_lt_of_le hb21 hb2r.size
             clear hown hg2 hat2 hu hb2r)
          | (change (if _ = true then Oper.wp _ (Oper.mk (some 56) _ _ _ _ _) _ _ _ _ else _)
             refine step_appRowAt (w0 := wo) (w1 := w2) rfl _ _ rfl HX.out HBU1.out HU1.out hGr hmt1 rfl rfl ?_
             intro v3 w3 hM3 hb3 hg3 hat3
             rw [← HTA.out] at hM3
             have HM3 := Lib.hid hM3
             have HB3 := Lib.hid hb3
             have hba : Below w2.heap.size w2 (w2.alloc (.cells #[.slice ua xa.length uc] 49)) := (Below.refl _ _).alloc (Nat.le_refl _) _
             have HYA := Lib.hid ((HY.out.new HBU1.out).new hba)
             have HXA := Lib.hid ((HX.out.new HBU1.out).new hba)
             have HY3 := Lib.hid (HYA.out.other HXA.out hg3 (by
               rcases HN.out with h | h
               · by_cases e : u8.ownBlock = none
                 · exact .inl e
                 · right; rw [h]; exact e
               · right; exact fun e => h e.symm))
             have HN3 : Hid (v3.ownBlock = none ∨ v3.ownBlock ≠ u8.ownBlock) := Lib.hid (by
               rcases hat3 with h | h
               · rw [h]; exact HN.out
               · right
                 rw [h]
                 intro e
                 have h1 := (HY.out.hlt _ e.symm).2
                 have h2 := HBU1.out.size
                 omega)
             have n1 := (hb3.cell (p := ⟨bA, oA + r, none⟩) (by show bA < G; omega)).trans k1
             have n2 := (hb3.cell (p := ⟨b2, o2 + r, none⟩) (by show b2 < G; omega)).trans k2
             have HR3 := Lib.hid (HR2.out.below hb3 (Nat.le_refl _))
             have hG3 : G ≤ w3.heap.size := Nat.le_trans hGr (Nat.le_trans HBU1.out.size (Nat.le_trans hba.size hg3.size))
             have hbt1 : bA < w3.heap.size := by omega
             have hbt2 : b2 < w3.heap.size := by omega
             clear hM3 hb3 hg3 hat3 hba)
          | (change (if _ = true then Oper.wp _ (Oper.mk (some 62) _ _ _ _ _) _ _ _ _ else _)
             refine step_appAt rfl _ _ 49 rfl w3.heap.size 5 (.int .u8 0) 1 Try.underlying49 infoS_u8 rfl (.slice none 0 0) 0 [] rfl (World.ownsRow_nil _ _ _ _) _ a2 k c2 (cellsB xb) rfl hnil2 HR3.out (cellsB_one xb) (by omega) (by unfold maxLen; omega) (by exact Nat.le_refl _) ?_
             intro u4 w4 hown hg4 hat4
             have hu : OwnB w4 w3.heap.size u4 xb := by first | (rw [← HL2.out] at hown; exact hown) | (rw [Nat.zero_add, List.nil_append, ← HL2.out] at hown; exact hown)
             have hb4r : Below w3.heap.size w3 w4 := ⟨hg4.os, hg4.tape, hg4.output, hg4.size, fun k hk => hg4.block k hk (by simp [Value.ownBlock])⟩
             obtain ⟨va, vc, rfl, _⟩ := hu.rd
             have HU4 := Lib.hid hu
             have HBU4 := Lib.hid hb4r
             have p1 := (hb4r.cell (p := ⟨bA, oA + r, none⟩) hbt1).trans n1
             have p2 := (hb4r.cell (p := ⟨b2, o2 + r, none⟩) hbt2).trans n2
             have hbu1 : bA < w4.heap.size := Nat.lt_of_lt_of_le hbt1 hb4r.size
             have hbu2 : b2 < w4.heap.size := Nat.lt_of_lt_of_le hbt2 hb4r.size
             clear hown hg4 hat4 hu hb4r)
          | (change (if _ = true then Oper.wp _ (Oper.mk (some 64) _ _ _ _ _) _ _ _ _ else _)
             refine step_appRowAt (w0 := w3) (w1 := w4) rfl _ _ rfl HY3.out HBU4.out HU4.out hG3 hmt2 rfl rfl ?_
             intro v5 w5 hM5 hb5 hg5 hat5
             rw [← HTB.out] at hM5
             have HM5 := Lib.hid hM5
             have HB5 := Lib.hid (HB3.out.trans hb5)
             have hba : Below w4.heap.size w4 (w4.alloc (.cells #[.slice va xb.length vc] 49)) := (Below.refl _ _).alloc (Nat.le_refl _) _
             have HX5 := Lib.hid (((HM3.out.new HBU4.out).new hba).other ((HY3.out.new HBU4.out).new hba) hg5 HN3.out)
             have HN5 : Hid (v3.ownBlock = none ∨ v3.ownBlock ≠ v5.ownBlock) := Lib.hid (by
               rcases hat5 with h | h
               · rw [h]; exact HN3.out
               · right
                 rw [h]
                 intro e
                 have h1 := (HM3.out.hlt _ e).2
                 have h2 := HBU4.out.size
                 omega)
             have q1 := (hb5.cell (p := ⟨bA, oA + r, none⟩) (by show bA < G; omega)).trans n1
             have q2 := (hb5.cell (p := ⟨b2, o2 + r, none⟩) (by show b2 < G; omega)).trans n2
             clear hM5 hb5 hg5 hat5 hba))
        have HBW := Lib.hid (HB1.out.trans HB5.out)
        go_wp2_with fail
        go_roundw
        case rel => first | exact ⟨r + 1, by omega, by go_num, HX5, HM5, HN5, HBW⟩ | ((repeat apply Exists.intro); exact ⟨⟨r + 1, by omega, by go_num, HX5, HM5, HN5, HBW⟩, rfl⟩)
        case measure => simp [intOf]; omega
      · obtain rfl : r = m := by omega
        rw [List.take_of_length_le (by rw [HLA.out]; exact Nat.le_refl _)] at HX
        rw [List.take_of_length_le (by rw [HLB.out]; exact Nat.le_refl _)] at HY
        obtain ⟨ax, cx, ex⟩ := HX.out.val
        obtain ⟨ay, cy, ey⟩ := HY.out.val
        rw [HLA.out] at ex
        rw [HLB.out] at ey
        subst ex ey
        obtain ⟨gx, rfl, hgx1, hgx2⟩ := HX.out.form h0
        obtain ⟨gy, rfl, hgy1, hgy2⟩ := HY.out.form h0
        have hne : gx ≠ gy := fun e => by
          rcases HN.out with h | h
          · simp [Value.ownBlock] at h
          · exact h (by rw [e]; rfl)
        have hcapy := HY.out.caps
        obtain ⟨hz1, hz2⟩ := cutS_zero HAB.out HWA.out
        have HX0 : Hid (MOwn wo G (.slice (some ⟨gx, 0, none⟩) r cx) (cutS (List.take rk) A B 0)) := Lib.hid (by rw [hz1]; exact HX.out)
        have HY0 : Hid (MOwn wo G (.slice (some ⟨gy, 0, none⟩) r cy) (cutS (List.drop rk) A B 0)) := Lib.hid (by rw [hz2]; exact HY.out)
        have hrkr : rk ≤ r := by have := (rref_len HWA.out).2; rw [HRK.out, HLA.out] at this; exact this
        clear hz1 hz2 HX HY HN
        have HB10 := HB1
        go_wp2_with fail
        go_loopw [10] (fun i wq => ∃ col : Nat, col ≤ rk ∧ i = .int .i64 col ∧ Hid (MOwn wq G (.slice (some ⟨gx, 0, none⟩) r cx) (cutS (List.take rk) A B col)) ∧ Hid (MOwn wq G (.slice (some ⟨gy, 0, none⟩) r cy) (cutS (List.drop rk) A B col)) ∧ Hid (Below G w wq)) (fun i _ => rk - (intOf i).toNat)
        case atStart => exact ⟨0, by omega, rfl, HX0, HY0, HB10⟩
        case round =>
          clear HX0 HY0 HB10 HB1
          obtain ⟨col, hcol, rfl, HX, HY, HB⟩ := hrel
          rename World => w2
          by_cases hlt : col < rk
          · have hltI : (col : Int) < (rk : Int) := by omega
            obtain ⟨p, p1, p2, p3, p4, hstep⟩ := HFF.out col hlt
            rw [HLA.out] at p2 hstep
            have hcr : col < r := by omega
            obtain ⟨ls, hinv⟩ := redF_inv (sideM_wf HAB.out HWA.out HWB.out) col
            have hwL := hinv.wf
            have hlL : (redF (sideM A B) col).1.length = r := by rw [redF_len, sideM_len HAB.out]; exact HLA.out
            have hgtL : gt (cutS (List.take rk) A B col) p col = gt (redF (sideM A B) col).1 p col := by unfold cutS; exact gt_take hlt
            have HXN : Hid (∀ f, cutS f A B (col + 1) = (elimTo (pivM (redF (sideM A B) col).1 col col p) col col r).map f) := Lib.hid fun f => by unfold cutS; rw [hstep]
            unfold cutS at HX HY p3 p4 hgtL
            clear hinv hstep
            generalize (redF (sideM A B) col).1 = L at *
            have hwX := map_take_wf hwL
            have hwY := map_drop_wf hwL
            have hlX : (L.map (List.take rk)).length = r := by rw [List.length_map]; exact hlL
            have hlY : (L.map (List.drop rk)).length = r := by rw [List.length_map]; exact hlL
            have hpx := cut_piv (cut_take rk) (L := L) (top := col) (col := col) (p := p) (by omega) (by omega)
            have hpy := cut_piv (cut_drop rk) (L := L) (top := col) (col := col) (p := p) (by omega) (by omega)
            have hPW := pivM_wf (col := col) (p := p) (top := col) hwL (by omega) (by omega)
            have hPl : (pivM L col col p).length = r := by rw [pivM_len]; exact hlL
            have HST := Lib.hid fun f (hf : Cutf f) i (hi : i < r) => elim_cut_step hf hPW (col := col) (r := i) (by omega) (by omega)
            have HPW := Lib.hid hPW
            have HPL := Lib.hid hPl
            rw [← hgtL] at hpx hpy
            have HPX := Lib.hid hpx
            have HPY := Lib.hid hpy
            clear hpx hpy hPW hPl hgtL
            generalize pivM L col col p = P at *
            generalize L.map (List.take rk) = X at *
            generalize L.map (List.drop rk) = Y at *
            clear hwL hlL
            have HWX := Lib.hid hwX
            have HWY := Lib.hid hwY
            have HLX := Lib.hid hlX
            have HLY := Lib.hid hlY
            clear hwX hwY hlX hlY
            have HP4 := Lib.hid p4
            have HP3 := Lib.hid p3
            clear p3 p4
            go_wp2_with fail
            go_loopw [11] (fun q wq => ∃ t : Nat, col ≤ t ∧ t ≤ p ∧ q = .int .i64 t ∧ w2 = wq) (fun q _ => p - (intOf q).toNat)
            case atStart => exact ⟨col, by omega, by omega, rfl, rfl⟩
            case round =>
              obtain ⟨t, ht1, ht2, rfl, rfl⟩ := hrel
              have htr : t < r := by omega
              have htI : (t : Int) < (r : Int) := by omega
              obtain ⟨at1, ct1, hct, hft, hot⟩ := HX.out.at2 htr (HWX.out.get (i := t) (by rw [HLX.out]; exact htr)).1
              have hgt := (HWX.out.get (i := t) (by rw [HLX.out]; exact htr)).1
              obtain ⟨at2, ct2, e3, hrt⟩ := hot.rd
              injection e3 with e3 e4 e5
              subst e3 e5
              clear e4
              rw [hgt] at hrt
              obtain ⟨bt, ot, rfl, hbt, hcc⟩ := hrt.atB hlt
              have cq := hcc col hlt
              have hgv : (X.getD t []).getD col 0 = gt X t col := rfl
              rw [hgv] at cq
              clear hcc hrt hot hgt
              by_cases htp : t < p
              · rw [HP4.out t ht1 htp] at cq
                go_wp2_with fail
                go_roundw
                case rel => first | exact ⟨t + 1, by omega, by omega, by go_num, by first | trivial | rfl⟩ | exact ⟨t + 1, by omega, by omega, by go_num⟩
                case measure => simp [intOf]; omega
              · obtain rfl : t = p := by omega
                have hq0 := HP3.out
                have HQV : Hid ((X.getD t []).getD col 0 = gt X t col) := Lib.hid rfl
                generalize gt X t col = q at *
                have hqz : ((q : Int) == 0) = false := by rw [beq_eq_false_iff_ne]; omega
                obtain ⟨ac, cc, hcc, hfc, hoc⟩ := HX.out.at2 hcr (HWX.out.get (i := col) (by rw [HLX.out]; exact hcr)).1
                obtain ⟨yt, dt, hyt, hgyt, hoyt⟩ := HY.out.at2 htr (HWY.out.get (i := t) (by rw [HLY.out]; exact htr)).1
                obtain ⟨yc, dc, hyc, hgyc, hoyc⟩ := HY.out.at2 hcr (HWY.out.get (i := col) (by rw [HLY.out]; exact hcr)).1
                have hcrI : (col : Int) < (r : Int) := by omega
                have hsw := swap_two HX.out HY.out hne htr hcr hct hcc hyt hyc
                rw [swp_comm (by rw [HLX.out]; exact htr) (by rw [HLX.out]; exact hcr), swp_comm (M := Y) (by rw [HLY.out]; exact htr) (by rw [HLY.out]; exact hcr)] at hsw
                have HSW := Lib.hid hsw
                have hgx2' : gx < w2.heap.size := (HX.out.hlt gx rfl).2
                have hgy2' : gy < w2.heap.size := (HY.out.hlt gy rfl).2
                have HBS : Hid (Below G w ((((w2.setCell ⟨gx, t, none⟩ (.slice ac rk cc)).setCell ⟨gx, col, none⟩ (.slice (some ⟨bt, ot, none⟩) rk ct1)).setCell ⟨gy, t, none⟩ (.slice yc k dc)).setCell ⟨gy, col, none⟩ (.slice yt k dt))) := Lib.hid ((((HB.out.setCell (p := ⟨gx, t, none⟩) hgx1 _).setCell (p := ⟨gx, col, none⟩) hgx1 _).setCell (p := ⟨gy, t, none⟩) hgy1 _).setCell (p := ⟨gy, col, none⟩) hgy1 _)
                clear hsw hoc hoyt hoyc hqz
                go_wp2_with fail
                go_cut [] (fun wx => Hid (MOwn wx G (.slice (some ⟨gx, 0, none⟩) r cx) (swp X col t)) ∧ Hid (MOwn wx G (.slice (some ⟨gy, 0, none⟩) r cy) (swp Y col t)) ∧ Hid (Below G w wx))
                case first =>
                  by_cases htc : t = col
                  · subst htc
                    rw [hct] at hcc
                    obtain ⟨rfl, rfl⟩ : (some ⟨bt, ot, none⟩ : Option Addr) = ac ∧ ct1 = cc := by simpa using hcc
                    rw [hyt] at hyc
                    obtain ⟨rfl, rfl⟩ : yt = yc ∧ dt = dc := by simpa using hyc
                    clear hcc hfc hyc hgyc
                    go_region
                    have H1 := Lib.hid (HSW.out.1.drewN 1)
                    have H2 := Lib.hid (HSW.out.2.drewN 1)
                    have H3 := Lib.hid (HBS.out.drew)
                    go_wp2_with fail
                    go_meet
                    exact ⟨H1, H2, H3⟩
                  · have htc' : ¬ ((t : Int) = (col : Int)) := by omega
                    go_region
                    have H1 := Lib.hid (HSW.out.1.drewN 1)
                    have H2 := Lib.hid (HSW.out.2.drewN 1)
                    have H3 := Lib.hid (HBS.out.drew)
                    go_wp2_with fail
                    go_meet
                    exact ⟨H1, H2, H3⟩
                case rest =>
                obtain ⟨HX3, HY3, HB3⟩ := hcut
                clear HSW HBS hct hft hcc hfc hyt hgyt hyc hgyc hgx2' hgy2' HX HY HB cq
                have hrowx : (swp X col t).getD col [] = X.getD t [] := swp_at (by rw [HLX.out]; exact hcr) (by rw [HLX.out]; exact htr)
                have hrowy : (swp Y col t).getD col [] = Y.getD t [] := swp_at (by rw [HLY.out]; exact hcr) (by rw [HLY.out]; exact htr)
                have hgX := HWX.out.get (i := t) (by rw [HLX.out]; exact htr)
                have hgY := HWY.out.get (i := t) (by rw [HLY.out]; exact htr)
                obtain ⟨ax2, cx2, hax, hfx, hox⟩ := HX3.out.at2 hcr (r := rk) (by rw [hrowx]; exact hgX.1)
                obtain ⟨ay2, cy2, hay, hfy, hoy⟩ := HY3.out.at2 hcr (r := k) (by rw [hrowy]; exact hgY.1)
                rw [hrowx] at hox
                rw [hrowy] at hoy
                obtain ⟨ax3, cx3, e3, hrx⟩ := hox.rd
                injection e3 with e3 e4 e5
                subst e3 e5
                clear e4
                obtain ⟨ay3, cy3, e3, hry⟩ := hoy.rd
                injection e3 with e3 e4 e5
                subst e3 e5
                clear e4
                rw [hgX.1] at hrx
                rw [hgY.1] at hry
                have hrx2 := hrx
                obtain ⟨bx, ox, rfl, hbx, hcq⟩ := hrx.atB hlt
                have cq := hcq col hlt
                rw [HQV.out] at cq
                have hq256 : q < 256 := by rw [← HQV.out]; exact getD_lt hgX.2 col
                have hGc : G ≤ wc.heap.size := by have := HB3.out.size; have := HG.out; omega
                have hgx3 : gx < wc.heap.size := (HX3.out.hlt gx rfl).2
                have hgy3 : gy < wc.heap.size := (HY3.out.hlt gy rfl).2
                have CI := Lib.hid (ref_inv q hq256 wc)
                have CSX := Lib.hid (ref_scale (fi q) (X.getD t []) _ (some ⟨bx, ox, none⟩) rk cx2 (wc.drewN 1) (fi_bd _) hrx2 (Nat.le_refl _) hgX.2 (by omega))
                have CSY := Lib.hid fun w5 (hb5 : Below wc.heap.size (wc.drewN 1) w5) => ref_scale (fi q) (Y.getD t []) _ ay2 k cy2 w5 (fi_bd _) (Rd.below (w := wc.drewN 1) hry hb5 (Nat.le_refl _)) (hb5.size) hgY.2 (by omega)
                clear hrx hrx2 hry hcq hox hoy hgX hgY hrowx hrowy HQV
                generalize scL (fi q) (X.getD t []) = rx at *
                generalize scL (fi q) (Y.getD t []) = ry at *
                generalize fi q = fq at *
                go_wp2_with fail
                refine CI.out.mono ?_
                rintro e w5 ⟨rfl, rfl⟩
                clear CI cq
                go_wp2_with fail
                go_cut [] (fun wx => Hid (MOwn wx G (.slice (some ⟨gx, 0, none⟩) r cx) (P.map (List.take rk))) ∧ Hid (MOwn wx G (.slice (some ⟨gy, 0, none⟩) r cy) (P.map (List.drop rk))) ∧ Hid (Below G w wx))
                case first =>
                  go_region_with (first
                    | (go_at_call_of 55 (Value.slice (some ⟨bx, ox, none⟩) rk cx2); refine CSX.out.mono ?_; rintro e w5 ⟨v5, rfl, ho5, hb5⟩; obtain ⟨a5, c5, rfl, hr5⟩ := ho5.rd; clear hr5
                       have l1 := (hb5.cell (p := ⟨gx, col, none⟩) hgx3).trans hax
                       have l2 := (hb5.cell (p := ⟨gy, col, none⟩) hgy3).trans hay
                       have f1 := (hb5.frozen (p := ⟨gx, col, none⟩) hgx3).trans hfx
                       have f2 := (hb5.frozen (p := ⟨gy, col, none⟩) hgy3).trans hfy)
                    | (go_at_call_of 55 (Value.slice ay2 k cy2); refine (CSY.out _ hb5).mono ?_; rintro e w6 ⟨v6, rfl, ho6, hb6⟩; obtain ⟨a6, c6, rfl, hr6⟩ := ho6.rd; clear hr6
                       have l3 := (hb6.cell (p := ⟨gx, col, none⟩) (Nat.lt_of_lt_of_le hgx3 hb5.size)).trans l1
                       have l4 := (hb6.cell (p := ⟨gy, col, none⟩) (Nat.lt_of_lt_of_le hgy3 hb5.size)).trans l2
                       have f3 := (hb6.frozen (p := ⟨gx, col, none⟩) (Nat.lt_of_lt_of_le hgx3 hb5.size)).trans f1
                       have f4 := (hb6.frozen (p := ⟨gy, col, none⟩) (Nat.lt_of_lt_of_le hgy3 hb5.size)).trans f2))
                  all_goals (
                    have hb56 : Below (wc.drewN 1).heap.size (wc.drewN 1) w6 := hb5.trans (hb6.mono hb5.size)
                    have hp := put_two (w0 := wc.drewN 1) (HX3.out.drewN 1) (HY3.out.drewN 1) hne hb56 hGc hcr (ho5.below hb6) (OwnB.base ho6 hb5.size)
                    rw [← HPX.out, ← HPY.out] at hp
                    have H1 := Lib.hid hp.1
                    have H2 := Lib.hid hp.2
                    have H3 : Hid (Below G w ((w6.setCell ⟨gx, col, none⟩ (Value.slice a5 rx.length c5)).setCell ⟨gy, col, none⟩ (Value.slice a6 ry.length c6))) := Lib.hid ((((below_drewN HB3.out 1).trans (hb56.mono hGc)).setCell (p := ⟨gx, col, none⟩) hgx1 _).setCell (p := ⟨gy, col, none⟩) hgy1 _)
                    clear hp hb5 hb6 ho5 ho6
                    go_wp2_with fail
                    go_meet
                    exact ⟨H1, H2, H3⟩)
                case rest =>
                obtain ⟨HX4, HY4, HB4⟩ := hcut
                clear CSX CSY hax hfx hay hfy HX3 HY3 HB3 hgx3 hgy3 hGc HPX HPY hq0
                have HX5 : Hid (MOwn wc G (.slice (some ⟨gx, 0, none⟩) r cx) ((elimTo P col col 0).map (List.take rk))) := Lib.hid (by rw [elimTo_zero]; exact HX4.out)
                have HY5 : Hid (MOwn wc G (.slice (some ⟨gy, 0, none⟩) r cy) ((elimTo P col col 0).map (List.drop rk))) := Lib.hid (by rw [elimTo_zero]; exact HY4.out)
                have HWPX := Lib.hid (map_take_wf HPW.out)
                have HWPY := Lib.hid (map_drop_wf HPW.out)
                clear HX4 HY4
                go_wp2_with fail
                go_loopw [138] (fun i wq => ∃ s : Nat, s ≤ r ∧ i = .int .i64 s ∧ Hid (MOwn wq G (.slice (some ⟨gx, 0, none⟩) r cx) ((elimTo P col col s).map (List.take rk))) ∧ Hid (MOwn wq G (.slice (some ⟨gy, 0, none⟩) r cy) ((elimTo P col col s).map (List.drop rk))) ∧ Hid (Below G w wq)) (fun i _ => r - (intOf i).toNat)
                case atStart => exact ⟨0, by omega, rfl, HX5, HY5, HB4⟩
                case round =>
                  clear HX5 HY5 HB4
                  obtain ⟨s, hs, rfl, HX, HY, HB⟩ := hrel
                  by_cases hsr : s < r
                  · have hsrI : (s : Int) < (r : Int) := by omega
                    have hsP : s < P.length := by rw [HPL.out]; exact hsr
                    have hcP : col < P.length := by rw [HPL.out]; exact hcr
                    have rx1 : ((elimTo P col col s).map (List.take rk)).getD s [] = (P.map (List.take rk)).getD s [] := elim_row_same List.take_nil hsP (by omega)
                    have rx2 : ((elimTo P col col s).map (List.take rk)).getD col [] = (P.map (List.take rk)).getD col [] := elim_row_same List.take_nil hcP (by omega)
                    have ry1 : ((elimTo P col col s).map (List.drop rk)).getD s [] = (P.map (List.drop rk)).getD s [] := elim_row_same List.drop_nil hsP (by omega)
                    have ry2 : ((elimTo P col col s).map (List.drop rk)).getD col [] = (P.map (List.drop rk)).getD col [] := elim_row_same List.drop_nil hcP (by omega)
                    have gxs := HWPX.out.get (i := s) (by rw [List.length_map]; exact hsP)
                    have gxc := HWPX.out.get (i := col) (by rw [List.length_map]; exact hcP)
                    have gys := HWPY.out.get (i := s) (by rw [List.length_map]; exact hsP)
                    have gyc := HWPY.out.get (i := col) (by rw [List.length_map]; exact hcP)
                    obtain ⟨axs, cxs, hxs, hfxs, hoxs⟩ := HX.out.at2 hsr (r := rk) (by rw [rx1]; exact gxs.1)
                    obtain ⟨axc, cxc, hxc, -, hoxc⟩ := HX.out.at2 hcr (r := rk) (by rw [rx2]; exact gxc.1)
                    obtain ⟨ays, cys, hys, hfys, hoys⟩ := HY.out.at2 hsr (r := k) (by rw [ry1]; exact gys.1)
                    obtain ⟨ayc, cyc, hyc, -, hoyc⟩ := HY.out.at2 hcr (r := k) (by rw [ry2]; exact gyc.1)
                    rw [rx1] at hoxs
                    rw [rx2] at hoxc
                    rw [ry1] at hoys
                    rw [ry2] at hoyc
                    obtain ⟨_, _, e3, rdxs⟩ := hoxs.rd
                    injection e3 with e3 e4 e5
                    subst e3 e5
                    clear e4
                    obtain ⟨_, _, e3, rdxc⟩ := hoxc.rd
                    injection e3 with e3 e4 e5
                    subst e3 e5
                    clear e4
                    obtain ⟨_, _, e3, rdys⟩ := hoys.rd
                    injection e3 with e3 e4 e5
                    subst e3 e5
                    clear e4
                    obtain ⟨_, _, e3, rdyc⟩ := hoyc.rd
                    injection e3 with e3 e4 e5
                    subst e3 e5
                    clear e4
                    rw [gxs.1] at rdxs
                    rw [gxc.1] at rdxc
                    rw [gys.1] at rdys
                    rw [gyc.1] at rdyc
                    have rdxs2 := rdxs
                    obtain ⟨bs, os, rfl, hbs, hcq⟩ := rdxs.atB hlt
                    have cq := hcq col hlt
                    have hgv : ((P.map (List.take rk)).getD s []).getD col 0 = gt P s col := by
                      have := gt_take (L := P) (i := s) hlt
                      exact this
                    rw [hgv] at cq
                    have hs1 := HST.out (List.take rk) (cut_take rk) s hsr
                    have hs2 := HST.out (List.drop rk) (cut_drop rk) s hsr
                    have hv256 := HPW.out.lt s col
                    clear hcq rdxs hgv hoxs hoxc hoys hoyc rx1 rx2 ry1 ry2
                    by_cases hskip : s = col ∨ gt P s col = 0
                    · rw [if_pos hskip] at hs1 hs2
                      have HXZ : Hid (MOwn wr G (.slice (some ⟨gx, 0, none⟩) r cx) ((elimTo P col col (s + 1)).map (List.take rk))) := Lib.hid (by rw [hs1]; exact HX.out)
                      have HYZ : Hid (MOwn wr G (.slice (some ⟨gy, 0, none⟩) r cy) ((elimTo P col col (s + 1)).map (List.drop rk))) := Lib.hid (by rw [hs2]; exact HY.out)
                      have hcase : ((s : Int) != (col : Int)) = false ∨ (((s : Int) != (col : Int)) = true ∧ ((gt P s col : Int) != 0) = false) := by
                        by_cases h : s = col
                        · left; simp [h]
                        · right
                          rcases hskip with h1 | h1
                          · exact absurd h1 h
                          · exact ⟨by simp; omega, by simp [h1]⟩
                      clear hs1 hs2 hskip rdxs2 rdxc rdys rdyc HX HY
                      generalize gt P s col = y at *
                      rcases hcase with h1 | ⟨h1, h2⟩
                      all_goals (
                        go_wp2_with fail
                        go_roundw
                        case rel => first | exact ⟨s + 1, by omega, by go_num, HXZ, HYZ, HB⟩ | ((repeat apply Exists.intro); exact ⟨⟨s + 1, by omega, by go_num, HXZ, HYZ, HB⟩, rfl⟩)
                        case measure => simp [intOf]; omega)
                    · rw [if_neg hskip] at hs1 hs2
                      have HS1 := Lib.hid hs1
                      have HS2 := Lib.hid hs2
                      have hsc : ((s : Int) != (col : Int)) = true := by simp; omega
                      have hyn : ((gt P s col : Int) != 0) = true := by simp; omega
                      have hGw : G ≤ wr.heap.size := by have := HB.out.size; have := HG.out; omega
                      have hgx3 : gx < wr.heap.size := (HX.out.hlt gx rfl).2
                      have hgy3 : gy < wr.heap.size := (HY.out.hlt gy rfl).2
                      have CAX := Lib.hid (ref_axpy (gt P s col) ((P.map (List.take rk)).getD col []) ((P.map (List.take rk)).getD s []) _ axc (some ⟨bs, os, none⟩) rk cxc cxs (wr.drewN 1) hv256 rdxc rdxs2 (Nat.le_refl _) gxc.2 gxs.2 (by omega))
                      have CAY := Lib.hid fun w5 (hb5 : Below wr.heap.size (wr.drewN 1) w5) => ref_axpy (gt P s col) ((P.map (List.drop rk)).getD col []) ((P.map (List.drop rk)).getD s []) _ ayc ays k cyc cys w5 hv256 (Rd.below (w := wr.drewN 1) rdyc hb5 (Nat.le_refl _)) (Rd.below (w := wr.drewN 1) rdys hb5 (Nat.le_refl _)) hb5.size gyc.2 gys.2 (by omega)
                      clear hs1 hs2 hskip rdxs2 rdxc rdys rdyc gxs gxc gys gyc
                      generalize axL (gt P s col) ((P.map (List.take rk)).getD col []) ((P.map (List.take rk)).getD s []) = rx at *
                      generalize axL (gt P s col) ((P.map (List.drop rk)).getD col []) ((P.map (List.drop rk)).getD s []) = ry at *
                      generalize gt P s col = y at *
                      go_wp2_with fail
                      clear HCL HOK HFF HXN HPL HLX HLY HWX HWY HP3 HP4 HWPX HWPY HST HPW HAB HA0 HLA HLB HRK p1 p2 hsP hcP hmm hm0 h0I
                      have hxs0 := hxs; have hys0 := hys
                      refine wp_region_till (S := fun wq => wq.cell? ⟨gx, s, none⟩ = some (.slice (some ⟨bs, os, none⟩) rk cxs) ∧ wq.cell? ⟨gx, col, none⟩ = some (.slice axc rk cxc) ∧ wq.cell? ⟨gy, s, none⟩ = some (.slice ays k cys) ∧ wq.cell? ⟨gy, col, none⟩ = some (.slice ayc k cyc)) 25 (by kernel_rfl) ⟨hxs, hxc, hys, hyc⟩ (fun hHeld => ?_)
                      refine till_take (i := 0) (v := ?_) rfl (by kernel_rfl) (by kernel_rfl) (by kernel_rfl) (by kernel_rfl) rfl (by kernel_rfl) (by decide) (fun _ _ _ h => h) (Or.inl ⟨by rfl, ?_⟩) hHeld ?_
                      rotate_left
                      · intro wq hSw; obtain ⟨l1, l2, l3, l4⟩ := hSw; go_simp; try with_reducible rfl
                      (try simp only [Act.put, List.setIfInBounds_toArray, List.set_cons_zero, List.set_cons_succ])
                      refine till_take (i := 1) (v := ?_) rfl (by kernel_rfl) (by kernel_rfl) (by kernel_rfl) (by kernel_rfl) rfl (by kernel_rfl) (by decide) (fun _ _ _ h => h) (Or.inl ⟨by rfl, ?_⟩) hHeld ?_
                      rotate_left
                      · intro wq hSw; obtain ⟨l1, l2, l3, l4⟩ := hSw; go_simp; try with_reducible rfl
                      (try simp only [Act.put, List.setIfInBounds_toArray, List.set_cons_zero, List.set_cons_succ])
                      refine pure_take (i := 2) (v := ?_) rfl (by kernel_rfl) (by kernel_rfl) (by kernel_rfl) (by decide) (fun _ _ _ h => h) (Or.inl ⟨by rfl, ?_⟩) (fun _ => hHeld) ?_
                      rotate_left
                      · intro wq _; go_simp; try with_reducible rfl
                      (try simp only [Act.put, List.setIfInBounds_toArray, List.set_cons_zero, List.set_cons_succ])
                      refine pure_take (i := 3) (v := ?_) rfl (by kernel_rfl) (by kernel_rfl) (by kernel_rfl) (by decide) (fun _ _ _ h => h) (Or.inl ⟨by rfl, ?_⟩) (fun _ => hHeld) ?_
                      rotate_left
                      · intro wq _; go_simp; try with_reducible rfl
                      (try simp only [Act.put, List.setIfInBounds_toArray, List.set_cons_zero, List.set_cons_succ])
                      refine till_take (i := 4) (v := ?_) rfl (by kernel_rfl) (by kernel_rfl) (by kernel_rfl) (by kernel_rfl) rfl (by kernel_rfl) (by decide) (fun _ _ _ h => h) (Or.inl ⟨by rfl, ?_⟩) hHeld ?_
                      rotate_left
                      · intro wq hSw; obtain ⟨l1, l2, l3, l4⟩ := hSw; go_simp; try with_reducible rfl
                      (try simp only [Act.put, List.setIfInBounds_toArray, List.set_cons_zero, List.set_cons_succ])
                      refine till_take (i := 5) (v := ?_) rfl (by kernel_rfl) (by kernel_rfl) (by kernel_rfl) (by kernel_rfl) rfl (by kernel_rfl) (by decide) (fun _ _ _ h => h) (Or.inl ⟨by rfl, ?_⟩) hHeld ?_
                      rotate_left
                      · intro wq hSw; obtain ⟨l1, l2, l3, l4⟩ := hSw; go_simp; try with_reducible rfl
                      (try simp only [Act.put, List.setIfInBounds_toArray, List.set_cons_zero, List.set_cons_succ])
                      refine till_take (i := 6) (v := ?_) rfl (by kernel_rfl) (by kernel_rfl) (by kernel_rfl) (by kernel_rfl) rfl (by kernel_rfl) (by decide) (fun _ _ _ h => h) (Or.inl ⟨by rfl, ?_⟩) hHeld ?_
                      rotate_left
                      · intro wq hSw; obtain ⟨l1, l2, l3, l4⟩ := hSw; go_simp; try with_reducible rfl
                      (try simp only [Act.put, List.setIfInBounds_toArray, List.set_cons_zero, List.set_cons_succ])
                      refine till_take (i := 7) (v := ?_) rfl (by kernel_rfl) (by kernel_rfl) (by kernel_rfl) (by kernel_rfl) rfl (by kernel_rfl) (by decide) (fun _ _ _ h => h) (Or.inl ⟨by rfl, ?_⟩) hHeld ?_
                      rotate_left
                      · intro wq hSw; obtain ⟨l1, l2, l3, l4⟩ := hSw; go_simp; try with_reducible rfl
                      (try simp only [Act.put, List.setIfInBounds_toArray, List.set_cons_zero, List.set_cons_succ])
                      refine till_take (i := 8) (v := ?_) rfl (by kernel_rfl) (by kernel_rfl) (by kernel_rfl) (by kernel_rfl) rfl (by kernel_rfl) (by decide) (fun _ _ _ h => h) (Or.inl ⟨by rfl, ?_⟩) hHeld ?_
                      rotate_left
                      · intro wq hSw; obtain ⟨l1, l2, l3, l4⟩ := hSw; go_simp; try with_reducible rfl
                      (try simp only [Act.put, List.setIfInBounds_toArray, List.set_cons_zero, List.set_cons_succ])
                      refine till_take (i := 9) (v := ?_) rfl (by kernel_rfl) (by kernel_rfl) (by kernel_rfl) (by kernel_rfl) rfl (by kernel_rfl) (by decide) (fun _ _ _ h => h) (Or.inl ⟨by rfl, ?_⟩) hHeld ?_
                      rotate_left
                      · intro wq hSw; obtain ⟨l1, l2, l3, l4⟩ := hSw; go_simp; try with_reducible rfl
                      (try simp only [Act.put, List.setIfInBounds_toArray, List.set_cons_zero, List.set_cons_succ])
                      refine till_take (i := 10) (v := ?_) rfl (by kernel_rfl) (by kernel_rfl) (by kernel_rfl) (by kernel_rfl) rfl (by kernel_rfl) (by decide) (fun _ _ _ h => h) (Or.inl ⟨by rfl, ?_⟩) hHeld ?_
                      rotate_left
                      · intro wq hSw; obtain ⟨l1, l2, l3, l4⟩ := hSw; go_simp; try with_reducible rfl
                      (try simp only [Act.put, List.setIfInBounds_toArray, List.set_cons_zero, List.set_cons_succ])
                      refine till_take (i := 11) (v := ?_) rfl (by kernel_rfl) (by kernel_rfl) (by kernel_rfl) (by kernel_rfl) rfl (by kernel_rfl) (by decide) (fun _ _ _ h => h) (Or.inl ⟨by rfl, ?_⟩) hHeld ?_
                      rotate_left
                      · intro wq hSw; obtain ⟨l1, l2, l3, l4⟩ := hSw; go_simp; try with_reducible rfl
                      (try simp only [Act.put, List.setIfInBounds_toArray, List.set_cons_zero, List.set_cons_succ])
                      refine till_take (i := 12) (v := ?_) rfl (by kernel_rfl) (by kernel_rfl) (by kernel_rfl) (by kernel_rfl) rfl (by kernel_rfl) (by decide) (fun _ _ _ h => h) (Or.inl ⟨by rfl, ?_⟩) hHeld ?_
                      rotate_left
                      · intro wq hSw; obtain ⟨l1, l2, l3, l4⟩ := hSw; go_simp; try with_reducible rfl
                      (try simp only [Act.put, List.setIfInBounds_toArray, List.set_cons_zero, List.set_cons_succ])
                      refine pure_take (i := 14) (v := ?_) rfl (by kernel_rfl) (by kernel_rfl) (by kernel_rfl) (by decide) (fun _ _ _ h => h) (Or.inl ⟨by rfl, ?_⟩) (fun _ => hHeld) ?_
                      rotate_left
                      · intro wq _; go_simp; try with_reducible rfl
                      (try simp only [Act.put, List.setIfInBounds_toArray, List.set_cons_zero, List.set_cons_succ])
                      refine pure_take (i := 15) (v := ?_) rfl (by kernel_rfl) (by kernel_rfl) (by kernel_rfl) (by decide) (fun _ _ _ h => h) (Or.inl ⟨by rfl, ?_⟩) (fun _ => hHeld) ?_
                      rotate_left
                      · intro wq _; go_simp; try with_reducible rfl
                      (try simp only [Act.put, List.setIfInBounds_toArray, List.set_cons_zero, List.set_cons_succ])
                      refine pure_take (i := 16) (v := ?_) rfl (by kernel_rfl) (by kernel_rfl) (by kernel_rfl) (by decide) (fun _ _ _ h => h) (Or.inl ⟨by rfl, ?_⟩) (fun _ => hHeld) ?_
                      rotate_left
                      · intro wq _; go_simp; try with_reducible rfl
                      (try simp only [Act.put, List.setIfInBounds_toArray, List.set_cons_zero, List.set_cons_succ])
                      refine pure_take (i := 17) (v := ?_) rfl (by kernel_rfl) (by kernel_rfl) (by kernel_rfl) (by decide) (fun _ _ _ h => h) (Or.inl ⟨by rfl, ?_⟩) (fun _ => hHeld) ?_
                      rotate_left
                      · intro wq _; go_simp; try with_reducible rfl
                      (try simp only [Act.put, List.setIfInBounds_toArray, List.set_cons_zero, List.set_cons_succ])
                      refine till_take (i := 18) (v := ?_) rfl (by kernel_rfl) (by kernel_rfl) (by kernel_rfl) (by kernel_rfl) rfl (by kernel_rfl) (by decide) (fun _ _ _ h => h) (Or.inl ⟨by rfl, ?_⟩) hHeld ?_
                      rotate_left
                      · intro wq hSw; obtain ⟨l1, l2, l3, l4⟩ := hSw; go_simp; try with_reducible rfl
                      (try simp only [Act.put, List.setIfInBounds_toArray, List.set_cons_zero, List.set_cons_succ])
                      refine pure_take (i := 19) (v := ?_) rfl (by kernel_rfl) (by kernel_rfl) (by kernel_rfl) (by decide) (fun _ _ _ h => h) (Or.inl ⟨by rfl, ?_⟩) (fun _ => hHeld) ?_
                      rotate_left
                      · intro wq _; go_simp; try with_reducible rfl
                      (try simp only [Act.put, List.setIfInBounds_toArray, List.set_cons_zero, List.set_cons_succ])
                      refine pure_take (i := 20) (v := ?_) rfl (by kernel_rfl) (by kernel_rfl) (by kernel_rfl) (by decide) (fun _ _ _ h => h) (Or.inl ⟨by rfl, ?_⟩) (fun _ => hHeld) ?_
                      rotate_left
                      · intro wq _; go_simp; try with_reducible rfl
                      (try simp only [Act.put, List.setIfInBounds_toArray, List.set_cons_zero, List.set_cons_succ])
                      refine pure_take (i := 21) (v := ?_) rfl (by kernel_rfl) (by kernel_rfl) (by kernel_rfl) (by decide) (fun _ _ _ h => h) (Or.inl ⟨by rfl, ?_⟩) (fun _ => hHeld) ?_
                      rotate_left
                      · intro wq _; go_simp; try with_reducible rfl
                      (try simp only [Act.put, List.setIfInBounds_toArray, List.set_cons_zero, List.set_cons_succ])
                      refine till_take (i := 22) (v := ?_) rfl (by kernel_rfl) (by kernel_rfl) (by kernel_rfl) (by kernel_rfl) rfl (by kernel_rfl) (by decide) (fun _ _ _ h => h) (Or.inl ⟨by rfl, ?_⟩) hHeld ?_
                      rotate_left
                      · intro wq hSw; obtain ⟨l1, l2, l3, l4⟩ := hSw; go_simp; try with_reducible rfl
                      (try simp only [Act.put, List.setIfInBounds_toArray, List.set_cons_zero, List.set_cons_succ])
                      refine till_one (i := 13) (by kernel_rfl) rfl (fun K hK => ?_)
                      go_simp
                      refine CAX.out.mono ?_
                      rintro e w5 ⟨v5, rfl, ho5, hb5⟩
                      obtain ⟨a5, c5, rfl, hr5⟩ := ho5.rd
                      clear hr5
                      have l1 := (hb5.cell (p := ⟨gx, s, none⟩) hgx3).trans hxs
                      have l2 := (hb5.cell (p := ⟨gy, s, none⟩) hgy3).trans hys
                      have l3 := (hb5.cell (p := ⟨gx, col, none⟩) hgx3).trans hxc
                      have l4 := (hb5.cell (p := ⟨gy, col, none⟩) hgy3).trans hyc
                      have f1 := (hb5.frozen (p := ⟨gx, s, none⟩) hgx3).trans hfxs
                      have f2 := (hb5.frozen (p := ⟨gy, s, none⟩) hgy3).trans hfys
                      clear hHeld
                      refine hK.out _ _ (fun _ => ⟨l1, l3, l2, l4⟩) ?_
                      clear hK K
                      (try simp only [Act.put, List.setIfInBounds_toArray, List.set_cons_zero, List.set_cons_succ])
                      refine till_one (i := 23) (by kernel_rfl) rfl (fun K hK => ?_)
                      go_simp
                      refine (CAY.out _ hb5).mono ?_
                      rintro e w6 ⟨v6, rfl, ho6, hb6⟩
                      obtain ⟨a6, c6, rfl, hr6⟩ := ho6.rd
                      clear hr6
                      have l5 := (hb6.cell (p := ⟨gx, s, none⟩) (Nat.lt_of_lt_of_le hgx3 hb5.size)).trans l1
                      have l6 := (hb6.cell (p := ⟨gy, s, none⟩) (Nat.lt_of_lt_of_le hgy3 hb5.size)).trans l2
                      have l7 := (hb6.cell (p := ⟨gx, col, none⟩) (Nat.lt_of_lt_of_le hgx3 hb5.size)).trans l3
                      have l8 := (hb6.cell (p := ⟨gy, col, none⟩) (Nat.lt_of_lt_of_le hgy3 hb5.size)).trans l4
                      have f3 := (hb6.frozen (p := ⟨gx, s, none⟩) (Nat.lt_of_lt_of_le hgx3 hb5.size)).trans f1
                      have f4 := (hb6.frozen (p := ⟨gy, s, none⟩) (Nat.lt_of_lt_of_le hgy3 hb5.size)).trans f2
                      have hHeld : w6.cell? ⟨gx, s, none⟩ = some (.slice (some ⟨bs, os, none⟩) rk cxs) ∧ w6.cell? ⟨gx, col, none⟩ = some (.slice axc rk cxc) ∧ w6.cell? ⟨gy, s, none⟩ = some (.slice ays k cys) ∧ w6.cell? ⟨gy, col, none⟩ = some (.slice ayc k cyc) := ⟨l5, l7, l6, l8⟩
                      refine hK.out _ _ (fun _ => hHeld) ?_
                      clear hK K
                      (try simp only [Act.put, List.setIfInBounds_toArray, List.set_cons_zero, List.set_cons_succ])
                      refine till_take (i := 24) (v := ?_) rfl (by kernel_rfl) (by kernel_rfl) (by kernel_rfl) (by kernel_rfl) rfl (by kernel_rfl) (by decide) (fun _ _ _ h => h) (Or.inl ⟨by rfl, ?_⟩) hHeld ?_
                      rotate_left
                      · intro wq hSw; obtain ⟨l1, l2, l3, l4⟩ := hSw; go_simp; try with_reducible rfl
                      (try simp only [Act.put, List.setIfInBounds_toArray, List.set_cons_zero, List.set_cons_succ])
                      refine till_one (i := 25) (by kernel_rfl) rfl (fun K hK => ?_)
                      go_simp
                      refine hK.out _ _ (fun h0 => by cases h0) ?_
                      clear hK K
                      (try simp only [Act.put, List.setIfInBounds_toArray, List.set_cons_zero, List.set_cons_succ])
                      refine pure_take (i := 26) (v := ?_) rfl (by kernel_rfl) (by kernel_rfl) (by kernel_rfl) (by decide) (fun _ _ _ h => h) (Or.inl ⟨by rfl, ?_⟩) (fun h0 => by cases h0) ?_
                      rotate_left
                      · intro wq _; go_simp; try with_reducible rfl
                      (try simp only [Act.put, List.setIfInBounds_toArray, List.set_cons_zero, List.set_cons_succ])
                      refine till_one (i := 27) (by kernel_rfl) rfl (fun K hK => ?_)
                      go_simp
                      refine hK.out _ _ (fun h0 => by cases h0) ?_
                      clear hK K
                      refine till_done (by kernel_rfl) ?_ _
                      all_goals (
                        have hb56 : Below (wr.drewN 1).heap.size (wr.drewN 1) w6 := hb5.trans (hb6.mono hb5.size)
                        have hp := put_two (w0 := wr.drewN 1) (HX.out.drewN 1) (HY.out.drewN 1) hne hb56 hGw hsr (ho5.below hb6) (OwnB.base ho6 hb5.size)
                        rw [← HS1.out, ← HS2.out] at hp
                        have HXZ := Lib.hid hp.1
                        have HYZ := Lib.hid hp.2
                        have HBZ : Hid (Below G w ((w6.setCell ⟨gx, s, none⟩ (Value.slice a5 rx.length c5)).setCell ⟨gy, s, none⟩ (Value.slice a6 ry.length c6))) := Lib.hid ((((below_drewN HB.out 1).trans (hb56.mono hGw)).setCell (p := ⟨gx, s, none⟩) hgx1 _).setCell (p := ⟨gy, s, none⟩) hgy1 _)
                        clear hp hb5 hb6 ho5 ho6
                        go_wp2_with fail
                        go_roundw
                        case rel => first | exact ⟨s + 1, by omega, by go_num, HXZ, HYZ, HBZ⟩ | ((repeat apply Exists.intro); exact ⟨⟨s + 1, by omega, by go_num, HXZ, HYZ, HBZ⟩, rfl⟩)
                        case measure => simp [intOf]; omega)
                  · have HBQ := HB
                    obtain rfl : s = r := by omega
                    have HXZ : Hid (MOwn wr G (.slice (some ⟨gx, 0, none⟩) s cx) (cutS (List.take rk) A B (col + 1))) := Lib.hid (by rw [HXN.out]; exact HX.out)
                    have HYZ : Hid (MOwn wr G (.slice (some ⟨gy, 0, none⟩) s cy) (cutS (List.drop rk) A B (col + 1))) := Lib.hid (by rw [HXN.out]; exact HY.out)
                    go_wp2_with fail
                    go_roundw
                    case rel => first | exact ⟨col + 1, by omega, by go_num, HXZ, HYZ, HBQ⟩ | ((repeat apply Exists.intro); exact ⟨⟨col + 1, by omega, by go_num, HXZ, HYZ, HBQ⟩, rfl⟩)
                    case measure => simp [intOf]; omega
          · obtain rfl : col = rk := by omega
            have hlY : (cutS (List.drop col) A B col).length = r := by rw [cutS_len _ HAB.out]; exact HLA.out
            have hinvw : Wf k (cutS (List.drop col) A B col) := by
              obtain ⟨ls, hinv⟩ := redF_inv (sideM_wf HAB.out HWA.out HWB.out) col
              exact map_drop_wf hinv.wf
            have HTK := Lib.hid (HY.out.take hrkr)
            have HYL := Lib.hid hlY
            have HYW := Lib.hid hinvw
            clear hlY hinvw HX
            generalize cutS (List.drop col) A B col = Y at *
            go_wp2_with fail
            go_loopw [15] (fun i wq => ∃ q : Nat, col ≤ q ∧ q ≤ r ∧ i = .int .i64 q ∧ Hid (∀ t, col ≤ t → t < q → leadI (Y.getD t []) < 0) ∧ Hid (∃ z, wq = w2.drewN z)) (fun i _ => r - (intOf i).toNat)
            case atStart => exact ⟨col, by omega, hrkr, rfl, Lib.hid (fun t h1 h2 => by omega), Lib.hid ⟨0, rfl⟩⟩
            case round =>
              obtain ⟨q, hq1, hq2, rfl, HLO, HJ⟩ := hrel
              obtain ⟨z, hz⟩ := HJ.out
              clear HJ
              by_cases hqr : q < r
              · have hqrI : (q : Int) < (r : Int) := by omega
                have hgq := HYW.out.get (i := q) (by rw [HYL.out]; exact hqr)
                obtain ⟨aq, cq, hcq, -, hoq⟩ := HY.out.at2 hqr (r := k) hgq.1
                obtain ⟨_, _, e3, rdq⟩ := hoq.rd
                injection e3 with e3 e4 e5
                subst e3 e5
                clear e4
                rw [hgq.1] at rdq
                have kq : wr.cell? ⟨gy, q, none⟩ = some (.slice aq k cq) := by rw [hz]; exact hcq
                have CL := Lib.hid (ref_lead (Y.getD q []) _ aq k cq wr (by rw [hz]; exact rdq) hgq.2 (by unfold maxLen; omega))
                have HZ := Lib.hid hz
                have hcl := HCL.out q hq1 (by rw [HLA.out]; exact hqr)
                have HCLQ := Lib.hid hcl
                clear hgq hoq rdq hcq hz hcl
                generalize hll : leadI (Y.getD q []) = ly at *
                have HLL := Lib.hid hll
                clear hll
                by_cases hly : 0 ≤ ly
                · obtain ⟨s1, s2⟩ := HCLQ.out hly
                  have S1 := Lib.hid s1
                  have S2 := Lib.hid s2
                  clear s1 s2 HCLQ
                  go_wp2_with fail
                  refine CL.out.mono ?_
                  rintro e w5 ⟨rfl, z2, rfl⟩
                  have hge : ly ≥ 0 := hly
                  go_wp2_with fail
                  go_ret2
                  exact ⟨_, by rw [S1.out]; rfl, by rw [S2.out]; exact MOwn.nil _ _, by rw [HG.out, HZ.out]; exact below_drewN (below_drewN HB.out z) z2⟩
                · have hge : ¬ ly ≥ 0 := hly
                  go_wp2_with fail
                  refine CL.out.mono ?_
                  rintro e w5 ⟨rfl, z2, rfl⟩
                  have HLO2 : Hid (∀ t, col ≤ t → t < q + 1 → leadI (Y.getD t []) < 0) := Lib.hid (fun t h1 h2 => by
                    rcases Nat.lt_or_ge t q with h | h
                    · exact HLO.out t h1 h
                    · rw [show t = q by omega, HLL.out]; omega)
                  have HJ2 : Hid (∃ z, wr.drewN z2 = w2.drewN z) := Lib.hid ⟨z + z2, by rw [HZ.out, World.drewN_drewN]⟩
                  go_wp2_with fail
                  go_roundw
                  case rel => first | exact ⟨q + 1, by omega, by omega, by go_num, HLO2, HJ2⟩ | ((repeat apply Exists.intro); exact ⟨⟨q + 1, by omega, by omega, by go_num, HLO2, HJ2⟩, rfl⟩)
                  case measure => simp [intOf]; omega
              · have HBQ := HB
                obtain rfl : q = r := by omega
                obtain ⟨s1, s2⟩ := HOK.out (fun i h1 h2 => HLO.out i h1 (by rw [HLA.out] at h2; exact h2))
                have S1 := Lib.hid s1
                have S2 := Lib.hid s2
                have hcI : (col : Int) ≤ (cy : Int) := by have := hcapy.2.1; omega
                have HTK2 := Lib.hid (HTK.out.drewN z)
                clear s1 s2
                go_wp2_with fail
                go_ret2
                exact ⟨_, by rw [S1.out]; rfl, by rw [S2.out, HG.out]; exact HTK2.out, by rw [HG.out]; exact below_drewN HBQ.out z⟩
end Go.Proofs.Ytfbhbjhfebkpfaa
