/- law07: a Draw that may be nil; slices.Clone of a []int that is not nil; the numbers from 0 on. -/
import Derived.Test.YtiaoegdpofpneaaChoM
import Derived.Test.YtiaoegdpofpneaaSolB
import Derived.Sort.Walk7a
namespace Go.Proofs.Ytiaoegdpofpneaa
open Go.RowKit
set_option linter.unusedVariables false

/-- A Draw's place: none, or a cell that holds s. -/
def Dp (w : World) (p : Option Addr) (s : Int) : Prop := p = none ∨ ∃ b o, p = some ⟨b, o, none⟩ ∧ At w ⟨b, o, none⟩ (.int .u64 s)
def setD (w : World) (p : Option Addr) (s : Int) : World := match p with | none => w | some a => w.setCell a (.int .u64 s)
theorem setD_setD (w : World) (p : Option Addr) (s t : Int) (h : p = none ∨ ∃ b o, p = some ⟨b, o, none⟩) : setD (setD w p s) p t = setD w p t := by
  rcases h with rfl | ⟨b, o, rfl⟩
  · rfl
  · exact Go.Proofs.setCell_setCell w b o _ _
theorem setD_size (w : World) (p : Option Addr) (s : Int) : (setD w p s).heap.size = w.heap.size := by
  unfold setD; split <;> simp [World.setCell]
theorem Dp.lt {w : World} {b o : Nat} {s : Int} (h : Dp w (some ⟨b, o, none⟩) s) : b < w.heap.size := by
  rcases h with h | ⟨b', o', h1, h2⟩
  · cases h
  · injection h1 with h1; injection h1 with h1 h3; subst h1; exact h2.lt
theorem Dp.put {w : World} {p : Option Addr} {s : Int} (h : Dp w p s) (t : Int) : Dp (setD w p t) p t := by
  rcases h with rfl | ⟨b, o, rfl, h2⟩
  · exact .inl rfl
  · exact .inr ⟨b, o, rfl, h2.put _⟩
theorem Dp.form {w : World} {p : Option Addr} {s : Int} (h : Dp w p s) : p = none ∨ ∃ b o, p = some ⟨b, o, none⟩ := by
  rcases h with h | ⟨b, o, h, _⟩
  · exact .inl h
  · exact .inr ⟨b, o, h⟩
theorem Dp.below {w w' : World} {p : Option Addr} {s : Int} {B : Nat} (h : Dp w p s) (hb : Below B w w') (hB : w.heap.size ≤ B) : Dp w' p s := by
  rcases h with h | ⟨b, o, rfl, h2⟩
  · exact .inl h
  · exact .inr ⟨b, o, rfl, h2.below hb (by have := h2.lt; omega)⟩
theorem Dp.far {w : World} {p : Option Addr} {s : Int} (h : Dp w p s) {g : Nat} (hp : ∀ b o, p = some ⟨b, o, none⟩ → b < g) (i : Nat) (v : Value) : Dp (w.setCell ⟨g, i, none⟩ v) p s := by
  rcases h with h | ⟨b, o, rfl, h2⟩
  · exact .inl h
  · exact .inr ⟨b, o, rfl, h2.far (q := ⟨g, i, none⟩) (by have := hp b o rfl; simp; omega) v⟩
theorem below_setD {B : Nat} {X Y : World} (h : Below B X Y) (hB : B ≤ X.heap.size) (p : Option Addr) (t : Int) : Below B (setD X p t) (setD Y p t) := by
  unfold setD
  split
  · exact h
  · rename_i a
    refine ⟨h.os, h.tape, h.output, by simpa [World.setCell] using h.size, fun k hk => ?_⟩
    have := h.block k hk
    by_cases he : a.block = k
    · subst he
      simp only [World.setCell, Array.getElem?_modify, if_pos rfl]
      rw [this]
    · simp only [World.setCell, Array.getElem?_modify, if_neg he]
      exact this

theorem Blk.setD {w : World} {g : Nat} {t : TypeId} {cs : Array Value} (h : Blk w g t cs) {p : Option Addr} (hp : ∀ b o, p = some ⟨b, o, none⟩ → b < g) (hf : p = none ∨ ∃ b o, p = some ⟨b, o, none⟩) (x : Int) : Blk (setD w p x) g t cs := by
  rcases hf with rfl | ⟨b, o, rfl⟩
  · exact h
  · exact h.far (p := ⟨b, o, none⟩) (by have := hp b o rfl; simp; omega) _
set_option maxHeartbeats 400000 in
theorem draw_belowD (s n : Int) (p : Option Addr) (w : World) (h : Dp w p s) (hn : -9223372036854775808 ≤ n ∧ n ≤ 9223372036854775807) :
    Calls Try.prog 23 #[.pointer p, .int .i64 n] w fun e w' => e = .returned (.int .i64 (bN p.isNone s n : Nat)) ∧ w' = setD w p (sN p.isNone s n) := by
  rcases h with rfl | ⟨b, o, rfl, h2⟩
  · exact (draw_below_nil n w).mono fun e w' ⟨h1, h3⟩ => ⟨h1, h3.symm⟩
  · refine (draw_below s n _ w h2.1 h2.2 hn).mono fun e w' ⟨h1, h3⟩ => ⟨?_, h3.symm⟩
    rw [h1]
    have : (bval s n) = ((bval s n).toNat : Int) := by have := (bval_bd s n).1; omega
    show Ending.returned (.int .i64 (bval s n)) = Ending.returned (.int .i64 ((bval s n).toNat : Int))
    rw [← this]
set_option maxHeartbeats 400000 in
theorem rdraw_belowD (s n : Int) (b o : Nat) (w : World) (h2 : At w ⟨b, o, none⟩ (.int .u64 s)) (hn : -9223372036854775808 ≤ n ∧ n ≤ 9223372036854775807) :
    Calls Try.prog 24 #[.pointer (some ⟨b, o, none⟩), .int .i64 n] w fun e w' => e = .returned (.int .i64 (bN false s n : Nat)) ∧ w' = setD w (some ⟨b, o, none⟩) (sN false s n) := by
  refine (rdraw_below s n _ w h2.1 h2.2 hn).mono fun e w' ⟨h1, h3⟩ => ⟨?_, h3.symm⟩
  rw [h1]
  have : (bval s n) = ((bval s n).toNat : Int) := by have := (bval_bd s n).1; omega
  show Ending.returned (.int .i64 (bval s n)) = Ending.returned (.int .i64 ((bval s n).toNat : Int))
  rw [← this]

def rowI (l : List Nat) : Array Value := (cellsI l).toArray
theorem rowI_size (l : List Nat) : (rowI l).size = l.length := by simp [rowI, cellsI]
theorem rowI_get {l : List Nat} {i : Nat} (h : i < l.length) : (rowI l)[i]? = some (.int .i64 (l.getD i 0 : Nat)) := by
  simp only [rowI, List.getElem?_toArray]; exact cellsI_get h
theorem rowI_set (l : List Nat) (i x : Nat) : (rowI l).setIfInBounds i (.int .i64 (x : Nat)) = rowI (l.set i x) := by
  apply Array.ext'
  rw [Array.toList_setIfInBounds]
  simp [rowI, cellsI]
/-- The numbers from 0 on, the first k of n. -/
def upL (n k : Nat) : List Nat := List.range k ++ List.replicate (n - k) 0
theorem upL_len {n k : Nat} (h : k ≤ n) : (upL n k).length = n := by simp [upL]; omega
theorem upL_full (n : Nat) : upL n n = List.range n := by simp [upL]
theorem upL_set {n k : Nat} (h : k < n) : (upL n k).set k k = upL n (k + 1) := by
  unfold upL
  rw [List.set_append_right _ _ (by simp), List.length_range, Nat.sub_self, show n - k = (n - (k + 1)) + 1 by omega, List.replicate_succ, List.set_cons_zero, List.range_succ, List.append_assoc]
  rfl
theorem upL_at {n k : Nat} (h : k < n) : (upL n k).getD k 0 = 0 := by
  unfold upL
  rw [List.getD_eq_getElem?_getD, List.getElem?_append_right (by simp), List.length_range, Nat.sub_self, List.getElem?_replicate, if_pos (by omega)]
  rfl
theorem made_int (n : Nat) : madeCells #[Value.int .i64 0] n = rowI (upL n 0) := by
  apply Array.ext (by rw [size_madeCells, rowI_size, upL_len (Nat.zero_le _)])
  intro i h1 h2
  simp [madeCells, rowI, cellsI, upL, Nat.mod_one]

set_option maxRecDepth 100000 in
set_option maxHeartbeats 1000000 in
theorem clone_int (ad : Addr) (n c : Nat) (xs : List Value) (w : World) (hr : Rd w w.heap.size (some ad) n xs) (h1 : ∀ u ∈ xs, u.oneCell' = true) (hn : n * 8 ≤ 140737488355328) :
    Calls Try.prog 52 #[.slice (some ad) n c] w fun e w' => ∃ v, e = .returned v ∧ w'.ownsRow w.heap.size 3 1 v n xs ∧ Below w.heap.size w w' ∧ v ≠ .slice none 0 0 := by
  have hq := fun W => Lib.run_eql_slice_nil (P := Try.prog) W 30 3 (some ad) n c 0 0 Try.underlying30
  have HR := Lib.hid hr
  have H1 := Lib.hid h1
  clear hr h1
  go_enter Try.func52, Try.ntmps52
  go_wp2_with (at_builtin; refine wp_appRd _ rfl _ _ 30 rfl w.heap.size 3 (.int .i64 0) 8 Try.underlying30 info_int rfl (.slice (some ⟨w.heap.size, 0, none⟩) 0 0) 0 [] rfl ?o1 w.heap.size ad n c xs rfl ?o2 H1.out ?o3 ?o4 ?o5 ?_)
  case o1 => exact World.ownsRow_made w #[] 0 (Nat.le_refl _) (by unfold maxLen; omega) (by simp)
  case o2 => exact HR.out.keep (fun p hp => World.cell?_alloc_lt _ _ _ hp)
  case o3 => omega
  case o4 => unfold maxLen; omega
  case o5 => simp
  intro v w1 hown hg hv
  have hb : Below w.heap.size w w1 := ((Below.refl _ _).alloc (Nat.le_refl _) _).grown hg (by simp) (fun k hk => by simp [Value.ownBlock] at hk; omega)
  have hown' : w1.ownsRow w.heap.size 3 1 v n xs := by simpa using hown
  have hne : Hid (v ≠ .slice none 0 0) := Lib.hid (by simpa using hv)
  clear hv
  go_wp2_with fail
  go_ret
  exact ⟨_, rfl, hown', hb, hne.out⟩
end Go.Proofs.Ytiaoegdpofpneaa
