/- Small lemmas of our own, over any program: worlds, new blocks, appends of one element. -/
import Derived.Test.YtiaoegdpofpneaaRows
import Derived.WalkKit
import Derived.WalkSpells
import Derived.WalkLawsBesides
import Derived.BigQuiet
import Derived.Deep.QuietTactic
import Derived.Lib.Hide
import Derived.Deep.AppendLies
import Derived.OpenShut
import Derived.Deep.RegionHeld3
import Derived.ScopeJumps
import Derived.WalkMore
import Derived.Deep.LoopGhost
namespace Go.Proofs.Ytiaoegdpofpneaa
open Go.RowKit
set_option linter.unusedVariables false

theorem cell_lit (w : World) (cs : Array Value) (t : TypeId) (k : Nat) : (w.alloc (.cells cs t)).cell? ⟨w.heap.size, k, none⟩ = cs[k]? :=
  cell_of_row _ _ k cs t (0, 0) (heap_alloc_new w _)

/-- What was below stays: cells and marks. -/
theorem bcell {B : Nat} {W w1 : World} (hb : Below B W w1) : (∀ b o, b < B → w1.cell? ⟨b, o, none⟩ = W.cell? ⟨b, o, none⟩) ∧ (∀ b o, b < B → w1.frozen? ⟨b, o, none⟩ = W.frozen? ⟨b, o, none⟩) :=
  ⟨fun b o h => hb.cell (p := ⟨b, o, none⟩) h, fun b o h => hb.frozen (p := ⟨b, o, none⟩) h⟩

theorem below_drewN {B : Nat} {a w : World} (h : Below B a w) (n : Nat) : Below B a (w.drewN n) := ⟨h.os, h.tape, h.output, h.size, h.block⟩

/-- 'append(v, u)', v nil or the call's own, of one-cell elements; u lies alone in a new block. -/
theorem wp_app1 {P : Program} (w : World) {ops : Array Oper} {rest : List Oper} {o : Oper} {a : Act} {Q : Exit → Act → World → Prop} (hgd : o.guard = none) (s x : Operand) (t : TypeId)
    (ho : o.op = .call { callee := .builtin .append, args := #[s, x], argTypes := #[t, t] })
    (base : Nat) (e : TypeId) (z : Value) (bytes : Nat) (ht : P.underlying t = some (.slice e)) (hi : (P.info? e).map (fun i => (i.zero, i.size, i.bytes)) = some (some z, 1, bytes)) (hzs : z.cells.size = 1)
    (v : Value) (n : Nat) (xs : List Value) (hs : a.eval s = v) (hown : w.ownsRow base e 1 v n xs)
    (g : Nat) (u : Value) (hx : a.eval x = .slice (some ⟨g, 0, none⟩) 1 1) (hu : w.cell? ⟨g, 0, none⟩ = some u) (h1 : u.oneCell' = true)
    (hbytes : (n + 1) * bytes ≤ 140737488355328) (h63 : n + 1 ≤ maxLen) (hbase : base ≤ w.heap.size)
    (h : ∀ v' w', w'.ownsRow base e 1 v' (n + 1) (xs ++ [u]) → w.grownBy w' v.ownBlock → v' ≠ .slice none 0 0 → wpList P ops Q rest (a.put o.dst v') w') : wpList P ops Q (o :: rest) a w := by
  obtain ⟨i, hi1, hi2, hi3, hi4⟩ := info_parts hi
  refine wpList_append_own w hgd s x t ho base e i z 1 bytes ht hi1 hi2 hi3 hi4 hzs (by decide) v n xs hs hown ⟨g, 0, none⟩ 1 1 [u] hx rfl ?_ (by simpa using h1) h63 hbytes hbase ?_
  · intro j u' hj
    match j, hj with
    | 0, hj => simp at hj; subst hj; simpa [Addr.add] using hu
  · intro v' w' h1 h2 h3
    exact h v' w' h1 h2 (fun e => by have := h3.1 e; simp at this)

/-- The same, the world behind it said by 'Below'. -/
theorem below_grown {base : Nat} {w w' : World} {v : Value} {e : TypeId} {n : Nat} {xs : List Value} (hg : w.grownBy w' v.ownBlock) (hown : w.ownsRow base e 1 v n xs) (hb : base ≤ w.heap.size) : Below base w w' :=
  (Below.refl _ _).grown hg hb (fun k hk => (hown.lt k hk).1)

/-- The cell p holds v and may be written. -/
def At (w : World) (p : Addr) (v : Value) : Prop := w.cell? p = some v ∧ w.frozen? p = false
theorem At.lt {w : World} {p : Addr} {v : Value} (h : At w p v) : p.block < w.heap.size := World.block_lt_of_cell? w p h.1
theorem At.grown {w w' : World} {p : Addr} {v : Value} {r : Option Nat} (h : At w p v) (hg : w.grownBy w' r) (hr : some p.block ≠ r) : At w' p v :=
  ⟨(World.cell?_of_block (hg.block p.block h.lt hr)).trans h.1, (World.frozen?_of_block (hg.block p.block h.lt hr)).trans h.2⟩
theorem At.alloc {w : World} {p : Addr} {v : Value} (h : At w p v) (o : Obj) : At (w.alloc o) p v := h.grown (World.grownBy_alloc w o none) (by simp)
theorem At.far {w : World} {p q : Addr} {v : Value} (h : At w p v) (hq : p.block ≠ q.block) (u : Value) : At (w.setCell q u) p v :=
  ⟨(World.cell?_of_block (w := w) (Below.heap_setCell w q u p.block hq)).trans h.1, (World.frozen?_of_block (w := w) (Below.heap_setCell w q u p.block hq)).trans h.2⟩
theorem At.put {w : World} {p : Addr} {v : Value} (h : At w p v) (u : Value) : At (w.setCell p u) p u := by
  obtain ⟨hc, hf⟩ := h
  obtain ⟨b, o, sp⟩ := p
  have hsp : sp = none := World.cell?_spot hc
  subst hsp
  refine ⟨?_, by simpa [go_sem] using hf⟩
  go_simp
theorem At.below {B : Nat} {w w' : World} {p : Addr} {v : Value} (h : At w p v) (hb : Below B w w') (hp : p.block < B) : At w' p v :=
  ⟨(hb.cell hp).trans h.1, (hb.frozen hp).trans h.2⟩
theorem At.drew {w : World} {p : Addr} {v : Value} (h : At w p v) : At w.drew p v := h
theorem At.drewN {w : World} {p : Addr} {v : Value} (h : At w p v) (n : Nat) : At (w.drewN n) p v := h
theorem At.new (w : World) (v : Value) (t : TypeId) : At (w.alloc (.cells #[v] t)) ⟨w.heap.size, 0, none⟩ v :=
  ⟨cell_lit w #[v] t 0, by go_simp⟩

/-- What is owned is kept where another row is written. -/
theorem own_kept {w w' : World} {base e size n : Nat} {v : Value} {xs : List Value} {r : Option Nat} {C : Nat} (h : w.ownsRow base e size v n xs) (hg : w.grownBy w' r) (hv : ∀ g, v.ownBlock = some g → g < C) (hr : ∀ g, r = some g → C ≤ g) : w'.ownsRow base e size v n xs := by
  refine h.kept hg ?_
  cases hvb : v.ownBlock with
  | none => exact .inl rfl
  | some g =>
    refine .inr (fun e => ?_)
    have := hv g hvb
    have := hr g e.symm
    omega
theorem ne_own {w : World} {base e size n : Nat} {v : Value} {xs : List Value} (h : w.ownsRow base e size v n xs) {b : Nat} (hb : b < base) : some b ≠ v.ownBlock :=
  fun e => by have := (h.lt b e.symm).1; omega

theorem own_base {w : World} {base base' e size n : Nat} {v : Value} {xs : List Value} (h : w.ownsRow base e size v n xs) (hb : base' ≤ base) : w.ownsRow base' e size v n xs := by
  refine ⟨h.1, ?_⟩
  rcases h.2 with h2 | ⟨g, cap, cur, hv, hg, r⟩
  · exact .inl h2
  · exact .inr ⟨g, cap, cur, hv, by omega, r⟩
theorem own_below {w w' : World} {base e size n B : Nat} {v : Value} {xs : List Value} (h : w.ownsRow base e size v n xs) (hb : Below B w w') (hB : ∀ g, v.ownBlock = some g → g < B) : w'.ownsRow base e size v n xs := by
  refine ⟨h.1, ?_⟩
  rcases h.2 with h2 | ⟨g, cap, cur, rfl, hg, hh, r⟩
  · exact .inl h2
  · exact .inr ⟨g, cap, cur, rfl, hg, (hb.block g (hB g rfl)).trans hh, r⟩
theorem own_new {w w' : World} {base e size n : Nat} {v : Value} {xs : List Value} (h : w.ownsRow base e size v n xs) (hb : Below w.heap.size w w') : w'.ownsRow base e size v n xs :=
  own_below h hb (fun g hg => (h.lt g hg).2)
/-- Rows of unlike element types lie in different blocks. -/
theorem own_ne {w : World} {b1 b2 e1 e2 s1 s2 n1 n2 : Nat} {v1 v2 : Value} {x1 x2 : List Value} (h1 : w.ownsRow b1 e1 s1 v1 n1 x1) (h2 : w.ownsRow b2 e2 s2 v2 n2 x2) (hne : e1 ≠ e2) : v1.ownBlock = none ∨ v1.ownBlock ≠ v2.ownBlock := by
  rcases h1.2 with ⟨rfl, _⟩ | ⟨g, cap, cur, rfl, _, hh, _⟩
  · exact .inl rfl
  · refine .inr (fun e => ?_)
    rcases h2.2 with ⟨rfl, _⟩ | ⟨g', cap', cur', rfl, _, hh', _⟩
    · simp [Value.ownBlock] at e
    · simp [Value.ownBlock] at e
      subst e
      rw [hh] at hh'
      injection hh' with hh'
      injection hh' with _ ht
      exact hne ht
theorem blk_of_own {w : World} {base e n g : Nat} {xs : List Value} (h : w.ownsRow base e 1 (.slice (some ⟨g, 0, none⟩) n n) n xs) : w.heap[g]? = some (.cells xs.toArray e (0, 0)) := by
  rcases h.2 with ⟨h', _⟩ | ⟨g', cap, cur, h', _, hh, _, _, hs, ht⟩
  · simp at h'
  · simp only [Value.slice.injEq, Option.some.injEq, Addr.mk.injEq, and_true, true_and] at h'
    obtain ⟨rfl, rfl⟩ := h'
    rw [hh]
    have : cur.toList = xs := by rw [← ht, List.take_of_length_le (by simp; omega)]
    rw [← this]

/-- The slice value '.slice a n _' reads as xs (elements of one cell), and lies below block B. -/
def Rd (w : World) (B : Nat) (a : Option Addr) (n : Nat) (xs : List Value) : Prop :=
  xs.length = n ∧ (0 < n → ∃ b o, a = some ⟨b, o, none⟩ ∧ b < B ∧ ∀ i u, xs[i]? = some u → w.cell? ⟨b, o + i, none⟩ = some u)

theorem rd_nil (w : World) (B : Nat) (a : Option Addr) : Rd w B a 0 [] := ⟨rfl, fun h => absurd h (by omega)⟩
theorem Rd.len {w : World} {B : Nat} {a : Option Addr} {n : Nat} {xs : List Value} (h : Rd w B a n xs) : xs.length = n := h.1
theorem Rd.keep {w w' : World} {B : Nat} {a : Option Addr} {n : Nat} {xs : List Value} (h : Rd w B a n xs) (hk : ∀ p : Addr, p.block < B → w'.cell? p = w.cell? p) : Rd w' B a n xs :=
  ⟨h.1, fun hn => by
    obtain ⟨b, o, e, hb, hc⟩ := h.2 hn
    exact ⟨b, o, e, hb, fun i u hu => (hk ⟨b, o + i, none⟩ hb).trans (hc i u hu)⟩⟩
theorem Rd.below {w w' : World} {B C : Nat} {a : Option Addr} {n : Nat} {xs : List Value} (h : Rd w B a n xs) (hb : Below C w w') (hC : B ≤ C) : Rd w' B a n xs :=
  h.keep fun _ hp => hb.cell (by omega)
theorem Rd.more {w : World} {B C : Nat} {a : Option Addr} {n : Nat} {xs : List Value} (h : Rd w B a n xs) (hC : B ≤ C) : Rd w C a n xs :=
  ⟨h.1, fun hn => by
    obtain ⟨b, o, e, hb, hc⟩ := h.2 hn
    exact ⟨b, o, e, by omega, hc⟩⟩

/-- 'append(v, xs...)', v nil or the call's own, of one-cell elements; xs reads as news (it is not nil). -/
theorem wp_appRd {P : Program} (w : World) {ops : Array Oper} {rest : List Oper} {o : Oper} {a : Act} {Q : Exit → Act → World → Prop} (hgd : o.guard = none) (s x : Operand) (t : TypeId)
    (ho : o.op = .call { callee := .builtin .append, args := #[s, x], argTypes := #[t, t] })
    (base : Nat) (e : TypeId) (z : Value) (bytes : Nat) (ht : P.underlying t = some (.slice e)) (hi : (P.info? e).map (fun i => (i.zero, i.size, i.bytes)) = some (some z, 1, bytes)) (hzs : z.cells.size = 1)
    (v : Value) (n : Nat) (xs : List Value) (hs : a.eval s = v) (hown : w.ownsRow base e 1 v n xs)
    (B : Nat) (ad : Addr) (m c : Nat) (news : List Value) (hx : a.eval x = .slice (some ad) m c) (hr : Rd w B (some ad) m news) (h1 : ∀ u ∈ news, u.oneCell' = true)
    (hbytes : (n + m) * bytes ≤ 140737488355328) (h63 : n + m ≤ maxLen) (hbase : base ≤ w.heap.size)
    (h : ∀ v' w', w'.ownsRow base e 1 v' (n + m) (xs ++ news) → w.grownBy w' v.ownBlock → (v' = .slice none 0 0 ↔ v = .slice none 0 0 ∧ m = 0) → wpList P ops Q rest (a.put o.dst v') w') : wpList P ops Q (o :: rest) a w := by
  obtain ⟨i, hi1, hi2, hi3, hi4⟩ := info_parts hi
  refine wpList_append_own w hgd s x t ho base e i z 1 bytes ht hi1 hi2 hi3 hi4 hzs (by decide) v n xs hs hown ad m c news hx (by rw [hr.1]; omega) ?_ h1 h63 hbytes hbase h
  intro j u hj
  have hjm : j < m := by
    have := (List.getElem?_eq_some_iff.1 hj).1
    rw [hr.1] at this; exact this
  obtain ⟨b, off, e, _, hc⟩ := hr.2 (by omega)
  obtain rfl := Option.some.inj e
  rw [Addr.add_lit]
  exact hc j u hj

theorem rd_of_own {w : World} {base e n : Nat} {v : Value} {xs : List Value} (h : w.ownsRow base e 1 v n xs) : ∃ a c, v = .slice a n c ∧ Rd w w.heap.size a n xs := by
  rcases Nat.eq_zero_or_pos n with h0 | h0
  · subst h0
    have hx : xs = [] := List.eq_nil_of_length_eq_zero (by simpa using h.1)
    subst hx
    rcases h.2 with ⟨rfl, _⟩ | ⟨g, cap, cur, rfl, _⟩
    · exact ⟨_, _, rfl, rd_nil _ _ _⟩
    · exact ⟨_, _, rfl, rd_nil _ _ _⟩
  · obtain ⟨g, cap, rfl, _, hlt⟩ := h.form h0
    refine ⟨_, _, rfl, by simpa using h.1, fun _ => ⟨g, 0, rfl, hlt, fun i u hu => ?_⟩⟩
    have hi : i < n * 1 := by
      have := (List.getElem?_eq_some_iff.1 hu).1
      rw [h.1] at this; exact this
    rw [Nat.zero_add, h.cellAt i hi, hu]

theorem rd_of_ints {w : World} (k : IntKind) (x : Addr) (len cap : Nat) (zs : List Int) (hl : len ≤ cap) (hz : zs.length = cap)
    (hcell : ∀ i, i < zs.length → w.cell? (x.add i) = some (.int k (zs.getD i 0))) : Rd w w.heap.size (some x) len ((zs.take len).map (Value.int k)) := by
  refine ⟨by simp; omega, fun hn => ?_⟩
  have h0 := hcell 0 (by omega)
  obtain ⟨b, o, sp⟩ := x
  have hsp : sp = none := by simpa [Addr.add] using World.cell?_spot h0
  subst hsp
  refine ⟨b, o, rfl, World.block_lt_of_cell? w ⟨b, o, none⟩ (by simpa [Addr.add] using h0), fun i u hu => ?_⟩
  have hi : i < len := by
    have := (List.getElem?_eq_some_iff.1 hu).1
    simp at this; omega
  have := hcell i (by omega)
  rw [Addr.add_lit] at this
  rw [this]
  have h2 : i < zs.length := by omega
  simp only [List.getElem?_map, List.getElem?_take, hi, if_true] at hu
  simp only [List.getD_eq_getElem?_getD]
  rw [List.getElem?_eq_getElem h2] at hu ⊢
  simpa using hu

/-- 'a[i]' of an array of integers by value. -/
theorem run_index_ints {P : Program} {w : World} (t e : TypeId) (n : Nat) (cs : Array Value) (k kk : IntKind) (i : Nat) (v : Value) (h : P.underlying t = some (.array n e)) (he : P.underlying e = some (.int kk)) (hs : (P.info? e).map (·.size) = some 1)
    (hi : i < n) (hv : cs[i]? = some v) : (Instr.index t (.agg cs) (.int k (i : Int))).run P w = .ok v w := by
  cases hq : P.info? e with
  | none => simp [hq] at hs
  | some inf =>
    have hsz : inf.size = 1 := by simpa [hq] using hs
    have h1 : (0 : Int) ≤ (i : Int) ∧ (i : Int) < (n : Int) := by omega
    simp [Instr.index, run_underlying h, asIntOf, part, isAgg, run_underlying he, sizeOf, typeInfo, hq, hsz, hv]
    intro hbad; omega

/-- A block that is known whole. -/
def Blk (w : World) (g : Nat) (t : TypeId) (cs : Array Value) : Prop := w.heap[g]? = some (.cells cs t (0, 0))
theorem Blk.lt {w : World} {g : Nat} {t : TypeId} {cs : Array Value} (h : Blk w g t cs) : g < w.heap.size := (Array.getElem?_eq_some_iff.1 h).1
theorem Blk.cell {w : World} {g : Nat} {t : TypeId} {cs : Array Value} (h : Blk w g t cs) (i : Nat) : w.cell? ⟨g, i, none⟩ = cs[i]? := cell_of_row w g i cs t (0, 0) h
theorem Blk.frozen {w : World} {g : Nat} {t : TypeId} {cs : Array Value} (h : Blk w g t cs) (i : Nat) : w.frozen? ⟨g, i, none⟩ = false := frozen_of_row w g i cs t h
theorem Blk.new (w : World) (t : TypeId) (cs : Array Value) : Blk (w.alloc (.cells cs t)) w.heap.size t cs := heap_alloc_new w _
theorem Blk.alloc {w : World} {g : Nat} {t : TypeId} {cs : Array Value} (h : Blk w g t cs) (o : Obj) : Blk (w.alloc o) g t cs := (Below.heap_alloc w o g h.lt).trans h
theorem Blk.set {w : World} {g : Nat} {t : TypeId} {cs : Array Value} (h : Blk w g t cs) (i : Nat) (u : Value) : Blk (w.setCell ⟨g, i, none⟩ u) g t (cs.setIfInBounds i u) := heap_setCell_same w g i cs t u h
theorem Blk.far {w : World} {g : Nat} {t : TypeId} {cs : Array Value} (h : Blk w g t cs) {p : Addr} (hp : g ≠ p.block) (u : Value) : Blk (w.setCell p u) g t cs := (heap_setCell_other w p g u hp).trans h
theorem Blk.below {w w' : World} {B g : Nat} {t : TypeId} {cs : Array Value} (h : Blk w g t cs) (hb : Below B w w') (hg : g < B) : Blk w' g t cs := (hb.block g hg).trans h
theorem Blk.grown {w w' : World} {g : Nat} {t : TypeId} {cs : Array Value} {r : Option Nat} (h : Blk w g t cs) (hb : w.grownBy w' r) (hg : some g ≠ r) : Blk w' g t cs := (hb.block g h.lt hg).trans h
theorem Blk.row {w : World} {g : Nat} {t : TypeId} {cs : Array Value} (h : Blk w g t cs) (cs' : Array Value) : Blk (w.setRow g cs') g t cs' := setRow_heap w g cs cs' t (0, 0) h
theorem Blk.drew {w : World} {g : Nat} {t : TypeId} {cs : Array Value} (h : Blk w g t cs) : Blk w.drew g t cs := h
theorem Blk.drewN {w : World} {g : Nat} {t : TypeId} {cs : Array Value} (h : Blk w g t cs) (n : Nat) : Blk (w.drewN n) g t cs := h
theorem below_setRow' {B : Nat} {a w : World} (h : Below B a w) {g : Nat} (hg : B ≤ g) (cs : Array Value) : Below B a (w.setRow g cs) :=
  h.trans ⟨rfl, rfl, rfl, by simp, fun k hk => setRow_other w g k cs (by omega)⟩

/-- A loop by goto: 'pre; l: rest', where rest jumps back to l. The relation J bears a number that each pass lowers. -/
theorem wp_goto_loop {P : Program} {Q : Exit → Act → World → Prop} {a : Act} {w : World} {pre rest : Code} (l : Nat) (J : Nat → Act → World → Prop) (n₀ : Nat)
    (hf : findLabel (pre.seq ((Code.label l).seq rest)) l = some (Code.skip.seq rest))
    (first : pre.wp P (Exit.then (J n₀) (Exit.jump l (fun _ _ => False) Q)) a w)
    (pass : ∀ n a w, J n a w → rest.wp P (Exit.jump l (fun a' w' => ∃ n', n' < n ∧ J n' a' w') Q) a w) : (Code.scope (pre.seq ((Code.label l).seq rest))).wp P Q a w := by
  refine wp_scope_jumps l (fun a w => ∃ n, J n a w) (fun a w => leastOf (fun n => J n a w)) hf ?_ ?_
  · refine wp_seq (wp_mono first ?_)
    intro e a' w' hq
    cases e with
    | normal =>
      refine wp_seq (wp_label ?_)
      refine wp_mono (pass n₀ a' w' hq) ?_
      intro e a' w' hq
      cases e with
      | goto l' => exact ⟨hq.1, let ⟨n', _, hn⟩ := hq.2; ⟨n', hn⟩⟩
      | normal => exact hq
      | exit id => exact hq
      | ret => exact hq
      | panic ch => exact hq
      | outgrown => exact hq
    | goto l' => exact hq.2.elim
    | exit id => exact hq
    | ret => exact hq
    | panic ch => exact hq
    | outgrown => exact hq
  · intro a w hJ
    refine wp_seq (wp_skip ?_)
    refine wp_mono (pass _ a w (leastOf_spec hJ).1) ?_
    intro e a' w' hq
    cases e with
    | goto l' =>
      obtain ⟨h1, n', hlt, hn'⟩ := hq
      exact ⟨h1, ⟨n', hn'⟩, Nat.lt_of_le_of_lt ((leastOf_spec ⟨n', hn'⟩).2 n' hn') hlt⟩
    | normal => exact hq
    | exit id => exact hq
    | ret => exact hq
    | panic ch => exact hq
    | outgrown => exact hq
end Go.Proofs.Ytiaoegdpofpneaa
