/- Small lemmas of our own, over any program: worlds, new blocks, appends of one element. -/
import Derived.WalkKit
import Derived.WalkSpells
import Derived.WalkLawsBesides
import Derived.BigQuiet
import Derived.Deep.QuietTactic
import Derived.Lib.Hide
import Derived.Deep.AppendLies
namespace Go.Proofs.Ytiaoegdpofpneaa
open Go.RowKit

theorem cell_lit (w : World) (cs : Array Value) (t : TypeId) (k : Nat) : (w.alloc (.cells cs t)).cell? ⟨w.heap.size, k, none⟩ = cs[k]? :=
  cell_of_row _ _ k cs t (0, 0) (heap_alloc_new w _)

/-- What was below stays: cells and marks. -/
theorem bcell {B : Nat} {W w1 : World} (hb : Below B W w1) : (∀ b o, b < B → w1.cell? ⟨b, o, none⟩ = W.cell? ⟨b, o, none⟩) ∧ (∀ b o, b < B → w1.frozen? ⟨b, o, none⟩ = W.frozen? ⟨b, o, none⟩) :=
  ⟨fun b o h => hb.cell (p := ⟨b, o, none⟩) h, fun b o h => hb.frozen (p := ⟨b, o, none⟩) h⟩

theorem below_drewN {B : Nat} {a w : World} (h : Below B a w) (n : Nat) : Below B a (w.drewN n) := ⟨h.os, h.tape, h.output, h.size, h.block⟩

/-- 'append(v, u)', v nil or the call's own, of one-cell elements; u lies alone in a new block. -/
theorem wp_app1 {P : Program} (w : World) {ops : Array Oper} {rest : List Oper} {o : Oper} {a : Act} {Q : Exit → Act → World → Prop} (hgd : o.guard = none) (s x : Operand) (t : TypeId)
    (ho : o.op = .call { callee := .builtin .append, args := #[s, x], argTypes := #[t, t] })
    (base : Nat) (e : TypeId) (z : Value) (bytes : Nat) (ht : P.underlying t = some (.slice e)) (hi : (P.info? e).map (fun i => (i.zero, i.size, i.bytes)) = some (some z, 1, bytes)) (hzs : z.cells.size = 1)
    (v : Value) (n : Nat) (xs : List Value) (hs : a.eval s = v) (hown : w.ownsRow base e 1 v n xs)
    (g : Nat) (u : Value) (hx : a.eval x = .slice (some ⟨g, 0, none⟩) 1 1) (hu : w.cell? ⟨g, 0, none⟩ = some u) (h1 : u.oneCell' = true)
    (hbytes : (n + 1) * bytes ≤ 140737488355328) (h63 : n + 1 ≤ maxLen) (hbase : base ≤ w.heap.size)
    (h : ∀ v' w', w'.ownsRow base e 1 v' (n + 1) (xs ++ [u]) → w.grownBy w' v.ownBlock → v' ≠ .slice none 0 0 → wpList P ops Q rest (a.put o.dst v') w') : wpList P ops Q (o :: rest) a w := by
  obtain ⟨i, hi1, hi2, hi3, hi4⟩ := info_parts hi
  refine wpList_append_own w hgd s x t ho base e i z 1 bytes ht hi1 hi2 hi3 hi4 hzs (by decide) v n xs hs hown ⟨g, 0, none⟩ 1 1 [u] hx rfl ?_ (by simpa using h1) h63 hbytes hbase ?_
  · intro j u' hj
    match j, hj with
    | 0, hj => simp at hj; subst hj; simpa [Addr.add] using hu
  · intro v' w' h1 h2 h3
    exact h v' w' h1 h2 (fun e => by have := h3.1 e; simp at this)

/-- The same, the world behind it said by 'Below'. -/
theorem below_grown {base : Nat} {w w' : World} {v : Value} {e : TypeId} {n : Nat} {xs : List Value} (hg : w.grownBy w' v.ownBlock) (hown : w.ownsRow base e 1 v n xs) (hb : base ≤ w.heap.size) : Below base w w' :=
  (Below.refl _ _).grown hg hb (fun k hk => (hown.lt k hk).1)

/-- The slice value '.slice a n _' reads as xs (elements of one cell), and lies below block B. -/
def Rd (w : World) (B : Nat) (a : Option Addr) (n : Nat) (xs : List Value) : Prop :=
  xs.length = n ∧ (0 < n → ∃ b o, a = some ⟨b, o, none⟩ ∧ b < B ∧ ∀ i u, xs[i]? = some u → w.cell? ⟨b, o + i, none⟩ = some u)

theorem rd_nil (w : World) (B : Nat) (a : Option Addr) : Rd w B a 0 [] := ⟨rfl, fun h => absurd h (by omega)⟩
theorem Rd.len {w : World} {B : Nat} {a : Option Addr} {n : Nat} {xs : List Value} (h : Rd w B a n xs) : xs.length = n := h.1
theorem Rd.keep {w w' : World} {B : Nat} {a : Option Addr} {n : Nat} {xs : List Value} (h : Rd w B a n xs) (hk : ∀ p : Addr, p.block < B → w'.cell? p = w.cell? p) : Rd w' B a n xs :=
  ⟨h.1, fun hn => by
    obtain ⟨b, o, e, hb, hc⟩ := h.2 hn
    exact ⟨b, o, e, hb, fun i u hu => (hk ⟨b, o + i, none⟩ hb).trans (hc i u hu)⟩⟩
theorem Rd.below {w w' : World} {B C : Nat} {a : Option Addr} {n : Nat} {xs : List Value} (h : Rd w B a n xs) (hb : Below C w w') (hC : B ≤ C) : Rd w' B a n xs :=
  h.keep fun _ hp => hb.cell (by omega)
theorem Rd.more {w : World} {B C : Nat} {a : Option Addr} {n : Nat} {xs : List Value} (h : Rd w B a n xs) (hC : B ≤ C) : Rd w C a n xs :=
  ⟨h.1, fun hn => by
    obtain ⟨b, o, e, hb, hc⟩ := h.2 hn
    exact ⟨b, o, e, by omega, hc⟩⟩

theorem rd_of_ints {w : World} (k : IntKind) (x : Addr) (len cap : Nat) (zs : List Int) (hl : len ≤ cap) (hz : zs.length = cap)
    (hcell : ∀ i, i < zs.length → w.cell? (x.add i) = some (.int k (zs.getD i 0))) : Rd w w.heap.size (some x) len ((zs.take len).map (Value.int k)) := by
  refine ⟨by simp; omega, fun hn => ?_⟩
  have h0 := hcell 0 (by omega)
  obtain ⟨b, o, sp⟩ := x
  have hsp : sp = none := by simpa [Addr.add] using World.cell?_spot h0
  subst hsp
  refine ⟨b, o, rfl, World.block_lt_of_cell? w ⟨b, o, none⟩ (by simpa [Addr.add] using h0), fun i u hu => ?_⟩
  have hi : i < len := by
    have := (List.getElem?_eq_some_iff.1 hu).1
    simp at this; omega
  have := hcell i (by omega)
  rw [Addr.add_lit] at this
  rw [this]
  have h2 : i < zs.length := by omega
  simp only [List.getElem?_map, List.getElem?_take, hi, if_true] at hu
  simp only [List.getD_eq_getElem?_getD]
  rw [List.getElem?_eq_getElem h2] at hu ⊢
  simpa using hu
end Go.Proofs.Ytiaoegdpofpneaa
