/- What stays when memory is laid behind, as one bundle (as XRowD has it of seat B). -/
import Derived.Test.YtiaoegdpofpneaaLtM
namespace Go.Proofs.Ytiaoegdpofpneaa
open Go.RowKit
set_option linter.unusedVariables false

theorem rd_of_own' {w : World} {base e n : Nat} {v : Value} {xs : List Value} (h : w.ownsRow base e 1 v n xs) : ∃ a c, v = .slice a n c ∧ Rd w w.heap.size a n xs ∧ (a = none → c = 0) := by
  obtain ⟨a, c, e1, hr⟩ := rd_of_own h
  refine ⟨a, c, e1, hr, fun ha => ?_⟩
  subst ha
  rcases h.2 with ⟨h2, _⟩ | ⟨g, cap, cur, h2, _⟩
  · rw [h2] at e1; simp at e1; exact e1.2.symm
  · rw [h2] at e1; simp at e1

/-- A fact of a world that stays when memory is laid behind. -/
structure Ent where
  ok : World → Prop
  stb : ∀ w w', ok w → Below w.heap.size w w' → ok w'
def eRd (a : Option Addr) (n : Nat) (l : List Value) : Ent := ⟨fun w => Rd w w.heap.size a n l, fun _ _ h hb => (h.below hb (Nat.le_refl _)).more hb.size⟩
def eBlk (g : Nat) (t : TypeId) (cs : Array Value) : Ent := ⟨fun w => Blk w g t cs, fun _ _ h hb => h.below hb h.lt⟩
def eOwn (C : Nat) (e : TypeId) (v : Value) (n : Nat) (l : List Value) : Ent := ⟨fun w => w.ownsRow C e 1 v n l, fun _ _ h hb => own_new h hb⟩
def Sx (w0 w : World) (L : List Ent) : Prop := Below w0.heap.size w0 w ∧ ∀ e ∈ L, e.ok w
theorem Sx.start {w : World} {L : List Ent} (h : ∀ e ∈ L, e.ok w) : Sx w w L := ⟨Below.refl _ _, h⟩
theorem Sx.nil (w : World) : Sx w w [] := ⟨Below.refl _ _, by simp⟩
theorem Sx.step {w0 w w' : World} {L : List Ent} (h : Sx w0 w L) (hb : Below w.heap.size w w') : Sx w0 w' L := ⟨h.1.trans (hb.mono h.1.size), fun e he => e.stb _ _ (h.2 e he) hb⟩
theorem Sx.drewN {w0 w : World} {L : List Ent} (h : Sx w0 w L) (j : Nat) : Sx w0 (w.drewN j) L := h.step (below_drewN (Below.refl _ _) j)
theorem Sx.drew {w0 w : World} {L : List Ent} (h : Sx w0 w L) : Sx w0 w.drew L := h.step ((Below.refl _ _).drew)
theorem Sx.alloc {w0 w : World} {L : List Ent} (h : Sx w0 w L) (o : Obj) : Sx w0 (w.alloc o) L := h.step ((Below.refl _ _).alloc (Nat.le_refl _) o)
theorem Sx.add {w0 w : World} {L : List Ent} (h : Sx w0 w L) (e : Ent) (he : e.ok w) : Sx w0 w (e :: L) := ⟨h.1, fun f hf => by
  rcases List.mem_cons.1 hf with rfl | hf
  · exact he
  · exact h.2 f hf⟩
theorem Sx.get {w0 w : World} {L : List Ent} (h : Sx w0 w L) (i : Nat) {e : Ent} (hi : L[i]? = some e) : e.ok w := h.2 e (List.mem_of_getElem? hi)
theorem Sx.rd {w0 w : World} {L : List Ent} (h : Sx w0 w L) (i : Nat) {a : Option Addr} {n : Nat} {l : List Value} (hi : L[i]? = some (eRd a n l)) : Rd w w.heap.size a n l := h.get i hi
theorem Sx.blk {w0 w : World} {L : List Ent} (h : Sx w0 w L) (i : Nat) {g : Nat} {t : TypeId} {cs : Array Value} (hi : L[i]? = some (eBlk g t cs)) : Blk w g t cs := h.get i hi
theorem Sx.cut {w0 w : World} {L : List Ent} (h : Sx w0 w L) (M : List Ent) (hs : ∀ e ∈ M, e ∈ L) : Sx w0 w M := ⟨h.1, fun e he => h.2 e (hs e he)⟩
theorem OwnI.rd2 {w : World} {C : Nat} {v : Value} {l : List Nat} {n : Nat} (h : OwnI w C v l) (hn : l.length = n) : ∃ a c, v = .slice a n c ∧ (eRd a n (cellsI l)).ok w ∧ (a = none → c = 0) := by
  subst hn
  exact rd_of_own' h
end Go.Proofs.Ytiaoegdpofpneaa
