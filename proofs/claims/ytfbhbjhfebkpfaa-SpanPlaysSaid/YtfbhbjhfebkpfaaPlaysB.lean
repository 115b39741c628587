/- Headers of the call's own over rows that lie in the arguments or are the call's own; a span that is none. -/
import Derived.Test.YtfbhbjhfebkpfaaPlaysA
import Derived.Test.YtfbhbjhfebkpfaaLaw04a
namespace Go.Proofs.Ytfbhbjhfebkpfaa
open Go.RowKit
set_option linter.unusedVariables false

/-- A row: what came in (below G), or the call's own. -/
def RwQ (w : World) (G : Nat) (a : Option Addr) (c : Nat) (l : List Nat) : Prop :=
  (Rd w G a l.length (cellsB l) ∧ (a = none → c = 0) ∧ l.length ≤ c ∧ c ≤ maxLen) ∨ OwnB w G (.slice a l.length c) l
theorem RwQ.caps {w : World} {G : Nat} {a : Option Addr} {c : Nat} {l : List Nat} (h : RwQ w G a c l) : (a = none → c = 0) ∧ l.length ≤ c ∧ c ≤ maxLen := by
  rcases h with h | h
  · exact h.2
  · exact own_caps h
theorem RwQ.rd {w : World} {G : Nat} {a : Option Addr} {c : Nat} {l : List Nat} (h : RwQ w G a c l) (hG : G ≤ w.heap.size) : Rd w w.heap.size a l.length (cellsB l) := by
  rcases h with h | h
  · exact h.1.more hG
  · obtain ⟨a1, c1, e, hrd⟩ := OwnB.rd h
    injection e with e1 e2 e3
    subst e1
    exact hrd
theorem RwQ.rdx {w : World} {G : Nat} {a : Option Addr} {c : Nat} {l : List Nat} (h : RwQ w G a c l) (hG : G ≤ w.heap.size) {r : Option Nat} (hr : ∀ g, r = some g → G ≤ g ∧ (HT w g 49 ∨ w.heap.size ≤ g)) : RdX w r a l.length (cellsB l) := by
  rcases h with h | h
  · exact rdX_of h.1 hG fun g e => (hr g e).1
  · refine rdX_own h rfl ?_
    cases hb : (Value.slice a l.length c).ownBlock with
    | none => exact .inl rfl
    | some b =>
      right
      intro e
      have h1 := own_ht h b hb
      have h2 := (World.ownsRow.lt h b hb).2
      rcases (hr b e.symm).2 with h3 | h3
      · exact h1.ne h3 (by decide) rfl
      · omega
theorem RwQ.new {w w' : World} {G : Nat} {a : Option Addr} {c : Nat} {l : List Nat} (h : RwQ w G a c l) (hG : G ≤ w.heap.size) (hb : Below w.heap.size w w') : RwQ w' G a c l := by
  rcases h with h | h
  · exact .inl ⟨h.1.below hb hG, h.2⟩
  · exact .inr (own_new h hb)
theorem RwQ.upd {w w' : World} {G C g n : Nat} {o : Option Nat} {R : List (List Nat)} (hS : SpR w C g n o R) (hu : Upd w w' g o) (hG : G ≤ C) (hC : C ≤ w.heap.size) {a : Option Addr} {c : Nat} {l : List Nat} (h : RwQ w G a c l) : RwQ w' G a c l := by
  rcases h with h | h
  · exact .inl ⟨h.1.below (hS.below hu hC) hG, h.2⟩
  · exact .inr (hS.row hu h)
theorem own_gr {w w' : World} {r : Option Nat} {base e n : Nat} {v : Value} {xs : List Value} (hg : w.grownBy w' r) (h : w.ownsRow base e 1 v n xs) (hne : ∀ b, v.ownBlock = some b → some b ≠ r) : w'.ownsRow base e 1 v n xs :=
  own_upd h (Upd.grow (g := w.heap.size) hg) fun b hb => ⟨Nat.ne_of_lt (h.lt b hb).2, hne b hb⟩
theorem HT.gr {w w' : World} {r : Option Nat} {b : Nat} {t : TypeId} (h : HT w b t) (hg : w.grownBy w' r) (hne : some b ≠ r) : HT w' b t := by
  obtain ⟨cs, h⟩ := h
  exact ⟨cs, (hg.block b (Array.getElem?_eq_some_iff.1 h).1 hne).trans h⟩
/-- Another header's block is written. -/
def OfH (w : World) (G : Nat) (r : Option Nat) : Prop := ∀ g, r = some g → G ≤ g ∧ HT w g 49
theorem OfH.no {w : World} {G : Nat} {r : Option Nat} (hr : OfH w G r) {b : Nat} {t : TypeId} (h : HT w b t) (hne : t ≠ 49) : some b ≠ r := fun e => h.ne (hr b e.symm).2 hne rfl
theorem OfH.below {w w' : World} {G : Nat} {r : Option Nat} (hr : OfH w G r) (hg : w.grownBy w' r) (hG : G ≤ w.heap.size) : Below G w w' := (Below.refl _ _).grown hg hG fun g e => (hr g e).1
theorem RwQ.gr {w w' : World} {G : Nat} {r : Option Nat} (hr : OfH w G r) (hg : w.grownBy w' r) (hG : G ≤ w.heap.size) {a : Option Addr} {c : Nat} {l : List Nat} (h : RwQ w G a c l) : RwQ w' G a c l := by
  rcases h with h | h
  · exact .inl ⟨h.1.below (hr.below hg hG) (Nat.le_refl _), h.2⟩
  · exact .inr (own_gr hg h fun b hb => hr.no (own_ht h b hb) (by decide))
theorem OwnB.gr {w w' : World} {G D : Nat} {r : Option Nat} (hr : OfH w G r) (hg : w.grownBy w' r) {v : Value} {l : List Nat} (h : OwnB w D v l) : OwnB w' D v l :=
  own_gr hg h fun b hb => hr.no (own_ht h b hb) (by decide)
/-- A span stays where another header's block is written. -/
theorem SpR.gr {w w' : World} {G : Nat} {r : Option Nat} (hr : OfH w G r) (hg : w.grownBy w' r) {C g n : Nat} {o : Option Nat} {R : List (List Nat)} (h : SpR w C g n o R) (ho : o = none ∨ o ≠ r) : SpR w' C g n o R := by
  obtain ⟨h1, gf, a, c, h2, h3, ⟨vs, h4⟩, rfl⟩ := h
  refine ⟨h1, gf, a, c, h2.grown hg (hr.no ⟨_, h2⟩ (by decide)), (hg.block gf (Blk.lt h3) (hr.no (b := gf) (t := 100) ⟨_, h3⟩ (by decide))).trans h3, ⟨vs, own_gr hg h4.hd fun b hb e => ?_, fun i l hl => ?_, h4.apart⟩, rfl⟩
  · rcases ho with h | h
    · rw [hb] at h; cases h
    · exact h (hb.trans e)
  · obtain ⟨u, h5, h6⟩ := h4.row i l hl
    exact ⟨u, h5, OwnB.gr hr hg h6⟩

def HdQ (w : World) (G : Nat) (M : List (List Nat)) (vs : List Value) : Prop :=
  vs.length = M.length ∧ ∀ (i : Nat) l, M[i]? = some l → ∃ a' c', vs[i]? = some (.slice a' l.length c') ∧ RwQ w G a' c' l
theorem HdQ.append {w : World} {G : Nat} {M N : List (List Nat)} {vs us : List Value} (h : HdQ w G M vs) (k : HdQ w G N us) : HdQ w G (M ++ N) (vs ++ us) := by
  refine ⟨by rw [List.length_append, List.length_append, h.1, k.1], fun i l hl => ?_⟩
  rw [List.getElem?_append] at hl
  split at hl
  · rename_i h1
    obtain ⟨a', c', h2, h3⟩ := h.2 i l hl
    exact ⟨a', c', by rw [List.getElem?_append_left (by rw [h.1]; exact h1)]; exact h2, h3⟩
  · rename_i h1
    obtain ⟨a', c', h2, h3⟩ := k.2 _ l hl
    exact ⟨a', c', by rw [List.getElem?_append_right (by rw [h.1]; omega), h.1]; exact h2, h3⟩
theorem HdQ.map {w w' : World} {G : Nat} {M : List (List Nat)} {vs : List Value} (h : HdQ w G M vs) (k : ∀ a c l, RwQ w G a c l → RwQ w' G a c l) : HdQ w' G M vs :=
  ⟨h.1, fun i l hl => by obtain ⟨a', c', h1, h2⟩ := h.2 i l hl; exact ⟨a', c', h1, k _ _ _ h2⟩⟩
theorem HdQ.one {w : World} {G : Nat} {a : Option Addr} {c : Nat} {l : List Nat} (h : RwQ w G a c l) : HdQ w G [l] [.slice a l.length c] :=
  ⟨rfl, fun i l' hl => by
    cases i with
    | zero => obtain rfl : l = l' := by simpa using hl
              exact ⟨a, c, rfl, h⟩
    | succ i => simp at hl⟩
theorem HdQ.hdr {w : World} {G : Nat} {M : List (List Nat)} {vs : List Value} (h : HdQ w G M vs) (hG : G ≤ w.heap.size) {r : Option Nat} (hr : ∀ g, r = some g → G ≤ g ∧ (HT w g 49 ∨ w.heap.size ≤ g)) : HdR w r M vs :=
  ⟨h.1, fun i l hl => by obtain ⟨a', c', h1, h2⟩ := h.2 i l hl; exact ⟨a', c', h1, h2.rdx hG hr, h2.caps⟩⟩
/-- Headers of the call's own. -/
def EvQ (w : World) (G : Nat) (v : Value) (M : List (List Nat)) : Prop := ∃ vs, w.ownsRow G 49 1 v M.length vs ∧ HdQ w G M vs
theorem EvQ.nil (w : World) (G : Nat) : EvQ w G (.slice none 0 0) [] := ⟨[], World.ownsRow_nil _ _ _ _, rfl, by simp⟩
theorem EvQ.ofh {w : World} {G : Nat} {v : Value} {M : List (List Nat)} (h : EvQ w G v M) : OfH w G v.ownBlock := by
  obtain ⟨vs, h1, _⟩ := h
  exact fun g e => ⟨(h1.lt g e).1, own_ht h1 g e⟩
theorem EvQ.hlt {w : World} {G : Nat} {v : Value} {M : List (List Nat)} (h : EvQ w G v M) : ∀ b, v.ownBlock = some b → G ≤ b ∧ b < w.heap.size := by
  obtain ⟨vs, h1, _⟩ := h
  exact fun b hb => h1.lt b hb
theorem EvQ.ev {w : World} {G : Nat} {v : Value} {M : List (List Nat)} (h : EvQ w G v M) (hG : G ≤ w.heap.size) : Ev w G v M := by
  have ho := h.ofh
  obtain ⟨vs, h1, h2⟩ := h
  exact ⟨vs, h1, h2.hdr hG fun g e => ⟨(ho g e).1, .inl (ho g e).2⟩⟩
theorem EvQ.new {w w' : World} {G : Nat} {v : Value} {M : List (List Nat)} (h : EvQ w G v M) (hG : G ≤ w.heap.size) (hb : Below w.heap.size w w') : EvQ w' G v M := by
  obtain ⟨vs, h1, h2⟩ := h
  exact ⟨vs, own_new h1 hb, h2.map fun _ _ _ h => h.new hG hb⟩
theorem EvQ.upd {w w' : World} {G C g n : Nat} {o : Option Nat} {R : List (List Nat)} (hS : SpR w C g n o R) (hu : Upd w w' g o) (hG : G ≤ C) (hC : C ≤ w.heap.size) {v : Value} {M : List (List Nat)} (h : EvQ w G v M) (ho : v.ownBlock = none ∨ v.ownBlock ≠ o) : EvQ w' G v M := by
  obtain ⟨vs, h1, h2⟩ := h
  refine ⟨vs, own_upd h1 hu fun b hb => ⟨(own_ht h1 b hb).ne hS.ht (by decide), fun e => ?_⟩, h2.map fun _ _ _ h => RwQ.upd hS hu hG hC h⟩
  rcases ho with h1 | h1
  · rw [hb] at h1; cases h1
  · exact h1 (hb.trans e)
theorem EvQ.val {w : World} {G : Nat} {v : Value} {M : List (List Nat)} (h : EvQ w G v M) : ∃ a c, v = .slice a M.length c := by
  obtain ⟨vs, h1, _⟩ := h
  obtain ⟨a, c, rfl, _⟩ := rd_of_own' h1
  exact ⟨a, c, rfl⟩
theorem EvQ.hd {w : World} {G : Nat} {v : Value} {M : List (List Nat)} (h : EvQ w G v M) : ∃ a c vs, v = .slice a M.length c ∧ Rd w w.heap.size a M.length vs ∧ HdQ w G M vs ∧ (a = none → c = 0) := by
  obtain ⟨vs, h1, h2⟩ := h
  obtain ⟨a, c, rfl, hr, hn⟩ := rd_of_own' h1
  exact ⟨a, c, vs, rfl, hr, h2, (own_caps h1).1⟩

/-- 'append(v, l)' of a row's header. -/
theorem wp_appQ {w : World} {ops : Array Oper} {rest : List Oper} {o : Oper} {a : Act} {Q : Exit → Act → World → Prop} (hgd : o.guard = none) (s x : Operand) {G : Nat} {v : Value} {M : List (List Nat)} {al : Option Addr} {cl m : Nat} {l : List Nat}
    (ho : o.op = .call { callee := .builtin .append, args := #[s, x], argTypes := #[46, 46] })
    (h : EvQ w G v M) (hu : RwQ w G al cl l) (hml : l.length = m) (hG : G ≤ w.heap.size) (hl : M.length ≤ 1000000)
    (hs : a.eval s = v) (hx : a.eval x = .slice (some ⟨w.heap.size, 0, none⟩) 1 1)
    (K : ∀ v' w2, EvQ w2 G v' (M ++ [l]) → (w.alloc (.cells #[.slice al m cl] 49)).grownBy w2 v.ownBlock → (v'.ownBlock = v.ownBlock ∨ v'.ownBlock = some (w.heap.size + 1)) → wpList Try.prog ops Q rest (a.put o.dst v') w2) :
    wpList Try.prog ops Q (o :: rest) a (w.alloc (.cells #[.slice al m cl] 49)) := by
  subst hml
  have hba := (Below.refl w.heap.size w).alloc (Nat.le_refl _) (.cells #[.slice al l.length cl] 49)
  have h1 := h.new hG hba
  have hu1 := hu.new hG hba
  have hG1 : G ≤ (w.alloc (.cells #[.slice al l.length cl] 49)).heap.size := Nat.le_trans hG hba.size
  have hsz : (w.alloc (.cells #[.slice al l.length cl] 49)).heap.size = w.heap.size + 1 := by simp
  have hcell := cell_lit w #[.slice al l.length cl] 49 0
  generalize hw1 : w.alloc (.cells #[.slice al l.length cl] 49) = w1 at *
  have hof := h1.ofh
  obtain ⟨vs, h2, h3⟩ := h1
  refine wp_app1At (P := Try.prog) w1 hgd s x 46 ho G 49 (.slice none 0 0) 24 Try.underlying46 info_rows rfl v M.length vs hs h2 w.heap.size (.slice al l.length cl) hx hcell rfl (by omega) (by unfold maxLen; omega) hG1 fun v' w2 hown hg hat => ?_
  refine K v' w2 ⟨_, by rw [List.length_append]; exact hown, (h3.map fun _ _ _ h => h.gr hof hg hG1).append (HdQ.one (hu1.gr hof hg hG1))⟩ hg (by rw [hsz] at hat; exact hat)

theorem span_new_un (gf : Option Addr) (n : Int) (w : World) (hn : n < 0 ∨ 64 < n) :
    Calls Try.prog 72 #[.pointer gf, .int .i64 n] w fun e w' => e = .returned (.pointer none) ∧ w = w' := by
  go_enter Try.func72, Try.ntmps72
  go_wp2_with fail
  all_goals first | omega | (go_ret; exact ⟨rfl, rfl⟩)
end Go.Proofs.Ytfbhbjhfebkpfaa
