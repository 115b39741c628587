/- The package span: a span in memory; what a change of one span leaves as it is. -/
import Derived.Test.YtfbhbjhfebkpfaaMatD
import Derived.Test.YtfbhbjhfebkpfaaEven
import Derived.Test.YtfbhbjhfebkpfaaSpanM
namespace Go.Proofs.Ytfbhbjhfebkpfaa
open Go.RowKit
set_option linter.unusedVariables false

/-- w' is w but for block g, block o and new ones. -/
structure Upd (w w' : World) (g : Nat) (o : Option Nat) : Prop where
  os : w'.os = w.os
  tape : w'.tape = w.tape
  output : w'.output = w.output
  size : w.heap.size ≤ w'.heap.size
  block : ∀ k, k < w.heap.size → k ≠ g → some k ≠ o → w'.heap[k]? = w.heap[k]?
theorem Upd.refl (w : World) (g : Nat) (o : Option Nat) : Upd w w g o := ⟨rfl, rfl, rfl, Nat.le_refl _, fun _ _ _ _ => rfl⟩
theorem Upd.of {w w' : World} {g : Nat} {o : Option Nat} (h : Below w.heap.size w w') : Upd w w' g o := ⟨h.os, h.tape, h.output, h.size, fun k hk _ _ => h.block k hk⟩
theorem Upd.grow {w w' : World} {g : Nat} {o : Option Nat} (h : w.grownBy w' o) : Upd w w' g o := ⟨h.os, h.tape, h.output, h.size, fun k hk _ ho => h.block k hk ho⟩
theorem Upd.trans {a b c : World} {g : Nat} {o : Option Nat} (h : Upd a b g o) (k : Upd b c g o) : Upd a c g o :=
  ⟨k.os.trans h.os, k.tape.trans h.tape, k.output.trans h.output, Nat.le_trans h.size k.size, fun i hi hg ho => (k.block i (Nat.lt_of_lt_of_le hi h.size) hg ho).trans (h.block i hi hg ho)⟩
theorem Upd.set (w : World) (g i : Nat) (u : Value) (o : Option Nat) : Upd w (w.setCell ⟨g, i, none⟩ u) g o :=
  ⟨rfl, rfl, rfl, by simp, fun k _ hg _ => heap_setCell_other w ⟨g, i, none⟩ k u hg⟩
theorem Upd.below {w w' : World} {g : Nat} {o : Option Nat} {C : Nat} (h : Upd w w' g o) (hg : C ≤ g) (ho : ∀ b, o = some b → C ≤ b) (hC : C ≤ w.heap.size) : Below C w w' :=
  ⟨h.os, h.tape, h.output, h.size, fun k hk => h.block k (by omega) (by omega) (fun e => by have := ho k e.symm; omega)⟩
theorem own_upd {w w' : World} {g : Nat} {o : Option Nat} {base e n : Nat} {v : Value} {xs : List Value} (h : w.ownsRow base e 1 v n xs) (hu : Upd w w' g o) (hne : ∀ b, v.ownBlock = some b → b ≠ g ∧ some b ≠ o) : w'.ownsRow base e 1 v n xs := by
  refine ⟨h.1, ?_⟩
  rcases h.2 with h2 | ⟨b, cap, cur, rfl, hg, hh, r⟩
  · exact .inl h2
  · have := hne b rfl
    exact .inr ⟨b, cap, cur, rfl, hg, (hu.block b (Array.getElem?_eq_some_iff.1 hh).1 this.1 this.2).trans hh, r⟩
/-- The type that block b holds. -/
def HT (w : World) (b : Nat) (t : TypeId) : Prop := ∃ cs, w.heap[b]? = some (.cells cs t (0, 0))
theorem HT.ne {w : World} {b b' : Nat} {t t' : TypeId} (h : HT w b t) (h' : HT w b' t') (hne : t ≠ t') : b ≠ b' := by
  obtain ⟨cs, h⟩ := h
  obtain ⟨cs', h'⟩ := h'
  exact Blk.ne (w := w) h h' hne
theorem own_ht {w : World} {base e n : Nat} {v : Value} {xs : List Value} (h : w.ownsRow base e 1 v n xs) : ∀ b, v.ownBlock = some b → HT w b e := by
  intro b hb
  rcases h.2 with ⟨rfl, _⟩ | ⟨g, cap, cur, rfl, hg, hh, r⟩
  · simp [Value.ownBlock] at hb
  · simp [Value.ownBlock] at hb
    subst hb
    exact ⟨cur, hh⟩
theorem MOwn.same {w w' : World} {C : Nat} {v : Value} {M : List (List Nat)} (h : MOwn w C v M) (hk : ∀ k, C ≤ k → k < w.heap.size → w'.heap[k]? = w.heap[k]?) : MOwn w' C v M := by
  obtain ⟨vs, h⟩ := h
  exact ⟨vs, own_same h.hd hk, fun i l hl => by obtain ⟨u, h1, h2⟩ := h.row i l hl; exact ⟨u, h1, own_same h2 hk⟩, h.apart⟩

/-- A span at g: of rows of n bytes, reduced to R; its headers lie in block o. -/
def SpR (w : World) (C g n : Nat) (o : Option Nat) (R : List (List Nat)) : Prop :=
  C ≤ g ∧ ∃ gf a c, Blk w g 109 #[.pointer (some ⟨gf, 0, none⟩), .int .i64 n, .slice a R.length c] ∧ Fld w gf ∧ MOwn w C (.slice a R.length c) R ∧ (Value.slice a R.length c).ownBlock = o
theorem SpR.lt {w : World} {C g n : Nat} {o : Option Nat} {R : List (List Nat)} (h : SpR w C g n o R) : C ≤ g ∧ g < w.heap.size := by
  obtain ⟨h1, gf, a, c, h2, _⟩ := h
  exact ⟨h1, h2.lt⟩
theorem SpR.ht {w : World} {C g n : Nat} {o : Option Nat} {R : List (List Nat)} (h : SpR w C g n o R) : HT w g 109 := by
  obtain ⟨h1, gf, a, c, h2, _⟩ := h
  exact ⟨_, h2⟩
theorem SpR.hto {w : World} {C g n : Nat} {o : Option Nat} {R : List (List Nat)} (h : SpR w C g n o R) : ∀ b, o = some b → HT w b 49 ∧ C ≤ b ∧ b < w.heap.size := by
  obtain ⟨h1, gf, a, c, h2, h3, ⟨vs, h4⟩, rfl⟩ := h
  exact fun b hb => ⟨own_ht h4.hd b hb, (h4.hd.lt b hb).1, (h4.hd.lt b hb).2⟩
theorem SpR.new {w w' : World} {C g n : Nat} {o : Option Nat} {R : List (List Nat)} (h : SpR w C g n o R) (hb : Below w.heap.size w w') : SpR w' C g n o R := by
  obtain ⟨h1, gf, a, c, h2, h3, h4, h5⟩ := h
  exact ⟨h1, gf, a, c, h2.below hb h2.lt, h3.below hb (Blk.lt h3), h4.new hb, h5⟩
theorem SpR.drewN {w : World} {C g n : Nat} {o : Option Nat} {R : List (List Nat)} (h : SpR w C g n o R) (j : Nat) : SpR (w.drewN j) C g n o R := h.new (below_drewN (Below.refl _ _) j)
theorem SpR.below {w w' : World} {C g n : Nat} {o : Option Nat} {R : List (List Nat)} (h : SpR w C g n o R) (hu : Upd w w' g o) (hC : C ≤ w.heap.size) : Below C w w' := hu.below h.1 (fun b hb => (h.hto b hb).2.1) hC
/-- Blocks of other types are not the span's. -/
theorem SpR.off {w : World} {C g n : Nat} {o : Option Nat} {R : List (List Nat)} (h : SpR w C g n o R) {b : Nat} {t : TypeId} (hb : HT w b t) (h1 : t ≠ 109) (h2 : t ≠ 49) : b ≠ g ∧ some b ≠ o :=
  ⟨hb.ne h.ht h1, fun e => hb.ne (h.hto b e.symm).1 h2 rfl⟩
theorem SpR.row {w w' : World} {C g n : Nat} {o : Option Nat} {R : List (List Nat)} (h : SpR w C g n o R) (hu : Upd w w' g o) {D : Nat} {u : Value} {l : List Nat} (hl : OwnB w D u l) : OwnB w' D u l :=
  own_upd hl hu fun b hb => h.off (own_ht hl b hb) (by decide) (by decide)
theorem SpR.fld {w w' : World} {C g n : Nat} {o : Option Nat} {R : List (List Nat)} (h : SpR w C g n o R) (hu : Upd w w' g o) {gf : Nat} (hl : Fld w gf) : Fld w' gf := by
  have h1 := h.off (b := gf) (t := 100) ⟨_, hl⟩ (by decide) (by decide)
  exact (hu.block gf (Blk.lt hl) h1.1 h1.2).trans hl
theorem SpR.mat {w w' : World} {C g n : Nat} {o : Option Nat} {R : List (List Nat)} (h : SpR w C g n o R) (hu : Upd w w' g o) {D : Nat} {v : Value} {M : List (List Nat)} (hM : MOwn w D v M) (ho : v.ownBlock = none ∨ v.ownBlock ≠ o) : MOwn w' D v M := by
  obtain ⟨vs, hM⟩ := hM
  refine ⟨vs, own_upd hM.hd hu fun b hb => ⟨(own_ht hM.hd b hb).ne h.ht (by decide), fun e => ?_⟩, fun i l hl => ?_, hM.apart⟩
  · rcases ho with h1 | h1
    · rw [hb] at h1; cases h1
    · exact h1 (hb.trans e)
  · obtain ⟨u, h1, h2⟩ := hM.row i l hl
    exact ⟨u, h1, h.row hu h2⟩
/-- Another span stays. -/
theorem SpR.two {w w' : World} {C g n : Nat} {o : Option Nat} {R : List (List Nat)} (h : SpR w C g n o R) (hu : Upd w w' g o) {C2 g2 n2 : Nat} {o2 : Option Nat} {R2 : List (List Nat)} (h2 : SpR w C2 g2 n2 o2 R2) (hg : g2 ≠ g) (ho : o2 = none ∨ o2 ≠ o) : SpR w' C2 g2 n2 o2 R2 := by
  obtain ⟨k1, gf, a, c, k2, k3, k4, rfl⟩ := h2
  refine ⟨k1, gf, a, c, (hu.block g2 k2.lt hg fun e => ?_).trans k2, h.fld hu k3, h.mat hu k4 ho, rfl⟩
  exact (show HT w g2 109 from ⟨_, k2⟩).ne (h.hto g2 e.symm).1 (by decide) rfl

/-- What headers lead to: rows below block C. -/
def HdB (w : World) (C : Nat) (M : List (List Nat)) (vs : List Value) : Prop :=
  vs.length = M.length ∧ ∀ (i : Nat) l, M[i]? = some l → ∃ a' c', vs[i]? = some (.slice a' l.length c') ∧ Rd w C a' l.length (cellsB l) ∧ (a' = none → c' = 0) ∧ l.length ≤ c' ∧ c' ≤ maxLen
theorem HdB.below {w w' : World} {C D : Nat} {M : List (List Nat)} {vs : List Value} (h : HdB w C M vs) (hb : Below D w w') (hD : C ≤ D) : HdB w' C M vs :=
  ⟨h.1, fun i l hl => by obtain ⟨a', c', h1, h2, h3⟩ := h.2 i l hl; exact ⟨a', c', h1, h2.below hb hD, h3⟩⟩
theorem HdB.append {w : World} {C : Nat} {M N : List (List Nat)} {vs us : List Value} (h : HdB w C M vs) (k : HdB w C N us) : HdB w C (M ++ N) (vs ++ us) := by
  refine ⟨by rw [List.length_append, List.length_append, h.1, k.1], fun i l hl => ?_⟩
  rw [List.getElem?_append] at hl
  split at hl
  · rename_i h1
    obtain ⟨a', c', h2, h3⟩ := h.2 i l hl
    exact ⟨a', c', by rw [List.getElem?_append_left (by rw [h.1]; exact h1)]; exact h2, h3⟩
  · rename_i h1
    obtain ⟨a', c', h2, h3⟩ := k.2 _ l hl
    exact ⟨a', c', by rw [List.getElem?_append_right (by rw [h.1]; omega), h.1]; exact h2, h3⟩
theorem HdB.drop {w : World} {C : Nat} {M : List (List Nat)} {vs : List Value} (h : HdB w C M vs) (k : Nat) : HdB w C (M.drop k) (vs.drop k) := by
  refine ⟨by rw [List.length_drop, List.length_drop, h.1], fun i l hl => ?_⟩
  rw [List.getElem?_drop] at hl
  obtain ⟨a', c', h2, h3⟩ := h.2 _ l hl
  exact ⟨a', c', by rw [List.getElem?_drop]; exact h2, h3⟩
theorem HdB.one {w : World} {C : Nat} {a : Option Addr} {c n : Nat} {l : List Nat} (hn : l.length = n) (h : Rd w C a n (cellsB l)) (h0 : a = none → c = 0) (hc : n ≤ c) (hm : c ≤ maxLen) : HdB w C [l] [.slice a n c] :=
  ⟨rfl, fun i l' hl => by
    subst hn
    cases i with
    | zero => obtain rfl : l = l' := by simpa using hl
              exact ⟨a, c, rfl, h, h0, hc, hm⟩
    | succ i => simp at hl⟩
theorem HdB.hdr {w : World} {C : Nat} {M : List (List Nat)} {vs : List Value} (h : HdB w C M vs) (hC : C ≤ w.heap.size) {r : Option Nat} (hr : ∀ g, r = some g → C ≤ g) : HdR w r M vs :=
  ⟨h.1, fun i l hl => by obtain ⟨a', c', h1, h2, h3⟩ := h.2 i l hl; exact ⟨a', c', h1, rdX_of h2 hC hr, h3⟩⟩
/-- Headers of the call's own; the rows lie below C. -/
def EvB (w : World) (C : Nat) (v : Value) (M : List (List Nat)) : Prop := ∃ vs, w.ownsRow C 49 1 v M.length vs ∧ HdB w C M vs
theorem EvB.ev {w : World} {C : Nat} {v : Value} {M : List (List Nat)} (h : EvB w C v M) (hC : C ≤ w.heap.size) : Ev w C v M := by
  obtain ⟨vs, h1, h2⟩ := h
  exact ⟨vs, h1, h2.hdr hC fun g hg => (h1.lt g hg).1⟩
theorem EvB.new {w w' : World} {C : Nat} {v : Value} {M : List (List Nat)} (h : EvB w C v M) (hC : C ≤ w.heap.size) (hb : Below w.heap.size w w') : EvB w' C v M := by
  obtain ⟨vs, h1, h2⟩ := h
  exact ⟨vs, own_new h1 hb, h2.below hb hC⟩
theorem EvB.nil (w : World) (C : Nat) : EvB w C (.slice none 0 0) [] := ⟨[], World.ownsRow_nil _ _ _ _, rfl, by simp⟩
theorem SpR.ev {w w' : World} {C g n : Nat} {o : Option Nat} {R : List (List Nat)} (h : SpR w C g n o R) (hu : Upd w w' g o) {D : Nat} {v : Value} {M : List (List Nat)} (hM : EvB w D v M) (hD : D ≤ C) (hC : C ≤ w.heap.size) (ho : v.ownBlock = none ∨ v.ownBlock ≠ o) : EvB w' D v M := by
  obtain ⟨vs, h1, h2⟩ := hM
  refine ⟨vs, own_upd h1 hu fun b hb => ⟨(own_ht h1 b hb).ne h.ht (by decide), fun e => ?_⟩, h2.below (h.below hu hC) hD⟩
  rcases ho with h1 | h1
  · rw [hb] at h1; cases h1
  · exact h1 (hb.trans e)
theorem EvB.val {w : World} {C : Nat} {v : Value} {M : List (List Nat)} (h : EvB w C v M) : ∃ a c, v = .slice a M.length c := by
  obtain ⟨vs, h1, _⟩ := h
  obtain ⟨a, c, rfl, _⟩ := rd_of_own' h1
  exact ⟨a, c, rfl⟩
theorem EvB.len {w : World} {C : Nat} {a : Option Addr} {n c : Nat} {M : List (List Nat)} (h : EvB w C (.slice a n c) M) : M.length = n := by
  obtain ⟨a1, c1, e⟩ := h.val
  injection e with _ e2; exact e2.symm
theorem EvB.rdv {w : World} {C : Nat} {a : Option Addr} {n c : Nat} {M : List (List Nat)} (h : EvB w C (.slice a n c) M) : ∃ vs, Rd w w.heap.size a n vs ∧ HdB w C M vs ∧ (a = none → c = 0) ∧ n ≤ c ∧ c ≤ maxLen := by
  have hl := h.len
  obtain ⟨vs, h1, h2⟩ := h
  rw [hl] at h1
  obtain ⟨a1, c1, e, hr, hn⟩ := rd_of_own' h1
  injection e with e1 e2 e3
  subst e1 e3
  exact ⟨vs, hr, h2, own_caps h1⟩
theorem EvB.at {w : World} {C : Nat} {a : Option Addr} {n c : Nat} {M : List (List Nat)} (h : EvB w C (.slice a n c) M) {i : Nat} (hi : i < n) :
    ∃ g a' c', a = some ⟨g, 0, none⟩ ∧ C ≤ g ∧ g < w.heap.size ∧ w.cell? ⟨g, i, none⟩ = some (.slice a' (M.getD i []).length c') ∧ Rd w C a' (M.getD i []).length (cellsB (M.getD i [])) ∧ (a' = none → c' = 0) ∧ (M.getD i []).length ≤ c' ∧ c' ≤ maxLen := by
  have hn := h.len
  obtain ⟨vs, h1, h2⟩ := h
  rw [hn] at h1
  obtain ⟨g, cap, e, hg, hlt⟩ := h1.form (by omega)
  injection e with e
  obtain ⟨a', c', h3, h4, h5⟩ := h2.2 i _ (getD_some (by omega))
  subst e
  exact ⟨g, a', c', rfl, hg, hlt, (h1.cellAt i (by omega)).trans h3, h4, h5⟩

/-- 'append(v, rows..)' of headers, in a plain region. -/
theorem wp_appHB {w : World} {ops : Array Oper} {rest : List Oper} {o : Oper} {a : Act} {Q : Exit → Act → World → Prop} (hgd : o.guard = none) (s x : Operand) {C : Nat} {v : Value} {M N : List (List Nat)}
    (ho : o.op = .call { callee := .builtin .append, args := #[s, x], argTypes := #[46, 46] })
    (h : EvB w C v M) (hC : C ≤ w.heap.size) (hl : M.length + N.length ≤ 1000000)
    {B : Nat} {ad : Option Addr} {m c : Nat} {us : List Value} (hs : a.eval s = v) (hx : a.eval x = .slice ad m c) (hnil : ad = none → c = 0) (hr : Rd w B ad m us) (k : HdB w C N us)
    (K : ∀ v' w2, EvB w2 C v' (M ++ N) → Below C w w2 → w.grownBy w2 v.ownBlock → (v'.ownBlock = v.ownBlock ∨ v'.ownBlock = some w.heap.size) → wpList Try.prog ops Q rest (a.put o.dst v') w2) :
    wpList Try.prog ops Q (o :: rest) a w := by
  obtain ⟨vs, h1, h2⟩ := h
  have hm : m = N.length := by rw [← hr.1]; exact k.1
  refine wp_appAt (P := Try.prog) _ hgd s x 46 ho C 49 (.slice none 0 0) 24 Try.underlying46 info_rows rfl v M.length vs hs h1 B ad m c us hx hnil hr (k.hdr (r := none) hC (by simp)).ones (by omega) (by unfold maxLen; omega) hC fun v' w2 hown hg hat => ?_
  have hb : Below C w w2 := (Below.refl _ _).grown hg hC fun g hg => (h1.lt g hg).1
  exact K v' w2 ⟨_, by rw [List.length_append]; rw [← hm]; exact hown, (h2.append k).below hb (Nat.le_refl _)⟩ hb hg hat
/-- The same, in a region that draws. -/
theorem step_appHB {w : World} {ops : Array Oper} {o : Oper} {a : Act} {K : Act → World → Prop} {Q : Exit → Act → World → Prop} {E : Prop} (hgd : o.guard = none) (s x : Operand) {C : Nat} {v : Value} {M N : List (List Nat)}
    (ho : o.op = .call { callee := .builtin .append, args := #[s, x], argTypes := #[46, 46] })
    (h : EvB w C v M) (hC : C ≤ w.heap.size) (hl : M.length + N.length ≤ 1000000)
    {B : Nat} {ad : Option Addr} {m c : Nat} {us : List Value} (hs : a.eval s = v) (hx : a.eval x = .slice ad m c) (hnil : ad = none → c = 0) (hr : Rd w B ad m us) (k : HdB w C N us)
    (hK : ∀ v' w2, EvB w2 C v' (M ++ N) → Below C w w2 → w.grownBy w2 v.ownBlock → (v'.ownBlock = v.ownBlock ∨ v'.ownBlock = some w.heap.size) → K (a.put o.dst v') w2) :
    if Region.wanted o (yielded ops a.tmps) = true then Oper.wp Try.prog o a w K Q else E := by
  obtain ⟨vs, h1, h2⟩ := h
  have hm : m = N.length := by rw [← hr.1]; exact k.1
  refine step_appAt (P := Try.prog) hgd s x 46 ho C 49 (.slice none 0 0) 24 Try.underlying46 info_rows rfl v M.length vs hs h1 B ad m c us hx hnil hr (k.hdr (r := none) hC (by simp)).ones (by omega) (by unfold maxLen; omega) hC fun v' w2 hown hg hat => ?_
  have hb : Below C w w2 := (Below.refl _ _).grown hg hC fun g hg => (h1.lt g hg).1
  exact hK v' w2 ⟨_, by rw [List.length_append]; rw [← hm]; exact hown, (h2.append k).below hb (Nat.le_refl _)⟩ hb hg hat
end Go.Proofs.Ytfbhbjhfebkpfaa
