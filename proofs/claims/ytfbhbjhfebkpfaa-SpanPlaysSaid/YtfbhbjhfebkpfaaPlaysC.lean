/- One round of SpanPlays, as contracts: what is known of all the rows so far and of the span. -/
import Derived.Test.YtfbhbjhfebkpfaaPlaysB
import Derived.Test.YtfbhbjhfebkpfaaRefM
import Derived.Test.YtfbhbjhfebkpfaaSpare
namespace Go.Proofs.Ytfbhbjhfebkpfaa
open Go.RowKit
set_option linter.unusedVariables false

/-- All rows so far (M), the span (of N), the row that is asked for (rr). -/
structure PlR (w wr : World) (G gs n : Nat) (v vr : Value) (M N : List (List Nat)) (rr : List Nat) : Prop where
  ev : EvQ wr G v M
  sp : ∃ o, SpR wr G gs n o (rref N) ∧ ∀ b, o = some b → v.ownBlock ≠ some b
  ow : OwnB wr G vr rr
  wf : Wf n M
  wf2 : Wf n N
  be : Below G w wr
  sz : G ≤ wr.heap.size
theorem PlR.new {w wr w' : World} {G gs n : Nat} {v vr : Value} {M N : List (List Nat)} {rr : List Nat} (h : PlR w wr G gs n v vr M N rr) (hb : Below wr.heap.size wr w') : PlR w w' G gs n v vr M N rr := by
  obtain ⟨o, h1, h2⟩ := h.sp
  exact ⟨h.ev.new h.sz hb, ⟨o, h1.new hb, h2⟩, h.ow.below hb, h.wf, h.wf2, h.be.trans (hb.mono h.sz), Nat.le_trans h.sz hb.size⟩
theorem PlR.drewN {w wr : World} {G gs n : Nat} {v vr : Value} {M N : List (List Nat)} {rr : List Nat} (h : PlR w wr G gs n v vr M N rr) (j : Nat) : PlR w (wr.drewN j) G gs n v vr M N rr := h.new (below_drewN (Below.refl _ _) j)
theorem PlR.val {w wr : World} {G gs n : Nat} {v vr : Value} {M N : List (List Nat)} {rr : List Nat} (h : PlR w wr G gs n v vr M N rr) : ∃ a c, v = .slice a M.length c := h.ev.val
theorem PlR.appd {w wr w2 : World} {G gs n : Nat} {v vr v' : Value} {M N M' : List (List Nat)} {rr : List Nat} {o : Obj} (h : PlR w wr G gs n v vr M N rr) (he : EvQ w2 G v' M') (hw : Wf n M') (hg : (wr.alloc o).grownBy w2 v.ownBlock)
    (hat : v'.ownBlock = v.ownBlock ∨ v'.ownBlock = some (wr.heap.size + 1)) : PlR w w2 G gs n v' vr M' N rr := by
  have hba := (Below.refl wr.heap.size wr).alloc (Nat.le_refl _) o
  have h1 := h.new hba
  have hof := h1.ev.ofh
  obtain ⟨s, h2, h3⟩ := h1.sp
  have h4 : ∀ b, s = some b → b < wr.heap.size := by
    obtain ⟨s0, k2, k3⟩ := h.sp
    intro b hb
    have hb1 := (h2.hto b hb).2.2
    have : s = s0 := by
      obtain ⟨_, gf, a, c, e1, e2, e3, e4⟩ := k2
      obtain ⟨_, gf', a', c', e1', e2', e3', e4'⟩ := h2
      have hB := e1.below hba e1.lt
      unfold Blk at hB e1'
      rw [hB] at e1'
      have e5 := Option.some.inj e1'
      injection e5 with e5
      have e6 := congrArg (fun x : Array Value => x[2]?) e5
      simp at e6
      rw [← e4, ← e4', e6.1, e6.2]
    rw [this] at hb
    exact (k2.hto b hb).2.2
  refine ⟨he, ⟨s, SpR.gr hof hg h2 ?_, fun b hb e => ?_⟩, OwnB.gr hof hg h1.ow, hw, h.wf2, h1.be.trans (hof.below hg h1.sz), Nat.le_trans h1.sz hg.size⟩
  · cases hs : s with
    | none => exact .inl rfl
    | some b => exact .inr fun e => h3 b hs e.symm
  · rcases hat with h5 | h5
    · exact h3 b hb (h5.symm.trans e)
    · rw [h5] at e
      injection e with e
      have := h4 b hb
      omega

/-- What becomes of a row: kept and (new or not), or of another length. -/
def AddQ (n : Nat) (M M' : List (List Nat)) (xl : List Nat) (nw : Bool) : Prop := (xl.length = n ∧ M' = M ++ [xl] ∧ nw = newB M xl) ∨ (xl.length ≠ n ∧ M' = M ∧ nw = false)
theorem new_gt {n : Nat} {A : List (List Nat)} {v : List Nat} (hA : Wf n A) (hv : v.length = n) (hb : By v) : decide ((rref A).length < (rref (A ++ [v])).length) = newB A v := by
  have h := (rank_new hA hv hb).1
  unfold newB
  rw [decide_eq_decide]
  omega

theorem plays_rank {w wr : World} {G gs n m c : Nat} {a : Option Addr} {vr : Value} {M N : List (List Nat)} {rr : List Nat} (h : PlR w wr G gs n (.slice a m c) vr M N rr) (hml : M.length = m) (hn : n ≤ 64) (hm : M.length ≤ 1000000) :
    Calls Try.prog 77 #[.slice a m c] wr fun e w' => e = .returned (.int .i64 ((rref M).length : Nat)) ∧ Below wr.heap.size wr w' := by
  subst hml
  exact ref_rank n M.length c M a wr (h.ev.ev h.sz).rdM.1 h.wf hn hm

/-- s.Add of a copy. -/
theorem plays_add {w wr : World} {G gs n gi m : Nat} {v vr : Value} {M M' : List (List Nat)} {rr xl : List Nat} {nw : Bool} {ax : Option Addr} {cx : Nat} {k : Int} (h : PlR w wr G gs n v vr M' M rr) (hx : RwQ wr G ax cx xl) (hxb : By xl) (hml : xl.length = m)
    (hB : Blk wr gi 5 (spareL .u8 (xl.map fun x : Nat => (x : Int)) k 2).toArray) (hq : AddQ n M M' xl nw) (hn : n ≤ 64) :
    Calls Try.prog 73 #[.pointer (some ⟨gs, 0, none⟩), .slice (some ⟨gi, 0, none⟩) m (m + 2)] wr fun e w' => e = .returned (.bool nw) ∧ PlR w w' G gs n v vr M' M' rr ∧ RwQ w' G ax cx xl ∧ Blk w' gi 5 (spareL .u8 (xl.map fun x : Nat => (x : Int)) k 2).toArray := by
  subst hml
  obtain ⟨o, hS, ho⟩ := h.sp
  rcases hq with ⟨h1, rfl, rfl⟩ | ⟨h1, rfl, rfl⟩
  · have hr := rd_spare hB
    rw [List.length_map, ← cellsB_ints, h1] at hr
    rw [h1]
    refine (span_add G gs n o M xl (some ⟨gi, 0, none⟩) (n + 2) wr hS h.wf2 hr (fun e => by cases e) hxb hn h.sz).mono fun e w' ⟨e1, o', hS', hU, ho'⟩ => ⟨e1, ⟨?_, ⟨o', hS', fun b hb e => ?_⟩, hS.row hU h.ow, h.wf, h.wf, h.be.trans (hS.below hU h.sz), Nat.le_trans h.sz hU.size⟩, RwQ.upd hS hU (Nat.le_refl _) h.sz hx, ?_⟩
    · refine h.ev.upd hS hU (Nat.le_refl _) h.sz ?_
      cases hv : v.ownBlock with
      | none => exact .inl rfl
      | some b => exact .inr fun e => ho b e.symm hv
    · rcases ho' with e2 | ⟨b', e2, e3⟩
      · exact ho b (by rw [← e2]; exact hb) e
      · rw [e2] at hb
        injection hb with hb
        have := (h.ev.hlt b e).2
        omega
    · have h2 := hS.off (b := gi) (t := 5) ⟨_, hB⟩ (by decide) (by decide)
      exact (hU.block gi hB.lt h2.1 h2.2).trans hB
  · exact (span_add_un G gs n xl.length o (rref M') (some ⟨gi, 0, none⟩) (xl.length + 2) wr hS h1).mono fun e w' ⟨e1, e2⟩ => by
      subst e2
      exact ⟨e1, h, hx, hB⟩
theorem plays_srank {w wr : World} {G gs n : Nat} {v vr : Value} {M N : List (List Nat)} {rr : List Nat} (h : PlR w wr G gs n v vr M N rr) :
    Calls Try.prog 74 #[.pointer (some ⟨gs, 0, none⟩)] wr fun e w' => e = .returned (.int .i64 ((rref N).length : Nat)) ∧ wr = w' := by
  obtain ⟨o, hS, _⟩ := h.sp
  exact span_rank G gs n o (rref N) wr hS
/-- Is the row spanned? -/
def hasB (N : List (List Nat)) (rr : List Nat) : Bool := decide (leadI (restR (rref N) rr) < 0)
theorem plays_has {w wr : World} {G gs n m c : Nat} {a : Option Addr} {v : Value} {M N : List (List Nat)} {rr : List Nat} (h : PlR w wr G gs n v (.slice a m c) M N rr) (hml : rr.length = n) (hm : m = n) (hb : By rr) (hn : n ≤ 64) :
    Calls Try.prog 78 #[.pointer (some ⟨gs, 0, none⟩), .slice a m c] wr fun e w' => e = .returned (.bool (hasB N rr)) ∧ Below wr.heap.size wr w' := by
  subst hm
  obtain ⟨o, hS, _⟩ := h.sp
  obtain ⟨ls, hR, _⟩ := rref_spec h.wf2
  obtain ⟨a1, c1, e, hr, hnil⟩ := h.ow.rd2 hml
  injection e with e1 e2 e3
  subst e1 e3
  exact span_has G gs m o (rref N) ls rr a c wr hS hR hr hnil hb hn
theorem has_eq {n : Nat} {N : List (List Nat)} {rr : List Nat} (hN : Wf n N) (hr : rr.length = n) (hb : By rr) : (((rref (N ++ [rr])).length : Int) == ((rref N).length : Int)) = hasB N rr := by
  have h := (rank_new hN hr hb).2
  unfold hasB
  rw [Bool.eq_iff_iff, decide_eq_true_iff, leadI_neg, ← h, beq_iff_eq]
  omega

theorem Ev.ofh {w : World} {G : Nat} {v : Value} {M : List (List Nat)} (h : Ev w G v M) : OfH w G v.ownBlock := by
  obtain ⟨vs, h1, _⟩ := h
  exact fun g e => ⟨(h1.lt g e).1, own_ht h1 g e⟩
/-- 'append([][]byte(nil), all...)'. -/
theorem wp_appAll {wr : World} {ops : Array Oper} {rest : List Oper} {o : Oper} {a : Act} {Q : Exit → Act → World → Prop} (hgd : o.guard = none) (s x : Operand) {G m c : Nat} {aM : Option Addr} {M : List (List Nat)}
    (ho : o.op = .call { callee := .builtin .append, args := #[s, x], argTypes := #[46, 46] })
    (h : EvQ wr G (.slice aM m c) M) (hG : G ≤ wr.heap.size) (hl : M.length ≤ 1000000) (hs : a.eval s = .slice none 0 0) (hx : a.eval x = .slice aM m c)
    (K : ∀ v' w2, Ev w2 wr.heap.size v' M → Below wr.heap.size wr w2 → wpList Try.prog ops Q rest (a.put o.dst v') w2) :
    wpList Try.prog ops Q (o :: rest) a wr := by
  obtain ⟨a1, c1, vs, e, hr, hd, hnil⟩ := h.hd
  injection e with e1 e2 e3
  subst e1 e2 e3
  refine wp_appHd (w := wr) (C := wr.heap.size) (v := .slice none 0 0) (M := []) (N := M) hgd s x ho (Ev.nil _ _) (Nat.le_refl _) (by simpa using hl) hs hx hnil hr (hd.hdr hG (r := none) (by simp)) fun v' w2 h1 h2 _ _ => K v' w2 (by simpa using h1) h2
/-- '.., r)'. -/
theorem wp_appLast {wr w2 : World} {ops : Array Oper} {rest : List Oper} {o : Oper} {a : Act} {Q : Exit → Act → World → Prop} (hgd : o.guard = none) (s x : Operand) {G n c : Nat} {ar : Option Addr} {v2 : Value} {M : List (List Nat)} {rr : List Nat}
    (ho : o.op = .call { callee := .builtin .append, args := #[s, x], argTypes := #[46, 46] })
    (h : Ev w2 wr.heap.size v2 M) (hb : Below wr.heap.size wr w2) (hr : OwnB w2 G (.slice ar n c) rr) (hrl : rr.length = n) (hG : G ≤ wr.heap.size) (hl : M.length ≤ 1000) (hs : a.eval s = v2) (hx : a.eval x = .slice (some ⟨w2.heap.size, 0, none⟩) 1 1)
    (K : ∀ v' w3, Ev w3 wr.heap.size v' (M ++ [rr]) → Below wr.heap.size wr w3 → wpList Try.prog ops Q rest (a.put o.dst v') w3) :
    wpList Try.prog ops Q (o :: rest) a (w2.alloc (.cells #[.slice ar n c] 49)) := by
  subst hrl
  have hba := (Below.refl w2.heap.size w2).alloc (Nat.le_refl _) (.cells #[.slice ar rr.length c] 49)
  have h1 := h.new hba
  have hr1 : RwQ (w2.alloc (.cells #[.slice ar rr.length c] 49)) G ar c rr := .inr (own_new hr hba)
  have hb1 : Below wr.heap.size wr (w2.alloc (.cells #[.slice ar rr.length c] 49)) := hb.trans (hba.mono hb.size)
  have hrd : Rd (w2.alloc (.cells #[.slice ar rr.length c] 49)) (w2.heap.size + 1) (some ⟨w2.heap.size, 0, none⟩) 1 [.slice ar rr.length c] :=
    ⟨rfl, fun _ => ⟨w2.heap.size, 0, rfl, Nat.lt_succ_self _, fun i u hu => by
      rw [Nat.zero_add, cell_lit]
      simpa using hu⟩⟩
  generalize w2.alloc (.cells #[.slice ar rr.length c] 49) = w3 at *
  have hof := h1.ofh
  have hrx := hr1.rdx (Nat.le_trans hG hb1.size) (r := v2.ownBlock) fun g e => ⟨Nat.le_trans hG (hof g e).1, .inl (hof g e).2⟩
  have hc := hr1.caps
  exact wp_appHd (w := w3) (C := wr.heap.size) (v := v2) (M := M) (N := [rr]) hgd s x ho h1 hb1.size (by simp; omega) hs hx (fun e => by cases e) hrd (HdR.one hrx hc.1 hc.2.1 hc.2.2) fun v' w4 h2 h3 _ _ => K v' w4 h2 (hb1.trans h3)
theorem ev_rank {w : World} {C n m c : Nat} {a : Option Addr} {M : List (List Nat)} (h : Ev w C (.slice a m c) M) (hml : M.length = m) (hW : Wf n M) (hn : n ≤ 64) (hm : m ≤ 1000000) :
    Calls Try.prog 77 #[.slice a m c] w fun e w' => e = .returned (.int .i64 ((rref M).length : Nat)) ∧ Below w.heap.size w w' := by
  subst hml
  exact ref_rank n M.length c M a w h.rdM.1 hW hn hm

/-- 'append(x, y...)' of bytes, x nil or the call's own. -/
theorem wp_appB {w : World} {ops : Array Oper} {rest : List Oper} {o : Oper} {a : Act} {Q : Exit → Act → World → Prop} (hgd : o.guard = none) (s x : Operand) {C B m c : Nat} {v : Value} {ad : Option Addr} {xs ys : List Nat}
    (ho : o.op = .call { callee := .builtin .append, args := #[s, x], argTypes := #[49, 49] })
    (h : OwnB w C v xs) (hC : C ≤ w.heap.size) (hl : xs.length + m ≤ 1000000) (hs : a.eval s = v) (hx : a.eval x = .slice ad m c) (hnil : ad = none → c = 0) (hr : Rd w B ad m (cellsB ys))
    (K : ∀ v' w2, OwnB w2 C v' (xs ++ ys) → Below C w w2 → w.grownBy w2 v.ownBlock → (v'.ownBlock = v.ownBlock ∨ v'.ownBlock = some w.heap.size) → wpList Try.prog ops Q rest (a.put o.dst v') w2) :
    wpList Try.prog ops Q (o :: rest) a w := by
  have hm : m = ys.length := by rw [← hr.1, cellsB_len]
  refine wp_appAt (P := Try.prog) w hgd s x 49 ho C 5 (.int .u8 0) 1 Try.underlying49 infoS_u8 rfl v xs.length (cellsB xs) hs h B ad m c (cellsB ys) hx hnil hr (cellsB_one ys) (by omega) (by unfold maxLen; omega) hC fun v' w2 hown hg hat => ?_
  refine K v' w2 ?_ ((Below.refl _ _).grown hg hC fun g hg => (h.lt g hg).1) hg hat
  unfold OwnB
  rw [List.length_append, ← hm]
  have e : cellsB (xs ++ ys) = cellsB xs ++ cellsB ys := by unfold cellsB; rw [List.map_append]
  rw [e]
  exact hown
/-- 'append(x, b)' of one byte. -/
theorem wp_appB1 {w : World} {ops : Array Oper} {rest : List Oper} {o : Oper} {a : Act} {Q : Exit → Act → World → Prop} (hgd : o.guard = none) (s x : Operand) {C y : Nat} {i : Int} {v : Value} {xs : List Nat} (hi : i = (y : Int))
    (ho : o.op = .call { callee := .builtin .append, args := #[s, x], argTypes := #[49, 49] })
    (h : OwnB w C v xs) (hC : C ≤ w.heap.size) (hl : xs.length ≤ 1000000) (hs : a.eval s = v) (hx : a.eval x = .slice (some ⟨w.heap.size, 0, none⟩) 1 1)
    (K : ∀ v' w2, OwnB w2 C v' (xs ++ [y]) → Below C w w2 → wpList Try.prog ops Q rest (a.put o.dst v') w2) :
    wpList Try.prog ops Q (o :: rest) a (w.alloc (.cells #[.int .u8 i] 5)) := by
  subst hi
  have hba := (Below.refl w.heap.size w).alloc (Nat.le_refl _) (.cells #[.int .u8 (y : Int)] 5)
  have h1 := h.below hba
  have hC1 := Nat.le_trans hC hba.size
  have hcell := cell_lit w #[.int .u8 (y : Int)] 5 0
  have hbC := hba.mono hC
  generalize w.alloc (.cells #[.int .u8 (y : Int)] 5) = w1 at *
  refine wp_app1At (P := Try.prog) w1 hgd s x 49 ho C 5 (.int .u8 0) 1 Try.underlying49 infoS_u8 rfl v xs.length (cellsB xs) hs h1 w.heap.size (.int .u8 (y : Int)) hx hcell rfl (by omega) (by unfold maxLen; omega) hC1 fun v' w2 hown hg hat => ?_
  refine K v' w2 ?_ (hbC.trans ((Below.refl _ _).grown hg hC1 fun g hg => (h1.lt g hg).1))
  unfold OwnB
  rw [List.length_append]
  have e : cellsB (xs ++ [y]) = cellsB xs ++ [.int .u8 (y : Int)] := by unfold cellsB; rw [List.map_append]; rfl
  rw [e]
  exact hown
end Go.Proofs.Ytfbhbjhfebkpfaa
