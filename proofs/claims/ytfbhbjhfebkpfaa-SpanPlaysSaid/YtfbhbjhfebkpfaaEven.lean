/- Headers of rows, appended; law03's Even; two matrices held against each other; wakes of law03. -/
import Derived.Test.YtfbhbjhfebkpfaaMatD
import Derived.Test.YtfbhbjhfebkpfaaLaw02a
import Derived.Deep.RegionLaw
import Derived.Deep.AppendLies
namespace Go.Proofs.Ytfbhbjhfebkpfaa
open Go.RowKit
set_option linter.unusedVariables false

/-- A slice that reads as xs, and does not lie in block r. -/
def RdX (w : World) (r : Option Nat) (a : Option Addr) (n : Nat) (xs : List Value) : Prop :=
  xs.length = n ∧ (0 < n → ∃ b o, a = some ⟨b, o, none⟩ ∧ b < w.heap.size ∧ some b ≠ r ∧ ∀ i u, xs[i]? = some u → w.cell? ⟨b, o + i, none⟩ = some u)
theorem RdX.rd {w : World} {r : Option Nat} {a : Option Addr} {n : Nat} {xs : List Value} (h : RdX w r a n xs) : Rd w w.heap.size a n xs :=
  ⟨h.1, fun hn => by obtain ⟨b, o, e, hb, _, hc⟩ := h.2 hn; exact ⟨b, o, e, hb, hc⟩⟩
theorem rdX_of {w : World} {B : Nat} {r : Option Nat} {a : Option Addr} {n : Nat} {xs : List Value} (h : Rd w B a n xs) (hB : B ≤ w.heap.size) (hr : ∀ g, r = some g → B ≤ g) : RdX w r a n xs :=
  ⟨h.1, fun hn => by obtain ⟨b, o, e, hb, hc⟩ := h.2 hn; exact ⟨b, o, e, by omega, fun e2 => by have := hr b e2.symm; omega, hc⟩⟩
theorem RdX.grown {w w' : World} {r : Option Nat} {a : Option Addr} {n : Nat} {xs : List Value} (h : RdX w r a n xs) (hg : w.grownBy w' r) {r' : Option Nat} (hr : r' = r ∨ r' = some w.heap.size) : RdX w' r' a n xs :=
  ⟨h.1, fun hn => by
    obtain ⟨b, o, e, hb, hne, hc⟩ := h.2 hn
    refine ⟨b, o, e, Nat.lt_of_lt_of_le hb hg.size, ?_, fun i u hu => (World.cell?_of_block (w := w) (a := ⟨b, o + i, none⟩) (hg.block b hb hne)).trans (hc i u hu)⟩
    rcases hr with rfl | rfl
    · exact hne
    · intro e2; injection e2 with e2; omega⟩
theorem RdX.new {w w' : World} {r : Option Nat} {a : Option Addr} {n : Nat} {xs : List Value} (h : RdX w r a n xs) (hb : Below w.heap.size w w') : RdX w' r a n xs :=
  ⟨h.1, fun hn => by
    obtain ⟨b, o, e, hb', hne, hc⟩ := h.2 hn
    exact ⟨b, o, e, Nat.lt_of_lt_of_le hb' hb.size, hne, fun i u hu => (hb.cell (p := ⟨b, o + i, none⟩) hb').trans (hc i u hu)⟩⟩
theorem rdX_own {w : World} {C : Nat} {a : Option Addr} {n c : Nat} {l : List Nat} {r : Option Nat} (h : OwnB w C (.slice a n c) l) (hn : l.length = n) (hr : (Value.slice a n c).ownBlock = none ∨ (Value.slice a n c).ownBlock ≠ r) : RdX w r a n (cellsB l) := by
  obtain ⟨a1, c1, e, hrd⟩ := h.rd
  injection e with e1 e2 e3
  subst e1
  rw [hn] at hrd
  refine ⟨hrd.1, fun h0 => ?_⟩
  obtain ⟨b, o, e, hb, hc⟩ := hrd.2 h0
  refine ⟨b, o, e, hb, ?_, hc⟩
  subst e
  simpa [Value.ownBlock] using hr

/-- What headers lead to, outside block r. -/
def HdR (w : World) (r : Option Nat) (M : List (List Nat)) (vs : List Value) : Prop :=
  vs.length = M.length ∧ ∀ (i : Nat) l, M[i]? = some l → ∃ a' c', vs[i]? = some (.slice a' l.length c') ∧ RdX w r a' l.length (cellsB l) ∧ (a' = none → c' = 0) ∧ l.length ≤ c' ∧ c' ≤ maxLen
theorem HdR.grown {w w' : World} {r : Option Nat} {M : List (List Nat)} {vs : List Value} (h : HdR w r M vs) (hg : w.grownBy w' r) {r' : Option Nat} (hr : r' = r ∨ r' = some w.heap.size) : HdR w' r' M vs :=
  ⟨h.1, fun i l hl => by obtain ⟨a', c', h1, h2, h3⟩ := h.2 i l hl; exact ⟨a', c', h1, h2.grown hg hr, h3⟩⟩
theorem HdR.new {w w' : World} {r : Option Nat} {M : List (List Nat)} {vs : List Value} (h : HdR w r M vs) (hb : Below w.heap.size w w') : HdR w' r M vs :=
  ⟨h.1, fun i l hl => by obtain ⟨a', c', h1, h2, h3⟩ := h.2 i l hl; exact ⟨a', c', h1, h2.new hb, h3⟩⟩
theorem HdR.append {w : World} {r : Option Nat} {M N : List (List Nat)} {vs us : List Value} (h : HdR w r M vs) (k : HdR w r N us) : HdR w r (M ++ N) (vs ++ us) := by
  refine ⟨by rw [List.length_append, List.length_append, h.1, k.1], fun i l hl => ?_⟩
  rw [List.getElem?_append] at hl
  split at hl
  · rename_i h1
    obtain ⟨a', c', h2, h3⟩ := h.2 i l hl
    exact ⟨a', c', by rw [List.getElem?_append_left (by rw [h.1]; exact h1)]; exact h2, h3⟩
  · rename_i h1
    obtain ⟨a', c', h2, h3⟩ := k.2 _ l hl
    exact ⟨a', c', by rw [List.getElem?_append_right (by rw [h.1]; omega), h.1]; exact h2, h3⟩
theorem HdR.one {w : World} {r : Option Nat} {a : Option Addr} {c : Nat} {l : List Nat} (h : RdX w r a l.length (cellsB l)) (hn : a = none → c = 0) (hc : l.length ≤ c) (hm : c ≤ maxLen) : HdR w r [l] [.slice a l.length c] :=
  ⟨rfl, fun i l' hl => by
    cases i with
    | zero => obtain rfl : l = l' := by simpa using hl
              exact ⟨a, c, rfl, h, hn, hc, hm⟩
    | succ i => simp at hl⟩
theorem HdR.nil (w : World) (r : Option Nat) : HdR w r [] [] := ⟨rfl, by simp⟩
theorem HdR.ones {w : World} {r : Option Nat} {M : List (List Nat)} {vs : List Value} (h : HdR w r M vs) : ∀ u ∈ vs, u.oneCell' = true := by
  intro u hu
  obtain ⟨i, hi, rfl⟩ := List.getElem_of_mem hu
  obtain ⟨a', c', h1, _⟩ := h.2 i _ (getD_some (M := M) (by rw [← h.1]; exact hi))
  rw [List.getElem?_eq_getElem hi] at h1
  rw [Option.some.inj h1]
  rfl
theorem RdM.hdr {w : World} {B : Nat} {a : Option Addr} {n : Nat} {M : List (List Nat)} (h : RdM w B a n M) (hB : B ≤ w.heap.size) {r : Option Nat} (hr : ∀ g, r = some g → B ≤ g) : ∃ vs, Rd w B a n vs ∧ HdR w r M vs := by
  obtain ⟨h1, vs, h2, h3⟩ := h
  refine ⟨vs, h2, by rw [h2.1, h1], fun i l hl => ?_⟩
  obtain ⟨a', c', h4, h5, h6⟩ := h3 i l hl
  exact ⟨a', c', h4, rdX_of h5 hB hr, h6⟩
theorem rdM_of {w : World} {a : Option Addr} {n : Nat} {M : List (List Nat)} {r : Option Nat} {vs : List Value} (h : Rd w w.heap.size a n vs) (k : HdR w r M vs) : RdM w w.heap.size a n M := by
  refine ⟨by rw [← k.1]; exact h.1, vs, h, fun i l hl => ?_⟩
  obtain ⟨a', c', h4, h5, h6⟩ := k.2 i l hl
  exact ⟨a', c', h4, h5.rd, h6⟩

/-- A slice of headers of the call's own; the rows lie elsewhere. -/
def EvV (w : World) (C : Nat) (v : Value) (M : List (List Nat)) (vs : List Value) : Prop := w.ownsRow C 49 1 v M.length vs ∧ HdR w v.ownBlock M vs
def Ev (w : World) (C : Nat) (v : Value) (M : List (List Nat)) : Prop := ∃ vs, EvV w C v M vs
theorem Ev.nil (w : World) (C : Nat) : Ev w C (.slice none 0 0) [] := ⟨[], World.ownsRow_nil _ _ _ _, HdR.nil _ _⟩
theorem Ev.new {w w' : World} {C : Nat} {v : Value} {M : List (List Nat)} (h : Ev w C v M) (hb : Below w.heap.size w w') : Ev w' C v M := by
  obtain ⟨vs, h1, h2⟩ := h; exact ⟨vs, own_new h1 hb, h2.new hb⟩
theorem Ev.val {w : World} {C : Nat} {v : Value} {M : List (List Nat)} (h : Ev w C v M) : ∃ a c, v = .slice a M.length c := by
  obtain ⟨vs, h1, _⟩ := h
  obtain ⟨a, c, rfl, _⟩ := rd_of_own' h1
  exact ⟨a, c, rfl⟩
theorem Ev.len {w : World} {C : Nat} {a : Option Addr} {n c : Nat} {M : List (List Nat)} (h : Ev w C (.slice a n c) M) : M.length = n := by
  obtain ⟨a1, c1, e⟩ := h.val
  injection e with _ e2; exact e2.symm
theorem own_caps {w : World} {C e : Nat} {a : Option Addr} {n m c : Nat} {xs : List Value} (h : w.ownsRow C e 1 (.slice a n c) m xs) : (a = none → c = 0) ∧ n ≤ c ∧ c ≤ maxLen := by
  rcases h.2 with ⟨h1, h2⟩ | ⟨g, cap, cur, h1, _, _, h4, h5, _⟩
  · injection h1 with e1 e2 e3
    subst e2 e3
    exact ⟨fun _ => rfl, Nat.le_refl _, Nat.zero_le _⟩
  · injection h1 with e1 e2 e3
    subst e2 e3
    exact ⟨fun e => (by rw [e] at e1; cases e1), h4, h5⟩
theorem Ev.rdM {w : World} {C : Nat} {a : Option Addr} {n c : Nat} {M : List (List Nat)} (h : Ev w C (.slice a n c) M) : RdM w w.heap.size a n M ∧ (a = none → c = 0) ∧ n ≤ c ∧ c ≤ maxLen := by
  have hl := h.len
  obtain ⟨vs, h1, h2⟩ := h
  rw [hl] at h1
  obtain ⟨a1, c1, e, hr, hn⟩ := rd_of_own' h1
  injection e with e1 e2 e3
  subst e1 e3
  exact ⟨rdM_of hr h2, own_caps h1⟩
theorem Ev.rdM2 {w : World} {C : Nat} {v : Value} {M : List (List Nat)} {n : Nat} (h : Ev w C v M) (hn : M.length = n) : ∃ a c, v = .slice a n c ∧ (eRdM a n M).ok w ∧ (a = none → c = 0) ∧ n ≤ c ∧ c ≤ maxLen := by
  obtain ⟨a, c, rfl⟩ := h.val
  rw [hn] at h ⊢
  exact ⟨a, c, rfl, h.rdM⟩
theorem EvV.app {w w' : World} {C : Nat} {v v' : Value} {M N : List (List Nat)} {vs us : List Value} (h : EvV w C v M vs) (k : HdR w v.ownBlock N us) (hown : w'.ownsRow C 49 1 v' (M.length + N.length) (vs ++ us)) (hg : w.grownBy w' v.ownBlock)
    (hat : v'.ownBlock = v.ownBlock ∨ v'.ownBlock = some w.heap.size) : EvV w' C v' (M ++ N) (vs ++ us) :=
  ⟨by rw [List.length_append]; exact hown, (h.2.append k).grown hg hat⟩

/-- append at a step of a region that draws; u nil or not. -/
theorem step_appAt {P : Program} {w : World} {ops : Array Oper} {o : Oper} {a : Act} {K : Act → World → Prop} {Q : Exit → Act → World → Prop} {E : Prop} (hgd : o.guard = none) (s x : Operand) (t : TypeId)
    (ho : o.op = .call { callee := .builtin .append, args := #[s, x], argTypes := #[t, t] })
    (base : Nat) (e : TypeId) (z : Value) (bytes : Nat) (ht : P.underlying t = some (.slice e)) (hi : (P.info? e).map (fun i => (i.zero, i.size, i.bytes)) = some (some z, 1, bytes)) (hzs : z.cells.size = 1)
    (v : Value) (n : Nat) (xs : List Value) (hs : a.eval s = v) (hown : w.ownsRow base e 1 v n xs)
    (B : Nat) (ad : Option Addr) (m c : Nat) (news : List Value) (hx : a.eval x = .slice ad m c) (hnil : ad = none → c = 0) (hr : Rd w B ad m news) (h1 : ∀ u ∈ news, u.oneCell' = true)
    (hbytes : (n + m) * bytes ≤ 140737488355328) (h63 : n + m ≤ maxLen) (hbase : base ≤ w.heap.size)
    (h : ∀ v' w', w'.ownsRow base e 1 v' (n + m) (xs ++ news) → w.grownBy w' v.ownBlock → (v'.ownBlock = v.ownBlock ∨ v'.ownBlock = some w.heap.size) → K (a.put o.dst v') w') :
    if Region.wanted o (yielded ops a.tmps) = true then Oper.wp P o a w K Q else E := by
  obtain ⟨i, hi1, hi2, hi3, hi4⟩ := info_parts hi
  have hw : Region.wanted o (yielded ops a.tmps) = true := by simp [Region.wanted, hgd]
  rw [if_pos hw]
  cases ad with
  | none =>
    obtain rfl := hnil rfl
    have hm : m = 0 := by
      rcases Nat.eq_zero_or_pos m with h | h
      · exact h
      · obtain ⟨_, _, e, _⟩ := hr.2 h; simp at e
    subst hm
    have hn : news = [] := List.eq_nil_of_length_eq_zero hr.1
    subst hn
    have hrun := run_append_owned_none (P := P) (w := w) base t o.type e i 1 ht hi1 v n xs hown
    unfold Oper.wp
    simp [execOp, ho, resolve, invoke, builtin, hs, hx, hrun, Result.andThen]
    exact h v w (by simpa using hown) ⟨rfl, rfl, rfl, Nat.le_refl _, fun _ _ _ => rfl⟩ (.inl rfl)
  | some ad =>
    have hnews : ∀ j u, news[j]? = some u → w.cell? (ad.add j) = some u := by
      intro j u hj
      have hjm : j < m := by
        have := (List.getElem?_eq_some_iff.1 hj).1
        rw [hr.1] at this; exact this
      obtain ⟨b, off, e, _, hc⟩ := hr.2 (by omega)
      obtain rfl := Option.some.inj e
      rw [Addr.add_lit]
      exact hc j u hj
    obtain ⟨v', w', hrun, h2, h3, _, h5⟩ := run_append_own_at (P := P) w base t o.type e i z 1 bytes ht hi1 hi2 hi3 hi4 hzs (by decide) v n xs hown ad m c news (by rw [hr.1]; omega) hnews h1 h63 hbytes hbase
    unfold Oper.wp execOp
    simp only [ho, resolve, invoke, builtin, Sem.run_bind, Sem.run_pure, Result.andThen_ok, List.map_toArray, List.map_cons, List.map_nil, hs, hx, hrun]
    exact h v' w' h2 h3 h5

/-- 'append(v, rows..)' of headers, in a plain region. -/
theorem wp_appHd {w : World} {ops : Array Oper} {rest : List Oper} {o : Oper} {a : Act} {Q : Exit → Act → World → Prop} (hgd : o.guard = none) (s x : Operand) {C : Nat} {v : Value} {M N : List (List Nat)}
    (ho : o.op = .call { callee := .builtin .append, args := #[s, x], argTypes := #[46, 46] })
    (h : Ev w C v M) (hC : C ≤ w.heap.size) (hl : M.length + N.length ≤ 1000000)
    {B : Nat} {ad : Option Addr} {m c : Nat} {us : List Value} (hs : a.eval s = v) (hx : a.eval x = .slice ad m c) (hnil : ad = none → c = 0) (hr : Rd w B ad m us) (k : HdR w v.ownBlock N us)
    (K : ∀ v' w2, Ev w2 C v' (M ++ N) → Below C w w2 → w.grownBy w2 v.ownBlock → (v'.ownBlock = v.ownBlock ∨ v'.ownBlock = some w.heap.size) → wpList Try.prog ops Q rest (a.put o.dst v') w2) :
    wpList Try.prog ops Q (o :: rest) a w := by
  obtain ⟨vs, h⟩ := h
  have hm : m = N.length := by rw [← hr.1]; exact k.1
  refine wp_appAt (P := Try.prog) _ hgd s x 46 ho C 49 (.slice none 0 0) 24 Try.underlying46 info_rows rfl v M.length vs hs h.1 B ad m c us hx hnil hr k.ones (by omega) (by unfold maxLen; omega) hC fun v' w2 hown hg hat => ?_
  exact K v' w2 ⟨_, h.app k (by rw [← hm]; exact hown) hg hat⟩ ((Below.refl _ _).grown hg hC fun g hg => (h.1.lt g hg).1) hg hat
/-- The same, in a region that draws. -/
theorem step_appHd {w : World} {ops : Array Oper} {o : Oper} {a : Act} {K : Act → World → Prop} {Q : Exit → Act → World → Prop} {E : Prop} (hgd : o.guard = none) (s x : Operand) {C : Nat} {v : Value} {M N : List (List Nat)}
    (ho : o.op = .call { callee := .builtin .append, args := #[s, x], argTypes := #[46, 46] })
    (h : Ev w C v M) (hC : C ≤ w.heap.size) (hl : M.length + N.length ≤ 1000000)
    {B : Nat} {ad : Option Addr} {m c : Nat} {us : List Value} (hs : a.eval s = v) (hx : a.eval x = .slice ad m c) (hnil : ad = none → c = 0) (hr : Rd w B ad m us) (k : HdR w v.ownBlock N us)
    (hK : ∀ v' w2, Ev w2 C v' (M ++ N) → Below C w w2 → w.grownBy w2 v.ownBlock → (v'.ownBlock = v.ownBlock ∨ v'.ownBlock = some w.heap.size) → K (a.put o.dst v') w2) :
    if Region.wanted o (yielded ops a.tmps) = true then Oper.wp Try.prog o a w K Q else E := by
  obtain ⟨vs, h⟩ := h
  have hm : m = N.length := by rw [← hr.1]; exact k.1
  refine step_appAt (P := Try.prog) hgd s x 46 ho C 49 (.slice none 0 0) 24 Try.underlying46 info_rows rfl v M.length vs hs h.1 B ad m c us hx hnil hr k.ones (by omega) (by unfold maxLen; omega) hC fun v' w2 hown hg hat => ?_
  exact hK v' w2 ⟨_, h.app k (by rw [← hm]; exact hown) hg hat⟩ ((Below.refl _ _).grown hg hC fun g hg => (h.1.lt g hg).1) hg hat

set_option maxRecDepth 100000 in
set_option maxHeartbeats 4000000 in
theorem keep_rows (M : List (List Nat)) (a b : Option Addr) (m c d : Nat) (w : World) (hx : RdM w w.heap.size a m M) (hy : RdM w w.heap.size b m M) (hm : m ≤ 1000000) (hl : ∀ l ∈ M, l.length ≤ 1000000) :
    Calls Try.prog 42 #[.slice a m c, .slice b m d] w fun e w' => e = .returned (.bool true) ∧ ∃ j, w' = w.drewN j := by
  have HX := Lib.hid hx
  have HY := Lib.hid hy
  have HL := Lib.hid hl
  have HM := Lib.hid hx.len
  clear hx hy hl
  have hnn : ((m : Int) != (m : Int)) = false := by simp
  go_enter Try.func42, Try.ntmps42
  go_wp2_with fail
  go_loopw [5, 13] (fun _ i wr => ∃ k : Nat, k ≤ m ∧ i = .int .i64 k ∧ Hid (∃ j, wr = w.drewN j)) (fun _ i _ => m - (intOf i).toNat)
  case atStart => exact ⟨0, by omega, rfl, Lib.hid ⟨0, rfl⟩⟩
  case round =>
    obtain ⟨k, hk, rfl, HJ⟩ := hrel
    obtain ⟨j, hj⟩ := HJ.out
    clear HJ
    by_cases hlt : k < m
    · have hX := HX.out
      have hY := HY.out
      obtain ⟨b1, o1, a1, c1, rfl, hb1, hc1, hr1, _⟩ := hX.at hlt
      obtain ⟨b2, o2, a2, c2, rfl, hb2, hc2, hr2, _⟩ := hY.at hlt
      have k1 : wr.cell? ⟨b1, o1 + k, none⟩ = some (.slice a1 (M.getD k []).length c1) := by rw [hj]; exact hc1
      have k2 : wr.cell? ⟨b2, o2 + k, none⟩ = some (.slice a2 (M.getD k []).length c2) := by rw [hj]; exact hc2
      have hlen := HL.out _ (getD_memr (M := M) (i := k) (by rw [HM.out]; exact hlt))
      have CS := Lib.hid fun i => (same_B (M.getD k []) a1 a2 (M.getD k []).length c1 c2 (wr.drewN i) (by rw [hj]; exact hr1) (by rw [hj]; exact hr2) hlen)
      have hlt' : (k : Int) < (m : Int) := by omega
      have HJ := Lib.hid hj
      clear hj hX hY hr1 hr2 hlen hc1 hc2
      generalize (M.getD k []).length = q at *
      go_wp2_with fail
      go_quiet ((go_at_call 49; exact Calls.quiet_of (CS.out _)))
      go_wp2_with fail
      go_roundw
      case rel => first | exact ⟨k + 1, by omega, by go_num, Lib.hid ⟨j + nq, by rw [HJ.out, World.drewN_drewN]⟩⟩ | ((repeat apply Exists.intro); exact ⟨⟨k + 1, by omega, by go_num, Lib.hid ⟨j + nq, by rw [HJ.out, World.drewN_drewN]⟩⟩, rfl⟩)
      case measure => simp [intOf]; omega
    · obtain rfl : k = m := by omega
      go_wp2_with fail
      go_ret
      first | exact ⟨rfl, j, hj⟩ | exact ⟨rfl, j, rfl⟩

theorem RdM.drop {w : World} {B : Nat} {a : Option Addr} {n c : Nat} {M : List (List Nat)} (h : RdM w B a n M) (hc : n ≤ c) {k : Nat} (hk : k ≤ n) : RdM w B (if c = k then a else Option.map (fun x => x.add k) a) (n - k) (M.drop k) := by
  obtain ⟨h1, vs, h2, h3⟩ := h
  refine ⟨by rw [List.length_drop]; omega, vs.drop k, ⟨by rw [List.length_drop, h2.1], fun h0 => ?_⟩, fun i l hl => ?_⟩
  · obtain ⟨b, o, rfl, hb, hcell⟩ := h2.2 (by omega)
    rw [if_neg (by omega)]
    refine ⟨b, o + k, by simp [Addr.add_lit], hb, fun i u hu => ?_⟩
    rw [List.getElem?_drop] at hu
    have := hcell (k + i) u hu
    rw [← Nat.add_assoc] at this
    exact this
  · rw [List.getElem?_drop] at hl
    obtain ⟨a', c', h5, h6⟩ := h3 _ l hl
    exact ⟨a', c', by rw [List.getElem?_drop]; exact h5, h6⟩
theorem nil_drop {a : Option Addr} {c k : Nat} (h : a = none → c = 0) : (if c = k then a else Option.map (fun x => x.add k) a) = none → c - k = 0 := by
  intro e
  split at e
  · omega
  · cases a with
    | none => have := h rfl; omega
    | some a => simp at e

/-- Rows of n bytes, so many at most. -/
def evenL (n : Nat) : Nat → List Nat → List (List Nat)
  | 0, _ => []
  | k + 1, ys => if n ≤ ys.length then ys.take n :: evenL n k (ys.drop n) else []
theorem evenL_wf {n : Nat} : ∀ (k : Nat) (ys : List Nat), By ys → Wf n (evenL n k ys)
  | 0, _, _ => fun r hr => by simp [evenL] at hr
  | k + 1, ys, h => fun r hr => by
    unfold evenL at hr
    split at hr
    · rename_i h1
      rcases List.mem_cons.1 hr with rfl | hr
      · exact ⟨by rw [List.length_take]; omega, fun x hx => h x (List.mem_of_mem_take hx)⟩
      · exact evenL_wf k (ys.drop n) (fun x hx => h x (List.mem_of_mem_drop hx)) r hr
    · simp at hr
theorem evenL_len {n : Nat} : ∀ (k : Nat) (ys : List Nat), (evenL n k ys).length ≤ k
  | 0, _ => Nat.le_refl _
  | k + 1, ys => by
    unfold evenL
    split
    · rw [List.length_cons]; have := evenL_len (n := n) k (ys.drop n); omega
    · simp
theorem evenL_yes {n k : Nat} {ys : List Nat} (h : n ≤ ys.length) : evenL n (k + 1) ys = ys.take n :: evenL n k (ys.drop n) := by rw [evenL, if_pos h]
theorem evenL_no {n k : Nat} {ys : List Nat} (h : ¬ n ≤ ys.length) : evenL n k ys = [] := by
  cases k with
  | zero => rfl
  | succ k => rw [evenL, if_neg h]
theorem rd_cut0 {w : World} {B : Nat} {a : Option Addr} {len : Nat} {xs : List Nat} (h : Rd w B a len (cellsB xs)) {n : Nat} (hn : n ≤ len) : Rd w B a n (cellsB (xs.take n)) := by
  have hl := h.len
  rw [cellsB_len] at hl
  refine ⟨by rw [cellsB_len, List.length_take]; omega, fun h0 => ?_⟩
  obtain ⟨b, o, e, hb, hc⟩ := h.2 (by omega)
  refine ⟨b, o, e, hb, fun i u hu => hc i u ?_⟩
  unfold cellsB at hu ⊢
  rw [List.map_take, List.getElem?_take] at hu
  split at hu
  · exact hu
  · cases hu
theorem rd_rest {w : World} {B : Nat} {a : Option Addr} {len cap : Nat} {xs : List Nat} (h : Rd w B a len (cellsB xs)) (hc : len ≤ cap) {n : Nat} (hn : n ≤ len) :
    Rd w B (if cap = n then a else Option.map (fun x => x.add n) a) (len - n) (cellsB (xs.drop n)) := by
  have hl := h.len
  rw [cellsB_len] at hl
  have := rd_cut h hc (lo := n) (n := len - n) (by omega)
  rwa [List.take_of_length_le (by rw [List.length_drop]; omega)] at this
theorem nil_rest {a : Option Addr} {cap n : Nat} (h : a = none → cap = 0) (hn : 1 ≤ n) (hc : n ≤ cap) : (if cap = n then a else Option.map (fun x => x.add n) a) = none → cap - n = 0 := by
  intro e
  split at e
  · omega
  · cases a with
    | none => have := h rfl; omega
    | some a => simp at e
theorem ev_below {w : World} {C B : Nat} {v : Value} {M : List (List Nat)} (h : Ev w C v M) (hB : B ≤ C) : ∀ g, v.ownBlock = some g → B ≤ g := fun g hg => by
  obtain ⟨vs, h1, _⟩ := h
  have := (h1.lt g hg).1
  omega
def lenOf : Value → Nat | .slice _ n _ => n | _ => 0

set_option maxRecDepth 100000 in
set_option maxHeartbeats 4000000 in
theorem law_even (n : Nat) (xs : List Nat) (B : Nat) (a : Option Addr) (len cap : Nat) (w : World) (hx : Rd w B a len (cellsB xs)) (hB : B ≤ w.heap.size) (hc : len ≤ cap ∧ cap ≤ maxLen ∧ (a = none → cap = 0)) (hn : 1 ≤ n) (hn2 : n ≤ 1000000) :
    Calls Try.prog 63 #[.slice a len cap, .int .i64 n] w fun e w' => ∃ v, e = .returned v ∧ Ev w' w.heap.size v (evenL n 14 xs) ∧ Below w.heap.size w w' := by
  have HE : Hid (Ev w w.heap.size (.slice none 0 0) []) := Lib.hid (Ev.nil _ _)
  have hrel : ∃ (a' : Option Addr) (len' cap' : Nat) (ys : List Nat) (k : Nat) (E : List (List Nat)), Value.slice a len cap = .slice a' len' cap' ∧ k ≤ 14 ∧ (∃ c, Value.slice none 0 0 = .slice none k c) ∧ Hid (Rd w B a' len' (cellsB ys)) ∧ (len' ≤ cap' ∧ cap' ≤ maxLen) ∧ Hid (a' = none → cap' = 0) ∧ Hid (evenL n 14 xs = E ++ evenL n (14 - k) ys) ∧ Hid (E.length = k) := ⟨a, len, cap, xs, 0, [], rfl, by omega, ⟨_, rfl⟩, Lib.hid hx, ⟨hc.1, hc.2.1⟩, Lib.hid hc.2.2, Lib.hid rfl, Lib.hid rfl⟩
  have HX := Lib.hid hx
  have HC := Lib.hid hc
  clear hx hc hrel
  go_enter Try.func63, Try.ntmps63
  go_wp2_with fail
  generalize hG : w.heap.size = G at *
  have HG := Lib.hid hG
  clear hG
  go_loopw [0, 5] (fun b v wr => ∃ (a' : Option Addr) (len' cap' : Nat) (ys : List Nat) (k : Nat) (E : List (List Nat)) (av : Option Addr) (cv : Nat), b = .slice a' len' cap' ∧ k ≤ 14 ∧ v = .slice av k cv ∧ Hid (Rd w B a' len' (cellsB ys)) ∧ (len' ≤ cap' ∧ cap' ≤ maxLen) ∧ Hid (a' = none → cap' = 0) ∧ Hid (evenL n 14 xs = E ++ evenL n (14 - k) ys) ∧ Hid (E.length = k) ∧ Hid (Ev wr G (.slice av k cv) E) ∧ Hid (Below G w wr)) (fun _ v _ => 14 - lenOf v)
  case atStart => exact ⟨a, len, cap, xs, 0, [], _, _, rfl, by omega, rfl, HX, ⟨HC.out.1, HC.out.2.1⟩, Lib.hid HC.out.2.2, Lib.hid rfl, Lib.hid rfl, HE, Lib.hid (Below.refl _ _)⟩
  case round =>
    clear HE
    obtain ⟨a', len', cap', ys, k, E, av, cv, rfl, hk, rfl, HR, ⟨hlc, hcm⟩, HN, HEQ, HEL, HE, HB⟩ := hrel
    have hly : ys.length = len' := by have := HR.out.len; rwa [cellsB_len] at this
    have HLY := Lib.hid hly
    clear hly
    have hcI : (cap' : Int) ≤ 9223372036854775807 := by unfold maxLen at hcm; omega
    have hnI : (0 : Int) < (n : Int) := by omega
    by_cases h1 : n ≤ len'
    · have h1I : (n : Int) ≤ (len' : Int) := by omega
      by_cases h2 : k < 14
      · have h2I : (k : Int) < 14 := by omega
        have h3 : n ≤ cap' := by omega
        go_wp2_with fail
        have hG2 : G ≤ wr.heap.size := by have := HB.out.size; have := HG.out; omega
        have HBW : Hid (Below G w ((wr.alloc (.cells #[Value.slice a' n n] 49)).drew)) := Lib.hid (HB.out.alloc hG2 _).drew
        have hbW : Below wr.heap.size wr ((wr.alloc (.cells #[Value.slice a' n n] 49)).drew) := ((Below.refl _ _).alloc (Nat.le_refl _) _).drew
        have hlt : (ys.take n).length = n := by rw [List.length_take, HLY.out]; omega
        have hW2 : G ≤ ((wr.alloc (.cells #[Value.slice a' n n] 49)).drew).heap.size := Nat.le_trans hG2 hbW.size
        have hx2 : RdX ((wr.alloc (.cells #[Value.slice a' n n] 49)).drew) (Value.slice av k cv).ownBlock a' n (cellsB (ys.take n)) :=
          rdX_of ((rd_cut0 HR.out h1).below HBW.out hB) (by omega) (ev_below HE.out hB)
        have hone : HdR ((wr.alloc (.cells #[Value.slice a' n n] 49)).drew) (Value.slice av k cv).ownBlock [ys.take n] [.slice a' n n] := by
          have := HdR.one (w := (wr.alloc (.cells #[Value.slice a' n n] 49)).drew) (r := (Value.slice av k cv).ownBlock) (a := a') (c := n) (l := ys.take n) (by rw [hlt]; exact hx2) (fun e => by have := HN.out e; omega) (by omega) (by omega)
          rwa [hlt] at this
        have HONE := Lib.hid hone
        have HEW := Lib.hid (HE.out.new hbW)
        have HRL : Hid (Rd ((wr.alloc (.cells #[Value.slice a' n n] 49)).drew) ((wr.alloc (.cells #[Value.slice a' n n] 49)).drew).heap.size (some ⟨wr.heap.size, 0, none⟩) 1 [.slice a' n n]) := Lib.hid ⟨rfl, fun _ => ⟨wr.heap.size, 0, rfl, by simp, fun i u hu => by
          cases i with
          | zero => obtain rfl : Value.slice a' n n = u := by simpa using hu
                    exact cell_lit wr #[Value.slice a' n n] _ 0
          | succ i => simp at hu⟩⟩
        have h10 : E.length + [ys.take n].length ≤ 1000000 := by rw [HEL.out, List.length_singleton]; omega
        have HRR := Lib.hid (rd_rest HR.out hlc h1)
        have HNR := Lib.hid (nil_rest HN.out hn h3)
        have hst : evenL n 14 xs = (E ++ [ys.take n]) ++ evenL n (14 - (k + 1)) (ys.drop n) := by
          rw [HEQ.out, show 14 - k = (14 - (k + 1)) + 1 by omega, evenL_yes (by rw [HLY.out]; exact h1), List.append_assoc]
          rfl
        have HST := Lib.hid hst
        have hel : (E ++ [ys.take n]).length = k + 1 := by rw [List.length_append, HEL.out]; rfl
        have HEL2 := Lib.hid hel
        clear hx2 hone hst hel hlt hbW HB HEQ HE HEL
        go_wp2_with fail
        go_region_law (refine step_appHd (C := G) (v := .slice av k cv) (M := E) (N := [ys.take n]) rfl _ _ rfl HEW.out hW2 h10 rfl rfl (fun e => (by cases e)) HRL.out HONE.out ?_; intro v2 w2 hE2 hb2 hg2 hat2)
        have HE2 := Lib.hid hE2
        have HB2 := Lib.hid (HBW.out.trans hb2)
        obtain ⟨av2, cv2, rfl⟩ := hE2.val
        rw [HEL2.out] at HE2
        clear hE2 hb2 hg2 hat2 HEW HRL HONE HBW
        generalize (if cap' = n then a' else Option.map (fun x => x.add n) a') = a2 at *
        rw [HEL2.out]
        go_wp2_with fail
        go_roundw
        case rel => first | exact ⟨a2, len' - n, cap' - n, ys.drop n, k + 1, E ++ [ys.take n], av2, cv2, rfl, by omega, rfl, HRR, ⟨by omega, by omega⟩, HNR, HST, HEL2, HE2, HB2⟩ | ((repeat apply Exists.intro); exact ⟨⟨a2, len' - n, cap' - n, ys.drop n, k + 1, E ++ [ys.take n], av2, cv2, rfl, by omega, rfl, HRR, ⟨by omega, by omega⟩, HNR, HST, HEL2, HE2, HB2⟩, rfl⟩)
        case measure => show 14 - (k + 1) < 14 - k; omega
      · obtain rfl : k = 14 := by omega
        have hf : evenL n 14 xs = E := by rw [HEQ.out]; simp [evenL]
        rw [← hf] at HE
        have h2I : ¬ ((14 : Nat) : Int) < 14 := by decide
        clear hf HEQ
        go_wp2_with fail
        go_ret
        exact ⟨_, rfl, by rw [HG.out]; exact HE.out, by rw [HG.out]; exact HB.out⟩
    · have hf : evenL n 14 xs = E := by rw [HEQ.out, evenL_no (by rw [HLY.out]; exact h1), List.append_nil]
      rw [← hf] at HE
      have h1I : ¬ (n : Int) ≤ (len' : Int) := by omega
      clear hf HEQ
      go_wp2_with fail
      go_ret
      exact ⟨_, rfl, by rw [HG.out]; exact HE.out, by rw [HG.out]; exact HB.out⟩
end Go.Proofs.Ytfbhbjhfebkpfaa
