/- Append with the place of the new slice; a bundle of facts that stay when memory grows. -/
import Derived.Test.YtfbhbjhfebkpfaaRowC
import Derived.Laws.AppendOwnNone
import Derived.Maps.AppendAt
namespace Go.Proofs.Ytfbhbjhfebkpfaa
open Go.RowKit
set_option linter.unusedVariables false

theorem own_same {w w' : World} {base e size n : Nat} {v : Value} {xs : List Value} (h : w.ownsRow base e size v n xs) (hk : ∀ k, base ≤ k → k < w.heap.size → w'.heap[k]? = w.heap[k]?) : w'.ownsRow base e size v n xs := by
  refine ⟨h.1, ?_⟩
  rcases h.2 with h2 | ⟨g, cap, cur, rfl, hg, hh, r⟩
  · exact .inl h2
  · exact .inr ⟨g, cap, cur, rfl, hg, (hk g hg (Array.getElem?_eq_some_iff.1 hh).1).trans hh, r⟩

/-- 'append(v, u...)', u nil or not; where the new slice lies. -/
theorem wp_appAt {P : Program} (w : World) {ops : Array Oper} {rest : List Oper} {o : Oper} {a : Act} {Q : Exit → Act → World → Prop} (hgd : o.guard = none) (s x : Operand) (t : TypeId)
    (ho : o.op = .call { callee := .builtin .append, args := #[s, x], argTypes := #[t, t] })
    (base : Nat) (e : TypeId) (z : Value) (bytes : Nat) (ht : P.underlying t = some (.slice e)) (hi : (P.info? e).map (fun i => (i.zero, i.size, i.bytes)) = some (some z, 1, bytes)) (hzs : z.cells.size = 1)
    (v : Value) (n : Nat) (xs : List Value) (hs : a.eval s = v) (hown : w.ownsRow base e 1 v n xs)
    (B : Nat) (ad : Option Addr) (m c : Nat) (news : List Value) (hx : a.eval x = .slice ad m c) (hnil : ad = none → c = 0) (hr : Rd w B ad m news) (h1 : ∀ u ∈ news, u.oneCell' = true)
    (hbytes : (n + m) * bytes ≤ 140737488355328) (h63 : n + m ≤ maxLen) (hbase : base ≤ w.heap.size)
    (h : ∀ v' w', w'.ownsRow base e 1 v' (n + m) (xs ++ news) → w.grownBy w' v.ownBlock → (v'.ownBlock = v.ownBlock ∨ v'.ownBlock = some w.heap.size) → wpList P ops Q rest (a.put o.dst v') w') : wpList P ops Q (o :: rest) a w := by
  obtain ⟨i, hi1, hi2, hi3, hi4⟩ := info_parts hi
  cases ad with
  | none =>
    obtain rfl := hnil rfl
    have hm : m = 0 := by
      rcases Nat.eq_zero_or_pos m with h | h
      · exact h
      · obtain ⟨_, _, e, _⟩ := hr.2 h; simp at e
    subst hm
    have hn : news = [] := List.eq_nil_of_length_eq_zero hr.1
    subst hn
    refine wpList_append_own_none hgd s x t ho base e i 1 ht hi1 v n xs hs hown hx (h v w (by simpa using hown) ⟨rfl, rfl, rfl, Nat.le_refl _, fun _ _ _ => rfl⟩ (.inl rfl))
  | some ad =>
    refine wpList_append_own_at w hgd s x t ho base e i z 1 bytes ht hi1 hi2 hi3 hi4 hzs (by decide) v n xs hs hown ad m c news hx (by rw [hr.1]; omega) ?_ h1 h63 hbytes hbase fun v' w' h1 h2 _ h3 => h v' w' h1 h2 h3
    intro j u hj
    have hjm : j < m := by
      have := (List.getElem?_eq_some_iff.1 hj).1
      rw [hr.1] at this; exact this
    obtain ⟨b, off, e, _, hc⟩ := hr.2 (by omega)
    obtain rfl := Option.some.inj e
    rw [Addr.add_lit]
    exact hc j u hj
/-- 'append(v, u)', u alone in a new block; where the new slice lies. -/
theorem wp_app1At {P : Program} (w : World) {ops : Array Oper} {rest : List Oper} {o : Oper} {a : Act} {Q : Exit → Act → World → Prop} (hgd : o.guard = none) (s x : Operand) (t : TypeId)
    (ho : o.op = .call { callee := .builtin .append, args := #[s, x], argTypes := #[t, t] })
    (base : Nat) (e : TypeId) (z : Value) (bytes : Nat) (ht : P.underlying t = some (.slice e)) (hi : (P.info? e).map (fun i => (i.zero, i.size, i.bytes)) = some (some z, 1, bytes)) (hzs : z.cells.size = 1)
    (v : Value) (n : Nat) (xs : List Value) (hs : a.eval s = v) (hown : w.ownsRow base e 1 v n xs)
    (g : Nat) (u : Value) (hx : a.eval x = .slice (some ⟨g, 0, none⟩) 1 1) (hu : w.cell? ⟨g, 0, none⟩ = some u) (h1 : u.oneCell' = true)
    (hbytes : (n + 1) * bytes ≤ 140737488355328) (h63 : n + 1 ≤ maxLen) (hbase : base ≤ w.heap.size)
    (h : ∀ v' w', w'.ownsRow base e 1 v' (n + 1) (xs ++ [u]) → w.grownBy w' v.ownBlock → (v'.ownBlock = v.ownBlock ∨ v'.ownBlock = some w.heap.size) → wpList P ops Q rest (a.put o.dst v') w') : wpList P ops Q (o :: rest) a w := by
  obtain ⟨i, hi1, hi2, hi3, hi4⟩ := info_parts hi
  refine wpList_append_own_at w hgd s x t ho base e i z 1 bytes ht hi1 hi2 hi3 hi4 hzs (by decide) v n xs hs hown ⟨g, 0, none⟩ 1 1 [u] hx rfl ?_ (by simpa using h1) h63 hbytes hbase fun v' w' h1 h2 _ h3 => h v' w' h1 h2 h3
  intro j u' hj
  match j, hj with
  | 0, hj => simp at hj; subst hj; simpa [Addr.add] using hu
theorem rd_of_own' {w : World} {base e n : Nat} {v : Value} {xs : List Value} (h : w.ownsRow base e 1 v n xs) : ∃ a c, v = .slice a n c ∧ Rd w w.heap.size a n xs ∧ (a = none → c = 0) := by
  obtain ⟨a, c, e1, hr⟩ := rd_of_own h
  refine ⟨a, c, e1, hr, fun ha => ?_⟩
  subst ha
  rcases h.2 with ⟨h2, _⟩ | ⟨g, cap, cur, h2, _⟩
  · rw [h2] at e1; simp at e1; exact e1.2.symm
  · rw [h2] at e1; simp at e1

/-- A fact of a world that stays when memory is laid behind. -/
structure Ent where
  ok : World → Prop
  stb : ∀ w w', ok w → Below w.heap.size w w' → ok w'
def eRd (a : Option Addr) (n : Nat) (l : List Value) : Ent := ⟨fun w => Rd w w.heap.size a n l, fun _ _ h hb => (h.below hb (Nat.le_refl _)).more hb.size⟩
def eBlk (g : Nat) (t : TypeId) (cs : Array Value) : Ent := ⟨fun w => Blk w g t cs, fun _ _ h hb => h.below hb h.lt⟩
def eFp (p : Option Addr) : Ent := ⟨fun w => Fp w p, fun _ _ h hb => by
  rcases h with h | ⟨g, h1, h2⟩
  · exact .inl h
  · exact .inr ⟨g, h1, h2.below hb (Blk.lt h2)⟩⟩
def eOwn (C : Nat) (e : TypeId) (v : Value) (n : Nat) (l : List Value) : Ent := ⟨fun w => w.ownsRow C e 1 v n l, fun _ _ h hb => own_new h hb⟩
def Sx (w0 w : World) (L : List Ent) : Prop := Below w0.heap.size w0 w ∧ ∀ e ∈ L, e.ok w
theorem Sx.start {w : World} {L : List Ent} (h : ∀ e ∈ L, e.ok w) : Sx w w L := ⟨Below.refl _ _, h⟩
theorem Sx.nil (w : World) : Sx w w [] := ⟨Below.refl _ _, by simp⟩
theorem Sx.step {w0 w w' : World} {L : List Ent} (h : Sx w0 w L) (hb : Below w.heap.size w w') : Sx w0 w' L := ⟨h.1.trans (hb.mono h.1.size), fun e he => e.stb _ _ (h.2 e he) hb⟩
theorem Sx.drewN {w0 w : World} {L : List Ent} (h : Sx w0 w L) (j : Nat) : Sx w0 (w.drewN j) L := h.step (below_drewN (Below.refl _ _) j)
theorem Sx.alloc {w0 w : World} {L : List Ent} (h : Sx w0 w L) (o : Obj) : Sx w0 (w.alloc o) L := h.step ((Below.refl _ _).alloc (Nat.le_refl _) o)
theorem Sx.add {w0 w : World} {L : List Ent} (h : Sx w0 w L) (e : Ent) (he : e.ok w) : Sx w0 w (e :: L) := ⟨h.1, fun f hf => by
  rcases List.mem_cons.1 hf with rfl | hf
  · exact he
  · exact h.2 f hf⟩
theorem Sx.get {w0 w : World} {L : List Ent} (h : Sx w0 w L) (i : Nat) {e : Ent} (hi : L[i]? = some e) : e.ok w := h.2 e (List.mem_of_getElem? hi)
theorem Sx.rd {w0 w : World} {L : List Ent} (h : Sx w0 w L) (i : Nat) {a : Option Addr} {n : Nat} {l : List Value} (hi : L[i]? = some (eRd a n l)) : Rd w w.heap.size a n l := h.get i hi
theorem Sx.fp {w0 w : World} {L : List Ent} (h : Sx w0 w L) (i : Nat) {p : Option Addr} (hi : L[i]? = some (eFp p)) : Fp w p := h.get i hi
theorem Sx.blk {w0 w : World} {L : List Ent} (h : Sx w0 w L) (i : Nat) {g : Nat} {t : TypeId} {cs : Array Value} (hi : L[i]? = some (eBlk g t cs)) : Blk w g t cs := h.get i hi
theorem OwnB.rd2 {w : World} {C : Nat} {v : Value} {l : List Nat} {n : Nat} (h : OwnB w C v l) (hn : l.length = n) : ∃ a c, v = .slice a n c ∧ (eRd a n (cellsB l)).ok w ∧ (a = none → c = 0) := by
  subst hn
  exact rd_of_own' h

set_option maxRecDepth 100000 in
set_option maxHeartbeats 2000000 in
theorem keep_copy (xs : List Nat) (B : Nat) (a : Option Addr) (n c : Nat) (w : World) (hx : Rd w B a n (cellsB xs)) (hB : B ≤ w.heap.size) (hnil : a = none → c = 0) (hn : n ≤ 1000000) :
    Calls Try.prog 52 #[.slice a n c] w fun e w' => ∃ v, e = .returned v ∧ OwnB w' w.heap.size v xs ∧ Below w.heap.size w w' := by
  have hlx : xs.length = n := by have := hx.len; rwa [cellsB_len] at this
  obtain ⟨i0, hi, hz0, hz1, hz2⟩ := info_parts infoS_u8
  have hmk : ∀ w : World, (Instr.makeSlice 49 (.int .i64 0) (.int .i64 ((n : Int) + 2))).run Try.prog w = .ok (.slice (some ⟨w.heap.size, 0, none⟩) 0 (n + 2)) (w.alloc (.cells (madeCells #[Value.int .u8 0] (n + 2)) 5)) := by
    intro w
    have h := run_make (P := Try.prog) w 49 5 i0 (.int .u8 0) Try.underlying49 hi hz0 .i64 .i64 0 ((n : Int) + 2) (by omega) (by omega) (by rw [hz2]; omega) (by omega)
    rw [hz1, Nat.mul_one, Int.toNat_zero, show ((n : Int) + 2).toNat = n + 2 by omega] at h
    exact h
  have hms : (madeCells #[Value.int .u8 0] (n + 2)).size = (n + 2) * 1 := by rw [size_madeCells, Nat.mul_one]
  have HX := Lib.hid hx
  have HL := Lib.hid hlx
  clear hx hi hz0 hz1 hz2 hlx
  generalize madeCells #[Value.int .u8 0] (n + 2) = M at *
  go_enter Try.func52, Try.ntmps52
  go_wp2_with (first | simp only [hmk] | (at_builtin; refine wp_appAt _ rfl _ _ 49 rfl w.heap.size 5 (.int .u8 0) 1 Try.underlying49 infoS_u8 rfl (.slice (some ⟨w.heap.size, 0, none⟩) 0 (n + 2)) 0 [] rfl ?o1 B a n c (cellsB xs) rfl hnil ?o2 (cellsB_one xs) ?o3 ?o4 ?o5 ?_))
  case o1 => exact World.ownsRow_made w M (n + 2) (Nat.le_refl _) (by unfold maxLen; omega) hms
  case o2 => exact HX.out.keep (fun p hp => World.cell?_alloc_lt _ _ _ (by omega))
  case o3 => omega
  case o4 => unfold maxLen; omega
  case o5 => simp
  intro v w1 hown hg hv
  have hb : Below w.heap.size w w1 := ((Below.refl _ _).alloc (Nat.le_refl _) _).grown hg (by simp) (fun k hk => by simp [Value.ownBlock] at hk; omega)
  have hown' : OwnB w1 w.heap.size v xs := by rw [Nat.zero_add, List.nil_append, ← HL.out] at hown; exact hown
  have HO := Lib.hid hown'
  have HB := Lib.hid hb
  clear hown hg hb hv hown' hmk hms
  go_wp2_with fail
  go_ret
  exact ⟨_, rfl, HO.out, HB.out⟩

theorem lit_rd (w : World) (l : List Nat) (g : Nat) (hg : g = w.heap.size) (n : Nat) (hn : n = l.length) (cs : Array Value) (hc : cs = rowB l) : (eRd (some ⟨g, 0, none⟩) n (cellsB l)).ok (w.alloc (.cells cs 5)) := by
  subst hg hn hc
  exact rd_blkB (Blk.new w 5 (rowB l))

set_option maxRecDepth 100000 in
set_option maxHeartbeats 2000000 in
theorem wakes02 (w : World) :
    Calls Try.prog 51 #[] w fun e w' => e = .returned (.bool true) ∧ Below w.heap.size w w' := by
  go_enter Try.func51, Try.ntmps51
  go_wp2_with fail
  refine (gf_new _).mono ?_
  rintro e w1 ⟨g, rfl, hg, hF, hb⟩
  have HS : Hid (Sx w w1 [eFp (some ⟨g, 0, none⟩)]) := Lib.hid (((Sx.nil w).step hb).add (eFp _) (.inr ⟨g, rfl, hF⟩))
  clear hg hF hb
  go_wp2_with fail
  have s1 := ((HS.out.alloc (.cells #[.int .u8 1, .int .u8 2] 5)).add _ (lit_rd w1 [1, 2] _ rfl 2 rfl _ rfl)).alloc (.cells #[.int .u8 3, .int .u8 1] 5)
  have s2 := s1.add _ (lit_rd _ [3, 1] (w1.heap.size + 1) (by simp) 2 rfl _ rfl)
  have CD := row_dot (some ⟨g, 0, none⟩) [1, 2] [3, 1] (some ⟨w1.heap.size, 0, none⟩) (some ⟨w1.heap.size + 1, 0, none⟩) 2 2 2 _ (s2.fp 2 rfl) (s2.rd 1 rfl) (s2.rd 0 rfl) (by unfold By; decide) (by unfold By; decide) (by decide)
  refine CD.mono ?_
  rintro e w2 ⟨rfl, hb2⟩
  have hd : dotK [1, 2] [3, 1] 2 = 1 := by decide +kernel
  rw [hd]
  have HS2 := Lib.hid (s2.step hb2)
  clear s1 s2 hb2 HS hd
  go_wp2_with fail
  have s3 := (HS2.out.alloc (.cells #[.int .u8 0, .int .u8 0, .int .u8 5] 5)).add _ (lit_rd w2 [0, 0, 5] _ rfl 3 rfl _ rfl)
  have CL := row_lead [0, 0, 5] _ (some ⟨w2.heap.size, 0, none⟩) 3 3 _ (s3.rd 0 rfl) (by unfold By; decide) (by decide)
  refine CL.mono ?_
  rintro e w3 ⟨rfl, j, rfl⟩
  have HS3 := Lib.hid (s3.drewN j)
  clear s3 HS2
  have hd : leadI [0, 0, 5] = 2 := by decide +kernel
  rw [hd]
  have hr0 : Rd ((w2.alloc (.cells #[.int .u8 0, .int .u8 0, .int .u8 5] 5)).drewN j) 0 none 0 (cellsB []) := rd_nil _ _ _
  have HL := Lib.hid (row_lead [] 0 none 0 0 _ hr0 (by unfold By; decide) (by decide))
  have hd2 : leadI [] = -1 := by decide +kernel
  rw [hd2] at HL
  clear hr0 hd hd2
  generalize (w2.alloc (.cells #[.int .u8 0, .int .u8 0, .int .u8 5] 5)).drewN j = w4 at *
  go_wp2_with fail
  refine HL.out.mono ?_
  rintro e w5 ⟨rfl, j2, rfl⟩
  have HS4 := Lib.hid (HS3.out.drewN j2)
  go_wp2_with fail
  go_ret
  exact ⟨rfl, HS4.out.1⟩
end Go.Proofs.Ytfbhbjhfebkpfaa
