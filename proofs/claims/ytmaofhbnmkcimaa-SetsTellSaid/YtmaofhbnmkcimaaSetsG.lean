/- The document's All: from, by recursion; two lists of lists, held against each other. -/
import Derived.Test.YtmaofhbnmkcimaaSetsF
import Derived.Laws.AppendOwnNone
import Derived.Maps.AppendAt
namespace Go.Proofs.Ytmaofhbnmkcimaa
open Go.RowKit
set_option linter.unusedVariables false

theorem own_same {w w' : World} {base e size n : Nat} {v : Value} {xs : List Value} (h : w.ownsRow base e size v n xs) (hk : ∀ k, base ≤ k → k < w.heap.size → w'.heap[k]? = w.heap[k]?) : w'.ownsRow base e size v n xs := by
  refine ⟨h.1, ?_⟩
  rcases h.2 with h2 | ⟨g, cap, cur, rfl, hg, hh, r⟩
  · exact .inl h2
  · exact .inr ⟨g, cap, cur, rfl, hg, (hk g hg (Array.getElem?_eq_some_iff.1 hh).1).trans hh, r⟩
theorem OutOk.same {w w' : World} {C : Nat} {v : Value} {L : List (List Nat)} (h : OutOk w C v L) (hk : ∀ k, C ≤ k → k < w.heap.size → w'.heap[k]? = w.heap[k]?) : OutOk w' C v L := by
  obtain ⟨vs, h1, h2⟩ := h
  refine ⟨vs, own_same h1 hk, fun i l hl => ?_⟩
  obtain ⟨u, hu, ho⟩ := h2 i l hl
  exact ⟨u, hu, own_same ho hk⟩
theorem OutOk.lt {w : World} {C : Nat} {v : Value} {L : List (List Nat)} (h : OutOk w C v L) : ∀ g, v.ownBlock = some g → C ≤ g ∧ g < w.heap.size := by
  obtain ⟨vs, h1, _⟩ := h
  exact h1.lt

/-- 'append(v, u...)', u nil or not; where the new slice lies. -/
theorem wp_appAt {P : Program} (w : World) {ops : Array Oper} {rest : List Oper} {o : Oper} {a : Act} {Q : Exit → Act → World → Prop} (hgd : o.guard = none) (s x : Operand) (t : TypeId)
    (ho : o.op = .call { callee := .builtin .append, args := #[s, x], argTypes := #[t, t] })
    (base : Nat) (e : TypeId) (z : Value) (bytes : Nat) (ht : P.underlying t = some (.slice e)) (hi : (P.info? e).map (fun i => (i.zero, i.size, i.bytes)) = some (some z, 1, bytes)) (hzs : z.cells.size = 1)
    (v : Value) (n : Nat) (xs : List Value) (hs : a.eval s = v) (hown : w.ownsRow base e 1 v n xs)
    (B : Nat) (ad : Option Addr) (m c : Nat) (news : List Value) (hx : a.eval x = .slice ad m c) (hnil : ad = none → c = 0) (hr : Rd w B ad m news) (h1 : ∀ u ∈ news, u.oneCell' = true)
    (hbytes : (n + m) * bytes ≤ 140737488355328) (h63 : n + m ≤ maxLen) (hbase : base ≤ w.heap.size)
    (h : ∀ v' w', w'.ownsRow base e 1 v' (n + m) (xs ++ news) → w.grownBy w' v.ownBlock → (v'.ownBlock = v.ownBlock ∨ v'.ownBlock = some w.heap.size) → wpList P ops Q rest (a.put o.dst v') w') : wpList P ops Q (o :: rest) a w := by
  obtain ⟨i, hi1, hi2, hi3, hi4⟩ := info_parts hi
  cases ad with
  | none =>
    obtain rfl := hnil rfl
    have hm : m = 0 := by
      rcases Nat.eq_zero_or_pos m with h | h
      · exact h
      · obtain ⟨_, _, e, _⟩ := hr.2 h; simp at e
    subst hm
    have hn : news = [] := List.eq_nil_of_length_eq_zero hr.1
    subst hn
    refine wpList_append_own_none hgd s x t ho base e i 1 ht hi1 v n xs hs hown hx (h v w (by simpa using hown) ⟨rfl, rfl, rfl, Nat.le_refl _, fun _ _ _ => rfl⟩ (.inl rfl))
  | some ad =>
    refine wpList_append_own_at w hgd s x t ho base e i z 1 bytes ht hi1 hi2 hi3 hi4 hzs (by decide) v n xs hs hown ad m c news hx (by rw [hr.1]; omega) ?_ h1 h63 hbytes hbase fun v' w' h1 h2 _ h3 => h v' w' h1 h2 h3
    intro j u hj
    have hjm : j < m := by
      have := (List.getElem?_eq_some_iff.1 hj).1
      rw [hr.1] at this; exact this
    obtain ⟨b, off, e, _, hc⟩ := hr.2 (by omega)
    obtain rfl := Option.some.inj e
    rw [Addr.add_lit]
    exact hc j u hj
/-- 'append(v, u)', u alone in a new block; where the new slice lies. -/
theorem wp_app1At {P : Program} (w : World) {ops : Array Oper} {rest : List Oper} {o : Oper} {a : Act} {Q : Exit → Act → World → Prop} (hgd : o.guard = none) (s x : Operand) (t : TypeId)
    (ho : o.op = .call { callee := .builtin .append, args := #[s, x], argTypes := #[t, t] })
    (base : Nat) (e : TypeId) (z : Value) (bytes : Nat) (ht : P.underlying t = some (.slice e)) (hi : (P.info? e).map (fun i => (i.zero, i.size, i.bytes)) = some (some z, 1, bytes)) (hzs : z.cells.size = 1)
    (v : Value) (n : Nat) (xs : List Value) (hs : a.eval s = v) (hown : w.ownsRow base e 1 v n xs)
    (g : Nat) (u : Value) (hx : a.eval x = .slice (some ⟨g, 0, none⟩) 1 1) (hu : w.cell? ⟨g, 0, none⟩ = some u) (h1 : u.oneCell' = true)
    (hbytes : (n + 1) * bytes ≤ 140737488355328) (h63 : n + 1 ≤ maxLen) (hbase : base ≤ w.heap.size)
    (h : ∀ v' w', w'.ownsRow base e 1 v' (n + 1) (xs ++ [u]) → w.grownBy w' v.ownBlock → (v'.ownBlock = v.ownBlock ∨ v'.ownBlock = some w.heap.size) → wpList P ops Q rest (a.put o.dst v') w') : wpList P ops Q (o :: rest) a w := by
  obtain ⟨i, hi1, hi2, hi3, hi4⟩ := info_parts hi
  refine wpList_append_own_at w hgd s x t ho base e i z 1 bytes ht hi1 hi2 hi3 hi4 hzs (by decide) v n xs hs hown ⟨g, 0, none⟩ 1 1 [u] hx rfl ?_ (by simpa using h1) h63 hbytes hbase fun v' w' h1 h2 _ h3 => h v' w' h1 h2 h3
  intro j u' hj
  match j, hj with
  | 0, hj => simp at hj; subst hj; simpa [Addr.add] using hu
theorem rd_of_own' {w : World} {base e n : Nat} {v : Value} {xs : List Value} (h : w.ownsRow base e 1 v n xs) : ∃ a c, v = .slice a n c ∧ Rd w w.heap.size a n xs ∧ (a = none → c = 0) := by
  obtain ⟨a, c, e1, hr⟩ := rd_of_own h
  refine ⟨a, c, e1, hr, fun ha => ?_⟩
  subst ha
  rcases h.2 with ⟨h2, _⟩ | ⟨g, cap, cur, h2, _⟩
  · rw [h2] at e1; simp at e1; exact e1.2.symm
  · rw [h2] at e1; simp at e1
theorem OutOk.at {w : World} {C : Nat} {v : Value} {L : List (List Nat)} (h : OutOk w C v L) {q : Nat} {l : List Nat} (hl : L[q]? = some l) : ∃ b o c a' c', v = .slice (some ⟨b, o, none⟩) L.length c ∧ w.cell? ⟨b, o + q, none⟩ = some (.slice a' l.length c') ∧ Rd w w.heap.size a' l.length (cellsI l) ∧ (a' = none → c' = 0) := by
  obtain ⟨vs, h1, h2⟩ := h
  obtain ⟨u, hu, ho⟩ := h2 q l hl
  obtain ⟨a', c', rfl, hr, hn⟩ := rd_of_own' ho
  obtain ⟨a, c, rfl, hr2, _⟩ := rd_of_own' h1
  obtain ⟨b, o, rfl, _, hc⟩ := hr2.2 (by have := (List.getElem?_eq_some_iff.1 hl).1; omega)
  exact ⟨b, o, c, a', c', rfl, hc q _ hu, hr, hn⟩
theorem OutOk.blk {w : World} {C : Nat} {v : Value} {L : List (List Nat)} (h : OutOk w C v L) : ∃ a c, v = .slice a L.length c := by
  obtain ⟨vs, h1, _⟩ := h
  obtain ⟨a, c, rfl, _⟩ := rd_of_own' h1
  exact ⟨a, c, rfl⟩

theorem fromL_step (n t a : Nat) : fromL n (t + 1) a = (List.range' a (n - t - a)).flatMap fun i => (fromL n t (i + 1)).map (i :: ·) := rfl
/-- So many of the first. -/
def fromP (n t a k : Nat) : List (List Nat) := (List.range' a k).flatMap fun i => (fromL n t (i + 1)).map (i :: ·)
theorem fromP_succ (n t a k : Nat) : fromP n t a (k + 1) = fromP n t a k ++ (fromL n t (a + k + 1)).map ((a + k) :: ·) := by
  unfold fromP
  rw [List.range'_concat, List.flatMap_append]
  simp
theorem fromP_len_le {n t a k m : Nat} (h : k ≤ m) : (fromP n t a k).length ≤ (fromP n t a m).length := by
  induction m with
  | zero => rw [show k = 0 by omega]; exact Nat.le_refl _
  | succ m ih =>
    by_cases e : k = m + 1
    · rw [e]; exact Nat.le_refl _
    · rw [fromP_succ, List.length_append]
      have := ih (by omega)
      omega

set_option maxRecDepth 100000 in
set_option maxHeartbeats 8000000 in
theorem ref_from (n : Nat) (hn : n ≤ 64) : ∀ (t : Nat), t ≤ 64 → ∀ (a : Nat), a ≤ 65 → (fromL n t a).length ≤ 4096 → ∀ w : World,
    Calls Try.prog 32 #[.int .i64 a, .int .i64 n, .int .i64 t] w fun e w' => ∃ v, e = .returned v ∧ OutOk w' w.heap.size v (fromL n t a) ∧ Below w.heap.size w w' := by
  intro t
  induction t with
  | zero =>
    intro _ a ha hL w
    go_enter Try.func32, Try.ntmps32
    go_wp2_with fail
    go_ret
    refine ⟨_, rfl, ⟨[.slice none 0 0], World.ownsRow_lit w #[.slice none 0 0] 1 (Nat.le_refl _) (by unfold maxLen; omega) rfl, fun i l hl => ?_⟩, (Below.refl _ _).alloc (Nat.le_refl _) _⟩
    cases i with
    | zero =>
      obtain rfl : [] = l := by simpa [fromL] using hl
      exact ⟨_, rfl, World.ownsRow_nil _ _ _ _⟩
    | succ i => simp [fromL] at hl
  | succ t ih =>
    intro ht a ha hL w
    have IH := Lib.hid ih
    clear ih
    have ht0 : (((t : Nat) : Int) + 1 == 0) = false := by rw [beq_eq_false_iff_ne]; omega
    have HLB : Hid ((fromP n t a (n - t - a)).length ≤ 4096) := Lib.hid hL
    show Calls Try.prog _ #[.int .i64 a, .int .i64 n, .int .i64 ((t : Int) + 1)] w fun e w' => ∃ v, e = .returned v ∧ OutOk w' w.heap.size v (fromP n t a (n - t - a)) ∧ Below w.heap.size w w'
    clear hL
    have et : (t : Int) + 1 - 1 = t := by omega
    go_enter Try.func32, Try.ntmps32
    go_wp2_with fail
    generalize hG : w.heap.size = G at *
    have HG := Lib.hid hG
    clear hG
    go_loopw [7, 8, 10] (fun v i _ wr => ∃ j k : Nat, Hid (j = a + k) ∧ j ≤ 129 ∧ Hid (k ≤ n - t - a) ∧ i = .int .i64 j ∧ Hid (OutOk wr G v (fromP n t a k)) ∧ Hid (Below G w wr)) (fun _ i _ _ => 130 - (intOf i).toNat)
    case atStart => exact ⟨a, 0, Lib.hid rfl, by omega, Lib.hid (Nat.zero_le _), rfl, Lib.hid ⟨[], World.ownsRow_nil _ _ _ _, by simp [fromP]⟩, Lib.hid (Below.refl _ _)⟩
    case round =>
      obtain ⟨j, k, HJ, hj, HK, rfl, HO, HB⟩ := hrel
      by_cases hlt : j + t + 1 ≤ n
      · have hlt' : (j : Int) + ((t : Int) + 1) ≤ (n : Int) := by omega
        have hk1 : k + 1 ≤ n - t - a := by have := HJ.out; omega
        have hl1 := fromP_len_le (n := n) (t := t) (a := a) hk1
        have hst := fromP_succ n t a k
        rw [← HJ.out] at hst
        have hlc : (fromL n t (j + 1)).length + (fromP n t a k).length ≤ 4096 := by
          have := HLB.out
          rw [hst, List.length_append, List.length_map] at hl1
          omega
        have cI : ∀ w : World, Calls Try.prog 32 #[.int .i64 ((j : Int) + 1), .int .i64 n, .int .i64 t] w fun e w' => ∃ v, e = .returned v ∧ OutOk w' w.heap.size v (fromL n t (j + 1)) ∧ Below w.heap.size w w' := IH.out (by omega) (j + 1) (by omega) (by omega)
        have hlen := fromL_len n t (j + 1)
        have hbdd := fromL_bd n t (j + 1)
        have HST := Lib.hid hst
        have CI := Lib.hid cI
        have HLEN := Lib.hid hlen
        have HBD := Lib.hid hbdd
        clear hst cI hlen hl1 hbdd
        generalize fromL n t (j + 1) = L at *
        generalize fromP n t a k = F at *
        go_wp2_with fail
        refine (CI.out _).mono ?_
        rintro e w2 ⟨vL, rfl, hoL, hb2⟩
        obtain ⟨aL, cL, rfl⟩ := hoL.blk
        have hO2 := Lib.hid (HO.out.new hb2)
        have hG0 : G ≤ wr.heap.size := by have := HB.out.size; have := HG.out; omega
        have hB2 := Lib.hid (HB.out.trans (hb2.mono hG0))
        have HOL := Lib.hid hoL
        have hCB := hb2.size
        have hvC : ∀ g, u7.ownBlock = some g → g < wr.heap.size ∨ w2.heap.size ≤ g := fun g hg => .inl (HO.out.lt g hg).2
        have HVC := Lib.hid hvC
        clear hvC hoL hb2 HO HB
        generalize hC : wr.heap.size = C at *
        clear hC
        go_wp2_with fail
        generalize hQ : L.length = Q at *
        have HQ := Lib.hid hQ
        clear hQ
        go_loopw [7, 10, 29] (fun v _ i wq => ∃ q : Nat, q ≤ Q ∧ i = .int .i64 q ∧ Hid (OutOk wq G v (F ++ (L.take q).map (j :: ·))) ∧ Hid (∀ k, C ≤ k → k < w2.heap.size → wq.heap[k]? = w2.heap[k]?) ∧ Hid (Below G w wq) ∧ Hid (w2.heap.size ≤ wq.heap.size) ∧ Hid (∀ g, v.ownBlock = some g → g < C ∨ w2.heap.size ≤ g)) (fun _ _ i _ => Q - (intOf i).toNat)
        case atStart => exact ⟨0, by omega, rfl, Lib.hid (by simpa using hO2.out), Lib.hid (fun _ _ _ => rfl), hB2, Lib.hid (Nat.le_refl _), HVC⟩
        case round =>
          clear hO2 hB2 HVC
          obtain ⟨q, hq, rfl, HO, HS, HB, HZ, HV⟩ := hrel
          by_cases hqQ : q < Q
          · obtain ⟨l, hl⟩ : ∃ l, L[q]? = some l := ⟨_, List.getElem?_eq_getElem (by rw [HQ.out]; exact hqQ)⟩
            have hoq : OutOk wr C (.slice aL Q cL) L := HOL.out.same HS.out
            obtain ⟨b, o, c, a', c', e1, hcell, hrd, hnil⟩ := hoq.at hl
            simp only [Value.slice.injEq] at e1
            obtain ⟨rfl, -, -⟩ := e1
            have hlt2 := HLEN.out l (List.mem_of_getElem? hl)
            rw [hlt2] at hcell hrd
            have HL := Lib.hid hl
            have HLT := Lib.hid hlt2
            have HRD := Lib.hid hrd
            clear hl hoq hlt2 hrd
            have hqQ' : (q : Int) < (Q : Int) := by omega
            have hCz : G ≤ wr.heap.size := by have := HZ.out; omega
            have hlen1 : ((L.take q).map (j :: ·)).length = q := by rw [List.length_map, List.length_take]; have := HQ.out; omega
            have htk : (L.take (q + 1)).map (j :: ·) = (L.take q).map (j :: ·) ++ [j :: l] := by
              have hqL : q < L.length := by rw [HQ.out]; exact hqQ
              rw [List.take_succ_eq_append_getElem hqL, List.map_append]
              have := HL.out
              rw [List.getElem?_eq_getElem hqL] at this
              rw [Option.some.inj this]
              rfl
            have HTK := Lib.hid htk
            have HLEN1 := Lib.hid hlen1
            clear htk hlen1
            have hr1 : Rd (wr.alloc (.cells #[.int .i64 (j : Nat)] 3)) wr.heap.size a' t (cellsI l) := HRD.out.below ((Below.refl wr.heap.size wr).alloc (Nat.le_refl _) _) (Nat.le_refl _)
            have hrl := hr1.len
            have HR1 := Lib.hid hr1
            clear hr1
            go_wp2_with (at_builtin; refine wp_appAt _ rfl _ _ 31 rfl G 3 (.int .i64 0) 8 Try.underlying31 info_int rfl (.slice (some ⟨wr.heap.size, 0, none⟩) 1 1) 1 [.int .i64 (j : Nat)] rfl ?q1 wr.heap.size a' t c' (cellsI l) rfl hnil HR1.out (cellsI_one l) ?q4 ?q5 ?q6 ?_)
            case q1 => exact World.ownsRow_lit wr #[.int .i64 (j : Nat)] 1 hCz (by unfold maxLen; omega) rfl
            case q4 => omega
            case q5 => unfold maxLen; omega
            case q6 => first | omega | (simp; omega)
            intro v6 w6 hown6 hg6 _
            have hb6 : Below wr.heap.size wr w6 := ((Below.refl wr.heap.size wr).alloc (Nat.le_refl _) _).grown hg6 (by simp) (fun g hg => by simp [Value.ownBlock] at hg; omega)
            have hO6 := HO.out.new hb6
            have hS6 : ∀ k, C ≤ k → k < w2.heap.size → w6.heap[k]? = w2.heap[k]? := fun k h1 h2 => (hb6.block k (by have := HZ.out; omega)).trans (HS.out k h1 h2)
            have hB6 := HB.out.trans (hb6.mono hCz)
            have hZ6 := Nat.le_trans HZ.out hb6.size
            obtain ⟨va, vc, rfl, _⟩ := rd_of_own' hown6
            have hown6' : w6.ownsRow G 3 1 (.slice va (1 + t) vc) (j :: l).length (cellsI (j :: l)) := by
              rw [List.length_cons, HLT.out, Nat.add_comm t 1]
              exact hown6
            obtain ⟨vs, ho1, ho2⟩ := hO6
            have hm : (F ++ (L.take q).map (j :: ·)).length = F.length + q := by rw [List.length_append, HLEN1.out]
            rw [hm] at ho1
            have HM := Lib.hid hm
            have HO1 := Lib.hid ho1
            have HO2 := Lib.hid ho2
            have HOW := Lib.hid hown6'
            have HS6 := Lib.hid hS6
            have HB6 := Lib.hid hB6
            have HZ6 := Lib.hid hZ6
            clear hown6 hg6 hb6 hS6 hB6 hZ6 hown6' ho1 ho2 hm HO HS HB HZ HR1 HRD hcell
            go_wp2_with (at_builtin; refine wp_app1At _ rfl _ _ 42 rfl G 31 (.slice none 0 0) 24 Try.underlying42 info_ints rfl _ (F.length + q) vs rfl ?p1 _ (.slice va (1 + t) vc) rfl ?p2 rfl ?p3 ?p4 ?p5 ?_)
            case p1 => exact HO1.out.alloc _
            case p2 => go_simp
            case p3 => have := HQ.out; omega
            case p4 => have := HQ.out; unfold maxLen; omega
            case p5 => have := HZ6.out; first | omega | (simp; omega)
            intro v7 w7 hown7 hg7 hat
            have hzz : (w6.alloc (.cells #[.slice va (1 + t) vc] 31)).heap.size = w6.heap.size + 1 := by simp
            have hO7 : OutOk w7 G v7 (F ++ (L.take (q + 1)).map (j :: ·)) := by
              rw [HTK.out, ← List.append_assoc]
              refine OutOk.snoc (w := w6.alloc (.cells #[.slice va (1 + t) vc] 31)) (vs := vs) (by rw [HM.out]; exact HO1.out.alloc _) (fun i m hm => ?_) (HOW.out.alloc _) (by rw [HM.out]; exact hown7) hg7
              obtain ⟨u, hu, ho⟩ := HO2.out i m hm
              exact ⟨u, hu, ho.alloc _⟩
            have hne : ∀ k, C ≤ k → k < w2.heap.size → some k ≠ u7.ownBlock := fun k h1 h2 e => by
              rcases HV.out k e.symm with h | h <;> omega
            have hS7 : ∀ k, C ≤ k → k < w2.heap.size → w7.heap[k]? = w2.heap[k]? := fun k h1 h2 =>
              ((hg7.block k (by rw [hzz]; have := HZ6.out; omega) (hne k h1 h2)).trans (Below.heap_alloc w6 _ k (by have := HZ6.out; omega))).trans (HS6.out k h1 h2)
            have hB7 : Below G w w7 := (HB6.out.alloc (by have := HZ6.out; omega) _).grown hg7 (by rw [hzz]; have := HZ6.out; omega) (fun g hg => (HO1.out.lt g hg).1)
            have hZ7 : w2.heap.size ≤ w7.heap.size := by have := hg7.size; rw [hzz] at this; have := HZ6.out; omega
            have hV7 : ∀ g, v7.ownBlock = some g → g < C ∨ w2.heap.size ≤ g := fun g hg => by
              rcases hat with h | h
              · exact HV.out g (by rw [← h]; exact hg)
              · first | rw [h, hzz] at hg | rw [h] at hg
                have : w6.heap.size + 1 = g := by simpa using hg
                right; have := HZ6.out; omega
            have HO7 := Lib.hid hO7
            have HS7 := Lib.hid hS7
            have HB7 := Lib.hid hB7
            have HZ7 := Lib.hid hZ7
            have HV7 := Lib.hid hV7
            clear hO7 hS7 hB7 hZ7 hV7 hown7 hg7 hat hne hzz HO1 HO2 HOW HS6 HB6 HZ6 HV
            go_wp2_with fail
            go_roundw
            case rel => first | exact ⟨q + 1, by omega, by go_num, HO7, HS7, HB7, HZ7, HV7⟩ | ((repeat apply Exists.intro); exact ⟨⟨q + 1, by omega, by go_num, HO7, HS7, HB7, HZ7, HV7⟩, rfl⟩)
            case measure => simp [intOf]; omega
          · obtain rfl : q = Q := by omega
            have hfull : F ++ (L.take q).map (j :: ·) = fromP n t a (k + 1) := by
              rw [HST.out, List.take_of_length_le (by rw [HQ.out]; exact Nat.le_refl _)]
            have HO2 : Hid (OutOk wr G u7 (fromP n t a (k + 1))) := Lib.hid (by rw [← hfull]; exact HO.out)
            clear hfull HO
            go_wp2_with fail
            go_roundw
            case rel => exact ⟨j + 1, k + 1, Lib.hid (by have := HJ.out; omega), by omega, Lib.hid hk1, by go_num, HO2, HB⟩
            case measure => simp [intOf]; omega
      · have hlt' : ¬ (j : Int) + ((t : Int) + 1) ≤ (n : Int) := by omega
        have hkk : k = n - t - a := by have := HJ.out; have := HK.out; omega
        subst hkk
        go_wp2_with fail
        go_ret
        exact ⟨_, rfl, by rw [HG.out]; exact HO.out, by rw [HG.out]; exact HB.out⟩
end Go.Proofs.Ytmaofhbnmkcimaa
