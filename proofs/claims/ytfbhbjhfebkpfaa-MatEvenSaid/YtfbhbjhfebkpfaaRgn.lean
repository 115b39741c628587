/- A region that draws its order: what it loads stays till its first store comes up: so loads are taken first though the region stores into the very cells at its end. -/
import Derived.Deep.RegionHeld
namespace Go.Proofs.Ytfbhbjhfebkpfaa
section
variable {P : Program} {ops : Array Oper} {Q : Exit → Act → World → Prop} {md : Region.Mode} {S : World → Prop} {k : Nat}

/-- Whatever order: behind each operation S holds as long as number k has not come up. -/
def wpTill (P : Program) (md : Region.Mode) (ops : Array Oper) (Q : Exit → Act → World → Prop) (S : World → Prop) (k : Nat) : Nat → Array Bool → Act → World → Prop
  | 0, done, a, w => Region.ready md ops done = [] ∧ Q .normal a w
  | n + 1, done, a, w => (Region.ready md ops done = [] → Q .normal a w) ∧
      ∀ i ∈ Region.ready md ops done, wpOp P ops Q i (fun a' w' => ((done.setIfInBounds i true).getD k true = false → S w') ∧ wpTill P md ops Q S k n (done.setIfInBounds i true) a' w') a w

theorem wpAny_of_till : ∀ (n : Nat) (done : Array Bool) (a : Act) (w : World), wpTill P md ops Q S k n done a w → wpAny P md ops Q n done a w
  | 0, _, _, _, h => h
  | n + 1, _, _, _, h => ⟨h.1, fun i hi => wpOp_mono (fun a' w' h' => wpAny_of_till n _ a' w' h'.2) (h.2 i hi)⟩

theorem set_true_of {l : Array Bool} {i k : Nat} (h : l.getD k true = true) : (l.setIfInBounds i true).getD k true = true := by
  by_cases e : i = k
  · subst e
    rcases Nat.lt_or_ge i l.size with h' | h' <;> simp [h']
  · rw [getD_set_ne true e]; exact h

/-- Once number k has come up nothing is asked of the world. -/
theorem till_of_any : ∀ (n : Nat) (done : Array Bool) (a : Act) (w : World), done.getD k true = true → wpAny P md ops Q n done a w → wpTill P md ops Q S k n done a w
  | 0, _, _, _, _, h => h
  | n + 1, done, _, _, hk, h => ⟨h.1, fun i hi => wpOp_mono (fun a' w' h' => ⟨fun h0 => (by rw [set_true_of hk] at h0; cases h0), till_of_any n _ a' w' (set_true_of hk) h'⟩) (h.2 i hi)⟩

/-- The operation i may be taken first: it yields its value wherever S holds, and number k waits for it. -/
theorem till_first {i : Nat} {oi : Oper} {v : Value} (hi : ops[i]? = some oi) (hsel : ∀ (j : Nat) (o : Oper) cs b, ops[j]? = some o → o.op ≠ .select cs b)
    (hQ : ∀ c a w, Q (.panic c) (a.put oi.dst v) w → Q (.panic c) a w) (hik : i ≠ k) (hwait : ∀ (done : Array Bool), done.getD i true = false → k ∉ Region.ready md ops done) :
    ∀ (n : Nat) (done : Array Bool) (a : Act) (w : World),
      (∀ j oj, ops[j]? = some oj → j ≠ i → done.getD j true = false → (∀ e ∈ oj.after, Region.binds md e = true → e.on ≠ i) → oi.apart ops oj = true) →
      i ∈ Region.ready md ops done → done.getD k true = false → YieldsIf P ops S oi v a → S w →
      wpTill P md ops Q S k n (done.setIfInBounds i true) (a.put oi.dst v) w → wpTill P md ops Q S k (n + 1) done a w := by
  intro n
  induction n with
  | zero =>
    intro done a w _ hr hk hy hS H
    refine ⟨fun h => (by rw [h] at hr; cases hr), fun j hj => ?_⟩
    by_cases hji : j = i
    · subst hji; exact hy.wpOp hi hS ⟨fun _ => hS, H⟩
    · have h1 := ready_mono hj hji
      rw [H.1] at h1
      cases h1
  | succ n ih =>
    intro done a w hfree hr hk hy hS H
    refine ⟨fun h => (by rw [h] at hr; cases hr), fun j hj => ?_⟩
    by_cases hji : j = i
    · subst hji; exact hy.wpOp hi hS ⟨fun _ => hS, H⟩
    · have h1 := H.2 j (ready_mono hj hji)
      obtain ⟨hun, oj, hoj, hall⟩ := mem_ready.1 hj
      have h0 := (mem_ready.1 hr).1
      have hjk : j ≠ k := fun e => hwait done h0 (e ▸ hj)
      have hnot : ∀ e ∈ oj.after, Region.binds md e = true → e.on ≠ i := fun e he hb heq => by
        have h2 := hall e he hb
        rw [heq] at h2
        rcases Nat.lt_or_ge i done.size with h' | h'
        · simp [h'] at h0 h2; rw [h0] at h2; cases h2
        · simp [Array.getElem?_eq_none h'] at h2
      have h2 := wpOp_putIf hoj (hfree j oj hoj hji hun hnot) (fun cs b => hsel i oi cs b hi) (fun cs b => hsel j oj cs b hoj) hQ hy h1
      have hfree' : ∀ l ol, ops[l]? = some ol → l ≠ i → (done.setIfInBounds j true).getD l true = false →
          (∀ e ∈ ol.after, Region.binds md e = true → e.on ≠ i) → oi.apart ops ol = true := fun l ol hl hli hu hno => by
        refine hfree l ol hl hli ?_ hno
        by_cases hjl : j = l
        · subst hjl; exact hun
        · rw [getD_set_ne true hjl] at hu; exact hu
      have hk2 : (done.setIfInBounds j true).getD k true = false := by rw [getD_set_ne true hjk]; exact hk
      have hk3 : ((done.setIfInBounds i true).setIfInBounds j true).getD k true = false := by rw [getD_set_ne true hjk, getD_set_ne true hik]; exact hk
      refine wpOp_mono (fun a' w' h3 => ⟨fun _ => h3.2.1 hk3, ih (done.setIfInBounds j true) a' w' hfree' (ready_mono hr (Ne.symm hji)) hk2 h3.1 (h3.2.1 hk3) ?_⟩) h2
      rw [Array.setIfInBounds_comm _ _ hji]
      exact h3.2.2

/-- That number k waits for number i, as the region is written. -/
theorem waits_of {i : Nat} {ok : Oper} (hk : ops[k]? = some ok) (h : ok.after.any (fun e => Region.binds md e && e.on == i) = true) (done : Array Bool) (h0 : done.getD i true = false) : k ∉ Region.ready md ops done := fun hr => by
  obtain ⟨_, o, ho, hall⟩ := mem_ready.1 hr
  rw [hk] at ho
  injection ho with ho
  subst ho
  obtain ⟨e, he, hb⟩ := Array.any_eq_true'.1 h
  simp only [Bool.and_eq_true, beq_iff_eq] at hb
  have h2 := hall e he hb.1
  rw [hb.2] at h2
  rcases Nat.lt_or_ge i done.size with h' | h'
  · simp [h'] at h0 h2; rw [h0] at h2; cases h2
  · simp [Array.getElem?_eq_none h'] at h2

theorem till_take {i : Nat} {oi ok : Oper} {v : Value} {n : Nat} {done : Array Bool} {a : Act} {w : World} (hi : ops[i]? = some oi)
    (hs : Region.noSelect ops = true) (hf : Region.free md ops done i = true) (hr : (Region.ready md ops done).contains i = true) (hdk : done.getD k true = false)
    (hk : ops[k]? = some ok) (hw : ok.after.any (fun e => Region.binds md e && e.on == i) = true) (hik : i ≠ k)
    (hQ : ∀ c a w, Q (.panic c) (a.put oi.dst v) w → Q (.panic c) a w) (hy : YieldsIf P ops S oi v a) (hS : S w)
    (h : wpTill P md ops Q S k n (done.setIfInBounds i true) (a.put oi.dst v) w) : wpTill P md ops Q S k (n + 1) done a w :=
  till_first hi (Region.noSelect_spec hs) hQ hik (waits_of hk hw) n done a w (Region.free_spec hi hf) (by simpa using hr) hdk hy hS h

/-- What yields in whatever world may be taken first, whether number k waits for it or not. -/
theorem pure_first {i : Nat} {oi : Oper} {v : Value} (hi : ops[i]? = some oi) (hsel : ∀ (j : Nat) (o : Oper) cs b, ops[j]? = some o → o.op ≠ .select cs b)
    (hQ : ∀ c a w, Q (.panic c) (a.put oi.dst v) w → Q (.panic c) a w) (hik : i ≠ k) :
    ∀ (n : Nat) (done : Array Bool) (a : Act) (w : World),
      (∀ j oj, ops[j]? = some oj → j ≠ i → done.getD j true = false → (∀ e ∈ oj.after, Region.binds md e = true → e.on ≠ i) → oi.apart ops oj = true) →
      i ∈ Region.ready md ops done → YieldsIf P ops (fun _ => True) oi v a → (done.getD k true = false → S w) →
      wpTill P md ops Q S k n (done.setIfInBounds i true) (a.put oi.dst v) w → wpTill P md ops Q S k (n + 1) done a w := by
  intro n
  induction n with
  | zero =>
    intro done a w _ hr hy hS H
    refine ⟨fun h => (by rw [h] at hr; cases hr), fun j hj => ?_⟩
    by_cases hji : j = i
    · subst hji; exact hy.wpOp hi trivial ⟨fun h => hS (by rw [getD_set_ne true hik] at h; exact h), H⟩
    · have h1 := ready_mono hj hji
      rw [H.1] at h1
      cases h1
  | succ n ih =>
    intro done a w hfree hr hy hS H
    refine ⟨fun h => (by rw [h] at hr; cases hr), fun j hj => ?_⟩
    by_cases hji : j = i
    · subst hji; exact hy.wpOp hi trivial ⟨fun h => hS (by rw [getD_set_ne true hik] at h; exact h), H⟩
    · have h1 := H.2 j (ready_mono hj hji)
      obtain ⟨hun, oj, hoj, hall⟩ := mem_ready.1 hj
      have h0 := (mem_ready.1 hr).1
      have hnot : ∀ e ∈ oj.after, Region.binds md e = true → e.on ≠ i := fun e he hb heq => by
        have h2 := hall e he hb
        rw [heq] at h2
        rcases Nat.lt_or_ge i done.size with h' | h'
        · simp [h'] at h0 h2; rw [h0] at h2; cases h2
        · simp [Array.getElem?_eq_none h'] at h2
      have h2 := wpOp_putIf hoj (hfree j oj hoj hji hun hnot) (fun cs b => hsel i oi cs b hi) (fun cs b => hsel j oj cs b hoj) hQ hy h1
      have hfree' : ∀ l ol, ops[l]? = some ol → l ≠ i → (done.setIfInBounds j true).getD l true = false →
          (∀ e ∈ ol.after, Region.binds md e = true → e.on ≠ i) → oi.apart ops ol = true := fun l ol hl hli hu hno => by
        refine hfree l ol hl hli ?_ hno
        by_cases hjl : j = l
        · subst hjl; exact hun
        · rw [getD_set_ne true hjl] at hu; exact hu
      have hkk : ((done.setIfInBounds i true).setIfInBounds j true).getD k true = (done.setIfInBounds j true).getD k true := by
        rw [Array.setIfInBounds_comm _ _ (Ne.symm hji), getD_set_ne true hik]
      refine wpOp_mono (fun a' w' h3 => ⟨fun h => h3.2.1 (hkk.trans h), ih (done.setIfInBounds j true) a' w' hfree' (ready_mono hr (Ne.symm hji)) h3.1 (fun h => h3.2.1 (hkk.trans h)) ?_⟩) h2
      rw [Array.setIfInBounds_comm _ _ hji]
      exact h3.2.2

theorem pure_take {i : Nat} {oi : Oper} {v : Value} {n : Nat} {done : Array Bool} {a : Act} {w : World} (hi : ops[i]? = some oi)
    (hs : Region.noSelect ops = true) (hf : Region.free md ops done i = true) (hr : (Region.ready md ops done).contains i = true) (hik : i ≠ k)
    (hQ : ∀ c a w, Q (.panic c) (a.put oi.dst v) w → Q (.panic c) a w) (hy : YieldsIf P ops (fun _ => True) oi v a) (hS : done.getD k true = false → S w)
    (h : wpTill P md ops Q S k n (done.setIfInBounds i true) (a.put oi.dst v) w) : wpTill P md ops Q S k (n + 1) done a w :=
  pure_first hi (Region.noSelect_spec hs) hQ hik n done a w (Region.free_spec hi hf) (by simpa using hr) hy hS h

/-- One alone may come up. -/
theorem till_one {i : Nat} {o : Oper} {n : Nat} {done : Array Bool} {a : Act} {w : World} (hr : Region.ready md ops done = [i]) (ho : ops[i]? = some o)
    (h : ∀ K : Act → World → Prop, Shut (∀ a w, ((done.setIfInBounds i true).getD k true = false → S w) → wpTill P md ops Q S k n (done.setIfInBounds i true) a w → K a w) → if Region.wanted o (yielded ops a.tmps) = true then Oper.wp P o a w K Q else K (a.put o.dst undef) w) :
    wpTill P md ops Q S k (n + 1) done a w :=
  ⟨fun h0 => (by rw [hr] at h0; cases h0), fun j hj => by
    rw [hr, List.mem_singleton] at hj
    subst hj
    exact wpOp_step ho (fun K' hK => h K' (fun a w hS hW => hK a w ⟨hS, hW⟩))⟩

theorem till_done {done : Array Bool} {a : Act} {w : World} (hr : Region.ready md ops done = []) (h : Q .normal a w) : ∀ n, wpTill P md ops Q S k n done a w
  | 0 => ⟨hr, h⟩
  | _ + 1 => ⟨fun _ => h, by rw [hr]; simp⟩

theorem wp_region_till {id : Nat} {a : Act} {w : World} (k : Nat) (hm : P.follows .mixedOrders = true) (hS : S w.drew)
    (h : S w.drew → wpTill P .any ops Q S k ops.size (Array.replicate ops.size false) a w.drew) : (Code.region id ops true).wp P Q a w :=
  wp_region_any hm (wpAny_of_till _ _ _ _ (h hS))
end
end Go.Proofs.Ytfbhbjhfebkpfaa
