/- The package gf: New and the field's own functions. -/
import Derived.Test.YtfbhbjhfebkpfaaGfT
import Derived.Deep.RegionWith
namespace Go.Proofs.Ytfbhbjhfebkpfaa
open Go.RowKit
set_option linter.unusedVariables false

theorem rangeAt_below {w w' : World} {B b o : Nat} {cs : List Value} (hb : Below B w w') (h : w.rangeAt b o cs) (hB : b < B) : w'.rangeAt b o cs :=
  fun j v hv => (hb.cell (p := ⟨b, o + j, none⟩) hB).trans (h j v hv)
theorem wp_build_eq {P : Program} {o : Oper} {a : Act} {w : World} {K : Act → World → Prop} {Q : Exit → Act → World → Prop} (t : TypeId) (parts : Array (Nat × Operand)) (ho : o.op = .build t parts) (cells : Array Value)
    (vals : List (Nat × Value)) (hv : (parts.map fun (i, x) => (i, a.eval x)).toList = vals) (h : P.built t vals = some cells) (hK : K (a.put o.dst (.agg cells)) w) : o.wp P a w K Q := by
  refine wp_build t parts ho (by rw [hv, h]; rfl) ?_
  rw [hv, h]
  exact hK
theorem pw_all : ∀ v ∈ (pwRow 255).toList, v.oneCell' = true := by
  intro v hv
  simp only [pwRow, List.mem_map] at hv
  obtain ⟨i, _, rfl⟩ := hv
  rfl

set_option maxRecDepth 100000 in
set_option maxHeartbeats 2000000 in
theorem gf_new (w : World) :
    Calls Try.prog 24 #[] w fun e w' => ∃ g, e = .returned (.pointer (some ⟨g, 0, none⟩)) ∧ w.heap.size ≤ g ∧ Fld w' g ∧ Below w.heap.size w w' := by
  go_enter Try.func24, Try.ntmps24
  go_wp2_with fail
  refine (gf_powers _).mono ?_
  rintro e w1 ⟨rfl, hb1⟩
  go_wp2_with (refine wpList_store_row rfl 95 _ _ rfl w1.heap.size (pwRow 255) rfl rfl 95 Try.zeroCells95 ?hb (by kernel_rfl) (by kernel_rfl) (by kernel_rfl) ?_)
  case hb => exact Blk.new _ _ _
  have hR : (((w1.alloc (Obj.cells Try.zeroCells95 95)).setRow w1.heap.size (pwRow 255))).rangeAt w1.heap.size 0 (pwRow 255).toList := by
    have := World.rangeAt_of_block ((Blk.new w1 95 Try.zeroCells95).row (pwRow 255)) 0 255
    simpa [pwRow_size, Array.extract_eq_self_of_le] using this
  have hbW : Below w.heap.size w ((w1.alloc (Obj.cells Try.zeroCells95 95)).setRow w1.heap.size (pwRow 255)) := below_setRow' (hb1.alloc hb1.size _) hb1.size _
  have hzW : w1.heap.size < ((w1.alloc (Obj.cells Try.zeroCells95 95)).setRow w1.heap.size (pwRow 255)).heap.size := by simp
  generalize ((w1.alloc (Obj.cells Try.zeroCells95 95)).setRow w1.heap.size (pwRow 255)) = w2 at *
  generalize w1.heap.size = C at *
  have hbld := fld_built
  have hlog := fun w => gf_logs w
  have hu := Try.underlying95
  have hl : (pwRow 255).toList.length = 255 := by simp [pwRow_size]
  have hi : (Try.prog.info? 95).map (·.size) = some (pwRow 255).toList.length := by rw [hl]; kernel_rfl
  have h1 := pw_all
  have e1 : pwRow 255 = (pwRow 255).toList.toArray := by simp
  simp only [Act.put]
  rw [e1] at hbld hlog
  rw [e1]
  clear e1
  generalize (pwRow 255).toList = cs at *
  have HL := Lib.hid hlog
  clear hlog
  have hR2 : w2.drew.rangeAt C 0 cs := hR
  refine wp_region_held_drew (S := fun w' => w'.rangeAt C 0 cs) (by kernel_rfl) hR2 (fun hS0 => ?_)
  refine wpAnyH_take (i := 0) (v := .agg cs.toArray) rfl (by kernel_rfl) (by kernel_rfl) (by kernel_rfl) (fun _ _ _ h => h) (yieldsIf_load_mid (by rfl) _ _ rfl C 0 rfl cs _ (fun _ h => h) hu rfl hi) hS0 ?_
  simp only [Act.put, List.setIfInBounds_toArray, List.set_cons_zero, List.set_cons_succ]
  refine wpAnyH_take (i := 1) (v := .agg cs.toArray) rfl (by kernel_rfl) (by kernel_rfl) (by kernel_rfl) (fun _ _ _ h => h) (yieldsIf_load_mid (by rfl) _ _ rfl C 0 rfl cs _ (fun _ h => h) hu rfl hi) hS0 ?_
  simp only [Act.put, List.setIfInBounds_toArray, List.set_cons_zero, List.set_cons_succ]
  clear hu hi hl h1
  refine wpAnyH_ready (rs := [2]) (by kernel_rfl) (by simp) ?_
  refine AllReadyH.cons rfl (fun K hK => ?_) AllReadyH.nil
  go_simp
  refine (HL.out _).mono ?_
  rintro e w3 ⟨rfl, hb3⟩
  have hR3 : w3.rangeAt C 0 cs := rangeAt_below hb3 hR2 (by simpa using hzW)
  refine hK.out _ _ hR3 (fun hHeld => ?_)
  clear hK K
  refine wpAnyH_ready (rs := [3]) (by kernel_rfl) (by simp) ?_
  refine AllReadyH.cons rfl (fun K hK => ?_) AllReadyH.nil
  rw [if_pos (by rfl)]
  refine wp_build_eq _ _ rfl fldRow [(0, .agg cs.toArray), (1, .agg (lgRow 255))] (by simp [go_sem]) hbld ?_
  refine hK.out _ _ hR3 (fun hHeld => ?_)
  clear hK K
  refine wpAnyH_ready (rs := [4]) (by kernel_rfl) (by simp) ?_
  refine AllReadyH.cons rfl (fun K hK => ?_) AllReadyH.nil
  go_simp
  refine hK.out _ _ (World.rangeAt_alloc hR3 _) (fun hHeld => ?_)
  clear hK K
  refine wpAnyH_ready (rs := [5]) (by kernel_rfl) (by simp) ?_
  refine AllReadyH.cons rfl (fun K hK => ?_) AllReadyH.nil
  go_simp
  refine hK.out _ _ (World.rangeAt_alloc hR3 _) (fun hHeld => ?_)
  clear hK K
  refine wpAnyH_done (by kernel_rfl) ?_ _
  go_wp2_with fail
  go_ret
  have hz : w.heap.size ≤ w3.heap.size := Nat.le_trans hbW.size (by simpa using hb3.size)
  exact ⟨_, rfl, hz, Blk.new _ _ _, (hbW.drew.trans (hb3.mono (by simpa using hbW.size))).alloc hz _⟩
end Go.Proofs.Ytfbhbjhfebkpfaa
