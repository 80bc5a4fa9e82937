/-
  crannoglaw08.DiffTrees returns true for every input, and each argument reads behind the call as it read before. No condition.
-/
import Derived.Test.YtbajgpadmlnffaaGreatTM8
namespace Go.Proofs.YtbajgpadmlnffaaGreat
open Go.V Go.ChangeShapes Go.WideShapes Go.ChangeAt Go.RowKit Go.WideElems Go.Deep
set_option linter.unusedVariables false

set_option maxRecDepth 100000 in
theorem trees_lifted (os : Os) (started : os.Started) (H : Type) (enc : TypeId × Value → H) :
    ReturnsInHanded {} Tryz.checked os 6 .any (Rows.diffTreesSpec.pre6 enc Tryz.prog Tryz.f6 Rows.diffTreesRow.domain false) (Rows.diffTreesSpec.post enc Tryz.prog Tryz.f6 false true false false) := by
  refine returnsInHanded_of_change (C := Tryz.checked) ow started (by kernel_rfl) Tryz.func6
    (ChangeSpec.witness6 (enc := enc) (C := Tryz.checked) false ⟨#[], #[.slice none 0 0, .slice none 0 0], []⟩ 8 (by kernel_rfl) (by kernel_rfl) (by kernel_rfl) (by kernel_rfl)) ?_
  intro W base args ds gs before hval0 hW hcnd _
  have hval : ∀ (j : Nat) t v, Tryz.f6.params[j]? = some t → args[j]? = some v → Value.okWide Tryz.prog W .any base t v := hval0
  have hW' := hW
  obtain ⟨p, q, hA0, hV, rfl, hfz, hnd⟩ := hW
  have hA : DataW.TrodAll enc Tryz.prog W 0 (fun _ => true) true Tryz.f6.params.toList args.toList ds p := hA0
  rw [Tryz.params6] at hA hval
  obtain ⟨v0, v1, d0, d1, p0, p1, rfl, rfl, rfl, h0, h1⟩ := trodAll_two hA
  obtain ⟨rfl, rfl⟩ := trodVars_none hV
  obtain ⟨A1, cap1, l1, rfl, hR1, _⟩ := open_changes (hval 0 22 v0 rfl rfl) h0
  obtain ⟨A2, cap2, l2, rfl, hR2, _⟩ := open_changes (hval 1 22 v1 rfl rfl) h1
  clear hA0 hval0
  simp only [List.append_nil] at hW'
  refine Calls.mono (law_trees W A1 cap1 l1 0 _ hR1 (Nat.le_refl _) A2 cap2 l2 0 _ hR2 (Nat.le_refl _)) fun e W' ⟨v, he, hv, hx⟩ => ?_
  subst he; subst hv
  have hb := ext_below hx
  have hlt : ∀ p ∈ p0 ++ p1, p.block < W.heap.size := fun p hp => hW'.lt p hp
  have hl : laidOutB Tryz.prog = true := by kernel_rfl
  refine ⟨_, rfl, law_post rfl (by kernel_rfl) hW' rfl rfl rfl (fun sp hs => ?_) hb⟩
  exact trodAll_mk2 (Trod_stays hl (by kernel_rfl) (of_decide_eq_true (by kernel_rfl)) h0 (fun p hp => hb.same (hlt p (by simp [hp]))) (fun p hp => hs p (by simp [hp])))
    (Trod_stays hl (by kernel_rfl) (of_decide_eq_true (by kernel_rfl)) h1 (fun p hp => hb.same (hlt p (by simp [hp]))) (fun p hp => hs p (by simp [hp])))
theorem trees_over : Rows.diffTreesRow.holds Tryz.pinned (OpenSpec.ofChange Rows.diffTreesSpec) :=
  OpenClaim.holds_of_wide 6 Tryz.f6 rfl rfl rfl rfl rfl rfl rfl ⟨rfl, rfl, rfl, rfl, rfl⟩ rfl rfl rfl rfl rfl (by kernel_rfl) Tryz.func6 (by kernel_rfl)
    (of_decide_eq_true (by kernel_rfl)) (by unfold Func.isWrapper; first | (rw [if_pos (by decide +kernel)]; kernel_rfl) | (rw [if_neg (by decide +kernel)]; exact ⟨rfl, rfl⟩))
    (fun os started H enc _ => trees_lifted os started H enc)
theorem trees_proved : Rows.DiffTreesSaid := trees_over
#print axioms trees_proved
end Go.Proofs.YtbajgpadmlnffaaGreat
