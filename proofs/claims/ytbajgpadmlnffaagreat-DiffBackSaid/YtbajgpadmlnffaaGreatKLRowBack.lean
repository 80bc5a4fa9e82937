/-
  crannoglaw08.DiffBack returns true for every input, and its argument reads behind the call as it read before. No condition.
-/
import Derived.Test.YtbajgpadmlnffaaGreatKM8
namespace Go.Proofs.YtbajgpadmlnffaaGreat
open Go.V Go.ChangeShapes Go.WideShapes Go.ChangeAt Go.RowKit Go.WideElems Go.Deep
set_option linter.unusedVariables false

set_option maxRecDepth 100000 in
theorem back_lifted (os : Os) (started : os.Started) (H : Type) (enc : TypeId × Value → H) :
    ReturnsInHanded {} Tryz.checked os 5 .any (Rows.diffBackSpec.pre6 enc Tryz.prog Tryz.f5 Rows.diffBackRow.domain false) (Rows.diffBackSpec.post enc Tryz.prog Tryz.f5 false true false false) := by
  refine returnsInHanded_of_change (C := Tryz.checked) ow started (by kernel_rfl) Tryz.func5
    (ChangeSpec.witness6 (enc := enc) (C := Tryz.checked) false ⟨#[], #[.slice none 0 0], []⟩ 8 (by kernel_rfl) (by kernel_rfl) (by kernel_rfl) (by kernel_rfl)) ?_
  intro W base args ds gs before hval0 hW hcnd _
  have hval : ∀ (j : Nat) t v, Tryz.f5.params[j]? = some t → args[j]? = some v → Value.okWide Tryz.prog W .any base t v := hval0
  have hW' := hW
  obtain ⟨p, q, hA0, hV, rfl, hfz, hnd⟩ := hW
  have hA : DataW.TrodAll enc Tryz.prog W 0 (fun _ => true) true Tryz.f5.params.toList args.toList ds p := hA0
  rw [Tryz.params5] at hA hval
  obtain ⟨v0, d0, rfl, rfl, h0⟩ := trodAll_one hA
  obtain ⟨rfl, rfl⟩ := trodVars_none hV
  obtain ⟨A1, cap1, l1, rfl, hR1, hz1⟩ := open_changes (hval 0 22 v0 rfl rfl) h0
  clear hA0 hval0
  simp only [List.append_nil] at hW'
  refine Calls.mono (law_back W A1 cap1 l1 0 _ hR1 (Nat.le_refl _) hz1) fun e W' ⟨v, he, hv, hx⟩ => ?_
  subst he; subst hv
  have hb := ext_below hx
  have hlt : ∀ x ∈ p, x.block < W.heap.size := fun x hp => hW'.lt x hp
  have hl : laidOutB Tryz.prog = true := by kernel_rfl
  refine ⟨_, rfl, law_post rfl (by kernel_rfl) hW' rfl rfl rfl (fun sp hs => ?_) hb⟩
  exact trodAll_mk1 (Trod_stays hl (by kernel_rfl) (of_decide_eq_true (by kernel_rfl)) h0 (fun x hp => hb.same (hlt x hp)) (fun x hp => hs x hp))
theorem back_over : Rows.diffBackRow.holds Tryz.pinned (OpenSpec.ofChange Rows.diffBackSpec) :=
  OpenClaim.holds_of_wide 5 Tryz.f5 rfl rfl rfl rfl rfl rfl rfl ⟨rfl, rfl, rfl, rfl, rfl⟩ rfl rfl rfl rfl rfl (by kernel_rfl) Tryz.func5 (by kernel_rfl)
    (of_decide_eq_true (by kernel_rfl)) (by unfold Func.isWrapper; first | (rw [if_pos (by decide +kernel)]; kernel_rfl) | (rw [if_neg (by decide +kernel)]; exact ⟨rfl, rfl⟩))
    (fun os started H enc _ => back_lifted os started H enc)
theorem back_proved : Rows.DiffBackSaid := back_over
#print axioms back_proved
end Go.Proofs.YtbajgpadmlnffaaGreat
