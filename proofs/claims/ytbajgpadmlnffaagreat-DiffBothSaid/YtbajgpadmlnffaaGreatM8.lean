/-
  A part of the proofs of this seat (Laws, Row): lemmas on which the last text leans. No condition.
-/
import Derived.Test.YtbajgpadmlnffaaGreatRows
import Derived.WalkKit
import Derived.ProofKit
import Derived.OpenShut
import Derived.Deep.Slices
import Derived.Deep.Fields
import Derived.WideKeyArgs
import Derived.Below
import Derived.ChangeSame
import Derived.Test.YtbajgpadmlnffaaGreatM7
/- The laws of layer 8: the walks. -/
namespace Go.Proofs.YtbajgpadmlnffaaGreat
open Go.V
set_option maxRecDepth 100000
set_option linter.unusedVariables false
set_option linter.unusedSimpArgs false

theorem ex_ne {σ : St} {ra rb : Int} (ha : TreeAt σ ra exE) (hb : TreeAt σ rb exF) : ra ≠ rb := fun e => by
  subst e
  have := ha.unique hb
  simp only [exE, exF] at this
  injection this with h1 _
  injection h1 with h2 _
  exact Lt.ne lab h2
theorem law_fresh2 (w : World) : Ret Tryz.prog 10 [] w fun v w' => ∃ (a : SAd) (σ : St), v = Pt a.s 0 ∧ StAt w' a σ ∧ Inv σ (fun _ => 0) ∧ σ.cells.length = 0 ∧ a.lo = w.heap.size ∧ Ext No w w' :=
  (law_fresh w).mono fun v w' ⟨a, δ, h1, h2, h3, h4, h5, h6, h7⟩ => ⟨a, _, h1, h2, inv_fresh h3 h4, rfl, h5, h7⟩

theorem ex_sizes : ∀ x ∈ exB, x.key.size ≤ maxLen ∧ x.val.size ≤ maxLen := by
  intro c hc
  simp only [exB, List.mem_cons, List.not_mem_nil, or_false] at hc
  rcases hc with rfl | rfl | rfl <;> decide
theorem law_awake (w : World) :
    Ret Tryz.prog 9 [] w fun v w' => v = B true ∧ Ext No w w' := by
  refine calls_of_XC Tryz.func9 rfl rfl ?_
  refine .seq ?_
  refine .region ?_
  refine xo.done 1 [] (by kernel_rfl) rfl (by kernel_rfl) ?_
  refine .seq ?_
  refine .region ?_
  refine xo.ret 0 (by kernel_rfl) (cf10 _ _) (law_fresh2 _) ?_
  rintro _ w1 ⟨a, σ0, rfl, hS2, hI3, hl04, hlo5, hx6⟩
  have z1 := hx6.size
  have lS := hS2.bs.lt
  have lMc := hS2.mc.lt
  have lMk := hS2.mkt.lt
  have hhi := hS2.hi
  have nSC : a.s ≠ a.mc := fun e => MapAt.ne hS2.mc hS2.bs e.symm
  have nKC : a.mkk ≠ a.mc := fun e => hS2.cmk e.symm
  have hlo0 : w.heap.size ≤ a.lo := by omega
  refine xo.done 1 [(1, Pt a.s 0)] (by kernel_rfl) rfl (by kernel_rfl) ?_
  refine .seq ?_
  refine .region ?_
  refine xo.bsl 3 22 2 #[(0, .agg #[S (⟨#[97]⟩), S (⟨#[49]⟩), B false]), (1, .agg #[S (⟨#[98]⟩), S (⟨#[50]⟩), B false])] (et := 34) (cs := [S (⟨#[97]⟩), S (⟨#[49]⟩), B false, S (⟨#[98]⟩), S (⟨#[50]⟩), B false]) (by kernel_rfl) (by kernel_rfl) ?_
  intro b7 w8 hb9 hx10 hg11
  have z8 := hx10.size
  have l9 := hb9.lt
  have hf12 := (hS2.no hx10)
  have hl1 := (show exA.length ≤ 200 by decide)
  refine xo.ret 0 (by kernel_rfl) (cf11 _ _) (diff_Apply _ a σ0 hf12 (fun _ => 0) hI3 (fun _ => Nat.zero_le _) 0 [] (.inl ⟨rfl, rfl⟩) (some ⟨b7, 0, none⟩) 2 exA b7 (b7 + 1) (show Rd kChange w8 b7 (b7 + 1) (some ⟨b7, 0, none⟩) exA from .inr ⟨b7, 0, rfl, Nat.le_refl _, Nat.lt_succ_self _, hb9.cs⟩) (by omega) ex_valid.1 (by simp only [List.length_nil]; omega) (by omega)) ?_
  rintro _ w14 ⟨r1, σ1, rfl, hS13, hx15, hAI1⟩
  have z14 := hx15.size
  have hlen1 := hAI1.len
  have hle1 : (applyE [] exA).length ≤ 200 := Nat.le_trans (applyE_length _ _) (by simp only [List.length_nil]; omega)
  rw [ex_e] at hAI1 hle1
  refine xo.done 5 [(1, Pt a.s 0), (2, I r1), (3, I 0)] (by kernel_rfl) rfl (by kernel_rfl) ?_
  refine .seq ?_
  refine .region ?_
  refine xo.bsl 5 22 3 #[(0, .agg #[S (⟨#[97]⟩), S (⟨#[]⟩), B true]), (1, .agg #[S (⟨#[98]⟩), S (⟨#[51]⟩), B false]), (2, .agg #[S (⟨#[99]⟩), S (⟨#[52]⟩), B false])] (et := 34) (cs := [S (⟨#[97]⟩), S (⟨#[]⟩), B true, S (⟨#[98]⟩), S (⟨#[51]⟩), B false, S (⟨#[99]⟩), S (⟨#[52]⟩), B false]) (by kernel_rfl) (by kernel_rfl) ?_
  intro b16 w17 hb18 hx19 hg20
  have z17 := hx19.size
  have l18 := hb18.lt
  have hf21 := (hS13.no hx19)
  have hl2 := (show exB.length ≤ 200 by decide)
  refine xo.ret 0 (by kernel_rfl) (cf11 _ _) (diff_Apply _ a σ1 hf21 (hH (fun _ => 0) r1) hAI1.inv (fun j => Nat.le_trans (hH_le (n := 0) (fun _ => Nat.le_refl _) r1 j) (by decide)) r1 _ hAI1.tree (some ⟨b16, 0, none⟩) 3 exB b16 (b16 + 1) (show Rd kChange w17 b16 (b16 + 1) (some ⟨b16, 0, none⟩) exB from .inr ⟨b16, 0, rfl, Nat.le_refl _, Nat.lt_succ_self _, hb18.cs⟩) (by omega) ex_valid.2 (by omega) (by omega)) ?_
  rintro _ w23 ⟨r2, σ2, rfl, hS22, hx24, hAI2⟩
  have z23 := hx24.size
  have hlen2 := hAI2.len
  have hle2 : (applyE (exE) exB).length ≤ 400 := Nat.le_trans (applyE_length _ _) (by omega)
  have hT1 : TreeAt σ2 r1 (exE) := hAI2.old hAI1.tree
  have hT2 := hAI2.tree
  have hA2 := hAI2.inv.alive
  rw [ex_f] at hT2 hle2
  refine xo.done 5 [(1, Pt a.s 0), (2, I r1), (3, I 0), (4, I r2), (5, I 0)] (by kernel_rfl) rfl (by kernel_rfl) ?_
  refine .seq ?_
  refine .region ?_
  refine xo.ret 3 (by kernel_rfl) (cf13 _ _) (diff_Trees _ a σ2 hS22 hA2 r1 r2 exE exF hT1 hT2 (by omega) (by omega)) ?_
  rintro _ w31 ⟨A25, c26, k27, rfl, ho28, hS29, hx32, hRun30⟩
  have z31 := hx32.size
  obtain ⟨la_, lb_, o1_, o2_, hrun_⟩ := hRun30 (ex_ne hT1 hT2)
  have hk2 : k27 = 2 := ex_run o1_ o2_ hT1 hT2 hrun_
  subst hk2
  rw [ex_l] at ho28
  rw [ex_l]
  refine xo.done 7 [(3, I 0), (5, I 0), (6, .slice A25 exB.length c26), (7, I (((2 : Nat) : Int))), (8, I 0)] (by kernel_rfl) rfl (by kernel_rfl) ?_
  refine .seq ?_
  refine .region ?_
  refine xo.val 12 (by kernel_rfl) (c_eql_t (show (((2 : Nat) : Int) : Int) = 2 from rfl)) ?_
  refine xo.bsl 6 22 3 #[(0, .agg #[S (⟨#[97]⟩), S (⟨#[]⟩), B true]), (1, .agg #[S (⟨#[98]⟩), S (⟨#[51]⟩), B false]), (2, .agg #[S (⟨#[99]⟩), S (⟨#[52]⟩), B false])] (et := 34) (cs := [S (⟨#[97]⟩), S (⟨#[]⟩), B true, S (⟨#[98]⟩), S (⟨#[51]⟩), B false, S (⟨#[99]⟩), S (⟨#[52]⟩), B false]) (by kernel_rfl) (by kernel_rfl) ?_
  intro b33 w34 hb35 hx36 hg37
  have z34 := hx36.size
  have l35 := hb35.lt
  have hs38 := (ho28.ext hx36 (fun _ _ h => h))
  refine xo.ret 0 (by kernel_rfl) (cf23 _ _) (equal_change _ exB A25 c26 w23.heap.size w34.heap.size hs38.rd (by omega) (some ⟨b33, 0, none⟩) 3 b33 (b33 + 1) (show Rd kChange w34 b33 (b33 + 1) (some ⟨b33, 0, none⟩) exB from .inr ⟨b33, 0, rfl, Nat.le_refl _, Nat.lt_succ_self _, hb35.cs⟩) (by omega) (by decide) ex_sizes) ?_
  rintro _ w39 ⟨rfl, hx40⟩
  have z39 := hx40.size
  refine xo.done 2 [(0, B true)] (by kernel_rfl) rfl (by kernel_rfl) ?_
  refine .ret ?_
  refine ⟨[B true], by kernel_rfl, _, rfl, ?_⟩
  exact ⟨rfl, ((((((((hx6.weak fun b hb h => h.elim).trans' hx10 (fun _ _ h => h) (fun b hb h => h.elim)).trans' hx15 (fun _ _ h => h) (fun b hb q => absurd hb (by have := (hf12.fpp_fp q).1; omega))).trans' hx19 (fun _ _ h => h) (fun b hb h => h.elim)).trans' hx24 (fun _ _ h => h) (fun b hb q => absurd hb (by have := (hf21.fpp_fp q).1; omega))).trans' hx32 (fun _ _ h => h) (fun b hb h => h.elim)).trans' hx36 (fun _ _ h => h) (fun b hb h => h.elim)).trans' hx40 (fun _ _ h => h) (fun b hb h => h.elim))⟩

theorem may_sizes (l1 l2 : List Change) : (∀ e ∈ applyE [] (mayL l1), e.1.size ≤ 300 ∧ e.2.size ≤ 300) ∧ ∀ e ∈ applyE (applyE [] (mayL l1)) (mayL l2), e.1.size ≤ 300 ∧ e.2.size ≤ 300 := by
  have h1 : ∀ e ∈ applyE [] (mayL l1), e.1.size ≤ 300 ∧ e.2.size ≤ 300 := applyE_all (mayL l1) (by simp) fun c hc _ => by have := (mayL_valid c hc).2; exact ⟨by simp only; omega, by simp only; omega⟩
  exact ⟨h1, applyE_all (mayL l2) h1 fun c hc _ => by have := (mayL_valid c hc).2; exact ⟨by simp only; omega, by simp only; omega⟩⟩
theorem le_maxLen {n : Nat} (h : n ≤ 300) : n ≤ maxLen := Nat.le_trans h (by unfold maxLen; omega)

theorem law_both (w : World) (A1 : Option Addr) (cap1 : Nat) (l1 : List Change) (lo1 hi1 : Nat) (hR1 : Rd kChange w lo1 hi1 A1 l1) (hhi1 : hi1 ≤ w.heap.size) (A2 : Option Addr) (cap2 : Nat) (l2 : List Change) (lo2 hi2 : Nat) (hR2 : Rd kChange w lo2 hi2 A2 l2) (hhi2 : hi2 ≤ w.heap.size) :
    Ret Tryz.prog 3 [.slice A1 l1.length cap1, .slice A2 l2.length cap2] w fun v w' => v = B true ∧ Ext No w w' := by
  refine calls_of_XC Tryz.func3 rfl rfl ?_
  refine .seq ?_
  refine .region ?_
  refine xo.done 1 [(0, .slice A1 l1.length cap1), (1, .slice A2 l2.length cap2)] (by kernel_rfl) rfl (by kernel_rfl) ?_
  refine .seq ?_
  refine .seq ?_
  refine .region ?_
  refine xo.ret 1 (by kernel_rfl) (cf8 _ _) (law_small _ A1 cap1 l1 lo1 hi1 hR1 (by omega)) ?_
  rintro _ w3 ⟨_ | _, rfl, hsm2, hx4⟩
  · have z3 := hx4.size
    refine xo.done 6 [(0, .slice A1 l1.length cap1), (1, .slice A2 l2.length cap2), (24, B true)] (by kernel_rfl) rfl (by kernel_rfl) ?_
    refine .condT rfl rfl ?_
    refine .seq ?_
    refine .region ?_
    refine xo.ret 0 (by kernel_rfl) (cf9 _ _) (law_awake _) ?_
    rintro _ w5 ⟨rfl, hx6⟩
    have z5 := hx6.size
    refine xo.done 1 [(4, B true)] (by kernel_rfl) rfl (by kernel_rfl) ?_
    refine .ret ?_
    refine ⟨[B true], by kernel_rfl, _, rfl, ?_⟩
    exact ⟨rfl, ((hx4.weak fun b hb h => h.elim).trans' hx6 (fun _ _ h => h) (fun b hb h => h.elim))⟩
  · have z3 := hx4.size
    have hsl_A1 := hsm2 rfl
    have hs7 := (hR2.ext hx4 (fun _ _ _ h => h))
    refine xo.ret 3 (by kernel_rfl) (cf8 _ _) (law_small _ A2 cap2 l2 lo2 hi2 hs7 (by omega)) ?_
    rintro _ w10 ⟨_ | _, rfl, hsm9, hx11⟩
    · have z10 := hx11.size
      refine xo.done 2 [(0, .slice A1 l1.length cap1), (1, .slice A2 l2.length cap2), (24, B true)] (by kernel_rfl) rfl (by kernel_rfl) ?_
      refine .condT rfl rfl ?_
      refine .seq ?_
      refine .region ?_
      refine xo.ret 0 (by kernel_rfl) (cf9 _ _) (law_awake _) ?_
      rintro _ w12 ⟨rfl, hx13⟩
      have z12 := hx13.size
      refine xo.done 1 [(4, B true)] (by kernel_rfl) rfl (by kernel_rfl) ?_
      refine .ret ?_
      refine ⟨[B true], by kernel_rfl, _, rfl, ?_⟩
      exact ⟨rfl, (((hx4.weak fun b hb h => h.elim).trans' hx11 (fun _ _ h => h) (fun b hb h => h.elim)).trans' hx13 (fun _ _ h => h) (fun b hb h => h.elim))⟩
    · have z10 := hx11.size
      have hsl_A2 := hsm9 rfl
      refine xo.done 2 [(0, .slice A1 l1.length cap1), (1, .slice A2 l2.length cap2), (24, B false)] (by kernel_rfl) rfl (by kernel_rfl) ?_
      refine .condF rfl rfl ?_
      refine .skip ?_
      refine .seq ?_
      refine .region ?_
      refine xo.ret 0 (by kernel_rfl) (cf10 _ _) (law_fresh2 _) ?_
      rintro _ w14 ⟨a, σ0, rfl, hS15, hI16, hl017, hlo18, hx19⟩
      have z14 := hx19.size
      have lS := hS15.bs.lt
      have lMc := hS15.mc.lt
      have lMk := hS15.mkt.lt
      have hhi := hS15.hi
      have nSC : a.s ≠ a.mc := fun e => MapAt.ne hS15.mc hS15.bs e.symm
      have nKC : a.mkk ≠ a.mc := fun e => hS15.cmk e.symm
      have hlo0 : w.heap.size ≤ a.lo := by omega
      refine xo.done 1 [(0, .slice A1 l1.length cap1), (1, .slice A2 l2.length cap2), (5, Pt a.s 0)] (by kernel_rfl) rfl (by kernel_rfl) ?_
      refine .seq ?_
      refine .region ?_
      have hs20 := (((hR1.ext hx4 (fun _ _ _ h => h)).ext hx11 (fun _ _ _ h => h)).ext hx19 (fun _ _ _ h => h))
      refine xo.ret 2 (by kernel_rfl) (cf12 _ _) (law_may _ A1 cap1 l1 lo1 hi1 hs20 (by omega) hsl_A1) ?_
      rintro _ w24 ⟨A21, c22, rfl, ho23, hx25⟩
      have z24 := hx25.size
      have hf26 := (hS15.no hx25)
      have hl1 := (show (mayL l1).length ≤ 200 from Nat.le_trans (mayL_length _) hsl_A1)
      refine xo.ret 0 (by kernel_rfl) (cf11 _ _) (diff_Apply _ a σ0 hf26 (fun _ => 0) hI16 (fun _ => Nat.zero_le _) 0 [] (.inl ⟨rfl, rfl⟩) A21 c22 (mayL l1) w14.heap.size w24.heap.size ho23.rd (by omega) (fun c hc => (mayL_valid c hc).1) (by simp only [List.length_nil]; omega) (by omega)) ?_
      rintro _ w28 ⟨r1, σ1, rfl, hS27, hx29, hAI1⟩
      have z28 := hx29.size
      have hlen1 := hAI1.len
      have hle1 : (applyE [] (mayL l1)).length ≤ 200 := Nat.le_trans (applyE_length _ _) (by simp only [List.length_nil]; omega)
      refine xo.done 5 [(1, .slice A2 l2.length cap2), (5, Pt a.s 0), (6, I r1)] (by kernel_rfl) rfl (by kernel_rfl) ?_
      refine .seq ?_
      refine .region ?_
      have hs30 := ((((hs7.ext hx11 (fun _ _ _ h => h)).ext hx19 (fun _ _ _ h => h)).ext hx25 (fun _ _ _ h => h)).extm hx29 hf26.maps)
      refine xo.ret 3 (by kernel_rfl) (cf12 _ _) (law_may _ A2 cap2 l2 lo2 hi2 hs30 (by omega) hsl_A2) ?_
      rintro _ w34 ⟨A31, c32, rfl, ho33, hx35⟩
      have z34 := hx35.size
      have hf36 := (hS27.no hx35)
      have hl2 := (show (mayL l2).length ≤ 200 from Nat.le_trans (mayL_length _) hsl_A2)
      refine xo.ret 0 (by kernel_rfl) (cf11 _ _) (diff_Apply _ a σ1 hf36 (hH (fun _ => 0) r1) hAI1.inv (fun j => Nat.le_trans (hH_le (n := 0) (fun _ => Nat.le_refl _) r1 j) (by decide)) r1 _ hAI1.tree A31 c32 (mayL l2) w28.heap.size w34.heap.size ho33.rd (by omega) (fun c hc => (mayL_valid c hc).1) (by omega) (by omega)) ?_
      rintro _ w38 ⟨r2, σ2, rfl, hS37, hx39, hAI2⟩
      have z38 := hx39.size
      have hlen2 := hAI2.len
      have hle2 : (applyE (applyE [] (mayL l1)) (mayL l2)).length ≤ 400 := Nat.le_trans (applyE_length _ _) (by omega)
      have hT1 : TreeAt σ2 r1 (applyE [] (mayL l1)) := hAI2.old hAI1.tree
      have hT2 := hAI2.tree
      have hA2 := hAI2.inv.alive
      refine xo.done 5 [(5, Pt a.s 0), (6, I r1), (8, I r2)] (by kernel_rfl) rfl (by kernel_rfl) ?_
      refine .seq ?_
      refine .region ?_
      refine xo.ret 3 (by kernel_rfl) (cf13 _ _) (diff_Trees _ a σ2 hS37 hA2 r1 r2 (applyE [] (mayL l1)) (applyE (applyE [] (mayL l1)) (mayL l2)) hT1 hT2 (by omega) (by omega)) ?_
      rintro _ w46 ⟨A40, c41, k42, rfl, ho43, hS44, hx47, hRun45⟩
      have z46 := hx47.size
      refine xo.done 7 [(5, Pt a.s 0), (6, I r1), (8, I r2), (10, .slice A40 ((listsE (applyE [] (mayL l1)) (applyE (applyE [] (mayL l1)) (mayL l2))).length) c41), (12, I 0)] (by kernel_rfl) rfl (by kernel_rfl) ?_
      refine .seq ?_
      refine .region ?_
      refine xo.ret 3 (by kernel_rfl) (cf13 _ _) (diff_Trees _ a σ2 hS44 hA2 r2 r1 (applyE (applyE [] (mayL l1)) (mayL l2)) (applyE [] (mayL l1)) hT2 hT1 (by omega) (by omega)) ?_
      rintro _ w54 ⟨A48, c49, k50, rfl, ho51, hS52, hx55, hRun53⟩
      have z54 := hx55.size
      refine xo.done 7 [(5, Pt a.s 0), (6, I r1), (8, I r2), (10, .slice A40 ((listsE (applyE [] (mayL l1)) (applyE (applyE [] (mayL l1)) (mayL l2))).length) c41), (12, I 0), (13, .slice A48 ((listsE (applyE (applyE [] (mayL l1)) (mayL l2)) (applyE [] (mayL l1))).length) c49), (15, I 0)] (by kernel_rfl) rfl (by kernel_rfl) ?_
      refine .seq ?_
      refine .seq ?_
      refine .region ?_
      refine xo.val 11 (by kernel_rfl) (c_neq_t (show (((listsE (applyE [] (mayL l1)) (applyE (applyE [] (mayL l1)) (mayL l2))).length : Int) : Int) = ((listsE (applyE (applyE [] (mayL l1)) (mayL l2)) (applyE [] (mayL l1))).length : Int) from (by have := (lists_back (applyE [] (mayL l1)) (applyE (applyE [] (mayL l1)) (mayL l2))).length; omega))) ?_
      refine xo.done 1 [(5, Pt a.s 0), (6, I r1), (8, I r2), (10, .slice A40 ((listsE (applyE [] (mayL l1)) (applyE (applyE [] (mayL l1)) (mayL l2))).length) c41), (13, .slice A48 ((listsE (applyE (applyE [] (mayL l1)) (mayL l2)) (applyE [] (mayL l1))).length) c49), (70, B false)] (by kernel_rfl) rfl (by kernel_rfl) ?_
      refine .condF rfl rfl ?_
      refine .skip ?_
      refine .seq ?_
      refine .seq ?_
      refine .region ?_
      refine xo.done 3 [(5, Pt a.s 0), (6, I r1), (8, I r2), (10, .slice A40 ((listsE (applyE [] (mayL l1)) (applyE (applyE [] (mayL l1)) (mayL l2))).length) c41), (13, .slice A48 ((listsE (applyE (applyE [] (mayL l1)) (mayL l2)) (applyE [] (mayL l1))).length) c49), (72, I (((listsE (applyE [] (mayL l1)) (applyE (applyE [] (mayL l1)) (mayL l2))).length : Int))), (73, I 0)] (by kernel_rfl) rfl (by kernel_rfl) ?_
      refine .block ?_
      have hs56 := (ho43.ext hx55 (fun _ _ h => h))
      refine XC.loop (ι := Nat) (fun i => [(5, Pt a.s 0), (6, I r1), (8, I r2), (10, .slice A40 ((listsE (applyE [] (mayL l1)) (applyE (applyE [] (mayL l1)) (mayL l2))).length) c41), (13, .slice A48 ((listsE (applyE (applyE [] (mayL l1)) (mayL l2)) (applyE [] (mayL l1))).length) c49), (72, I (((listsE (applyE [] (mayL l1)) (applyE (applyE [] (mayL l1)) (mayL l2))).length : Int))), (73, I (i : Int))]) (fun i u => i ≤ (listsE (applyE [] (mayL l1)) (applyE (applyE [] (mayL l1)) (mayL l2))).length ∧ StAt u a σ2 ∧ Own kChange u w.heap.size A40 c41 (listsE (applyE [] (mayL l1)) (applyE (applyE [] (mayL l1)) (mayL l2))) ∧ Own kChange u w.heap.size A48 c49 (listsE (applyE (applyE [] (mayL l1)) (mayL l2)) (applyE [] (mayL l1))) ∧ Ext No w u) (fun i => (listsE (applyE [] (mayL l1)) (applyE (applyE [] (mayL l1)) (mayL l2))).length - i) 0 (cov_of (by kernel_rfl)) ⟨by omega, hS52, hs56.base_le (by omega), ho51.base_le (by omega), (((((((((hx4.weak fun b hb h => h.elim).trans' hx11 (fun _ _ h => h) (fun b hb h => h.elim)).trans' hx19 (fun _ _ h => h) (fun b hb h => h.elim)).trans' hx25 (fun _ _ h => h) (fun b hb h => h.elim)).trans' hx29 (fun _ _ h => h) (fun b hb q => absurd hb (by have := (hf26.fpp_fp q).1; omega))).trans' hx35 (fun _ _ h => h) (fun b hb h => h.elim)).trans' hx39 (fun _ _ h => h) (fun b hb q => absurd hb (by have := (hf36.fpp_fp q).1; omega))).trans' hx47 (fun _ _ h => h) (fun b hb h => h.elim)).trans' hx55 (fun _ _ h => h) (fun b hb h => h.elim))⟩ ?_
      rintro i w57 ⟨hi_, hSu, hCu, hDu, hE⟩
      have z57 := hE.size
      have hlcd := (lists_back (applyE [] (mayL l1)) (applyE (applyE [] (mayL l1)) (mayL l2))).length
      have hlc9 := lists_length _ (applyE [] (mayL l1)) (applyE (applyE [] (mayL l1)) (mayL l2)) (Nat.le_refl _)
      refine .seq ?_
      refine .region ?_
      by_cases hc58 : ((i : Int) : Int) < ((listsE (applyE [] (mayL l1)) (applyE (applyE [] (mayL l1)) (mayL l2))).length : Int)
      · refine xo.val 0 (by kernel_rfl) (c_lss_t hc58) ?_
        refine xo.done 0 [(5, Pt a.s 0), (6, I r1), (8, I r2), (10, .slice A40 ((listsE (applyE [] (mayL l1)) (applyE (applyE [] (mayL l1)) (mayL l2))).length) c41), (13, .slice A48 ((listsE (applyE (applyE [] (mayL l1)) (mayL l2)) (applyE [] (mayL l1))).length) c49), (72, I (((listsE (applyE [] (mayL l1)) (applyE (applyE [] (mayL l1)) (mayL l2))).length : Int))), (73, I (i : Int)), (74, B true)] (by kernel_rfl) rfl (by kernel_rfl) ?_
        refine .seq ?_
        refine .condT rfl rfl ?_
        refine .skip ?_
        refine .seq ?_
        refine .block ?_
        refine .seq ?_
        refine .region ?_
        refine xo.done 2 [(5, Pt a.s 0), (6, I r1), (8, I r2), (10, .slice A40 ((listsE (applyE [] (mayL l1)) (applyE (applyE [] (mayL l1)) (mayL l2))).length) c41), (13, .slice A48 ((listsE (applyE (applyE [] (mayL l1)) (mayL l2)) (applyE [] (mayL l1))).length) c49), (16, I (i : Int)), (72, I (((listsE (applyE [] (mayL l1)) (applyE (applyE [] (mayL l1)) (mayL l2))).length : Int))), (73, I (i : Int))] (by kernel_rfl) rfl (by kernel_rfl) ?_
        refine .seq ?_
        refine .regionReads (by kernel_rfl) (by kernel_rfl) ?_
        intro w59 hd60
        have hx60 := Ext.ofDrew (M := No) hd60
        have z59 := hx60.size
        have hs61 := (hCu.ext hx60 (fun _ _ h => h))
        obtain ⟨b62, o63, x64, hi65, hA66, hl67, hh68, hr69⟩ := hs61.rd.at_ i (by omega)
        refine Go.V.xs.val 2 (by kernel_rfl) (idxN (kk := .i64) (t := 22) (n := (listsE (applyE [] (mayL l1)) (applyE (applyE [] (mayL l1)) (mayL l2))).length) (cap := c41) (sz := 3) (i := i) (by kernel_rfl) hA66 (by omega)) ?_
        refine Go.V.xs.val 1 (by kernel_rfl) (ld (t := 9) (by kernel_rfl) (hr69 0 _ rfl)) ?_
        have hs70 := (hDu.ext hx60 (fun _ _ h => h))
        obtain ⟨b71, o72, x73, hi74, hA75, hl76, hh77, hr78⟩ := hs70.rd.at_ i (by omega)
        refine Go.V.xs.val 2 (by kernel_rfl) (idxN (kk := .i64) (t := 22) (n := (listsE (applyE (applyE [] (mayL l1)) (mayL l2)) (applyE [] (mayL l1))).length) (cap := c49) (sz := 3) (i := i) (by kernel_rfl) hA75 (by omega)) ?_
        refine Go.V.xs.val 1 (by kernel_rfl) (ld (t := 9) (by kernel_rfl) (hr78 0 _ rfl)) ?_
        obtain ⟨y_, hy_, hbk1, hbk2⟩ := (lists_back (applyE [] (mayL l1)) (applyE (applyE [] (mayL l1)) (mayL l2))).at_ hi65
        rw [hi74] at hy_
        have ey_ : x73 = y_ := Option.some.inj hy_
        subst ey_
        refine Go.V.xs.val 0 (by kernel_rfl) (s_neq_t (show x64.key = x73.key from hbk1)) ?_
        obtain ⟨b79, o80, x81, hi82, hA83, hl84, hh85, hr86⟩ := hs61.rd.at_ i (by omega)
        refine Go.V.xs.val 3 (by kernel_rfl) (idxN (kk := .i64) (t := 22) (n := (listsE (applyE [] (mayL l1)) (applyE (applyE [] (mayL l1)) (mayL l2))).length) (cap := c41) (sz := 3) (i := i) (by kernel_rfl) hA83 (by omega)) ?_
        have ex87 : x64 = x81 := Option.some.inj (hi65.symm.trans hi82)
        subst ex87
        obtain hgf | hgt : x64.gone = false ∨ x64.gone = true := by cases x64.gone <;> simp
        · refine Go.V.xs.val 1 (by kernel_rfl) (ld (t := 4) (v := B false) (by kernel_rfl) (hr86 2 _ (by rw [← hgf]; rfl))) ?_
          refine Go.V.xs.fin 8 (by kernel_rfl) rfl ?_
          refine .cov [(5, Pt a.s 0), (6, I r1), (8, I r2), (10, .slice A40 ((listsE (applyE [] (mayL l1)) (applyE (applyE [] (mayL l1)) (mayL l2))).length) c41), (13, .slice A48 ((listsE (applyE (applyE [] (mayL l1)) (mayL l2)) (applyE [] (mayL l1))).length) c49), (72, I (((listsE (applyE [] (mayL l1)) (applyE (applyE [] (mayL l1)) (mayL l2))).length : Int))), (73, I (i : Int)), (100, B false)] (cov_of (by kernel_rfl)) ?_
          refine .condF rfl rfl ?_
          refine .skip ?_
          refine .region ?_
          refine xo.val 0 (by kernel_rfl) (a_add (a := (i : Int)) (b := 1) (by omega) (by omega)) ?_
          refine xo.fin 1 (by kernel_rfl) rfl ?_
          have hf88 := (hSu.no hx60)
          exact ⟨i + 1, cov_of (by kernel_rfl), ⟨by omega, hf88, hs61, hs70, (hE.trans' hx60 (fun _ _ h => h) (fun b hb h => h))⟩, by show (listsE (applyE [] (mayL l1)) (applyE (applyE [] (mayL l1)) (mayL l2))).length - (i + 1) < (listsE (applyE [] (mayL l1)) (applyE (applyE [] (mayL l1)) (mayL l2))).length - i; omega⟩
        · refine Go.V.xs.val 1 (by kernel_rfl) (ld (t := 4) (v := B true) (by kernel_rfl) (hr86 2 _ (by rw [← hgt]; rfl))) ?_
          obtain ⟨b89, o90, x91, hi92, hA93, hl94, hh95, hr96⟩ := hs70.rd.at_ i (by omega)
          refine Go.V.xs.val 3 (by kernel_rfl) (idxN (kk := .i64) (t := 22) (n := (listsE (applyE (applyE [] (mayL l1)) (mayL l2)) (applyE [] (mayL l1))).length) (cap := c49) (sz := 3) (i := i) (by kernel_rfl) hA93 (by omega)) ?_
          have ex97 : x73 = x91 := Option.some.inj (hi74.symm.trans hi92)
          subst ex97
          have hgy : x73.gone = false := by
            cases hz : x73.gone with
            | false => rfl
            | true => exact absurd ⟨hgt, hz⟩ hbk2
          refine Go.V.xs.val 1 (by kernel_rfl) (ld (t := 4) (v := B false) (by kernel_rfl) (hr96 2 _ (by rw [← hgy]; rfl))) ?_
          refine Go.V.xs.fin 2 (by kernel_rfl) rfl ?_
          refine .cov [(5, Pt a.s 0), (6, I r1), (8, I r2), (10, .slice A40 ((listsE (applyE [] (mayL l1)) (applyE (applyE [] (mayL l1)) (mayL l2))).length) c41), (13, .slice A48 ((listsE (applyE (applyE [] (mayL l1)) (mayL l2)) (applyE [] (mayL l1))).length) c49), (72, I (((listsE (applyE [] (mayL l1)) (applyE (applyE [] (mayL l1)) (mayL l2))).length : Int))), (73, I (i : Int)), (100, B false)] (cov_of (by kernel_rfl)) ?_
          refine .condF rfl rfl ?_
          refine .skip ?_
          refine .region ?_
          refine xo.val 0 (by kernel_rfl) (a_add (a := (i : Int)) (b := 1) (by omega) (by omega)) ?_
          refine xo.fin 1 (by kernel_rfl) rfl ?_
          have hf98 := (hSu.no hx60)
          exact ⟨i + 1, cov_of (by kernel_rfl), ⟨by omega, hf98, hs61, hs70, (hE.trans' hx60 (fun _ _ h => h) (fun b hb h => h))⟩, by show (listsE (applyE [] (mayL l1)) (applyE (applyE [] (mayL l1)) (mayL l2))).length - (i + 1) < (listsE (applyE [] (mayL l1)) (applyE (applyE [] (mayL l1)) (mayL l2))).length - i; omega⟩
      · refine xo.val 0 (by kernel_rfl) (c_lss_f hc58) ?_
        refine xo.done 0 [(5, Pt a.s 0), (6, I r1), (8, I r2), (10, .slice A40 ((listsE (applyE [] (mayL l1)) (applyE (applyE [] (mayL l1)) (mayL l2))).length) c41), (13, .slice A48 ((listsE (applyE (applyE [] (mayL l1)) (mayL l2)) (applyE [] (mayL l1))).length) c49), (72, I (((listsE (applyE [] (mayL l1)) (applyE (applyE [] (mayL l1)) (mayL l2))).length : Int))), (73, I (i : Int)), (74, B false)] (by kernel_rfl) rfl (by kernel_rfl) ?_
        refine .seq ?_
        refine .condF rfl rfl ?_
        refine .exit ?_
        refine xsetTo ?_
        refine .seq ?_
        refine .region ?_
        refine xo.ret 2 (by kernel_rfl) (cf16 _ _) (law_all _ a σ2 hSu hA2 r2 (applyE (applyE [] (mayL l1)) (mayL l2)) hT2 (by omega)) ?_
        rintro _ w103 ⟨A99, c100, rfl, ho101, hS102, hx104⟩
        have z103 := hx104.size
        have hs105 := (hDu.ext hx104 (fun _ _ h => h))
        have hso1 := hT1.sorted
        have hso2 := hT2.sorted
        have hll := lists_length _ (applyE (applyE [] (mayL l1)) (mayL l2)) (applyE [] (mayL l1)) (Nat.le_refl _)
        have hsz := may_sizes l1 l2
        refine xo.ret 1 (by kernel_rfl) (cf15 _ _) (ref_apply _ A99 c100 (applyE (applyE [] (mayL l1)) (mayL l2)) w57.heap.size w103.heap.size ho101.rd (by omega) A48 c49 (listsE (applyE (applyE [] (mayL l1)) (mayL l2)) (applyE [] (mayL l1))) w.heap.size w103.heap.size hs105.rd (by omega) (by omega) hso2 (fun e he => Nat.le_trans (hsz.2 e he).1 (by omega)) (fun c hc => Nat.le_trans (lists_sizes (n := 300) _ _ _ (Nat.le_refl _) hsz.2 hsz.1 c hc).1 (by omega))) ?_
        rintro _ w109 ⟨A106, c107, rfl, hr108, hx110⟩
        have z109 := hx110.size
        rw [apply_lists hso2 hso1] at hr108
        rw [apply_lists hso2 hso1]
        have hf111 := (hS102.no hx110)
        refine xo.ret 2 (by kernel_rfl) (cf16 _ _) (law_all _ a σ2 hf111 hA2 r1 (applyE [] (mayL l1)) hT1 (by omega)) ?_
        rintro _ w116 ⟨A112, c113, rfl, ho114, hS115, hx117⟩
        have z116 := hx117.size
        have hs118 := (hr108.ext hx117 (fun _ _ _ h => h))
        refine xo.ret 0 (by kernel_rfl) (cf14 _ _) (equal_entry _ ((applyE [] (mayL l1)).map entK) A106 c107 0 w109.heap.size hs118 (by omega) A112 c113 w109.heap.size w116.heap.size ho114.rd (by omega) (by rw [List.length_map]; omega) (fun x hx => by obtain ⟨e, he, rfl⟩ := List.mem_map.1 hx; exact ⟨le_maxLen (hsz.1 e he).1, le_maxLen (hsz.1 e he).2⟩)) ?_
        rintro _ w119 ⟨rfl, hx120⟩
        have z119 := hx120.size
        refine xo.ret 1 (by kernel_rfl) (cf9 _ _) (law_awake _) ?_
        rintro _ w121 ⟨rfl, hx122⟩
        have z121 := hx122.size
        refine xo.done 2 [(4, B true)] (by kernel_rfl) rfl (by kernel_rfl) ?_
        refine .ret ?_
        refine ⟨[B true], by kernel_rfl, _, rfl, ?_⟩
        exact ⟨rfl, ((((((hE.weak fun b hb h => h.elim).trans' hx104 (fun _ _ h => h) (fun b hb h => h.elim)).trans' hx110 (fun _ _ h => h) (fun b hb h => h.elim)).trans' hx117 (fun _ _ h => h) (fun b hb h => h.elim)).trans' hx120 (fun _ _ h => h) (fun b hb h => h.elim)).trans' hx122 (fun _ _ h => h) (fun b hb h => h.elim))⟩

end Go.Proofs.YtbajgpadmlnffaaGreat
/- The rows of this seat: arguments opened to lists; a law that returns true and turns nothing old. -/
namespace Go.V
theorem cs_all {α : Type} {k : Kd α} {w : World} {b : Nat} : ∀ (l : List α) (o : Nat), (∀ i x, l[i]? = some x → Cs w b (o + i * k.sz) (k.enc x)) → Cs w b o (k.all l)
  | [], o, _ => fun j v h => by simp [Kd.all] at h
  | x :: r, o, h => fun j v hj => by
    have e : k.all (x :: r) = k.enc x ++ k.all r := by simp [Kd.all]
    rw [e] at hj
    by_cases hlt : j < k.sz
    · rw [List.getElem?_append_left (by rw [k.len]; exact hlt)] at hj
      have := h 0 x rfl j v hj
      simpa using this
    · rw [List.getElem?_append_right (by rw [k.len]; omega), k.len] at hj
      have h2 := cs_all r (o + k.sz) (fun i y hy => by
        have := h (i + 1) y (by simpa using hy)
        rw [Nat.add_mul, Nat.one_mul] at this
        rw [show o + k.sz + i * k.sz = o + (i * k.sz + k.sz) by omega]
        exact this) (j - k.sz) v hj
      rw [show o + k.sz + (j - k.sz) = o + j by omega] at h2
      exact h2
theorem list_of {α : Type} {p : Nat → α → Prop} : ∀ (n : Nat), (∀ i, i < n → ∃ x, p i x) → ∃ l : List α, l.length = n ∧ ∀ i x, l[i]? = some x → p i x
  | 0, _ => ⟨[], rfl, fun i x h => by simp at h⟩
  | n + 1, h => by
    obtain ⟨l, hl, hp⟩ := list_of n fun i hi => h i (by omega)
    obtain ⟨x, hx⟩ := h n (by omega)
    refine ⟨l ++ [x], by simp [hl], fun i y hy => ?_⟩
    by_cases hi : i < l.length
    · rw [List.getElem?_append_left hi] at hy
      exact hp i y hy
    · rw [List.getElem?_append_right (by omega)] at hy
      have : i = n := by
        have := (List.getElem?_eq_some_iff.1 hy).1
        simp at this; omega
      subst this
      rw [hl, Nat.sub_self] at hy
      simp only [List.getElem?_cons_zero, Option.some.injEq] at hy
      subst hy
      exact hx
theorem addr_plain {w : World} {a : Addr} {v : Value} (h : w.cell? a = some v) : a = ⟨a.block, a.off, none⟩ := by
  obtain ⟨b, o, s⟩ := a
  unfold World.cell? at h
  simp only at h
  split at h
  · cases s with
    | none => rfl
    | some _ => simp at h
  · cases h
end Go.V
namespace Go.Proofs.YtbajgpadmlnffaaGreat
open Go.V Go.ChangeShapes Go.WideShapes Go.ChangeAt Go.RowKit Go.WideElems Go.Deep
set_option linter.unusedVariables false
set_option maxRecDepth 100000

theorem ow : ownKnob Tryz.prog.godebug = none := by kernel_rfl
section
variable {H : Type} {enc : TypeId × Value → H} {W : World}
theorem fld_string {n : Nat} {v : Value} {y : DataW H × List MemPlace} (h : DataW.trod enc Tryz.prog W 0 (fun _ => true) true n 9 [v] = some y) : ∃ s : ByteArray, v = .string s ∧ s.size ≤ maxLen := by
  obtain ⟨s, h1, _, h2⟩ := DataW.trod_string Tryz.underlying9 h
  simp only [List.cons.injEq, and_true] at h1
  exact ⟨s, h1, h2⟩
theorem fld_bool {n : Nat} {v : Value} {y : DataW H × List MemPlace} (h : DataW.trod enc Tryz.prog W 0 (fun _ => true) true n 4 [v] = some y) : ∃ b : Bool, v = .bool b := by
  obtain ⟨s, h1, _⟩ := DataW.trod_bool Tryz.underlying4 h
  simp only [List.cons.injEq, and_true] at h1
  exact ⟨s, h1⟩
/-- A slice of changes that came in. -/
theorem open_changes {r : Reach} {b0 : Nat} {v : Value} {d : DataW H} {ps : List MemPlace} (hval : Value.okWide Tryz.prog W r b0 22 v) (h : DataW.Trod enc Tryz.prog W 0 (fun _ => true) true 22 v d ps) :
    ∃ A cap, ∃ l : List Change, v = .slice A l.length cap ∧ Rd kChange W 0 W.heap.size A l ∧ ∀ x ∈ l, x.key.size ≤ maxLen ∧ x.val.size ≤ maxLen := by
  obtain ⟨a0, len0, cap0, rfl⟩ := okWide_slice Tryz.underlying22 hval
  obtain ⟨fuel, hf⟩ := h
  rcases open_slice Tryz.underlying22 hf with ⟨h1, _⟩ | ⟨a, len, cap, m, n, D, Pl, h1, hb, hl, hm, hmm, hx, hi⟩
  · simp only [Value.cells, List.cons.injEq, Value.slice.injEq, and_true] at h1
    obtain ⟨rfl, rfl, rfl⟩ := h1
    exact ⟨none, 0, [], rfl, .inl rfl, by simp⟩
  · simp only [Value.cells, List.cons.injEq, Value.slice.injEq, and_true] at h1
    obtain ⟨rfl, rfl, rfl⟩ := h1
    have h3 : Tryz.prog.cellsOf 34 = 3 := by kernel_rfl
    have hone : oneCellFields Tryz.prog (Tryz.prog.fieldsOf 34) = true := by kernel_rfl
    simp only [if_true] at hmm
    have key : ∀ i, i < len0 → ∃ c : Change, (w3 : True) → (W.cell? (a.add (i * 3)) = some (S c.key) ∧ W.cell? ((a.add (i * 3)).add 1) = some (S c.val) ∧ W.cell? ((a.add (i * 3)).add 2) = some (B c.gone)) ∧ c.key.size ≤ maxLen ∧ c.val.size ≤ maxLen := by
      intro i hlt
      obtain ⟨cs, hc, ht⟩ := hi i (by omega)
      rw [h3] at hc
      obtain ⟨_, hcl, hat⟩ := World.cells?_some hc
      obtain ⟨ys, n', hn', hy, hlen, hyl, hfd⟩ := DataW.trod_struct Tryz.underlying34 ht
      match cs, hcl with
      | [c0, c1, c2], _ =>
        have f0 := hfd 0 _ rfl
        have f1 := hfd 1 _ rfl
        have f2 := hfd 2 _ rfl
        have e0 : (([c0, c1, c2] : List Value).drop 0).take (Tryz.prog.cellsOf 9) = [c0] := by kernel_rfl
        have e1 : (([c0, c1, c2] : List Value).drop 1).take (Tryz.prog.cellsOf 9) = [c1] := by kernel_rfl
        have e2 : (([c0, c1, c2] : List Value).drop 2).take (Tryz.prog.cellsOf 4) = [c2] := by kernel_rfl
        have g0 : DataW.trod enc Tryz.prog W 0 (fun _ => true) true n' 9 [c0] = ys[0]? := by rw [← e0]; exact f0
        have g1 : DataW.trod enc Tryz.prog W 0 (fun _ => true) true n' 9 [c1] = ys[1]? := by rw [← e1]; exact f1
        have g2 : DataW.trod enc Tryz.prog W 0 (fun _ => true) true n' 4 [c2] = ys[2]? := by rw [← e2]; exact f2
        have hy3 : ys.length = 3 := hyl
        rw [List.getElem?_eq_getElem (show 0 < ys.length by omega)] at g0
        rw [List.getElem?_eq_getElem (show 1 < ys.length by omega)] at g1
        rw [List.getElem?_eq_getElem (show 2 < ys.length by omega)] at g2
        obtain ⟨s0, rfl, z0⟩ := fld_string g0
        obtain ⟨s1, rfl, z1⟩ := fld_string g1
        obtain ⟨s2, rfl⟩ := fld_bool g2
        have a0 := hat 0 (by omega)
        have a1 := hat 1 (by omega)
        have a2 := hat 2 (by omega)
        exact ⟨⟨s0, s1, s2⟩, fun _ => ⟨⟨by simpa [Addr.add] using a0, by simpa using a1, by simpa using a2⟩, z0, z1⟩⟩
    obtain ⟨l, hll, hlp⟩ := list_of len0 key
    refine ⟨some a, cap0, l, by rw [hll], ?_, fun x hx => ?_⟩
    · cases hl0 : l with
      | nil => exact .inl rfl
      | cons x0 r0 =>
        right
        have hz := (hlp 0 x0 (by rw [hl0]; rfl) trivial).1.1
        rw [Nat.zero_mul, show a.add 0 = a from rfl] at hz
        have ha := addr_plain hz
        have hlt : a.block < W.heap.size := by
          unfold World.cell? at hz
          cases hh : W.heap[a.block]? with
          | none => rw [hh] at hz; cases hz
          | some q => exact (Array.getElem?_eq_some_iff.1 hh).1
        refine ⟨a.block, a.off, by rw [← ha], Nat.zero_le _, hlt, ?_⟩
        rw [← hl0]
        refine cs_all l a.off fun i x hx j v hj => ?_
        obtain ⟨⟨p0, p1, p2⟩, _⟩ := hlp i x hx trivial
        have hadd : ∀ q, a.add q = ⟨a.block, a.off + q, none⟩ := fun q => by
          unfold Addr.add
          split
          · rename_i hq; subst hq; exact ha
          · rfl
        have hadd2 : ∀ q s, (a.add q).add s = ⟨a.block, a.off + q + s, none⟩ := fun q s => by
          rw [hadd]
          unfold Addr.add
          split
          · rename_i hq; subst hq; rfl
          · rfl
        rw [hadd] at p0
        rw [hadd2] at p1 p2
        show W.cell? ⟨a.block, a.off + i * 3 + j, none⟩ = some v
        have hj' : ([S x.key, S x.val, B x.gone] : List Value)[j]? = some v := hj
        match j, hj' with
        | 0, h => simp only [List.getElem?_cons_zero, Option.some.injEq] at h; subst h; exact p0
        | 1, h => simp only [List.getElem?_cons_succ, List.getElem?_cons_zero, Option.some.injEq] at h; subst h; exact p1
        | 2, h => simp only [List.getElem?_cons_succ, List.getElem?_cons_zero, Option.some.injEq] at h; subst h; exact p2
        | j + 3, h => simp at h
    · obtain ⟨i, hi2⟩ := List.mem_iff_getElem?.1 hx
      exact (hlp i x hi2 trivial).2
theorem ext_below {w w' : World} (h : Ext No w w') : Go.RowKit.Below w.heap.size w w' := ⟨h.os, h.tape, h.output, h.size, fun k hk => h.block k hk fun q => q⟩
/-- A law: true comes back, and nothing old has turned: the arguments read as they did. -/
theorem law_post {f : Func} {s : ChangeSpec} {W' : World} {args : Array Value} {ds : List (DataW H)} {ps : List MemPlace} (hsv : s.vars = []) (hrt : f.resultTypes = #[4])
    (hW : DataW.Whole enc Tryz.prog f.params.toList s.vars false W args.toList ds [] ps) (hres : (s.fn H (ds ++ [])).results = [.lit (.bool true)]) (hargs : (s.fn H (ds ++ [])).args = ds) (hvars : (s.fn H (ds ++ [])).vars = [])
    (hread : ∀ sp : Nat → Bool, (∀ p ∈ ps, sp p.block = true) → DataW.TrodAll enc Tryz.prog W' 0 sp true f.params.toList args.toList ds ps) (hb : Go.RowKit.Below W.heap.size W W') :
    s.post enc Tryz.prog f false true false false W args (.bool true) W' := by
  have hlt : ∀ p ∈ ps, p.block < W.heap.size := fun p hp => hW.lt p hp
  have hold : ∀ p ∈ ps, (fun b => decide (b < W.heap.size)) p.block = true := fun p hp => by simpa using hlt p hp
  have hr : ∀ (b : Nat) (sp : Nat → Bool) (hd : Bool), DataW.TrodAll enc Tryz.prog W' b sp hd f.resultTypes.toList ((Value.bool true).resultList f.resultTypes.size) (s.fn H (ds ++ [])).results [] := fun b sp hd => by
    rw [hrt, hres]
    exact trodAll_mk1 (shut_bool Tryz.underlying4 true)
  have ha : ∀ sp : Nat → Bool, (∀ p ∈ ps, sp p.block = true) → DataW.TrodAll enc Tryz.prog W' 0 sp true f.params.toList args.toList (s.fn H (ds ++ [])).args ps := fun sp h => by rw [hargs]; exact hread sp h
  have hv : ∀ sp : Nat → Bool, DataW.TrodVars enc Tryz.prog W' sp s.vars (s.fn H (ds ++ [])).vars [] := fun sp => by rw [hsv, hvars]; rfl
  refine ⟨ds, [], ps, [], ps, [], hW, hr _ _ _, ha _ hold, hv _, World.keptBut_mono (fun p hp => ⟨hp, .inr (by simpa using hp)⟩) (hb.frame (· ∈ ps)), fun _ => ?_⟩
  obtain ⟨_, _, _, _, _, hz, hn⟩ := hW
  refine ⟨fun j t r hj hr' => ?_, _, _, ([] ++ ps) ++ [], ⟨[] ++ ps, [], trodAll_append (ha _ (fun _ _ => rfl)) (hr _ _ _), hv _, rfl, ?_, ?_⟩, fun p hp _ => by simpa using hp⟩
  · exact ok_one (P := Tryz.prog) hrt rfl (okWide_bool_mk Tryz.underlying4 true) j t r hj hr'
  · intro b off hp
    have hin : MemPlace.cell b off ∈ ps := by simpa using hp
    rw [hb.frozen (hlt _ hin)]
    exact hz b off hin
  · intro h; cases h
end
end Go.Proofs.YtbajgpadmlnffaaGreat
