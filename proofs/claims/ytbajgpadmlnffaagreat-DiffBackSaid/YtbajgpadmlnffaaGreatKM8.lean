/-
  A part of the proofs of this seat (Laws, Row, Sorted, ChPut, ChGet, ChRead, BackL, LawK): lemmas on which the last text leans. No condition.
-/
import Derived.Test.YtbajgpadmlnffaaGreatRows
import Derived.WalkKit
import Derived.ProofKit
import Derived.OpenShut
import Derived.Deep.Slices
import Derived.Deep.Fields
import Derived.WideKeyArgs
import Derived.Below
import Derived.ChangeSame
import Derived.Test.YtbajgpadmlnffaaGreatKM7
/- The example; what the laws share. -/
namespace Go.Proofs.YtbajgpadmlnffaaGreat
open Go.V
set_option maxRecDepth 100000
set_option linter.unusedVariables false
set_option linter.unusedSimpArgs false

theorem ex_ne {σ : St} {ra rb : Int} (ha : TreeAt σ ra exE) (hb : TreeAt σ rb exF) : ra ≠ rb := fun e => by
  subst e
  have := ha.unique hb
  simp only [exE, exF] at this
  injection this with h1 _
  injection h1 with h2 _
  exact Lt.ne lab h2
theorem law_fresh2 (w : World) : Ret Tryz.prog 10 [] w fun v w' => ∃ (a : SAd) (σ : St), v = Pt a.s 0 ∧ StAt w' a σ ∧ Inv σ (fun _ => 0) ∧ σ.cells.length = 0 ∧ a.lo = w.heap.size ∧ Ext No w w' :=
  (law_fresh w).mono fun v w' ⟨a, δ, h1, h2, h3, h4, h5, h6, h7⟩ => ⟨a, _, h1, h2, inv_fresh h3 h4, rfl, h5, h7⟩

theorem ex_sizes : ∀ x ∈ exB, x.key.size ≤ maxLen ∧ x.val.size ≤ maxLen := by
  intro c hc
  simp only [exB, List.mem_cons, List.not_mem_nil, or_false] at hc
  rcases hc with rfl | rfl | rfl <;> decide
theorem law_awake (w : World) :
    Ret Tryz.prog 9 [] w fun v w' => v = B true ∧ Ext No w w' := by
  refine calls_of_XC Tryz.func9 rfl rfl ?_
  refine .seq ?_
  refine .region ?_
  refine xo.done 1 [] (by kernel_rfl) rfl (by kernel_rfl) ?_
  refine .seq ?_
  refine .region ?_
  refine xo.ret 0 (by kernel_rfl) (cf10 _ _) (law_fresh2 _) ?_
  rintro _ w1 ⟨a, σ0, rfl, hS2, hI3, hl04, hlo5, hx6⟩
  have z1 := hx6.size
  have lS := hS2.bs.lt
  have lMc := hS2.mc.lt
  have lMk := hS2.mkt.lt
  have hhi := hS2.hi
  have nSC : a.s ≠ a.mc := fun e => MapAt.ne hS2.mc hS2.bs e.symm
  have nKC : a.mkk ≠ a.mc := fun e => hS2.cmk e.symm
  have hlo0 : w.heap.size ≤ a.lo := by omega
  refine xo.done 1 [(1, Pt a.s 0)] (by kernel_rfl) rfl (by kernel_rfl) ?_
  refine .seq ?_
  refine .region ?_
  refine xo.bsl 3 22 2 #[(0, .agg #[S (⟨#[97]⟩), S (⟨#[49]⟩), B false]), (1, .agg #[S (⟨#[98]⟩), S (⟨#[50]⟩), B false])] (et := 34) (cs := [S (⟨#[97]⟩), S (⟨#[49]⟩), B false, S (⟨#[98]⟩), S (⟨#[50]⟩), B false]) (by kernel_rfl) (by kernel_rfl) ?_
  intro b7 w8 hb9 hx10 hg11
  have z8 := hx10.size
  have l9 := hb9.lt
  have hf12 := (hS2.no hx10)
  have hl1 := (show exA.length ≤ 200 by decide)
  refine xo.ret 0 (by kernel_rfl) (cf11 _ _) (diff_Apply _ a σ0 hf12 (fun _ => 0) hI3 (fun _ => Nat.zero_le _) 0 [] (.inl ⟨rfl, rfl⟩) (some ⟨b7, 0, none⟩) 2 exA b7 (b7 + 1) (show Rd kChange w8 b7 (b7 + 1) (some ⟨b7, 0, none⟩) exA from .inr ⟨b7, 0, rfl, Nat.le_refl _, Nat.lt_succ_self _, hb9.cs⟩) (by omega) ex_valid.1 (by simp only [List.length_nil]; omega) (by omega)) ?_
  rintro _ w14 ⟨r1, σ1, rfl, hS13, hx15, hAI1⟩
  have z14 := hx15.size
  have hlen1 := hAI1.len
  have hle1 : (applyE [] exA).length ≤ 200 := Nat.le_trans (applyE_length _ _) (by simp only [List.length_nil]; omega)
  rw [ex_e] at hAI1 hle1
  refine xo.done 5 [(1, Pt a.s 0), (2, I r1), (3, I 0)] (by kernel_rfl) rfl (by kernel_rfl) ?_
  refine .seq ?_
  refine .region ?_
  refine xo.bsl 5 22 3 #[(0, .agg #[S (⟨#[97]⟩), S (⟨#[]⟩), B true]), (1, .agg #[S (⟨#[98]⟩), S (⟨#[51]⟩), B false]), (2, .agg #[S (⟨#[99]⟩), S (⟨#[52]⟩), B false])] (et := 34) (cs := [S (⟨#[97]⟩), S (⟨#[]⟩), B true, S (⟨#[98]⟩), S (⟨#[51]⟩), B false, S (⟨#[99]⟩), S (⟨#[52]⟩), B false]) (by kernel_rfl) (by kernel_rfl) ?_
  intro b16 w17 hb18 hx19 hg20
  have z17 := hx19.size
  have l18 := hb18.lt
  have hf21 := (hS13.no hx19)
  have hl2 := (show exB.length ≤ 200 by decide)
  refine xo.ret 0 (by kernel_rfl) (cf11 _ _) (diff_Apply _ a σ1 hf21 (hH (fun _ => 0) r1) hAI1.inv (fun j => Nat.le_trans (hH_le (n := 0) (fun _ => Nat.le_refl _) r1 j) (by decide)) r1 _ hAI1.tree (some ⟨b16, 0, none⟩) 3 exB b16 (b16 + 1) (show Rd kChange w17 b16 (b16 + 1) (some ⟨b16, 0, none⟩) exB from .inr ⟨b16, 0, rfl, Nat.le_refl _, Nat.lt_succ_self _, hb18.cs⟩) (by omega) ex_valid.2 (by omega) (by omega)) ?_
  rintro _ w23 ⟨r2, σ2, rfl, hS22, hx24, hAI2⟩
  have z23 := hx24.size
  have hlen2 := hAI2.len
  have hle2 : (applyE (exE) exB).length ≤ 400 := Nat.le_trans (applyE_length _ _) (by omega)
  have hT1 : TreeAt σ2 r1 (exE) := hAI2.old hAI1.tree
  have hT2 := hAI2.tree
  have hA2 := hAI2.inv.alive
  rw [ex_f] at hT2 hle2
  refine xo.done 5 [(1, Pt a.s 0), (2, I r1), (3, I 0), (4, I r2), (5, I 0)] (by kernel_rfl) rfl (by kernel_rfl) ?_
  refine .seq ?_
  refine .region ?_
  refine xo.ret 3 (by kernel_rfl) (cf13 _ _) (diff_Trees _ a σ2 hS22 hA2 r1 r2 exE exF hT1 hT2 (by omega) (by omega)) ?_
  rintro _ w31 ⟨A25, c26, k27, rfl, ho28, hS29, hx32, hRun30⟩
  have z31 := hx32.size
  obtain ⟨la_, lb_, o1_, o2_, hrun_⟩ := hRun30 (ex_ne hT1 hT2)
  have hk2 : k27 = 2 := ex_run o1_ o2_ hT1 hT2 hrun_
  subst hk2
  rw [ex_l] at ho28
  rw [ex_l]
  refine xo.done 7 [(3, I 0), (5, I 0), (6, .slice A25 exB.length c26), (7, I (((2 : Nat) : Int))), (8, I 0)] (by kernel_rfl) rfl (by kernel_rfl) ?_
  refine .seq ?_
  refine .region ?_
  refine xo.val 12 (by kernel_rfl) (c_eql_t (show (((2 : Nat) : Int) : Int) = 2 from rfl)) ?_
  refine xo.bsl 6 22 3 #[(0, .agg #[S (⟨#[97]⟩), S (⟨#[]⟩), B true]), (1, .agg #[S (⟨#[98]⟩), S (⟨#[51]⟩), B false]), (2, .agg #[S (⟨#[99]⟩), S (⟨#[52]⟩), B false])] (et := 34) (cs := [S (⟨#[97]⟩), S (⟨#[]⟩), B true, S (⟨#[98]⟩), S (⟨#[51]⟩), B false, S (⟨#[99]⟩), S (⟨#[52]⟩), B false]) (by kernel_rfl) (by kernel_rfl) ?_
  intro b33 w34 hb35 hx36 hg37
  have z34 := hx36.size
  have l35 := hb35.lt
  have hs38 := (ho28.ext hx36 (fun _ _ h => h))
  refine xo.ret 0 (by kernel_rfl) (cf23 _ _) (equal_change _ exB A25 c26 w23.heap.size w34.heap.size hs38.rd (by omega) (some ⟨b33, 0, none⟩) 3 b33 (b33 + 1) (show Rd kChange w34 b33 (b33 + 1) (some ⟨b33, 0, none⟩) exB from .inr ⟨b33, 0, rfl, Nat.le_refl _, Nat.lt_succ_self _, hb35.cs⟩) (by omega) (by decide) ex_sizes) ?_
  rintro _ w39 ⟨rfl, hx40⟩
  have z39 := hx40.size
  refine xo.done 2 [(0, B true)] (by kernel_rfl) rfl (by kernel_rfl) ?_
  refine .ret ?_
  refine ⟨[B true], by kernel_rfl, _, rfl, ?_⟩
  exact ⟨rfl, ((((((((hx6.weak fun b hb h => h.elim).trans' hx10 (fun _ _ h => h) (fun b hb h => h.elim)).trans' hx15 (fun _ _ h => h) (fun b hb q => absurd hb (by have := (hf12.fpp_fp q).1; omega))).trans' hx19 (fun _ _ h => h) (fun b hb h => h.elim)).trans' hx24 (fun _ _ h => h) (fun b hb q => absurd hb (by have := (hf21.fpp_fp q).1; omega))).trans' hx32 (fun _ _ h => h) (fun b hb h => h.elim)).trans' hx36 (fun _ _ h => h) (fun b hb h => h.elim)).trans' hx40 (fun _ _ h => h) (fun b hb h => h.elim))⟩

theorem may_sizes (l1 l2 : List Change) : (∀ e ∈ applyE [] (mayL l1), e.1.size ≤ 300 ∧ e.2.size ≤ 300) ∧ ∀ e ∈ applyE (applyE [] (mayL l1)) (mayL l2), e.1.size ≤ 300 ∧ e.2.size ≤ 300 := by
  have h1 : ∀ e ∈ applyE [] (mayL l1), e.1.size ≤ 300 ∧ e.2.size ≤ 300 := applyE_all (mayL l1) (by simp) fun c hc _ => by have := (mayL_valid c hc).2; exact ⟨by simp only; omega, by simp only; omega⟩
  exact ⟨h1, applyE_all (mayL l2) h1 fun c hc _ => by have := (mayL_valid c hc).2; exact ⟨by simp only; omega, by simp only; omega⟩⟩
theorem le_maxLen {n : Nat} (h : n ≤ 300) : n ≤ maxLen := Nat.le_trans h (by unfold maxLen; omega)

end Go.Proofs.YtbajgpadmlnffaaGreat
/- The rows of this seat: arguments opened to lists; a law that returns true and turns nothing old. -/
namespace Go.V
theorem cs_all {α : Type} {k : Kd α} {w : World} {b : Nat} : ∀ (l : List α) (o : Nat), (∀ i x, l[i]? = some x → Cs w b (o + i * k.sz) (k.enc x)) → Cs w b o (k.all l)
  | [], o, _ => fun j v h => by simp [Kd.all] at h
  | x :: r, o, h => fun j v hj => by
    have e : k.all (x :: r) = k.enc x ++ k.all r := by simp [Kd.all]
    rw [e] at hj
    by_cases hlt : j < k.sz
    · rw [List.getElem?_append_left (by rw [k.len]; exact hlt)] at hj
      have := h 0 x rfl j v hj
      simpa using this
    · rw [List.getElem?_append_right (by rw [k.len]; omega), k.len] at hj
      have h2 := cs_all r (o + k.sz) (fun i y hy => by
        have := h (i + 1) y (by simpa using hy)
        rw [Nat.add_mul, Nat.one_mul] at this
        rw [show o + k.sz + i * k.sz = o + (i * k.sz + k.sz) by omega]
        exact this) (j - k.sz) v hj
      rw [show o + k.sz + (j - k.sz) = o + j by omega] at h2
      exact h2
theorem list_of {α : Type} {p : Nat → α → Prop} : ∀ (n : Nat), (∀ i, i < n → ∃ x, p i x) → ∃ l : List α, l.length = n ∧ ∀ i x, l[i]? = some x → p i x
  | 0, _ => ⟨[], rfl, fun i x h => by simp at h⟩
  | n + 1, h => by
    obtain ⟨l, hl, hp⟩ := list_of n fun i hi => h i (by omega)
    obtain ⟨x, hx⟩ := h n (by omega)
    refine ⟨l ++ [x], by simp [hl], fun i y hy => ?_⟩
    by_cases hi : i < l.length
    · rw [List.getElem?_append_left hi] at hy
      exact hp i y hy
    · rw [List.getElem?_append_right (by omega)] at hy
      have : i = n := by
        have := (List.getElem?_eq_some_iff.1 hy).1
        simp at this; omega
      subst this
      rw [hl, Nat.sub_self] at hy
      simp only [List.getElem?_cons_zero, Option.some.injEq] at hy
      subst hy
      exact hx
theorem addr_plain {w : World} {a : Addr} {v : Value} (h : w.cell? a = some v) : a = ⟨a.block, a.off, none⟩ := by
  obtain ⟨b, o, s⟩ := a
  unfold World.cell? at h
  simp only at h
  split at h
  · cases s with
    | none => rfl
    | some _ => simp at h
  · cases h
end Go.V
namespace Go.Proofs.YtbajgpadmlnffaaGreat
open Go.V Go.ChangeShapes Go.WideShapes Go.ChangeAt Go.RowKit Go.WideElems Go.Deep
set_option linter.unusedVariables false
set_option maxRecDepth 100000

theorem ow : ownKnob Tryz.prog.godebug = none := by kernel_rfl
section
variable {H : Type} {enc : TypeId × Value → H} {W : World}
theorem fld_string {n : Nat} {v : Value} {y : DataW H × List MemPlace} (h : DataW.trod enc Tryz.prog W 0 (fun _ => true) true n 9 [v] = some y) : ∃ s : ByteArray, v = .string s ∧ s.size ≤ maxLen := by
  obtain ⟨s, h1, _, h2⟩ := DataW.trod_string Tryz.underlying9 h
  simp only [List.cons.injEq, and_true] at h1
  exact ⟨s, h1, h2⟩
theorem fld_bool {n : Nat} {v : Value} {y : DataW H × List MemPlace} (h : DataW.trod enc Tryz.prog W 0 (fun _ => true) true n 4 [v] = some y) : ∃ b : Bool, v = .bool b := by
  obtain ⟨s, h1, _⟩ := DataW.trod_bool Tryz.underlying4 h
  simp only [List.cons.injEq, and_true] at h1
  exact ⟨s, h1⟩
/-- A slice of changes that came in. -/
theorem open_changes {r : Reach} {b0 : Nat} {v : Value} {d : DataW H} {ps : List MemPlace} (hval : Value.okWide Tryz.prog W r b0 22 v) (h : DataW.Trod enc Tryz.prog W 0 (fun _ => true) true 22 v d ps) :
    ∃ A cap, ∃ l : List Change, v = .slice A l.length cap ∧ Rd kChange W 0 W.heap.size A l ∧ ∀ x ∈ l, x.key.size ≤ maxLen ∧ x.val.size ≤ maxLen := by
  obtain ⟨a0, len0, cap0, rfl⟩ := okWide_slice Tryz.underlying22 hval
  obtain ⟨fuel, hf⟩ := h
  rcases open_slice Tryz.underlying22 hf with ⟨h1, _⟩ | ⟨a, len, cap, m, n, D, Pl, h1, hb, hl, hm, hmm, hx, hi⟩
  · simp only [Value.cells, List.cons.injEq, Value.slice.injEq, and_true] at h1
    obtain ⟨rfl, rfl, rfl⟩ := h1
    exact ⟨none, 0, [], rfl, .inl rfl, by simp⟩
  · simp only [Value.cells, List.cons.injEq, Value.slice.injEq, and_true] at h1
    obtain ⟨rfl, rfl, rfl⟩ := h1
    have h3 : Tryz.prog.cellsOf 34 = 3 := by kernel_rfl
    have hone : oneCellFields Tryz.prog (Tryz.prog.fieldsOf 34) = true := by kernel_rfl
    simp only [if_true] at hmm
    have key : ∀ i, i < len0 → ∃ c : Change, (w3 : True) → (W.cell? (a.add (i * 3)) = some (S c.key) ∧ W.cell? ((a.add (i * 3)).add 1) = some (S c.val) ∧ W.cell? ((a.add (i * 3)).add 2) = some (B c.gone)) ∧ c.key.size ≤ maxLen ∧ c.val.size ≤ maxLen := by
      intro i hlt
      obtain ⟨cs, hc, ht⟩ := hi i (by omega)
      rw [h3] at hc
      obtain ⟨_, hcl, hat⟩ := World.cells?_some hc
      obtain ⟨ys, n', hn', hy, hlen, hyl, hfd⟩ := DataW.trod_struct Tryz.underlying34 ht
      match cs, hcl with
      | [c0, c1, c2], _ =>
        have f0 := hfd 0 _ rfl
        have f1 := hfd 1 _ rfl
        have f2 := hfd 2 _ rfl
        have e0 : (([c0, c1, c2] : List Value).drop 0).take (Tryz.prog.cellsOf 9) = [c0] := by kernel_rfl
        have e1 : (([c0, c1, c2] : List Value).drop 1).take (Tryz.prog.cellsOf 9) = [c1] := by kernel_rfl
        have e2 : (([c0, c1, c2] : List Value).drop 2).take (Tryz.prog.cellsOf 4) = [c2] := by kernel_rfl
        have g0 : DataW.trod enc Tryz.prog W 0 (fun _ => true) true n' 9 [c0] = ys[0]? := by rw [← e0]; exact f0
        have g1 : DataW.trod enc Tryz.prog W 0 (fun _ => true) true n' 9 [c1] = ys[1]? := by rw [← e1]; exact f1
        have g2 : DataW.trod enc Tryz.prog W 0 (fun _ => true) true n' 4 [c2] = ys[2]? := by rw [← e2]; exact f2
        have hy3 : ys.length = 3 := hyl
        rw [List.getElem?_eq_getElem (show 0 < ys.length by omega)] at g0
        rw [List.getElem?_eq_getElem (show 1 < ys.length by omega)] at g1
        rw [List.getElem?_eq_getElem (show 2 < ys.length by omega)] at g2
        obtain ⟨s0, rfl, z0⟩ := fld_string g0
        obtain ⟨s1, rfl, z1⟩ := fld_string g1
        obtain ⟨s2, rfl⟩ := fld_bool g2
        have a0 := hat 0 (by omega)
        have a1 := hat 1 (by omega)
        have a2 := hat 2 (by omega)
        exact ⟨⟨s0, s1, s2⟩, fun _ => ⟨⟨by simpa [Addr.add] using a0, by simpa using a1, by simpa using a2⟩, z0, z1⟩⟩
    obtain ⟨l, hll, hlp⟩ := list_of len0 key
    refine ⟨some a, cap0, l, by rw [hll], ?_, fun x hx => ?_⟩
    · cases hl0 : l with
      | nil => exact .inl rfl
      | cons x0 r0 =>
        right
        have hz := (hlp 0 x0 (by rw [hl0]; rfl) trivial).1.1
        rw [Nat.zero_mul, show a.add 0 = a from rfl] at hz
        have ha := addr_plain hz
        have hlt : a.block < W.heap.size := by
          unfold World.cell? at hz
          cases hh : W.heap[a.block]? with
          | none => rw [hh] at hz; cases hz
          | some q => exact (Array.getElem?_eq_some_iff.1 hh).1
        refine ⟨a.block, a.off, by rw [← ha], Nat.zero_le _, hlt, ?_⟩
        rw [← hl0]
        refine cs_all l a.off fun i x hx j v hj => ?_
        obtain ⟨⟨p0, p1, p2⟩, _⟩ := hlp i x hx trivial
        have hadd : ∀ q, a.add q = ⟨a.block, a.off + q, none⟩ := fun q => by
          unfold Addr.add
          split
          · rename_i hq; subst hq; exact ha
          · rfl
        have hadd2 : ∀ q s, (a.add q).add s = ⟨a.block, a.off + q + s, none⟩ := fun q s => by
          rw [hadd]
          unfold Addr.add
          split
          · rename_i hq; subst hq; rfl
          · rfl
        rw [hadd] at p0
        rw [hadd2] at p1 p2
        show W.cell? ⟨a.block, a.off + i * 3 + j, none⟩ = some v
        have hj' : ([S x.key, S x.val, B x.gone] : List Value)[j]? = some v := hj
        match j, hj' with
        | 0, h => simp only [List.getElem?_cons_zero, Option.some.injEq] at h; subst h; exact p0
        | 1, h => simp only [List.getElem?_cons_succ, List.getElem?_cons_zero, Option.some.injEq] at h; subst h; exact p1
        | 2, h => simp only [List.getElem?_cons_succ, List.getElem?_cons_zero, Option.some.injEq] at h; subst h; exact p2
        | j + 3, h => simp at h
    · obtain ⟨i, hi2⟩ := List.mem_iff_getElem?.1 hx
      exact (hlp i x hi2 trivial).2
theorem ext_below {w w' : World} (h : Ext No w w') : Go.RowKit.Below w.heap.size w w' := ⟨h.os, h.tape, h.output, h.size, fun k hk => h.block k hk fun q => q⟩
/-- A law: true comes back, and nothing old has turned: the arguments read as they did. -/
theorem law_post {f : Func} {s : ChangeSpec} {W' : World} {args : Array Value} {ds : List (DataW H)} {ps : List MemPlace} (hsv : s.vars = []) (hrt : f.resultTypes = #[4])
    (hW : DataW.Whole enc Tryz.prog f.params.toList s.vars false W args.toList ds [] ps) (hres : (s.fn H (ds ++ [])).results = [.lit (.bool true)]) (hargs : (s.fn H (ds ++ [])).args = ds) (hvars : (s.fn H (ds ++ [])).vars = [])
    (hread : ∀ sp : Nat → Bool, (∀ p ∈ ps, sp p.block = true) → DataW.TrodAll enc Tryz.prog W' 0 sp true f.params.toList args.toList ds ps) (hb : Go.RowKit.Below W.heap.size W W') :
    s.post enc Tryz.prog f false true false false W args (.bool true) W' := by
  have hlt : ∀ p ∈ ps, p.block < W.heap.size := fun p hp => hW.lt p hp
  have hold : ∀ p ∈ ps, (fun b => decide (b < W.heap.size)) p.block = true := fun p hp => by simpa using hlt p hp
  have hr : ∀ (b : Nat) (sp : Nat → Bool) (hd : Bool), DataW.TrodAll enc Tryz.prog W' b sp hd f.resultTypes.toList ((Value.bool true).resultList f.resultTypes.size) (s.fn H (ds ++ [])).results [] := fun b sp hd => by
    rw [hrt, hres]
    exact trodAll_mk1 (shut_bool Tryz.underlying4 true)
  have ha : ∀ sp : Nat → Bool, (∀ p ∈ ps, sp p.block = true) → DataW.TrodAll enc Tryz.prog W' 0 sp true f.params.toList args.toList (s.fn H (ds ++ [])).args ps := fun sp h => by rw [hargs]; exact hread sp h
  have hv : ∀ sp : Nat → Bool, DataW.TrodVars enc Tryz.prog W' sp s.vars (s.fn H (ds ++ [])).vars [] := fun sp => by rw [hsv, hvars]; rfl
  refine ⟨ds, [], ps, [], ps, [], hW, hr _ _ _, ha _ hold, hv _, World.keptBut_mono (fun p hp => ⟨hp, .inr (by simpa using hp)⟩) (hb.frame (· ∈ ps)), fun _ => ?_⟩
  obtain ⟨_, _, _, _, _, hz, hn⟩ := hW
  refine ⟨fun j t r hj hr' => ?_, _, _, ([] ++ ps) ++ [], ⟨[] ++ ps, [], trodAll_append (ha _ (fun _ _ => rfl)) (hr _ _ _), hv _, rfl, ?_, ?_⟩, fun p hp _ => by simpa using hp⟩
  · exact ok_one (P := Tryz.prog) hrt rfl (okWide_bool_mk Tryz.underlying4 true) j t r hj hr'
  · intro b off hp
    have hin : MemPlace.cell b off ∈ ps := by simpa using hp
    rw [hb.frozen (hlt _ hin)]
    exact hz b off hin
  · intro h; cases h
end
end Go.Proofs.YtbajgpadmlnffaaGreat
/- Are changes sorted: the walk. -/
namespace Go.Proofs.YtbajgpadmlnffaaGreat
open Go.V
set_option maxRecDepth 100000
set_option linter.unusedVariables false
set_option linter.unusedSimpArgs false

/-- A change that may lie in bytes. -/
def okC (c : Change) : Prop := c.key ≠ ⟨#[]⟩ ∧ c.key.size ≤ 64 ∧ c.val.size ≤ 300 ∧ (c.gone = true → c.val = ⟨#[]⟩)
def okAt (l : List Change) (i : Nat) : Prop := ∀ c, l[i]? = some c → okC c ∧ (0 < i → ∀ d, l[i - 1]? = some d → Lt d.key c.key)
def SortedC (l : List Change) : Prop := ∀ i, okAt l i
theorem sortedC_of {l : List Change} {i : Nat} (h : ∀ j, j < i → okAt l j) (hi : l.length ≤ i) : SortedC l := fun j => by
  by_cases hj : j < i
  · exact h j hj
  · intro c hc
    have := (List.getElem?_eq_some_iff.1 hc).1
    omega
theorem okAt_mk {l : List Change} {i : Nat} {c : Change} (hc : l[i]? = some c) (h : okC c) (h2 : 0 < i → ∀ d, l[i - 1]? = some d → Lt d.key c.key) : okAt l i := fun d hd => by
  have e : c = d := Option.some.inj (hc.symm.trans hd)
  subst e
  exact ⟨h, h2⟩
theorem not_sortedC {l : List Change} {i : Nat} {c : Change} (hc : l[i]? = some c) (h : ¬ okC c) : ¬ SortedC l := fun hs => h (hs i c hc).1
theorem not_sortedC2 {l : List Change} {i : Nat} {c d : Change} (hc : l[i]? = some c) (hi : 0 < i) (hd : l[i - 1]? = some d) (h : ¬ Lt d.key c.key) : ¬ SortedC l := fun hs => h ((hs i c hc).2 hi d hd)

theorem diff_Sorted (w : World) (A : Option Addr) (cap : Nat) (l : List Change) (lo hi : Nat) (hR : Rd kChange w lo hi A l) (hhi_ : hi ≤ w.heap.size) (hlen : l.length ≤ 4294967296) :
    Ret Tryz.prog 21 [.slice A l.length cap] w fun v w' => ∃ b, v = B b ∧ (b = true ↔ SortedC l) ∧ Ext No w w' := by
  refine calls_of_XC Tryz.func21 rfl rfl ?_
  refine .seq ?_
  refine .region ?_
  refine xo.done 1 [(0, .slice A l.length cap)] (by kernel_rfl) rfl (by kernel_rfl) ?_
  refine .seq ?_
  refine .seq ?_
  refine .region ?_
  refine xo.done 3 [(0, .slice A l.length cap), (5, .slice A l.length cap), (6, I (l.length : Int)), (7, I 0)] (by kernel_rfl) rfl (by kernel_rfl) ?_
  refine .block ?_
  refine XC.loop (ι := Nat) (fun i => [(0, .slice A l.length cap), (5, .slice A l.length cap), (6, I (l.length : Int)), (7, I (i : Int))]) (fun i u => i ≤ l.length ∧ (∀ j, j < i → okAt l j) ∧ Ext No w u) (fun i => l.length - i) 0 (cov_of (by kernel_rfl)) ⟨by omega, fun j hj => absurd hj (by omega), (Ext.refl _ _)⟩ ?_
  rintro i w1 ⟨hi_, hsm, hE⟩
  have z1 := hE.size
  refine .seq ?_
  refine .region ?_
  by_cases hc2 : ((i : Int) : Int) < (l.length : Int)
  · refine xo.val 0 (by kernel_rfl) (c_lss_t hc2) ?_
    refine xo.done 0 [(0, .slice A l.length cap), (5, .slice A l.length cap), (6, I (l.length : Int)), (7, I (i : Int)), (8, B true)] (by kernel_rfl) rfl (by kernel_rfl) ?_
    refine .seq ?_
    refine .condT rfl rfl ?_
    refine .skip ?_
    refine .seq ?_
    refine .block ?_
    refine .seq ?_
    refine .region ?_
    have hs3 := (hR.ext hE (fun _ _ _ h => h))
    obtain ⟨b4, o5, x6, hi7, hA8, hl9, hh10, hr11⟩ := hs3.at_ i (by omega)
    refine xo.val 1 (by kernel_rfl) (idxN (kk := .i64) (t := 22) (n := l.length) (cap := cap) (sz := 3) (i := i) (by kernel_rfl) hA8 (by omega)) ?_
    refine xo.val 0 (by kernel_rfl) (ldA (t := 34) (by kernel_rfl) hr11) ?_
    refine xo.alloc 0 34 [S (⟨#[]⟩), S (⟨#[]⟩), B false] (by kernel_rfl) (by kernel_rfl) ?_
    intro b12 w13 hb14 hx15 hg16
    have z13 := hx15.size
    have l14 := hb14.lt
    refine xo.store 1 34 (o := 0) (.agg #[S x6.key, S x6.val, B x6.gone]) [S x6.key, S x6.val, B x6.gone] (by kernel_rfl) hb14 (by kernel_rfl) (by kernel_rfl) (by kernel_rfl) (by kernel_rfl) ?_
    intro w17 hb18 hx19
    have z17 := hx19.size
    refine xo.done 0 [(0, .slice A l.length cap), (3, I (i : Int)), (4, Pt b12 0), (5, .slice A l.length cap), (6, I (l.length : Int)), (7, I (i : Int))] (by kernel_rfl) rfl (by kernel_rfl) ?_
    refine .seq ?_
    refine .regionReads (by kernel_rfl) (by kernel_rfl) ?_
    intro w20 hd21
    have hx21 := Ext.ofDrew (M := No) hd21
    have z20 := hx21.size
    have hb22 := (hb18.ext hx21 (fun h => h))
    refine Go.V.xs.val 1 (by kernel_rfl) (ldB (t := 9) (o := 0) (by kernel_rfl) hb22 rfl) ?_
    by_cases hc23 : x6.key = (⟨#[]⟩)
    · refine Go.V.xs.val 0 (by kernel_rfl) (s_eql_t hc23) ?_
      refine Go.V.xs.fin 36 (by kernel_rfl) rfl ?_
      refine .cov [(0, .slice A l.length cap), (5, .slice A l.length cap), (6, I (l.length : Int)), (7, I (i : Int)), (50, B true)] (cov_of (by kernel_rfl)) ?_
      refine .condT rfl rfl ?_
      refine .seq ?_
      refine .region ?_
      refine xo.done 1 [(2, B false)] (by kernel_rfl) rfl (by kernel_rfl) ?_
      refine .ret ?_
      refine ⟨[B false], by kernel_rfl, _, rfl, ?_⟩
      have hno := not_sortedC hi7 (fun q => q.1 hc23)
      exact ⟨false, rfl, ⟨fun h9 => (by cases h9), fun h9 => absurd h9 hno⟩, ((((hE.weak fun b hb h => h.elim).trans' hx15 (fun _ _ h => h) (fun b hb h => h.elim)).trans' hx19 (fun _ _ h => h) (fun b hb (q : b = b12) => absurd hb (by omega))).trans' hx21 (fun _ _ h => h) (fun b hb h => h.elim))⟩
    · refine Go.V.xs.val 0 (by kernel_rfl) (s_eql_f hc23) ?_
      refine Go.V.xs.val 2 (by kernel_rfl) (ldB (t := 9) (o := 0) (by kernel_rfl) hb22 rfl) ?_
      by_cases hc24 : ((x6.key.size : Int) : Int) ≤ 64
      · refine Go.V.xs.val 1 (by kernel_rfl) (c_gtr_t hc24) ?_
        refine Go.V.xs.val 3 (by kernel_rfl) (ldB (t := 9) (o := 1) (by kernel_rfl) hb22 rfl) ?_
        by_cases hc25 : ((x6.val.size : Int) : Int) ≤ 300
        · refine Go.V.xs.val 1 (by kernel_rfl) (c_gtr_t hc25) ?_
          obtain hg26 | hg26 : x6.gone = false ∨ x6.gone = true := by cases x6.gone <;> simp
          · refine Go.V.xs.val 3 (by kernel_rfl) (ldB (t := 4) (o := 2) (v := B false) (by kernel_rfl) hb22 (by rw [← hg26]; rfl)) ?_
            by_cases hc27 : ((i : Int) : Int) ≤ 0
            · refine Go.V.xs.val 8 (by kernel_rfl) (c_gtr_t hc27) ?_
              refine Go.V.xs.fin 12 (by kernel_rfl) rfl ?_
              refine .cov [(0, .slice A l.length cap), (5, .slice A l.length cap), (6, I (l.length : Int)), (7, I (i : Int)), (50, B false)] (cov_of (by kernel_rfl)) ?_
              refine .condF rfl rfl ?_
              refine .skip ?_
              refine .region ?_
              refine xo.val 0 (by kernel_rfl) (a_add (a := (i : Int)) (b := 1) (by omega) (by omega)) ?_
              refine xo.fin 1 (by kernel_rfl) rfl ?_
              have hok := okAt_mk hi7 ⟨hc23, by omega, by omega, (fun h9 => absurd h9 (by rw [hg26]; decide))⟩ (fun h9 => by omega)
              exact ⟨i + 1, cov_of (by kernel_rfl), ⟨by omega, fun j hj => if h9 : j < i then hsm j h9 else (by rw [show j = i by omega]; exact hok), ((((hE.weak fun b hb h => h.elim).trans' hx15 (fun _ _ h => h) (fun b hb h => h.elim)).trans' hx19 (fun _ _ h => h) (fun b hb (q : b = b12) => absurd hb (by omega))).trans' hx21 (fun _ _ h => h) (fun b hb h => h.elim))⟩, by show l.length - (i + 1) < l.length - i; omega⟩
            · refine Go.V.xs.val 8 (by kernel_rfl) (c_gtr_f hc27) ?_
              refine Go.V.xs.val 2 (by kernel_rfl) (ldB (t := 9) (o := 0) (by kernel_rfl) hb22 rfl) ?_
              refine Go.V.xs.val 2 (by kernel_rfl) (a_sub (a := (i : Int)) (b := 1) (by omega) (by omega)) ?_
              have hs28 := (((hs3.ext hx15 (fun _ _ _ h => h)).ext hx19 (fun b h1 h2 (e : b = b12) => by omega)).ext hx21 (fun _ _ _ h => h))
              obtain ⟨b29, o30, x31, hi32, hA33, hl34, hh35, hr36⟩ := hs28.at_ (((i : Int) - 1).toNat) (by omega)
              refine Go.V.xs.val 0 (by kernel_rfl) (idxZ (kk := .i64) (t := 22) (n := l.length) (cap := cap) (sz := 3) (i := (i : Int) - 1) (by kernel_rfl) hA33 (by omega) (by omega)) ?_
              rw [show ((i : Int) - 1).toNat = i - 1 by omega] at hi32
              refine Go.V.xs.val 1 (by kernel_rfl) (ld (t := 9) (by kernel_rfl) (hr36 0 _ rfl)) ?_
              by_cases hc37 : Lt x31.key x6.key
              · refine Go.V.xs.val 0 (by kernel_rfl) (s_leq_t hc37) ?_
                refine Go.V.xs.fin 2 (by kernel_rfl) rfl ?_
                refine .cov [(0, .slice A l.length cap), (5, .slice A l.length cap), (6, I (l.length : Int)), (7, I (i : Int)), (50, B false)] (cov_of (by kernel_rfl)) ?_
                refine .condF rfl rfl ?_
                refine .skip ?_
                refine .region ?_
                refine xo.val 0 (by kernel_rfl) (a_add (a := (i : Int)) (b := 1) (by omega) (by omega)) ?_
                refine xo.fin 1 (by kernel_rfl) rfl ?_
                have hok := okAt_mk hi7 ⟨hc23, by omega, by omega, (fun h9 => absurd h9 (by rw [hg26]; decide))⟩ (fun _ d hd => by have e9 := Option.some.inj (hd.symm.trans hi32); subst e9; exact hc37)
                exact ⟨i + 1, cov_of (by kernel_rfl), ⟨by omega, fun j hj => if h9 : j < i then hsm j h9 else (by rw [show j = i by omega]; exact hok), ((((hE.weak fun b hb h => h.elim).trans' hx15 (fun _ _ h => h) (fun b hb h => h.elim)).trans' hx19 (fun _ _ h => h) (fun b hb (q : b = b12) => absurd hb (by omega))).trans' hx21 (fun _ _ h => h) (fun b hb h => h.elim))⟩, by show l.length - (i + 1) < l.length - i; omega⟩
              · refine Go.V.xs.val 0 (by kernel_rfl) (s_leq_f hc37) ?_
                refine Go.V.xs.fin 2 (by kernel_rfl) rfl ?_
                refine .cov [(0, .slice A l.length cap), (5, .slice A l.length cap), (6, I (l.length : Int)), (7, I (i : Int)), (50, B true)] (cov_of (by kernel_rfl)) ?_
                refine .condT rfl rfl ?_
                refine .seq ?_
                refine .region ?_
                refine xo.done 1 [(2, B false)] (by kernel_rfl) rfl (by kernel_rfl) ?_
                refine .ret ?_
                refine ⟨[B false], by kernel_rfl, _, rfl, ?_⟩
                have hno := not_sortedC2 hi7 (by omega) hi32 hc37
                exact ⟨false, rfl, ⟨fun h9 => (by cases h9), fun h9 => absurd h9 hno⟩, ((((hE.weak fun b hb h => h.elim).trans' hx15 (fun _ _ h => h) (fun b hb h => h.elim)).trans' hx19 (fun _ _ h => h) (fun b hb (q : b = b12) => absurd hb (by omega))).trans' hx21 (fun _ _ h => h) (fun b hb h => h.elim))⟩
          · refine Go.V.xs.val 3 (by kernel_rfl) (ldB (t := 4) (o := 2) (v := B true) (by kernel_rfl) hb22 (by rw [← hg26]; rfl)) ?_
            refine Go.V.xs.val 2 (by kernel_rfl) (ldB (t := 9) (o := 1) (by kernel_rfl) hb22 rfl) ?_
            by_cases hc38 : x6.val = (⟨#[]⟩)
            · refine Go.V.xs.val 0 (by kernel_rfl) (s_neq_t hc38) ?_
              by_cases hc39 : ((i : Int) : Int) ≤ 0
              · refine Go.V.xs.val 4 (by kernel_rfl) (c_gtr_t hc39) ?_
                refine Go.V.xs.fin 12 (by kernel_rfl) rfl ?_
                refine .cov [(0, .slice A l.length cap), (5, .slice A l.length cap), (6, I (l.length : Int)), (7, I (i : Int)), (50, B false)] (cov_of (by kernel_rfl)) ?_
                refine .condF rfl rfl ?_
                refine .skip ?_
                refine .region ?_
                refine xo.val 0 (by kernel_rfl) (a_add (a := (i : Int)) (b := 1) (by omega) (by omega)) ?_
                refine xo.fin 1 (by kernel_rfl) rfl ?_
                have hok := okAt_mk hi7 ⟨hc23, by omega, by omega, (fun _ => hc38)⟩ (fun h9 => by omega)
                exact ⟨i + 1, cov_of (by kernel_rfl), ⟨by omega, fun j hj => if h9 : j < i then hsm j h9 else (by rw [show j = i by omega]; exact hok), ((((hE.weak fun b hb h => h.elim).trans' hx15 (fun _ _ h => h) (fun b hb h => h.elim)).trans' hx19 (fun _ _ h => h) (fun b hb (q : b = b12) => absurd hb (by omega))).trans' hx21 (fun _ _ h => h) (fun b hb h => h.elim))⟩, by show l.length - (i + 1) < l.length - i; omega⟩
              · refine Go.V.xs.val 4 (by kernel_rfl) (c_gtr_f hc39) ?_
                refine Go.V.xs.val 2 (by kernel_rfl) (ldB (t := 9) (o := 0) (by kernel_rfl) hb22 rfl) ?_
                refine Go.V.xs.val 2 (by kernel_rfl) (a_sub (a := (i : Int)) (b := 1) (by omega) (by omega)) ?_
                have hs40 := (((hs3.ext hx15 (fun _ _ _ h => h)).ext hx19 (fun b h1 h2 (e : b = b12) => by omega)).ext hx21 (fun _ _ _ h => h))
                obtain ⟨b41, o42, x43, hi44, hA45, hl46, hh47, hr48⟩ := hs40.at_ (((i : Int) - 1).toNat) (by omega)
                refine Go.V.xs.val 0 (by kernel_rfl) (idxZ (kk := .i64) (t := 22) (n := l.length) (cap := cap) (sz := 3) (i := (i : Int) - 1) (by kernel_rfl) hA45 (by omega) (by omega)) ?_
                rw [show ((i : Int) - 1).toNat = i - 1 by omega] at hi44
                refine Go.V.xs.val 1 (by kernel_rfl) (ld (t := 9) (by kernel_rfl) (hr48 0 _ rfl)) ?_
                by_cases hc49 : Lt x43.key x6.key
                · refine Go.V.xs.val 0 (by kernel_rfl) (s_leq_t hc49) ?_
                  refine Go.V.xs.fin 2 (by kernel_rfl) rfl ?_
                  refine .cov [(0, .slice A l.length cap), (5, .slice A l.length cap), (6, I (l.length : Int)), (7, I (i : Int)), (50, B false)] (cov_of (by kernel_rfl)) ?_
                  refine .condF rfl rfl ?_
                  refine .skip ?_
                  refine .region ?_
                  refine xo.val 0 (by kernel_rfl) (a_add (a := (i : Int)) (b := 1) (by omega) (by omega)) ?_
                  refine xo.fin 1 (by kernel_rfl) rfl ?_
                  have hok := okAt_mk hi7 ⟨hc23, by omega, by omega, (fun _ => hc38)⟩ (fun _ d hd => by have e9 := Option.some.inj (hd.symm.trans hi44); subst e9; exact hc49)
                  exact ⟨i + 1, cov_of (by kernel_rfl), ⟨by omega, fun j hj => if h9 : j < i then hsm j h9 else (by rw [show j = i by omega]; exact hok), ((((hE.weak fun b hb h => h.elim).trans' hx15 (fun _ _ h => h) (fun b hb h => h.elim)).trans' hx19 (fun _ _ h => h) (fun b hb (q : b = b12) => absurd hb (by omega))).trans' hx21 (fun _ _ h => h) (fun b hb h => h.elim))⟩, by show l.length - (i + 1) < l.length - i; omega⟩
                · refine Go.V.xs.val 0 (by kernel_rfl) (s_leq_f hc49) ?_
                  refine Go.V.xs.fin 2 (by kernel_rfl) rfl ?_
                  refine .cov [(0, .slice A l.length cap), (5, .slice A l.length cap), (6, I (l.length : Int)), (7, I (i : Int)), (50, B true)] (cov_of (by kernel_rfl)) ?_
                  refine .condT rfl rfl ?_
                  refine .seq ?_
                  refine .region ?_
                  refine xo.done 1 [(2, B false)] (by kernel_rfl) rfl (by kernel_rfl) ?_
                  refine .ret ?_
                  refine ⟨[B false], by kernel_rfl, _, rfl, ?_⟩
                  have hno := not_sortedC2 hi7 (by omega) hi44 hc49
                  exact ⟨false, rfl, ⟨fun h9 => (by cases h9), fun h9 => absurd h9 hno⟩, ((((hE.weak fun b hb h => h.elim).trans' hx15 (fun _ _ h => h) (fun b hb h => h.elim)).trans' hx19 (fun _ _ h => h) (fun b hb (q : b = b12) => absurd hb (by omega))).trans' hx21 (fun _ _ h => h) (fun b hb h => h.elim))⟩
            · refine Go.V.xs.val 0 (by kernel_rfl) (s_neq_f hc38) ?_
              refine Go.V.xs.fin 17 (by kernel_rfl) rfl ?_
              refine .cov [(0, .slice A l.length cap), (5, .slice A l.length cap), (6, I (l.length : Int)), (7, I (i : Int)), (50, B true)] (cov_of (by kernel_rfl)) ?_
              refine .condT rfl rfl ?_
              refine .seq ?_
              refine .region ?_
              refine xo.done 1 [(2, B false)] (by kernel_rfl) rfl (by kernel_rfl) ?_
              refine .ret ?_
              refine ⟨[B false], by kernel_rfl, _, rfl, ?_⟩
              have hno := not_sortedC hi7 (fun q => hc38 (q.2.2.2 hg26))
              exact ⟨false, rfl, ⟨fun h9 => (by cases h9), fun h9 => absurd h9 hno⟩, ((((hE.weak fun b hb h => h.elim).trans' hx15 (fun _ _ h => h) (fun b hb h => h.elim)).trans' hx19 (fun _ _ h => h) (fun b hb (q : b = b12) => absurd hb (by omega))).trans' hx21 (fun _ _ h => h) (fun b hb h => h.elim))⟩
        · refine Go.V.xs.val 1 (by kernel_rfl) (c_gtr_f hc25) ?_
          refine Go.V.xs.fin 25 (by kernel_rfl) rfl ?_
          refine .cov [(0, .slice A l.length cap), (5, .slice A l.length cap), (6, I (l.length : Int)), (7, I (i : Int)), (50, B true)] (cov_of (by kernel_rfl)) ?_
          refine .condT rfl rfl ?_
          refine .seq ?_
          refine .region ?_
          refine xo.done 1 [(2, B false)] (by kernel_rfl) rfl (by kernel_rfl) ?_
          refine .ret ?_
          refine ⟨[B false], by kernel_rfl, _, rfl, ?_⟩
          have hno := not_sortedC hi7 (fun q => by have := q.2.2.1; omega)
          exact ⟨false, rfl, ⟨fun h9 => (by cases h9), fun h9 => absurd h9 hno⟩, ((((hE.weak fun b hb h => h.elim).trans' hx15 (fun _ _ h => h) (fun b hb h => h.elim)).trans' hx19 (fun _ _ h => h) (fun b hb (q : b = b12) => absurd hb (by omega))).trans' hx21 (fun _ _ h => h) (fun b hb h => h.elim))⟩
      · refine Go.V.xs.val 1 (by kernel_rfl) (c_gtr_f hc24) ?_
        refine Go.V.xs.fin 31 (by kernel_rfl) rfl ?_
        refine .cov [(0, .slice A l.length cap), (5, .slice A l.length cap), (6, I (l.length : Int)), (7, I (i : Int)), (50, B true)] (cov_of (by kernel_rfl)) ?_
        refine .condT rfl rfl ?_
        refine .seq ?_
        refine .region ?_
        refine xo.done 1 [(2, B false)] (by kernel_rfl) rfl (by kernel_rfl) ?_
        refine .ret ?_
        refine ⟨[B false], by kernel_rfl, _, rfl, ?_⟩
        have hno := not_sortedC hi7 (fun q => by have := q.2.1; omega)
        exact ⟨false, rfl, ⟨fun h9 => (by cases h9), fun h9 => absurd h9 hno⟩, ((((hE.weak fun b hb h => h.elim).trans' hx15 (fun _ _ h => h) (fun b hb h => h.elim)).trans' hx19 (fun _ _ h => h) (fun b hb (q : b = b12) => absurd hb (by omega))).trans' hx21 (fun _ _ h => h) (fun b hb h => h.elim))⟩
  · refine xo.val 0 (by kernel_rfl) (c_lss_f hc2) ?_
    refine xo.done 0 [(0, .slice A l.length cap), (5, .slice A l.length cap), (6, I (l.length : Int)), (7, I (i : Int)), (8, B false)] (by kernel_rfl) rfl (by kernel_rfl) ?_
    refine .seq ?_
    refine .condF rfl rfl ?_
    refine .exit ?_
    refine xsetTo ?_
    refine .seq ?_
    refine .region ?_
    refine xo.done 1 [(2, B true)] (by kernel_rfl) rfl (by kernel_rfl) ?_
    refine .ret ?_
    refine ⟨[B true], by kernel_rfl, _, rfl, ?_⟩
    exact ⟨true, rfl, ⟨fun _ => sortedC_of hsm (by omega), fun _ => rfl⟩, (hE.weak fun b hb h => h.elim)⟩

end Go.Proofs.YtbajgpadmlnffaaGreat
/- Changes as bytes: the walk. -/
namespace Go.Proofs.YtbajgpadmlnffaaGreat
open Go.V
set_option maxRecDepth 100000
set_option linter.unusedVariables false
set_option linter.unusedSimpArgs false

/-- What of a text may lie in bytes. -/
def cut16 (t : ByteArray) : ByteArray := if t.size ≤ 65535 then t else t.extract 0 65535
theorem cut16_size (t : ByteArray) : (cut16 t).size ≤ 65535 := by
  unfold cut16
  split
  · assumption
  · rw [ByteArray.size_extract]; omega
theorem cut16_big {t : ByteArray} (h : 65535 < t.size) : (cut16 t).size = 65535 := by
  unfold cut16
  rw [if_neg (by omega), ByteArray.size_extract]; omega

theorem oct_puttext_long (w : World) (lo hi : Nat) (A : Option Addr) (cap : Nat) (l : List UInt8) (h : Rd (kU8 5) w lo hi A l) (hh : hi ≤ w.heap.size) (hl : l.length ≤ 1099511627776) (t : ByteArray) (ht : 65535 < t.size) (htm : t.size ≤ 9223372036854775807) :
    Ret Tryz.prog 51 [.slice A l.length cap, S t] w fun v w' => ∃ A' cap', v = .slice A' (l ++ txt (t.extract 0 65535)).length cap' ∧ Own (kU8 5) w' w.heap.size A' cap' (l ++ txt (t.extract 0 65535)) ∧ Ext No w w' := by
  have hx5 : (t.extract 0 65535).size = 65535 := by rw [ByteArray.size_extract]; omega
  refine calls_of_XC Tryz.func51 rfl rfl ?_
  refine .seq ?_
  refine .region ?_
  refine xo.done 1 [(0, .slice A l.length cap), (1, S t)] (by kernel_rfl) rfl (by kernel_rfl) ?_
  refine .seq ?_
  refine .region ?_
  refine xo.val 3 (by kernel_rfl) (mn_t (x := (t.size : Int)) (y := 65535) (show (65535 : Int) < (t.size : Int) from (by omega))) ?_
  refine xo.val 0 (by kernel_rfl) (ssl_hi (t := 9) (s := t) (b := 65535) (by kernel_rfl) (by omega) (by omega)) ?_
  refine xo.done 1 [(0, .slice A l.length cap), (1, S (t.extract 0 65535))] (by kernel_rfl) rfl (by kernel_rfl) ?_
  refine .seq ?_
  refine .region ?_
  refine xo.ret 3 (by kernel_rfl) (cf50 _ _) (oct_put _ lo hi A cap l h (by omega) (by first | omega | (simp only [List.length_append, be_length, List.length_nil, List.length_cons, bs_size, Array.length_toList] at *; omega)) (((t.extract 0 65535).size : Int)) 2 (by omega) (by omega)) ?_
  rintro _ w4 ⟨A1, c2, rfl, ho3, hx5⟩
  have z4 := hx5.size
  refine xo.app 1 (ty := 76) (k := (kU8 5)) (t := 76) (tx := 9) (xs := l ++ be 2 (((t.extract 0 65535).size : Int))) (ys := (t.extract 0 65535).data.toList) (x := S (t.extract 0 65535)) (by exact pU8) ho3 (src_str (t.extract 0 65535) (by kernel_rfl)) (by omega) (show ((l ++ be 2 (((t.extract 0 65535).size : Int))).length + (t.extract 0 65535).data.toList.length) * 1 ≤ 140737488355328 from (by have ht2 : (t.extract 0 65535).data.toList.length = (t.extract 0 65535).size := Array.length_toList; simp only [List.length_append, be_length]; omega)) (show (l ++ be 2 (((t.extract 0 65535).size : Int))).length + (t.extract 0 65535).data.toList.length ≤ 9223372036854775807 from (by have ht2 : (t.extract 0 65535).data.toList.length = (t.extract 0 65535).size := Array.length_toList; simp only [List.length_append, be_length]; omega)) (by kernel_rfl) ?_
  intro A6 c7 w8 ho9 hx10
  have z8 := hx10.size
  refine xo.done 1 [(4, .slice A6 ((l ++ be 2 (((t.extract 0 65535).size : Int)) ++ (t.extract 0 65535).data.toList).length) c7)] (by kernel_rfl) rfl (by kernel_rfl) ?_
  refine .ret ?_
  refine ⟨[.slice A6 ((l ++ be 2 (((t.extract 0 65535).size : Int)) ++ (t.extract 0 65535).data.toList).length) c7], by kernel_rfl, _, rfl, ?_⟩
  unfold txt
  rw [← List.append_assoc]
  exact ⟨_, _, rfl, ho9.base_le (by omega), (hx5.trans' hx10 (fun _ _ h => h) (fun b hb hm => absurd (ho3.lt hm).1 (by omega)))⟩

theorem oct_puttext_any (w : World) (lo hi : Nat) (A : Option Addr) (cap : Nat) (l : List UInt8) (h : Rd (kU8 5) w lo hi A l) (hh : hi ≤ w.heap.size) (hl : l.length ≤ 1099511627776) (t : ByteArray) (htm : t.size ≤ 9223372036854775807) :
    Ret Tryz.prog 51 [.slice A l.length cap, S t] w fun v w' => ∃ A' cap', v = .slice A' (l ++ txt (cut16 t)).length cap' ∧ Own (kU8 5) w' w.heap.size A' cap' (l ++ txt (cut16 t)) ∧ Ext No w w' := by
  by_cases ht : t.size ≤ 65535
  · rw [show cut16 t = t from if_pos ht]; exact oct_puttext w lo hi A cap l h hh hl t ht
  · rw [show cut16 t = t.extract 0 65535 from if_neg ht]; exact oct_puttext_long w lo hi A cap l h hh hl t (by omega) htm

/-- A change as bytes. -/
def chB (c : Change) : List UInt8 := be 1 (if c.gone then 1 else 0) ++ txt (cut16 c.key) ++ txt (cut16 c.val)
def chsB : List Change → List UInt8
  | [] => []
  | c :: r => chB c ++ chsB r
def putL (l : List Change) : List UInt8 := be 4 l.length ++ chsB l
theorem chB_length (c : Change) : (chB c).length ≤ 131075 := by
  unfold chB
  have := cut16_size c.key
  have := cut16_size c.val
  simp only [List.length_append, be_length, txt_length]; omega
theorem chsB_snoc : ∀ (l : List Change) (c : Change), chsB (l ++ [c]) = chsB l ++ chB c
  | [], c => by simp [chsB]
  | d :: l, c => by simp [chsB, chsB_snoc l c]
theorem chsB_length : ∀ l : List Change, (chsB l).length ≤ 131075 * l.length
  | [] => by simp [chsB]
  | c :: r => by have := chB_length c; have := chsB_length r; simp only [chsB, List.length_append, List.length_cons]; omega

theorem diff_Put (w : World) (A : Option Addr) (cap : Nat) (l : List Change) (lo hi : Nat) (hR : Rd kChange w lo hi A l) (hhi_ : hi ≤ w.heap.size) (hlen : l.length ≤ 10000) (hks : ∀ c ∈ l, c.key.size ≤ 9223372036854775807 ∧ c.val.size ≤ 9223372036854775807) :
    Ret Tryz.prog 19 [.slice A l.length cap] w fun v w' => v = S ⟨(putL l).toArray⟩ ∧ Ext No w w' := by
  refine calls_of_XC Tryz.func19 rfl rfl ?_
  refine .seq ?_
  refine .region ?_
  refine xo.done 1 [(0, .slice A l.length cap)] (by kernel_rfl) rfl (by kernel_rfl) ?_
  refine .seq ?_
  refine .region ?_
  refine xo.ret 2 (by kernel_rfl) (cf50 _ _) (oct_put _ 0 0 none 0 ([]) (Rd.nil (k := _)) (by omega) (by first | omega | (simp only [List.length_append, be_length, List.length_nil, List.length_cons, bs_size, Array.length_toList] at *; omega)) (l.length : Int) 4 (by omega) (by omega)) ?_
  rintro _ w4 ⟨A1, c2, rfl, ho3, hx5⟩
  have z4 := hx5.size
  refine xo.done 1 [(0, .slice A l.length cap), (3, .slice A1 ((([]) ++ be 4 (l.length : Int)).length) c2)] (by kernel_rfl) rfl (by kernel_rfl) ?_
  refine .seq ?_
  refine .seq ?_
  refine .region ?_
  refine xo.done 3 [(3, .slice A1 ((([]) ++ be 4 (l.length : Int)).length) c2), (10, .slice A l.length cap), (11, I (l.length : Int)), (12, I 0)] (by kernel_rfl) rfl (by kernel_rfl) ?_
  refine .block ?_
  refine XC.loop (ι := Option Addr × Nat × Nat × List UInt8) (fun ⟨B_, cp, i, xs⟩ => [(3, .slice B_ xs.length cp), (10, .slice A l.length cap), (11, I (l.length : Int)), (12, I (i : Int))]) (fun ⟨B_, cp, i, xs⟩ u => Own (kU8 5) u w.heap.size B_ cp xs ∧ i ≤ l.length ∧ Ext No w u ∧ xs = be 4 (l.length : Int) ++ chsB (l.take i)) (fun ⟨B_, cp, i, xs⟩ => l.length - i) (A1, c2, 0, _) (cov_of (by kernel_rfl)) ⟨ho3.base_le (by omega), by omega, hx5, by simp [chsB]⟩ ?_
  rintro ⟨B_, cp, i, xs⟩ w6 ⟨hown, hi_, hE, hxs⟩
  have z6 := hE.size
  have hcl := chsB_length (l.take i)
  have hxl : xs.length = 4 + (chsB (l.take i)).length := by rw [hxs, List.length_append, be_length]
  rw [List.length_take] at hcl
  refine .seq ?_
  refine .region ?_
  by_cases hc7 : ((i : Int) : Int) < (l.length : Int)
  · refine xo.val 0 (by kernel_rfl) (c_lss_t hc7) ?_
    refine xo.done 0 [(3, .slice B_ xs.length cp), (10, .slice A l.length cap), (11, I (l.length : Int)), (12, I (i : Int)), (13, B true)] (by kernel_rfl) rfl (by kernel_rfl) ?_
    refine .seq ?_
    refine .condT rfl rfl ?_
    refine .skip ?_
    refine .seq ?_
    refine .block ?_
    refine .seq ?_
    refine .region ?_
    have hs8 := (hR.ext hE (fun _ _ _ h => h))
    obtain ⟨b9, o10, x11, hi12, hA13, hl14, hh15, hr16⟩ := hs8.at_ i (by omega)
    refine xo.val 0 (by kernel_rfl) (idxN (kk := .i64) (t := 22) (n := l.length) (cap := cap) (sz := 3) (i := i) (by kernel_rfl) hA13 (by omega)) ?_
    have hsz := hks x11 (List.mem_of_getElem? hi12)
    refine xo.val 0 (by kernel_rfl) (ldA (t := 34) (by kernel_rfl) hr16) ?_
    refine xo.alloc 0 34 [S (⟨#[]⟩), S (⟨#[]⟩), B false] (by kernel_rfl) (by kernel_rfl) ?_
    intro b17 w18 hb19 hx20 hg21
    have z18 := hx20.size
    have l19 := hb19.lt
    refine xo.store 0 34 (o := 0) (.agg #[S x11.key, S x11.val, B x11.gone]) [S x11.key, S x11.val, B x11.gone] (by kernel_rfl) hb19 (by kernel_rfl) (by kernel_rfl) (by kernel_rfl) (by kernel_rfl) ?_
    intro w22 hb23 hx24
    have z22 := hx24.size
    refine xo.done 0 [(3, .slice B_ xs.length cp), (5, Pt b17 0), (10, .slice A l.length cap), (11, I (l.length : Int)), (12, I (i : Int))] (by kernel_rfl) rfl (by kernel_rfl) ?_
    refine .seq ?_
    refine .region ?_
    refine xo.done 1 [(3, .slice B_ xs.length cp), (5, Pt b17 0), (6, I 0), (10, .slice A l.length cap), (11, I (l.length : Int)), (12, I (i : Int))] (by kernel_rfl) rfl (by kernel_rfl) ?_
    refine .seq ?_
    refine .seq ?_
    refine .region ?_
    obtain hg25 | hg25 : x11.gone = false ∨ x11.gone = true := by cases x11.gone <;> simp
    · refine xo.val 1 (by kernel_rfl) (ldB (t := 4) (o := 2) (v := B false) (by kernel_rfl) hb23 (by rw [← hg25]; rfl)) ?_
      refine xo.done 0 [(3, .slice B_ xs.length cp), (5, Pt b17 0), (6, I 0), (10, .slice A l.length cap), (11, I (l.length : Int)), (12, I (i : Int)), (17, B false)] (by kernel_rfl) rfl (by kernel_rfl) ?_
      refine .condF rfl rfl ?_
      refine .skip ?_
      refine XC.regionDraw (fun u => Blk u b17 34 [S x11.key, S x11.val, B x11.gone] ∧ True) (by kernel_rfl) ?_
      intro w28 hd29
      have hx29 := Ext.ofDrew (M := No) hd29
      have z28 := hx29.size
      have hb30 := (hb23.ext hx29 (fun h => h))
      refine ⟨⟨hb30, trivial⟩, ?_⟩
      refine xd.q (fun _ _ _ _ h => h) 0 (.slice B_ xs.length cp) (by kernel_rfl) (by kernel_rfl) (by kernel_rfl) ?_
      refine xd.q (fun _ _ _ _ h => h) 1 (I 0) (by kernel_rfl) (by kernel_rfl) (by kernel_rfl) ?_
      refine xd.q (fun _ _ _ _ h => h) 3 (Pt b17 0) (by kernel_rfl) (by kernel_rfl) (by kernel_rfl) ?_
      refine xd.rd (fun _ _ _ _ h => h) 4 (by kernel_rfl) (by kernel_rfl) (by kernel_rfl) (fun u hS => (ldB (t := 9) (o := 0) (by kernel_rfl) hS.1 rfl)) ?_
      refine xd.q (fun _ _ _ _ h => h) 6 (Pt b17 1) (by kernel_rfl) (by kernel_rfl) (by kernel_rfl) ?_
      refine xd.rd (fun _ _ _ _ h => h) 7 (by kernel_rfl) (by kernel_rfl) (by kernel_rfl) (fun u hS => (ldB (t := 9) (o := 1) (by kernel_rfl) hS.1 rfl)) ?_
      refine xd.one 2 (by kernel_rfl) ?_
      have hs31 := (((hown.ext hx20 (fun _ _ h => h)).ext hx24 (fun b hb (e : b = b17) => (hown.ext hx20 (fun _ _ h => h)).ne hb19 rfl (e ▸ hb))).ext hx29 (fun _ _ h => h))
      refine xo.ret 0 (by kernel_rfl) (cf50 _ _) (oct_put _ w.heap.size w28.heap.size B_ cp xs hs31.rd (by omega) (by first | omega | (simp only [List.length_append, be_length, List.length_nil, List.length_cons, bs_size, Array.length_toList] at *; omega)) 0 1 (by omega) (by omega)) ?_
      rintro _ w35 ⟨A32, c33, rfl, ho34, hx36⟩
      have z35 := hx36.size
      refine xo.fin 0 (by kernel_rfl) rfl ?_
      have hb37 := (hb30.ext hx36 (fun h => h))
      refine ⟨⟨hb37, trivial⟩, ?_⟩
      refine xd.one 5 (by kernel_rfl) ?_
      have hzho40 := cut16_size x11.key
      refine xo.ret 0 (by kernel_rfl) (cf51 _ _) (oct_puttext_any _ w28.heap.size w35.heap.size A32 c33 (xs ++ be 1 0) ho34.rd (by omega) (by simp only [List.length_append, be_length, txt_length] at *; omega) x11.key (by omega)) ?_
      rintro _ w41 ⟨A38, c39, rfl, ho40, hx42⟩
      have z41 := hx42.size
      refine xo.fin 0 (by kernel_rfl) rfl ?_
      have hb43 := (hb37.ext hx42 (fun h => h))
      refine ⟨⟨hb43, trivial⟩, ?_⟩
      refine xd.one 8 (by kernel_rfl) ?_
      have hzho46 := cut16_size x11.val
      refine xo.ret 0 (by kernel_rfl) (cf51 _ _) (oct_puttext_any _ w35.heap.size w41.heap.size A38 c39 ((xs ++ be 1 0) ++ txt (cut16 x11.key)) ho40.rd (by omega) (by simp only [List.length_append, be_length, txt_length] at *; omega) x11.val (by omega)) ?_
      rintro _ w47 ⟨A44, c45, rfl, ho46, hx48⟩
      have z47 := hx48.size
      refine xo.fin 0 (by kernel_rfl) rfl ?_
      have hb49 := (hb43.ext hx48 (fun h => h))
      refine ⟨⟨hb49, trivial⟩, ?_⟩
      refine xd.q (fun _ _ _ _ h => h) 9 (.slice A44 ((((xs ++ be 1 0) ++ txt (cut16 x11.key)) ++ txt (cut16 x11.val)).length) c45) (by kernel_rfl) (by kernel_rfl) (by kernel_rfl) ?_
      refine xd.done (by kernel_rfl) ?_
      refine .cov [(3, .slice A44 ((((xs ++ be 1 0) ++ txt (cut16 x11.key)) ++ txt (cut16 x11.val)).length) c45), (10, .slice A l.length cap), (11, I (l.length : Int)), (12, I (i : Int))] (cov_of (by kernel_rfl)) ?_
      refine .region ?_
      refine xo.val 0 (by kernel_rfl) (a_add (a := (i : Int)) (b := 1) (by omega) (by omega)) ?_
      refine xo.fin 1 (by kernel_rfl) rfl ?_
      refine ⟨(A44, c45, i + 1, ((xs ++ be 1 0) ++ txt (cut16 x11.key)) ++ txt (cut16 x11.val)), cov_of (by kernel_rfl), ⟨ho46.base_le (by omega), by omega, (((((((hE.weak fun b hb h => h.elim).trans' hx20 (fun _ _ h => h) (fun b hb h => h.elim)).trans' hx24 (fun _ _ h => h) (fun b hb (q : b = b17) => absurd hb (by omega))).trans' hx29 (fun _ _ h => h) (fun b hb h => h.elim)).trans' hx36 (fun _ _ h => h) (fun b hb h => h.elim)).trans' hx42 (fun _ _ h => h) (fun b hb h => h.elim)).trans' hx48 (fun _ _ h => h) (fun b hb h => h.elim)), ?_⟩, by show l.length - (i + 1) < l.length - i; omega⟩
      rw [take_snoc hi12, chsB_snoc, hxs, chB, hg25]; simp
    · refine xo.val 1 (by kernel_rfl) (ldB (t := 4) (o := 2) (v := B true) (by kernel_rfl) hb23 (by rw [← hg25]; rfl)) ?_
      refine xo.done 0 [(3, .slice B_ xs.length cp), (5, Pt b17 0), (6, I 0), (10, .slice A l.length cap), (11, I (l.length : Int)), (12, I (i : Int)), (17, B true)] (by kernel_rfl) rfl (by kernel_rfl) ?_
      refine .condT rfl rfl ?_
      refine .region ?_
      refine xo.done 1 [(3, .slice B_ xs.length cp), (5, Pt b17 0), (6, I 1), (10, .slice A l.length cap), (11, I (l.length : Int)), (12, I (i : Int))] (by kernel_rfl) rfl (by kernel_rfl) ?_
      refine XC.regionDraw (fun u => Blk u b17 34 [S x11.key, S x11.val, B x11.gone] ∧ True) (by kernel_rfl) ?_
      intro w52 hd53
      have hx53 := Ext.ofDrew (M := No) hd53
      have z52 := hx53.size
      have hb54 := (hb23.ext hx53 (fun h => h))
      refine ⟨⟨hb54, trivial⟩, ?_⟩
      refine xd.q (fun _ _ _ _ h => h) 0 (.slice B_ xs.length cp) (by kernel_rfl) (by kernel_rfl) (by kernel_rfl) ?_
      refine xd.q (fun _ _ _ _ h => h) 1 (I 1) (by kernel_rfl) (by kernel_rfl) (by kernel_rfl) ?_
      refine xd.q (fun _ _ _ _ h => h) 3 (Pt b17 0) (by kernel_rfl) (by kernel_rfl) (by kernel_rfl) ?_
      refine xd.rd (fun _ _ _ _ h => h) 4 (by kernel_rfl) (by kernel_rfl) (by kernel_rfl) (fun u hS => (ldB (t := 9) (o := 0) (by kernel_rfl) hS.1 rfl)) ?_
      refine xd.q (fun _ _ _ _ h => h) 6 (Pt b17 1) (by kernel_rfl) (by kernel_rfl) (by kernel_rfl) ?_
      refine xd.rd (fun _ _ _ _ h => h) 7 (by kernel_rfl) (by kernel_rfl) (by kernel_rfl) (fun u hS => (ldB (t := 9) (o := 1) (by kernel_rfl) hS.1 rfl)) ?_
      refine xd.one 2 (by kernel_rfl) ?_
      have hs55 := (((hown.ext hx20 (fun _ _ h => h)).ext hx24 (fun b hb (e : b = b17) => (hown.ext hx20 (fun _ _ h => h)).ne hb19 rfl (e ▸ hb))).ext hx53 (fun _ _ h => h))
      refine xo.ret 0 (by kernel_rfl) (cf50 _ _) (oct_put _ w.heap.size w52.heap.size B_ cp xs hs55.rd (by omega) (by first | omega | (simp only [List.length_append, be_length, List.length_nil, List.length_cons, bs_size, Array.length_toList] at *; omega)) 1 1 (by omega) (by omega)) ?_
      rintro _ w59 ⟨A56, c57, rfl, ho58, hx60⟩
      have z59 := hx60.size
      refine xo.fin 0 (by kernel_rfl) rfl ?_
      have hb61 := (hb54.ext hx60 (fun h => h))
      refine ⟨⟨hb61, trivial⟩, ?_⟩
      refine xd.one 5 (by kernel_rfl) ?_
      have hzho64 := cut16_size x11.key
      refine xo.ret 0 (by kernel_rfl) (cf51 _ _) (oct_puttext_any _ w52.heap.size w59.heap.size A56 c57 (xs ++ be 1 1) ho58.rd (by omega) (by simp only [List.length_append, be_length, txt_length] at *; omega) x11.key (by omega)) ?_
      rintro _ w65 ⟨A62, c63, rfl, ho64, hx66⟩
      have z65 := hx66.size
      refine xo.fin 0 (by kernel_rfl) rfl ?_
      have hb67 := (hb61.ext hx66 (fun h => h))
      refine ⟨⟨hb67, trivial⟩, ?_⟩
      refine xd.one 8 (by kernel_rfl) ?_
      have hzho70 := cut16_size x11.val
      refine xo.ret 0 (by kernel_rfl) (cf51 _ _) (oct_puttext_any _ w59.heap.size w65.heap.size A62 c63 ((xs ++ be 1 1) ++ txt (cut16 x11.key)) ho64.rd (by omega) (by simp only [List.length_append, be_length, txt_length] at *; omega) x11.val (by omega)) ?_
      rintro _ w71 ⟨A68, c69, rfl, ho70, hx72⟩
      have z71 := hx72.size
      refine xo.fin 0 (by kernel_rfl) rfl ?_
      have hb73 := (hb67.ext hx72 (fun h => h))
      refine ⟨⟨hb73, trivial⟩, ?_⟩
      refine xd.q (fun _ _ _ _ h => h) 9 (.slice A68 ((((xs ++ be 1 1) ++ txt (cut16 x11.key)) ++ txt (cut16 x11.val)).length) c69) (by kernel_rfl) (by kernel_rfl) (by kernel_rfl) ?_
      refine xd.done (by kernel_rfl) ?_
      refine .cov [(3, .slice A68 ((((xs ++ be 1 1) ++ txt (cut16 x11.key)) ++ txt (cut16 x11.val)).length) c69), (10, .slice A l.length cap), (11, I (l.length : Int)), (12, I (i : Int))] (cov_of (by kernel_rfl)) ?_
      refine .region ?_
      refine xo.val 0 (by kernel_rfl) (a_add (a := (i : Int)) (b := 1) (by omega) (by omega)) ?_
      refine xo.fin 1 (by kernel_rfl) rfl ?_
      refine ⟨(A68, c69, i + 1, ((xs ++ be 1 1) ++ txt (cut16 x11.key)) ++ txt (cut16 x11.val)), cov_of (by kernel_rfl), ⟨ho70.base_le (by omega), by omega, (((((((hE.weak fun b hb h => h.elim).trans' hx20 (fun _ _ h => h) (fun b hb h => h.elim)).trans' hx24 (fun _ _ h => h) (fun b hb (q : b = b17) => absurd hb (by omega))).trans' hx53 (fun _ _ h => h) (fun b hb h => h.elim)).trans' hx60 (fun _ _ h => h) (fun b hb h => h.elim)).trans' hx66 (fun _ _ h => h) (fun b hb h => h.elim)).trans' hx72 (fun _ _ h => h) (fun b hb h => h.elim)), ?_⟩, by show l.length - (i + 1) < l.length - i; omega⟩
      rw [take_snoc hi12, chsB_snoc, hxs, chB, hg25]; simp
  · refine xo.val 0 (by kernel_rfl) (c_lss_f hc7) ?_
    refine xo.done 0 [(3, .slice B_ xs.length cp), (10, .slice A l.length cap), (11, I (l.length : Int)), (12, I (i : Int)), (13, B false)] (by kernel_rfl) rfl (by kernel_rfl) ?_
    refine .seq ?_
    refine .condF rfl rfl ?_
    refine .exit ?_
    refine xsetTo ?_
    refine .seq ?_
    refine .region ?_
    refine xo.val 1 (by kernel_rfl) (conv_bs (cap := cp) (src := 76) (dst := 9) (by kernel_rfl) (by kernel_rfl) hown.rd) ?_
    refine xo.done 1 [(2, S (⟨(xs).toArray⟩))] (by kernel_rfl) rfl (by kernel_rfl) ?_
    refine .ret ?_
    refine ⟨[S (⟨(xs).toArray⟩)], by kernel_rfl, _, rfl, ?_⟩
    have hi9 : i = l.length := by omega
    rw [hi9, List.take_length] at hxs
    exact ⟨by rw [hxs]; rfl, (hE.weak fun b hb h => h.elim)⟩

end Go.Proofs.YtbajgpadmlnffaaGreat
/- What bytes tell of changes. -/
namespace Go.Proofs.YtbajgpadmlnffaaGreat
open Go.V
set_option maxRecDepth 100000
set_option linter.unusedVariables false
set_option linter.unusedSimpArgs false

/-! what bytes tell of changes -/
def pChs : Nat → List Change → List UInt8 → Option (List Change × List UInt8)
  | 0, acc, l => some (acc, l)
  | m + 1, acc, l =>
    match pNum 1 l with
    | none => none
    | some (g, r) => if 1 < g then none else
      match pText 64 r with
      | none => none
      | some (k, r2) =>
        match pText 300 r2 with
        | none => none
        | some (v, r3) => pChs m (acc ++ [⟨bs k, bs v, decide (g = 1)⟩]) r3
def pGet (l : List UInt8) : Option (List Change × List UInt8) :=
  match pNum 4 l with
  | none => none
  | some (m, r) => pChs m [] r
theorem pChs_num {m : Nat} {acc : List Change} {l : List UInt8} (hm : 0 < m) (h : ¬ 1 ≤ l.length) : pChs m acc l = none := by
  cases m with
  | zero => omega
  | succ m => simp only [pChs, pNum, if_neg h]
theorem pChs_gone {m : Nat} {acc : List Change} {l : List UInt8} (hm : 0 < m) (h : 1 ≤ l.length) (hg : 1 < beNat (l.take 1)) : pChs m acc l = none := by
  cases m with
  | zero => omega
  | succ m => simp only [pChs, pNum, if_pos h, if_pos hg]
theorem pChs_key {m : Nat} {acc : List Change} {l : List UInt8} (hm : 0 < m) (h : 1 ≤ l.length) (hk : pText 64 (l.drop 1) = none) : pChs m acc l = none := by
  cases m with
  | zero => omega
  | succ m =>
    simp only [pChs, pNum, if_pos h, hk]
    split <;> rfl
theorem pChs_val {m : Nat} {acc : List Change} {l k r : List UInt8} (hm : 0 < m) (h : 1 ≤ l.length) (hk : pText 64 (l.drop 1) = some (k, r)) (hv : pText 300 r = none) : pChs m acc l = none := by
  cases m with
  | zero => omega
  | succ m =>
    simp only [pChs, pNum, if_pos h, hk, hv]
    split <;> rfl
theorem pChs_ok {m : Nat} {acc : List Change} {l k r v r2 : List UInt8} {g : Bool} (h : 1 ≤ l.length) (hg : ¬ 1 < beNat (l.take 1)) (hk : pText 64 (l.drop 1) = some (k, r)) (hv : pText 300 r = some (v, r2)) (hb : g = decide (beNat (l.take 1) = 1)) :
    pChs (m + 1) acc l = pChs m (acc ++ [⟨bs k, bs v, g⟩]) r2 := by
  simp only [pChs, pNum, if_pos h, if_neg hg, hk, hv, hb]
theorem pGet_num {l : List UInt8} (h : ¬ 4 ≤ l.length) : pGet l = none := by simp only [pGet, pNum, if_neg h]
theorem pGet_ok {l : List UInt8} (h : 4 ≤ l.length) : pGet l = pChs (beNat (l.take 4)) [] (l.drop 4) := by simp only [pGet, pNum, if_pos h]
theorem num4 (l : List UInt8) : beNat (l.take 4) < 4294967296 := by
  have h := beNat_lt (l.take 4)
  have h2 : 256 ^ (l.take 4).length ≤ 256 ^ 4 := Nat.pow_le_pow_right (by omega) (by rw [List.length_take]; omega)
  omega
/-- What diff.Get's closure leaves. -/
def ChG (l : List UInt8) (base bn be_ : Nat) (w1 w2 : World) (out : Except Int (List UInt8)) : Prop :=
  (match out with
  | .ok r => ∃ cs A cap, pGet l = some (cs, r) ∧ SortedC cs ∧ Blk w2 bn 22 [.slice A cs.length cap] ∧ Own kChange w2 base A cap cs
  | .error c => (∀ cs r, pGet l = some (cs, r) → ¬ SortedC cs) ∧ c ≠ 0 ∧ ∃ A m cap, Blk w2 bn 22 [.slice A m cap]) ∧ Ext (fun k => k = bn ∨ k = be_) w1 w2

set_option maxHeartbeats 4000000 in
theorem ch_look (w : World) (be_ bn_ : Nat) (l : List UInt8) (he : Blk w be_ 135 [S (bs l), B true]) (hn : Blk w bn_ 22 [.slice none 0 0]) :
    Calls Tryz.prog 43 [Pt be_ 0, Pt bn_ 0].toArray w fun v w' => ∃ out, LookPost be_ v w' out ∧ ChG l w.heap.size bn_ be_ w w' out := by
  have nNE : bn_ ≠ be_ := Blk.ne hn he rfl
  have lE := he.lt
  have lN := hn.lt
  have hm4 := num4 l
  refine calls_of_XC Tryz.func43 rfl rfl ?_
  refine .seq ?_
  refine .region ?_
  by_cases hn2 : 4 ≤ l.length
  · refine xo.ret 1 (by kernel_rfl) (cf44 _ _) (eye_num _ be_ l he 4 (by omega) (by omega) hn2) ?_
    rintro _ w3 ⟨rfl, hb1, hx4⟩
    have z3 := hx4.size
    refine xo.done 1 [(0, Pt be_ 0), (1, Pt bn_ 0), (3, I ((beNat (l.take 4) : Int)))] (by kernel_rfl) rfl (by kernel_rfl) ?_
    refine .seq ?_
    refine .seq ?_
    refine .region ?_
    refine xo.done 2 [(0, Pt be_ 0), (1, Pt bn_ 0), (7, I ((beNat (l.take 4) : Int))), (8, I 0)] (by kernel_rfl) rfl (by kernel_rfl) ?_
    refine .block ?_
    have hb5 := (hn.ext hx4 nNE)
    refine XC.loop (ι := Option Addr × Nat × Nat × List Change × List UInt8) (fun ⟨A, cap, i, xs, r⟩ => [(0, Pt be_ 0), (1, Pt bn_ 0), (7, I ((beNat (l.take 4) : Int))), (8, I (i : Int))]) (fun ⟨A, cap, i, xs, r⟩ u => Blk u be_ 135 [S (bs r), B true] ∧ Blk u bn_ 22 [.slice A xs.length cap] ∧ Own kChange u w.heap.size A cap xs ∧ Ext (fun k => k = bn_ ∨ k = be_) w u ∧ i ≤ beNat (l.take 4) ∧ xs.length = i ∧ pChs (beNat (l.take 4)) [] (l.drop 4) = pChs (beNat (l.take 4) - i) xs r) (fun ⟨A, cap, i, xs, r⟩ => beNat (l.take 4) - i) (none, 0, 0, [], l.drop 4) (cov_of (by kernel_rfl)) ⟨hb1, hb5, .nil, (hx4.weak fun b hb (q : b = be_) => .inr q), by omega, rfl, rfl⟩ ?_
    rintro ⟨A, cap, i, xs, r⟩ w6 ⟨hbe, hbn, hown, hE, him, hi, hI⟩
    have z6 := hE.size
    refine .seq ?_
    refine .region ?_
    by_cases hc7 : ((i : Int) : Int) < (beNat (l.take 4) : Int)
    · refine xo.val 0 (by kernel_rfl) (c_lss_t hc7) ?_
      refine xo.done 0 [(0, Pt be_ 0), (1, Pt bn_ 0), (7, I ((beNat (l.take 4) : Int))), (8, I (i : Int)), (9, B true)] (by kernel_rfl) rfl (by kernel_rfl) ?_
      refine .seq ?_
      refine .condT rfl rfl ?_
      refine .skip ?_
      refine .seq ?_
      refine .block ?_
      refine .seq ?_
      refine .region ?_
      by_cases hn9 : 1 ≤ r.length
      · refine xo.ret 1 (by kernel_rfl) (cf44 _ _) (eye_num _ be_ r hbe 1 (by omega) (by omega) hn9) ?_
        rintro _ w10 ⟨rfl, hb8, hx11⟩
        have z10 := hx11.size
        refine xo.done 1 [(0, Pt be_ 0), (1, Pt bn_ 0), (4, I ((beNat (r.take 1) : Int))), (7, I ((beNat (l.take 4) : Int))), (8, I (i : Int))] (by kernel_rfl) rfl (by kernel_rfl) ?_
        refine .seq ?_
        refine .seq ?_
        refine .region ?_
        by_cases hc12 : ((beNat (r.take 1) : Int) : Int) ≤ 1
        · refine xo.val 1 (by kernel_rfl) (c_gtr_t hc12) ?_
          refine xo.done 0 [(0, Pt be_ 0), (1, Pt bn_ 0), (4, I ((beNat (r.take 1) : Int))), (7, I ((beNat (l.take 4) : Int))), (8, I (i : Int)), (13, B false)] (by kernel_rfl) rfl (by kernel_rfl) ?_
          refine .condF rfl rfl ?_
          refine .skip ?_
          have hb17 := (hbn.ext hx11 nNE)
          refine XC.regionDrawM 10 (fun u => Blk u bn_ 22 [.slice A xs.length cap] ∧ True) (by kernel_rfl) ?_
          intro w15 hd16
          have hx16 := Ext.ofDrew (M := No) hd16
          have z15 := hx16.size
          have hb18 := (hb17.ext hx16 (fun h => h))
          refine ⟨⟨hb18, trivial⟩, ?_⟩
          refine xm.rd (fun _ _ _ _ h => h) 0 (by kernel_rfl) (by kernel_rfl) (by kernel_rfl) (fun u hS => (ldB (t := 22) (o := 0) (by kernel_rfl) hS.1 rfl)) ?_
          refine xm.q (fun _ _ _ _ h => h) 1 (I ((beNat (r.take 1) : Int))) (by kernel_rfl) (by kernel_rfl) (by kernel_rfl) ?_
          by_cases hc19 : ((beNat (r.take 1) : Int) : Int) = 1
          · refine xm.rd (fun _ _ _ _ h => h) 2 (by kernel_rfl) (by kernel_rfl) (by kernel_rfl) (fun u hS => (c_eql_t hc19)) ?_
            refine xm.q (fun _ _ _ _ h => h) 3 (Pt be_ 0) (by kernel_rfl) (by kernel_rfl) (by kernel_rfl) ?_
            refine xm.q (fun _ _ _ _ h => h) 5 (Pt be_ 0) (by kernel_rfl) (by kernel_rfl) (by kernel_rfl) ?_
            refine xm.one 4 (by kernel_rfl) ?_
            have hb20 := (hb8.ext hx16 (fun h => h))
            rcases hq22 : pText 64 (r.drop 1) with _ | ⟨t23, r24⟩
            · refine xo.cpn 0 (by kernel_rfl) (cf46 _ _) (eye_text_bad _ be_ (r.drop 1) hb20 64 hq22) ?_
              rintro _ w28 ⟨c25, hc26, rfl, ⟨s27, hb21⟩, hx29⟩
              have z28 := hx29.size
              have hb30 := (hb18.ext hx29 nNE)
              exact ⟨.error c25, ⟨hc26, rfl, _, hb21⟩, ⟨⟨fun cs9 r9 h9 => (by rw [pGet_ok (by assumption), hI, pChs_key (by omega) (by assumption) hq22] at h9; cases h9), hc26, _, _, _, hb30⟩, ((((hE.weak fun b hb q => q).trans' hx11 (fun _ _ h => h) (fun b hb (q : b = be_) => .inr q)).trans' hx16 (fun _ _ h => h) (fun b hb h => h.elim)).trans' hx29 (fun _ _ h => h) (fun b hb (q : b = be_) => .inr q))⟩⟩
            · refine xo.ret 0 (by kernel_rfl) (cf46 _ _) (eye_text _ be_ (r.drop 1) hb20 64 hq22) ?_
              rintro _ w31 ⟨rfl, hb21, hx32⟩
              have z31 := hx32.size
              refine xo.fin 0 (by kernel_rfl) rfl ?_
              have hb33 := (hb18.ext hx32 nNE)
              refine ⟨⟨hb33, trivial⟩, ?_⟩
              refine xm.one 6 (by kernel_rfl) ?_
              rcases hq35 : pText 300 r24 with _ | ⟨t36, r37⟩
              · refine xo.cpn 0 (by kernel_rfl) (cf46 _ _) (eye_text_bad _ be_ r24 hb21 300 hq35) ?_
                rintro _ w41 ⟨c38, hc39, rfl, ⟨s40, hb34⟩, hx42⟩
                have z41 := hx42.size
                have hb43 := (hb33.ext hx42 nNE)
                exact ⟨.error c38, ⟨hc39, rfl, _, hb34⟩, ⟨⟨fun cs9 r9 h9 => (by rw [pGet_ok (by assumption), hI, pChs_val (by omega) (by assumption) hq22 hq35] at h9; cases h9), hc39, _, _, _, hb43⟩, (((((hE.weak fun b hb q => q).trans' hx11 (fun _ _ h => h) (fun b hb (q : b = be_) => .inr q)).trans' hx16 (fun _ _ h => h) (fun b hb h => h.elim)).trans' hx32 (fun _ _ h => h) (fun b hb (q : b = be_) => .inr q)).trans' hx42 (fun _ _ h => h) (fun b hb (q : b = be_) => .inr q))⟩⟩
              · refine xo.ret 0 (by kernel_rfl) (cf46 _ _) (eye_text _ be_ r24 hb21 300 hq35) ?_
                rintro _ w44 ⟨rfl, hb34, hx45⟩
                have z44 := hx45.size
                refine xo.fin 0 (by kernel_rfl) rfl ?_
                have hb46 := (hb33.ext hx45 nNE)
                refine ⟨⟨hb46, trivial⟩, ?_⟩
                refine xm.q (fun _ _ _ _ h => h) 7 (.agg #[S (bs t23), S (bs t36), B true]) (by kernel_rfl) (by kernel_rfl) (by kernel_rfl) ?_
                refine xm.one 8 (by kernel_rfl) ?_
                refine xo.bsl 0 22 1 #[(0, .agg #[S (bs t23), S (bs t36), B true])] (et := 34) (cs := [S (bs t23), S (bs t36), B true]) (by kernel_rfl) (by kernel_rfl) ?_
                intro b47 w48 hb49 hx50 hg51
                have z48 := hx50.size
                have l49 := hb49.lt
                refine xo.fin 0 (by kernel_rfl) rfl ?_
                have hb52 := (hb46.ext hx50 (fun h => h))
                refine ⟨⟨hb52, trivial⟩, ?_⟩
                refine xm.one 9 (by kernel_rfl) ?_
                have hs53 := (((((hown.ext hx11 (fun b hb (e : b = be_) => hown.ne hbe rfl (e ▸ hb))).ext hx16 (fun _ _ h => h)).ext hx32 (fun b hb (e : b = be_) => ((hown.ext hx11 (fun b hb (e : b = be_) => hown.ne hbe rfl (e ▸ hb))).ext hx16 (fun _ _ h => h)).ne hb20 rfl (e ▸ hb))).ext hx45 (fun b hb (e : b = be_) => (((hown.ext hx11 (fun b hb (e : b = be_) => hown.ne hbe rfl (e ▸ hb))).ext hx16 (fun _ _ h => h)).ext hx32 (fun b hb (e : b = be_) => ((hown.ext hx11 (fun b hb (e : b = be_) => hown.ne hbe rfl (e ▸ hb))).ext hx16 (fun _ _ h => h)).ne hb20 rfl (e ▸ hb))).ne hb21 rfl (e ▸ hb))).ext hx50 (fun _ _ h => h))
                refine xo.app 0 (ty := 22) (k := kChange) (t := 22) (tx := 22) (xs := xs) (ys := [(⟨bs t23, bs t36, true⟩ : Change)]) (x := .slice (some ⟨b47, 0, none⟩) 1 1) (by exact pChange) hs53 (src_one (k := kChange) (x := (⟨bs t23, bs t36, true⟩ : Change)) (by kernel_rfl) hb49 rfl) (by omega) (show (xs.length + 1) * 40 ≤ 140737488355328 from (by first | omega | (simp only [List.length_append, List.length_cons, List.length_nil]; omega))) (show xs.length + 1 ≤ 9223372036854775807 from (by first | omega | (simp only [List.length_append, List.length_cons, List.length_nil]; omega))) (by kernel_rfl) ?_
                intro A54 c55 w56 ho57 hx58
                have z56 := hx58.size
                refine xo.fin 0 (by kernel_rfl) rfl ?_
                have hb59 := (hb52.ext hx58 (hs53.ne hb52 rfl))
                refine ⟨⟨hb59, trivial⟩, ?_⟩
                refine xm.past 10 (by kernel_rfl) (by kernel_rfl) ?_
                refine xo.store 0 22 (o := 0) (.slice A54 ((xs ++ [(⟨bs t23, bs t36, true⟩ : Change)]).length) c55) [.slice A54 ((xs ++ [(⟨bs t23, bs t36, true⟩ : Change)]).length) c55] (by kernel_rfl) hb59 (by kernel_rfl) (by kernel_rfl) (by kernel_rfl) (by kernel_rfl) ?_
                intro w60 hb61 hx62
                have z60 := hx62.size
                refine xo.fin 0 (by kernel_rfl) rfl ?_
                refine xm.done (by kernel_rfl) ?_
                refine .cov [(0, Pt be_ 0), (1, Pt bn_ 0), (7, I ((beNat (l.take 4) : Int))), (8, I (i : Int))] (cov_of (by kernel_rfl)) ?_
                refine .region ?_
                refine xo.val 0 (by kernel_rfl) (a_add (a := (i : Int)) (b := 1) (by omega) (by omega)) ?_
                refine xo.fin 1 (by kernel_rfl) rfl ?_
                have hb63 := (((hb34.ext hx50 (fun h => h)).ext hx58 (hs53.ne (hb34.ext hx50 (fun h => h)) rfl)).ext hx62 nNE.symm)
                have hs64 := (ho57.ext hx62 (fun b hb (e : b = bn_) => ho57.ne hb59 rfl (e ▸ hb)))
                refine ⟨(A54, c55, i + 1, xs ++ [(⟨bs t23, bs t36, true⟩ : Change)], r37), cov_of (by kernel_rfl), ⟨hb63, hb61, hs64.base_le (by omega), ((((((((hE.weak fun b hb q => q).trans' hx11 (fun _ _ h => h) (fun b hb (q : b = be_) => .inr q)).trans' hx16 (fun _ _ h => h) (fun b hb h => h.elim)).trans' hx32 (fun _ _ h => h) (fun b hb (q : b = be_) => .inr q)).trans' hx45 (fun _ _ h => h) (fun b hb (q : b = be_) => .inr q)).trans' hx50 (fun _ _ h => h) (fun b hb h => h.elim)).trans' hx58 (fun _ _ h => h) (fun b hb hm => absurd (hs53.lt hm).1 (by omega))).trans' hx62 (fun _ _ h => h) (fun b hb (q : b = bn_) => .inl q)), by omega, by simpa using hi, ?_⟩, by show beNat (l.take 4) - (i + 1) < beNat (l.take 4) - i; omega⟩
                rw [hI, show beNat (l.take 4) - i = (beNat (l.take 4) - (i + 1)) + 1 by omega]
                exact pChs_ok (k := t23) (r := r24) (v := t36) (r2 := r37) (by assumption) (by omega) hq22 hq35 (by simp; omega)
          · refine xm.rd (fun _ _ _ _ h => h) 2 (by kernel_rfl) (by kernel_rfl) (by kernel_rfl) (fun u hS => (c_eql_f hc19)) ?_
            refine xm.q (fun _ _ _ _ h => h) 3 (Pt be_ 0) (by kernel_rfl) (by kernel_rfl) (by kernel_rfl) ?_
            refine xm.q (fun _ _ _ _ h => h) 5 (Pt be_ 0) (by kernel_rfl) (by kernel_rfl) (by kernel_rfl) ?_
            refine xm.one 4 (by kernel_rfl) ?_
            have hb65 := (hb8.ext hx16 (fun h => h))
            rcases hq67 : pText 64 (r.drop 1) with _ | ⟨t68, r69⟩
            · refine xo.cpn 0 (by kernel_rfl) (cf46 _ _) (eye_text_bad _ be_ (r.drop 1) hb65 64 hq67) ?_
              rintro _ w73 ⟨c70, hc71, rfl, ⟨s72, hb66⟩, hx74⟩
              have z73 := hx74.size
              have hb75 := (hb18.ext hx74 nNE)
              exact ⟨.error c70, ⟨hc71, rfl, _, hb66⟩, ⟨⟨fun cs9 r9 h9 => (by rw [pGet_ok (by assumption), hI, pChs_key (by omega) (by assumption) hq67] at h9; cases h9), hc71, _, _, _, hb75⟩, ((((hE.weak fun b hb q => q).trans' hx11 (fun _ _ h => h) (fun b hb (q : b = be_) => .inr q)).trans' hx16 (fun _ _ h => h) (fun b hb h => h.elim)).trans' hx74 (fun _ _ h => h) (fun b hb (q : b = be_) => .inr q))⟩⟩
            · refine xo.ret 0 (by kernel_rfl) (cf46 _ _) (eye_text _ be_ (r.drop 1) hb65 64 hq67) ?_
              rintro _ w76 ⟨rfl, hb66, hx77⟩
              have z76 := hx77.size
              refine xo.fin 0 (by kernel_rfl) rfl ?_
              have hb78 := (hb18.ext hx77 nNE)
              refine ⟨⟨hb78, trivial⟩, ?_⟩
              refine xm.one 6 (by kernel_rfl) ?_
              rcases hq80 : pText 300 r69 with _ | ⟨t81, r82⟩
              · refine xo.cpn 0 (by kernel_rfl) (cf46 _ _) (eye_text_bad _ be_ r69 hb66 300 hq80) ?_
                rintro _ w86 ⟨c83, hc84, rfl, ⟨s85, hb79⟩, hx87⟩
                have z86 := hx87.size
                have hb88 := (hb78.ext hx87 nNE)
                exact ⟨.error c83, ⟨hc84, rfl, _, hb79⟩, ⟨⟨fun cs9 r9 h9 => (by rw [pGet_ok (by assumption), hI, pChs_val (by omega) (by assumption) hq67 hq80] at h9; cases h9), hc84, _, _, _, hb88⟩, (((((hE.weak fun b hb q => q).trans' hx11 (fun _ _ h => h) (fun b hb (q : b = be_) => .inr q)).trans' hx16 (fun _ _ h => h) (fun b hb h => h.elim)).trans' hx77 (fun _ _ h => h) (fun b hb (q : b = be_) => .inr q)).trans' hx87 (fun _ _ h => h) (fun b hb (q : b = be_) => .inr q))⟩⟩
              · refine xo.ret 0 (by kernel_rfl) (cf46 _ _) (eye_text _ be_ r69 hb66 300 hq80) ?_
                rintro _ w89 ⟨rfl, hb79, hx90⟩
                have z89 := hx90.size
                refine xo.fin 0 (by kernel_rfl) rfl ?_
                have hb91 := (hb78.ext hx90 nNE)
                refine ⟨⟨hb91, trivial⟩, ?_⟩
                refine xm.q (fun _ _ _ _ h => h) 7 (.agg #[S (bs t68), S (bs t81), B false]) (by kernel_rfl) (by kernel_rfl) (by kernel_rfl) ?_
                refine xm.one 8 (by kernel_rfl) ?_
                refine xo.bsl 0 22 1 #[(0, .agg #[S (bs t68), S (bs t81), B false])] (et := 34) (cs := [S (bs t68), S (bs t81), B false]) (by kernel_rfl) (by kernel_rfl) ?_
                intro b92 w93 hb94 hx95 hg96
                have z93 := hx95.size
                have l94 := hb94.lt
                refine xo.fin 0 (by kernel_rfl) rfl ?_
                have hb97 := (hb91.ext hx95 (fun h => h))
                refine ⟨⟨hb97, trivial⟩, ?_⟩
                refine xm.one 9 (by kernel_rfl) ?_
                have hs98 := (((((hown.ext hx11 (fun b hb (e : b = be_) => hown.ne hbe rfl (e ▸ hb))).ext hx16 (fun _ _ h => h)).ext hx77 (fun b hb (e : b = be_) => ((hown.ext hx11 (fun b hb (e : b = be_) => hown.ne hbe rfl (e ▸ hb))).ext hx16 (fun _ _ h => h)).ne hb65 rfl (e ▸ hb))).ext hx90 (fun b hb (e : b = be_) => (((hown.ext hx11 (fun b hb (e : b = be_) => hown.ne hbe rfl (e ▸ hb))).ext hx16 (fun _ _ h => h)).ext hx77 (fun b hb (e : b = be_) => ((hown.ext hx11 (fun b hb (e : b = be_) => hown.ne hbe rfl (e ▸ hb))).ext hx16 (fun _ _ h => h)).ne hb65 rfl (e ▸ hb))).ne hb66 rfl (e ▸ hb))).ext hx95 (fun _ _ h => h))
                refine xo.app 0 (ty := 22) (k := kChange) (t := 22) (tx := 22) (xs := xs) (ys := [(⟨bs t68, bs t81, false⟩ : Change)]) (x := .slice (some ⟨b92, 0, none⟩) 1 1) (by exact pChange) hs98 (src_one (k := kChange) (x := (⟨bs t68, bs t81, false⟩ : Change)) (by kernel_rfl) hb94 rfl) (by omega) (show (xs.length + 1) * 40 ≤ 140737488355328 from (by first | omega | (simp only [List.length_append, List.length_cons, List.length_nil]; omega))) (show xs.length + 1 ≤ 9223372036854775807 from (by first | omega | (simp only [List.length_append, List.length_cons, List.length_nil]; omega))) (by kernel_rfl) ?_
                intro A99 c100 w101 ho102 hx103
                have z101 := hx103.size
                refine xo.fin 0 (by kernel_rfl) rfl ?_
                have hb104 := (hb97.ext hx103 (hs98.ne hb97 rfl))
                refine ⟨⟨hb104, trivial⟩, ?_⟩
                refine xm.past 10 (by kernel_rfl) (by kernel_rfl) ?_
                refine xo.store 0 22 (o := 0) (.slice A99 ((xs ++ [(⟨bs t68, bs t81, false⟩ : Change)]).length) c100) [.slice A99 ((xs ++ [(⟨bs t68, bs t81, false⟩ : Change)]).length) c100] (by kernel_rfl) hb104 (by kernel_rfl) (by kernel_rfl) (by kernel_rfl) (by kernel_rfl) ?_
                intro w105 hb106 hx107
                have z105 := hx107.size
                refine xo.fin 0 (by kernel_rfl) rfl ?_
                refine xm.done (by kernel_rfl) ?_
                refine .cov [(0, Pt be_ 0), (1, Pt bn_ 0), (7, I ((beNat (l.take 4) : Int))), (8, I (i : Int))] (cov_of (by kernel_rfl)) ?_
                refine .region ?_
                refine xo.val 0 (by kernel_rfl) (a_add (a := (i : Int)) (b := 1) (by omega) (by omega)) ?_
                refine xo.fin 1 (by kernel_rfl) rfl ?_
                have hb108 := (((hb79.ext hx95 (fun h => h)).ext hx103 (hs98.ne (hb79.ext hx95 (fun h => h)) rfl)).ext hx107 nNE.symm)
                have hs109 := (ho102.ext hx107 (fun b hb (e : b = bn_) => ho102.ne hb104 rfl (e ▸ hb)))
                refine ⟨(A99, c100, i + 1, xs ++ [(⟨bs t68, bs t81, false⟩ : Change)], r82), cov_of (by kernel_rfl), ⟨hb108, hb106, hs109.base_le (by omega), ((((((((hE.weak fun b hb q => q).trans' hx11 (fun _ _ h => h) (fun b hb (q : b = be_) => .inr q)).trans' hx16 (fun _ _ h => h) (fun b hb h => h.elim)).trans' hx77 (fun _ _ h => h) (fun b hb (q : b = be_) => .inr q)).trans' hx90 (fun _ _ h => h) (fun b hb (q : b = be_) => .inr q)).trans' hx95 (fun _ _ h => h) (fun b hb h => h.elim)).trans' hx103 (fun _ _ h => h) (fun b hb hm => absurd (hs98.lt hm).1 (by omega))).trans' hx107 (fun _ _ h => h) (fun b hb (q : b = bn_) => .inl q)), by omega, by simpa using hi, ?_⟩, by show beNat (l.take 4) - (i + 1) < beNat (l.take 4) - i; omega⟩
                rw [hI, show beNat (l.take 4) - i = (beNat (l.take 4) - (i + 1)) + 1 by omega]
                exact pChs_ok (k := t68) (r := r69) (v := t81) (r2 := r82) (by assumption) (by omega) hq67 hq80 (by simp; omega)
        · refine xo.val 1 (by kernel_rfl) (c_gtr_f hc12) ?_
          refine xo.done 0 [(0, Pt be_ 0), (1, Pt bn_ 0), (4, I ((beNat (r.take 1) : Int))), (7, I ((beNat (l.take 4) : Int))), (8, I (i : Int)), (13, B true)] (by kernel_rfl) rfl (by kernel_rfl) ?_
          refine .condT rfl rfl ?_
          refine .region ?_
          refine xo.cpn 1 (by kernel_rfl) (cf45 _ _) (eye_fail _ be_ _ hb8 201) ?_
          rintro _ _ ⟨rfl, rfl⟩
          have hb110 := (hbn.ext hx11 nNE)
          exact ⟨.error 201, ⟨(by decide), rfl, _, hb8⟩, ⟨⟨fun cs9 r9 h9 => (by rw [pGet_ok (by assumption), hI, pChs_gone (by omega) (by assumption) (by omega)] at h9; cases h9), (by decide), _, _, _, hb110⟩, ((hE.weak fun b hb q => q).trans' hx11 (fun _ _ h => h) (fun b hb (q : b = be_) => .inr q))⟩⟩
      · refine xo.cpn 1 (by kernel_rfl) (cf44 _ _) (eye_num_bad _ be_ r hbe 1 (by omega) (by omega) (by omega)) ?_
        rintro _ _ ⟨rfl, rfl⟩
        exact ⟨.error 201, ⟨(by decide), rfl, _, hbe⟩, ⟨⟨fun cs9 r9 h9 => (by rw [pGet_ok (by assumption), hI, pChs_num (by omega) hn9] at h9; cases h9), (by decide), _, _, _, hbn⟩, (hE.weak fun b hb q => q)⟩⟩
    · refine xo.val 0 (by kernel_rfl) (c_lss_f hc7) ?_
      refine xo.done 0 [(0, Pt be_ 0), (1, Pt bn_ 0), (7, I ((beNat (l.take 4) : Int))), (8, I (i : Int)), (9, B false)] (by kernel_rfl) rfl (by kernel_rfl) ?_
      refine .seq ?_
      refine .condF rfl rfl ?_
      refine .exit ?_
      refine xsetTo ?_
      refine .seq ?_
      refine .region ?_
      refine xo.val 0 (by kernel_rfl) (ldB (t := 22) (o := 0) (by kernel_rfl) hbn rfl) ?_
      refine xo.ret 0 (by kernel_rfl) (cf21 _ _) (diff_Sorted _ A cap xs w.heap.size w6.heap.size hown.rd (by omega) (by omega)) ?_
      rintro _ w111 ⟨_ | _, rfl, hso, hx112⟩
      · have z111 := hx112.size
        refine xo.done 1 [(0, Pt be_ 0), (29, B true)] (by kernel_rfl) rfl (by kernel_rfl) ?_
        refine .condT rfl rfl ?_
        refine .region ?_
        have hb113 := (hbe.ext hx112 (fun h => h))
        refine xo.cpn 1 (by kernel_rfl) (cf45 _ _) (eye_fail _ be_ _ hb113 201) ?_
        rintro _ _ ⟨rfl, rfl⟩
        have hb114 := (hbn.ext hx112 (fun h => h))
        exact ⟨.error 201, ⟨(by decide), rfl, _, hb113⟩, ⟨⟨fun cs9 r9 h9 => (by rw [pGet_ok (by assumption), hI, show beNat (l.take 4) - i = 0 by omega] at h9; simp only [pChs, Option.some.injEq, Prod.mk.injEq] at h9; rw [← h9.1]; intro h8; exact absurd (hso.2 h8) (by simp)), (by decide), _, _, _, hb114⟩, ((hE.weak fun b hb q => q).trans' hx112 (fun _ _ h => h) (fun b hb h => h.elim))⟩⟩
      · have z111 := hx112.size
        refine xo.done 1 [(0, Pt be_ 0), (29, B false)] (by kernel_rfl) rfl (by kernel_rfl) ?_
        refine .condF rfl rfl ?_
        refine .skip ?_
        refine ⟨[], by kernel_rfl, ?_⟩
        have hb115 := (hbe.ext hx112 (fun h => h))
        have hb116 := (hbn.ext hx112 (fun h => h))
        have hs117 := (hown.ext hx112 (fun _ _ h => h))
        exact ⟨.ok r, ⟨rfl, hb115⟩, ⟨⟨xs, A, cap, by rw [pGet_ok (by assumption), hI, show beNat (l.take 4) - i = 0 by omega]; rfl, hso.1 rfl, hb116, hs117⟩, ((hE.weak fun b hb q => q).trans' hx112 (fun _ _ h => h) (fun b hb h => h.elim))⟩⟩
  · refine xo.cpn 1 (by kernel_rfl) (cf44 _ _) (eye_num_bad _ be_ l he 4 (by omega) (by omega) (by omega)) ?_
    rintro _ _ ⟨rfl, rfl⟩
    exact ⟨.error 201, ⟨(by decide), rfl, _, he⟩, ⟨⟨fun cs9 r9 h9 => (by rw [pGet_num hn2] at h9; cases h9), (by decide), _, _, _, hn⟩, (Ext.refl _ _)⟩⟩

end Go.Proofs.YtbajgpadmlnffaaGreat
/- diff.Get: the walk. -/
namespace Go.Proofs.YtbajgpadmlnffaaGreat
open Go.V
set_option maxRecDepth 100000
set_option linter.unusedVariables false
set_option linter.unusedSimpArgs false

theorem ch_read (w : World) (lo hi : Nat) (A : Option Addr) (cap : Nat) (l : List UInt8) (h : Rd (kU8 5) w lo hi A l) (hh : hi ≤ w.heap.size) (bn_ : Nat) (hn : Blk w bn_ 22 [.slice none 0 0]) :
    Ret Tryz.prog 42 [.slice A l.length cap, .func (.func 43) #[] #[Pt bn_ 0]] w fun v w' => Ext (fun k => k = bn_) w w' ∧
      ((∃ cs A cap, v = I 0 ∧ pGet l = some (cs, []) ∧ SortedC cs ∧ Blk w' bn_ 22 [.slice A cs.length cap] ∧ Own kChange w' w.heap.size A cap cs) ∨
       (∃ c, v = I c ∧ c ≠ 0 ∧ (∀ cs, pGet l = some (cs, []) → ¬ SortedC cs) ∧ ∃ A m cap, Blk w' bn_ 22 [.slice A m cap])) := by
  have hr := oct_read w lo hi A cap l h hh 43 [Pt bn_ 0] (fun w1 w2 out => ∃ e, w.heap.size ≤ e ∧ e < w1.heap.size ∧ ChG l w1.heap.size bn_ e w1 w2 out) (fun _ _ => cf43 _ _)
    (fun e w1 he hE h1 h2 => Calls.mono (ch_look w1 e bn_ l he (hn.ext hE (fun h => h))) fun x w2 ⟨out, p, q⟩ =>
      ⟨out, p, ⟨e, h1, h2, q⟩, q.2.weak (fun b hb hk => hk.elim (fun q => .inl (q ▸ hn.lt)) .inr)⟩)
  refine Ret.mono hr ?_
  rintro v w' ⟨w1, w2, out, hE, ⟨e, he1, he2, hG, hG2⟩, hE2, hz, rfl⟩
  have hbx := hn.lt
  have hz1 := hE.size
  have hz2 := hE2.size
  have hAll : Ext (fun k => k = bn_) w w' := (hE.trans' hG2 (M'' := fun k => k = bn_) (fun _ _ h => h.elim) (fun b hb hk => hk.elim id (fun q => absurd hb (by omega)))).trans' hE2 (fun _ _ h => h) (fun b hb hk => absurd hk.1 (by omega))
  refine ⟨hAll, ?_⟩
  cases out with
  | error c =>
    obtain ⟨hno, hc, A2, m2, c2, hbn⟩ := hG
    exact .inr ⟨c, rfl, hc, fun cs => hno cs [], A2, m2, c2, hbn.ext hE2 (fun h => absurd h.1 (by omega))⟩
  | ok r =>
    obtain ⟨cs, A2, cap2, hp, hs, hbn, hown⟩ := hG
    have hbn2 := hbn.ext hE2 (fun h => absurd h.1 (by omega))
    have hown2 := (hown.ext hE2 (fun b hb hk => by have := (hown.lt hb).1; omega)).base_le (show w.heap.size ≤ w1.heap.size by omega)
    cases r with
    | nil => exact .inl ⟨cs, A2, cap2, rfl, hp, hs, hbn2, hown2⟩
    | cons x r => exact .inr ⟨201, rfl, by decide, fun cs9 h9 => (by rw [hp] at h9; simp at h9), A2, _, cap2, hbn2⟩

theorem diff_Get (w : World) (s : ByteArray) (hs : s.size ≤ 1099511627776) :
    Ret Tryz.prog 17 [S s] w fun v w' => ((∃ cs A cap, v = .tuple #[.slice A cs.length cap, I 0] ∧ pGet s.data.toList = some (cs, []) ∧ SortedC cs ∧ Own kChange w' w.heap.size A cap cs) ∨ (v = .tuple #[.slice none 0 0, I 201] ∧ ∀ cs, pGet s.data.toList = some (cs, []) → ¬ SortedC cs)) ∧ Ext No w w' := by
  refine calls_of_XC Tryz.func17 rfl rfl ?_
  refine .seq ?_
  refine .region ?_
  refine xo.done 2 [(0, S s)] (by kernel_rfl) rfl (by kernel_rfl) ?_
  refine .seq ?_
  refine .region ?_
  refine xo.alloc 0 22 [.slice none 0 0] (by kernel_rfl) (by kernel_rfl) ?_
  intro b1 w2 hb3 hx4 hg5
  have z2 := hx4.size
  have l3 := hb3.lt
  refine xo.done 0 [(0, S s), (4, Pt b1 0)] (by kernel_rfl) rfl (by kernel_rfl) ?_
  refine .seq ?_
  refine .region ?_
  refine xo.s2b 1 9 76 5 s (by kernel_rfl) (by kernel_rfl) (by kernel_rfl) ?_
  intro A6 c7 w8 hs9 hx10
  have z8 := hx10.size
  have hb11 := (hb3.ext hx10 (fun h => h))
  refine xo.ret 1 (by kernel_rfl) (cf42 _ _) (ch_read _ w2.heap.size w8.heap.size A6 c7 s.data.toList hs9 (by omega) b1 hb11) ?_
  rintro _ w12 ⟨hx13, (⟨cs14, A15, c16, rfl, hp17, hs18, hb19, ho20⟩ | ⟨c21, rfl, hc22, hp17, A15, m23, c16, hb19⟩)⟩
  · have z12 := hx13.size
    refine xo.done 1 [(4, Pt b1 0), (5, I 0)] (by kernel_rfl) rfl (by kernel_rfl) ?_
    refine .seq ?_
    refine .seq ?_
    refine .region ?_
    refine xo.done 2 [(4, Pt b1 0), (11, B false)] (by kernel_rfl) rfl (by kernel_rfl) ?_
    refine .condF rfl rfl ?_
    refine .skip ?_
    refine .seq ?_
    refine .region ?_
    refine xo.val 0 (by kernel_rfl) (ldB (t := 22) (o := 0) (by kernel_rfl) hb19 rfl) ?_
    refine xo.done 2 [(2, .slice A15 cs14.length c16), (3, I 0)] (by kernel_rfl) rfl (by kernel_rfl) ?_
    refine .ret ?_
    refine ⟨[.slice A15 cs14.length c16, I 0], by kernel_rfl, _, rfl, ?_⟩
    exact ⟨.inl ⟨cs14, _, _, rfl, hp17, hs18, ho20.base_le (by omega)⟩, (((hx4.weak fun b hb h => h.elim).trans' hx10 (fun _ _ h => h) (fun b hb h => h.elim)).trans' hx13 (fun _ _ h => h) (fun b hb (q : b = b1) => absurd hb (by omega)))⟩
  · have z12 := hx13.size
    refine xo.done 1 [(4, Pt b1 0), (5, I c21)] (by kernel_rfl) rfl (by kernel_rfl) ?_
    refine .seq ?_
    refine .seq ?_
    refine .region ?_
    refine xo.val 1 (by kernel_rfl) (c_neq_f (show ¬ ((c21 : Int) = 0) from hc22)) ?_
    refine xo.done 0 [(4, Pt b1 0), (11, B true)] (by kernel_rfl) rfl (by kernel_rfl) ?_
    refine .condT rfl rfl ?_
    refine .seq ?_
    refine .region ?_
    refine xo.done 2 [(2, .slice none 0 0), (3, I 201)] (by kernel_rfl) rfl (by kernel_rfl) ?_
    refine .ret ?_
    refine ⟨[.slice none 0 0, I 201], by kernel_rfl, _, rfl, ?_⟩
    exact ⟨.inr ⟨rfl, hp17⟩, (((hx4.weak fun b hb h => h.elim).trans' hx10 (fun _ _ h => h) (fun b hb h => h.elim)).trans' hx13 (fun _ _ h => h) (fun b hb (q : b = b1) => absurd hb (by omega)))⟩

end Go.Proofs.YtbajgpadmlnffaaGreat
/- Changes that were put as bytes are got again (plain). -/
namespace Go.Proofs.YtbajgpadmlnffaaGreat
open Go.V
set_option linter.unusedVariables false

theorem pText_no {most : Nat} {t : ByteArray} (h1 : most < t.size) (h2 : t.size < 65536) (r : List UInt8) : pText most (txt t ++ r) = none := by
  unfold pText txt
  rw [List.append_assoc, pNum_be (by omega) (by omega)]
  simp only
  rw [if_neg (by omega)]
def fits (c : Change) : Prop := c.key.size ≤ 64 ∧ c.val.size ≤ 300
theorem cut16_le {t : ByteArray} {n : Nat} (hn : n < 65535) : ((cut16 t).size ≤ n ↔ t.size ≤ n) ∧ (t.size ≤ n → cut16 t = t) := by
  by_cases h : t.size ≤ 65535
  · have e : cut16 t = t := if_pos h
    rw [e]; exact ⟨Iff.rfl, fun _ => rfl⟩
  · have e := cut16_big (t := t) (by omega)
    exact ⟨by omega, fun h2 => by omega⟩
theorem pChs_chB {m : Nat} {acc : List Change} {c : Change} {R : List UInt8} : (fits c → pChs (m + 1) acc (chB c ++ R) = pChs m (acc ++ [c]) R) ∧ (¬ fits c → pChs (m + 1) acc (chB c ++ R) = none) := by
  have hk := cut16_size c.key
  have hv := cut16_size c.val
  obtain ⟨k1, k2⟩ := cut16_le (t := c.key) (n := 64) (by omega)
  obtain ⟨v1, v2⟩ := cut16_le (t := c.val) (n := 300) (by omega)
  have hg : ((if c.gone then 1 else 0 : Int)) = ((if c.gone then 1 else 0 : Nat) : Int) := by cases c.gone <;> rfl
  have hg2 : ¬ 1 < (if c.gone then 1 else 0 : Nat) := by cases c.gone <;> simp
  have hg3 : decide ((if c.gone then 1 else 0 : Nat) = 1) = c.gone := by cases c.gone <;> rfl
  have e0 : chB c ++ R = be 1 ((if c.gone then 1 else 0 : Nat) : Int) ++ (txt (cut16 c.key) ++ (txt (cut16 c.val) ++ R)) := by unfold chB; rw [hg]; simp
  have hn : pNum 1 (chB c ++ R) = some ((if c.gone then 1 else 0 : Nat), txt (cut16 c.key) ++ (txt (cut16 c.val) ++ R)) := by
    rw [e0, pNum_be (by omega) (by cases c.gone <;> simp)]
  refine ⟨fun hf => ?_, fun hf => ?_⟩
  · conv => lhs; unfold pChs
    rw [hn]
    simp only
    rw [if_neg hg2, pText_txt (k1.2 hf.1) (by omega)]
    simp only
    rw [pText_txt (v1.2 hf.2) (by omega)]
    simp only
    rw [hg3, k2 hf.1, v2 hf.2, bs_of, bs_of]
  · unfold pChs
    rw [hn]
    simp only
    rw [if_neg hg2]
    by_cases h1 : c.key.size ≤ 64
    · have h2 : ¬ c.val.size ≤ 300 := fun h => hf ⟨h1, h⟩
      rw [pText_txt (k1.2 h1) (by omega)]
      simp only
      rw [pText_no (by have := mt v1.1 h2; omega) (by omega)]
    · rw [pText_no (by have := mt k1.1 h1; omega) (by omega)]
theorem pChs_all : ∀ (l acc : List Change) (R : List UInt8), (∀ c ∈ l, fits c) → pChs l.length acc (chsB l ++ R) = some (acc ++ l, R)
  | [], acc, R, _ => by simp [pChs, chsB]
  | c :: l, acc, R, h => by
    rw [List.length_cons, chsB, List.append_assoc, pChs_chB.1 (h c (by simp)), pChs_all l _ R fun d hd => h d (by simp [hd])]
    simp
theorem pChs_only : ∀ (l acc : List Change) (R : List UInt8) (cs : List Change) (r : List UInt8), pChs l.length acc (chsB l ++ R) = some (cs, r) → cs = acc ++ l
  | [], acc, R, cs, r, h => by
    simp only [pChs, List.length_nil, chsB, Option.some.injEq, Prod.mk.injEq] at h
    simp [h.1]
  | c :: l, acc, R, cs, r, h => by
    rw [List.length_cons, chsB, List.append_assoc] at h
    by_cases hf : fits c
    · rw [pChs_chB.1 hf] at h
      have := pChs_only l _ R cs r h
      rw [this]; simp
    · rw [pChs_chB.2 hf] at h; cases h
theorem pGet_put {l : List Change} (hl : l.length < 4294967296) : pGet (putL l) = pChs l.length [] (chsB l) := by
  unfold pGet putL
  rw [pNum_be (by omega) (by omega)]
theorem pGet_sorted {l : List Change} (hl : l.length < 4294967296) (h : SortedC l) : pGet (putL l) = some (l, []) := by
  have := pChs_all l [] [] fun c hc => by
    obtain ⟨i, hi⟩ := List.mem_iff_getElem?.1 hc
    have := (h i c hi).1
    exact ⟨this.2.1, this.2.2.1⟩
  rw [List.append_nil] at this
  rw [pGet_put hl, this]; simp
theorem pGet_unsorted {l cs : List Change} (hl : l.length < 4294967296) (h : pGet (putL l) = some (cs, [])) : cs = l := by
  rw [pGet_put hl, ← List.append_nil (chsB l)] at h
  have := pChs_only l [] [] cs [] h
  simpa using this
theorem putL_length (l : List Change) : (putL l).length ≤ 4 + 131075 * l.length := by
  unfold putL
  have := chsB_length l
  rw [List.length_append, be_length]; omega
theorem get_put (w : World) (l : List Change) (hl : l.length ≤ 1000000) : Ret Tryz.prog 17 [S ⟨(putL l).toArray⟩] w fun v w' =>
    ((SortedC l ∧ ∃ A cap, v = .tuple #[.slice A l.length cap, I 0] ∧ Own kChange w' w.heap.size A cap l) ∨ (¬ SortedC l ∧ v = .tuple #[.slice none 0 0, I 201])) ∧ Ext No w w' := by
  have hz : (⟨(putL l).toArray⟩ : ByteArray).size ≤ 1099511627776 := by rw [ba_lit_size]; have := putL_length l; omega
  refine (diff_Get w _ hz).mono ?_
  rintro v w' ⟨h, hx⟩
  refine ⟨?_, hx⟩
  have e : (⟨(putL l).toArray⟩ : ByteArray).data.toList = putL l := by simp
  rw [e] at h
  rcases h with ⟨cs, A, cap, rfl, hp, hs, ho⟩ | ⟨rfl, hno⟩
  · obtain rfl := pGet_unsorted (by omega) hp
    exact .inl ⟨hs, A, cap, rfl, ho⟩
  · refine .inr ⟨fun hs => hno l (pGet_sorted (by omega) hs) hs, rfl⟩
end Go.Proofs.YtbajgpadmlnffaaGreat
/- What was put is got: the walk. -/
namespace Go.Proofs.YtbajgpadmlnffaaGreat
open Go.V
set_option maxRecDepth 100000
set_option linter.unusedVariables false
set_option linter.unusedSimpArgs false

theorem law_back (w : World) (A1 : Option Addr) (cap1 : Nat) (l1 : List Change) (lo1 hi1 : Nat) (hR1 : Rd kChange w lo1 hi1 A1 l1) (hhi1 : hi1 ≤ w.heap.size) (hks : ∀ x ∈ l1, x.key.size ≤ maxLen ∧ x.val.size ≤ maxLen) :
    Ret Tryz.prog 5 [.slice A1 l1.length cap1] w fun v w' => v = B true ∧ Ext No w w' := by
  refine calls_of_XC Tryz.func5 rfl rfl ?_
  refine .seq ?_
  refine .region ?_
  refine xo.done 1 [(0, .slice A1 l1.length cap1)] (by kernel_rfl) rfl (by kernel_rfl) ?_
  refine .seq ?_
  refine .seq ?_
  refine .region ?_
  refine xo.ret 1 (by kernel_rfl) (cf8 _ _) (law_small _ A1 cap1 l1 lo1 hi1 hR1 (by omega)) ?_
  rintro _ w3 ⟨_ | _, rfl, hsm2, hx4⟩
  · have z3 := hx4.size
    refine xo.done 1 [(0, .slice A1 l1.length cap1), (7, B true)] (by kernel_rfl) rfl (by kernel_rfl) ?_
    refine .condT rfl rfl ?_
    refine .seq ?_
    refine .region ?_
    refine xo.ret 0 (by kernel_rfl) (cf9 _ _) (law_awake _) ?_
    rintro _ w5 ⟨rfl, hx6⟩
    have z5 := hx6.size
    refine xo.done 1 [(2, B true)] (by kernel_rfl) rfl (by kernel_rfl) ?_
    refine .ret ?_
    refine ⟨[B true], by kernel_rfl, _, rfl, ?_⟩
    exact ⟨rfl, ((hx4.weak fun b hb h => h.elim).trans' hx6 (fun _ _ h => h) (fun b hb h => h.elim))⟩
  · have z3 := hx4.size
    have hsl_A1 := hsm2 rfl
    refine xo.done 1 [(0, .slice A1 l1.length cap1), (7, B false)] (by kernel_rfl) rfl (by kernel_rfl) ?_
    refine .condF rfl rfl ?_
    refine .skip ?_
    refine .seq ?_
    refine .region ?_
    have hs7 := (hR1.ext hx4 (fun _ _ _ h => h))
    refine xo.ret 1 (by kernel_rfl) (cf19 _ _) (diff_Put _ A1 cap1 l1 lo1 hi1 hs7 (by omega) (by omega) (fun c hc => ⟨Nat.le_trans (hks c hc).1 (by unfold maxLen; omega), Nat.le_trans (hks c hc).2 (by unfold maxLen; omega)⟩)) ?_
    rintro _ w8 ⟨rfl, hx9⟩
    have z8 := hx9.size
    refine xo.ret 0 (by kernel_rfl) (cf17 _ _) (get_put _ l1 (by omega)) ?_
    rintro _ w10 ⟨(⟨hs12, A13, c14, rfl, ho15⟩ | ⟨hs12, rfl⟩), hx11⟩
    · have z10 := hx11.size
      refine xo.done 5 [(0, .slice A1 l1.length cap1), (3, .slice A13 l1.length c14), (4, I 0)] (by kernel_rfl) rfl (by kernel_rfl) ?_
      refine .seq ?_
      refine .seq ?_
      refine .region ?_
      have hs16 := ((hs7.ext hx9 (fun _ _ _ h => h)).ext hx11 (fun _ _ _ h => h))
      refine xo.ret 1 (by kernel_rfl) (cf21 _ _) ((diff_Sorted _ A1 cap1 l1 lo1 hi1 hs16 (by omega) (by omega)).mono (Q' := fun v w' => v = B true ∧ Ext No _ w') fun v w' ⟨b, h1, h2, h3⟩ => ⟨by rw [h1, show b = true from h2.2 hs12], h3⟩) ?_
      rintro _ w17 ⟨rfl, hx18⟩
      have z17 := hx18.size
      refine xo.done 1 [(0, .slice A1 l1.length cap1), (3, .slice A13 l1.length c14), (4, I 0), (17, B false)] (by kernel_rfl) rfl (by kernel_rfl) ?_
      refine .condF rfl rfl ?_
      refine .skip ?_
      refine .seq ?_
      refine .region ?_
      have hs19 := (ho15.ext hx18 (fun _ _ h => h))
      have hs20 := (hs16.ext hx18 (fun _ _ _ h => h))
      refine xo.ret 5 (by kernel_rfl) (cf23 _ _) (equal_change _ l1 A13 c14 w8.heap.size w17.heap.size hs19.rd (by omega) A1 cap1 lo1 hi1 hs20 (by omega) (by omega) hks) ?_
      rintro _ w21 ⟨rfl, hx22⟩
      have z21 := hx22.size
      refine xo.ret 2 (by kernel_rfl) (cf9 _ _) (law_awake _) ?_
      rintro _ w23 ⟨rfl, hx24⟩
      have z23 := hx24.size
      refine xo.done 2 [(2, B true)] (by kernel_rfl) rfl (by kernel_rfl) ?_
      refine .ret ?_
      refine ⟨[B true], by kernel_rfl, _, rfl, ?_⟩
      exact ⟨rfl, ((((((hx4.weak fun b hb h => h.elim).trans' hx9 (fun _ _ h => h) (fun b hb h => h.elim)).trans' hx11 (fun _ _ h => h) (fun b hb h => h.elim)).trans' hx18 (fun _ _ h => h) (fun b hb h => h.elim)).trans' hx22 (fun _ _ h => h) (fun b hb h => h.elim)).trans' hx24 (fun _ _ h => h) (fun b hb h => h.elim))⟩
    · have z10 := hx11.size
      refine xo.done 5 [(0, .slice A1 l1.length cap1), (3, .slice none 0 0), (4, I 201)] (by kernel_rfl) rfl (by kernel_rfl) ?_
      refine .seq ?_
      refine .seq ?_
      refine .region ?_
      have hs25 := ((hs7.ext hx9 (fun _ _ _ h => h)).ext hx11 (fun _ _ _ h => h))
      refine xo.ret 1 (by kernel_rfl) (cf21 _ _) ((diff_Sorted _ A1 cap1 l1 lo1 hi1 hs25 (by omega) (by omega)).mono (Q' := fun v w' => v = B false ∧ Ext No _ w') fun v w' ⟨b, h1, h2, h3⟩ => ⟨by rw [h1, show b = false from (by cases b with | false => rfl | true => exact absurd (h2.1 rfl) hs12)], h3⟩) ?_
      rintro _ w26 ⟨rfl, hx27⟩
      have z26 := hx27.size
      refine xo.done 1 [(0, .slice A1 l1.length cap1), (3, .slice none 0 0), (4, I 201), (17, B true)] (by kernel_rfl) rfl (by kernel_rfl) ?_
      refine .condT rfl rfl ?_
      refine .seq ?_
      refine .region ?_
      refine xo.ret 8 (by kernel_rfl) (cf9 _ _) (law_awake _) ?_
      rintro _ w28 ⟨rfl, hx29⟩
      have z28 := hx29.size
      refine xo.done 2 [(2, B true)] (by kernel_rfl) rfl (by kernel_rfl) ?_
      refine .ret ?_
      refine ⟨[B true], by kernel_rfl, _, rfl, ?_⟩
      exact ⟨rfl, (((((hx4.weak fun b hb h => h.elim).trans' hx9 (fun _ _ h => h) (fun b hb h => h.elim)).trans' hx11 (fun _ _ h => h) (fun b hb h => h.elim)).trans' hx27 (fun _ _ h => h) (fun b hb h => h.elim)).trans' hx29 (fun _ _ h => h) (fun b hb h => h.elim))⟩

end Go.Proofs.YtbajgpadmlnffaaGreat
