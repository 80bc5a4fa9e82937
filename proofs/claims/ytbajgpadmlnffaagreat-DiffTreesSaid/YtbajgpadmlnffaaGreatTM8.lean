/-
  A part of the proofs of this seat (Laws, Row, Lists, Sorted, ListsL, LawT): lemmas on which the last text leans. No condition.
-/
import Derived.Test.YtbajgpadmlnffaaGreatRows
import Derived.WalkKit
import Derived.ProofKit
import Derived.OpenShut
import Derived.Deep.Slices
import Derived.Deep.Fields
import Derived.WideKeyArgs
import Derived.Below
import Derived.ChangeSame
import Derived.Test.YtbajgpadmlnffaaGreatTM7
/- The example; what the laws share. -/
namespace Go.Proofs.YtbajgpadmlnffaaGreat
open Go.V
set_option maxRecDepth 100000
set_option linter.unusedVariables false
set_option linter.unusedSimpArgs false

theorem ex_ne {σ : St} {ra rb : Int} (ha : TreeAt σ ra exE) (hb : TreeAt σ rb exF) : ra ≠ rb := fun e => by
  subst e
  have := ha.unique hb
  simp only [exE, exF] at this
  injection this with h1 _
  injection h1 with h2 _
  exact Lt.ne lab h2
theorem law_fresh2 (w : World) : Ret Tryz.prog 10 [] w fun v w' => ∃ (a : SAd) (σ : St), v = Pt a.s 0 ∧ StAt w' a σ ∧ Inv σ (fun _ => 0) ∧ σ.cells.length = 0 ∧ a.lo = w.heap.size ∧ Ext No w w' :=
  (law_fresh w).mono fun v w' ⟨a, δ, h1, h2, h3, h4, h5, h6, h7⟩ => ⟨a, _, h1, h2, inv_fresh h3 h4, rfl, h5, h7⟩

theorem ex_sizes : ∀ x ∈ exB, x.key.size ≤ maxLen ∧ x.val.size ≤ maxLen := by
  intro c hc
  simp only [exB, List.mem_cons, List.not_mem_nil, or_false] at hc
  rcases hc with rfl | rfl | rfl <;> decide
theorem law_awake (w : World) :
    Ret Tryz.prog 9 [] w fun v w' => v = B true ∧ Ext No w w' := by
  refine calls_of_XC Tryz.func9 rfl rfl ?_
  refine .seq ?_
  refine .region ?_
  refine xo.done 1 [] (by kernel_rfl) rfl (by kernel_rfl) ?_
  refine .seq ?_
  refine .region ?_
  refine xo.ret 0 (by kernel_rfl) (cf10 _ _) (law_fresh2 _) ?_
  rintro _ w1 ⟨a, σ0, rfl, hS2, hI3, hl04, hlo5, hx6⟩
  have z1 := hx6.size
  have lS := hS2.bs.lt
  have lMc := hS2.mc.lt
  have lMk := hS2.mkt.lt
  have hhi := hS2.hi
  have nSC : a.s ≠ a.mc := fun e => MapAt.ne hS2.mc hS2.bs e.symm
  have nKC : a.mkk ≠ a.mc := fun e => hS2.cmk e.symm
  have hlo0 : w.heap.size ≤ a.lo := by omega
  refine xo.done 1 [(1, Pt a.s 0)] (by kernel_rfl) rfl (by kernel_rfl) ?_
  refine .seq ?_
  refine .region ?_
  refine xo.bsl 3 22 2 #[(0, .agg #[S (⟨#[97]⟩), S (⟨#[49]⟩), B false]), (1, .agg #[S (⟨#[98]⟩), S (⟨#[50]⟩), B false])] (et := 34) (cs := [S (⟨#[97]⟩), S (⟨#[49]⟩), B false, S (⟨#[98]⟩), S (⟨#[50]⟩), B false]) (by kernel_rfl) (by kernel_rfl) ?_
  intro b7 w8 hb9 hx10 hg11
  have z8 := hx10.size
  have l9 := hb9.lt
  have hf12 := (hS2.no hx10)
  have hl1 := (show exA.length ≤ 200 by decide)
  refine xo.ret 0 (by kernel_rfl) (cf11 _ _) (diff_Apply _ a σ0 hf12 (fun _ => 0) hI3 (fun _ => Nat.zero_le _) 0 [] (.inl ⟨rfl, rfl⟩) (some ⟨b7, 0, none⟩) 2 exA b7 (b7 + 1) (show Rd kChange w8 b7 (b7 + 1) (some ⟨b7, 0, none⟩) exA from .inr ⟨b7, 0, rfl, Nat.le_refl _, Nat.lt_succ_self _, hb9.cs⟩) (by omega) ex_valid.1 (by simp only [List.length_nil]; omega) (by omega)) ?_
  rintro _ w14 ⟨r1, σ1, rfl, hS13, hx15, hAI1⟩
  have z14 := hx15.size
  have hlen1 := hAI1.len
  have hle1 : (applyE [] exA).length ≤ 200 := Nat.le_trans (applyE_length _ _) (by simp only [List.length_nil]; omega)
  rw [ex_e] at hAI1 hle1
  refine xo.done 5 [(1, Pt a.s 0), (2, I r1), (3, I 0)] (by kernel_rfl) rfl (by kernel_rfl) ?_
  refine .seq ?_
  refine .region ?_
  refine xo.bsl 5 22 3 #[(0, .agg #[S (⟨#[97]⟩), S (⟨#[]⟩), B true]), (1, .agg #[S (⟨#[98]⟩), S (⟨#[51]⟩), B false]), (2, .agg #[S (⟨#[99]⟩), S (⟨#[52]⟩), B false])] (et := 34) (cs := [S (⟨#[97]⟩), S (⟨#[]⟩), B true, S (⟨#[98]⟩), S (⟨#[51]⟩), B false, S (⟨#[99]⟩), S (⟨#[52]⟩), B false]) (by kernel_rfl) (by kernel_rfl) ?_
  intro b16 w17 hb18 hx19 hg20
  have z17 := hx19.size
  have l18 := hb18.lt
  have hf21 := (hS13.no hx19)
  have hl2 := (show exB.length ≤ 200 by decide)
  refine xo.ret 0 (by kernel_rfl) (cf11 _ _) (diff_Apply _ a σ1 hf21 (hH (fun _ => 0) r1) hAI1.inv (fun j => Nat.le_trans (hH_le (n := 0) (fun _ => Nat.le_refl _) r1 j) (by decide)) r1 _ hAI1.tree (some ⟨b16, 0, none⟩) 3 exB b16 (b16 + 1) (show Rd kChange w17 b16 (b16 + 1) (some ⟨b16, 0, none⟩) exB from .inr ⟨b16, 0, rfl, Nat.le_refl _, Nat.lt_succ_self _, hb18.cs⟩) (by omega) ex_valid.2 (by omega) (by omega)) ?_
  rintro _ w23 ⟨r2, σ2, rfl, hS22, hx24, hAI2⟩
  have z23 := hx24.size
  have hlen2 := hAI2.len
  have hle2 : (applyE (exE) exB).length ≤ 400 := Nat.le_trans (applyE_length _ _) (by omega)
  have hT1 : TreeAt σ2 r1 (exE) := hAI2.old hAI1.tree
  have hT2 := hAI2.tree
  have hA2 := hAI2.inv.alive
  rw [ex_f] at hT2 hle2
  refine xo.done 5 [(1, Pt a.s 0), (2, I r1), (3, I 0), (4, I r2), (5, I 0)] (by kernel_rfl) rfl (by kernel_rfl) ?_
  refine .seq ?_
  refine .region ?_
  refine xo.ret 3 (by kernel_rfl) (cf13 _ _) (diff_Trees _ a σ2 hS22 hA2 r1 r2 exE exF hT1 hT2 (by omega) (by omega)) ?_
  rintro _ w31 ⟨A25, c26, k27, rfl, ho28, hS29, hx32, hRun30⟩
  have z31 := hx32.size
  obtain ⟨la_, lb_, o1_, o2_, hrun_⟩ := hRun30 (ex_ne hT1 hT2)
  have hk2 : k27 = 2 := ex_run o1_ o2_ hT1 hT2 hrun_
  subst hk2
  rw [ex_l] at ho28
  rw [ex_l]
  refine xo.done 7 [(3, I 0), (5, I 0), (6, .slice A25 exB.length c26), (7, I (((2 : Nat) : Int))), (8, I 0)] (by kernel_rfl) rfl (by kernel_rfl) ?_
  refine .seq ?_
  refine .region ?_
  refine xo.val 12 (by kernel_rfl) (c_eql_t (show (((2 : Nat) : Int) : Int) = 2 from rfl)) ?_
  refine xo.bsl 6 22 3 #[(0, .agg #[S (⟨#[97]⟩), S (⟨#[]⟩), B true]), (1, .agg #[S (⟨#[98]⟩), S (⟨#[51]⟩), B false]), (2, .agg #[S (⟨#[99]⟩), S (⟨#[52]⟩), B false])] (et := 34) (cs := [S (⟨#[97]⟩), S (⟨#[]⟩), B true, S (⟨#[98]⟩), S (⟨#[51]⟩), B false, S (⟨#[99]⟩), S (⟨#[52]⟩), B false]) (by kernel_rfl) (by kernel_rfl) ?_
  intro b33 w34 hb35 hx36 hg37
  have z34 := hx36.size
  have l35 := hb35.lt
  have hs38 := (ho28.ext hx36 (fun _ _ h => h))
  refine xo.ret 0 (by kernel_rfl) (cf23 _ _) (equal_change _ exB A25 c26 w23.heap.size w34.heap.size hs38.rd (by omega) (some ⟨b33, 0, none⟩) 3 b33 (b33 + 1) (show Rd kChange w34 b33 (b33 + 1) (some ⟨b33, 0, none⟩) exB from .inr ⟨b33, 0, rfl, Nat.le_refl _, Nat.lt_succ_self _, hb35.cs⟩) (by omega) (by decide) ex_sizes) ?_
  rintro _ w39 ⟨rfl, hx40⟩
  have z39 := hx40.size
  refine xo.done 2 [(0, B true)] (by kernel_rfl) rfl (by kernel_rfl) ?_
  refine .ret ?_
  refine ⟨[B true], by kernel_rfl, _, rfl, ?_⟩
  exact ⟨rfl, ((((((((hx6.weak fun b hb h => h.elim).trans' hx10 (fun _ _ h => h) (fun b hb h => h.elim)).trans' hx15 (fun _ _ h => h) (fun b hb q => absurd hb (by have := (hf12.fpp_fp q).1; omega))).trans' hx19 (fun _ _ h => h) (fun b hb h => h.elim)).trans' hx24 (fun _ _ h => h) (fun b hb q => absurd hb (by have := (hf21.fpp_fp q).1; omega))).trans' hx32 (fun _ _ h => h) (fun b hb h => h.elim)).trans' hx36 (fun _ _ h => h) (fun b hb h => h.elim)).trans' hx40 (fun _ _ h => h) (fun b hb h => h.elim))⟩

theorem may_sizes (l1 l2 : List Change) : (∀ e ∈ applyE [] (mayL l1), e.1.size ≤ 300 ∧ e.2.size ≤ 300) ∧ ∀ e ∈ applyE (applyE [] (mayL l1)) (mayL l2), e.1.size ≤ 300 ∧ e.2.size ≤ 300 := by
  have h1 : ∀ e ∈ applyE [] (mayL l1), e.1.size ≤ 300 ∧ e.2.size ≤ 300 := applyE_all (mayL l1) (by simp) fun c hc _ => by have := (mayL_valid c hc).2; exact ⟨by simp only; omega, by simp only; omega⟩
  exact ⟨h1, applyE_all (mayL l2) h1 fun c hc _ => by have := (mayL_valid c hc).2; exact ⟨by simp only; omega, by simp only; omega⟩⟩
theorem le_maxLen {n : Nat} (h : n ≤ 300) : n ≤ maxLen := Nat.le_trans h (by unfold maxLen; omega)

end Go.Proofs.YtbajgpadmlnffaaGreat
/- The rows of this seat: arguments opened to lists; a law that returns true and turns nothing old. -/
namespace Go.V
theorem cs_all {α : Type} {k : Kd α} {w : World} {b : Nat} : ∀ (l : List α) (o : Nat), (∀ i x, l[i]? = some x → Cs w b (o + i * k.sz) (k.enc x)) → Cs w b o (k.all l)
  | [], o, _ => fun j v h => by simp [Kd.all] at h
  | x :: r, o, h => fun j v hj => by
    have e : k.all (x :: r) = k.enc x ++ k.all r := by simp [Kd.all]
    rw [e] at hj
    by_cases hlt : j < k.sz
    · rw [List.getElem?_append_left (by rw [k.len]; exact hlt)] at hj
      have := h 0 x rfl j v hj
      simpa using this
    · rw [List.getElem?_append_right (by rw [k.len]; omega), k.len] at hj
      have h2 := cs_all r (o + k.sz) (fun i y hy => by
        have := h (i + 1) y (by simpa using hy)
        rw [Nat.add_mul, Nat.one_mul] at this
        rw [show o + k.sz + i * k.sz = o + (i * k.sz + k.sz) by omega]
        exact this) (j - k.sz) v hj
      rw [show o + k.sz + (j - k.sz) = o + j by omega] at h2
      exact h2
theorem list_of {α : Type} {p : Nat → α → Prop} : ∀ (n : Nat), (∀ i, i < n → ∃ x, p i x) → ∃ l : List α, l.length = n ∧ ∀ i x, l[i]? = some x → p i x
  | 0, _ => ⟨[], rfl, fun i x h => by simp at h⟩
  | n + 1, h => by
    obtain ⟨l, hl, hp⟩ := list_of n fun i hi => h i (by omega)
    obtain ⟨x, hx⟩ := h n (by omega)
    refine ⟨l ++ [x], by simp [hl], fun i y hy => ?_⟩
    by_cases hi : i < l.length
    · rw [List.getElem?_append_left hi] at hy
      exact hp i y hy
    · rw [List.getElem?_append_right (by omega)] at hy
      have : i = n := by
        have := (List.getElem?_eq_some_iff.1 hy).1
        simp at this; omega
      subst this
      rw [hl, Nat.sub_self] at hy
      simp only [List.getElem?_cons_zero, Option.some.injEq] at hy
      subst hy
      exact hx
theorem addr_plain {w : World} {a : Addr} {v : Value} (h : w.cell? a = some v) : a = ⟨a.block, a.off, none⟩ := by
  obtain ⟨b, o, s⟩ := a
  unfold World.cell? at h
  simp only at h
  split at h
  · cases s with
    | none => rfl
    | some _ => simp at h
  · cases h
end Go.V
namespace Go.Proofs.YtbajgpadmlnffaaGreat
open Go.V Go.ChangeShapes Go.WideShapes Go.ChangeAt Go.RowKit Go.WideElems Go.Deep
set_option linter.unusedVariables false
set_option maxRecDepth 100000

theorem ow : ownKnob Tryz.prog.godebug = none := by kernel_rfl
section
variable {H : Type} {enc : TypeId × Value → H} {W : World}
theorem fld_string {n : Nat} {v : Value} {y : DataW H × List MemPlace} (h : DataW.trod enc Tryz.prog W 0 (fun _ => true) true n 9 [v] = some y) : ∃ s : ByteArray, v = .string s ∧ s.size ≤ maxLen := by
  obtain ⟨s, h1, _, h2⟩ := DataW.trod_string Tryz.underlying9 h
  simp only [List.cons.injEq, and_true] at h1
  exact ⟨s, h1, h2⟩
theorem fld_bool {n : Nat} {v : Value} {y : DataW H × List MemPlace} (h : DataW.trod enc Tryz.prog W 0 (fun _ => true) true n 4 [v] = some y) : ∃ b : Bool, v = .bool b := by
  obtain ⟨s, h1, _⟩ := DataW.trod_bool Tryz.underlying4 h
  simp only [List.cons.injEq, and_true] at h1
  exact ⟨s, h1⟩
/-- A slice of changes that came in. -/
theorem open_changes {r : Reach} {b0 : Nat} {v : Value} {d : DataW H} {ps : List MemPlace} (hval : Value.okWide Tryz.prog W r b0 22 v) (h : DataW.Trod enc Tryz.prog W 0 (fun _ => true) true 22 v d ps) :
    ∃ A cap, ∃ l : List Change, v = .slice A l.length cap ∧ Rd kChange W 0 W.heap.size A l ∧ ∀ x ∈ l, x.key.size ≤ maxLen ∧ x.val.size ≤ maxLen := by
  obtain ⟨a0, len0, cap0, rfl⟩ := okWide_slice Tryz.underlying22 hval
  obtain ⟨fuel, hf⟩ := h
  rcases open_slice Tryz.underlying22 hf with ⟨h1, _⟩ | ⟨a, len, cap, m, n, D, Pl, h1, hb, hl, hm, hmm, hx, hi⟩
  · simp only [Value.cells, List.cons.injEq, Value.slice.injEq, and_true] at h1
    obtain ⟨rfl, rfl, rfl⟩ := h1
    exact ⟨none, 0, [], rfl, .inl rfl, by simp⟩
  · simp only [Value.cells, List.cons.injEq, Value.slice.injEq, and_true] at h1
    obtain ⟨rfl, rfl, rfl⟩ := h1
    have h3 : Tryz.prog.cellsOf 34 = 3 := by kernel_rfl
    have hone : oneCellFields Tryz.prog (Tryz.prog.fieldsOf 34) = true := by kernel_rfl
    simp only [if_true] at hmm
    have key : ∀ i, i < len0 → ∃ c : Change, (w3 : True) → (W.cell? (a.add (i * 3)) = some (S c.key) ∧ W.cell? ((a.add (i * 3)).add 1) = some (S c.val) ∧ W.cell? ((a.add (i * 3)).add 2) = some (B c.gone)) ∧ c.key.size ≤ maxLen ∧ c.val.size ≤ maxLen := by
      intro i hlt
      obtain ⟨cs, hc, ht⟩ := hi i (by omega)
      rw [h3] at hc
      obtain ⟨_, hcl, hat⟩ := World.cells?_some hc
      obtain ⟨ys, n', hn', hy, hlen, hyl, hfd⟩ := DataW.trod_struct Tryz.underlying34 ht
      match cs, hcl with
      | [c0, c1, c2], _ =>
        have f0 := hfd 0 _ rfl
        have f1 := hfd 1 _ rfl
        have f2 := hfd 2 _ rfl
        have e0 : (([c0, c1, c2] : List Value).drop 0).take (Tryz.prog.cellsOf 9) = [c0] := by kernel_rfl
        have e1 : (([c0, c1, c2] : List Value).drop 1).take (Tryz.prog.cellsOf 9) = [c1] := by kernel_rfl
        have e2 : (([c0, c1, c2] : List Value).drop 2).take (Tryz.prog.cellsOf 4) = [c2] := by kernel_rfl
        have g0 : DataW.trod enc Tryz.prog W 0 (fun _ => true) true n' 9 [c0] = ys[0]? := by rw [← e0]; exact f0
        have g1 : DataW.trod enc Tryz.prog W 0 (fun _ => true) true n' 9 [c1] = ys[1]? := by rw [← e1]; exact f1
        have g2 : DataW.trod enc Tryz.prog W 0 (fun _ => true) true n' 4 [c2] = ys[2]? := by rw [← e2]; exact f2
        have hy3 : ys.length = 3 := hyl
        rw [List.getElem?_eq_getElem (show 0 < ys.length by omega)] at g0
        rw [List.getElem?_eq_getElem (show 1 < ys.length by omega)] at g1
        rw [List.getElem?_eq_getElem (show 2 < ys.length by omega)] at g2
        obtain ⟨s0, rfl, z0⟩ := fld_string g0
        obtain ⟨s1, rfl, z1⟩ := fld_string g1
        obtain ⟨s2, rfl⟩ := fld_bool g2
        have a0 := hat 0 (by omega)
        have a1 := hat 1 (by omega)
        have a2 := hat 2 (by omega)
        exact ⟨⟨s0, s1, s2⟩, fun _ => ⟨⟨by simpa [Addr.add] using a0, by simpa using a1, by simpa using a2⟩, z0, z1⟩⟩
    obtain ⟨l, hll, hlp⟩ := list_of len0 key
    refine ⟨some a, cap0, l, by rw [hll], ?_, fun x hx => ?_⟩
    · cases hl0 : l with
      | nil => exact .inl rfl
      | cons x0 r0 =>
        right
        have hz := (hlp 0 x0 (by rw [hl0]; rfl) trivial).1.1
        rw [Nat.zero_mul, show a.add 0 = a from rfl] at hz
        have ha := addr_plain hz
        have hlt : a.block < W.heap.size := by
          unfold World.cell? at hz
          cases hh : W.heap[a.block]? with
          | none => rw [hh] at hz; cases hz
          | some q => exact (Array.getElem?_eq_some_iff.1 hh).1
        refine ⟨a.block, a.off, by rw [← ha], Nat.zero_le _, hlt, ?_⟩
        rw [← hl0]
        refine cs_all l a.off fun i x hx j v hj => ?_
        obtain ⟨⟨p0, p1, p2⟩, _⟩ := hlp i x hx trivial
        have hadd : ∀ q, a.add q = ⟨a.block, a.off + q, none⟩ := fun q => by
          unfold Addr.add
          split
          · rename_i hq; subst hq; exact ha
          · rfl
        have hadd2 : ∀ q s, (a.add q).add s = ⟨a.block, a.off + q + s, none⟩ := fun q s => by
          rw [hadd]
          unfold Addr.add
          split
          · rename_i hq; subst hq; rfl
          · rfl
        rw [hadd] at p0
        rw [hadd2] at p1 p2
        show W.cell? ⟨a.block, a.off + i * 3 + j, none⟩ = some v
        have hj' : ([S x.key, S x.val, B x.gone] : List Value)[j]? = some v := hj
        match j, hj' with
        | 0, h => simp only [List.getElem?_cons_zero, Option.some.injEq] at h; subst h; exact p0
        | 1, h => simp only [List.getElem?_cons_succ, List.getElem?_cons_zero, Option.some.injEq] at h; subst h; exact p1
        | 2, h => simp only [List.getElem?_cons_succ, List.getElem?_cons_zero, Option.some.injEq] at h; subst h; exact p2
        | j + 3, h => simp at h
    · obtain ⟨i, hi2⟩ := List.mem_iff_getElem?.1 hx
      exact (hlp i x hi2 trivial).2
theorem ext_below {w w' : World} (h : Ext No w w') : Go.RowKit.Below w.heap.size w w' := ⟨h.os, h.tape, h.output, h.size, fun k hk => h.block k hk fun q => q⟩
/-- A law: true comes back, and nothing old has turned: the arguments read as they did. -/
theorem law_post {f : Func} {s : ChangeSpec} {W' : World} {args : Array Value} {ds : List (DataW H)} {ps : List MemPlace} (hsv : s.vars = []) (hrt : f.resultTypes = #[4])
    (hW : DataW.Whole enc Tryz.prog f.params.toList s.vars false W args.toList ds [] ps) (hres : (s.fn H (ds ++ [])).results = [.lit (.bool true)]) (hargs : (s.fn H (ds ++ [])).args = ds) (hvars : (s.fn H (ds ++ [])).vars = [])
    (hread : ∀ sp : Nat → Bool, (∀ p ∈ ps, sp p.block = true) → DataW.TrodAll enc Tryz.prog W' 0 sp true f.params.toList args.toList ds ps) (hb : Go.RowKit.Below W.heap.size W W') :
    s.post enc Tryz.prog f false true false false W args (.bool true) W' := by
  have hlt : ∀ p ∈ ps, p.block < W.heap.size := fun p hp => hW.lt p hp
  have hold : ∀ p ∈ ps, (fun b => decide (b < W.heap.size)) p.block = true := fun p hp => by simpa using hlt p hp
  have hr : ∀ (b : Nat) (sp : Nat → Bool) (hd : Bool), DataW.TrodAll enc Tryz.prog W' b sp hd f.resultTypes.toList ((Value.bool true).resultList f.resultTypes.size) (s.fn H (ds ++ [])).results [] := fun b sp hd => by
    rw [hrt, hres]
    exact trodAll_mk1 (shut_bool Tryz.underlying4 true)
  have ha : ∀ sp : Nat → Bool, (∀ p ∈ ps, sp p.block = true) → DataW.TrodAll enc Tryz.prog W' 0 sp true f.params.toList args.toList (s.fn H (ds ++ [])).args ps := fun sp h => by rw [hargs]; exact hread sp h
  have hv : ∀ sp : Nat → Bool, DataW.TrodVars enc Tryz.prog W' sp s.vars (s.fn H (ds ++ [])).vars [] := fun sp => by rw [hsv, hvars]; rfl
  refine ⟨ds, [], ps, [], ps, [], hW, hr _ _ _, ha _ hold, hv _, World.keptBut_mono (fun p hp => ⟨hp, .inr (by simpa using hp)⟩) (hb.frame (· ∈ ps)), fun _ => ?_⟩
  obtain ⟨_, _, _, _, _, hz, hn⟩ := hW
  refine ⟨fun j t r hj hr' => ?_, _, _, ([] ++ ps) ++ [], ⟨[] ++ ps, [], trodAll_append (ha _ (fun _ _ => rfl)) (hr _ _ _), hv _, rfl, ?_, ?_⟩, fun p hp _ => by simpa using hp⟩
  · exact ok_one (P := Tryz.prog) hrt rfl (okWide_bool_mk Tryz.underlying4 true) j t r hj hr'
  · intro b off hp
    have hin : MemPlace.cell b off ∈ ps := by simpa using hp
    rw [hb.frozen (hlt _ hin)]
    exact hz b off hin
  · intro h; cases h
end
end Go.Proofs.YtbajgpadmlnffaaGreat
/- What leads from one row to another one, as the reference has it: the walk. -/
namespace Go.Proofs.YtbajgpadmlnffaaGreat
open Go.V
set_option maxRecDepth 100000
set_option linter.unusedVariables false
set_option linter.unusedSimpArgs false

theorem ref_lists (w : World) (PA : Option Addr) (capa : Nat) (Ea : List KV) (loa hia : Nat) (hRa : Rd kEntry w loa hia PA (Ea.map entK)) (hha : hia ≤ w.heap.size) (PB : Option Addr) (capb : Nat) (Eb : List KV) (lob hib : Nat) (hRb : Rd kEntry w lob hib PB (Eb.map entK)) (hhb : hib ≤ w.heap.size) (hlen : Ea.length + Eb.length ≤ 10000) (hea : ∀ e ∈ Ea, e.1.size ≤ 140737488355328 ∧ e.2.size ≤ 140737488355328) (heb : ∀ e ∈ Eb, e.1.size ≤ 140737488355328 ∧ e.2.size ≤ 140737488355328) :
    Ret Tryz.prog 24 [.slice PA ((Ea.map entK).length) capa, .slice PB ((Eb.map entK).length) capb] w fun v w' => ∃ A' c', v = .slice A' (listsE Ea Eb).length c' ∧ Own kChange w' w.heap.size A' c' (listsE Ea Eb) ∧ Ext No w w' := by
  have hml : (Ea.map entK).length = Ea.length := by rw [List.length_map]
  have hmlb : (Eb.map entK).length = Eb.length := by rw [List.length_map]
  have hll := lists_length _ Ea Eb (Nat.le_refl _)
  refine calls_of_XC Tryz.func24 rfl rfl ?_
  refine .seq ?_
  refine .region ?_
  refine xo.done 1 [(0, .slice PA ((Ea.map entK).length) capa), (1, .slice PB ((Eb.map entK).length) capb)] (by kernel_rfl) rfl (by kernel_rfl) ?_
  refine .seq ?_
  refine .region ?_
  refine xo.done 1 [(0, .slice PA ((Ea.map entK).length) capa), (1, .slice PB ((Eb.map entK).length) capb), (5, .slice none 0 0)] (by kernel_rfl) rfl (by kernel_rfl) ?_
  refine .seq ?_
  refine .region ?_
  refine xo.done 1 [(0, .slice PA ((Ea.map entK).length) capa), (1, .slice PB ((Eb.map entK).length) capb), (5, .slice none 0 0), (6, I 0)] (by kernel_rfl) rfl (by kernel_rfl) ?_
  refine .seq ?_
  refine .seq ?_
  refine .region ?_
  refine xo.done 3 [(0, .slice PA ((Ea.map entK).length) capa), (5, .slice none 0 0), (6, I 0), (9, .slice PB ((Eb.map entK).length) capb), (10, I (((Eb.map entK).length : Int))), (11, I 0)] (by kernel_rfl) rfl (by kernel_rfl) ?_
  refine .block ?_
  refine XC.loop (ι := Option Addr × Nat × Nat × Nat × List Change) (fun ⟨A_, c_, i, k, xs⟩ => [(0, .slice PA ((Ea.map entK).length) capa), (5, .slice A_ xs.length c_), (6, I (k : Int)), (9, .slice PB ((Eb.map entK).length) capb), (10, I (((Eb.map entK).length : Int))), (11, I (i : Int))]) (fun ⟨A_, c_, i, k, xs⟩ u => Own kChange u w.heap.size A_ c_ xs ∧ i ≤ (Eb.map entK).length ∧ k ≤ Ea.length ∧ Ext No w u ∧ listsE Ea Eb = xs ++ listsE (Ea.drop k) (Eb.drop i)) (fun ⟨A_, c_, i, k, xs⟩ => (Eb.map entK).length - i) (none, 0, 0, 0, []) (cov_of (by kernel_rfl)) ⟨.nil, by omega, by omega, (Ext.refl _ _), by simp⟩ ?_
  rintro ⟨A_, c_, i, k, xs⟩ w1 ⟨hown, hi_, hk_, hE, hq⟩
  have z1 := hE.size
  have hxl := congrArg List.length hq
  rw [List.length_append] at hxl
  refine .seq ?_
  refine .region ?_
  by_cases hc2 : ((i : Int) : Int) < ((Eb.map entK).length : Int)
  · refine xo.val 0 (by kernel_rfl) (c_lss_t hc2) ?_
    refine xo.done 0 [(0, .slice PA ((Ea.map entK).length) capa), (5, .slice A_ xs.length c_), (6, I (k : Int)), (9, .slice PB ((Eb.map entK).length) capb), (10, I (((Eb.map entK).length : Int))), (11, I (i : Int)), (12, B true)] (by kernel_rfl) rfl (by kernel_rfl) ?_
    refine .seq ?_
    refine .condT rfl rfl ?_
    refine .skip ?_
    refine .seq ?_
    refine .block ?_
    refine .seq ?_
    refine .region ?_
    have hs3 := (hRb.ext hE (fun _ _ _ h => h))
    obtain ⟨b4, o5, x6, hi7, hA8, hl9, hh10, hr11⟩ := hs3.at_ i (by omega)
    refine xo.val 0 (by kernel_rfl) (idxN (kk := .i64) (t := 36) (n := (Eb.map entK).length) (cap := capb) (sz := 2) (i := i) (by kernel_rfl) hA8 (by omega)) ?_
    obtain ⟨e12, he13, hxe⟩ : ∃ e, Eb[i]? = some e ∧ entK e = x6 := by
      rw [List.getElem?_map, Option.map_eq_some_iff] at hi7
      exact hi7
    subst hxe
    have hsze12 := heb e12 (List.mem_of_getElem? he13)
    have hlte12 : i < Eb.length := (List.getElem?_eq_some_iff.1 he13).1
    refine xo.val 0 (by kernel_rfl) (ldA (t := 38) (by kernel_rfl) hr11) ?_
    refine xo.alloc 0 38 [S (⟨#[]⟩), S (⟨#[]⟩)] (by kernel_rfl) (by kernel_rfl) ?_
    intro b14 w15 hb16 hx17 hg18
    have z15 := hx17.size
    have l16 := hb16.lt
    refine xo.store 0 38 (o := 0) (.agg #[S e12.1, S e12.2]) [S e12.1, S e12.2] (by kernel_rfl) hb16 (by kernel_rfl) (by kernel_rfl) (by kernel_rfl) (by kernel_rfl) ?_
    intro w19 hb20 hx21
    have z19 := hx21.size
    refine xo.done 0 [(0, .slice PA ((Ea.map entK).length) capa), (5, .slice A_ xs.length c_), (6, I (k : Int)), (8, Pt b14 0), (9, .slice PB ((Eb.map entK).length) capb), (10, I (((Eb.map entK).length : Int))), (11, I (i : Int))] (by kernel_rfl) rfl (by kernel_rfl) ?_
    refine .seq ?_
    refine .block ?_
    have hs22 := ((hown.ext hx17 (fun _ _ h => h)).ext hx21 (fun b hb (e : b = b14) => (hown.ext hx17 (fun _ _ h => h)).ne hb16 rfl (e ▸ hb)))
    have lb8 := hb20.lt
    refine XC.loop (ι := Option Addr × Nat × Nat × List Change) (fun ⟨B_, d_, k2, ys⟩ => [(0, .slice PA ((Ea.map entK).length) capa), (5, .slice B_ ys.length d_), (6, I (k2 : Int)), (8, Pt b14 0), (9, .slice PB ((Eb.map entK).length) capb), (10, I (((Eb.map entK).length : Int))), (11, I (i : Int))]) (fun ⟨B_, d_, k2, ys⟩ u => Own kChange u w.heap.size B_ d_ ys ∧ Blk u b14 38 [S e12.1, S e12.2] ∧ k2 ≤ Ea.length ∧ Ext No w u ∧ listsE Ea Eb = ys ++ listsE (Ea.drop k2) (Eb.drop i)) (fun ⟨B_, d_, k2, ys⟩ => Ea.length - k2) (A_, c_, k, xs) (cov_of (by kernel_rfl)) ⟨hs22, hb20, hk_, (((hE.weak fun b hb h => h.elim).trans' hx17 (fun _ _ h => h) (fun b hb h => h.elim)).trans' hx21 (fun _ _ h => h) (fun b hb (q : b = b14) => absurd hb (by omega))), hq⟩ ?_
    rintro ⟨B_, d_, k2, ys⟩ w23 ⟨hown2, hb8, hk2_, hE2, hq2⟩
    have z23 := hE2.size
    have hyl := congrArg List.length hq2
    rw [List.length_append] at hyl
    have lb8u := hb8.lt
    refine .seq ?_
    refine .seq ?_
    have hs28 := (hRa.ext hE2 (fun _ _ _ h => h))
    refine XC.regionDraw (fun u => Blk u b14 38 [S e12.1, S e12.2] ∧ Rd kEntry u loa hia PA (Ea.map entK) ∧ True) (by kernel_rfl) ?_
    intro w26 hd27
    have hx27 := Ext.ofDrew (M := No) hd27
    have z26 := hx27.size
    have hb29 := (hb8.ext hx27 (fun h => h))
    have hs30 := (hs28.ext hx27 (fun _ _ _ h => h))
    refine ⟨⟨hb29, hs30, trivial⟩, ?_⟩
    refine xd.q (fun _ _ _ _ h => h) 0 (I (k2 : Int)) (by kernel_rfl) (by kernel_rfl) (by kernel_rfl) ?_
    refine xd.q (fun _ _ _ _ h => h) 1 (.slice PA ((Ea.map entK).length) capa) (by kernel_rfl) (by kernel_rfl) (by kernel_rfl) ?_
    refine xd.q (fun _ _ _ _ h => h) 2 (I (((Ea.map entK).length : Int))) (by kernel_rfl) (by kernel_rfl) (by kernel_rfl) ?_
    by_cases hc31 : ((k2 : Int) : Int) < ((Ea.map entK).length : Int)
    · refine xd.rd (fun _ _ _ _ h => h) 3 (by kernel_rfl) (by kernel_rfl) (by kernel_rfl) (fun u hS => (c_lss_t hc31)) ?_
      refine xd.q (fun _ _ _ _ h => h) 4 (B true) (by kernel_rfl) (by kernel_rfl) (by kernel_rfl) ?_
      refine xd.q (fun _ _ _ _ h => h) 5 (.slice PA ((Ea.map entK).length) capa) (by kernel_rfl) (by kernel_rfl) (by kernel_rfl) ?_
      refine xd.q (fun _ _ _ _ h => h) 6 (I (k2 : Int)) (by kernel_rfl) (by kernel_rfl) (by kernel_rfl) ?_
      obtain ⟨b32, o33, x34, hi35, hA36, hl37, hh38, hr39⟩ := hs30.at_ k2 (by omega)
      refine xd.rd (fun _ _ _ _ h => h) 7 (by kernel_rfl) (by kernel_rfl) (by kernel_rfl) (fun u hS => (idxN (kk := .i64) (t := 36) (n := (Ea.map entK).length) (cap := capa) (sz := 2) (i := k2) (by kernel_rfl) hA36 (by omega))) ?_
      obtain ⟨e40, he41, hxe⟩ : ∃ e, Ea[k2]? = some e ∧ entK e = x34 := by
        rw [List.getElem?_map, Option.map_eq_some_iff] at hi35
        exact hi35
      subst hxe
      have hsze40 := hea e40 (List.mem_of_getElem? he41)
      have hlte40 : k2 < Ea.length := (List.getElem?_eq_some_iff.1 he41).1
      refine xd.q (fun _ _ _ _ h => h) 8 (Pt b32 (o33 + k2 * 2)) (by kernel_rfl) (by kernel_rfl) (by kernel_rfl) ?_
      refine xd.rd (fun _ _ _ _ h => h) 9 (by kernel_rfl) (by kernel_rfl) (by kernel_rfl) (fun u hS => (ld (t := 9) (by kernel_rfl) ((Rd.cs hS.2.1 hA36 hi35) 0 _ rfl))) ?_
      refine xd.q (fun _ _ _ _ h => h) 10 (Pt b14 0) (by kernel_rfl) (by kernel_rfl) (by kernel_rfl) ?_
      refine xd.rd (fun _ _ _ _ h => h) 11 (by kernel_rfl) (by kernel_rfl) (by kernel_rfl) (fun u hS => (ldB (t := 9) (o := 0) (by kernel_rfl) hS.1 rfl)) ?_
      refine xd.one 12 (by kernel_rfl) ?_
      by_cases hl42 : Lt e40.1 e12.1
      · refine xo.ret 0 (by kernel_rfl) (cf56 _ _) ((ref_less _ e40.1 e12.1 (by omega) (by omega)).mono (Q' := fun v w' => v = B true ∧ Ext No _ w') fun v w' q => ⟨by rw [q.1, decide_eq_true hl42], q.2⟩) ?_
        rintro _ w43 ⟨rfl, hx44⟩
        have z43 := hx44.size
        refine xo.fin 0 (by kernel_rfl) rfl ?_
        have hb45 := (hb29.ext hx44 (fun h => h))
        have hs46 := (hs30.ext hx44 (fun _ _ _ h => h))
        refine ⟨⟨hb45, hs46, trivial⟩, ?_⟩
        refine xd.q (fun _ _ _ _ h => h) 13 (B true) (by kernel_rfl) (by kernel_rfl) (by kernel_rfl) ?_
        refine xd.done (by kernel_rfl) ?_
        refine .cov [(0, .slice PA ((Ea.map entK).length) capa), (5, .slice B_ ys.length d_), (6, I (k2 : Int)), (8, Pt b14 0), (9, .slice PB ((Eb.map entK).length) capb), (10, I (((Eb.map entK).length : Int))), (11, I (i : Int)), (28, B true)] (cov_of (by kernel_rfl)) ?_
        refine .condT rfl rfl ?_
        refine .skip ?_
        refine .block ?_
        refine .seq ?_
        refine .region ?_
        obtain ⟨b47, o48, x49, hi50, hA51, hl52, hh53, hr54⟩ := hs46.at_ k2 (by omega)
        refine xo.val 3 (by kernel_rfl) (idxN (kk := .i64) (t := 36) (n := (Ea.map entK).length) (cap := capa) (sz := 2) (i := k2) (by kernel_rfl) hA51 (by omega)) ?_
        obtain ⟨e55, he56, hxe⟩ : ∃ e, Ea[k2]? = some e ∧ entK e = x49 := by
          rw [List.getElem?_map, Option.map_eq_some_iff] at hi50
          exact hi50
        subst hxe
        have hee : e40 = e55 := Option.some.inj (he41.symm.trans he56)
        subst hee
        refine xo.val 1 (by kernel_rfl) (ld (t := 9) (by kernel_rfl) (hr54 0 _ rfl)) ?_
        refine xo.bsl 1 22 1 #[(0, .agg #[S e40.1, S (⟨#[]⟩), B true])] (et := 34) (cs := [S e40.1, S (⟨#[]⟩), B true]) (by kernel_rfl) (by kernel_rfl) ?_
        intro b57 w58 hb59 hx60 hg61
        have z58 := hx60.size
        have l59 := hb59.lt
        have hs62 := (((hown2.ext hx27 (fun _ _ h => h)).ext hx44 (fun _ _ h => h)).ext hx60 (fun _ _ h => h))
        refine xo.app 0 (ty := 22) (k := kChange) (t := 22) (tx := 22) (xs := ys) (ys := [(⟨e40.1, ⟨#[]⟩, true⟩ : Change)]) (x := .slice (some ⟨b57, 0, none⟩) 1 1) (by exact pChange) hs62 (src_one (k := kChange) (x := (⟨e40.1, ⟨#[]⟩, true⟩ : Change)) (by kernel_rfl) hb59 rfl) (by omega) (show (ys.length + 1) * 40 ≤ 140737488355328 from (by first | omega | (simp only [List.length_append, List.length_cons, List.length_nil]; omega))) (show ys.length + 1 ≤ 9223372036854775807 from (by first | omega | (simp only [List.length_append, List.length_cons, List.length_nil]; omega))) (by kernel_rfl) ?_
        intro A63 c64 w65 ho66 hx67
        have z65 := hx67.size
        refine xo.done 1 [(0, .slice PA ((Ea.map entK).length) capa), (5, .slice A63 ((ys ++ [(⟨e40.1, ⟨#[]⟩, true⟩ : Change)]).length) c64), (6, I (k2 : Int)), (8, Pt b14 0), (9, .slice PB ((Eb.map entK).length) capb), (10, I (((Eb.map entK).length : Int))), (11, I (i : Int))] (by kernel_rfl) rfl (by kernel_rfl) ?_
        refine .region ?_
        refine xo.val 1 (by kernel_rfl) (a_add (a := (k2 : Int)) (b := 1) (by omega) (by omega)) ?_
        refine xo.fin 1 (by kernel_rfl) rfl ?_
        have hb68 := ((hb45.ext hx60 (fun h => h)).ext hx67 (hs62.ne (hb45.ext hx60 (fun h => h)) rfl))
        refine ⟨(A63, c64, k2 + 1, ys ++ [(⟨e40.1, ⟨#[]⟩, true⟩ : Change)]), cov_of (by kernel_rfl), ⟨ho66, hb68, by omega, (((((hE2.weak fun b hb h => h.elim).trans' hx27 (fun _ _ h => h) (fun b hb h => h.elim)).trans' hx44 (fun _ _ h => h) (fun b hb h => h.elim)).trans' hx60 (fun _ _ h => h) (fun b hb h => h.elim)).trans' hx67 (fun _ _ h => h) (fun b hb hm => absurd (hs62.lt hm).1 (by omega))), ?_⟩, by show Ea.length - (k2 + 1) < Ea.length - k2; omega⟩
        rw [hq2, drop_at he41, drop_at he13, listsE_gone _ _ hl42]; simp [goneE]
      · refine xo.ret 0 (by kernel_rfl) (cf56 _ _) ((ref_less _ e40.1 e12.1 (by omega) (by omega)).mono (Q' := fun v w' => v = B false ∧ Ext No _ w') fun v w' q => ⟨by rw [q.1, decide_eq_false hl42], q.2⟩) ?_
        rintro _ w69 ⟨rfl, hx70⟩
        have z69 := hx70.size
        refine xo.fin 0 (by kernel_rfl) rfl ?_
        have hb71 := (hb29.ext hx70 (fun h => h))
        have hs72 := (hs30.ext hx70 (fun _ _ _ h => h))
        refine ⟨⟨hb71, hs72, trivial⟩, ?_⟩
        refine xd.q (fun _ _ _ _ h => h) 13 (B false) (by kernel_rfl) (by kernel_rfl) (by kernel_rfl) ?_
        refine xd.done (by kernel_rfl) ?_
        refine .cov [(0, .slice PA ((Ea.map entK).length) capa), (5, .slice B_ ys.length d_), (6, I (k2 : Int)), (8, Pt b14 0), (9, .slice PB ((Eb.map entK).length) capb), (10, I (((Eb.map entK).length : Int))), (11, I (i : Int)), (28, B false)] (cov_of (by kernel_rfl)) ?_
        refine .condF rfl rfl ?_
        refine .exit ?_
        refine xsetTo ?_
        refine .seq ?_
        refine .seq ?_
        refine .regionReads (by kernel_rfl) (by kernel_rfl) ?_
        intro w73 hd74
        have hx74 := Ext.ofDrew (M := No) hd74
        have z73 := hx74.size
        refine Go.V.xs.val 3 (by kernel_rfl) (c_lss_t (show ((k2 : Int) : Int) < ((Ea.map entK).length : Int) from (by omega))) ?_
        have hs75 := (hs72.ext hx74 (fun _ _ _ h => h))
        obtain ⟨b76, o77, x78, hi79, hA80, hl81, hh82, hr83⟩ := hs75.at_ k2 (by omega)
        refine Go.V.xs.val 3 (by kernel_rfl) (idxN (kk := .i64) (t := 36) (n := (Ea.map entK).length) (cap := capa) (sz := 2) (i := k2) (by kernel_rfl) hA80 (by omega)) ?_
        obtain ⟨e84, he85, hxe⟩ : ∃ e, Ea[k2]? = some e ∧ entK e = x78 := by
          rw [List.getElem?_map, Option.map_eq_some_iff] at hi79
          exact hi79
        subst hxe
        have hee : e40 = e84 := Option.some.inj (he41.symm.trans he85)
        subst hee
        refine Go.V.xs.val 1 (by kernel_rfl) (ld (t := 9) (by kernel_rfl) (hr83 0 _ rfl)) ?_
        have hb86 := (hb71.ext hx74 (fun h => h))
        refine Go.V.xs.val 1 (by kernel_rfl) (ldB (t := 9) (o := 0) (by kernel_rfl) hb86 rfl) ?_
        by_cases hc87 : e40.1 = e12.1
        · refine Go.V.xs.val 0 (by kernel_rfl) (s_eql_t hc87) ?_
          refine Go.V.xs.fin 1 (by kernel_rfl) rfl ?_
          refine .cov [(0, .slice PA ((Ea.map entK).length) capa), (5, .slice B_ ys.length d_), (6, I (k2 : Int)), (8, Pt b14 0), (9, .slice PB ((Eb.map entK).length) capb), (10, I (((Eb.map entK).length : Int))), (11, I (i : Int)), (53, B true)] (cov_of (by kernel_rfl)) ?_
          refine .condT rfl rfl ?_
          refine .seq ?_
          refine .region ?_
          refine xo.val 1 (by kernel_rfl) (a_add (a := (k2 : Int)) (b := 1) (by omega) (by omega)) ?_
          refine xo.done 1 [(0, .slice PA ((Ea.map entK).length) capa), (5, .slice B_ ys.length d_), (6, I ((k2 : Int) + 1)), (8, Pt b14 0), (9, .slice PB ((Eb.map entK).length) capb), (10, I (((Eb.map entK).length : Int))), (11, I (i : Int))] (by kernel_rfl) rfl (by kernel_rfl) ?_
          refine .seq ?_
          refine .regionReads (by kernel_rfl) (by kernel_rfl) ?_
          intro w88 hd89
          have hx89 := Ext.ofDrew (M := No) hd89
          have z88 := hx89.size
          refine Go.V.xs.val 2 (by kernel_rfl) (a_sub (a := (k2 : Int) + 1) (b := 1) (by omega) (by omega)) ?_
          have hs90 := (hs75.ext hx89 (fun _ _ _ h => h))
          obtain ⟨b91, o92, x93, hi94, hA95, hl96, hh97, hr98⟩ := hs90.at_ ((((k2 : Int) + 1) - 1).toNat) (by omega)
          refine Go.V.xs.val 0 (by kernel_rfl) (idxZ (kk := .i64) (t := 36) (n := (Ea.map entK).length) (cap := capa) (sz := 2) (i := ((k2 : Int) + 1) - 1) (by kernel_rfl) hA95 (by omega) (by omega)) ?_
          rw [show (((k2 : Int) + 1) - 1).toNat = k2 by omega] at hi94
          obtain ⟨e99, he100, hxe⟩ : ∃ e, Ea[k2]? = some e ∧ entK e = x93 := by
            rw [List.getElem?_map, Option.map_eq_some_iff] at hi94
            exact hi94
          subst hxe
          have hee : e40 = e99 := Option.some.inj (he41.symm.trans he100)
          subst hee
          refine Go.V.xs.val 1 (by kernel_rfl) (ld (t := 9) (by kernel_rfl) (hr98 1 _ rfl)) ?_
          have hb101 := (hb86.ext hx89 (fun h => h))
          refine Go.V.xs.val 1 (by kernel_rfl) (ldB (t := 9) (o := 1) (by kernel_rfl) hb101 rfl) ?_
          by_cases hc102 : e40.2 = e12.2
          · refine Go.V.xs.val 0 (by kernel_rfl) (s_eql_t hc102) ?_
            refine Go.V.xs.fin 0 (by kernel_rfl) rfl ?_
            refine .cov [(0, .slice PA ((Ea.map entK).length) capa), (5, .slice B_ ys.length d_), (6, I ((k2 : Int) + 1)), (8, Pt b14 0), (9, .slice PB ((Eb.map entK).length) capb), (10, I (((Eb.map entK).length : Int))), (11, I (i : Int)), (64, B true)] (cov_of (by kernel_rfl)) ?_
            refine .condT rfl rfl ?_
            refine .exit ?_
            refine xsetTo ?_
            refine .region ?_
            refine xo.val 0 (by kernel_rfl) (a_add (a := (i : Int)) (b := 1) (by omega) (by omega)) ?_
            refine xo.fin 1 (by kernel_rfl) rfl ?_
            have hs103 := ((((hown2.ext hx27 (fun _ _ h => h)).ext hx70 (fun _ _ h => h)).ext hx74 (fun _ _ h => h)).ext hx89 (fun _ _ h => h))
            refine ⟨(B_, d_, i + 1, k2 + 1, ys), cov_of (by kernel_rfl), ⟨hs103, by rw [List.length_map]; omega, by omega, (((((hE2.weak fun b hb h => h.elim).trans' hx27 (fun _ _ h => h) (fun b hb h => h.elim)).trans' hx70 (fun _ _ h => h) (fun b hb h => h.elim)).trans' hx74 (fun _ _ h => h) (fun b hb h => h.elim)).trans' hx89 (fun _ _ h => h) (fun b hb h => h.elim)), ?_⟩, by show (Eb.map entK).length - (i + 1) < (Eb.map entK).length - i; rw [List.length_map]; omega⟩
            rw [hq2, drop_at he41, drop_at he13, listsE_same _ _ hc87, if_pos hc102]; simp [comeE]
          · refine Go.V.xs.val 0 (by kernel_rfl) (s_eql_f hc102) ?_
            refine Go.V.xs.fin 0 (by kernel_rfl) rfl ?_
            refine .cov [(0, .slice PA ((Ea.map entK).length) capa), (5, .slice B_ ys.length d_), (6, I ((k2 : Int) + 1)), (8, Pt b14 0), (9, .slice PB ((Eb.map entK).length) capb), (10, I (((Eb.map entK).length : Int))), (11, I (i : Int)), (64, B false)] (cov_of (by kernel_rfl)) ?_
            refine .condF rfl rfl ?_
            refine .skip ?_
            refine .region ?_
            refine xo.val 2 (by kernel_rfl) (ldB (t := 9) (o := 0) (by kernel_rfl) hb101 rfl) ?_
            refine xo.val 1 (by kernel_rfl) (ldB (t := 9) (o := 1) (by kernel_rfl) hb101 rfl) ?_
            refine xo.bsl 1 22 1 #[(0, .agg #[S e12.1, S e12.2, B false])] (et := 34) (cs := [S e12.1, S e12.2, B false]) (by kernel_rfl) (by kernel_rfl) ?_
            intro b104 w105 hb106 hx107 hg108
            have z105 := hx107.size
            have l106 := hb106.lt
            have hs109 := (((((hown2.ext hx27 (fun _ _ h => h)).ext hx70 (fun _ _ h => h)).ext hx74 (fun _ _ h => h)).ext hx89 (fun _ _ h => h)).ext hx107 (fun _ _ h => h))
            refine xo.app 0 (ty := 22) (k := kChange) (t := 22) (tx := 22) (xs := ys) (ys := [(⟨e12.1, e12.2, false⟩ : Change)]) (x := .slice (some ⟨b104, 0, none⟩) 1 1) (by exact pChange) hs109 (src_one (k := kChange) (x := (⟨e12.1, e12.2, false⟩ : Change)) (by kernel_rfl) hb106 rfl) (by omega) (show (ys.length + 1) * 40 ≤ 140737488355328 from (by first | omega | (simp only [List.length_append, List.length_cons, List.length_nil]; omega))) (show ys.length + 1 ≤ 9223372036854775807 from (by first | omega | (simp only [List.length_append, List.length_cons, List.length_nil]; omega))) (by kernel_rfl) ?_
            intro A110 c111 w112 ho113 hx114
            have z112 := hx114.size
            refine xo.done 1 [(0, .slice PA ((Ea.map entK).length) capa), (5, .slice A110 ((ys ++ [(⟨e12.1, e12.2, false⟩ : Change)]).length) c111), (6, I ((k2 : Int) + 1)), (9, .slice PB ((Eb.map entK).length) capb), (10, I (((Eb.map entK).length : Int))), (11, I (i : Int))] (by kernel_rfl) rfl (by kernel_rfl) ?_
            refine .region ?_
            refine xo.val 0 (by kernel_rfl) (a_add (a := (i : Int)) (b := 1) (by omega) (by omega)) ?_
            refine xo.fin 1 (by kernel_rfl) rfl ?_
            refine ⟨(A110, c111, i + 1, k2 + 1, ys ++ [(⟨e12.1, e12.2, false⟩ : Change)]), cov_of (by kernel_rfl), ⟨ho113, by rw [List.length_map]; omega, by omega, (((((((hE2.weak fun b hb h => h.elim).trans' hx27 (fun _ _ h => h) (fun b hb h => h.elim)).trans' hx70 (fun _ _ h => h) (fun b hb h => h.elim)).trans' hx74 (fun _ _ h => h) (fun b hb h => h.elim)).trans' hx89 (fun _ _ h => h) (fun b hb h => h.elim)).trans' hx107 (fun _ _ h => h) (fun b hb h => h.elim)).trans' hx114 (fun _ _ h => h) (fun b hb hm => absurd (hs109.lt hm).1 (by omega))), ?_⟩, by show (Eb.map entK).length - (i + 1) < (Eb.map entK).length - i; rw [List.length_map]; omega⟩
            rw [hq2, drop_at he41, drop_at he13, listsE_same _ _ hc87, if_neg hc102]; simp [comeE]
        · refine Go.V.xs.val 0 (by kernel_rfl) (s_eql_f hc87) ?_
          refine Go.V.xs.fin 1 (by kernel_rfl) rfl ?_
          refine .cov [(0, .slice PA ((Ea.map entK).length) capa), (5, .slice B_ ys.length d_), (6, I (k2 : Int)), (8, Pt b14 0), (9, .slice PB ((Eb.map entK).length) capb), (10, I (((Eb.map entK).length : Int))), (11, I (i : Int)), (53, B false)] (cov_of (by kernel_rfl)) ?_
          refine .condF rfl rfl ?_
          refine .skip ?_
          refine .region ?_
          refine xo.val 2 (by kernel_rfl) (ldB (t := 9) (o := 0) (by kernel_rfl) hb86 rfl) ?_
          refine xo.val 1 (by kernel_rfl) (ldB (t := 9) (o := 1) (by kernel_rfl) hb86 rfl) ?_
          refine xo.bsl 1 22 1 #[(0, .agg #[S e12.1, S e12.2, B false])] (et := 34) (cs := [S e12.1, S e12.2, B false]) (by kernel_rfl) (by kernel_rfl) ?_
          intro b115 w116 hb117 hx118 hg119
          have z116 := hx118.size
          have l117 := hb117.lt
          have hs120 := ((((hown2.ext hx27 (fun _ _ h => h)).ext hx70 (fun _ _ h => h)).ext hx74 (fun _ _ h => h)).ext hx118 (fun _ _ h => h))
          refine xo.app 0 (ty := 22) (k := kChange) (t := 22) (tx := 22) (xs := ys) (ys := [(⟨e12.1, e12.2, false⟩ : Change)]) (x := .slice (some ⟨b115, 0, none⟩) 1 1) (by exact pChange) hs120 (src_one (k := kChange) (x := (⟨e12.1, e12.2, false⟩ : Change)) (by kernel_rfl) hb117 rfl) (by omega) (show (ys.length + 1) * 40 ≤ 140737488355328 from (by first | omega | (simp only [List.length_append, List.length_cons, List.length_nil]; omega))) (show ys.length + 1 ≤ 9223372036854775807 from (by first | omega | (simp only [List.length_append, List.length_cons, List.length_nil]; omega))) (by kernel_rfl) ?_
          intro A121 c122 w123 ho124 hx125
          have z123 := hx125.size
          refine xo.done 1 [(0, .slice PA ((Ea.map entK).length) capa), (5, .slice A121 ((ys ++ [(⟨e12.1, e12.2, false⟩ : Change)]).length) c122), (6, I (k2 : Int)), (9, .slice PB ((Eb.map entK).length) capb), (10, I (((Eb.map entK).length : Int))), (11, I (i : Int))] (by kernel_rfl) rfl (by kernel_rfl) ?_
          refine .region ?_
          refine xo.val 0 (by kernel_rfl) (a_add (a := (i : Int)) (b := 1) (by omega) (by omega)) ?_
          refine xo.fin 1 (by kernel_rfl) rfl ?_
          refine ⟨(A121, c122, i + 1, k2, ys ++ [(⟨e12.1, e12.2, false⟩ : Change)]), cov_of (by kernel_rfl), ⟨ho124, by rw [List.length_map]; omega, by omega, ((((((hE2.weak fun b hb h => h.elim).trans' hx27 (fun _ _ h => h) (fun b hb h => h.elim)).trans' hx70 (fun _ _ h => h) (fun b hb h => h.elim)).trans' hx74 (fun _ _ h => h) (fun b hb h => h.elim)).trans' hx118 (fun _ _ h => h) (fun b hb h => h.elim)).trans' hx125 (fun _ _ h => h) (fun b hb hm => absurd (hs120.lt hm).1 (by omega))), ?_⟩, by show (Eb.map entK).length - (i + 1) < (Eb.map entK).length - i; rw [List.length_map]; omega⟩
          have hlt9 : Lt e12.1 e40.1 := by
            rcases Lt.total hl42 with h9 | h9
            · first | exact h9 | exact absurd h9 hc87 | exact absurd h9.symm hc87
            · first | exact h9 | exact absurd h9 hc87 | exact absurd h9.symm hc87
          rw [hq2, drop_at he41, drop_at he13, listsE_come _ _ hlt9]; simp [comeE]
    · refine xd.rd (fun _ _ _ _ h => h) 3 (by kernel_rfl) (by kernel_rfl) (by kernel_rfl) (fun u hS => (c_lss_f hc31)) ?_
      refine xd.q (fun _ _ _ _ h => h) 4 (B false) (by kernel_rfl) (by kernel_rfl) (by kernel_rfl) ?_
      refine xd.no (fun _ _ _ _ h => h) 5 (by kernel_rfl) (by kernel_rfl) ?_
      refine xd.no (fun _ _ _ _ h => h) 6 (by kernel_rfl) (by kernel_rfl) ?_
      refine xd.no (fun _ _ _ _ h => h) 7 (by kernel_rfl) (by kernel_rfl) ?_
      refine xd.no (fun _ _ _ _ h => h) 8 (by kernel_rfl) (by kernel_rfl) ?_
      refine xd.no (fun _ _ _ _ h => h) 9 (by kernel_rfl) (by kernel_rfl) ?_
      refine xd.no (fun _ _ _ _ h => h) 10 (by kernel_rfl) (by kernel_rfl) ?_
      refine xd.no (fun _ _ _ _ h => h) 11 (by kernel_rfl) (by kernel_rfl) ?_
      refine xd.no (fun _ _ _ _ h => h) 12 (by kernel_rfl) (by kernel_rfl) ?_
      refine xd.q (fun _ _ _ _ h => h) 13 (B false) (by kernel_rfl) (by kernel_rfl) (by kernel_rfl) ?_
      refine xd.done (by kernel_rfl) ?_
      refine .cov [(0, .slice PA ((Ea.map entK).length) capa), (5, .slice B_ ys.length d_), (6, I (k2 : Int)), (8, Pt b14 0), (9, .slice PB ((Eb.map entK).length) capb), (10, I (((Eb.map entK).length : Int))), (11, I (i : Int)), (28, B false)] (cov_of (by kernel_rfl)) ?_
      refine .condF rfl rfl ?_
      refine .exit ?_
      refine xsetTo ?_
      refine .seq ?_
      refine .seq ?_
      refine .regionReads (by kernel_rfl) (by kernel_rfl) ?_
      intro w126 hd127
      have hx127 := Ext.ofDrew (M := No) hd127
      have z126 := hx127.size
      refine Go.V.xs.val 3 (by kernel_rfl) (c_lss_f (show ¬ (((k2 : Int) : Int) < ((Ea.map entK).length : Int)) from (by omega))) ?_
      refine Go.V.xs.fin 10 (by kernel_rfl) rfl ?_
      refine .cov [(0, .slice PA ((Ea.map entK).length) capa), (5, .slice B_ ys.length d_), (6, I (k2 : Int)), (8, Pt b14 0), (9, .slice PB ((Eb.map entK).length) capb), (10, I (((Eb.map entK).length : Int))), (11, I (i : Int)), (53, B false)] (cov_of (by kernel_rfl)) ?_
      refine .condF rfl rfl ?_
      refine .skip ?_
      refine .region ?_
      have hb128 := (hb29.ext hx127 (fun h => h))
      refine xo.val 2 (by kernel_rfl) (ldB (t := 9) (o := 0) (by kernel_rfl) hb128 rfl) ?_
      refine xo.val 1 (by kernel_rfl) (ldB (t := 9) (o := 1) (by kernel_rfl) hb128 rfl) ?_
      refine xo.bsl 1 22 1 #[(0, .agg #[S e12.1, S e12.2, B false])] (et := 34) (cs := [S e12.1, S e12.2, B false]) (by kernel_rfl) (by kernel_rfl) ?_
      intro b129 w130 hb131 hx132 hg133
      have z130 := hx132.size
      have l131 := hb131.lt
      have hs134 := (((hown2.ext hx27 (fun _ _ h => h)).ext hx127 (fun _ _ h => h)).ext hx132 (fun _ _ h => h))
      refine xo.app 0 (ty := 22) (k := kChange) (t := 22) (tx := 22) (xs := ys) (ys := [(⟨e12.1, e12.2, false⟩ : Change)]) (x := .slice (some ⟨b129, 0, none⟩) 1 1) (by exact pChange) hs134 (src_one (k := kChange) (x := (⟨e12.1, e12.2, false⟩ : Change)) (by kernel_rfl) hb131 rfl) (by omega) (show (ys.length + 1) * 40 ≤ 140737488355328 from (by first | omega | (simp only [List.length_append, List.length_cons, List.length_nil]; omega))) (show ys.length + 1 ≤ 9223372036854775807 from (by first | omega | (simp only [List.length_append, List.length_cons, List.length_nil]; omega))) (by kernel_rfl) ?_
      intro A135 c136 w137 ho138 hx139
      have z137 := hx139.size
      refine xo.done 1 [(0, .slice PA ((Ea.map entK).length) capa), (5, .slice A135 ((ys ++ [(⟨e12.1, e12.2, false⟩ : Change)]).length) c136), (6, I (k2 : Int)), (9, .slice PB ((Eb.map entK).length) capb), (10, I (((Eb.map entK).length : Int))), (11, I (i : Int))] (by kernel_rfl) rfl (by kernel_rfl) ?_
      refine .region ?_
      refine xo.val 0 (by kernel_rfl) (a_add (a := (i : Int)) (b := 1) (by omega) (by omega)) ?_
      refine xo.fin 1 (by kernel_rfl) rfl ?_
      refine ⟨(A135, c136, i + 1, k2, ys ++ [(⟨e12.1, e12.2, false⟩ : Change)]), cov_of (by kernel_rfl), ⟨ho138, by rw [List.length_map]; omega, by omega, (((((hE2.weak fun b hb h => h.elim).trans' hx27 (fun _ _ h => h) (fun b hb h => h.elim)).trans' hx127 (fun _ _ h => h) (fun b hb h => h.elim)).trans' hx132 (fun _ _ h => h) (fun b hb h => h.elim)).trans' hx139 (fun _ _ h => h) (fun b hb hm => absurd (hs134.lt hm).1 (by omega))), ?_⟩, by show (Eb.map entK).length - (i + 1) < (Eb.map entK).length - i; rw [List.length_map]; omega⟩
      rw [hq2, List.drop_eq_nil_of_le (show Ea.length ≤ k2 by omega), drop_at he13, listsE_nil, listsE_nil]; simp [comeE]
  · refine xo.val 0 (by kernel_rfl) (c_lss_f hc2) ?_
    refine xo.done 0 [(0, .slice PA ((Ea.map entK).length) capa), (5, .slice A_ xs.length c_), (6, I (k : Int)), (9, .slice PB ((Eb.map entK).length) capb), (10, I (((Eb.map entK).length : Int))), (11, I (i : Int)), (12, B false)] (by kernel_rfl) rfl (by kernel_rfl) ?_
    refine .seq ?_
    refine .condF rfl rfl ?_
    refine .exit ?_
    refine xsetTo ?_
    refine .seq ?_
    refine .block ?_
    refine XC.loop (ι := Option Addr × Nat × Nat × List Change) (fun ⟨B_, d_, k2, ys⟩ => [(0, .slice PA ((Ea.map entK).length) capa), (5, .slice B_ ys.length d_), (6, I (k2 : Int))]) (fun ⟨B_, d_, k2, ys⟩ u => Own kChange u w.heap.size B_ d_ ys ∧ k2 ≤ Ea.length ∧ Ext No w u ∧ listsE Ea Eb = ys ++ listsE (Ea.drop k2) []) (fun ⟨B_, d_, k2, ys⟩ => Ea.length - k2) (A_, c_, k, xs) (cov_of (by kernel_rfl)) ⟨hown, hk_, (hE.weak fun b hb h => h.elim), by rw [hq, List.drop_eq_nil_of_le (show Eb.length ≤ i by omega)]⟩ ?_
    rintro ⟨B_, d_, k2, ys⟩ w140 ⟨hown2, hk2_, hE2, hq2⟩
    have z140 := hE2.size
    have hyl := congrArg List.length hq2
    rw [List.length_append] at hyl
    refine .seq ?_
    refine .seq ?_
    refine .region ?_
    by_cases hc141 : ((k2 : Int) : Int) < ((Ea.map entK).length : Int)
    · refine xo.val 3 (by kernel_rfl) (c_lss_t hc141) ?_
      refine xo.done 0 [(0, .slice PA ((Ea.map entK).length) capa), (5, .slice B_ ys.length d_), (6, I (k2 : Int)), (77, B true)] (by kernel_rfl) rfl (by kernel_rfl) ?_
      refine .condT rfl rfl ?_
      refine .skip ?_
      refine .block ?_
      refine .seq ?_
      refine .region ?_
      have hs142 := (hRa.ext hE2 (fun _ _ _ h => h))
      obtain ⟨b143, o144, x145, hi146, hA147, hl148, hh149, hr150⟩ := hs142.at_ k2 (by omega)
      refine xo.val 3 (by kernel_rfl) (idxN (kk := .i64) (t := 36) (n := (Ea.map entK).length) (cap := capa) (sz := 2) (i := k2) (by kernel_rfl) hA147 (by omega)) ?_
      obtain ⟨e151, he152, hxe⟩ : ∃ e, Ea[k2]? = some e ∧ entK e = x145 := by
        rw [List.getElem?_map, Option.map_eq_some_iff] at hi146
        exact hi146
      subst hxe
      have hsze151 := hea e151 (List.mem_of_getElem? he152)
      have hlte151 : k2 < Ea.length := (List.getElem?_eq_some_iff.1 he152).1
      refine xo.val 1 (by kernel_rfl) (ld (t := 9) (by kernel_rfl) (hr150 0 _ rfl)) ?_
      refine xo.bsl 1 22 1 #[(0, .agg #[S e151.1, S (⟨#[]⟩), B true])] (et := 34) (cs := [S e151.1, S (⟨#[]⟩), B true]) (by kernel_rfl) (by kernel_rfl) ?_
      intro b153 w154 hb155 hx156 hg157
      have z154 := hx156.size
      have l155 := hb155.lt
      have hs158 := (hown2.ext hx156 (fun _ _ h => h))
      refine xo.app 0 (ty := 22) (k := kChange) (t := 22) (tx := 22) (xs := ys) (ys := [(⟨e151.1, ⟨#[]⟩, true⟩ : Change)]) (x := .slice (some ⟨b153, 0, none⟩) 1 1) (by exact pChange) hs158 (src_one (k := kChange) (x := (⟨e151.1, ⟨#[]⟩, true⟩ : Change)) (by kernel_rfl) hb155 rfl) (by omega) (show (ys.length + 1) * 40 ≤ 140737488355328 from (by first | omega | (simp only [List.length_append, List.length_cons, List.length_nil]; omega))) (show ys.length + 1 ≤ 9223372036854775807 from (by first | omega | (simp only [List.length_append, List.length_cons, List.length_nil]; omega))) (by kernel_rfl) ?_
      intro A159 c160 w161 ho162 hx163
      have z161 := hx163.size
      refine xo.done 1 [(0, .slice PA ((Ea.map entK).length) capa), (5, .slice A159 ((ys ++ [(⟨e151.1, ⟨#[]⟩, true⟩ : Change)]).length) c160), (6, I (k2 : Int))] (by kernel_rfl) rfl (by kernel_rfl) ?_
      refine .region ?_
      refine xo.val 1 (by kernel_rfl) (a_add (a := (k2 : Int)) (b := 1) (by omega) (by omega)) ?_
      refine xo.fin 1 (by kernel_rfl) rfl ?_
      refine ⟨(A159, c160, k2 + 1, ys ++ [(⟨e151.1, ⟨#[]⟩, true⟩ : Change)]), cov_of (by kernel_rfl), ⟨ho162, by omega, (((hE2.weak fun b hb h => h.elim).trans' hx156 (fun _ _ h => h) (fun b hb h => h.elim)).trans' hx163 (fun _ _ h => h) (fun b hb hm => absurd (hs158.lt hm).1 (by omega))), ?_⟩, by show Ea.length - (k2 + 1) < Ea.length - k2; omega⟩
      rw [hq2, drop_at he152, listsE_gone_nil]; simp [goneE]
    · refine xo.val 3 (by kernel_rfl) (c_lss_f hc141) ?_
      refine xo.done 0 [(0, .slice PA ((Ea.map entK).length) capa), (5, .slice B_ ys.length d_), (6, I (k2 : Int)), (77, B false)] (by kernel_rfl) rfl (by kernel_rfl) ?_
      refine .condF rfl rfl ?_
      refine .exit ?_
      refine xsetTo ?_
      refine .seq ?_
      refine .region ?_
      refine xo.done 2 [(4, .slice B_ ys.length d_)] (by kernel_rfl) rfl (by kernel_rfl) ?_
      refine .ret ?_
      refine ⟨[.slice B_ ys.length d_], by kernel_rfl, _, rfl, ?_⟩
      rw [List.drop_eq_nil_of_le (show Ea.length ≤ k2 by omega), listsE_nil, List.map_nil, List.append_nil] at hq2
      rw [hq2]
      exact ⟨_, _, rfl, hown2, (hE2.weak fun b hb h => h.elim)⟩

end Go.Proofs.YtbajgpadmlnffaaGreat
/- Are changes sorted: the walk. -/
namespace Go.Proofs.YtbajgpadmlnffaaGreat
open Go.V
set_option maxRecDepth 100000
set_option linter.unusedVariables false
set_option linter.unusedSimpArgs false

/-- A change that may lie in bytes. -/
def okC (c : Change) : Prop := c.key ≠ ⟨#[]⟩ ∧ c.key.size ≤ 64 ∧ c.val.size ≤ 300 ∧ (c.gone = true → c.val = ⟨#[]⟩)
def okAt (l : List Change) (i : Nat) : Prop := ∀ c, l[i]? = some c → okC c ∧ (0 < i → ∀ d, l[i - 1]? = some d → Lt d.key c.key)
def SortedC (l : List Change) : Prop := ∀ i, okAt l i
theorem sortedC_of {l : List Change} {i : Nat} (h : ∀ j, j < i → okAt l j) (hi : l.length ≤ i) : SortedC l := fun j => by
  by_cases hj : j < i
  · exact h j hj
  · intro c hc
    have := (List.getElem?_eq_some_iff.1 hc).1
    omega
theorem okAt_mk {l : List Change} {i : Nat} {c : Change} (hc : l[i]? = some c) (h : okC c) (h2 : 0 < i → ∀ d, l[i - 1]? = some d → Lt d.key c.key) : okAt l i := fun d hd => by
  have e : c = d := Option.some.inj (hc.symm.trans hd)
  subst e
  exact ⟨h, h2⟩
theorem not_sortedC {l : List Change} {i : Nat} {c : Change} (hc : l[i]? = some c) (h : ¬ okC c) : ¬ SortedC l := fun hs => h (hs i c hc).1
theorem not_sortedC2 {l : List Change} {i : Nat} {c d : Change} (hc : l[i]? = some c) (hi : 0 < i) (hd : l[i - 1]? = some d) (h : ¬ Lt d.key c.key) : ¬ SortedC l := fun hs => h ((hs i c hc).2 hi d hd)

theorem diff_Sorted (w : World) (A : Option Addr) (cap : Nat) (l : List Change) (lo hi : Nat) (hR : Rd kChange w lo hi A l) (hhi_ : hi ≤ w.heap.size) (hlen : l.length ≤ 10000) :
    Ret Tryz.prog 21 [.slice A l.length cap] w fun v w' => ∃ b, v = B b ∧ (b = true ↔ SortedC l) ∧ Ext No w w' := by
  refine calls_of_XC Tryz.func21 rfl rfl ?_
  refine .seq ?_
  refine .region ?_
  refine xo.done 1 [(0, .slice A l.length cap)] (by kernel_rfl) rfl (by kernel_rfl) ?_
  refine .seq ?_
  refine .seq ?_
  refine .region ?_
  refine xo.done 3 [(0, .slice A l.length cap), (5, .slice A l.length cap), (6, I (l.length : Int)), (7, I 0)] (by kernel_rfl) rfl (by kernel_rfl) ?_
  refine .block ?_
  refine XC.loop (ι := Nat) (fun i => [(0, .slice A l.length cap), (5, .slice A l.length cap), (6, I (l.length : Int)), (7, I (i : Int))]) (fun i u => i ≤ l.length ∧ (∀ j, j < i → okAt l j) ∧ Ext No w u) (fun i => l.length - i) 0 (cov_of (by kernel_rfl)) ⟨by omega, fun j hj => absurd hj (by omega), (Ext.refl _ _)⟩ ?_
  rintro i w1 ⟨hi_, hsm, hE⟩
  have z1 := hE.size
  refine .seq ?_
  refine .region ?_
  by_cases hc2 : ((i : Int) : Int) < (l.length : Int)
  · refine xo.val 0 (by kernel_rfl) (c_lss_t hc2) ?_
    refine xo.done 0 [(0, .slice A l.length cap), (5, .slice A l.length cap), (6, I (l.length : Int)), (7, I (i : Int)), (8, B true)] (by kernel_rfl) rfl (by kernel_rfl) ?_
    refine .seq ?_
    refine .condT rfl rfl ?_
    refine .skip ?_
    refine .seq ?_
    refine .block ?_
    refine .seq ?_
    refine .region ?_
    have hs3 := (hR.ext hE (fun _ _ _ h => h))
    obtain ⟨b4, o5, x6, hi7, hA8, hl9, hh10, hr11⟩ := hs3.at_ i (by omega)
    refine xo.val 1 (by kernel_rfl) (idxN (kk := .i64) (t := 22) (n := l.length) (cap := cap) (sz := 3) (i := i) (by kernel_rfl) hA8 (by omega)) ?_
    refine xo.val 0 (by kernel_rfl) (ldA (t := 34) (by kernel_rfl) hr11) ?_
    refine xo.alloc 0 34 [S (⟨#[]⟩), S (⟨#[]⟩), B false] (by kernel_rfl) (by kernel_rfl) ?_
    intro b12 w13 hb14 hx15 hg16
    have z13 := hx15.size
    have l14 := hb14.lt
    refine xo.store 1 34 (o := 0) (.agg #[S x6.key, S x6.val, B x6.gone]) [S x6.key, S x6.val, B x6.gone] (by kernel_rfl) hb14 (by kernel_rfl) (by kernel_rfl) (by kernel_rfl) (by kernel_rfl) ?_
    intro w17 hb18 hx19
    have z17 := hx19.size
    refine xo.done 0 [(0, .slice A l.length cap), (3, I (i : Int)), (4, Pt b12 0), (5, .slice A l.length cap), (6, I (l.length : Int)), (7, I (i : Int))] (by kernel_rfl) rfl (by kernel_rfl) ?_
    refine .seq ?_
    refine .regionReads (by kernel_rfl) (by kernel_rfl) ?_
    intro w20 hd21
    have hx21 := Ext.ofDrew (M := No) hd21
    have z20 := hx21.size
    have hb22 := (hb18.ext hx21 (fun h => h))
    refine Go.V.xs.val 1 (by kernel_rfl) (ldB (t := 9) (o := 0) (by kernel_rfl) hb22 rfl) ?_
    by_cases hc23 : x6.key = (⟨#[]⟩)
    · refine Go.V.xs.val 0 (by kernel_rfl) (s_eql_t hc23) ?_
      refine Go.V.xs.fin 36 (by kernel_rfl) rfl ?_
      refine .cov [(0, .slice A l.length cap), (5, .slice A l.length cap), (6, I (l.length : Int)), (7, I (i : Int)), (50, B true)] (cov_of (by kernel_rfl)) ?_
      refine .condT rfl rfl ?_
      refine .seq ?_
      refine .region ?_
      refine xo.done 1 [(2, B false)] (by kernel_rfl) rfl (by kernel_rfl) ?_
      refine .ret ?_
      refine ⟨[B false], by kernel_rfl, _, rfl, ?_⟩
      have hno := not_sortedC hi7 (fun q => q.1 hc23)
      exact ⟨false, rfl, ⟨fun h9 => (by cases h9), fun h9 => absurd h9 hno⟩, ((((hE.weak fun b hb h => h.elim).trans' hx15 (fun _ _ h => h) (fun b hb h => h.elim)).trans' hx19 (fun _ _ h => h) (fun b hb (q : b = b12) => absurd hb (by omega))).trans' hx21 (fun _ _ h => h) (fun b hb h => h.elim))⟩
    · refine Go.V.xs.val 0 (by kernel_rfl) (s_eql_f hc23) ?_
      refine Go.V.xs.val 2 (by kernel_rfl) (ldB (t := 9) (o := 0) (by kernel_rfl) hb22 rfl) ?_
      by_cases hc24 : ((x6.key.size : Int) : Int) ≤ 64
      · refine Go.V.xs.val 1 (by kernel_rfl) (c_gtr_t hc24) ?_
        refine Go.V.xs.val 3 (by kernel_rfl) (ldB (t := 9) (o := 1) (by kernel_rfl) hb22 rfl) ?_
        by_cases hc25 : ((x6.val.size : Int) : Int) ≤ 300
        · refine Go.V.xs.val 1 (by kernel_rfl) (c_gtr_t hc25) ?_
          obtain hg26 | hg26 : x6.gone = false ∨ x6.gone = true := by cases x6.gone <;> simp
          · refine Go.V.xs.val 3 (by kernel_rfl) (ldB (t := 4) (o := 2) (v := B false) (by kernel_rfl) hb22 (by rw [← hg26]; rfl)) ?_
            by_cases hc27 : ((i : Int) : Int) ≤ 0
            · refine Go.V.xs.val 8 (by kernel_rfl) (c_gtr_t hc27) ?_
              refine Go.V.xs.fin 12 (by kernel_rfl) rfl ?_
              refine .cov [(0, .slice A l.length cap), (5, .slice A l.length cap), (6, I (l.length : Int)), (7, I (i : Int)), (50, B false)] (cov_of (by kernel_rfl)) ?_
              refine .condF rfl rfl ?_
              refine .skip ?_
              refine .region ?_
              refine xo.val 0 (by kernel_rfl) (a_add (a := (i : Int)) (b := 1) (by omega) (by omega)) ?_
              refine xo.fin 1 (by kernel_rfl) rfl ?_
              have hok := okAt_mk hi7 ⟨hc23, by omega, by omega, (fun h9 => absurd h9 (by rw [hg26]; decide))⟩ (fun h9 => by omega)
              exact ⟨i + 1, cov_of (by kernel_rfl), ⟨by omega, fun j hj => if h9 : j < i then hsm j h9 else (by rw [show j = i by omega]; exact hok), ((((hE.weak fun b hb h => h.elim).trans' hx15 (fun _ _ h => h) (fun b hb h => h.elim)).trans' hx19 (fun _ _ h => h) (fun b hb (q : b = b12) => absurd hb (by omega))).trans' hx21 (fun _ _ h => h) (fun b hb h => h.elim))⟩, by show l.length - (i + 1) < l.length - i; omega⟩
            · refine Go.V.xs.val 8 (by kernel_rfl) (c_gtr_f hc27) ?_
              refine Go.V.xs.val 2 (by kernel_rfl) (ldB (t := 9) (o := 0) (by kernel_rfl) hb22 rfl) ?_
              refine Go.V.xs.val 2 (by kernel_rfl) (a_sub (a := (i : Int)) (b := 1) (by omega) (by omega)) ?_
              have hs28 := (((hs3.ext hx15 (fun _ _ _ h => h)).ext hx19 (fun b h1 h2 (e : b = b12) => by omega)).ext hx21 (fun _ _ _ h => h))
              obtain ⟨b29, o30, x31, hi32, hA33, hl34, hh35, hr36⟩ := hs28.at_ (((i : Int) - 1).toNat) (by omega)
              refine Go.V.xs.val 0 (by kernel_rfl) (idxZ (kk := .i64) (t := 22) (n := l.length) (cap := cap) (sz := 3) (i := (i : Int) - 1) (by kernel_rfl) hA33 (by omega) (by omega)) ?_
              rw [show ((i : Int) - 1).toNat = i - 1 by omega] at hi32
              refine Go.V.xs.val 1 (by kernel_rfl) (ld (t := 9) (by kernel_rfl) (hr36 0 _ rfl)) ?_
              by_cases hc37 : Lt x31.key x6.key
              · refine Go.V.xs.val 0 (by kernel_rfl) (s_leq_t hc37) ?_
                refine Go.V.xs.fin 2 (by kernel_rfl) rfl ?_
                refine .cov [(0, .slice A l.length cap), (5, .slice A l.length cap), (6, I (l.length : Int)), (7, I (i : Int)), (50, B false)] (cov_of (by kernel_rfl)) ?_
                refine .condF rfl rfl ?_
                refine .skip ?_
                refine .region ?_
                refine xo.val 0 (by kernel_rfl) (a_add (a := (i : Int)) (b := 1) (by omega) (by omega)) ?_
                refine xo.fin 1 (by kernel_rfl) rfl ?_
                have hok := okAt_mk hi7 ⟨hc23, by omega, by omega, (fun h9 => absurd h9 (by rw [hg26]; decide))⟩ (fun _ d hd => by have e9 := Option.some.inj (hd.symm.trans hi32); subst e9; exact hc37)
                exact ⟨i + 1, cov_of (by kernel_rfl), ⟨by omega, fun j hj => if h9 : j < i then hsm j h9 else (by rw [show j = i by omega]; exact hok), ((((hE.weak fun b hb h => h.elim).trans' hx15 (fun _ _ h => h) (fun b hb h => h.elim)).trans' hx19 (fun _ _ h => h) (fun b hb (q : b = b12) => absurd hb (by omega))).trans' hx21 (fun _ _ h => h) (fun b hb h => h.elim))⟩, by show l.length - (i + 1) < l.length - i; omega⟩
              · refine Go.V.xs.val 0 (by kernel_rfl) (s_leq_f hc37) ?_
                refine Go.V.xs.fin 2 (by kernel_rfl) rfl ?_
                refine .cov [(0, .slice A l.length cap), (5, .slice A l.length cap), (6, I (l.length : Int)), (7, I (i : Int)), (50, B true)] (cov_of (by kernel_rfl)) ?_
                refine .condT rfl rfl ?_
                refine .seq ?_
                refine .region ?_
                refine xo.done 1 [(2, B false)] (by kernel_rfl) rfl (by kernel_rfl) ?_
                refine .ret ?_
                refine ⟨[B false], by kernel_rfl, _, rfl, ?_⟩
                have hno := not_sortedC2 hi7 (by omega) hi32 hc37
                exact ⟨false, rfl, ⟨fun h9 => (by cases h9), fun h9 => absurd h9 hno⟩, ((((hE.weak fun b hb h => h.elim).trans' hx15 (fun _ _ h => h) (fun b hb h => h.elim)).trans' hx19 (fun _ _ h => h) (fun b hb (q : b = b12) => absurd hb (by omega))).trans' hx21 (fun _ _ h => h) (fun b hb h => h.elim))⟩
          · refine Go.V.xs.val 3 (by kernel_rfl) (ldB (t := 4) (o := 2) (v := B true) (by kernel_rfl) hb22 (by rw [← hg26]; rfl)) ?_
            refine Go.V.xs.val 2 (by kernel_rfl) (ldB (t := 9) (o := 1) (by kernel_rfl) hb22 rfl) ?_
            by_cases hc38 : x6.val = (⟨#[]⟩)
            · refine Go.V.xs.val 0 (by kernel_rfl) (s_neq_t hc38) ?_
              by_cases hc39 : ((i : Int) : Int) ≤ 0
              · refine Go.V.xs.val 4 (by kernel_rfl) (c_gtr_t hc39) ?_
                refine Go.V.xs.fin 12 (by kernel_rfl) rfl ?_
                refine .cov [(0, .slice A l.length cap), (5, .slice A l.length cap), (6, I (l.length : Int)), (7, I (i : Int)), (50, B false)] (cov_of (by kernel_rfl)) ?_
                refine .condF rfl rfl ?_
                refine .skip ?_
                refine .region ?_
                refine xo.val 0 (by kernel_rfl) (a_add (a := (i : Int)) (b := 1) (by omega) (by omega)) ?_
                refine xo.fin 1 (by kernel_rfl) rfl ?_
                have hok := okAt_mk hi7 ⟨hc23, by omega, by omega, (fun _ => hc38)⟩ (fun h9 => by omega)
                exact ⟨i + 1, cov_of (by kernel_rfl), ⟨by omega, fun j hj => if h9 : j < i then hsm j h9 else (by rw [show j = i by omega]; exact hok), ((((hE.weak fun b hb h => h.elim).trans' hx15 (fun _ _ h => h) (fun b hb h => h.elim)).trans' hx19 (fun _ _ h => h) (fun b hb (q : b = b12) => absurd hb (by omega))).trans' hx21 (fun _ _ h => h) (fun b hb h => h.elim))⟩, by show l.length - (i + 1) < l.length - i; omega⟩
              · refine Go.V.xs.val 4 (by kernel_rfl) (c_gtr_f hc39) ?_
                refine Go.V.xs.val 2 (by kernel_rfl) (ldB (t := 9) (o := 0) (by kernel_rfl) hb22 rfl) ?_
                refine Go.V.xs.val 2 (by kernel_rfl) (a_sub (a := (i : Int)) (b := 1) (by omega) (by omega)) ?_
                have hs40 := (((hs3.ext hx15 (fun _ _ _ h => h)).ext hx19 (fun b h1 h2 (e : b = b12) => by omega)).ext hx21 (fun _ _ _ h => h))
                obtain ⟨b41, o42, x43, hi44, hA45, hl46, hh47, hr48⟩ := hs40.at_ (((i : Int) - 1).toNat) (by omega)
                refine Go.V.xs.val 0 (by kernel_rfl) (idxZ (kk := .i64) (t := 22) (n := l.length) (cap := cap) (sz := 3) (i := (i : Int) - 1) (by kernel_rfl) hA45 (by omega) (by omega)) ?_
                rw [show ((i : Int) - 1).toNat = i - 1 by omega] at hi44
                refine Go.V.xs.val 1 (by kernel_rfl) (ld (t := 9) (by kernel_rfl) (hr48 0 _ rfl)) ?_
                by_cases hc49 : Lt x43.key x6.key
                · refine Go.V.xs.val 0 (by kernel_rfl) (s_leq_t hc49) ?_
                  refine Go.V.xs.fin 2 (by kernel_rfl) rfl ?_
                  refine .cov [(0, .slice A l.length cap), (5, .slice A l.length cap), (6, I (l.length : Int)), (7, I (i : Int)), (50, B false)] (cov_of (by kernel_rfl)) ?_
                  refine .condF rfl rfl ?_
                  refine .skip ?_
                  refine .region ?_
                  refine xo.val 0 (by kernel_rfl) (a_add (a := (i : Int)) (b := 1) (by omega) (by omega)) ?_
                  refine xo.fin 1 (by kernel_rfl) rfl ?_
                  have hok := okAt_mk hi7 ⟨hc23, by omega, by omega, (fun _ => hc38)⟩ (fun _ d hd => by have e9 := Option.some.inj (hd.symm.trans hi44); subst e9; exact hc49)
                  exact ⟨i + 1, cov_of (by kernel_rfl), ⟨by omega, fun j hj => if h9 : j < i then hsm j h9 else (by rw [show j = i by omega]; exact hok), ((((hE.weak fun b hb h => h.elim).trans' hx15 (fun _ _ h => h) (fun b hb h => h.elim)).trans' hx19 (fun _ _ h => h) (fun b hb (q : b = b12) => absurd hb (by omega))).trans' hx21 (fun _ _ h => h) (fun b hb h => h.elim))⟩, by show l.length - (i + 1) < l.length - i; omega⟩
                · refine Go.V.xs.val 0 (by kernel_rfl) (s_leq_f hc49) ?_
                  refine Go.V.xs.fin 2 (by kernel_rfl) rfl ?_
                  refine .cov [(0, .slice A l.length cap), (5, .slice A l.length cap), (6, I (l.length : Int)), (7, I (i : Int)), (50, B true)] (cov_of (by kernel_rfl)) ?_
                  refine .condT rfl rfl ?_
                  refine .seq ?_
                  refine .region ?_
                  refine xo.done 1 [(2, B false)] (by kernel_rfl) rfl (by kernel_rfl) ?_
                  refine .ret ?_
                  refine ⟨[B false], by kernel_rfl, _, rfl, ?_⟩
                  have hno := not_sortedC2 hi7 (by omega) hi44 hc49
                  exact ⟨false, rfl, ⟨fun h9 => (by cases h9), fun h9 => absurd h9 hno⟩, ((((hE.weak fun b hb h => h.elim).trans' hx15 (fun _ _ h => h) (fun b hb h => h.elim)).trans' hx19 (fun _ _ h => h) (fun b hb (q : b = b12) => absurd hb (by omega))).trans' hx21 (fun _ _ h => h) (fun b hb h => h.elim))⟩
            · refine Go.V.xs.val 0 (by kernel_rfl) (s_neq_f hc38) ?_
              refine Go.V.xs.fin 17 (by kernel_rfl) rfl ?_
              refine .cov [(0, .slice A l.length cap), (5, .slice A l.length cap), (6, I (l.length : Int)), (7, I (i : Int)), (50, B true)] (cov_of (by kernel_rfl)) ?_
              refine .condT rfl rfl ?_
              refine .seq ?_
              refine .region ?_
              refine xo.done 1 [(2, B false)] (by kernel_rfl) rfl (by kernel_rfl) ?_
              refine .ret ?_
              refine ⟨[B false], by kernel_rfl, _, rfl, ?_⟩
              have hno := not_sortedC hi7 (fun q => hc38 (q.2.2.2 hg26))
              exact ⟨false, rfl, ⟨fun h9 => (by cases h9), fun h9 => absurd h9 hno⟩, ((((hE.weak fun b hb h => h.elim).trans' hx15 (fun _ _ h => h) (fun b hb h => h.elim)).trans' hx19 (fun _ _ h => h) (fun b hb (q : b = b12) => absurd hb (by omega))).trans' hx21 (fun _ _ h => h) (fun b hb h => h.elim))⟩
        · refine Go.V.xs.val 1 (by kernel_rfl) (c_gtr_f hc25) ?_
          refine Go.V.xs.fin 25 (by kernel_rfl) rfl ?_
          refine .cov [(0, .slice A l.length cap), (5, .slice A l.length cap), (6, I (l.length : Int)), (7, I (i : Int)), (50, B true)] (cov_of (by kernel_rfl)) ?_
          refine .condT rfl rfl ?_
          refine .seq ?_
          refine .region ?_
          refine xo.done 1 [(2, B false)] (by kernel_rfl) rfl (by kernel_rfl) ?_
          refine .ret ?_
          refine ⟨[B false], by kernel_rfl, _, rfl, ?_⟩
          have hno := not_sortedC hi7 (fun q => by have := q.2.2.1; omega)
          exact ⟨false, rfl, ⟨fun h9 => (by cases h9), fun h9 => absurd h9 hno⟩, ((((hE.weak fun b hb h => h.elim).trans' hx15 (fun _ _ h => h) (fun b hb h => h.elim)).trans' hx19 (fun _ _ h => h) (fun b hb (q : b = b12) => absurd hb (by omega))).trans' hx21 (fun _ _ h => h) (fun b hb h => h.elim))⟩
      · refine Go.V.xs.val 1 (by kernel_rfl) (c_gtr_f hc24) ?_
        refine Go.V.xs.fin 31 (by kernel_rfl) rfl ?_
        refine .cov [(0, .slice A l.length cap), (5, .slice A l.length cap), (6, I (l.length : Int)), (7, I (i : Int)), (50, B true)] (cov_of (by kernel_rfl)) ?_
        refine .condT rfl rfl ?_
        refine .seq ?_
        refine .region ?_
        refine xo.done 1 [(2, B false)] (by kernel_rfl) rfl (by kernel_rfl) ?_
        refine .ret ?_
        refine ⟨[B false], by kernel_rfl, _, rfl, ?_⟩
        have hno := not_sortedC hi7 (fun q => by have := q.2.1; omega)
        exact ⟨false, rfl, ⟨fun h9 => (by cases h9), fun h9 => absurd h9 hno⟩, ((((hE.weak fun b hb h => h.elim).trans' hx15 (fun _ _ h => h) (fun b hb h => h.elim)).trans' hx19 (fun _ _ h => h) (fun b hb (q : b = b12) => absurd hb (by omega))).trans' hx21 (fun _ _ h => h) (fun b hb h => h.elim))⟩
  · refine xo.val 0 (by kernel_rfl) (c_lss_f hc2) ?_
    refine xo.done 0 [(0, .slice A l.length cap), (5, .slice A l.length cap), (6, I (l.length : Int)), (7, I (i : Int)), (8, B false)] (by kernel_rfl) rfl (by kernel_rfl) ?_
    refine .seq ?_
    refine .condF rfl rfl ?_
    refine .exit ?_
    refine xsetTo ?_
    refine .seq ?_
    refine .region ?_
    refine xo.done 1 [(2, B true)] (by kernel_rfl) rfl (by kernel_rfl) ?_
    refine .ret ?_
    refine ⟨[B true], by kernel_rfl, _, rfl, ?_⟩
    exact ⟨true, rfl, ⟨fun _ => sortedC_of hsm (by omega), fun _ => rfl⟩, (hE.weak fun b hb h => h.elim)⟩

end Go.Proofs.YtbajgpadmlnffaaGreat
/- What leads from one row to another one is sorted (plain). -/
namespace Go.Proofs.YtbajgpadmlnffaaGreat
open Go.V
set_option linter.unusedVariables false

theorem lists_all_aux {p : Change → Prop} : ∀ (m : Nat) (a b : List KV), a.length + b.length ≤ m → (∀ e ∈ a, p (goneE e)) → (∀ e ∈ b, p (comeE e)) → ∀ c ∈ listsE a b, p c := by
  intro m
  induction m with
  | zero =>
    intro a b hn _ _
    have ha : a = [] := List.eq_nil_of_length_eq_zero (by omega)
    have hb : b = [] := List.eq_nil_of_length_eq_zero (by omega)
    subst ha; subst hb
    rw [listsE_nil]; simp
  | succ m ih =>
    intro a b hn ha hb c hc
    cases a with
    | nil =>
      rw [listsE_nil] at hc
      obtain ⟨y, hy, rfl⟩ := List.mem_map.1 hc
      exact hb y hy
    | cons x a =>
      have hx := ha x (by simp)
      have ha' : ∀ e ∈ a, p (goneE e) := fun e he => ha e (by simp [he])
      cases b with
      | nil =>
        rw [listsE_gone_nil] at hc
        rcases List.mem_cons.1 hc with rfl | hc
        · exact hx
        · exact ih a [] (by simp only [List.length_cons] at *; omega) ha' hb c hc
      | cons y b =>
        have hy := hb y (by simp)
        have hb' : ∀ e ∈ b, p (comeE e) := fun e he => hb e (by simp [he])
        simp only [List.length_cons] at hn
        by_cases h1 : Lt x.1 y.1
        · rw [listsE_gone _ _ h1] at hc
          rcases List.mem_cons.1 hc with rfl | hc
          · exact hx
          · exact ih a (y :: b) (by simp only [List.length_cons]; omega) ha' hb c hc
        · by_cases h2 : Lt y.1 x.1
          · rw [listsE_come _ _ h2] at hc
            rcases List.mem_cons.1 hc with rfl | hc
            · exact hy
            · exact ih (x :: a) b (by simp only [List.length_cons]; omega) ha hb' c hc
          · have he : x.1 = y.1 := (Lt.total h1).resolve_left h2
            rw [listsE_same _ _ he] at hc
            rcases List.mem_append.1 hc with hc | hc
            · split at hc
              · simp at hc
              · rw [List.mem_singleton.1 hc]; exact hy
            · exact ih a b (by omega) ha' hb' c hc
theorem lists_all {p : Change → Prop} {a b : List KV} (ha : ∀ e ∈ a, p (goneE e)) (hb : ∀ e ∈ b, p (comeE e)) : ∀ c ∈ listsE a b, p c := lists_all_aux _ a b (Nat.le_refl _) ha hb
theorem lists_pairwise : ∀ (m : Nat) (a b : List KV), a.length + b.length ≤ m → SortedE a → SortedE b → (listsE a b).Pairwise fun c d => Lt c.key d.key := by
  intro m
  induction m with
  | zero =>
    intro a b hn _ _
    have ha : a = [] := List.eq_nil_of_length_eq_zero (by omega)
    have hb : b = [] := List.eq_nil_of_length_eq_zero (by omega)
    subst ha; subst hb
    rw [listsE_nil]; simp
  | succ m ih =>
    intro a b hn sa sb
    cases a with
    | nil =>
      rw [listsE_nil, List.pairwise_map]
      exact sb
    | cons x a =>
      have hx := (List.pairwise_cons.1 sa).1
      have sa' := sa.tail
      cases b with
      | nil =>
        rw [listsE_gone_nil]
        refine List.pairwise_cons.2 ⟨?_, ih a [] (by simp only [List.length_cons] at *; omega) sa' sb⟩
        exact lists_all (p := fun c => Lt x.1 c.key) (fun e he => hx e he) (by simp)
      | cons y b =>
        have hy := (List.pairwise_cons.1 sb).1
        have sb' := sb.tail
        simp only [List.length_cons] at hn
        by_cases h1 : Lt x.1 y.1
        · rw [listsE_gone _ _ h1]
          refine List.pairwise_cons.2 ⟨?_, ih a (y :: b) (by simp only [List.length_cons]; omega) sa' sb⟩
          refine lists_all (p := fun c => Lt x.1 c.key) (fun e he => hx e he) fun e he => ?_
          rcases List.mem_cons.1 he with rfl | he
          · exact h1
          · exact h1.trans (hy e he)
        · by_cases h2 : Lt y.1 x.1
          · rw [listsE_come _ _ h2]
            refine List.pairwise_cons.2 ⟨?_, ih (x :: a) b (by simp only [List.length_cons]; omega) sa sb'⟩
            refine lists_all (p := fun c => Lt y.1 c.key) (fun e he => ?_) (fun e he => hy e he)
            rcases List.mem_cons.1 he with rfl | he
            · exact h2
            · exact h2.trans (hx e he)
          · have he : x.1 = y.1 := (Lt.total h1).resolve_left h2
            rw [listsE_same _ _ he]
            have h3 := ih a b (by omega) sa' sb'
            split
            · exact h3
            · exact List.pairwise_cons.2 ⟨lists_all (p := fun c => Lt y.1 c.key) (fun e h => by rw [← he]; exact hx e h) (fun e h => hy e h), h3⟩
theorem sortedC_mk {l : List Change} (h1 : ∀ c ∈ l, okC c) (h2 : l.Pairwise fun c d => Lt c.key d.key) : SortedC l := fun i c hc => by
  refine ⟨h1 c (List.mem_of_getElem? hc), fun hi d hd => ?_⟩
  obtain ⟨l1, e1⟩ := List.getElem?_eq_some_iff.1 hc
  obtain ⟨l2, e2⟩ := List.getElem?_eq_some_iff.1 hd
  have := List.pairwise_iff_getElem.1 h2 (i - 1) i l2 l1 (by omega)
  rw [e1, e2] at this
  exact this
/-- An entry that may lie in a tree. -/
def okE (e : KV) : Prop := e.1 ≠ ⟨#[]⟩ ∧ e.1.size ≤ 64 ∧ e.2.size ≤ 300
theorem lists_sortedC {a b : List KV} (ha : SortedE a) (hb : SortedE b) (oa : ∀ e ∈ a, okE e) (ob : ∀ e ∈ b, okE e) : SortedC (listsE a b) :=
  sortedC_mk (lists_all (fun e he => ⟨(oa e he).1, (oa e he).2.1, Nat.zero_le _, fun _ => rfl⟩) fun e he => ⟨(ob e he).1, (ob e he).2.1, (ob e he).2.2, fun h => by cases h⟩) (lists_pairwise _ a b (Nat.le_refl _) ha hb)
theorem may_okE (l1 l2 : List Change) : (∀ e ∈ applyE [] (mayL l1), okE e) ∧ ∀ e ∈ applyE (applyE [] (mayL l1)) (mayL l2), okE e := by
  have h0 : ∀ (l : List Change), ∀ c ∈ mayL l, c.gone = false → okE (c.key, c.val) := fun l c hc _ => ⟨(mayL_valid c hc).1.1.1, (mayL_valid c hc).2.1, (mayL_valid c hc).2.2⟩
  have h1 : ∀ e ∈ applyE [] (mayL l1), okE e := applyE_all (mayL l1) (by simp) (h0 l1)
  exact ⟨h1, applyE_all (mayL l2) h1 (h0 l2)⟩
end Go.Proofs.YtbajgpadmlnffaaGreat
/- What leads from one tree to another one: the walk. -/
namespace Go.Proofs.YtbajgpadmlnffaaGreat
open Go.V
set_option maxRecDepth 100000
set_option linter.unusedVariables false
set_option linter.unusedSimpArgs false

theorem law_trees (w : World) (A1 : Option Addr) (cap1 : Nat) (l1 : List Change) (lo1 hi1 : Nat) (hR1 : Rd kChange w lo1 hi1 A1 l1) (hhi1 : hi1 ≤ w.heap.size) (A2 : Option Addr) (cap2 : Nat) (l2 : List Change) (lo2 hi2 : Nat) (hR2 : Rd kChange w lo2 hi2 A2 l2) (hhi2 : hi2 ≤ w.heap.size) :
    Ret Tryz.prog 6 [.slice A1 l1.length cap1, .slice A2 l2.length cap2] w fun v w' => v = B true ∧ Ext No w w' := by
  refine calls_of_XC Tryz.func6 rfl rfl ?_
  refine .seq ?_
  refine .region ?_
  refine xo.done 1 [(0, .slice A1 l1.length cap1), (1, .slice A2 l2.length cap2)] (by kernel_rfl) rfl (by kernel_rfl) ?_
  refine .seq ?_
  refine .seq ?_
  refine .region ?_
  refine xo.ret 1 (by kernel_rfl) (cf8 _ _) (law_small _ A1 cap1 l1 lo1 hi1 hR1 (by omega)) ?_
  rintro _ w3 ⟨_ | _, rfl, hsm2, hx4⟩
  · have z3 := hx4.size
    refine xo.done 6 [(0, .slice A1 l1.length cap1), (1, .slice A2 l2.length cap2), (20, B true)] (by kernel_rfl) rfl (by kernel_rfl) ?_
    refine .condT rfl rfl ?_
    refine .seq ?_
    refine .region ?_
    refine xo.ret 0 (by kernel_rfl) (cf9 _ _) (law_awake _) ?_
    rintro _ w5 ⟨rfl, hx6⟩
    have z5 := hx6.size
    refine xo.done 1 [(4, B true)] (by kernel_rfl) rfl (by kernel_rfl) ?_
    refine .ret ?_
    refine ⟨[B true], by kernel_rfl, _, rfl, ?_⟩
    exact ⟨rfl, ((hx4.weak fun b hb h => h.elim).trans' hx6 (fun _ _ h => h) (fun b hb h => h.elim))⟩
  · have z3 := hx4.size
    have hsl_A1 := hsm2 rfl
    have hs7 := (hR2.ext hx4 (fun _ _ _ h => h))
    refine xo.ret 3 (by kernel_rfl) (cf8 _ _) (law_small _ A2 cap2 l2 lo2 hi2 hs7 (by omega)) ?_
    rintro _ w10 ⟨_ | _, rfl, hsm9, hx11⟩
    · have z10 := hx11.size
      refine xo.done 2 [(0, .slice A1 l1.length cap1), (1, .slice A2 l2.length cap2), (20, B true)] (by kernel_rfl) rfl (by kernel_rfl) ?_
      refine .condT rfl rfl ?_
      refine .seq ?_
      refine .region ?_
      refine xo.ret 0 (by kernel_rfl) (cf9 _ _) (law_awake _) ?_
      rintro _ w12 ⟨rfl, hx13⟩
      have z12 := hx13.size
      refine xo.done 1 [(4, B true)] (by kernel_rfl) rfl (by kernel_rfl) ?_
      refine .ret ?_
      refine ⟨[B true], by kernel_rfl, _, rfl, ?_⟩
      exact ⟨rfl, (((hx4.weak fun b hb h => h.elim).trans' hx11 (fun _ _ h => h) (fun b hb h => h.elim)).trans' hx13 (fun _ _ h => h) (fun b hb h => h.elim))⟩
    · have z10 := hx11.size
      have hsl_A2 := hsm9 rfl
      refine xo.done 2 [(0, .slice A1 l1.length cap1), (1, .slice A2 l2.length cap2), (20, B false)] (by kernel_rfl) rfl (by kernel_rfl) ?_
      refine .condF rfl rfl ?_
      refine .skip ?_
      refine .seq ?_
      refine .region ?_
      refine xo.ret 0 (by kernel_rfl) (cf10 _ _) (law_fresh2 _) ?_
      rintro _ w14 ⟨a, σ0, rfl, hS15, hI16, hl017, hlo18, hx19⟩
      have z14 := hx19.size
      have lS := hS15.bs.lt
      have lMc := hS15.mc.lt
      have lMk := hS15.mkt.lt
      have hhi := hS15.hi
      have nSC : a.s ≠ a.mc := fun e => MapAt.ne hS15.mc hS15.bs e.symm
      have nKC : a.mkk ≠ a.mc := fun e => hS15.cmk e.symm
      have hlo0 : w.heap.size ≤ a.lo := by omega
      refine xo.done 1 [(0, .slice A1 l1.length cap1), (1, .slice A2 l2.length cap2), (5, Pt a.s 0)] (by kernel_rfl) rfl (by kernel_rfl) ?_
      refine .seq ?_
      refine .region ?_
      have hs20 := (((hR1.ext hx4 (fun _ _ _ h => h)).ext hx11 (fun _ _ _ h => h)).ext hx19 (fun _ _ _ h => h))
      refine xo.ret 2 (by kernel_rfl) (cf12 _ _) (law_may _ A1 cap1 l1 lo1 hi1 hs20 (by omega) hsl_A1) ?_
      rintro _ w24 ⟨A21, c22, rfl, ho23, hx25⟩
      have z24 := hx25.size
      have hf26 := (hS15.no hx25)
      have hl1 := (show (mayL l1).length ≤ 200 from Nat.le_trans (mayL_length _) hsl_A1)
      refine xo.ret 0 (by kernel_rfl) (cf11 _ _) (diff_Apply _ a σ0 hf26 (fun _ => 0) hI16 (fun _ => Nat.zero_le _) 0 [] (.inl ⟨rfl, rfl⟩) A21 c22 (mayL l1) w14.heap.size w24.heap.size ho23.rd (by omega) (fun c hc => (mayL_valid c hc).1) (by simp only [List.length_nil]; omega) (by omega)) ?_
      rintro _ w28 ⟨r1, σ1, rfl, hS27, hx29, hAI1⟩
      have z28 := hx29.size
      have hlen1 := hAI1.len
      have hle1 : (applyE [] (mayL l1)).length ≤ 200 := Nat.le_trans (applyE_length _ _) (by simp only [List.length_nil]; omega)
      refine xo.done 5 [(1, .slice A2 l2.length cap2), (5, Pt a.s 0), (6, I r1), (7, I 0)] (by kernel_rfl) rfl (by kernel_rfl) ?_
      refine .seq ?_
      refine .region ?_
      have hs30 := ((((hs7.ext hx11 (fun _ _ _ h => h)).ext hx19 (fun _ _ _ h => h)).ext hx25 (fun _ _ _ h => h)).extm hx29 hf26.maps)
      refine xo.ret 3 (by kernel_rfl) (cf12 _ _) (law_may _ A2 cap2 l2 lo2 hi2 hs30 (by omega) hsl_A2) ?_
      rintro _ w34 ⟨A31, c32, rfl, ho33, hx35⟩
      have z34 := hx35.size
      have hf36 := (hS27.no hx35)
      have hl2 := (show (mayL l2).length ≤ 200 from Nat.le_trans (mayL_length _) hsl_A2)
      refine xo.ret 0 (by kernel_rfl) (cf11 _ _) (diff_Apply _ a σ1 hf36 (hH (fun _ => 0) r1) hAI1.inv (fun j => Nat.le_trans (hH_le (n := 0) (fun _ => Nat.le_refl _) r1 j) (by decide)) r1 _ hAI1.tree A31 c32 (mayL l2) w28.heap.size w34.heap.size ho33.rd (by omega) (fun c hc => (mayL_valid c hc).1) (by omega) (by omega)) ?_
      rintro _ w38 ⟨r2, σ2, rfl, hS37, hx39, hAI2⟩
      have z38 := hx39.size
      have hlen2 := hAI2.len
      have hle2 : (applyE (applyE [] (mayL l1)) (mayL l2)).length ≤ 400 := Nat.le_trans (applyE_length _ _) (by omega)
      have hT1 : TreeAt σ2 r1 (applyE [] (mayL l1)) := hAI2.old hAI1.tree
      have hT2 := hAI2.tree
      have hA2 := hAI2.inv.alive
      refine xo.done 5 [(5, Pt a.s 0), (6, I r1), (7, I 0), (8, I r2), (9, I 0)] (by kernel_rfl) rfl (by kernel_rfl) ?_
      refine .seq ?_
      refine .region ?_
      refine xo.ret 3 (by kernel_rfl) (cf13 _ _) (diff_Trees _ a σ2 hS37 hA2 r1 r2 (applyE [] (mayL l1)) (applyE (applyE [] (mayL l1)) (mayL l2)) hT1 hT2 (by omega) (by omega)) ?_
      rintro _ w46 ⟨A40, c41, k42, rfl, ho43, hS44, hx47, hRun45⟩
      have z46 := hx47.size
      refine xo.done 7 [(5, Pt a.s 0), (6, I r1), (7, I 0), (8, I r2), (9, I 0), (10, .slice A40 ((listsE (applyE [] (mayL l1)) (applyE (applyE [] (mayL l1)) (mayL l2))).length) c41), (12, I 0)] (by kernel_rfl) rfl (by kernel_rfl) ?_
      refine .seq ?_
      refine .region ?_
      refine xo.ret 14 (by kernel_rfl) (cf16 _ _) (law_all _ a σ2 hS44 hA2 r1 (applyE [] (mayL l1)) hT1 (by omega)) ?_
      rintro _ w52 ⟨A48, c49, rfl, ho50, hS51, hx53⟩
      have z52 := hx53.size
      refine xo.ret 2 (by kernel_rfl) (cf16 _ _) (law_all _ a σ2 hS51 hA2 r2 (applyE (applyE [] (mayL l1)) (mayL l2)) hT2 (by omega)) ?_
      rintro _ w58 ⟨A54, c55, rfl, ho56, hS57, hx59⟩
      have z58 := hx59.size
      have hs60 := (ho50.ext hx59 (fun _ _ h => h))
      have hsz := may_sizes l1 l2
      refine xo.ret 0 (by kernel_rfl) (cf24 _ _) (ref_lists _ A48 c49 (applyE [] (mayL l1)) w46.heap.size w58.heap.size hs60.rd (by omega) A54 c55 (applyE (applyE [] (mayL l1)) (mayL l2)) w52.heap.size w58.heap.size ho56.rd (by omega) (by omega) (fun e he => ⟨Nat.le_trans (hsz.1 e he).1 (by omega), Nat.le_trans (hsz.1 e he).2 (by omega)⟩) (fun e he => ⟨Nat.le_trans (hsz.2 e he).1 (by omega), Nat.le_trans (hsz.2 e he).2 (by omega)⟩)) ?_
      rintro _ w64 ⟨A61, c62, rfl, ho63, hx65⟩
      have z64 := hx65.size
      have hll := lists_length _ (applyE [] (mayL l1)) (applyE (applyE [] (mayL l1)) (mayL l2)) (Nat.le_refl _)
      have hs66 := (((ho43.ext hx53 (fun _ _ h => h)).ext hx59 (fun _ _ h => h)).ext hx65 (fun _ _ h => h))
      refine xo.ret 0 (by kernel_rfl) (cf23 _ _) (equal_change _ (listsE (applyE [] (mayL l1)) (applyE (applyE [] (mayL l1)) (mayL l2))) A40 c41 w38.heap.size w64.heap.size hs66.rd (by omega) A61 c62 w58.heap.size w64.heap.size ho63.rd (by omega) (by omega) (fun c hc => by have := lists_sizes (n := 300) _ _ _ (Nat.le_refl _) hsz.1 hsz.2 c hc; exact ⟨le_maxLen this.1, le_maxLen this.2⟩)) ?_
      rintro _ w67 ⟨rfl, hx68⟩
      have z67 := hx68.size
      have hs69 := (hs66.ext hx68 (fun _ _ h => h))
      have hso := lists_sortedC hT1.sorted hT2.sorted (may_okE l1 l2).1 (may_okE l1 l2).2
      refine xo.ret 3 (by kernel_rfl) (cf21 _ _) ((diff_Sorted _ A40 c41 (listsE (applyE [] (mayL l1)) (applyE (applyE [] (mayL l1)) (mayL l2))) w38.heap.size w67.heap.size hs69.rd (by omega) (by omega)).mono (Q' := fun v w' => v = B true ∧ Ext No _ w') fun v w' ⟨b, h1, h2, h3⟩ => ⟨by rw [h1, h2.2 hso], h3⟩) ?_
      rintro _ w70 ⟨rfl, hx71⟩
      have z70 := hx71.size
      refine xo.ret 2 (by kernel_rfl) (cf9 _ _) (law_awake _) ?_
      rintro _ w72 ⟨rfl, hx73⟩
      have z72 := hx73.size
      refine xo.done 2 [(4, B true)] (by kernel_rfl) rfl (by kernel_rfl) ?_
      refine .ret ?_
      refine ⟨[B true], by kernel_rfl, _, rfl, ?_⟩
      exact ⟨rfl, ((((((((((((((hx4.weak fun b hb h => h.elim).trans' hx11 (fun _ _ h => h) (fun b hb h => h.elim)).trans' hx19 (fun _ _ h => h) (fun b hb h => h.elim)).trans' hx25 (fun _ _ h => h) (fun b hb h => h.elim)).trans' hx29 (fun _ _ h => h) (fun b hb q => absurd hb (by have := (hf26.fpp_fp q).1; omega))).trans' hx35 (fun _ _ h => h) (fun b hb h => h.elim)).trans' hx39 (fun _ _ h => h) (fun b hb q => absurd hb (by have := (hf36.fpp_fp q).1; omega))).trans' hx47 (fun _ _ h => h) (fun b hb h => h.elim)).trans' hx53 (fun _ _ h => h) (fun b hb h => h.elim)).trans' hx59 (fun _ _ h => h) (fun b hb h => h.elim)).trans' hx65 (fun _ _ h => h) (fun b hb h => h.elim)).trans' hx68 (fun _ _ h => h) (fun b hb h => h.elim)).trans' hx71 (fun _ _ h => h) (fun b hb h => h.elim)).trans' hx73 (fun _ _ h => h) (fun b hb h => h.elim))⟩

end Go.Proofs.YtbajgpadmlnffaaGreat
