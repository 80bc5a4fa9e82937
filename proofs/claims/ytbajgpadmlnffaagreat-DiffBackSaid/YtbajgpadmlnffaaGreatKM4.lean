/-
  A part of the proofs of this seat (Ord, Place, Swap, Laid, Round, Tree, Cont, PutL, Put, TPut, Root, DelL): lemmas on which the last text leans. No condition.
-/
import Derived.Test.YtbajgpadmlnffaaGreatKM3
/- Texts in order. -/
namespace Go.V
theorem bytesLess_trans : ∀ (l m n : List UInt8), Op.bytesLess l m = true → Op.bytesLess m n = true → Op.bytesLess l n = true := by
  intro l
  induction l with
  | nil =>
    intro m n h1 h2
    cases n with
    | nil => cases m <;> simp [Op.bytesLess] at h2
    | cons c n => rfl
  | cons a l ih =>
    intro m n h1 h2
    cases m with
    | nil => simp [Op.bytesLess] at h1
    | cons b m =>
      cases n with
      | nil => simp [Op.bytesLess] at h2
      | cons c n =>
        simp only [Op.bytesLess, Bool.or_eq_true, decide_eq_true_eq, Bool.and_eq_true, beq_iff_eq] at *
        rcases h1 with h1 | ⟨rfl, h1⟩
        · rcases h2 with h2 | ⟨rfl, h2⟩
          · left; exact UInt8.lt_trans h1 h2
          · exact .inl h1
        · rcases h2 with h2 | ⟨rfl, h2⟩
          · exact .inl h2
          · exact .inr ⟨rfl, ih _ _ h1 h2⟩
theorem Lt.trans {x y z : ByteArray} (h1 : Lt x y) (h2 : Lt y z) : Lt x z := bytesLess_trans _ _ _ h1 h2
theorem Lt.irrefl (x : ByteArray) : ¬ Lt x x := by unfold Lt; rw [bytesLess_irrefl]; decide
theorem Lt.total {x y : ByteArray} (h : ¬ Lt x y) : Lt y x ∨ x = y := by
  unfold Lt at *
  have := bytesLess_total y.toList x.toList
  have hx : Op.bytesLess x.toList y.toList = false := by simpa using h
  rw [hx] at this
  simp only [Bool.not_false, Bool.or_eq_true, beq_iff_eq] at this
  rcases this with h | h
  · exact .inl h
  · exact .inr (ba_ext (by simpa using h.symm))
theorem Lt.asymm {x y : ByteArray} (h1 : Lt x y) : ¬ Lt y x := fun h2 => Lt.irrefl x (h1.trans h2)
theorem Lt.ne {x y : ByteArray} (h : Lt x y) : x ≠ y := fun e => Lt.irrefl x (by rw [← e] at h; exact h)
theorem Lt.of_le {x y z : ByteArray} (h1 : ¬ Lt y x) (h2 : Lt y z) : Lt x z := by
  rcases Lt.total h1 with h | h
  · exact h.trans h2
  · rw [← h]; exact h2
end Go.V
/- Where a key stands. -/
namespace Go.Proofs.YtbajgpadmlnffaaGreat
open Go.V
set_option maxRecDepth 100000
set_option linter.unusedVariables false
set_option linter.unusedSimpArgs false

theorem sort_search (w : World) (n : Nat) (hn : n ≤ 1099511627776) (fid : FuncId) (caps : List Value) (p : Nat → Bool) (J : World → Prop)
    (hcf : ∀ (args : Array Value) (w : World), (callFunc fid args).run Tryz.prog w = .ok (.enter fid args) w) (hJ : J w)
    (hp : ∀ (i : Nat) u, i < n → J u → Ret Tryz.prog fid (I (i : Int) :: caps) u fun v w' => v = B (p i) ∧ J w' ∧ Ext No u w') (mono : ∀ i j, i ≤ j → j < n → p i = true → p j = true) :
    Ret Tryz.prog 109 [I (n : Int), .func (.func fid) #[] caps.toArray] w fun v w' => ∃ i : Nat, v = I (i : Int) ∧ i ≤ n ∧ (∀ j, j < i → p j = false) ∧ (∀ j, i ≤ j → j < n → p j = true) ∧ J w' ∧ Ext No w w' := by
  refine calls_of_XC Tryz.func109 rfl rfl ?_
  refine .seq ?_
  refine .region ?_
  refine xo.done 1 [(0, I (n : Int)), (1, .func (.func fid) #[] caps.toArray)] (by kernel_rfl) rfl (by kernel_rfl) ?_
  refine .seq ?_
  refine .region ?_
  refine xo.done 3 [(1, .func (.func fid) #[] caps.toArray), (5, I 0), (6, I (n : Int))] (by kernel_rfl) rfl (by kernel_rfl) ?_
  refine .seq ?_
  refine .block ?_
  refine XC.loop (ι := Nat × Nat) (fun ⟨lo, hi⟩ => [(1, .func (.func fid) #[] caps.toArray), (5, I (lo : Int)), (6, I (hi : Int))]) (fun ⟨lo, hi⟩ u => lo ≤ hi ∧ hi ≤ n ∧ (∀ j, j < lo → p j = false) ∧ (∀ j, hi ≤ j → j < n → p j = true) ∧ J u ∧ Ext No w u) (fun ⟨lo, hi⟩ => hi - lo) (0, n) (cov_of (by kernel_rfl)) ⟨by omega, by omega, fun j h => by omega, fun j h1 h2 => by omega, hJ, .refl _ _⟩ ?_
  rintro ⟨lo, hi⟩ w1 ⟨hle, hin, hlo, hhi, hJu, hE⟩
  have z1 := hE.size
  refine .seq ?_
  refine .seq ?_
  refine .region ?_
  by_cases hc2 : ((lo : Int) : Int) < (hi : Int)
  · refine xo.val 2 (by kernel_rfl) (c_lss_t hc2) ?_
    refine xo.done 0 [(1, .func (.func fid) #[] caps.toArray), (5, I (lo : Int)), (6, I (hi : Int)), (11, B true)] (by kernel_rfl) rfl (by kernel_rfl) ?_
    refine .condT rfl rfl ?_
    refine .skip ?_
    refine .block ?_
    refine .seq ?_
    refine .region ?_
    refine xo.val 2 (by kernel_rfl) (a_addN (a := lo) (b := hi) (by omega)) ?_
    refine xo.val 2 (by kernel_rfl) (mid_ok (n := lo + hi) (by omega)) ?_
    refine xo.done 1 [(1, .func (.func fid) #[] caps.toArray), (5, I (lo : Int)), (6, I (hi : Int)), (7, I ((((lo + hi) / 2 : Nat) : Int)))] (by kernel_rfl) rfl (by kernel_rfl) ?_
    refine .seq ?_
    refine .region ?_
    refine xo.ret 2 (S := callFunc fid (#[I (((lo + hi) / 2 : Nat) : Int)] ++ caps.toArray)) (args := I (((lo + hi) / 2 : Nat) : Int) :: caps) (by kernel_rfl) (by rw [show #[I (((lo + hi) / 2 : Nat) : Int)] ++ caps.toArray = ((I (((lo + hi) / 2 : Nat) : Int)) :: caps).toArray from by simp]; exact hcf _ _) (hp ((lo + hi) / 2) _ (by omega) hJu) ?_
    rintro _ w4 ⟨rfl, hJ3, hx5⟩
    have z4 := hx5.size
    obtain hp6 | hp6 : p ((lo + hi) / 2) = false ∨ p ((lo + hi) / 2) = true := by cases p ((lo + hi) / 2) <;> simp
    · rw [hp6]
      refine xo.done 1 [(1, .func (.func fid) #[] caps.toArray), (5, I (lo : Int)), (6, I (hi : Int)), (7, I ((((lo + hi) / 2 : Nat) : Int))), (21, B true)] (by kernel_rfl) rfl (by kernel_rfl) ?_
      refine .condT rfl rfl ?_
      refine .region ?_
      refine xo.val 1 (by kernel_rfl) (a_add (a := (((lo + hi) / 2 : Nat) : Int)) (b := 1) (by omega) (by omega)) ?_
      refine xo.fin 1 (by kernel_rfl) rfl ?_
      refine ⟨((lo + hi) / 2 + 1, hi), cov_of (by kernel_rfl), ⟨by omega, by omega, fun j h1 => ?_, hhi, hJ3, (hE.trans' hx5 (fun _ _ h => h) (fun b hb h => h))⟩, by show hi - ((lo + hi) / 2 + 1) < hi - lo; omega⟩
      cases hpj : p j with
      | false => rfl
      | true => exact absurd (mono j ((lo + hi) / 2) (by omega) (by omega) hpj) (by simp_all)
    · rw [hp6]
      refine xo.done 1 [(1, .func (.func fid) #[] caps.toArray), (5, I (lo : Int)), (6, I (hi : Int)), (7, I ((((lo + hi) / 2 : Nat) : Int))), (21, B false)] (by kernel_rfl) rfl (by kernel_rfl) ?_
      refine .condF rfl rfl ?_
      refine .region ?_
      refine xo.fin 2 (by kernel_rfl) rfl ?_
      refine ⟨(lo, (lo + hi) / 2), cov_of (by kernel_rfl), ⟨by omega, by omega, hlo, fun j h1 h2 => mono _ j h1 h2 (by assumption), hJ3, (hE.trans' hx5 (fun _ _ h => h) (fun b hb h => h))⟩, by show (lo + hi) / 2 - lo < hi - lo; omega⟩
  · refine xo.val 2 (by kernel_rfl) (c_lss_f hc2) ?_
    refine xo.done 0 [(1, .func (.func fid) #[] caps.toArray), (5, I (lo : Int)), (6, I (hi : Int)), (11, B false)] (by kernel_rfl) rfl (by kernel_rfl) ?_
    refine .condF rfl rfl ?_
    refine .exit ?_
    refine xsetTo ?_
    refine .seq ?_
    refine .region ?_
    refine xo.done 2 [(4, I (lo : Int))] (by kernel_rfl) rfl (by kernel_rfl) ?_
    refine .ret ?_
    refine ⟨[I (lo : Int)], by kernel_rfl, _, rfl, ?_⟩
    have he : lo = hi := by omega
    subst he
    exact ⟨lo, rfl, hin, hlo, hhi, hJu, hE⟩

def SortedI (l : List Item) : Prop := l.Pairwise fun x y => Lt x.key y.key
theorem SortedI.get {l : List Item} (h : SortedI l) {i j : Nat} {x y : Item} (hij : i < j) (hx : l[i]? = some x) (hy : l[j]? = some y) : Lt x.key y.key := by
  obtain ⟨h1, e1⟩ := List.getElem?_eq_some_iff.1 hx
  obtain ⟨h2, e2⟩ := List.getElem?_eq_some_iff.1 hy
  have := List.pairwise_iff_getElem.1 h i j h1 h2 hij
  rw [e1, e2] at this
  exact this
/-- Is it not below the key? -/
def notBelow (l : List Item) (key : ByteArray) (i : Nat) : Bool := match l[i]? with | some x => !decide (Lt x.key key) | none => false
theorem notBelow_mono {l : List Item} (h : SortedI l) (key : ByteArray) (i j : Nat) (hij : i ≤ j) (hj : j < l.length) (hi : notBelow l key i = true) : notBelow l key j = true := by
  unfold notBelow at *
  cases hx : l[i]? with
  | none => rw [hx] at hi; cases hi
  | some x =>
    rw [hx] at hi
    simp only [Bool.not_eq_true', decide_eq_false_iff_not] at hi
    rw [List.getElem?_eq_getElem hj]
    simp only [Bool.not_eq_true', decide_eq_false_iff_not]
    rcases Nat.lt_or_ge i j with h1 | h1
    · exact fun h2 => hi ((h.get h1 hx (List.getElem?_eq_getElem hj)).trans h2)
    · have : i = j := by omega
      subst this
      rw [List.getElem?_eq_getElem hj] at hx
      rw [Option.some.inj hx]
      exact hi
/-- Where a key stands, or would. -/
def PlaceR (l : List Item) (key : ByteArray) (i : Nat) (ok : Bool) : Prop :=
  i ≤ l.length ∧ (∀ j x, j < i → l[j]? = some x → Lt x.key key) ∧ (∀ j x, i ≤ j → l[j]? = some x → ¬ Lt x.key key) ∧ (ok = true ↔ ∃ x, l[i]? = some x ∧ x.key = key)

theorem place_look (w : World) (bl_ bk_ : Nat) (key : ByteArray) (A : Option Addr) (cap : Nat) (items : List Item) (lo hi : Nat) (hR : Rd kItem w lo hi A items) (hhi_ : hi ≤ w.heap.size) (hbl : Blk w bl_ 111 [.slice A items.length cap]) (hbk : Blk w bk_ 9 [S key]) (i : Nat) (hi_ : i < items.length) :
    Ret Tryz.prog 110 [I (i : Int), Pt bl_ 0, Pt bk_ 0] w fun v w' => v = B (notBelow items key i) ∧ (Blk w' bl_ 111 [.slice A items.length cap] ∧ Blk w' bk_ 9 [S key] ∧ Rd kItem w' lo hi A items ∧ hi ≤ w'.heap.size) ∧ Ext No w w' := by
  refine calls_of_XC Tryz.func110 rfl rfl ?_
  refine .seq ?_
  refine .region ?_
  refine xo.done 1 [(0, I (i : Int)), (1, Pt bl_ 0), (2, Pt bk_ 0)] (by kernel_rfl) rfl (by kernel_rfl) ?_
  refine .seq ?_
  refine .regionReads (by kernel_rfl) (by kernel_rfl) ?_
  intro w1 hd2
  have hx2 := Ext.ofDrew (M := No) hd2
  have z1 := hx2.size
  have hb3 := (hbl.ext hx2 (fun h => h))
  refine Go.V.xs.val 0 (by kernel_rfl) (ldB (t := 111) (o := 0) (by kernel_rfl) hb3 rfl) ?_
  have hs4 := (hR.ext hx2 (fun _ _ _ h => h))
  obtain ⟨b5, o6, x7, hi8, hA9, hl10, hh11, hr12⟩ := hs4.at_ i (by omega)
  refine Go.V.xs.val 1 (by kernel_rfl) (idxN (kk := .i64) (t := 111) (n := items.length) (cap := cap) (sz := 3) (i := i) (by kernel_rfl) hA9 (by omega)) ?_
  refine Go.V.xs.val 1 (by kernel_rfl) (ld (t := 9) (by kernel_rfl) (hr12 0 _ rfl)) ?_
  have hb13 := (hbk.ext hx2 (fun h => h))
  refine Go.V.xs.val 0 (by kernel_rfl) (ldB (t := 9) (o := 0) (by kernel_rfl) hb13 rfl) ?_
  by_cases hc14 : Lt x7.key key
  · refine Go.V.xs.val 0 (by kernel_rfl) (s_geq_t hc14) ?_
    refine Go.V.xs.fin 1 (by kernel_rfl) rfl ?_
    refine .cov [(4, B false)] (cov_of (by kernel_rfl)) ?_
    refine .ret ?_
    refine ⟨[B false], by kernel_rfl, _, rfl, ?_⟩
    exact ⟨by unfold notBelow; rw [hi8]; simp [pack, hc14], ⟨hb3, hb13, hs4, by omega⟩, hx2⟩
  · refine Go.V.xs.val 0 (by kernel_rfl) (s_geq_f hc14) ?_
    refine Go.V.xs.fin 1 (by kernel_rfl) rfl ?_
    refine .cov [(4, B true)] (cov_of (by kernel_rfl)) ?_
    refine .ret ?_
    refine ⟨[B true], by kernel_rfl, _, rfl, ?_⟩
    exact ⟨by unfold notBelow; rw [hi8]; simp [pack, hc14], ⟨hb3, hb13, hs4, by omega⟩, hx2⟩

theorem tree_place (w : World) (A : Option Addr) (cap : Nat) (items : List Item) (lo hi : Nat) (hR : Rd kItem w lo hi A items) (hhi_ : hi ≤ w.heap.size) (hl : items.length ≤ 1000) (hs : SortedI items) (key : ByteArray) :
    Ret Tryz.prog 93 [.slice A items.length cap, S key] w fun v w' => ∃ i ok, v = .tuple #[I ((i : Nat) : Int), B ok] ∧ PlaceR items key i ok ∧ Ext No w w' := by
  refine calls_of_XC Tryz.func93 rfl rfl ?_
  refine .seq ?_
  refine .region ?_
  refine xo.box 0 111 (.slice A items.length cap) [.slice A items.length cap] (by kernel_rfl) (by kernel_rfl) ?_
  intro b1 w2 hb3 hx4 hg5
  have z2 := hx4.size
  have l3 := hb3.lt
  refine xo.box 0 9 (S key) [S key] (by kernel_rfl) (by kernel_rfl) ?_
  intro b6 w7 hb8 hx9 hg10
  have z7 := hx9.size
  have l8 := hb8.lt
  refine xo.done 2 [(2, Pt b1 0), (3, Pt b6 0)] (by kernel_rfl) rfl (by kernel_rfl) ?_
  refine .seq ?_
  refine .region ?_
  have hb11 := (hb3.ext hx9 (fun h => h))
  refine xo.val 0 (by kernel_rfl) (ldB (t := 111) (o := 0) (by kernel_rfl) hb11 rfl) ?_
  have hs12 := ((hR.ext hx4 (fun _ _ _ h => h)).ext hx9 (fun _ _ _ h => h))
  refine xo.ret 2 (by kernel_rfl) (cf109 _ _) (sort_search _ items.length (by omega) 110 [Pt b1 0, Pt b6 0] (notBelow items key) (fun u => Blk u b1 111 [.slice A items.length cap] ∧ Blk u b6 9 [S key] ∧ Rd kItem u lo hi A items ∧ hi ≤ u.heap.size) (fun _ _ => cf110 _ _) ⟨hb11, hb8, hs12, by omega⟩ (fun i u hlt hJ => place_look u b1 b6 key A cap items lo hi hJ.2.2.1 hJ.2.2.2 hJ.1 hJ.2.1 i hlt) (notBelow_mono hs key)) ?_
  rintro _ w20 ⟨i13, rfl, hi14, hb15, ha16, ⟨hL17, hK18, hR19, _⟩, hx21⟩
  have z20 := hx21.size
  refine xo.done 1 [(2, Pt b1 0), (3, Pt b6 0), (6, I (i13 : Int))] (by kernel_rfl) rfl (by kernel_rfl) ?_
  refine .seq ?_
  refine .regionReads (by kernel_rfl) (by kernel_rfl) ?_
  intro w22 hd23
  have hx23 := Ext.ofDrew (M := No) hd23
  have z22 := hx23.size
  have hb24 := (hL17.ext hx23 (fun h => h))
  refine Go.V.xs.val 2 (by kernel_rfl) (ldB (t := 111) (o := 0) (by kernel_rfl) hb24 rfl) ?_
  by_cases hc25 : ((i13 : Int) : Int) < (items.length : Int)
  · refine Go.V.xs.val 1 (by kernel_rfl) (c_lss_t hc25) ?_
    refine Go.V.xs.val 1 (by kernel_rfl) (ldB (t := 111) (o := 0) (by kernel_rfl) hb24 rfl) ?_
    have hs26 := (hR19.ext hx23 (fun _ _ _ h => h))
    obtain ⟨b27, o28, x29, hi30, hA31, hl32, hh33, hr34⟩ := hs26.at_ i13 (by omega)
    refine Go.V.xs.val 1 (by kernel_rfl) (idxN (kk := .i64) (t := 111) (n := items.length) (cap := cap) (sz := 3) (i := i13) (by kernel_rfl) hA31 (by omega)) ?_
    refine Go.V.xs.val 1 (by kernel_rfl) (ld (t := 9) (by kernel_rfl) (hr34 0 _ rfl)) ?_
    have hb35 := (hK18.ext hx23 (fun h => h))
    refine Go.V.xs.val 0 (by kernel_rfl) (ldB (t := 9) (o := 0) (by kernel_rfl) hb35 rfl) ?_
    by_cases hc36 : x29.key = key
    · refine Go.V.xs.val 0 (by kernel_rfl) (s_eql_t hc36) ?_
      refine Go.V.xs.fin 3 (by kernel_rfl) rfl ?_
      refine .cov [(4, I (i13 : Int)), (5, B true)] (cov_of (by kernel_rfl)) ?_
      refine .ret ?_
      refine ⟨[I (i13 : Int), B true], by kernel_rfl, _, rfl, ?_⟩
      exact ⟨i13, true, rfl, ⟨hi14, fun j x hj hx => by have := hb15 j hj; unfold notBelow at this; rw [hx] at this; simpa using this, fun j x hj hx => by have := ha16 j hj (List.getElem?_eq_some_iff.1 hx).1; unfold notBelow at this; rw [hx] at this; simpa using this, ⟨fun _ => ⟨x29, hi30, by assumption⟩, fun _ => rfl⟩⟩, (((hx4.trans' hx9 (fun _ _ h => h) (fun b hb h => h)).trans' hx21 (fun _ _ h => h) (fun b hb h => h)).trans' hx23 (fun _ _ h => h) (fun b hb h => h))⟩
    · refine Go.V.xs.val 0 (by kernel_rfl) (s_eql_f hc36) ?_
      refine Go.V.xs.fin 3 (by kernel_rfl) rfl ?_
      refine .cov [(4, I (i13 : Int)), (5, B false)] (cov_of (by kernel_rfl)) ?_
      refine .ret ?_
      refine ⟨[I (i13 : Int), B false], by kernel_rfl, _, rfl, ?_⟩
      exact ⟨i13, false, rfl, ⟨hi14, fun j x hj hx => by have := hb15 j hj; unfold notBelow at this; rw [hx] at this; simpa using this, fun j x hj hx => by have := ha16 j hj (List.getElem?_eq_some_iff.1 hx).1; unfold notBelow at this; rw [hx] at this; simpa using this, ⟨(fun h => by cases h), fun ⟨x, hx, hk⟩ => by rw [hi30] at hx; have e := Option.some.inj hx; subst e; exact absurd hk (by assumption)⟩⟩, (((hx4.trans' hx9 (fun _ _ h => h) (fun b hb h => h)).trans' hx21 (fun _ _ h => h) (fun b hb h => h)).trans' hx23 (fun _ _ h => h) (fun b hb h => h))⟩
  · refine Go.V.xs.val 1 (by kernel_rfl) (c_lss_f hc25) ?_
    refine Go.V.xs.fin 11 (by kernel_rfl) rfl ?_
    refine .cov [(4, I (i13 : Int)), (5, B false)] (cov_of (by kernel_rfl)) ?_
    refine .ret ?_
    refine ⟨[I (i13 : Int), B false], by kernel_rfl, _, rfl, ?_⟩
    exact ⟨i13, false, rfl, ⟨hi14, fun j x hj hx => by have := hb15 j hj; unfold notBelow at this; rw [hx] at this; simpa using this, fun j x hj hx => by have := ha16 j hj (List.getElem?_eq_some_iff.1 hx).1; unfold notBelow at this; rw [hx] at this; simpa using this, ⟨(fun h => by cases h), fun ⟨x, hx, hk⟩ => by have := (List.getElem?_eq_some_iff.1 hx).1; omega⟩⟩, (((hx4.trans' hx9 (fun _ _ h => h) (fun b hb h => h)).trans' hx21 (fun _ _ h => h) (fun b hb h => h)).trans' hx23 (fun _ _ h => h) (fun b hb h => h))⟩

end Go.Proofs.YtbajgpadmlnffaaGreat
/- Steps in a tree: ways, kids, items in place of others. -/
namespace Go.Proofs.YtbajgpadmlnffaaGreat
open Go.V
set_option maxRecDepth 100000
set_option linter.unusedVariables false
set_option linter.unusedSimpArgs false

/-- Below which kid a key stands. -/
def WayR (l : List Item) (key : ByteArray) (j : Nat) : Prop := ∃ i ok, PlaceR l key i ok ∧ j = if ok then i else i - 1

theorem tree_way (w : World) (A : Option Addr) (cap : Nat) (items : List Item) (lo hi : Nat) (hR : Rd kItem w lo hi A items) (hhi_ : hi ≤ w.heap.size) (hl : items.length ≤ 1000) (hs : SortedI items) (key : ByteArray) :
    Ret Tryz.prog 95 [.slice A items.length cap, S key] w fun v w' => ∃ j : Nat, v = I (j : Int) ∧ WayR items key j ∧ Ext No w w' := by
  refine calls_of_XC Tryz.func95 rfl rfl ?_
  refine .seq ?_
  refine .region ?_
  refine xo.done 1 [(0, .slice A items.length cap), (1, S key)] (by kernel_rfl) rfl (by kernel_rfl) ?_
  refine .seq ?_
  refine .region ?_
  refine xo.ret 2 (by kernel_rfl) (cf93 _ _) (tree_place _ A cap items lo hi hR (by omega) (by omega) hs key) ?_
  rintro _ w4 ⟨i1, ok2, rfl, hP3, hx5⟩
  have z4 := hx5.size
  have hil_ : i1 ≤ items.length := hP3.1
  obtain hfalse | htrue : ok2 = false ∨ ok2 = true := by cases ok2 <;> simp
  · subst hfalse
    refine xo.done 5 [(5, I (i1 : Int)), (6, B false)] (by kernel_rfl) rfl (by kernel_rfl) ?_
    refine .seq ?_
    refine .seq ?_
    refine .region ?_
    refine xo.done 1 [(5, I (i1 : Int)), (13, B false)] (by kernel_rfl) rfl (by kernel_rfl) ?_
    refine .condF rfl rfl ?_
    refine .skip ?_
    refine .seq ?_
    refine .region ?_
    refine xo.val 1 (by kernel_rfl) (a_sub (a := (i1 : Int)) (b := 1) (by omega) (by omega)) ?_
    by_cases hc6 : (0 : Int) < (i1 : Int) - 1
    · refine xo.val 0 (by kernel_rfl) (mx_t (x := 0) (y := (i1 : Int) - 1) hc6) ?_
      refine xo.done 1 [(4, I ((i1 : Int) - 1))] (by kernel_rfl) rfl (by kernel_rfl) ?_
      refine .ret ?_
      refine ⟨[I ((i1 : Int) - 1)], by kernel_rfl, _, rfl, ?_⟩
      exact ⟨i1 - 1, by show I _ = I _; congr 1; omega, ⟨i1, false, hP3, rfl⟩, hx5⟩
    · refine xo.val 0 (by kernel_rfl) (mx_f (x := 0) (y := (i1 : Int) - 1) hc6) ?_
      refine xo.done 1 [(4, I 0)] (by kernel_rfl) rfl (by kernel_rfl) ?_
      refine .ret ?_
      refine ⟨[I 0], by kernel_rfl, _, rfl, ?_⟩
      exact ⟨i1 - 1, by show I _ = I _; congr 1; omega, ⟨i1, false, hP3, rfl⟩, hx5⟩
  · subst htrue
    refine xo.done 5 [(5, I (i1 : Int)), (6, B true)] (by kernel_rfl) rfl (by kernel_rfl) ?_
    refine .seq ?_
    refine .seq ?_
    refine .region ?_
    refine xo.done 1 [(5, I (i1 : Int)), (13, B true)] (by kernel_rfl) rfl (by kernel_rfl) ?_
    refine .condT rfl rfl ?_
    refine .seq ?_
    refine .region ?_
    refine xo.done 2 [(4, I (i1 : Int))] (by kernel_rfl) rfl (by kernel_rfl) ?_
    refine .ret ?_
    refine ⟨[I (i1 : Int)], by kernel_rfl, _, rfl, ?_⟩
    exact ⟨i1, rfl, ⟨i1, true, hP3, rfl⟩, hx5⟩

theorem tree_below (w : World) (a : SAd) (σ : St) (hS : StAt w a σ) (hA : Alive σ) (lv : Int) (A : Option Addr) (cap : Nat) (items : List Item) (lo hi : Nat) (hR : Rd kItem w lo hi A items) (hhi_ : hi ≤ w.heap.size) (j : Nat) (x0 : Item) (hx0 : items[j]? = some x0) (nk : Node) (hN : NodeAt σ x0.kid nk) (hlv : nk.level = lv - 1) (hb : 0 ≤ lv ∧ lv ≤ 1000) :
    Ret Tryz.prog 96 [Pt a.s 0, .agg #[I lv, .slice A items.length cap], I (j : Int)] w fun v w' => ∃ A cap, v = .tuple #[.agg #[I nk.level, .slice A nk.items.length cap], I 0] ∧ StAt w' a σ ∧ Ext No w w' ∧ Own kItem w' w.heap.size A cap nk.items := by
  have lS := hS.bs.lt
  have lMc := hS.mc.lt
  have lMk := hS.mkt.lt
  have hhi := hS.hi
  have nSC : a.s ≠ a.mc := fun e => MapAt.ne hS.mc hS.bs e.symm
  have nKC : a.mkk ≠ a.mc := fun e => hS.cmk e.symm
  refine calls_of_XCr [.cell 6 113, .tmp 7] Tryz.func96 rfl rfl rfl ?_
  refine .seq ?_
  refine .region ?_
  refine xo.box 0 113 (.agg #[I lv, .slice A items.length cap]) [I lv, .slice A items.length cap] (by kernel_rfl) (by kernel_rfl) ?_
  intro b1 w2 hb3 hx4 hg5
  have z2 := hx4.size
  have l3 := hb3.lt
  refine xo.alloc 0 113 [I 0, .slice none 0 0] (by kernel_rfl) (by kernel_rfl) ?_
  intro b6 w7 hb8 hx9 hg10
  have z7 := hx9.size
  have l8 := hb8.lt
  refine xo.done 1 [(0, Pt a.s 0), (2, I (j : Int)), (4, Pt b1 0), (6, Pt b6 0)] (by kernel_rfl) rfl (by kernel_rfl) ?_
  refine .seq ?_
  refine .region ?_
  have hb11 := (hb3.ext hx9 (fun h => h))
  refine xo.val 2 (by kernel_rfl) (ldB (t := 111) (o := 1) (by kernel_rfl) hb11 rfl) ?_
  have hs12 := ((hR.ext hx4 (fun _ _ _ h => h)).ext hx9 (fun _ _ _ h => h))
  obtain ⟨b13, o14, x15, hi16, hA17, hl18, hh19, hr20⟩ := hs12.at_ j (List.getElem?_eq_some_iff.1 hx0).1
  refine xo.val 1 (by kernel_rfl) (idxN (kk := .i64) (t := 111) (n := items.length) (cap := cap) (sz := 3) (i := j) (by kernel_rfl) hA17 (List.getElem?_eq_some_iff.1 hx0).1) ?_
  refine xo.val 1 (by kernel_rfl) (ld (t := 3) (by kernel_rfl) (hr20 2 _ rfl)) ?_
  have e0 : x15 = x0 := Option.some.inj (hi16.symm.trans hx0)
  subst e0
  have hf25 := ((hS.no hx4).no hx9)
  refine xo.ret 0 (by kernel_rfl) (cf68 _ _) (tree_load _ a σ hf25 hA x15.kid nk hN) ?_
  rintro _ w26 ⟨A21, c22, rfl, hS23, hx27, ho24⟩
  have z26 := hx27.size
  refine xo.alloc 3 113 [I 0, .slice none 0 0] (by kernel_rfl) (by kernel_rfl) ?_
  intro b28 w29 hb30 hx31 hg32
  have z29 := hx31.size
  have l30 := hb30.lt
  refine xo.store 0 113 (o := 0) (.agg #[I nk.level, .slice A21 nk.items.length c22]) [I nk.level, .slice A21 nk.items.length c22] (by kernel_rfl) hb30 (by kernel_rfl) (by kernel_rfl) (by kernel_rfl) (by kernel_rfl) ?_
  intro w33 hb34 hx35
  have z33 := hx35.size
  refine xo.done 1 [(4, Pt b1 0), (6, Pt b6 0), (8, Pt b28 0), (9, I 0)] (by kernel_rfl) rfl (by kernel_rfl) ?_
  refine .seq ?_
  refine .seq ?_
  refine .region ?_
  refine xo.val 4 (by kernel_rfl) (ldB (t := 3) (o := 0) (by kernel_rfl) hb34 rfl) ?_
  have hb36 := (((hb11.ext hx27 (fun h => h)).ext hx31 (fun h => h)).ext hx35 (show b1 ≠ b28 by omega))
  refine xo.val 1 (by kernel_rfl) (ldB (t := 3) (o := 0) (by kernel_rfl) hb36 rfl) ?_
  refine xo.val 0 (by kernel_rfl) (a_sub (a := lv) (b := 1) (by omega) (by omega)) ?_
  refine xo.val 0 (by kernel_rfl) (c_neq_t (show (nk.level : Int) = lv - 1 from hlv)) ?_
  refine xo.done 1 [(6, Pt b6 0), (8, Pt b28 0), (9, I 0), (30, B false)] (by kernel_rfl) rfl (by kernel_rfl) ?_
  refine .condF rfl rfl ?_
  refine .skip ?_
  refine .seq ?_
  refine .region ?_
  refine xo.val 0 (by kernel_rfl) (ldBA (t := 113) (o := 0) (vs := [I nk.level, .slice A21 nk.items.length c22]) (by kernel_rfl) hb34 rfl) ?_
  have hb37 := (((hb8.ext hx27 (fun h => h)).ext hx31 (fun h => h)).ext hx35 (show b6 ≠ b28 by omega))
  refine xo.store 1 113 (o := 0) (.agg #[I nk.level, .slice A21 nk.items.length c22]) [I nk.level, .slice A21 nk.items.length c22] (by kernel_rfl) hb37 (by kernel_rfl) (by kernel_rfl) (by kernel_rfl) (by kernel_rfl) ?_
  intro w38 hb39 hx40
  have z38 := hx40.size
  refine xo.done 1 [(6, Pt b6 0), (7, I 0)] (by kernel_rfl) rfl (by kernel_rfl) ?_
  refine .ret ?_
  refine ⟨[.agg #[I nk.level, .slice A21 nk.items.length c22], I 0], ⟨⟨⟨b6, 0, none⟩, by kernel_rfl, lvA (by kernel_rfl) hb39⟩, by kernel_rfl, trivial⟩, _, rfl, ?_⟩
  have hf41 := (((hS23.no hx31).ext hx35 (fun b h1 h2 (e : b = b28) => by omega) (MapAt.ne (hS23.no hx31).mkt hb30) (fun b cs hb (e : b = b28) => Blk.ne hb hb30 rfl e)).ext hx40 (fun b h1 h2 (e : b = b6) => by omega) (MapAt.ne ((hS23.no hx31).ext hx35 (fun b h1 h2 (e : b = b28) => by omega) (MapAt.ne (hS23.no hx31).mkt hb30) (fun b cs hb (e : b = b28) => Blk.ne hb hb30 rfl e)).mkt hb37) (fun b cs hb (e : b = b6) => Blk.ne hb hb37 rfl e))
  have hs42 := (((ho24.ext hx31 (fun _ _ h => h)).ext hx35 (fun b hb (e : b = b28) => (ho24.ext hx31 (fun _ _ h => h)).ne hb30 rfl (e ▸ hb))).ext hx40 (fun b hb (e : b = b6) => ((ho24.ext hx31 (fun _ _ h => h)).ext hx35 (fun b hb (e : b = b28) => (ho24.ext hx31 (fun _ _ h => h)).ne hb30 rfl (e ▸ hb))).ne hb37 rfl (e ▸ hb)))
  exact ⟨_, _, rfl, hf41, (((((hx4.trans' hx9 (fun _ _ h => h) (fun b hb h => h)).trans' hx27 (fun _ _ h => h) (fun b hb h => h)).trans' hx31 (fun _ _ h => h) (fun b hb h => h)).trans' hx35 (fun _ _ h => h) (fun b hb (e : b = b28) => absurd hb (by omega))).trans' hx40 (fun _ _ h => h) (fun b hb (e : b = b6) => absurd hb (by omega))), hs42.base_le (by omega)⟩

def swapL (l : List Item) (i j : Nat) (ws : List Item) : List Item := l.take i ++ ws ++ l.drop j

theorem tree_swap (w : World) (A : Option Addr) (cap : Nat) (items : List Item) (lo hi : Nat) (hR : Rd kItem w lo hi A items) (hhi_ : hi ≤ w.heap.size) (hcap : items.length ≤ cap) (hl : items.length ≤ 1000) (Aw : Option Addr) (capw : Nat) (ws : List Item) (lw uw_ : Nat) (hW : Rd kItem w lw uw_ Aw ws) (hw_ : uw_ ≤ w.heap.size) (hwl : ws.length ≤ 1000) (i j : Nat) (hi_ : i ≤ items.length) (hj_ : j ≤ items.length) :
    Ret Tryz.prog 94 [.slice A items.length cap, I (i : Int), I (j : Int), .slice Aw ws.length capw] w fun v w' => ∃ A' cap', v = .slice A' (swapL items i j ws).length cap' ∧ Own kItem w' w.heap.size A' cap' (swapL items i j ws) ∧ Ext No w w' := by
  refine calls_of_XC Tryz.func94 rfl rfl ?_
  refine .seq ?_
  refine .region ?_
  refine xo.done 1 [(0, .slice A items.length cap), (1, I (i : Int)), (2, I (j : Int)), (3, .slice Aw ws.length capw)] (by kernel_rfl) rfl (by kernel_rfl) ?_
  refine .seq ?_
  refine .regionTail 7 (by kernel_rfl) (by kernel_rfl) ?_
  intro w1 hd2
  have hx2 := Ext.ofDrew (M := No) hd2
  have z1 := hx2.size
  have hs3 := (hR.ext hx2 (fun _ _ _ h => h))
  refine Go.V.xs.val 2 (by kernel_rfl) (vsl_take (t := 111) (A := A) (cap := cap) (sz := 3) (xs := items) (k := i) (by kernel_rfl) (by omega) hcap) ?_
  have hs4 := hs3.take i
  refine Go.V.xs.val 3 (by kernel_rfl) (vsl_drop (t := 111) (A := A) (cap := cap) (sz := 3) (xs := items) (k := j) (by kernel_rfl) (by omega)) ?_
  have hs5 := hs3.drop j hcap
  refine Go.V.xs.fin 0 (by kernel_rfl) rfl ?_
  refine xo.bsl 0 168 3 #[(0, .slice A ((items.take i).length) cap), (1, .slice Aw ws.length capw), (2, .slice ((if cap = j then A else A.map (·.add (j * 3)))) ((items.drop j).length) (cap - j))] (et := 111) (cs := [.slice A ((items.take i).length) cap, .slice Aw ws.length capw, .slice ((if cap = j then A else A.map (·.add (j * 3)))) ((items.drop j).length) (cap - j)]) (by kernel_rfl) (by kernel_rfl) ?_
  intro b6 w7 hb8 hx9 hg10
  have z7 := hx9.size
  have l8 := hb8.lt
  have hs11 := (hs4.ext hx9 (fun _ _ _ h => h))
  have hs12 := ((hW.ext hx2 (fun _ _ _ h => h)).ext hx9 (fun _ _ _ h => h))
  have hs13 := (hs5.ext hx9 (fun _ _ _ h => h))
  refine xo.ret 0 (by kernel_rfl) (cf111 _ _) (cat3_item _ b6 A cap (items.take i) lo hi hs11 (by simp only [List.length_take, List.length_drop]; omega) (by omega) Aw capw ws lw uw_ hs12 (by omega) (by omega) ((if cap = j then A else A.map (·.add (j * 3)))) (cap - j) (items.drop j) lo hi hs13 (by simp only [List.length_take, List.length_drop]; omega) (by omega) hb8) ?_
  rintro _ w17 ⟨A14, c15, rfl, ho16, hx18⟩
  have z17 := hx18.size
  refine xo.done 1 [(8, .slice A14 (((items.take i) ++ ws ++ (items.drop j)).length) c15)] (by kernel_rfl) rfl (by kernel_rfl) ?_
  refine .ret ?_
  refine ⟨[.slice A14 (((items.take i) ++ ws ++ (items.drop j)).length) c15], by kernel_rfl, _, rfl, ?_⟩
  exact ⟨_, _, rfl, ho16.base_le (by omega), ((hx2.trans' hx9 (fun _ _ h => h) (fun b hb h => h)).trans' hx18 (fun _ _ h => h) (fun b hb h => h))⟩

end Go.Proofs.YtbajgpadmlnffaaGreat
/- Items are laid as one node, or as two. -/
namespace Go.Proofs.YtbajgpadmlnffaaGreat
open Go.V
set_option maxRecDepth 100000
set_option linter.unusedVariables false
set_option linter.unusedSimpArgs false

theorem isSome_nameF (ks : List Int) : ∀ (f : Cells) (k : Int), (mfind f k).isSome → (mfind (nameF f ks) k).isSome := by
  induction ks with
  | nil => intro f k h; exact h
  | cons j r ih =>
    intro f k h
    refine ih _ k ?_
    unfold nameC
    rw [mfind_put]
    split
    · rfl
    · exact h
theorem FreeAt.none {σ : St} {id : Int} (h : FreeAt σ id) (h0 : id ≠ 0) : mfind σ.cells id = none := by
  rcases h with ⟨h, _⟩ | ⟨_, _, h, _⟩
  · exact absurd h h0
  · unfold isFree at h
    simp only [Bool.and_eq_true, Option.isNone_iff_eq_none] at h
    exact h.1
theorem badKid_of {σ : St} {k : Int} (h1 : (mfind σ.cells k).isSome) (h2 : highC σ.cells k < 64) : badKid σ k = false := by
  unfold badKid
  cases hm : mfind σ.cells k with
  | none => rw [hm] at h1; cases h1
  | some c => simp; omega
theorem putC_good {σ : St} {id : Int} {ks : List Int} {data : ByteArray} {A : Option Addr} {cap : Nat} (h0 : id ≠ 0) (hF : FreeAt σ id) {k : Int} (hk : badKid σ k = false) : badKid (putC σ id ks data A cap) k = false := by
  obtain ⟨h1, h2⟩ := badKid_ok hk
  have hne : id ≠ k := by
    rintro rfl
    rw [hF.none h0] at h1
    cases h1
  refine badKid_of ?_ ?_
  · show (mfind (mput (nameF σ.cells ks) id _) k).isSome
    rw [mfind_put, if_neg hne]
    exact isSome_nameF ks _ k h1
  · show highC (mput (nameF σ.cells ks) id _) k < 64
    unfold highC
    rw [cget_mput, if_neg hne]
    exact Int.lt_of_le_of_lt (Int.le_of_eq (highC_nameF ks σ.cells k)) h2
theorem SaveR.good {σ σ' : St} {nd : Node} {x : Item} (h : SaveR σ nd σ' (.ok x)) {k : Int} (hk : badKid σ k = false) : badKid σ' k = false := by
  obtain ⟨id, A, cap, y, h0, hF, rfl, _⟩ := h
  exact putC_good h0 hF hk
theorem SaveR.alive {σ σ' : St} {nd : Node} {x : Item} (h : SaveR σ nd σ' (.ok x)) (hA : Alive σ) : Alive σ' := by
  obtain ⟨id, A, cap, y, h0, hF, rfl, _⟩ := h
  exact ⟨hA.burns, hA.off, hA.n8, hA.n4⟩
def partsOf (l : List Item) : List (List Item) := if 8 < l.length then [l.take (l.length / 2), l.drop (l.length / 2)] else [l]
def SavesR (lv : Int) : St → List (List Item) → St → Except Int (List Item) → Prop
  | σ, [], σ', o => σ' = σ ∧ o = .ok []
  | σ, p :: r, σ', o => ∃ σ1 x, SaveR σ ⟨lv, p⟩ σ1 x ∧
    match x with
    | .error c => σ' = σ1 ∧ o = .error c
    | .ok x => ∃ o', SavesR lv σ1 r σ' o' ∧ o = match o' with | .error c => .error c | .ok xs => .ok (x :: xs)
def LaidR (σ : St) (lv : Int) (l : List Item) (σ' : St) (o : Except Int (List Item)) : Prop := SavesR lv σ (partsOf l) σ' o
structure LaidOK (σ : St) (lv : Int) (l : List Item) : Prop where
  pos : 0 < l.length
  few : l.length ≤ 16
  short : ShortI l
  good : ∀ k ∈ kidsL lv l, badKid σ k = false
theorem LaidOK.save {σ : St} {lv : Int} {l p : List Item} (h : LaidOK σ lv l) (hp : ∀ x ∈ p, x ∈ l) (h1 : 0 < p.length) (h2 : p.length ≤ 8) : SaveOK σ ⟨lv, p⟩ :=
  ⟨h1, h2, fun x hx => h.short x (hp x hx), List.any_eq_false.2 fun k hk => by
    have : k ∈ kidsL lv l := by
      unfold kidsOf kidsL at *
      simp only at hk
      split at hk
      · rename_i hl
        rw [if_pos hl]
        obtain ⟨x, hx, rfl⟩ := List.mem_map.1 hk
        exact List.mem_map.2 ⟨x, hp x hx, rfl⟩
      · cases hk
    rw [h.good k this]; decide⟩
theorem LaidOK.next {σ σ' : St} {lv : Int} {l : List Item} {nd : Node} {x : Item} (h : LaidOK σ lv l) (hs : SaveR σ nd σ' (.ok x)) : LaidOK σ' lv l := ⟨h.pos, h.few, h.short, fun k hk => hs.good (h.good k hk)⟩

theorem tree_laid (w : World) (a : SAd) (σ : St) (hS : StAt w a σ) (hA : Alive σ) (lv : Int) (A : Option Addr) (cap : Nat) (items : List Item) (lo hi : Nat) (hR : Rd kItem w lo hi A items) (hhi_ : hi ≤ w.heap.size) (hcap : items.length ≤ cap) (hO : LaidOK σ lv items) :
    Ret Tryz.prog 98 [Pt a.s 0, I lv, .slice A items.length cap] w fun v w' => ∃ (o : Except Int (List Item)) (σ' : St), LaidR σ lv items σ' o ∧ (match o with | .error c => v = .tuple #[.slice none 0 0, I c] | .ok xs => ∃ A cap, v = .tuple #[.slice A xs.length cap, I 0] ∧ Own kItem w' w.heap.size A cap xs) ∧ StAt w' a σ' ∧ Ext a.fpp w w' := by
  have lS := hS.bs.lt
  have lMc := hS.mc.lt
  have lMk := hS.mkt.lt
  have hhi := hS.hi
  have nSC : a.s ≠ a.mc := fun e => MapAt.ne hS.mc hS.bs e.symm
  have nKC : a.mkk ≠ a.mc := fun e => hS.cmk e.symm
  have hf := hO.few
  have hp := hO.pos
  refine calls_of_XC Tryz.func98 rfl rfl ?_
  refine .seq ?_
  refine .region ?_
  refine xo.done 2 [(0, Pt a.s 0), (1, I lv), (2, .slice A items.length cap)] (by kernel_rfl) rfl (by kernel_rfl) ?_
  refine .seq ?_
  refine .region ?_
  refine xo.bsl 1 168 1 #[(0, .slice A items.length cap)] (et := 111) (cs := [.slice A items.length cap]) (by kernel_rfl) (by kernel_rfl) ?_
  intro b1 w2 hb3 hx4 hg5
  have z2 := hx4.size
  have l3 := hb3.lt
  refine xo.done 1 [(0, Pt a.s 0), (1, I lv), (2, .slice A items.length cap), (8, .slice (some ⟨b1, 0, none⟩) 1 1)] (by kernel_rfl) rfl (by kernel_rfl) ?_
  refine .seq ?_
  refine .seq ?_
  refine .region ?_
  by_cases hc6 : ((items.length : Int) : Int) ≤ 8
  · refine xo.val 2 (by kernel_rfl) (c_gtr_t hc6) ?_
    refine xo.done 0 [(0, Pt a.s 0), (1, I lv), (2, .slice A items.length cap), (8, .slice (some ⟨b1, 0, none⟩) 1 1), (18, B false)] (by kernel_rfl) rfl (by kernel_rfl) ?_
    refine .condF rfl rfl ?_
    refine .skip ?_
    refine .seq ?_
    refine .region ?_
    refine xo.done 1 [(0, Pt a.s 0), (1, I lv), (8, .slice (some ⟨b1, 0, none⟩) 1 1), (9, .slice none 0 0)] (by kernel_rfl) rfl (by kernel_rfl) ?_
    refine .seq ?_
    refine .seq ?_
    refine .region ?_
    refine xo.done 3 [(0, Pt a.s 0), (1, I lv), (9, .slice none 0 0), (30, .slice (some ⟨b1, 0, none⟩) 1 1), (31, I 1), (32, I 0)] (by kernel_rfl) rfl (by kernel_rfl) ?_
    refine .block ?_
    refine XC.unroll 2 ?_
    refine rnd.next ?_
    refine .seq ?_
    refine .region ?_
    refine xo.done 1 [(0, Pt a.s 0), (1, I lv), (9, .slice none 0 0), (30, .slice (some ⟨b1, 0, none⟩) 1 1), (31, I 1), (32, I 0), (33, B true)] (by kernel_rfl) rfl (by kernel_rfl) ?_
    refine .seq ?_
    refine .condT rfl rfl ?_
    refine .skip ?_
    refine .seq ?_
    refine .block ?_
    refine .seq ?_
    refine .region ?_
    refine xo.val 0 (by kernel_rfl) (idxN (kk := .i64) (t := 168) (A := (some ⟨b1, 0, none⟩)) (n := 1) (cap := 1) (sz := 1) (i := 0) (b := b1) (o := 0) (by kernel_rfl) rfl (by omega)) ?_
    refine xo.val 0 (by kernel_rfl) (ldB (t := 111) (o := 0) (by kernel_rfl) hb3 rfl) ?_
    refine xo.done 1 [(0, Pt a.s 0), (1, I lv), (9, .slice none 0 0), (11, .slice A items.length cap), (30, .slice (some ⟨b1, 0, none⟩) 1 1), (31, I 1), (32, I 0)] (by kernel_rfl) rfl (by kernel_rfl) ?_
    refine .seq ?_
    refine .region ?_
    have hs7 := (hR.ext hx4 (fun _ _ _ h => h))
    have hf8 := (hS.no hx4)
    refine xo.ret 4 (by kernel_rfl) (cf70 _ _) (tree_save _ a σ hf8 hA lv A cap items lo hi hs7 (by omega) (hO.save (fun x hx => hx) (by omega) (by omega))) ?_
    rintro _ w9 ⟨(c10 | x11), σ12, hR13, hv14, hS15, hx16⟩
    · obtain ⟨y17, rfl⟩ := hv14
      have h28 : c10 = 28 := hR13.1
      subst h28
      have z9 := hx16.size
      refine xo.alloc 3 119 [S (⟨#[]⟩), S (⟨#[]⟩), I 0] (by kernel_rfl) (by kernel_rfl) ?_
      intro b18 w19 hb20 hx21 hg22
      have z19 := hx21.size
      have l20 := hb20.lt
      refine xo.store 0 119 (o := 0) (.agg #[S y17.key, S y17.val, I y17.kid]) [S y17.key, S y17.val, I y17.kid] (by kernel_rfl) hb20 (by kernel_rfl) (by kernel_rfl) (by kernel_rfl) (by kernel_rfl) ?_
      intro w23 hb24 hx25
      have z23 := hx25.size
      refine xo.done 1 [(0, Pt a.s 0), (1, I lv), (9, .slice none 0 0), (12, Pt b18 0), (13, I 28), (30, .slice (some ⟨b1, 0, none⟩) 1 1), (31, I 1), (32, I 0)] (by kernel_rfl) rfl (by kernel_rfl) ?_
      refine .seq ?_
      refine .seq ?_
      refine .region ?_
      refine xo.done 2 [(0, Pt a.s 0), (1, I lv), (9, .slice none 0 0), (12, Pt b18 0), (13, I 28), (30, .slice (some ⟨b1, 0, none⟩) 1 1), (31, I 1), (32, I 0), (45, B true)] (by kernel_rfl) rfl (by kernel_rfl) ?_
      refine .condT rfl rfl ?_
      refine .seq ?_
      refine .region ?_
      refine xo.done 3 [(6, .slice none 0 0), (7, I 28)] (by kernel_rfl) rfl (by kernel_rfl) ?_
      refine .ret ?_
      refine ⟨[.slice none 0 0, I 28], by kernel_rfl, _, rfl, ?_⟩
      have hf26 := ((hS15.no hx21).ext hx25 (fun b h1 h2 (e : b = b18) => by omega) (MapAt.ne (hS15.no hx21).mkt hb20) (fun b cs hb (e : b = b18) => Blk.ne hb hb20 rfl e))
      exact ⟨.error 28, _, by unfold LaidR partsOf; rw [if_neg (by omega)]; exact ⟨_, .error 28, hR13, rfl, rfl⟩, rfl, hf26, ((((hx4.weak fun b hb h => h.elim).trans' hx16 (fun _ _ h => h) (fun b hb q => q)).trans' hx21 (fun _ _ h => h) (fun b hb h => h.elim)).trans' hx25 (fun _ _ h => h) (fun b hb (q : b = b18) => absurd hb (by omega)))⟩
    · obtain rfl := hv14
      have z9 := hx16.size
      refine xo.alloc 3 119 [S (⟨#[]⟩), S (⟨#[]⟩), I 0] (by kernel_rfl) (by kernel_rfl) ?_
      intro b27 w28 hb29 hx30 hg31
      have z28 := hx30.size
      have l29 := hb29.lt
      refine xo.store 0 119 (o := 0) (.agg #[S x11.key, S x11.val, I x11.kid]) [S x11.key, S x11.val, I x11.kid] (by kernel_rfl) hb29 (by kernel_rfl) (by kernel_rfl) (by kernel_rfl) (by kernel_rfl) ?_
      intro w32 hb33 hx34
      have z32 := hx34.size
      refine xo.done 1 [(0, Pt a.s 0), (1, I lv), (9, .slice none 0 0), (12, Pt b27 0), (13, I 0), (30, .slice (some ⟨b1, 0, none⟩) 1 1), (31, I 1), (32, I 0)] (by kernel_rfl) rfl (by kernel_rfl) ?_
      refine .seq ?_
      refine .seq ?_
      refine .region ?_
      refine xo.done 2 [(0, Pt a.s 0), (1, I lv), (9, .slice none 0 0), (12, Pt b27 0), (13, I 0), (30, .slice (some ⟨b1, 0, none⟩) 1 1), (31, I 1), (32, I 0), (45, B false)] (by kernel_rfl) rfl (by kernel_rfl) ?_
      refine .condF rfl rfl ?_
      refine .skip ?_
      refine .region ?_
      refine xo.val 1 (by kernel_rfl) (ldBA (t := 119) (o := 0) (vs := [S x11.key, S x11.val, I x11.kid]) (by kernel_rfl) hb33 rfl) ?_
      refine xo.bsl 0 111 1 #[(0, .agg #[S x11.key, S x11.val, I x11.kid])] (et := 119) (cs := [S x11.key, S x11.val, I x11.kid]) (by kernel_rfl) (by kernel_rfl) ?_
      intro b35 w36 hb37 hx38 hg39
      have z36 := hx38.size
      have l37 := hb37.lt
      refine xo.app 0 (ty := 111) (k := kItem) (t := 111) (tx := 111) (xs := []) (ys := [(⟨x11.key, x11.val, x11.kid⟩ : Item)]) (x := .slice (some ⟨b35, 0, none⟩) 1 1) (by exact pItem) (Own.nil (k := kItem) (w := w36) (base := w.heap.size)) (src_one (k := kItem) (x := (⟨x11.key, x11.val, x11.kid⟩ : Item)) (by kernel_rfl) hb37 rfl) (by omega) (show (0 + 1) * 40 ≤ 140737488355328 from (by first | omega | (simp only [List.length_append, List.length_cons, List.length_nil]; omega))) (show 0 + 1 ≤ 9223372036854775807 from (by first | omega | (simp only [List.length_append, List.length_cons, List.length_nil]; omega))) (by kernel_rfl) ?_
      intro A40 c41 w42 ho43 hx44
      have z42 := hx44.size
      have ho45 : Own kItem w42 w.heap.size A40 c41 ([(⟨x11.key, x11.val, x11.kid⟩ : Item)]) := ho43
      refine xo.done 1 [(0, Pt a.s 0), (1, I lv), (9, .slice A40 (([(⟨x11.key, x11.val, x11.kid⟩ : Item)]).length) c41), (30, .slice (some ⟨b1, 0, none⟩) 1 1), (31, I 1), (32, I 0)] (by kernel_rfl) rfl (by kernel_rfl) ?_
      refine .region ?_
      refine xo.fin 2 (by kernel_rfl) rfl ?_
      refine rnd.cov [(0, Pt a.s 0), (1, I lv), (9, .slice A40 (([(⟨x11.key, x11.val, x11.kid⟩ : Item)]).length) c41), (30, .slice (some ⟨b1, 0, none⟩) 1 1), (31, I 1), (32, I 1)] (by kernel_rfl) ?_
      refine rnd.next ?_
      refine .seq ?_
      refine .region ?_
      refine xo.done 1 [(0, Pt a.s 0), (1, I lv), (9, .slice A40 (([(⟨x11.key, x11.val, x11.kid⟩ : Item)]).length) c41), (30, .slice (some ⟨b1, 0, none⟩) 1 1), (31, I 1), (32, I 1), (33, B false)] (by kernel_rfl) rfl (by kernel_rfl) ?_
      refine .seq ?_
      refine .condF rfl rfl ?_
      refine .exit ?_
      refine xsetTo ?_
      refine .seq ?_
      refine .region ?_
      refine xo.done 3 [(6, .slice A40 (([(⟨x11.key, x11.val, x11.kid⟩ : Item)]).length) c41), (7, I 0)] (by kernel_rfl) rfl (by kernel_rfl) ?_
      refine .ret ?_
      refine ⟨[.slice A40 (([(⟨x11.key, x11.val, x11.kid⟩ : Item)]).length) c41, I 0], by kernel_rfl, _, rfl, ?_⟩
      have hf46 := ((((hS15.no hx30).ext hx34 (fun b h1 h2 (e : b = b27) => by omega) (MapAt.ne (hS15.no hx30).mkt hb29) (fun b cs hb (e : b = b27) => Blk.ne hb hb29 rfl e)).no hx38).ext hx44 (fun b h1 h2 hm => absurd ((Own.nil (k := kItem) (w := w36) (base := w.heap.size)).lt hm).1 (by omega)) ((Own.nil (k := kItem) (w := w36) (base := w.heap.size)).ne_map (((hS15.no hx30).ext hx34 (fun b h1 h2 (e : b = b27) => by omega) (MapAt.ne (hS15.no hx30).mkt hb29) (fun b cs hb (e : b = b27) => Blk.ne hb hb29 rfl e)).no hx38).mkt) (fun b cs hb hm => (Own.nil (k := kItem) (w := w36) (base := w.heap.size)).ne hb rfl hm))
      exact ⟨.ok [x11], _, by unfold LaidR partsOf; rw [if_neg (by omega)]; exact ⟨_, .ok x11, hR13, _, ⟨rfl, rfl⟩, rfl⟩, ⟨_, _, rfl, ho45.base_le (by omega)⟩, hf46, ((((((hx4.weak fun b hb h => h.elim).trans' hx16 (fun _ _ h => h) (fun b hb q => q)).trans' hx30 (fun _ _ h => h) (fun b hb h => h.elim)).trans' hx34 (fun _ _ h => h) (fun b hb (q : b = b27) => absurd hb (by omega))).trans' hx38 (fun _ _ h => h) (fun b hb h => h.elim)).trans' hx44 (fun _ _ h => h) (fun b hb hm => absurd ((Own.nil (k := kItem) (w := w36) (base := w.heap.size)).lt hm).1 (by omega)))⟩
  · refine xo.val 2 (by kernel_rfl) (c_gtr_f hc6) ?_
    refine xo.done 0 [(0, Pt a.s 0), (1, I lv), (2, .slice A items.length cap), (8, .slice (some ⟨b1, 0, none⟩) 1 1), (18, B true)] (by kernel_rfl) rfl (by kernel_rfl) ?_
    refine .condT rfl rfl ?_
    refine .regionTail 10 (by kernel_rfl) (by kernel_rfl) ?_
    intro w47 hd48
    have hx48 := Ext.ofDrew (M := No) hd48
    have z47 := hx48.size
    refine Go.V.xs.val 3 (by kernel_rfl) (a_quo2 (n := items.length) (by omega)) ?_
    have hs49 := ((hR.ext hx4 (fun _ _ _ h => h)).ext hx48 (fun _ _ _ h => h))
    refine Go.V.xs.val 0 (by kernel_rfl) (vsl_take (t := 111) (A := A) (cap := cap) (sz := 3) (xs := items) (k := ((((items.length / 2 : Nat) : Int)).toNat)) (by kernel_rfl) (by omega) hcap) ?_
    have hs50 := hs49.take ((((items.length / 2 : Nat) : Int)).toNat)
    refine Go.V.xs.val 3 (by kernel_rfl) (a_quo2 (n := items.length) (by omega)) ?_
    refine Go.V.xs.val 0 (by kernel_rfl) (vsl_drop (t := 111) (A := A) (cap := cap) (sz := 3) (xs := items) (k := ((((items.length / 2 : Nat) : Int)).toNat)) (by kernel_rfl) (by omega)) ?_
    have hs51 := hs49.drop ((((items.length / 2 : Nat) : Int)).toNat) hcap
    refine Go.V.xs.fin 0 (by kernel_rfl) rfl ?_
    refine xo.bsl 0 168 2 #[(0, .slice A ((items.take ((((items.length / 2 : Nat) : Int)).toNat)).length) cap), (1, .slice ((if cap = ((((items.length / 2 : Nat) : Int)).toNat) then A else A.map (·.add (((((items.length / 2 : Nat) : Int)).toNat) * 3)))) ((items.drop ((((items.length / 2 : Nat) : Int)).toNat)).length) (cap - ((((items.length / 2 : Nat) : Int)).toNat)))] (et := 111) (cs := [.slice A ((items.take ((((items.length / 2 : Nat) : Int)).toNat)).length) cap, .slice ((if cap = ((((items.length / 2 : Nat) : Int)).toNat) then A else A.map (·.add (((((items.length / 2 : Nat) : Int)).toNat) * 3)))) ((items.drop ((((items.length / 2 : Nat) : Int)).toNat)).length) (cap - ((((items.length / 2 : Nat) : Int)).toNat))]) (by kernel_rfl) (by kernel_rfl) ?_
    intro b52 w53 hb54 hx55 hg56
    have z53 := hx55.size
    have l54 := hb54.lt
    refine xo.done 1 [(0, Pt a.s 0), (1, I lv), (8, .slice (some ⟨b52, 0, none⟩) 2 2)] (by kernel_rfl) rfl (by kernel_rfl) ?_
    refine .seq ?_
    refine .region ?_
    refine xo.done 1 [(0, Pt a.s 0), (1, I lv), (8, .slice (some ⟨b52, 0, none⟩) 2 2), (9, .slice none 0 0)] (by kernel_rfl) rfl (by kernel_rfl) ?_
    refine .seq ?_
    refine .seq ?_
    refine .region ?_
    refine xo.done 3 [(0, Pt a.s 0), (1, I lv), (9, .slice none 0 0), (30, .slice (some ⟨b52, 0, none⟩) 2 2), (31, I 2), (32, I 0)] (by kernel_rfl) rfl (by kernel_rfl) ?_
    refine .block ?_
    refine XC.unroll 3 ?_
    refine rnd.next ?_
    refine .seq ?_
    refine .region ?_
    refine xo.done 1 [(0, Pt a.s 0), (1, I lv), (9, .slice none 0 0), (30, .slice (some ⟨b52, 0, none⟩) 2 2), (31, I 2), (32, I 0), (33, B true)] (by kernel_rfl) rfl (by kernel_rfl) ?_
    refine .seq ?_
    refine .condT rfl rfl ?_
    refine .skip ?_
    refine .seq ?_
    refine .block ?_
    refine .seq ?_
    refine .region ?_
    refine xo.val 0 (by kernel_rfl) (idxN (kk := .i64) (t := 168) (A := (some ⟨b52, 0, none⟩)) (n := 2) (cap := 2) (sz := 1) (i := 0) (b := b52) (o := 0) (by kernel_rfl) rfl (by omega)) ?_
    refine xo.val 0 (by kernel_rfl) (ldB (t := 111) (o := 0) (by kernel_rfl) hb54 rfl) ?_
    refine xo.done 1 [(0, Pt a.s 0), (1, I lv), (9, .slice none 0 0), (11, .slice A ((items.take ((((items.length / 2 : Nat) : Int)).toNat)).length) cap), (30, .slice (some ⟨b52, 0, none⟩) 2 2), (31, I 2), (32, I 0)] (by kernel_rfl) rfl (by kernel_rfl) ?_
    refine .seq ?_
    refine .region ?_
    have hs57 := (hs50.ext hx55 (fun _ _ _ h => h))
    have hf58 := (((hS.no hx4).no hx48).no hx55)
    refine xo.ret 4 (by kernel_rfl) (cf70 _ _) (tree_save _ a σ hf58 hA lv A cap (items.take ((((items.length / 2 : Nat) : Int)).toNat)) lo hi hs57 (by omega) (hO.save (fun x hx => List.mem_of_mem_take hx) (by simp only [List.length_take, List.length_drop]; omega) (by simp only [List.length_take, List.length_drop]; omega))) ?_
    rintro _ w59 ⟨(c60 | x61), σ62, hR63, hv64, hS65, hx66⟩
    · obtain ⟨y67, rfl⟩ := hv64
      have h28 : c60 = 28 := hR63.1
      subst h28
      have z59 := hx66.size
      refine xo.alloc 3 119 [S (⟨#[]⟩), S (⟨#[]⟩), I 0] (by kernel_rfl) (by kernel_rfl) ?_
      intro b68 w69 hb70 hx71 hg72
      have z69 := hx71.size
      have l70 := hb70.lt
      refine xo.store 0 119 (o := 0) (.agg #[S y67.key, S y67.val, I y67.kid]) [S y67.key, S y67.val, I y67.kid] (by kernel_rfl) hb70 (by kernel_rfl) (by kernel_rfl) (by kernel_rfl) (by kernel_rfl) ?_
      intro w73 hb74 hx75
      have z73 := hx75.size
      refine xo.done 1 [(0, Pt a.s 0), (1, I lv), (9, .slice none 0 0), (12, Pt b68 0), (13, I 28), (30, .slice (some ⟨b52, 0, none⟩) 2 2), (31, I 2), (32, I 0)] (by kernel_rfl) rfl (by kernel_rfl) ?_
      refine .seq ?_
      refine .seq ?_
      refine .region ?_
      refine xo.done 2 [(0, Pt a.s 0), (1, I lv), (9, .slice none 0 0), (12, Pt b68 0), (13, I 28), (30, .slice (some ⟨b52, 0, none⟩) 2 2), (31, I 2), (32, I 0), (45, B true)] (by kernel_rfl) rfl (by kernel_rfl) ?_
      refine .condT rfl rfl ?_
      refine .seq ?_
      refine .region ?_
      refine xo.done 3 [(6, .slice none 0 0), (7, I 28)] (by kernel_rfl) rfl (by kernel_rfl) ?_
      refine .ret ?_
      refine ⟨[.slice none 0 0, I 28], by kernel_rfl, _, rfl, ?_⟩
      have hf76 := ((hS65.no hx71).ext hx75 (fun b h1 h2 (e : b = b68) => by omega) (MapAt.ne (hS65.no hx71).mkt hb70) (fun b cs hb (e : b = b68) => Blk.ne hb hb70 rfl e))
      exact ⟨.error 28, _, by unfold LaidR partsOf; rw [if_pos (by omega)]; exact ⟨_, .error 28, hR63, rfl, rfl⟩, rfl, hf76, ((((((hx4.weak fun b hb h => h.elim).trans' hx48 (fun _ _ h => h) (fun b hb h => h.elim)).trans' hx55 (fun _ _ h => h) (fun b hb h => h.elim)).trans' hx66 (fun _ _ h => h) (fun b hb q => q)).trans' hx71 (fun _ _ h => h) (fun b hb h => h.elim)).trans' hx75 (fun _ _ h => h) (fun b hb (q : b = b68) => absurd hb (by omega)))⟩
    · obtain rfl := hv64
      have z59 := hx66.size
      refine xo.alloc 3 119 [S (⟨#[]⟩), S (⟨#[]⟩), I 0] (by kernel_rfl) (by kernel_rfl) ?_
      intro b77 w78 hb79 hx80 hg81
      have z78 := hx80.size
      have l79 := hb79.lt
      refine xo.store 0 119 (o := 0) (.agg #[S x61.key, S x61.val, I x61.kid]) [S x61.key, S x61.val, I x61.kid] (by kernel_rfl) hb79 (by kernel_rfl) (by kernel_rfl) (by kernel_rfl) (by kernel_rfl) ?_
      intro w82 hb83 hx84
      have z82 := hx84.size
      refine xo.done 1 [(0, Pt a.s 0), (1, I lv), (9, .slice none 0 0), (12, Pt b77 0), (13, I 0), (30, .slice (some ⟨b52, 0, none⟩) 2 2), (31, I 2), (32, I 0)] (by kernel_rfl) rfl (by kernel_rfl) ?_
      refine .seq ?_
      refine .seq ?_
      refine .region ?_
      refine xo.done 2 [(0, Pt a.s 0), (1, I lv), (9, .slice none 0 0), (12, Pt b77 0), (13, I 0), (30, .slice (some ⟨b52, 0, none⟩) 2 2), (31, I 2), (32, I 0), (45, B false)] (by kernel_rfl) rfl (by kernel_rfl) ?_
      refine .condF rfl rfl ?_
      refine .skip ?_
      refine .region ?_
      refine xo.val 1 (by kernel_rfl) (ldBA (t := 119) (o := 0) (vs := [S x61.key, S x61.val, I x61.kid]) (by kernel_rfl) hb83 rfl) ?_
      refine xo.bsl 0 111 1 #[(0, .agg #[S x61.key, S x61.val, I x61.kid])] (et := 119) (cs := [S x61.key, S x61.val, I x61.kid]) (by kernel_rfl) (by kernel_rfl) ?_
      intro b85 w86 hb87 hx88 hg89
      have z86 := hx88.size
      have l87 := hb87.lt
      refine xo.app 0 (ty := 111) (k := kItem) (t := 111) (tx := 111) (xs := []) (ys := [(⟨x61.key, x61.val, x61.kid⟩ : Item)]) (x := .slice (some ⟨b85, 0, none⟩) 1 1) (by exact pItem) (Own.nil (k := kItem) (w := w86) (base := w.heap.size)) (src_one (k := kItem) (x := (⟨x61.key, x61.val, x61.kid⟩ : Item)) (by kernel_rfl) hb87 rfl) (by omega) (show (0 + 1) * 40 ≤ 140737488355328 from (by first | omega | (simp only [List.length_append, List.length_cons, List.length_nil]; omega))) (show 0 + 1 ≤ 9223372036854775807 from (by first | omega | (simp only [List.length_append, List.length_cons, List.length_nil]; omega))) (by kernel_rfl) ?_
      intro A90 c91 w92 ho93 hx94
      have z92 := hx94.size
      have ho95 : Own kItem w92 w.heap.size A90 c91 ([(⟨x61.key, x61.val, x61.kid⟩ : Item)]) := ho93
      refine xo.done 1 [(0, Pt a.s 0), (1, I lv), (9, .slice A90 (([(⟨x61.key, x61.val, x61.kid⟩ : Item)]).length) c91), (30, .slice (some ⟨b52, 0, none⟩) 2 2), (31, I 2), (32, I 0)] (by kernel_rfl) rfl (by kernel_rfl) ?_
      refine .region ?_
      refine xo.fin 2 (by kernel_rfl) rfl ?_
      refine rnd.cov [(0, Pt a.s 0), (1, I lv), (9, .slice A90 (([(⟨x61.key, x61.val, x61.kid⟩ : Item)]).length) c91), (30, .slice (some ⟨b52, 0, none⟩) 2 2), (31, I 2), (32, I 1)] (by kernel_rfl) ?_
      refine rnd.next ?_
      refine .seq ?_
      refine .region ?_
      refine xo.done 1 [(0, Pt a.s 0), (1, I lv), (9, .slice A90 (([(⟨x61.key, x61.val, x61.kid⟩ : Item)]).length) c91), (30, .slice (some ⟨b52, 0, none⟩) 2 2), (31, I 2), (32, I 1), (33, B true)] (by kernel_rfl) rfl (by kernel_rfl) ?_
      refine .seq ?_
      refine .condT rfl rfl ?_
      refine .skip ?_
      refine .seq ?_
      refine .block ?_
      refine .seq ?_
      refine .region ?_
      refine xo.val 0 (by kernel_rfl) (idxN (kk := .i64) (t := 168) (A := (some ⟨b52, 0, none⟩)) (n := 2) (cap := 2) (sz := 1) (i := 1) (b := b52) (o := 0) (by kernel_rfl) rfl (by omega)) ?_
      have hb96 := (((((hb54.extm hx66 hf58.maps).ext hx80 (fun h => h)).ext hx84 (show b52 ≠ b77 by omega)).ext hx88 (fun h => h)).ext hx94 ((Own.nil (k := kItem) (w := w86) (base := w.heap.size)).ne ((((hb54.extm hx66 hf58.maps).ext hx80 (fun h => h)).ext hx84 (show b52 ≠ b77 by omega)).ext hx88 (fun h => h)) rfl))
      refine xo.val 0 (by kernel_rfl) (ldB (t := 111) (o := 1) (by kernel_rfl) hb96 rfl) ?_
      refine xo.done 1 [(0, Pt a.s 0), (1, I lv), (9, .slice A90 (([(⟨x61.key, x61.val, x61.kid⟩ : Item)]).length) c91), (11, .slice ((if cap = ((((items.length / 2 : Nat) : Int)).toNat) then A else A.map (·.add (((((items.length / 2 : Nat) : Int)).toNat) * 3)))) ((items.drop ((((items.length / 2 : Nat) : Int)).toNat)).length) (cap - ((((items.length / 2 : Nat) : Int)).toNat))), (30, .slice (some ⟨b52, 0, none⟩) 2 2), (31, I 2), (32, I 1)] (by kernel_rfl) rfl (by kernel_rfl) ?_
      refine .seq ?_
      refine .region ?_
      have hs97 := ((((((hs51.ext hx55 (fun _ _ _ h => h)).extm hx66 hf58.maps).ext hx80 (fun _ _ _ h => h)).ext hx84 (fun b h1 h2 (e : b = b77) => by omega)).ext hx88 (fun _ _ _ h => h)).ext hx94 (fun b h1 h2 hm => absurd ((Own.nil (k := kItem) (w := w86) (base := w.heap.size)).lt hm).1 (by omega)))
      have hf98 := ((((hS65.no hx80).ext hx84 (fun b h1 h2 (e : b = b77) => by omega) (MapAt.ne (hS65.no hx80).mkt hb79) (fun b cs hb (e : b = b77) => Blk.ne hb hb79 rfl e)).no hx88).ext hx94 (fun b h1 h2 hm => absurd ((Own.nil (k := kItem) (w := w86) (base := w.heap.size)).lt hm).1 (by omega)) ((Own.nil (k := kItem) (w := w86) (base := w.heap.size)).ne_map (((hS65.no hx80).ext hx84 (fun b h1 h2 (e : b = b77) => by omega) (MapAt.ne (hS65.no hx80).mkt hb79) (fun b cs hb (e : b = b77) => Blk.ne hb hb79 rfl e)).no hx88).mkt) (fun b cs hb hm => (Own.nil (k := kItem) (w := w86) (base := w.heap.size)).ne hb rfl hm))
      refine xo.ret 4 (by kernel_rfl) (cf70 _ _) (tree_save _ a σ62 hf98 (hR63.alive hA) lv ((if cap = ((((items.length / 2 : Nat) : Int)).toNat) then A else A.map (·.add (((((items.length / 2 : Nat) : Int)).toNat) * 3)))) (cap - ((((items.length / 2 : Nat) : Int)).toNat)) (items.drop ((((items.length / 2 : Nat) : Int)).toNat)) lo hi hs97 (by omega) ((hO.next hR63).save (fun x hx => List.mem_of_mem_drop hx) (by simp only [List.length_take, List.length_drop]; omega) (by simp only [List.length_take, List.length_drop]; omega))) ?_
      rintro _ w99 ⟨(c100 | x101), σ102, hR103, hv104, hS105, hx106⟩
      · obtain ⟨y107, rfl⟩ := hv104
        have h28 : c100 = 28 := hR103.1
        subst h28
        have z99 := hx106.size
        refine xo.alloc 3 119 [S (⟨#[]⟩), S (⟨#[]⟩), I 0] (by kernel_rfl) (by kernel_rfl) ?_
        intro b108 w109 hb110 hx111 hg112
        have z109 := hx111.size
        have l110 := hb110.lt
        refine xo.store 0 119 (o := 0) (.agg #[S y107.key, S y107.val, I y107.kid]) [S y107.key, S y107.val, I y107.kid] (by kernel_rfl) hb110 (by kernel_rfl) (by kernel_rfl) (by kernel_rfl) (by kernel_rfl) ?_
        intro w113 hb114 hx115
        have z113 := hx115.size
        refine xo.done 1 [(0, Pt a.s 0), (1, I lv), (9, .slice A90 (([(⟨x61.key, x61.val, x61.kid⟩ : Item)]).length) c91), (12, Pt b108 0), (13, I 28), (30, .slice (some ⟨b52, 0, none⟩) 2 2), (31, I 2), (32, I 1)] (by kernel_rfl) rfl (by kernel_rfl) ?_
        refine .seq ?_
        refine .seq ?_
        refine .region ?_
        refine xo.done 2 [(0, Pt a.s 0), (1, I lv), (9, .slice A90 (([(⟨x61.key, x61.val, x61.kid⟩ : Item)]).length) c91), (12, Pt b108 0), (13, I 28), (30, .slice (some ⟨b52, 0, none⟩) 2 2), (31, I 2), (32, I 1), (45, B true)] (by kernel_rfl) rfl (by kernel_rfl) ?_
        refine .condT rfl rfl ?_
        refine .seq ?_
        refine .region ?_
        refine xo.done 3 [(6, .slice none 0 0), (7, I 28)] (by kernel_rfl) rfl (by kernel_rfl) ?_
        refine .ret ?_
        refine ⟨[.slice none 0 0, I 28], by kernel_rfl, _, rfl, ?_⟩
        have hf116 := ((hS105.no hx111).ext hx115 (fun b h1 h2 (e : b = b108) => by omega) (MapAt.ne (hS105.no hx111).mkt hb110) (fun b cs hb (e : b = b108) => Blk.ne hb hb110 rfl e))
        exact ⟨.error 28, _, by unfold LaidR partsOf; rw [if_pos (by omega)]; exact ⟨_, .ok x61, hR63, _, ⟨_, .error 28, hR103, rfl, rfl⟩, rfl⟩, rfl, hf116, (((((((((((hx4.weak fun b hb h => h.elim).trans' hx48 (fun _ _ h => h) (fun b hb h => h.elim)).trans' hx55 (fun _ _ h => h) (fun b hb h => h.elim)).trans' hx66 (fun _ _ h => h) (fun b hb q => q)).trans' hx80 (fun _ _ h => h) (fun b hb h => h.elim)).trans' hx84 (fun _ _ h => h) (fun b hb (q : b = b77) => absurd hb (by omega))).trans' hx88 (fun _ _ h => h) (fun b hb h => h.elim)).trans' hx94 (fun _ _ h => h) (fun b hb hm => absurd ((Own.nil (k := kItem) (w := w86) (base := w.heap.size)).lt hm).1 (by omega))).trans' hx106 (fun _ _ h => h) (fun b hb q => q)).trans' hx111 (fun _ _ h => h) (fun b hb h => h.elim)).trans' hx115 (fun _ _ h => h) (fun b hb (q : b = b108) => absurd hb (by omega)))⟩
      · obtain rfl := hv104
        have z99 := hx106.size
        refine xo.alloc 3 119 [S (⟨#[]⟩), S (⟨#[]⟩), I 0] (by kernel_rfl) (by kernel_rfl) ?_
        intro b117 w118 hb119 hx120 hg121
        have z118 := hx120.size
        have l119 := hb119.lt
        refine xo.store 0 119 (o := 0) (.agg #[S x101.key, S x101.val, I x101.kid]) [S x101.key, S x101.val, I x101.kid] (by kernel_rfl) hb119 (by kernel_rfl) (by kernel_rfl) (by kernel_rfl) (by kernel_rfl) ?_
        intro w122 hb123 hx124
        have z122 := hx124.size
        refine xo.done 1 [(0, Pt a.s 0), (1, I lv), (9, .slice A90 (([(⟨x61.key, x61.val, x61.kid⟩ : Item)]).length) c91), (12, Pt b117 0), (13, I 0), (30, .slice (some ⟨b52, 0, none⟩) 2 2), (31, I 2), (32, I 1)] (by kernel_rfl) rfl (by kernel_rfl) ?_
        refine .seq ?_
        refine .seq ?_
        refine .region ?_
        refine xo.done 2 [(0, Pt a.s 0), (1, I lv), (9, .slice A90 (([(⟨x61.key, x61.val, x61.kid⟩ : Item)]).length) c91), (12, Pt b117 0), (13, I 0), (30, .slice (some ⟨b52, 0, none⟩) 2 2), (31, I 2), (32, I 1), (45, B false)] (by kernel_rfl) rfl (by kernel_rfl) ?_
        refine .condF rfl rfl ?_
        refine .skip ?_
        refine .region ?_
        refine xo.val 1 (by kernel_rfl) (ldBA (t := 119) (o := 0) (vs := [S x101.key, S x101.val, I x101.kid]) (by kernel_rfl) hb123 rfl) ?_
        refine xo.bsl 0 111 1 #[(0, .agg #[S x101.key, S x101.val, I x101.kid])] (et := 119) (cs := [S x101.key, S x101.val, I x101.kid]) (by kernel_rfl) (by kernel_rfl) ?_
        intro b125 w126 hb127 hx128 hg129
        have z126 := hx128.size
        have l127 := hb127.lt
        have hs130 := ((((ho95.extm hx106 hf98.maps).ext hx120 (fun _ _ h => h)).ext hx124 (fun b hb (e : b = b117) => by have := (ho95.lt hb).2; omega)).ext hx128 (fun _ _ h => h))
        refine xo.app 0 (ty := 111) (k := kItem) (t := 111) (tx := 111) (xs := [(⟨x61.key, x61.val, x61.kid⟩ : Item)]) (ys := [(⟨x101.key, x101.val, x101.kid⟩ : Item)]) (x := .slice (some ⟨b125, 0, none⟩) 1 1) (by exact pItem) hs130 (src_one (k := kItem) (x := (⟨x101.key, x101.val, x101.kid⟩ : Item)) (by kernel_rfl) hb127 rfl) (by omega) (show (([(⟨x61.key, x61.val, x61.kid⟩ : Item)]).length + 1) * 40 ≤ 140737488355328 from (by first | omega | (simp only [List.length_append, List.length_cons, List.length_nil]; omega))) (show ([(⟨x61.key, x61.val, x61.kid⟩ : Item)]).length + 1 ≤ 9223372036854775807 from (by first | omega | (simp only [List.length_append, List.length_cons, List.length_nil]; omega))) (by kernel_rfl) ?_
        intro A131 c132 w133 ho134 hx135
        have z133 := hx135.size
        refine xo.done 1 [(0, Pt a.s 0), (1, I lv), (9, .slice A131 (([(⟨x61.key, x61.val, x61.kid⟩ : Item)] ++ [(⟨x101.key, x101.val, x101.kid⟩ : Item)]).length) c132), (30, .slice (some ⟨b52, 0, none⟩) 2 2), (31, I 2), (32, I 1)] (by kernel_rfl) rfl (by kernel_rfl) ?_
        refine .region ?_
        refine xo.fin 2 (by kernel_rfl) rfl ?_
        refine rnd.cov [(0, Pt a.s 0), (1, I lv), (9, .slice A131 (([(⟨x61.key, x61.val, x61.kid⟩ : Item)] ++ [(⟨x101.key, x101.val, x101.kid⟩ : Item)]).length) c132), (30, .slice (some ⟨b52, 0, none⟩) 2 2), (31, I 2), (32, I 2)] (by kernel_rfl) ?_
        refine rnd.next ?_
        refine .seq ?_
        refine .region ?_
        refine xo.done 1 [(0, Pt a.s 0), (1, I lv), (9, .slice A131 (([(⟨x61.key, x61.val, x61.kid⟩ : Item)] ++ [(⟨x101.key, x101.val, x101.kid⟩ : Item)]).length) c132), (30, .slice (some ⟨b52, 0, none⟩) 2 2), (31, I 2), (32, I 2), (33, B false)] (by kernel_rfl) rfl (by kernel_rfl) ?_
        refine .seq ?_
        refine .condF rfl rfl ?_
        refine .exit ?_
        refine xsetTo ?_
        refine .seq ?_
        refine .region ?_
        refine xo.done 3 [(6, .slice A131 (([(⟨x61.key, x61.val, x61.kid⟩ : Item)] ++ [(⟨x101.key, x101.val, x101.kid⟩ : Item)]).length) c132), (7, I 0)] (by kernel_rfl) rfl (by kernel_rfl) ?_
        refine .ret ?_
        refine ⟨[.slice A131 (([(⟨x61.key, x61.val, x61.kid⟩ : Item)] ++ [(⟨x101.key, x101.val, x101.kid⟩ : Item)]).length) c132, I 0], by kernel_rfl, _, rfl, ?_⟩
        have hf136 := ((((hS105.no hx120).ext hx124 (fun b h1 h2 (e : b = b117) => by omega) (MapAt.ne (hS105.no hx120).mkt hb119) (fun b cs hb (e : b = b117) => Blk.ne hb hb119 rfl e)).no hx128).ext hx135 (fun b h1 h2 hm => absurd (hs130.lt hm).1 (by omega)) (hs130.ne_map (((hS105.no hx120).ext hx124 (fun b h1 h2 (e : b = b117) => by omega) (MapAt.ne (hS105.no hx120).mkt hb119) (fun b cs hb (e : b = b117) => Blk.ne hb hb119 rfl e)).no hx128).mkt) (fun b cs hb hm => hs130.ne hb rfl hm))
        exact ⟨.ok [x61, x101], _, by unfold LaidR partsOf; rw [if_pos (by omega)]; exact ⟨_, .ok x61, hR63, _, ⟨_, .ok x101, hR103, _, ⟨rfl, rfl⟩, rfl⟩, rfl⟩, ⟨_, _, rfl, ho134.base_le (by omega)⟩, hf136, (((((((((((((hx4.weak fun b hb h => h.elim).trans' hx48 (fun _ _ h => h) (fun b hb h => h.elim)).trans' hx55 (fun _ _ h => h) (fun b hb h => h.elim)).trans' hx66 (fun _ _ h => h) (fun b hb q => q)).trans' hx80 (fun _ _ h => h) (fun b hb h => h.elim)).trans' hx84 (fun _ _ h => h) (fun b hb (q : b = b77) => absurd hb (by omega))).trans' hx88 (fun _ _ h => h) (fun b hb h => h.elim)).trans' hx94 (fun _ _ h => h) (fun b hb hm => absurd ((Own.nil (k := kItem) (w := w86) (base := w.heap.size)).lt hm).1 (by omega))).trans' hx106 (fun _ _ h => h) (fun b hb q => q)).trans' hx120 (fun _ _ h => h) (fun b hb h => h.elim)).trans' hx124 (fun _ _ h => h) (fun b hb (q : b = b117) => absurd hb (by omega))).trans' hx128 (fun _ _ h => h) (fun b hb h => h.elim)).trans' hx135 (fun _ _ h => h) (fun b hb hm => absurd (hs130.lt hm).1 (by omega)))⟩

end Go.Proofs.YtbajgpadmlnffaaGreat
/- What was put as bytes is got again. -/
namespace Go.Proofs.YtbajgpadmlnffaaGreat
open Go.V
set_option linter.unusedVariables false

theorem pNum_be {wd n : Nat} (hw : wd ≤ 8) (h : n < 256 ^ wd) (r : List UInt8) : pNum wd (be wd (n : Int) ++ r) = some (n, r) := by
  have hl : (be wd (n : Int)).length = wd := be_length _ _
  unfold pNum
  rw [if_pos (by rw [List.length_append, hl]; omega)]
  have h1 : (be wd (n : Int) ++ r).take wd = be wd (n : Int) := by rw [List.take_append_of_le_length (by omega), List.take_of_length_le (by omega)]
  have h2 : (be wd (n : Int) ++ r).drop wd = r := by rw [List.drop_append_of_le_length (by omega), List.drop_of_length_le (by omega), List.nil_append]
  rw [h1, h2, beNat_be wd n hw h]
theorem pText_txt {most : Nat} {t : ByteArray} (h1 : t.size ≤ most) (h2 : t.size < 65536) (r : List UInt8) : pText most (txt t ++ r) = some (t.data.toList, r) := by
  have hl : t.data.toList.length = t.size := Array.length_toList
  unfold pText txt
  rw [List.append_assoc, show ((t.size : Nat) : Int) = ((t.size : Nat) : Int) from rfl, pNum_be (by omega) (by omega)]
  simp only
  rw [if_pos ⟨h1, by rw [List.length_append]; omega⟩]
  rw [List.take_append_of_le_length (by omega), List.take_of_length_le (by omega), List.drop_append_of_le_length (by omega), List.drop_of_length_le (by omega), List.nil_append]
theorem pKids_kidB {n : Int} (hn : n ≤ 4294967296) : ∀ (ks : List Int) (r : List UInt8), (∀ k ∈ ks, 2 ≤ k ∧ k < n) → pKids n ks.length (kidB ks ++ r) = some (ks, r) := by
  intro ks
  induction ks with
  | nil => intro r _; rfl
  | cons k ks ih =>
    intro r h
    obtain ⟨h1, h2⟩ := h k (by simp)
    obtain ⟨m, rfl⟩ := Int.eq_ofNat_of_zero_le (show 0 ≤ k by omega)
    have hi := ih r (fun j hj => h j (by simp [hj]))
    unfold kidB at hi ⊢
    rw [List.flatMap_cons, List.append_assoc, List.length_cons]
    unfold pKids
    rw [pNum_be (by omega) (by omega)]
    simp only
    rw [if_neg (by omega), hi]
theorem pBlk_putB {n : Int} (hn : n ≤ 4294967296) {ks : List Int} (h16 : ks.length ≤ 16) (hk : ∀ k ∈ ks, 2 ≤ k ∧ k < n) {data : ByteArray} (hd : data.size ≤ 3900) : pBlk n (putB ks data) = some ((ks, data.data.toList), []) := by
  unfold pBlk putB
  rw [List.append_assoc, pNum_be (by omega) (by omega)]
  simp only
  rw [if_neg (by omega), pKids_kidB hn ks _ hk]
  simp only
  have := pText_txt (most := 3900) (t := data) hd (by omega) []
  rw [List.append_nil] at this
  rw [this]
theorem seal_extract (l : List UInt8) : (seal_ (bs l)).extract 0 ((seal_ (bs l)).size - 8) = bs l := by
  rw [seal_size, Nat.add_sub_cancel]
  unfold seal_
  apply ba_ext
  rw [ba_toList, ba_toList, extract_list, List.drop_zero, ByteArray.data_append, Array.toList_append]
  simp [bs]
theorem blkOf_seal {n : Int} (hn : n ≤ 4294967296) {ks : List Int} (h16 : ks.length ≤ 16) (hk : ∀ k ∈ ks, 2 ≤ k ∧ k < n) {data : ByteArray} (hd : data.size ≤ 3900) : blkOf n (seal_ (bs (putB ks data))) = some (ks, data.data.toList) := by
  unfold blkOf
  rw [seal_extract, if_pos ⟨by rw [seal_size]; omega, rfl⟩]
  have : (bs (putB ks data)).data.toList = putB ks data := by simp [bs]
  rw [this, pBlk_putB hn h16 hk hd]

/-- A node as it should be, of level h. -/
structure NI (h : Nat) (nd : Node) : Prop where
  level : nd.level = h
  high : h ≤ 20
  pos : 0 < nd.items.length
  few : nd.items.length ≤ 8
  sorted : SortedI nd.items
  short : ShortI nd.items
  right : ∀ x ∈ nd.items, rightK x.key
  canon : ∀ x ∈ nd.items, if h = 0 then x.kid = 0 else x.val = ⟨#[]⟩
theorem behindB_sorted {acc rest : List Item} {x : Item} (h : SortedI (acc ++ x :: rest)) : behindB acc x.key = true := by
  unfold behindB
  cases hp : acc[acc.length - 1]? with
  | none => rfl
  | some p =>
    have hm := List.mem_of_getElem? hp
    have := (List.pairwise_append.1 h).2.2 p hm x (by simp)
    simpa using this
theorem pItems_itemsB {h : Nat} {ks : List Int} : ∀ (rest acc : List Item) (r : List UInt8), SortedI (acc ++ rest) → ShortI rest → (∀ x ∈ rest, rightK x.key) → (∀ x ∈ rest, if h = 0 then x.kid = 0 else x.val = ⟨#[]⟩) →
    (0 < h → ∀ j x, rest[j]? = some x → ks.getD (acc.length + j) 0 = x.kid) → pItems h ks rest.length acc (itemsB (h : Int) rest ++ r) = some (acc ++ rest, r) := by
  intro rest
  induction rest with
  | nil => intro acc r _ _ _ _ _; simp [pItems, itemsB]
  | cons x rest ih =>
    intro acc r hs hsh hr hc hk
    have hx := hsh x (by simp)
    have hi := ih (acc ++ [x]) r (by simpa using hs) (fun y hy => hsh y (by simp [hy])) (fun y hy => hr y (by simp [hy])) (fun y hy => hc y (by simp [hy]))
      (fun h0 j y hy => by
        have := hk h0 (j + 1) y (by simpa using hy)
        rw [List.length_append, List.length_singleton]
        rw [← this]; congr 1; omega)
    have hrt := hr x (by simp)
    have hb := behindB_sorted (by simpa using hs : SortedI (acc ++ x :: rest))
    have hcx := hc x (by simp)
    simp only [List.length_cons, itemsB, List.flatMap_cons]
    rw [List.append_assoc]
    by_cases h0 : h = 0
    · subst h0
      simp only [if_true] at hcx
      have e1 : itemB ((0 : Nat) : Int) x = txt x.key ++ txt x.val := by simp [itemB]
      rw [e1, List.append_assoc]
      have hxe : (⟨bs x.key.data.toList, bs x.val.data.toList, 0⟩ : Item) = x := by cases x; simp_all [bs_of]
      rw [pItems_ok (k := x.key.data.toList) (x := x) (r' := itemsB ((0 : Nat) : Int) rest ++ r) (pText_txt hx.1 (by omega) _) ?_ ⟨hrt, hb⟩, hi]
      · simp
      · rw [pVal, if_neg (by omega), pText_txt hx.2 (by omega)]
        simp only [hxe]
        rfl
    · have hp : 0 < h := by omega
      rw [if_neg h0] at hcx
      have e1 : itemB (h : Int) x = txt x.key := by simp [itemB, hp]
      rw [e1]
      have hk0 := hk hp 0 x (by simp)
      have hxe : (⟨bs x.key.data.toList, ⟨#[]⟩, x.kid⟩ : Item) = x := by cases x; simp_all [bs_of]
      rw [pItems_ok (k := x.key.data.toList) (x := x) (r' := itemsB (h : Int) rest ++ r) (pText_txt hx.1 (by omega) _) ?_ ⟨hrt, hb⟩, hi]
      · simp
      · rw [pVal, if_pos hp]
        rw [Nat.add_zero] at hk0
        rw [hk0, hxe]
        rfl
theorem pNode_nodeB {h : Nat} {nd : Node} (hn : NI h nd) : pNode (kidsOf nd) (nodeB nd) = some (nd, []) := by
  have h20 := hn.high
  have h8 := hn.few
  have h1 := hn.pos
  have hl : (kidsOf nd).length = if 0 < h then nd.items.length else 0 := by
    unfold kidsOf kidsL
    rw [hn.level]
    by_cases hp : 0 < h
    · simp [hp]
    · simp [hp]
  unfold pNode nodeB
  rw [hn.level, List.append_assoc, pNum_be (by omega) (by omega)]
  simp only
  rw [pNum_be (by omega) (by omega)]
  simp only
  have hb : ¬ badNode h nd.items.length (kidsOf nd).length := by
    unfold badNode
    rw [hl]
    split <;> omega
  rw [if_neg hb]
  have := pItems_itemsB (h := h) (ks := kidsOf nd) nd.items [] [] (by simpa using hn.sorted) hn.short hn.right hn.canon (fun hp j x hx => by
    unfold kidsOf kidsL
    rw [hn.level, if_pos (by omega)]
    simp [List.getD, hx])
  rw [List.append_nil] at this
  rw [this]
  simp only [Option.map_some, List.nil_append]
  rw [← hn.level]
end Go.Proofs.YtbajgpadmlnffaaGreat
/- Trees in a store: what saving and laying leave. -/
namespace Go.Proofs.YtbajgpadmlnffaaGreat
open Go.V
set_option linter.unusedVariables false

/-- Nodes stay as they are. -/
structure Keeps (σ σ' : St) : Prop where
  node : ∀ id nd, NodeAt σ id nd → NodeAt σ' id nd
  high : ∀ k, (mfind σ.cells k).isSome → (mfind σ'.cells k).isSome ∧ highC σ'.cells k = highC σ.cells k
  alive : Alive σ → Alive σ'
  n : σ'.dev.n = σ.dev.n
theorem Keeps.refl (σ : St) : Keeps σ σ := ⟨fun _ _ h => h, fun _ h => ⟨h, rfl⟩, id, rfl⟩
theorem Keeps.trans {a b c : St} (h : Keeps a b) (k : Keeps b c) : Keeps a c :=
  ⟨fun i n hn => k.node i n (h.node i n hn), fun i hi => ⟨(k.high i (h.high i hi).1).1, ((k.high i (h.high i hi).1).2).trans (h.high i hi).2⟩, fun q => k.alive (h.alive q), k.n.trans h.n⟩
theorem Keeps.good {σ σ' : St} (h : Keeps σ σ') {k : Int} (hk : badKid σ k = false) : badKid σ' k = false := by
  obtain ⟨h1, h2⟩ := badKid_ok hk
  obtain ⟨h3, h4⟩ := h.high k h1
  exact badKid_of h3 (by rw [h4]; exact h2)
theorem FreeAt.range {σ : St} {id : Int} (h : FreeAt σ id) (h0 : id ≠ 0) : 2 ≤ id ∧ id < σ.dev.n := by
  rcases h with ⟨h, _⟩ | ⟨h1, h2, _⟩
  · exact absurd h h0
  · exact ⟨h1, h2⟩
theorem devAt_put {σ : St} {id k : Int} {ks : List Int} {data : ByteArray} {A : Option Addr} {cap : Nat} : devAt (putC σ id ks data A cap) k = if id = k then seal_ (bs (putB ks data)) else devAt σ k := by
  unfold devAt putC upd
  simp only
  split <;> rfl
theorem putC_keeps {σ : St} {id : Int} {ks : List Int} {data : ByteArray} {A : Option Addr} {cap : Nat} (h0 : id ≠ 0) (hF : FreeAt σ id) : Keeps σ (putC σ id ks data A cap) := by
  have hno := hF.none h0
  have hi : ∀ k, (mfind σ.cells k).isSome → (mfind (putC σ id ks data A cap).cells k).isSome ∧ highC (putC σ id ks data A cap).cells k = highC σ.cells k := by
    intro k hk
    have hne : id ≠ k := by rintro rfl; rw [hno] at hk; cases hk
    constructor
    · show (mfind (mput (nameF σ.cells ks) id _) k).isSome
      rw [mfind_put, if_neg hne]
      exact isSome_nameF ks _ k hk
    · show highC (mput (nameF σ.cells ks) id _) k = _
      unfold highC
      rw [cget_mput, if_neg hne]
      exact highC_nameF ks σ.cells k
  refine ⟨fun k nd hN => ?_, hi, fun hA => ⟨hA.burns, hA.off, hA.n8, hA.n4⟩, rfl⟩
  obtain ⟨c, hc⟩ := hN.c
  have hne : id ≠ k := by rintro rfl; rw [hno] at hc; cases hc
  have hd : devAt (putC σ id ks data A cap) k = devAt σ k := by rw [devAt_put, if_neg hne]
  have hs := (hi k (by rw [hc]; rfl)).1
  exact ⟨Option.isSome_iff_exists.1 hs, by rw [hd]; exact hN.p, hN.lo, hN.hi, by rw [hd]; exact hN.sz⟩
theorem SaveR.keeps {σ σ' : St} {nd : Node} {o : Except Int Item} (h : SaveR σ nd σ' o) : Keeps σ σ' := by
  cases o with
  | error c => obtain ⟨_, _, rfl⟩ := h; exact .refl _
  | ok x => obtain ⟨id, A, cap, y, h0, hF, rfl, _⟩ := h; exact putC_keeps h0 hF
theorem highs_const {f : Cells} {c : Int} (hc : 0 ≤ c) : ∀ (ks : List Int) (m : Int), (∀ k ∈ ks, highC f k = c) → (0 < ks.length ∨ m = c) → m ≤ c → ks.foldl (fun h k => max h (highC f k)) m = c := by
  intro ks
  induction ks with
  | nil => intro m _ h _; rcases h with h | h; exact absurd h (by simp); exact h
  | cons k r ih =>
    intro m h _ hm
    rw [List.foldl_cons]
    have hk := h k (by simp)
    exact ih _ (fun j hj => h j (by simp [hj])) (.inr (by rw [hk]; omega)) (by rw [hk]; omega)

/-- An item that stands for a node of level h. -/
structure RootAt (σ : St) (h : Nat) (x : Item) (nd : Node) : Prop where
  node : NodeAt σ x.kid nd
  high : highC σ.cells x.kid = (h : Int) + 1
  val : x.val = ⟨#[]⟩
  key : ∃ y, nd.items[0]? = some y ∧ x.key = y.key
  ni : NI h nd
theorem RootAt.keeps {σ σ' : St} {h : Nat} {x : Item} {nd : Node} (r : RootAt σ h x nd) (k : Keeps σ σ') : RootAt σ' h x nd :=
  ⟨k.node _ _ r.node, by obtain ⟨c, hc⟩ := r.node.c; rw [(k.high _ (by rw [hc]; rfl)).2]; exact r.high, r.val, r.key, r.ni⟩
theorem RootAt.good {σ : St} {h : Nat} {x : Item} {nd : Node} (r : RootAt σ h x nd) : badKid σ x.kid = false := by
  obtain ⟨c, hc⟩ := r.node.c
  have := r.ni.high
  exact badKid_of (by rw [hc]; rfl) (by rw [r.high]; omega)
/-- What stands in a node of level h + 1 stands for nodes of level h. -/
def KidsAt (σ : St) (h : Nat) (l : List Item) : Prop := match h with | 0 => True | h + 1 => ∀ x ∈ l, ∃ nd, RootAt σ h x nd
theorem KidsAt.keeps {σ σ' : St} {h : Nat} {l : List Item} (r : KidsAt σ h l) (k : Keeps σ σ') : KidsAt σ' h l := by
  cases h with
  | zero => trivial
  | succ h => intro x hx; obtain ⟨nd, hn⟩ := r x hx; exact ⟨nd, hn.keeps k⟩
theorem KidsAt.sub {σ : St} {h : Nat} {l m : List Item} (r : KidsAt σ h l) (hs : ∀ x ∈ m, x ∈ l) : KidsAt σ h m := by
  cases h with
  | zero => trivial
  | succ h => intro x hx; exact r x (hs x hx)
theorem SaveR.root {σ σ' : St} {h : Nat} {nd : Node} {x : Item} (hs : SaveR σ nd σ' (.ok x)) (hn : NI h nd) (hk : KidsAt σ h nd.items) (hd : σ.dev.n ≤ 4096) : RootAt σ' h x nd := by
  obtain ⟨id, A, cap, y, h0, hF, rfl, hy, rfl⟩ := hs
  obtain ⟨hr1, hr2⟩ := hF.range h0
  have h20 := hn.high
  have hkr : ∀ k ∈ kidsOf nd, (2 ≤ k ∧ k < σ.dev.n) ∧ highC σ.cells k = (h : Int) ∧ 0 < h := by
    intro k hk'
    unfold kidsOf kidsL at hk'
    rw [hn.level] at hk'
    by_cases hp : 0 < h
    · rw [if_pos (by omega)] at hk'
      obtain ⟨z, hz, rfl⟩ := List.mem_map.1 hk'
      cases h with
      | zero => omega
      | succ h =>
        obtain ⟨nz, hnz⟩ := hk z hz
        exact ⟨⟨hnz.node.lo, hnz.node.hi⟩, by rw [hnz.high]; omega, by omega⟩
    · rw [if_neg (by omega)] at hk'; simp at hk'
  have hkl : (kidsOf nd).length ≤ 16 := by
    have := kidsL_length nd.level nd.items
    have := hn.few
    unfold kidsOf; omega
  have hdl : (bs (nodeB nd)).size ≤ 3900 := by
    have := itemsB_length nd.level nd.items hn.short
    have := hn.few
    rw [bs_size, nodeB, List.length_append, List.length_append, be_length, be_length]; omega
  have hbd : (bs (nodeB nd)).data.toList = nodeB nd := by simp [bs]
  refine ⟨⟨?_, ⟨(kidsOf nd, nodeB nd), ?_, ?_⟩, hr1, hr2, ?_⟩, ?_, rfl, ⟨y, hy, rfl⟩, hn⟩
  · show ∃ c, mfind (mput (nameF σ.cells (kidsOf nd)) id _) id = some c
    exact ⟨_, by rw [mfind_put, if_pos rfl]⟩
  · rw [devAt_put, if_pos rfl]
    show blkOf σ.dev.n _ = _
    rw [blkOf_seal (by omega) hkl (fun k hk => (hkr k hk).1) hdl, hbd]
  · exact pNode_nodeB hn
  · show (devAt (putC σ id (kidsOf nd) (bs (nodeB nd)) A cap) id).size ≤ _
    rw [devAt_put, if_pos rfl, seal_size, putB_length]; omega
  · show highC (mput (nameF σ.cells (kidsOf nd)) id _) id = _
    unfold highC
    rw [cget_mput, if_pos rfl]
    simp only
    congr 1
    unfold highs
    by_cases hp : 0 < h
    · refine highs_const (by omega) _ _ (fun k hk => (hkr k hk).2.1) (.inl ?_) (by omega)
      unfold kidsOf kidsL
      rw [hn.level, if_pos (by omega), List.length_map]
      exact hn.pos
    · have : kidsOf nd = [] := by unfold kidsOf kidsL; rw [hn.level, if_neg (by omega)]
      rw [this]
      simp only [List.foldl_nil]
      omega

/-- So many nodes have been laid, one behind the other. -/
inductive Saves : Nat → St → St → Prop
  | nil (σ : St) : Saves 0 σ σ
  | cons {n h : Nat} {σ σ1 σ2 : St} {nd : Node} {x : Item} (hs : SaveR σ nd σ1 (.ok x)) (hn : NI h nd) (hk : KidsAt σ h nd.items) (r : Saves n σ1 σ2) : Saves (n + 1) σ σ2
theorem Saves.trans {n m : Nat} {a b c : St} (h : Saves n a b) (k : Saves m b c) : Saves (n + m) a c := by
  induction h with
  | nil => rwa [Nat.zero_add]
  | cons hs hn hk _ ih => rw [Nat.add_right_comm]; exact .cons hs hn hk (ih k)
theorem Saves.keeps {n : Nat} {a b : St} (h : Saves n a b) : Keeps a b := by
  induction h with
  | nil => exact .refl _
  | cons hs _ _ _ ih => exact hs.keeps.trans ih
/-- At most so many; with an error there was no room. -/
def SavesE {α : Type} (n : Nat) (σ σ' : St) (o : Except Int α) : Prop := ∃ m, m ≤ n ∧ Saves m σ σ' ∧ ∀ c, o = .error c → FreeAt σ' 0
/-- Items as they should be at level h. -/
structure IT (h : Nat) (l : List Item) : Prop where
  sorted : SortedI l
  short : ShortI l
  right : ∀ x ∈ l, rightK x.key
  canon : ∀ x ∈ l, if h = 0 then x.kid = 0 else x.val = ⟨#[]⟩
theorem NI.it {h : Nat} {nd : Node} (n : NI h nd) : IT h nd.items := ⟨n.sorted, n.short, n.right, n.canon⟩
theorem IT.sub {h : Nat} {l m : List Item} (t : IT h l) (hs : m.Sublist l) : IT h m :=
  ⟨t.sorted.sublist hs, fun x hx => t.short x (hs.subset hx), fun x hx => t.right x (hs.subset hx), fun x hx => t.canon x (hs.subset hx)⟩
theorem IT.ni {h : Nat} {l : List Item} (t : IT h l) (h20 : h ≤ 20) (h1 : 0 < l.length) (h8 : l.length ≤ 8) : NI h ⟨(h : Int), l⟩ := ⟨rfl, h20, h1, h8, t.sorted, t.short, t.right, t.canon⟩
theorem IT.laid {σ : St} {h : Nat} {l : List Item} (t : IT h l) (hk : KidsAt σ h l) (h1 : 0 < l.length) (h16 : l.length ≤ 16) : LaidOK σ (h : Int) l :=
  ⟨h1, h16, t.short, fun k hk' => by
    unfold kidsL at hk'
    by_cases hp : 0 < h
    · rw [if_pos (by omega)] at hk'
      obtain ⟨z, hz, rfl⟩ := List.mem_map.1 hk'
      cases h with
      | zero => omega
      | succ h =>
        obtain ⟨nz, hnz⟩ := hk z hz
        exact hnz.good
    · rw [if_neg (by omega)] at hk'; simp at hk'⟩
/-- The roots of nodes with these items. -/
def Roots (σ : St) (h : Nat) : List Item → List (List Item) → Prop
  | [], [] => True
  | x :: r, p :: q => RootAt σ h x ⟨(h : Int), p⟩ ∧ Roots σ h r q
  | _, _ => False
theorem Roots.keeps {σ σ' : St} {h : Nat} (k : Keeps σ σ') : ∀ (ws : List Item) (ps : List (List Item)), Roots σ h ws ps → Roots σ' h ws ps
  | [], [], _ => trivial
  | x :: r, p :: q, ⟨h1, h2⟩ => ⟨h1.keeps k, Roots.keeps k r q h2⟩
  | [], _ :: _, h => h.elim
  | _ :: _, [], h => h.elim
theorem SavesR.roots {h : Nat} (h20 : h ≤ 20) : ∀ (ps : List (List Item)) (σ σ' : St) (o : Except Int (List Item)), SavesR (h : Int) σ ps σ' o → (∀ p ∈ ps, IT h p ∧ 0 < p.length ∧ p.length ≤ 8 ∧ KidsAt σ h p) → σ.dev.n ≤ 4096 →
    Keeps σ σ' ∧ (∀ c, o = .error c → c = 28) ∧ (∀ ws, o = .ok ws → Roots σ' h ws ps) ∧ SavesE ps.length σ σ' o
  | [], σ, σ', o, hs, _, _ => by
    obtain ⟨rfl, rfl⟩ := hs
    exact ⟨.refl _, (fun c hc => by cases hc), (fun ws hw => by cases hw; trivial), 0, Nat.le_refl _, .nil _, (fun c hc => by cases hc)⟩
  | p :: r, σ, σ', o, hs, hp, hd => by
    obtain ⟨σ1, x, h1, h2⟩ := hs
    have k1 := h1.keeps
    cases x with
    | error c =>
      obtain ⟨rfl, rfl⟩ := h2
      obtain ⟨e1, e2, rfl⟩ := h1
      exact ⟨k1, (fun c' hc => by cases hc; exact e1), (fun ws hw => by cases hw), 0, Nat.zero_le _, .nil _, fun _ _ => e2⟩
    | ok x =>
      obtain ⟨o', h3, rfl⟩ := h2
      obtain ⟨hit, hp1, hp8, hka⟩ := hp p (by simp)
      have hr := h1.root (hit.ni h20 hp1 hp8) hka hd
      obtain ⟨k2, he, hw, m, hm, hsv, hfr⟩ := SavesR.roots h20 r σ1 σ' o' h3 (fun q hq => by
        obtain ⟨a1, a2, a3, a4⟩ := hp q (by simp [hq])
        exact ⟨a1, a2, a3, a4.keeps k1⟩) (by rw [k1.n]; exact hd)
      refine ⟨k1.trans k2, fun c hc => ?_, fun ws hws => ?_, m + 1, by simp only [List.length_cons]; omega, .cons h1 (hit.ni h20 hp1 hp8) hka hsv, fun c hc => ?_⟩
      · cases o' with
        | error c' => cases hc; exact he _ rfl
        | ok _ => cases hc
      · cases o' with
        | error c' => cases hws
        | ok xs => cases hws; exact ⟨hr.keeps k2, hw xs rfl⟩
      · cases o' with
        | error c' => exact hfr _ rfl
        | ok _ => cases hc
theorem LaidR.roots {h : Nat} {σ σ' : St} {l : List Item} {o : Except Int (List Item)} (hl : LaidR σ (h : Int) l σ' o) (h20 : h ≤ 20) (t : IT h l) (hk : KidsAt σ h l) (h1 : 0 < l.length) (h16 : l.length ≤ 16) (hd : σ.dev.n ≤ 4096) :
    Keeps σ σ' ∧ (∀ c, o = .error c → c = 28) ∧ (∀ ws, o = .ok ws → Roots σ' h ws (partsOf l)) ∧ SavesE (partsOf l).length σ σ' o := by
  refine SavesR.roots h20 _ _ _ _ hl (fun p hp => ?_) hd
  unfold partsOf at hp
  split at hp
  · simp only [List.mem_cons, List.not_mem_nil, or_false] at hp
    rcases hp with rfl | rfl
    · exact ⟨t.sub (List.take_sublist _ _), by rw [List.length_take]; omega, by rw [List.length_take]; omega, hk.sub fun x hx => List.mem_of_mem_take hx⟩
    · exact ⟨t.sub (List.drop_sublist _ _), by rw [List.length_drop]; omega, by rw [List.length_drop]; omega, hk.sub fun x hx => List.mem_of_mem_drop hx⟩
  · simp only [List.mem_singleton] at hp
    subst hp
    exact ⟨t, h1, by omega, hk⟩
theorem partsOf_flat (l : List Item) : (partsOf l).flatten = l := by unfold partsOf; split <;> simp
theorem Roots.length {σ : St} {h : Nat} : ∀ (ws : List Item) (ps : List (List Item)), Roots σ h ws ps → ws.length = ps.length
  | [], [], _ => rfl
  | x :: r, p :: q, ⟨_, h2⟩ => by simp [Roots.length r q h2]
  | [], _ :: _, h => h.elim
  | _ :: _, [], h => h.elim
end Go.Proofs.YtbajgpadmlnffaaGreat
/- What trees hold. -/
namespace Go.Proofs.YtbajgpadmlnffaaGreat
open Go.V
set_option linter.unusedVariables false

def All2 {α β : Type} (R : α → β → Prop) : List α → List β → Prop
  | [], [] => True
  | x :: r, y :: q => R x y ∧ All2 R r q
  | _, _ => False
section
variable {α β : Type} {R : α → β → Prop}
theorem All2.length : ∀ {l : List α} {m : List β}, All2 R l m → l.length = m.length
  | [], [], _ => rfl
  | x :: r, y :: q, ⟨_, h⟩ => by simp [All2.length h]
  | [], _ :: _, h => h.elim
  | _ :: _, [], h => h.elim
theorem All2.append : ∀ {a b : List α} {c d : List β}, All2 R a c → All2 R b d → All2 R (a ++ b) (c ++ d)
  | [], _, [], _, _, h => h
  | x :: r, _, y :: q, _, ⟨h1, h2⟩, h => ⟨h1, All2.append h2 h⟩
  | [], _, _ :: _, _, h, _ => h.elim
  | _ :: _, _, [], _, h, _ => h.elim
theorem All2.split : ∀ {a b : List α} {m : List β}, All2 R (a ++ b) m → ∃ c d, m = c ++ d ∧ All2 R a c ∧ All2 R b d
  | [], b, m, h => ⟨[], m, rfl, trivial, h⟩
  | x :: r, b, [], h => h.elim
  | x :: r, b, y :: q, ⟨h1, h2⟩ => by
    obtain ⟨c, d, rfl, h3, h4⟩ := All2.split h2
    exact ⟨y :: c, d, rfl, ⟨h1, h3⟩, h4⟩
theorem All2.mono {R' : α → β → Prop} (hm : ∀ x y, R x y → R' x y) : ∀ {l : List α} {m : List β}, All2 R l m → All2 R' l m
  | [], [], _ => trivial
  | x :: r, y :: q, ⟨h1, h2⟩ => ⟨hm _ _ h1, All2.mono hm h2⟩
  | [], _ :: _, h => h.elim
  | _ :: _, [], h => h.elim
theorem All2.mem : ∀ {l : List α} {m : List β}, All2 R l m → ∀ x ∈ l, ∃ y ∈ m, R x y
  | [], [], _, x, hx => by simp at hx
  | a :: r, y :: q, ⟨h1, h2⟩, x, hx => by
    rcases List.mem_cons.1 hx with rfl | hx
    · exact ⟨y, by simp, h1⟩
    · obtain ⟨z, hz, h3⟩ := All2.mem h2 x hx
      exact ⟨z, by simp [hz], h3⟩
  | [], _ :: _, h, _, _ => h.elim
  | _ :: _, [], h, _, _ => h.elim
end

abbrev KV := ByteArray × ByteArray
def kv (x : Item) : KV := (x.key, x.val)
/-- The entries below items of level h. -/
def Cont (σ : St) : Nat → List Item → List KV → Prop
  | 0, l, E => E = l.map kv
  | h + 1, l, E => ∃ Es, E = Es.flatten ∧ All2 (fun x e => ∃ nk, RootAt σ h x nk ∧ 4 ≤ nk.items.length ∧ Cont σ h nk.items e) l Es
theorem Cont.append {σ : St} {h : Nat} {a b : List Item} {E F : List KV} (h1 : Cont σ h a E) (h2 : Cont σ h b F) : Cont σ h (a ++ b) (E ++ F) := by
  cases h with
  | zero => simp only [Cont] at *; rw [h1, h2, List.map_append]
  | succ h =>
    obtain ⟨Es, rfl, k1⟩ := h1
    obtain ⟨Fs, rfl, k2⟩ := h2
    exact ⟨Es ++ Fs, by simp, k1.append k2⟩
theorem Cont.split {σ : St} {h : Nat} {a b : List Item} {E : List KV} (h1 : Cont σ h (a ++ b) E) : ∃ E1 E2, E = E1 ++ E2 ∧ Cont σ h a E1 ∧ Cont σ h b E2 := by
  cases h with
  | zero => simp only [Cont] at *; exact ⟨_, _, by rw [h1, List.map_append], rfl, rfl⟩
  | succ h =>
    obtain ⟨Es, rfl, k⟩ := h1
    obtain ⟨c, d, rfl, k1, k2⟩ := k.split
    exact ⟨c.flatten, d.flatten, by simp, ⟨c, rfl, k1⟩, ⟨d, rfl, k2⟩⟩
theorem Cont.keeps {σ σ' : St} (k : Keeps σ σ') : ∀ {h : Nat} {l : List Item} {E : List KV}, Cont σ h l E → Cont σ' h l E := by
  intro h
  induction h with
  | zero => intro l E h; exact h
  | succ h ih =>
    rintro l E ⟨Es, rfl, hk⟩
    exact ⟨Es, rfl, hk.mono fun x e ⟨nk, h1, h2, h3⟩ => ⟨nk, h1.keeps k, h2, ih h3⟩⟩
theorem Cont.kids {σ : St} {h : Nat} {l : List Item} {E : List KV} (c : Cont σ h l E) : KidsAt σ h l := by
  cases h with
  | zero => trivial
  | succ h =>
    obtain ⟨Es, rfl, hk⟩ := c
    intro x hx
    obtain ⟨e, _, nk, h1, _⟩ := hk.mem x hx
    exact ⟨nk, h1⟩
/-- Roots of level h with what they hold. -/
def Held (σ : St) (h : Nat) (ws : List Item) (Es : List (List KV)) : Prop := All2 (fun x e => ∃ nk, RootAt σ h x nk ∧ Cont σ h nk.items e) ws Es
theorem Roots.held {σ : St} {h : Nat} : ∀ (ws : List Item) (ps : List (List Item)) (E : List KV), Roots σ h ws ps → Cont σ h ps.flatten E → ∃ Es, Held σ h ws Es ∧ Es.flatten = E
  | [], [], E, _, hc => by
    refine ⟨[], trivial, ?_⟩
    cases h with
    | zero => simp only [Cont, List.flatten_nil, List.map_nil] at hc; simp [hc]
    | succ h =>
      obtain ⟨Es, rfl, hk⟩ := hc
      cases Es with
      | nil => rfl
      | cons e r => exact hk.elim
  | x :: r, p :: q, E, ⟨h1, h2⟩, hc => by
    rw [List.flatten_cons] at hc
    obtain ⟨E1, E2, rfl, c1, c2⟩ := hc.split
    obtain ⟨Es, h3, rfl⟩ := Roots.held r q E2 h2 c2
    exact ⟨E1 :: Es, ⟨⟨_, h1, c1⟩, h3⟩, by simp⟩
  | [], _ :: _, _, h, _ => h.elim
  | _ :: _, [], _, h, _ => h.elim
end Go.Proofs.YtbajgpadmlnffaaGreat
/- A key is put into a tree: what comes of it. -/
namespace Go.Proofs.YtbajgpadmlnffaaGreat
open Go.V
set_option linter.unusedVariables false

def SortedE (l : List KV) : Prop := l.Pairwise fun x y => Lt x.1 y.1
theorem Cont.head {σ : St} : ∀ {h : Nat} {x : Item} {l : List Item} {E : List KV}, Cont σ h (x :: l) E → ∃ e r, E = e :: r ∧ e.1 = x.key := by
  intro h
  induction h with
  | zero => intro x l E c; exact ⟨kv x, l.map kv, c, rfl⟩
  | succ h ih =>
    rintro x l E ⟨Es, rfl, hk⟩
    cases Es with
    | nil => exact hk.elim
    | cons e r =>
      obtain ⟨⟨nk, h1, _, h3⟩, _⟩ := hk
      obtain ⟨y, hy, hxy⟩ := h1.key
      cases hi : nk.items with
      | nil => rw [hi] at hy; simp at hy
      | cons z t =>
        rw [hi] at hy h3
        simp only [List.getElem?_cons_zero, Option.some.injEq] at hy
        subst hy
        obtain ⟨e0, r0, rfl, h4⟩ := ih h3
        exact ⟨e0, r0 ++ r.flatten, by simp, h4.trans hxy.symm⟩
theorem Cont.mem {σ : St} {h : Nat} {l : List Item} {E : List KV} (c : Cont σ h l E) {x : Item} (hx : x ∈ l) : ∃ e ∈ E, e.1 = x.key := by
  obtain ⟨a, b, rfl⟩ := List.append_of_mem hx
  obtain ⟨E1, E2, rfl, _, c2⟩ := c.split
  obtain ⟨e, r, rfl, h1⟩ := c2.head
  exact ⟨e, by simp, h1⟩
theorem Cont.sorted {σ : St} {h : Nat} : ∀ {l : List Item} {E : List KV}, Cont σ h l E → SortedE E → SortedI l := by
  intro l
  induction l with
  | nil => intro E _ _; exact List.Pairwise.nil
  | cons x r ih =>
    intro E c hs
    obtain ⟨e, t, he, hk⟩ := c.head
    obtain ⟨E1, E2, rfl, c1, c2⟩ := (show Cont σ h ([x] ++ r) E from c).split
    obtain ⟨e1, t1, rfl, hk1⟩ := c1.head
    have hp := List.pairwise_append.1 hs
    refine List.Pairwise.cons (fun y hy => ?_) (ih c2 hp.2.1)
    obtain ⟨f, hf, hfy⟩ := c2.mem hy
    have := hp.2.2 e1 (by simp) f hf
    rw [hk1, hfy] at this
    exact this
/-- The list with a key's value. -/
def putE (E : List KV) (key val : ByteArray) : List KV := E.filter (fun e => decide (Lt e.1 key)) ++ (key, val) :: E.filter (fun e => decide (Lt key e.1))
def delE (E : List KV) (key : ByteArray) : List KV := E.filter fun e => !decide (e.1 = key)
theorem putE_mid {A B C : List KV} {key val : ByteArray} (hA : ∀ e ∈ A, Lt e.1 key) (hC : ∀ e ∈ C, Lt key e.1) : putE (A ++ B ++ C) key val = A ++ putE B key val ++ C := by
  unfold putE
  have a1 : A.filter (fun e => decide (Lt e.1 key)) = A := List.filter_eq_self.2 fun e he => by simpa using hA e he
  have a2 : A.filter (fun e => decide (Lt key e.1)) = [] := List.filter_eq_nil_iff.2 fun e he => by simpa using (hA e he).asymm
  have c1 : C.filter (fun e => decide (Lt e.1 key)) = [] := List.filter_eq_nil_iff.2 fun e he => by simpa using (hC e he).asymm
  have c2 : C.filter (fun e => decide (Lt key e.1)) = C := List.filter_eq_self.2 fun e he => by simpa using hC e he
  simp only [List.filter_append, a1, a2, c1, c2, List.append_nil, List.nil_append, List.append_assoc, List.cons_append]
theorem delE_mid {A B C : List KV} {key : ByteArray} (hA : ∀ e ∈ A, Lt e.1 key) (hC : ∀ e ∈ C, Lt key e.1) : delE (A ++ B ++ C) key = A ++ delE B key ++ C := by
  unfold delE
  have a1 : A.filter (fun e => !decide (e.1 = key)) = A := List.filter_eq_self.2 fun e he => by simpa using Lt.ne (hA e he)
  have c1 : C.filter (fun e => !decide (e.1 = key)) = C := List.filter_eq_self.2 fun e he => by simpa using (Lt.ne (hC e he)).symm
  simp only [List.filter_append, a1, c1]
theorem putE_sorted {E : List KV} (h : SortedE E) (key val : ByteArray) : SortedE (putE E key val) := by
  unfold putE SortedE
  refine List.pairwise_append.2 ⟨h.sublist List.filter_sublist, List.Pairwise.cons (fun e he => ?_) (h.sublist List.filter_sublist), fun a ha b hb => ?_⟩
  · simpa using (List.mem_filter.1 he).2
  · have h1 : Lt a.1 key := by simpa using (List.mem_filter.1 ha).2
    rcases List.mem_cons.1 hb with rfl | hb
    · exact h1
    · exact h1.trans (by simpa using (List.mem_filter.1 hb).2)
theorem delE_sorted {E : List KV} (h : SortedE E) (key : ByteArray) : SortedE (delE E key) := h.sublist List.filter_sublist

/-- Below the kid of a key: all ahead of it lies below the key, all behind it above. -/
theorem way_split {σ : St} {h : Nat} {l : List Item} {E : List KV} {key : ByteArray} {j : Nat} (c : Cont σ h l E) (hs : SortedE E) (hw : WayR l key j) (hl : 0 < l.length) :
    ∃ x EA EX EB, l[j]? = some x ∧ j < l.length ∧ E = EA ++ EX ++ EB ∧ Cont σ h (l.take j) EA ∧ Cont σ h [x] EX ∧ Cont σ h (l.drop (j + 1)) EB ∧ (∀ e ∈ EA, Lt e.1 key) ∧ ∀ e ∈ EB, Lt key e.1 := by
  have hsi := c.sorted hs
  obtain ⟨i, ok, ⟨hi, hbe, hab, hok⟩, hj⟩ := hw
  have hjl : j < l.length := by
    cases ok with
    | true =>
      obtain ⟨x, hx, _⟩ := hok.1 rfl
      have := (List.getElem?_eq_some_iff.1 hx).1
      simp only [if_true] at hj; omega
    | false => simp at hj; omega
  have hx : l[j]? = some l[j] := List.getElem?_eq_getElem hjl
  have e1 : l = l.take j ++ ([l[j]] ++ l.drop (j + 1)) := by
    conv => lhs; rw [← List.take_append_drop j l, List.drop_eq_getElem_cons hjl]
    rfl
  rw [e1] at c
  obtain ⟨EA, E2, rfl, cA, c2⟩ := c.split
  obtain ⟨EX, EB, rfl, cX, cB⟩ := c2.split
  obtain ⟨eX, rX, heX, hkX⟩ := cX.head
  have hp := List.pairwise_append.1 hs
  have hp2 := List.pairwise_append.1 hp.2.1
  refine ⟨l[j], EA, EX, EB, hx, hjl, by simp, cA, cX, cB, fun e he => ?_, fun e he => ?_⟩
  · have h1 : Lt e.1 l[j].key := by
      have := hp.2.2 e he eX (by rw [heX]; simp)
      rw [hkX] at this; exact this
    cases ok with
    | true =>
      obtain ⟨x, hx', hk⟩ := hok.1 rfl
      simp only [if_true] at hj
      subst hj
      rw [hx] at hx'
      rw [Option.some.inj hx', hk] at h1
      exact h1
    | false =>
      simp at hj
      by_cases h0 : i = 0
      · have : j = 0 := by omega
        subst this
        have : EA = [] := by
          cases h with
          | zero => simpa [Cont] using cA
          | succ h =>
            obtain ⟨Es, rfl, hk⟩ := cA
            cases Es with
            | nil => rfl
            | cons a b => simp only [List.take_zero] at hk; exact hk.elim
        rw [this] at he; simp at he
      · exact h1.trans (hbe j _ (by omega) hx)
  · cases hd : l.drop (j + 1) with
    | nil =>
      rw [hd] at cB
      have : EB = [] := by
        cases h with
        | zero => simpa [Cont] using cB
        | succ h =>
          obtain ⟨Es, rfl, hk⟩ := cB
          cases Es with
          | nil => rfl
          | cons a b => exact hk.elim
      rw [this] at he; simp at he
    | cons y t =>
      rw [hd] at cB
      obtain ⟨eB, rB, heB, hkB⟩ := cB.head
      have hy : l[j + 1]? = some y := by
        have := congrArg (·[0]?) hd
        simpa using this
      have hky : Lt key y.key := by
        cases ok with
        | true =>
          obtain ⟨x, hx', hk⟩ := hok.1 rfl
          simp only [if_true] at hj
          subst hj
          rw [← hk]
          exact hsi.get (by omega) hx' hy
        | false =>
          simp at hj
          by_cases h0 : i = 0
          · have h2 := hab j _ (by omega) hx
            exact Lt.of_le h2 (hsi.get (by omega) hx hy)
          · have h2 := hab (j + 1) y (by omega) hy
            rcases Lt.total h2 with h3 | h3
            · exact h3
            · exact absurd (hok.2 ⟨y, by rw [show i = j + 1 by omega]; exact hy, h3⟩) (by decide)
      rw [heB] at he hp2
      rcases List.mem_cons.1 he with rfl | he
      · rw [hkB]; exact hky
      · have := (List.pairwise_cons.1 hp2.2.1).1 e he
        rw [hkB] at this
        exact hky.trans this

/-- Roots of level h with what they hold; each has at least m items. -/
def HeldM (m : Nat) (σ : St) (h : Nat) (ws : List Item) (Es : List (List KV)) : Prop := All2 (fun x e => ∃ nk, RootAt σ h x nk ∧ m ≤ nk.items.length ∧ Cont σ h nk.items e) ws Es
theorem Roots.heldM {σ : St} {h m : Nat} : ∀ (ws : List Item) (ps : List (List Item)) (E : List KV), Roots σ h ws ps → (∀ p ∈ ps, m ≤ p.length) → Cont σ h ps.flatten E → ∃ Es, HeldM m σ h ws Es ∧ Es.flatten = E
  | [], [], E, _, _, hc => by
    refine ⟨[], trivial, ?_⟩
    cases h with
    | zero => simp only [Cont, List.flatten_nil, List.map_nil] at hc; simp [hc]
    | succ h =>
      obtain ⟨Es, rfl, hk⟩ := hc
      cases Es with
      | nil => rfl
      | cons e r => exact hk.elim
  | x :: r, p :: q, E, ⟨h1, h2⟩, hm, hc => by
    rw [List.flatten_cons] at hc
    obtain ⟨E1, E2, rfl, c1, c2⟩ := hc.split
    obtain ⟨Es, h3, rfl⟩ := Roots.heldM r q E2 h2 (fun p hp => hm p (by simp [hp])) c2
    exact ⟨E1 :: Es, ⟨⟨_, h1, hm p (by simp), c1⟩, h3⟩, by simp⟩
  | [], _ :: _, _, h, _, _ => h.elim
  | _ :: _, [], _, h, _, _ => h.elim
theorem partsOf_min {l : List Item} {m : Nat} (hm : m ≤ 4) (hl : m ≤ l.length) : ∀ p ∈ partsOf l, m ≤ p.length := by
  intro p hp
  unfold partsOf at hp
  split at hp
  · simp only [List.mem_cons, List.not_mem_nil, or_false] at hp
    rcases hp with rfl | rfl
    · rw [List.length_take]; omega
    · rw [List.length_drop]; omega
  · simp only [List.mem_singleton] at hp
    subst hp; exact hl
theorem partsOf_length (l : List Item) : (partsOf l).length = 1 ∨ (partsOf l).length = 2 := by unfold partsOf; split <;> simp
/-- What laying items that hold E comes to. -/
theorem laid_main {h : Nat} {σ σ' : St} {l : List Item} {E : List KV} {o : Except Int (List Item)} {m : Nat} (hl : LaidR σ (h : Int) l σ' o) (h20 : h ≤ 20) (t : IT h l) (c : Cont σ h l E) (h1 : 0 < l.length) (h16 : l.length ≤ 16)
    (hd : σ.dev.n ≤ 4096) (hm : m ≤ 4) (hml : m ≤ l.length) :
    Keeps σ σ' ∧ (∀ c, o = .error c → c = 28) ∧ (∀ ws, o = .ok ws → (ws.length = 1 ∨ ws.length = 2) ∧ ∃ Es, HeldM (if ws.length = 2 then 4 else m) σ' h ws Es ∧ Es.flatten = E) ∧ SavesE 2 σ σ' o := by
  obtain ⟨k, he, hw, n, hn, hsv⟩ := hl.roots h20 t c.kids h1 h16 hd
  refine ⟨k, he, fun ws hws => ?_, n, by rcases partsOf_length l with e | e <;> omega, hsv⟩
  have hr := hw ws hws
  refine ⟨by rw [hr.length]; exact partsOf_length l, ?_⟩
  refine Roots.heldM ws _ E hr (fun p hp => ?_) (by rw [partsOf_flat]; exact c.keeps k)
  rw [hr.length]
  split
  · rename_i h2
    refine partsOf_min (Nat.le_refl _) ?_ p hp
    unfold partsOf at h2
    split at h2
    · omega
    · simp at h2
  · exact partsOf_min hm hml p hp

/-- tree.put, as the code does it. -/
def PutR (key val : ByteArray) : Nat → St → Node → St → Except Int (List Item) → Prop
  | 0, σ, nd, σ', o => ∃ i ok, PlaceR nd.items key i ok ∧ LaidR σ ((0 : Nat) : Int) (swapL nd.items i (if ok then i + 1 else i) [⟨key, val, 0⟩]) σ' o
  | h + 1, σ, nd, σ', o => ∃ j x nk σ1 o1, WayR nd.items key j ∧ nd.items[j]? = some x ∧ NodeAt σ x.kid nk ∧ PutR key val h σ nk σ1 o1 ∧
    match o1 with
    | .error c => σ' = σ1 ∧ o = .error c
    | .ok ws => LaidR σ1 ((h + 1 : Nat) : Int) (swapL nd.items j (j + 1) ws) σ' o
theorem swapL_length {l ws : List Item} {i j : Nat} (hi : i ≤ j) (hj : j ≤ l.length) : (swapL l i j ws).length = l.length + ws.length - (j - i) := by
  unfold swapL
  rw [List.length_append, List.length_append, List.length_take, List.length_drop]; omega
theorem mem_swapL {l ws : List Item} {i j : Nat} {x : Item} (h : x ∈ swapL l i j ws) : x ∈ l ∨ x ∈ ws := by
  unfold swapL at h
  rcases List.mem_append.1 h with h | h
  · rcases List.mem_append.1 h with h | h
    · exact .inl (List.mem_of_mem_take h)
    · exact .inr h
  · exact .inl (List.mem_of_mem_drop h)
/-- At a leaf. -/
theorem put_leaf {l : List Item} {key val : ByteArray} {i : Nat} {ok : Bool} (hs : SortedI l) (hp : PlaceR l key i ok) :
    (swapL l i (if ok then i + 1 else i) [⟨key, val, 0⟩]).map kv = putE (l.map kv) key val ∧ (if ok then i + 1 else i) ≤ l.length := by
  obtain ⟨hi, hbe, hab, hok⟩ := hp
  have hA : ∀ e ∈ (l.take i).map kv, Lt e.1 key := by
    intro e he
    obtain ⟨x, hx, rfl⟩ := List.mem_map.1 he
    obtain ⟨j, hj⟩ := List.mem_iff_getElem?.1 hx
    rw [List.getElem?_take] at hj
    split at hj
    · exact hbe j x (by assumption) hj
    · cases hj
  cases ok with
  | true =>
    obtain ⟨x, hx, hk⟩ := hok.1 rfl
    have hl := (List.getElem?_eq_some_iff.1 hx).1
    simp only [if_true]
    refine ⟨?_, by omega⟩
    have e1 : l.map kv = (l.take i).map kv ++ [kv x] ++ (l.drop (i + 1)).map kv := by
      conv => lhs; rw [← List.take_append_drop i l, List.drop_eq_getElem_cons hl]
      obtain ⟨_, hx2⟩ := List.getElem?_eq_some_iff.1 hx
      rw [hx2]; simp
    rw [e1, putE_mid hA (fun e he => by
      obtain ⟨y, hy, rfl⟩ := List.mem_map.1 he
      obtain ⟨j, hj⟩ := List.mem_iff_getElem?.1 hy
      rw [List.getElem?_drop] at hj
      have := hs.get (by omega) hx hj
      rw [hk] at this
      exact this)]
    have e2 : putE [kv x] key val = [(key, val)] := by
      unfold putE kv
      rw [hk]
      simp [Lt.irrefl]
    rw [e2]
    simp [swapL, kv]
  | false =>
    simp only [Bool.false_eq_true, if_false]
    refine ⟨?_, hi⟩
    have e1 : l.map kv = (l.take i).map kv ++ [] ++ (l.drop i).map kv := by
      rw [List.append_nil, ← List.map_append, List.take_append_drop]
    rw [e1, putE_mid hA (fun e he => by
      obtain ⟨y, hy, rfl⟩ := List.mem_map.1 he
      obtain ⟨j, hj⟩ := List.mem_iff_getElem?.1 hy
      rw [List.getElem?_drop] at hj
      have h2 := hab (i + j) y (by omega) hj
      rcases Lt.total h2 with h3 | h3
      · exact h3
      · by_cases h0 : j = 0
        · subst h0
          exact absurd (hok.2 ⟨y, hj, h3⟩) (by decide)
        · have hil : i < l.length := by have := (List.getElem?_eq_some_iff.1 hj).1; omega
          have h4 := hab i _ (by omega) (List.getElem?_eq_getElem hil)
          exact Lt.of_le h4 (hs.get (by omega) (List.getElem?_eq_getElem hil) hj))]
    have e2 : putE [] key val = [(key, val)] := rfl
    rw [e2]
    simp [swapL, kv]

theorem NodeAt.unique {σ : St} {id : Int} {a b : Node} (h : NodeAt σ id a) (k : NodeAt σ id b) : a = b := by
  obtain ⟨p, h1, h2⟩ := h.p
  obtain ⟨q, k1, k2⟩ := k.p
  rw [h1] at k1
  obtain rfl := Option.some.inj k1
  rw [h2] at k2
  simpa using k2
theorem RootAt.item {σ : St} {h : Nat} {x : Item} {nd : Node} (r : RootAt σ h x nd) : (x.key.size ≤ 64 ∧ x.val.size ≤ 300) ∧ rightK x.key := by
  obtain ⟨y, hy, hk⟩ := r.key
  have hm := List.mem_of_getElem? hy
  rw [hk, r.val]
  exact ⟨⟨(r.ni.short y hm).1, by decide⟩, r.ni.right y hm⟩
/-- Items that hold sorted entries, with roots in place of some. -/
theorem IT.swap {σ : St} {h m i j : Nat} {l ws : List Item} {E : List KV} {Es : List (List KV)} (t : IT (h + 1) l) (hw : HeldM m σ h ws Es) (c : Cont σ (h + 1) (swapL l i j ws) E) (hs : SortedE E) : IT (h + 1) (swapL l i j ws) := by
  have hr : ∀ x ∈ ws, ∃ nk, RootAt σ h x nk := fun x hx => by
    obtain ⟨e, _, nk, h1, _⟩ := All2.mem hw x hx
    exact ⟨nk, h1⟩
  refine ⟨c.sorted hs, fun x hx => ?_, fun x hx => ?_, fun x hx => ?_⟩
  · rcases mem_swapL hx with hx | hx
    · exact t.short x hx
    · obtain ⟨nk, h1⟩ := hr x hx; exact h1.item.1
  · rcases mem_swapL hx with hx | hx
    · exact t.right x hx
    · obtain ⟨nk, h1⟩ := hr x hx; exact h1.item.2
  · rcases mem_swapL hx with hx | hx
    · exact t.canon x hx
    · obtain ⟨nk, h1⟩ := hr x hx
      rw [if_neg (by omega)]
      exact h1.val
theorem putR_main {key val : ByteArray} (hk : rightK key) (hv : val.size ≤ 300) : ∀ (h : Nat) (σ : St) (nd : Node) (σ' : St) (o : Except Int (List Item)) (E : List KV), PutR key val h σ nd σ' o → NI h nd → Cont σ h nd.items E → SortedE E →
    σ.dev.n ≤ 4096 → ∀ m, m ≤ 4 → m ≤ nd.items.length → Keeps σ σ' ∧ (∀ c, o = .error c → c = 28) ∧ (∀ ws, o = .ok ws → (ws.length = 1 ∨ ws.length = 2) ∧ ∃ Es, HeldM (if ws.length = 2 then 4 else m) σ' h ws Es ∧ Es.flatten = putE E key val) ∧ SavesE (2 * (h + 1)) σ σ' o := by
  intro h
  induction h with
  | zero =>
    intro σ nd σ' o E hp hn hc hs hd m hm hml
    obtain ⟨i, ok, hP, hl⟩ := hp
    have hc' : E = nd.items.map kv := hc
    obtain ⟨e1, e2⟩ := put_leaf (val := val) hn.sorted hP
    have hle : i ≤ (if ok then i + 1 else i) := by cases ok <;> simp
    have hlen := swapL_length (ws := [(⟨key, val, 0⟩ : Item)]) hle e2
    have h8 := hn.few
    have h1 := hn.pos
    simp only [List.length_singleton] at hlen
    have hlt : (if ok then i + 1 else i) - i ≤ 1 := by cases ok <;> simp
    have hco : Cont σ 0 (swapL nd.items i (if ok then i + 1 else i) [⟨key, val, 0⟩]) (putE E key val) := by rw [hc', ← e1]; rfl
    have hmem : ∀ x ∈ swapL nd.items i (if ok then i + 1 else i) [(⟨key, val, 0⟩ : Item)], x ∈ nd.items ∨ x = ⟨key, val, 0⟩ := fun x hx => (mem_swapL hx).imp id (by simp)
    refine laid_main hl (by omega) ⟨hco.sorted (putE_sorted hs key val), fun x hx => ?_, fun x hx => ?_, fun x hx => ?_⟩ hco (by omega) (by omega) hd hm (by omega)
    · rcases hmem x hx with h | rfl
      · exact hn.short x h
      · exact ⟨by have := hk.2; simp only; omega, hv⟩
    · rcases hmem x hx with h | rfl
      · exact hn.right x h
      · exact hk
    · rcases hmem x hx with h | rfl
      · exact hn.canon x h
      · rfl
  | succ h ih =>
    intro σ nd σ' o E hp hn hc hs hd m hm hml
    obtain ⟨j, x, nk, σ1, o1, hW, hx, hN, hP, hR⟩ := hp
    obtain ⟨x', EA, EX, EB, hx', hjl, rfl, cA, cX, cB, hA, hB⟩ := way_split hc hs hW hn.pos
    rw [hx] at hx'
    obtain rfl := Option.some.inj hx'
    obtain ⟨Xs, rfl, hXs⟩ := cX
    cases Xs with
    | nil => exact hXs.elim
    | cons e r =>
      cases r with
      | cons _ _ => exact hXs.2.elim
      | nil =>
        obtain ⟨⟨nk', r1, r4, rc⟩, _⟩ := hXs
        obtain rfl := NodeAt.unique hN r1.node
        simp only [List.flatten_cons, List.flatten_nil, List.append_nil] at *
        have hsX : SortedE e := (List.pairwise_append.1 (List.pairwise_append.1 hs).1).2.1
        obtain ⟨k1, he1, hw1, n1, hn1, hs1, hf1⟩ := ih σ nk σ1 o1 e hP r1.ni rc hsX hd 4 (Nat.le_refl _) r4
        cases o1 with
        | error c =>
          obtain ⟨rfl, rfl⟩ := hR
          exact ⟨k1, (fun c' hc' => by cases hc'; exact he1 _ rfl), (fun ws hws => by cases hws), n1, by omega, hs1, fun _ _ => hf1 _ rfl⟩
        | ok ws =>
          obtain ⟨hl2, Es, hH, hE⟩ := hw1 ws rfl
          rw [ite_self] at hH
          have hco : Cont σ1 (h + 1) (swapL nd.items j (j + 1) ws) (putE (EA ++ e ++ EB) key val) := by
            rw [putE_mid hA hB, ← hE]
            exact ((cA.keeps k1).append ⟨Es, rfl, hH⟩).append (cB.keeps k1)
          have hlen := swapL_length (l := nd.items) (ws := ws) (show j ≤ j + 1 by omega) (by omega)
          have h8 := hn.few
          have h20 := hn.high
          obtain ⟨k2, he2, hw2, n2, hn2, hs2, hf2⟩ := laid_main hR h20 (hn.it.swap hH hco (putE_sorted hs key val)) hco (by omega) (by omega) (by rw [k1.n]; exact hd) hm (by omega)
          exact ⟨k1.trans k2, he2, hw2, n1 + n2, by omega, hs1.trans hs2, hf2⟩
end Go.Proofs.YtbajgpadmlnffaaGreat
/- tree.put: the walk. -/
namespace Go.Proofs.YtbajgpadmlnffaaGreat
open Go.V
set_option maxRecDepth 100000
set_option linter.unusedVariables false
set_option linter.unusedSimpArgs false

theorem leaf_laid {σ : St} {items : List Item} {key val : ByteArray} {i : Nat} {ok : Bool} (hN : NI 0 ⟨((0 : Nat) : Int), items⟩) (hk : rightK key) (hv : val.size ≤ 300) (hp : PlaceR items key i ok) : LaidOK σ 0 (swapL items i (if ok then i + 1 else i) [⟨key, val, 0⟩]) := by
  obtain ⟨_, e2⟩ := put_leaf (val := val) hN.sorted hp
  have hle : i ≤ (if ok then i + 1 else i) := by cases ok <;> simp
  have hlt : (if ok then i + 1 else i) - i ≤ 1 := by cases ok <;> simp
  have hlen := swapL_length (ws := [(⟨key, val, 0⟩ : Item)]) hle e2
  have h8 : items.length ≤ 8 := hN.few
  have h1 : 0 < items.length := hN.pos
  simp only [List.length_singleton] at hlen
  refine ⟨by omega, by omega, fun x hx => ?_, fun k hk' => by simp [kidsL] at hk'⟩
  rcases mem_swapL hx with h | h
  · exact hN.short x h
  · rw [List.mem_singleton.1 h]
    exact ⟨by have := hk.2; simp only; omega, hv⟩

theorem tree_put0 (w : World) (a : SAd) (σ : St) (hS : StAt w a σ) (hA : Alive σ) (key val : ByteArray) (hk : rightK key) (hv : val.size ≤ 300) (A : Option Addr) (cap : Nat) (items : List Item) (lo hi : Nat) (hR : Rd kItem w lo hi A items) (hhi_ : hi ≤ w.heap.size) (hcap : items.length ≤ cap) (hN : NI 0 ⟨((0 : Nat) : Int), items⟩) :
    Ret Tryz.prog 71 [Pt a.s 0, .agg #[I 0, .slice A items.length cap], S key, S val] w fun v w' => ∃ (o : Except Int (List Item)) (σ' : St), PutR key val 0 σ ⟨((0 : Nat) : Int), items⟩ σ' o ∧ (match o with | .error c => v = .tuple #[.slice none 0 0, I c] | .ok xs => ∃ A cap, v = .tuple #[.slice A xs.length cap, I 0] ∧ Own kItem w' w.heap.size A cap xs) ∧ StAt w' a σ' ∧ Ext a.fpp w w' := by
  have lS := hS.bs.lt
  have lMc := hS.mc.lt
  have lMk := hS.mkt.lt
  have hhi := hS.hi
  have nSC : a.s ≠ a.mc := fun e => MapAt.ne hS.mc hS.bs e.symm
  have nKC : a.mkk ≠ a.mc := fun e => hS.cmk e.symm
  have h8 : items.length ≤ 8 := hN.few
  have h1 : 0 < items.length := hN.pos
  have hs : SortedI items := hN.sorted
  refine calls_of_XC Tryz.func71 rfl rfl ?_
  refine .seq ?_
  refine .region ?_
  refine xo.box 0 113 (.agg #[I 0, .slice A items.length cap]) [I 0, .slice A items.length cap] (by kernel_rfl) (by kernel_rfl) ?_
  intro b1 w2 hb3 hx4 hg5
  have z2 := hx4.size
  have l3 := hb3.lt
  refine xo.done 2 [(0, Pt a.s 0), (2, S key), (3, S val), (5, Pt b1 0)] (by kernel_rfl) rfl (by kernel_rfl) ?_
  refine .seq ?_
  refine .seq ?_
  refine .region ?_
  refine xo.val 1 (by kernel_rfl) (ldB (t := 3) (o := 0) (by kernel_rfl) hb3 rfl) ?_
  refine xo.done 1 [(0, Pt a.s 0), (2, S key), (3, S val), (5, Pt b1 0), (19, B true)] (by kernel_rfl) rfl (by kernel_rfl) ?_
  refine .condT rfl rfl ?_
  refine .seq ?_
  refine .region ?_
  refine xo.val 1 (by kernel_rfl) (ldB (t := 111) (o := 1) (by kernel_rfl) hb3 rfl) ?_
  have hs6 := (hR.ext hx4 (fun _ _ _ h => h))
  refine xo.ret 1 (by kernel_rfl) (cf93 _ _) (tree_place _ A cap items lo hi hs6 (by omega) (by omega) hs key) ?_
  rintro _ w10 ⟨i7, ok8, rfl, hP9, hx11⟩
  have z10 := hx11.size
  have hil_ : i7 ≤ items.length := hP9.1
  obtain hfalse | htrue : ok8 = false ∨ ok8 = true := by cases ok8 <;> simp
  · subst hfalse
    refine xo.done 5 [(0, Pt a.s 0), (2, S key), (3, S val), (5, Pt b1 0), (10, I (i7 : Int)), (11, B false)] (by kernel_rfl) rfl (by kernel_rfl) ?_
    refine .seq ?_
    refine .region ?_
    refine xo.done 2 [(0, Pt a.s 0), (2, S key), (3, S val), (5, Pt b1 0), (10, I (i7 : Int)), (11, B false), (12, I (i7 : Int))] (by kernel_rfl) rfl (by kernel_rfl) ?_
    refine .seq ?_
    refine .seq ?_
    refine .region ?_
    refine xo.done 1 [(0, Pt a.s 0), (2, S key), (3, S val), (5, Pt b1 0), (10, I (i7 : Int)), (12, I (i7 : Int)), (28, B false)] (by kernel_rfl) rfl (by kernel_rfl) ?_
    refine .condF rfl rfl ?_
    refine .skip ?_
    refine .seq ?_
    refine .region ?_
    have hb12 := (hb3.ext hx11 (fun h => h))
    refine xo.val 2 (by kernel_rfl) (ldB (t := 111) (o := 1) (by kernel_rfl) hb12 rfl) ?_
    refine xo.bsl 5 111 1 #[(0, .agg #[S key, S val, I 0])] (et := 119) (cs := [S key, S val, I 0]) (by kernel_rfl) (by kernel_rfl) ?_
    intro b13 w14 hb15 hx16 hg17
    have z14 := hx16.size
    have l15 := hb15.lt
    have hs18 := ((hs6.ext hx11 (fun _ _ _ h => h)).ext hx16 (fun _ _ _ h => h))
    refine xo.ret 0 (by kernel_rfl) (cf94 _ _) (tree_swap _ A cap items lo hi hs18 (by omega) hcap (by omega) (some ⟨b13, 0, none⟩) 1 ([(⟨key, val, 0⟩ : Item)]) b13 (b13 + 1) (show Rd kItem w14 b13 (b13 + 1) (some ⟨b13, 0, none⟩) [(⟨key, val, 0⟩ : Item)] from .inr ⟨b13, 0, rfl, Nat.le_refl _, Nat.lt_succ_self _, hb15.cs⟩) (by omega) (by simp only [List.length_cons, List.length_nil]; omega) i7 i7 (by omega) (by omega)) ?_
    rintro _ w22 ⟨A19, c20, rfl, ho21, hx23⟩
    have z22 := hx23.size
    have hf24 := ((((hS.no hx4).no hx11).no hx16).no hx23)
    have hlo := leaf_laid (σ := σ) (val := val) hN hk hv hP9
    refine xo.ret 0 (by kernel_rfl) (cf98 _ _) (tree_laid _ a σ hf24 hA 0 A19 c20 (swapL items i7 i7 ([(⟨key, val, 0⟩ : Item)])) w14.heap.size w22.heap.size ho21.rd (by omega) ho21.cap_le hlo) ?_
    rintro _ w25 ⟨(c26 | x27), σ28, hR29, hv30, hS31, hx32⟩
    · obtain rfl := hv30
      have z25 := hx32.size
      refine xo.done 4 [(8, .slice none 0 0), (9, I c26)] (by kernel_rfl) rfl (by kernel_rfl) ?_
      refine .ret ?_
      refine ⟨[.slice none 0 0, I c26], by kernel_rfl, _, rfl, ?_⟩
      exact ⟨.error c26, σ28, ⟨i7, false, hP9, hR29⟩, rfl, hS31, (((((hx4.weak fun b hb h => h.elim).trans' hx11 (fun _ _ h => h) (fun b hb h => h.elim)).trans' hx16 (fun _ _ h => h) (fun b hb h => h.elim)).trans' hx23 (fun _ _ h => h) (fun b hb h => h.elim)).trans' hx32 (fun _ _ h => h) (fun b hb q => q))⟩
    · obtain ⟨A33, c34, rfl, ho35⟩ := hv30
      have z25 := hx32.size
      refine xo.done 4 [(8, .slice A33 x27.length c34), (9, I 0)] (by kernel_rfl) rfl (by kernel_rfl) ?_
      refine .ret ?_
      refine ⟨[.slice A33 x27.length c34, I 0], by kernel_rfl, _, rfl, ?_⟩
      exact ⟨.ok x27, σ28, ⟨i7, false, hP9, hR29⟩, ⟨_, _, rfl, ho35.base_le (by omega)⟩, hS31, (((((hx4.weak fun b hb h => h.elim).trans' hx11 (fun _ _ h => h) (fun b hb h => h.elim)).trans' hx16 (fun _ _ h => h) (fun b hb h => h.elim)).trans' hx23 (fun _ _ h => h) (fun b hb h => h.elim)).trans' hx32 (fun _ _ h => h) (fun b hb q => q))⟩
  · subst htrue
    have hlt_ : i7 < items.length := by
      obtain ⟨x, hx, _⟩ := hP9.2.2.2.1 rfl
      exact (List.getElem?_eq_some_iff.1 hx).1
    refine xo.done 5 [(0, Pt a.s 0), (2, S key), (3, S val), (5, Pt b1 0), (10, I (i7 : Int)), (11, B true)] (by kernel_rfl) rfl (by kernel_rfl) ?_
    refine .seq ?_
    refine .region ?_
    refine xo.done 2 [(0, Pt a.s 0), (2, S key), (3, S val), (5, Pt b1 0), (10, I (i7 : Int)), (11, B true), (12, I (i7 : Int))] (by kernel_rfl) rfl (by kernel_rfl) ?_
    refine .seq ?_
    refine .seq ?_
    refine .region ?_
    refine xo.done 1 [(0, Pt a.s 0), (2, S key), (3, S val), (5, Pt b1 0), (10, I (i7 : Int)), (12, I (i7 : Int)), (28, B true)] (by kernel_rfl) rfl (by kernel_rfl) ?_
    refine .condT rfl rfl ?_
    refine .region ?_
    refine xo.val 1 (by kernel_rfl) (a_add (a := (i7 : Int)) (b := 1) (by omega) (by omega)) ?_
    refine xo.done 1 [(0, Pt a.s 0), (2, S key), (3, S val), (5, Pt b1 0), (10, I (i7 : Int)), (12, I ((i7 : Int) + 1))] (by kernel_rfl) rfl (by kernel_rfl) ?_
    refine .seq ?_
    refine .region ?_
    have hb36 := (hb3.ext hx11 (fun h => h))
    refine xo.val 2 (by kernel_rfl) (ldB (t := 111) (o := 1) (by kernel_rfl) hb36 rfl) ?_
    refine xo.bsl 5 111 1 #[(0, .agg #[S key, S val, I 0])] (et := 119) (cs := [S key, S val, I 0]) (by kernel_rfl) (by kernel_rfl) ?_
    intro b37 w38 hb39 hx40 hg41
    have z38 := hx40.size
    have l39 := hb39.lt
    have hs42 := ((hs6.ext hx11 (fun _ _ _ h => h)).ext hx40 (fun _ _ _ h => h))
    refine xo.ret 0 (by kernel_rfl) (cf94 _ _) (tree_swap _ A cap items lo hi hs42 (by omega) hcap (by omega) (some ⟨b37, 0, none⟩) 1 ([(⟨key, val, 0⟩ : Item)]) b37 (b37 + 1) (show Rd kItem w38 b37 (b37 + 1) (some ⟨b37, 0, none⟩) [(⟨key, val, 0⟩ : Item)] from .inr ⟨b37, 0, rfl, Nat.le_refl _, Nat.lt_succ_self _, hb39.cs⟩) (by omega) (by simp only [List.length_cons, List.length_nil]; omega) i7 (i7 + 1) (by omega) (by omega)) ?_
    rintro _ w46 ⟨A43, c44, rfl, ho45, hx47⟩
    have z46 := hx47.size
    have hf48 := ((((hS.no hx4).no hx11).no hx40).no hx47)
    have hlo := leaf_laid (σ := σ) (val := val) hN hk hv hP9
    refine xo.ret 0 (by kernel_rfl) (cf98 _ _) (tree_laid _ a σ hf48 hA 0 A43 c44 (swapL items i7 (i7 + 1) ([(⟨key, val, 0⟩ : Item)])) w38.heap.size w46.heap.size ho45.rd (by omega) ho45.cap_le hlo) ?_
    rintro _ w49 ⟨(c50 | x51), σ52, hR53, hv54, hS55, hx56⟩
    · obtain rfl := hv54
      have z49 := hx56.size
      refine xo.done 4 [(8, .slice none 0 0), (9, I c50)] (by kernel_rfl) rfl (by kernel_rfl) ?_
      refine .ret ?_
      refine ⟨[.slice none 0 0, I c50], by kernel_rfl, _, rfl, ?_⟩
      exact ⟨.error c50, σ52, ⟨i7, true, hP9, hR53⟩, rfl, hS55, (((((hx4.weak fun b hb h => h.elim).trans' hx11 (fun _ _ h => h) (fun b hb h => h.elim)).trans' hx40 (fun _ _ h => h) (fun b hb h => h.elim)).trans' hx47 (fun _ _ h => h) (fun b hb h => h.elim)).trans' hx56 (fun _ _ h => h) (fun b hb q => q))⟩
    · obtain ⟨A57, c58, rfl, ho59⟩ := hv54
      have z49 := hx56.size
      refine xo.done 4 [(8, .slice A57 x51.length c58), (9, I 0)] (by kernel_rfl) rfl (by kernel_rfl) ?_
      refine .ret ?_
      refine ⟨[.slice A57 x51.length c58, I 0], by kernel_rfl, _, rfl, ?_⟩
      exact ⟨.ok x51, σ52, ⟨i7, true, hP9, hR53⟩, ⟨_, _, rfl, ho59.base_le (by omega)⟩, hS55, (((((hx4.weak fun b hb h => h.elim).trans' hx11 (fun _ _ h => h) (fun b hb h => h.elim)).trans' hx40 (fun _ _ h => h) (fun b hb h => h.elim)).trans' hx47 (fun _ _ h => h) (fun b hb h => h.elim)).trans' hx56 (fun _ _ h => h) (fun b hb q => q))⟩

def PutOK (h : Nat) : Prop := ∀ (w : World) (a : SAd) (σ : St) (hS : StAt w a σ) (hA : Alive σ) (key val : ByteArray) (hk : rightK key) (hv : val.size ≤ 300) (A : Option Addr) (cap : Nat) (items : List Item) (lo hi : Nat) (hR : Rd kItem w lo hi A items) (hhi_ : hi ≤ w.heap.size) (hcap : items.length ≤ cap)
    (hN : NI h ⟨(h : Int), items⟩) (E : List KV) (hC : Cont σ h items E) (hE : SortedE E),
    Ret Tryz.prog 71 [Pt a.s 0, .agg #[I (h : Int), .slice A items.length cap], S key, S val] w fun v w' => ∃ (o : Except Int (List Item)) (σ' : St), PutR key val h σ ⟨(h : Int), items⟩ σ' o ∧ (match o with | .error c => v = .tuple #[.slice none 0 0, I c] | .ok xs => ∃ A cap, v = .tuple #[.slice A xs.length cap, I 0] ∧ Own kItem w' w.heap.size A cap xs) ∧ StAt w' a σ' ∧ Ext a.fpp w w'
theorem put0 : PutOK 0 := fun w a σ hS hA key val hk hv A cap items lo hi hR hhi_ hcap hN E hC hE => tree_put0 w a σ hS hA key val hk hv A cap items lo hi hR hhi_ hcap hN
/-- The parent's items, with those of the kid in place of it. -/
theorem node_laid {σ σ1 : St} {h j : Nat} {items ws : List Item} {nk : Node} {key val : ByteArray} {EA e EB : List KV} (hk : rightK key) (hv : val.size ≤ 300) (hN : NI (h + 1) ⟨((h + 1 : Nat) : Int), items⟩) (hj : j < items.length)
    (cA : Cont σ (h + 1) (items.take j) EA) (cB : Cont σ (h + 1) (items.drop (j + 1)) EB) (hA : ∀ e ∈ EA, Lt e.1 key) (hB : ∀ e ∈ EB, Lt key e.1) (hs : SortedE (EA ++ e ++ EB))
    (hP : PutR key val h σ nk σ1 (.ok ws)) (hn : NI h nk) (rc : Cont σ h nk.items e) (r4 : 4 ≤ nk.items.length) (hd : σ.dev.n ≤ 4096) : LaidOK σ1 ((h + 1 : Nat) : Int) (swapL items j (j + 1) ws) ∧ Keeps σ σ1 ∧ ws.length ≤ 2 := by
  have hsX : SortedE e := (List.pairwise_append.1 (List.pairwise_append.1 hs).1).2.1
  obtain ⟨k1, he1, hw1, _⟩ := putR_main hk hv h σ nk σ1 (.ok ws) e hP hn rc hsX hd 4 (Nat.le_refl _) r4
  obtain ⟨hl2, Es, hH, hE⟩ := hw1 ws rfl
  rw [ite_self] at hH
  have hco : Cont σ1 (h + 1) (swapL items j (j + 1) ws) (putE (EA ++ e ++ EB) key val) := by
    rw [putE_mid hA hB, ← hE]
    exact ((cA.keeps k1).append ⟨Es, rfl, hH⟩).append (cB.keeps k1)
  have hlen := swapL_length (l := items) (ws := ws) (show j ≤ j + 1 by omega) (by omega)
  have h8 : items.length ≤ 8 := hN.few
  exact ⟨((show IT (h + 1) items from hN.it).swap hH hco (putE_sorted hs key val)).laid hco.kids (by omega) (by omega), k1, by omega⟩
theorem kid_of {σ : St} {h : Nat} {x : Item} {EX : List KV} (c : Cont σ (h + 1) [x] EX) : ∃ it, RootAt σ h x ⟨(h : Int), it⟩ ∧ 4 ≤ it.length ∧ Cont σ h it EX := by
  obtain ⟨Xs, rfl, hXs⟩ := c
  cases Xs with
  | nil => exact hXs.elim
  | cons e r =>
    cases r with
    | cons _ _ => exact hXs.2.elim
    | nil =>
      obtain ⟨⟨⟨lv, it⟩, r1, r4, rc⟩, _⟩ := hXs
      have e : lv = (h : Int) := r1.ni.level
      subst e
      exact ⟨it, r1, r4, by simpa using rc⟩

theorem tree_putS (h : Nat) (ih : PutOK h) (w : World) (a : SAd) (σ : St) (hS : StAt w a σ) (hA : Alive σ) (key val : ByteArray) (hk : rightK key) (hv : val.size ≤ 300) (A : Option Addr) (cap : Nat) (items : List Item) (lo hi : Nat) (hR : Rd kItem w lo hi A items) (hhi_ : hi ≤ w.heap.size) (hcap : items.length ≤ cap) (hN : NI (h + 1) ⟨((h + 1 : Nat) : Int), items⟩) (E : List KV) (hC : Cont σ (h + 1) items E) (hE : SortedE E) :
    Ret Tryz.prog 71 [Pt a.s 0, .agg #[I (((h + 1 : Nat) : Int)), .slice A items.length cap], S key, S val] w fun v w' => ∃ (o : Except Int (List Item)) (σ' : St), PutR key val (h + 1) σ ⟨(((h + 1) : Nat) : Int), items⟩ σ' o ∧ (match o with | .error c => v = .tuple #[.slice none 0 0, I c] | .ok xs => ∃ A cap, v = .tuple #[.slice A xs.length cap, I 0] ∧ Own kItem w' w.heap.size A cap xs) ∧ StAt w' a σ' ∧ Ext a.fpp w w' := by
  have lS := hS.bs.lt
  have lMc := hS.mc.lt
  have lMk := hS.mkt.lt
  have hhi := hS.hi
  have nSC : a.s ≠ a.mc := fun e => MapAt.ne hS.mc hS.bs e.symm
  have nKC : a.mkk ≠ a.mc := fun e => hS.cmk e.symm
  have h8 : items.length ≤ 8 := hN.few
  have h1 : 0 < items.length := hN.pos
  have hs : SortedI items := hN.sorted
  have hn4 := hA.n4
  have h20 : h + 1 ≤ 20 := hN.high
  refine calls_of_XC Tryz.func71 rfl rfl ?_
  refine .seq ?_
  refine .region ?_
  refine xo.box 0 113 (.agg #[I (((h + 1 : Nat) : Int)), .slice A items.length cap]) [I (((h + 1 : Nat) : Int)), .slice A items.length cap] (by kernel_rfl) (by kernel_rfl) ?_
  intro b1 w2 hb3 hx4 hg5
  have z2 := hx4.size
  have l3 := hb3.lt
  refine xo.done 2 [(0, Pt a.s 0), (2, S key), (3, S val), (5, Pt b1 0)] (by kernel_rfl) rfl (by kernel_rfl) ?_
  refine .seq ?_
  refine .seq ?_
  refine .region ?_
  refine xo.val 1 (by kernel_rfl) (ldB (t := 3) (o := 0) (by kernel_rfl) hb3 rfl) ?_
  refine xo.val 0 (by kernel_rfl) (c_eql_f (show ¬ ((((h + 1 : Nat) : Int) : Int) = 0) from (by omega))) ?_
  refine xo.done 0 [(0, Pt a.s 0), (2, S key), (3, S val), (5, Pt b1 0), (19, B false)] (by kernel_rfl) rfl (by kernel_rfl) ?_
  refine .condF rfl rfl ?_
  refine .skip ?_
  refine .seq ?_
  refine .region ?_
  refine xo.val 1 (by kernel_rfl) (ldB (t := 111) (o := 1) (by kernel_rfl) hb3 rfl) ?_
  have hs6 := (hR.ext hx4 (fun _ _ _ h => h))
  refine xo.ret 1 (by kernel_rfl) (cf95 _ _) (tree_way _ A cap items lo hi hs6 (by omega) (by omega) hs key) ?_
  rintro _ w9 ⟨j7, rfl, hW8, hx10⟩
  have z9 := hx10.size
  obtain ⟨x0, EA, EX, EB, hx0, hjl, hEe, cA, cX, cB, hA_, hB_⟩ := way_split hC hE hW8 hN.pos
  obtain ⟨it, r1, r4, rc⟩ := kid_of cX
  have hsX : SortedE EX := by rw [hEe] at hE; exact (List.pairwise_append.1 (List.pairwise_append.1 hE).1).2.1
  refine xo.done 1 [(0, Pt a.s 0), (2, S key), (3, S val), (5, Pt b1 0), (13, I (j7 : Int))] (by kernel_rfl) rfl (by kernel_rfl) ?_
  refine .seq ?_
  refine .region ?_
  have hb11 := (hb3.ext hx10 (fun h => h))
  refine xo.val 1 (by kernel_rfl) (ldBA (t := 113) (o := 0) (vs := [I (((h + 1 : Nat) : Int)), .slice A items.length cap]) (by kernel_rfl) hb11 rfl) ?_
  have hs12 := (hs6.ext hx10 (fun _ _ _ h => h))
  have hf17 := ((hS.no hx4).no hx10)
  refine xo.ret 1 (by kernel_rfl) (cf96 _ _) (tree_below _ a σ hf17 hA ((h + 1 : Nat) : Int) A cap items lo hi hs12 (by omega) j7 x0 hx0 (⟨(h : Int), it⟩ : Node) r1.node (show (h : Int) = ((h + 1 : Nat) : Int) - 1 by omega) (by omega)) ?_
  rintro _ w18 ⟨A13, c14, rfl, hS15, hx19, ho16⟩
  have z18 := hx19.size
  refine xo.alloc 3 113 [I 0, .slice none 0 0] (by kernel_rfl) (by kernel_rfl) ?_
  intro b20 w21 hb22 hx23 hg24
  have z21 := hx23.size
  have l22 := hb22.lt
  refine xo.store 0 113 (o := 0) (.agg #[I (h : Int), .slice A13 it.length c14]) [I (h : Int), .slice A13 it.length c14] (by kernel_rfl) hb22 (by kernel_rfl) (by kernel_rfl) (by kernel_rfl) (by kernel_rfl) ?_
  intro w25 hb26 hx27
  have z25 := hx27.size
  refine xo.done 1 [(0, Pt a.s 0), (2, S key), (3, S val), (5, Pt b1 0), (13, I (j7 : Int)), (14, Pt b20 0), (15, I 0)] (by kernel_rfl) rfl (by kernel_rfl) ?_
  refine .seq ?_
  refine .seq ?_
  refine .region ?_
  refine xo.done 2 [(0, Pt a.s 0), (2, S key), (3, S val), (5, Pt b1 0), (13, I (j7 : Int)), (14, Pt b20 0), (15, I 0), (56, B false)] (by kernel_rfl) rfl (by kernel_rfl) ?_
  refine .condF rfl rfl ?_
  refine .skip ?_
  refine .seq ?_
  refine .region ?_
  refine xo.val 1 (by kernel_rfl) (ldBA (t := 113) (o := 0) (vs := [I (h : Int), .slice A13 it.length c14]) (by kernel_rfl) hb26 rfl) ?_
  have hs28 := ((ho16.ext hx23 (fun _ _ h => h)).ext hx27 (fun b hb (e : b = b20) => (ho16.ext hx23 (fun _ _ h => h)).ne hb22 rfl (e ▸ hb)))
  have hf29 := ((hS15.no hx23).ext hx27 (fun b h1 h2 (e : b = b20) => by omega) (MapAt.ne (hS15.no hx23).mkt hb22) (fun b cs hb (e : b = b20) => Blk.ne hb hb22 rfl e))
  refine xo.ret 2 (by kernel_rfl) (cf71 _ _) (ih _ a σ hf29 hA key val hk hv A13 c14 it w9.heap.size w25.heap.size hs28.rd (by omega) hs28.cap_le r1.ni EX rc hsX) ?_
  rintro _ w30 ⟨(c31 | x32), σ33, hR34, hv35, hS36, hx37⟩
  · obtain rfl := hv35
    have z30 := hx37.size
    have h28 : c31 = 28 := (putR_main hk hv h _ _ _ _ EX hR34 r1.ni rc hsX (by omega) 4 (Nat.le_refl _) r4).2.1 _ rfl
    subst h28
    refine xo.done 5 [(0, Pt a.s 0), (5, Pt b1 0), (13, I (j7 : Int)), (15, I 28), (16, .slice none 0 0)] (by kernel_rfl) rfl (by kernel_rfl) ?_
    refine .seq ?_
    refine .seq ?_
    refine .region ?_
    refine xo.done 2 [(0, Pt a.s 0), (5, Pt b1 0), (13, I (j7 : Int)), (15, I 28), (16, .slice none 0 0), (67, B true)] (by kernel_rfl) rfl (by kernel_rfl) ?_
    refine .condT rfl rfl ?_
    refine .seq ?_
    refine .region ?_
    refine xo.done 3 [(8, .slice none 0 0), (9, I 28)] (by kernel_rfl) rfl (by kernel_rfl) ?_
    refine .ret ?_
    refine ⟨[.slice none 0 0, I 28], by kernel_rfl, _, rfl, ?_⟩
    exact ⟨.error 28, σ33, ⟨j7, x0, (⟨(h : Int), it⟩ : Node), σ33, .error 28, hW8, hx0, r1.node, hR34, rfl, rfl⟩, rfl, hS36, ((((((hx4.weak fun b hb h => h.elim).trans' hx10 (fun _ _ h => h) (fun b hb h => h.elim)).trans' hx19 (fun _ _ h => h) (fun b hb h => h.elim)).trans' hx23 (fun _ _ h => h) (fun b hb h => h.elim)).trans' hx27 (fun _ _ h => h) (fun b hb (q : b = b20) => absurd hb (by omega))).trans' hx37 (fun _ _ h => h) (fun b hb q => q))⟩
  · obtain ⟨A38, c39, rfl, ho40⟩ := hv35
    have z30 := hx37.size
    obtain ⟨hlo, hkeep, hl2⟩ := node_laid hk hv hN hjl cA cB hA_ hB_ (by rw [hEe] at hE; exact hE) hR34 r1.ni rc r4 (by omega)
    refine xo.done 5 [(0, Pt a.s 0), (5, Pt b1 0), (13, I (j7 : Int)), (15, I 0), (16, .slice A38 x32.length c39)] (by kernel_rfl) rfl (by kernel_rfl) ?_
    refine .seq ?_
    refine .seq ?_
    refine .region ?_
    refine xo.done 2 [(0, Pt a.s 0), (5, Pt b1 0), (13, I (j7 : Int)), (15, I 0), (16, .slice A38 x32.length c39), (67, B false)] (by kernel_rfl) rfl (by kernel_rfl) ?_
    refine .condF rfl rfl ?_
    refine .skip ?_
    refine .seq ?_
    have hb45 := ((((hb11.ext hx19 (fun h => h)).ext hx23 (fun h => h)).ext hx27 (show b1 ≠ b20 by omega)).extm hx37 hf29.maps)
    refine XC.regionDraw (fun u => Blk u b1 113 [I (((h + 1 : Nat) : Int)), .slice A items.length cap] ∧ True) (by kernel_rfl) ?_
    intro w43 hd44
    have hx44 := Ext.ofDrew (M := No) hd44
    have z43 := hx44.size
    have hb46 := (hb45.ext hx44 (fun h => h))
    refine ⟨⟨hb46, trivial⟩, ?_⟩
    refine xd.q (fun _ _ _ _ h => h) 0 (Pt a.s 0) (by kernel_rfl) (by kernel_rfl) (by kernel_rfl) ?_
    refine xd.q (fun _ _ _ _ h => h) 1 (Pt b1 0) (by kernel_rfl) (by kernel_rfl) (by kernel_rfl) ?_
    refine xd.rd (fun _ _ _ _ h => h) 2 (by kernel_rfl) (by kernel_rfl) (by kernel_rfl) (fun u hS => (ldB (t := 3) (o := 0) (by kernel_rfl) hS.1 rfl)) ?_
    refine xd.q (fun _ _ _ _ h => h) 3 (Pt b1 1) (by kernel_rfl) (by kernel_rfl) (by kernel_rfl) ?_
    refine xd.rd (fun _ _ _ _ h => h) 4 (by kernel_rfl) (by kernel_rfl) (by kernel_rfl) (fun u hS => (ldB (t := 111) (o := 1) (by kernel_rfl) hS.1 rfl)) ?_
    refine xd.q (fun _ _ _ _ h => h) 5 (I (j7 : Int)) (by kernel_rfl) (by kernel_rfl) (by kernel_rfl) ?_
    refine xd.q (fun _ _ _ _ h => h) 6 (I (j7 : Int)) (by kernel_rfl) (by kernel_rfl) (by kernel_rfl) ?_
    refine xd.rd (fun _ _ _ _ h => h) 7 (by kernel_rfl) (by kernel_rfl) (by kernel_rfl) (fun u hS => (a_add (a := (j7 : Int)) (b := 1) (by omega) (by omega))) ?_
    refine xd.q (fun _ _ _ _ h => h) 8 (.slice A38 x32.length c39) (by kernel_rfl) (by kernel_rfl) (by kernel_rfl) ?_
    refine xd.one 9 (by kernel_rfl) ?_
    have hs47 := (((((hs12.ext hx19 (fun _ _ _ h => h)).ext hx23 (fun _ _ _ h => h)).ext hx27 (fun b h1 h2 (e : b = b20) => by omega)).extm hx37 hf29.maps).ext hx44 (fun _ _ _ h => h))
    have hs48 := (ho40.ext hx44 (fun _ _ h => h))
    refine xo.ret 0 (by kernel_rfl) (cf94 _ _) (tree_swap _ A cap items lo hi hs47 (by omega) hcap (by omega) A38 c39 x32 w25.heap.size w43.heap.size hs48.rd (by omega) (by omega) j7 (j7 + 1) (by omega) (by omega)) ?_
    rintro _ w52 ⟨A49, c50, rfl, ho51, hx53⟩
    have z52 := hx53.size
    refine xo.fin 0 (by kernel_rfl) rfl ?_
    have hb54 := (hb46.ext hx53 (fun h => h))
    refine ⟨⟨hb54, trivial⟩, ?_⟩
    refine xd.one 10 (by kernel_rfl) ?_
    have hf55 := ((hS36.no hx44).no hx53)
    refine xo.ret 0 (by kernel_rfl) (cf98 _ _) (tree_laid _ a σ33 hf55 (hkeep.alive hA) (((h + 1 : Nat) : Int)) A49 c50 (swapL items j7 (j7 + 1) x32) w43.heap.size w52.heap.size ho51.rd (by omega) ho51.cap_le hlo) ?_
    rintro _ w56 ⟨(c57 | x58), σ59, hR60, hv61, hS62, hx63⟩
    · obtain rfl := hv61
      have z56 := hx63.size
      refine xo.fin 0 (by kernel_rfl) rfl ?_
      have hb67 := (hb54.extm hx63 hf55.maps)
      refine ⟨⟨hb67, trivial⟩, ?_⟩
      refine xd.q (fun _ _ _ _ h => h) 11 (.slice none 0 0) (by kernel_rfl) (by kernel_rfl) (by kernel_rfl) ?_
      refine xd.q (fun _ _ _ _ h => h) 12 (I c57) (by kernel_rfl) (by kernel_rfl) (by kernel_rfl) ?_
      refine xd.q (fun _ _ _ _ h => h) 13 (.slice none 0 0) (by kernel_rfl) (by kernel_rfl) (by kernel_rfl) ?_
      refine xd.q (fun _ _ _ _ h => h) 14 (I c57) (by kernel_rfl) (by kernel_rfl) (by kernel_rfl) ?_
      refine xd.done (by kernel_rfl) ?_
      refine .cov [(8, .slice none 0 0), (9, I c57)] (cov_of (by kernel_rfl)) ?_
      refine .ret ?_
      refine ⟨[.slice none 0 0, I c57], by kernel_rfl, _, rfl, ?_⟩
      exact ⟨.error c57, σ59, ⟨j7, x0, (⟨(h : Int), it⟩ : Node), σ33, .ok x32, hW8, hx0, r1.node, hR34, hR60⟩, rfl, hS62, (((((((((hx4.weak fun b hb h => h.elim).trans' hx10 (fun _ _ h => h) (fun b hb h => h.elim)).trans' hx19 (fun _ _ h => h) (fun b hb h => h.elim)).trans' hx23 (fun _ _ h => h) (fun b hb h => h.elim)).trans' hx27 (fun _ _ h => h) (fun b hb (q : b = b20) => absurd hb (by omega))).trans' hx37 (fun _ _ h => h) (fun b hb q => q)).trans' hx44 (fun _ _ h => h) (fun b hb h => h.elim)).trans' hx53 (fun _ _ h => h) (fun b hb h => h.elim)).trans' hx63 (fun _ _ h => h) (fun b hb q => q))⟩
    · obtain ⟨A64, c65, rfl, ho66⟩ := hv61
      have z56 := hx63.size
      refine xo.fin 0 (by kernel_rfl) rfl ?_
      have hb68 := (hb54.extm hx63 hf55.maps)
      refine ⟨⟨hb68, trivial⟩, ?_⟩
      refine xd.q (fun _ _ _ _ h => h) 11 (.slice A64 x58.length c65) (by kernel_rfl) (by kernel_rfl) (by kernel_rfl) ?_
      refine xd.q (fun _ _ _ _ h => h) 12 (I 0) (by kernel_rfl) (by kernel_rfl) (by kernel_rfl) ?_
      refine xd.q (fun _ _ _ _ h => h) 13 (.slice A64 x58.length c65) (by kernel_rfl) (by kernel_rfl) (by kernel_rfl) ?_
      refine xd.q (fun _ _ _ _ h => h) 14 (I 0) (by kernel_rfl) (by kernel_rfl) (by kernel_rfl) ?_
      refine xd.done (by kernel_rfl) ?_
      refine .cov [(8, .slice A64 x58.length c65), (9, I 0)] (cov_of (by kernel_rfl)) ?_
      refine .ret ?_
      refine ⟨[.slice A64 x58.length c65, I 0], by kernel_rfl, _, rfl, ?_⟩
      exact ⟨.ok x58, σ59, ⟨j7, x0, (⟨(h : Int), it⟩ : Node), σ33, .ok x32, hW8, hx0, r1.node, hR34, hR60⟩, ⟨_, _, rfl, ho66.base_le (by omega)⟩, hS62, (((((((((hx4.weak fun b hb h => h.elim).trans' hx10 (fun _ _ h => h) (fun b hb h => h.elim)).trans' hx19 (fun _ _ h => h) (fun b hb h => h.elim)).trans' hx23 (fun _ _ h => h) (fun b hb h => h.elim)).trans' hx27 (fun _ _ h => h) (fun b hb (q : b = b20) => absurd hb (by omega))).trans' hx37 (fun _ _ h => h) (fun b hb q => q)).trans' hx44 (fun _ _ h => h) (fun b hb h => h.elim)).trans' hx53 (fun _ _ h => h) (fun b hb h => h.elim)).trans' hx63 (fun _ _ h => h) (fun b hb q => q))⟩

theorem tree_put : ∀ h, PutOK h := by
  intro h
  induction h with
  | zero => exact put0
  | succ h ih => exact fun w a σ hS hA key val hk hv A cap items lo hi hR hhi_ hcap hN E hC hE => tree_putS h ih w a σ hS hA key val hk hv A cap items lo hi hR hhi_ hcap hN E hC hE

end Go.Proofs.YtbajgpadmlnffaaGreat
/- tree.Put: the walk. -/
namespace Go.Proofs.YtbajgpadmlnffaaGreat
open Go.V
set_option maxRecDepth 100000
set_option linter.unusedVariables false
set_option linter.unusedSimpArgs false

theorem len1 {α : Type} {l : List α} (h : l.length = 1) : ∃ a, l = [a] := by
  cases l with
  | nil => simp at h
  | cons a r => cases r with
    | nil => exact ⟨a, rfl⟩
    | cons _ _ => simp at h
theorem len2 {α : Type} {l : List α} (h : l.length = 2) : ∃ a b, l = [a, b] := by
  cases l with
  | nil => simp at h
  | cons a r => 
    obtain ⟨b, rfl⟩ := len1 (l := r) (by simpa using h)
    exact ⟨a, b, rfl⟩
/-- tree.Put over a root that is there. -/
def PutN (key val : ByteArray) (h : Nat) (σ : St) (nd : Node) (σ' : St) (o : Except Int Int) : Prop :=
  ∃ σ1 o1, PutR key val h σ nd σ1 o1 ∧
    ((∃ c, o1 = .error c ∧ σ' = σ1 ∧ o = .error c) ∨ (∃ x, o1 = .ok [x] ∧ σ' = σ1 ∧ o = .ok x.kid) ∨
     (∃ x y, o1 = .ok [x, y] ∧ ((h = 20 ∧ σ' = σ1 ∧ o = .error 27) ∨ (h ≠ 20 ∧ ∃ o2, SaveR σ1 ⟨(h : Int) + 1, [x, y]⟩ σ' o2 ∧ ((∃ c, o2 = .error c ∧ o = .error c) ∨ ∃ z, o2 = .ok z ∧ o = .ok z.kid)))))
theorem HeldM.good {m : Nat} {σ : St} {h : Nat} {ws : List Item} {Es : List (List KV)} (hw : HeldM m σ h ws Es) : ∀ x ∈ ws, badKid σ x.kid = false ∧ (x.key.size ≤ 64 ∧ x.val.size ≤ 300) := fun x hx => by
  obtain ⟨e, _, nk, h1, _⟩ := All2.mem hw x hx
  exact ⟨h1.good, h1.item.1⟩
theorem HeldM.saveOK {m : Nat} {σ : St} {h : Nat} {ws : List Item} {Es : List (List KV)} (hw : HeldM m σ h ws Es) (lv : Int) (h1 : 0 < ws.length) (h8 : ws.length ≤ 8) : SaveOK σ ⟨lv, ws⟩ :=
  ⟨h1, h8, fun x hx => (hw.good x hx).2, List.any_eq_false.2 fun k hk => by
    unfold kidsOf kidsL at hk
    simp only at hk
    split at hk
    · obtain ⟨x, hx, rfl⟩ := List.mem_map.1 hk
      rw [(hw.good x hx).1]; decide
    · cases hk⟩

/-- tree.put at a root: an error, one root, or two. -/
theorem putT {h : Nat} (hp : PutOK h) (w : World) (a : SAd) (σ : St) (hS : StAt w a σ) (hA : Alive σ) (key val : ByteArray) (hk : rightK key) (hv : val.size ≤ 300) (A : Option Addr) (cap : Nat) (items : List Item) (lo hi : Nat) (hR : Rd kItem w lo hi A items) (hhi_ : hi ≤ w.heap.size) (hcap : items.length ≤ cap)
    (hN : NI h ⟨(h : Int), items⟩) (E : List KV) (hC : Cont σ h items E) (hE : SortedE E) (hd : σ.dev.n ≤ 4096) :
    Ret Tryz.prog 71 [Pt a.s 0, .agg #[I (h : Int), .slice A items.length cap], S key, S val] w fun v w' => ∃ (σ' : St), Keeps σ σ' ∧ StAt w' a σ' ∧ Ext a.fpp w w' ∧
      ((v = .tuple #[.slice none 0 0, I 28] ∧ PutR key val h σ ⟨(h : Int), items⟩ σ' (.error 28)) ∨
       (∃ y1 A cap, v = .tuple #[.slice A [y1].length cap, I 0] ∧ ∃ Es, HeldM 1 σ' h [y1] Es ∧ Es.flatten = putE E key val ∧ PutR key val h σ ⟨(h : Int), items⟩ σ' (.ok [y1]) ∧ Own kItem w' w.heap.size A cap [y1]) ∨
       (∃ y1 y2 A cap, v = .tuple #[.slice A [y1, y2].length cap, I 0] ∧ ∃ Es, HeldM 4 σ' h [y1, y2] Es ∧ Es.flatten = putE E key val ∧ PutR key val h σ ⟨(h : Int), items⟩ σ' (.ok [y1, y2]) ∧ Own kItem w' w.heap.size A cap [y1, y2])) :=
  (hp w a σ hS hA key val hk hv A cap items lo hi hR hhi_ hcap hN E hC hE).mono fun v w' ⟨o, σ', hP, hv', hS', hx⟩ => by
    obtain ⟨k1, he1, hw1, _⟩ := putR_main hk hv h σ _ σ' o E hP hN hC hE hd 1 (by omega) hN.pos
    cases o with
    | error c => 
      obtain rfl := he1 c rfl
      exact ⟨σ', k1, hS', hx, .inl ⟨hv', hP⟩⟩
    | ok ws =>
      obtain ⟨A, cap, rfl, ho⟩ := hv'
      obtain ⟨hl, Es, hH, hEs⟩ := hw1 ws rfl
      rcases hl with hl | hl
      · obtain ⟨y1, rfl⟩ := len1 hl
        exact ⟨σ', k1, hS', hx, .inr (.inl ⟨y1, A, cap, rfl, Es, by simpa using hH, hEs, hP, ho⟩)⟩
      · obtain ⟨y1, y2, rfl⟩ := len2 hl
        exact ⟨σ', k1, hS', hx, .inr (.inr ⟨y1, y2, A, cap, rfl, Es, by simpa using hH, hEs, hP, ho⟩)⟩

theorem tree_PutN (w : World) (a : SAd) (σ : St) (hS : StAt w a σ) (hA : Alive σ) (key val : ByteArray) (hk : rightK key) (hv : val.size ≤ 300) (root : Int) (h : Nat) (items : List Item) (hN : NodeAt σ root ⟨(h : Int), items⟩) (hNI : NI h ⟨(h : Int), items⟩) (E : List KV) (hC : Cont σ h items E) (hE : SortedE E) :
    Ret Tryz.prog 36 [Pt a.s 0, I root, S key, S val] w fun v w' => ∃ (o : Except Int Int) (σ' : St), PutN key val h σ ⟨(h : Int), items⟩ σ' o ∧ (match o with | .error c => ∃ z, v = .tuple #[I z, I c] | .ok r => v = .tuple #[I r, I 0]) ∧ StAt w' a σ' ∧ Ext a.fpp w w' := by
  have lS := hS.bs.lt
  have lMc := hS.mc.lt
  have lMk := hS.mkt.lt
  have hhi := hS.hi
  have nSC : a.s ≠ a.mc := fun e => MapAt.ne hS.mc hS.bs e.symm
  have nKC : a.mkk ≠ a.mc := fun e => hS.cmk e.symm
  have h20 : h ≤ 20 := hNI.high
  refine calls_of_XC Tryz.func36 rfl rfl ?_
  refine .seq ?_
  refine .region ?_
  refine xo.done 2 [(0, Pt a.s 0), (1, I root), (2, S key), (3, S val)] (by kernel_rfl) rfl (by kernel_rfl) ?_
  refine .seq ?_
  refine .seq ?_
  refine .region ?_
  refine xo.ret 1 (by kernel_rfl) (cf67 _ _) (tree_right_t _ key hk) ?_
  rintro _ _ ⟨rfl, rfl⟩
  refine xo.val 4 (by kernel_rfl) (c_gtr_t (show ((val.size : Int) : Int) ≤ 300 from (by omega))) ?_
  refine xo.done 1 [(0, Pt a.s 0), (1, I root), (2, S key), (3, S val), (23, B false)] (by kernel_rfl) rfl (by kernel_rfl) ?_
  refine .condF rfl rfl ?_
  refine .skip ?_
  refine .seq ?_
  refine .seq ?_
  refine .region ?_
  refine xo.val 1 (by kernel_rfl) (c_eql_f (show ¬ ((root : Int) = 0) from (by have := hN.lo; omega))) ?_
  refine xo.done 0 [(0, Pt a.s 0), (1, I root), (2, S key), (3, S val), (25, B false)] (by kernel_rfl) rfl (by kernel_rfl) ?_
  refine .condF rfl rfl ?_
  refine .skip ?_
  refine .seq ?_
  refine .region ?_
  refine xo.ret 2 (by kernel_rfl) (cf68 _ _) (tree_load _ a σ hS hA root (⟨(h : Int), items⟩ : Node) hN) ?_
  rintro _ w5 ⟨A1, c2, rfl, hS3, hx6, ho4⟩
  have z5 := hx6.size
  refine xo.alloc 3 113 [I 0, .slice none 0 0] (by kernel_rfl) (by kernel_rfl) ?_
  intro b7 w8 hb9 hx10 hg11
  have z8 := hx10.size
  have l9 := hb9.lt
  refine xo.store 0 113 (o := 0) (.agg #[I (h : Int), .slice A1 items.length c2]) [I (h : Int), .slice A1 items.length c2] (by kernel_rfl) hb9 (by kernel_rfl) (by kernel_rfl) (by kernel_rfl) (by kernel_rfl) ?_
  intro w12 hb13 hx14
  have z12 := hx14.size
  refine xo.done 1 [(0, Pt a.s 0), (2, S key), (3, S val), (12, Pt b7 0), (13, I 0)] (by kernel_rfl) rfl (by kernel_rfl) ?_
  refine .seq ?_
  refine .seq ?_
  refine .region ?_
  refine xo.done 2 [(0, Pt a.s 0), (2, S key), (3, S val), (12, Pt b7 0), (13, I 0), (46, B false)] (by kernel_rfl) rfl (by kernel_rfl) ?_
  refine .condF rfl rfl ?_
  refine .skip ?_
  refine .seq ?_
  refine .region ?_
  refine xo.val 1 (by kernel_rfl) (ldBA (t := 113) (o := 0) (vs := [I (h : Int), .slice A1 items.length c2]) (by kernel_rfl) hb13 rfl) ?_
  have hs15 := ((ho4.ext hx10 (fun _ _ h => h)).ext hx14 (fun b hb (e : b = b7) => (ho4.ext hx10 (fun _ _ h => h)).ne hb9 rfl (e ▸ hb)))
  have hf16 := ((hS3.no hx10).ext hx14 (fun b h1 h2 (e : b = b7) => by omega) (MapAt.ne (hS3.no hx10).mkt hb9) (fun b cs hb (e : b = b7) => Blk.ne hb hb9 rfl e))
  refine xo.ret 2 (by kernel_rfl) (cf71 _ _) (putT (tree_put h) _ a σ hf16 hA key val hk hv A1 c2 items w.heap.size w12.heap.size hs15.rd (by omega) hs15.cap_le hNI E hC hE hA.n4) ?_
  rintro _ w17 ⟨σ19, hkeep, hS22, hx23, (⟨rfl, hR20⟩ | ⟨y1, A24, c25, rfl, Es, hH, hEs, hR20, ho26⟩ | ⟨y1, y2, A24, c25, rfl, Es, hH, hEs, hR20, ho26⟩)⟩
  · have z17 := hx23.size
    refine xo.done 5 [(0, Pt a.s 0), (12, Pt b7 0), (13, I 28), (14, .slice none 0 0)] (by kernel_rfl) rfl (by kernel_rfl) ?_
    refine .seq ?_
    refine .seq ?_
    refine .region ?_
    refine xo.done 2 [(0, Pt a.s 0), (12, Pt b7 0), (13, I 28), (14, .slice none 0 0), (57, B true)] (by kernel_rfl) rfl (by kernel_rfl) ?_
    refine .condT rfl rfl ?_
    refine .seq ?_
    refine .region ?_
    refine xo.done 3 [(8, I 0), (9, I 28)] (by kernel_rfl) rfl (by kernel_rfl) ?_
    refine .ret ?_
    refine ⟨[I 0, I 28], by kernel_rfl, _, rfl, ?_⟩
    exact ⟨.error 28, σ19, ⟨σ19, .error 28, hR20, .inl ⟨28, rfl, rfl, rfl⟩⟩, ⟨_, rfl⟩, hS22, ((((hx6.weak fun b hb h => h.elim).trans' hx10 (fun _ _ h => h) (fun b hb h => h.elim)).trans' hx14 (fun _ _ h => h) (fun b hb (q : b = b7) => absurd hb (by omega))).trans' hx23 (fun _ _ h => h) (fun b hb q => q))⟩
  · have z17 := hx23.size
    refine xo.done 5 [(0, Pt a.s 0), (12, Pt b7 0), (13, I 0), (14, .slice A24 ([y1].length) c25)] (by kernel_rfl) rfl (by kernel_rfl) ?_
    refine .seq ?_
    refine .seq ?_
    refine .region ?_
    refine xo.done 2 [(0, Pt a.s 0), (12, Pt b7 0), (13, I 0), (14, .slice A24 ([y1].length) c25), (57, B false)] (by kernel_rfl) rfl (by kernel_rfl) ?_
    refine .condF rfl rfl ?_
    refine .skip ?_
    refine .seq ?_
    refine .seq ?_
    refine .region ?_
    refine xo.val 2 (by kernel_rfl) (c_eql_t (show (([y1].length : Int) : Int) = 1 from (by simp))) ?_
    refine xo.done 0 [(0, Pt a.s 0), (12, Pt b7 0), (14, .slice A24 ([y1].length) c25), (61, B true)] (by kernel_rfl) rfl (by kernel_rfl) ?_
    refine .condT rfl rfl ?_
    refine .seq ?_
    refine .region ?_
    obtain ⟨b27, o28, x29, hi30, hA31, hl32, hh33, hr34⟩ := ho26.rd.at_ 0 (by simp)
    refine xo.val 1 (by kernel_rfl) (idxN (kk := .i64) (t := 111) (n := [y1].length) (cap := c25) (sz := 3) (i := 0) (by kernel_rfl) hA31 (by simp)) ?_
    have ey : y1 = x29 := by simpa using hi30
    subst ey
    refine xo.val 1 (by kernel_rfl) (ld (t := 3) (by kernel_rfl) (hr34 2 _ rfl)) ?_
    refine xo.done 2 [(8, I y1.kid), (9, I 0)] (by kernel_rfl) rfl (by kernel_rfl) ?_
    refine .ret ?_
    refine ⟨[I y1.kid, I 0], by kernel_rfl, _, rfl, ?_⟩
    exact ⟨.ok _, σ19, ⟨σ19, .ok [y1], hR20, .inr (.inl ⟨_, rfl, rfl, rfl⟩)⟩, rfl, hS22, ((((hx6.weak fun b hb h => h.elim).trans' hx10 (fun _ _ h => h) (fun b hb h => h.elim)).trans' hx14 (fun _ _ h => h) (fun b hb (q : b = b7) => absurd hb (by omega))).trans' hx23 (fun _ _ h => h) (fun b hb q => q))⟩
  · have z17 := hx23.size
    refine xo.done 5 [(0, Pt a.s 0), (12, Pt b7 0), (13, I 0), (14, .slice A24 ([y1, y2].length) c25)] (by kernel_rfl) rfl (by kernel_rfl) ?_
    refine .seq ?_
    refine .seq ?_
    refine .region ?_
    refine xo.done 2 [(0, Pt a.s 0), (12, Pt b7 0), (13, I 0), (14, .slice A24 ([y1, y2].length) c25), (57, B false)] (by kernel_rfl) rfl (by kernel_rfl) ?_
    refine .condF rfl rfl ?_
    refine .skip ?_
    refine .seq ?_
    refine .seq ?_
    refine .region ?_
    refine xo.val 2 (by kernel_rfl) (c_eql_f (show ¬ ((([y1, y2].length : Int) : Int) = 1) from (by simp))) ?_
    refine xo.done 0 [(0, Pt a.s 0), (12, Pt b7 0), (14, .slice A24 ([y1, y2].length) c25), (61, B false)] (by kernel_rfl) rfl (by kernel_rfl) ?_
    refine .condF rfl rfl ?_
    refine .skip ?_
    refine .seq ?_
    refine .seq ?_
    refine .region ?_
    have hb35 := (hb13.extm hx23 hf16.maps)
    refine xo.val 1 (by kernel_rfl) (ldB (t := 3) (o := 0) (by kernel_rfl) hb35 rfl) ?_
    by_cases hc36 : ((h : Int) : Int) = 20
    · refine xo.val 0 (by kernel_rfl) (c_eql_t hc36) ?_
      refine xo.done 0 [(0, Pt a.s 0), (12, Pt b7 0), (14, .slice A24 ([y1, y2].length) c25), (68, B true)] (by kernel_rfl) rfl (by kernel_rfl) ?_
      refine .condT rfl rfl ?_
      refine .seq ?_
      refine .region ?_
      refine xo.done 2 [(8, I 0), (9, I 27)] (by kernel_rfl) rfl (by kernel_rfl) ?_
      refine .ret ?_
      refine ⟨[I 0, I 27], by kernel_rfl, _, rfl, ?_⟩
      exact ⟨.error 27, σ19, ⟨σ19, .ok [y1, y2], hR20, .inr (.inr ⟨_, _, rfl, .inl ⟨by omega, rfl, rfl⟩⟩)⟩, ⟨_, rfl⟩, hS22, ((((hx6.weak fun b hb h => h.elim).trans' hx10 (fun _ _ h => h) (fun b hb h => h.elim)).trans' hx14 (fun _ _ h => h) (fun b hb (q : b = b7) => absurd hb (by omega))).trans' hx23 (fun _ _ h => h) (fun b hb q => q))⟩
    · refine xo.val 0 (by kernel_rfl) (c_eql_f hc36) ?_
      refine xo.done 0 [(0, Pt a.s 0), (12, Pt b7 0), (14, .slice A24 ([y1, y2].length) c25), (68, B false)] (by kernel_rfl) rfl (by kernel_rfl) ?_
      refine .condF rfl rfl ?_
      refine .skip ?_
      refine .seq ?_
      refine .region ?_
      refine xo.val 2 (by kernel_rfl) (ldB (t := 3) (o := 0) (by kernel_rfl) hb35 rfl) ?_
      refine xo.val 0 (by kernel_rfl) (a_add (a := (h : Int)) (b := 1) (by omega) (by omega)) ?_
      refine xo.ret 2 (by kernel_rfl) (cf70 _ _) (tree_save _ a σ19 hS22 (hkeep.alive hA) ((h : Int) + 1) A24 c25 ([y1, y2]) w12.heap.size w17.heap.size ho26.rd (by omega) (hH.saveOK _ (by simp) (by simp))) ?_
      rintro _ w37 ⟨(c38 | x39), σ40, hR41, hv42, hS43, hx44⟩
      · obtain ⟨y45, rfl⟩ := hv42
        have h28 : c38 = 28 := hR41.1
        subst h28
        have z37 := hx44.size
        refine xo.alloc 3 119 [S (⟨#[]⟩), S (⟨#[]⟩), I 0] (by kernel_rfl) (by kernel_rfl) ?_
        intro b46 w47 hb48 hx49 hg50
        have z47 := hx49.size
        have l48 := hb48.lt
        refine xo.store 0 119 (o := 0) (.agg #[S y45.key, S y45.val, I y45.kid]) [S y45.key, S y45.val, I y45.kid] (by kernel_rfl) hb48 (by kernel_rfl) (by kernel_rfl) (by kernel_rfl) (by kernel_rfl) ?_
        intro w51 hb52 hx53
        have z51 := hx53.size
        refine xo.done 1 [(13, I 28), (15, Pt b46 0)] (by kernel_rfl) rfl (by kernel_rfl) ?_
        refine .seq ?_
        refine .region ?_
        refine xo.val 1 (by kernel_rfl) (ldB (t := 3) (o := 2) (by kernel_rfl) hb52 rfl) ?_
        refine xo.done 3 [(8, I y45.kid), (9, I 28)] (by kernel_rfl) rfl (by kernel_rfl) ?_
        refine .ret ?_
        refine ⟨[I y45.kid, I 28], by kernel_rfl, _, rfl, ?_⟩
        have hf54 := ((hS43.no hx49).ext hx53 (fun b h1 h2 (e : b = b46) => by omega) (MapAt.ne (hS43.no hx49).mkt hb48) (fun b cs hb (e : b = b46) => Blk.ne hb hb48 rfl e))
        exact ⟨.error 28, σ40, ⟨σ19, .ok [y1, y2], hR20, .inr (.inr ⟨_, _, rfl, .inr ⟨by omega, _, hR41, .inl ⟨_, rfl, rfl⟩⟩⟩)⟩, ⟨_, rfl⟩, hf54, (((((((hx6.weak fun b hb h => h.elim).trans' hx10 (fun _ _ h => h) (fun b hb h => h.elim)).trans' hx14 (fun _ _ h => h) (fun b hb (q : b = b7) => absurd hb (by omega))).trans' hx23 (fun _ _ h => h) (fun b hb q => q)).trans' hx44 (fun _ _ h => h) (fun b hb q => q)).trans' hx49 (fun _ _ h => h) (fun b hb h => h.elim)).trans' hx53 (fun _ _ h => h) (fun b hb (q : b = b46) => absurd hb (by omega)))⟩
      · obtain rfl := hv42
        have z37 := hx44.size
        refine xo.alloc 3 119 [S (⟨#[]⟩), S (⟨#[]⟩), I 0] (by kernel_rfl) (by kernel_rfl) ?_
        intro b55 w56 hb57 hx58 hg59
        have z56 := hx58.size
        have l57 := hb57.lt
        refine xo.store 0 119 (o := 0) (.agg #[S x39.key, S x39.val, I x39.kid]) [S x39.key, S x39.val, I x39.kid] (by kernel_rfl) hb57 (by kernel_rfl) (by kernel_rfl) (by kernel_rfl) (by kernel_rfl) ?_
        intro w60 hb61 hx62
        have z60 := hx62.size
        refine xo.done 1 [(13, I 0), (15, Pt b55 0)] (by kernel_rfl) rfl (by kernel_rfl) ?_
        refine .seq ?_
        refine .region ?_
        refine xo.val 1 (by kernel_rfl) (ldB (t := 3) (o := 2) (by kernel_rfl) hb61 rfl) ?_
        refine xo.done 3 [(8, I x39.kid), (9, I 0)] (by kernel_rfl) rfl (by kernel_rfl) ?_
        refine .ret ?_
        refine ⟨[I x39.kid, I 0], by kernel_rfl, _, rfl, ?_⟩
        have hf63 := ((hS43.no hx58).ext hx62 (fun b h1 h2 (e : b = b55) => by omega) (MapAt.ne (hS43.no hx58).mkt hb57) (fun b cs hb (e : b = b55) => Blk.ne hb hb57 rfl e))
        exact ⟨.ok _, σ40, ⟨σ19, .ok [y1, y2], hR20, .inr (.inr ⟨_, _, rfl, .inr ⟨by omega, _, hR41, .inr ⟨_, rfl, rfl⟩⟩⟩)⟩, rfl, hf63, (((((((hx6.weak fun b hb h => h.elim).trans' hx10 (fun _ _ h => h) (fun b hb h => h.elim)).trans' hx14 (fun _ _ h => h) (fun b hb (q : b = b7) => absurd hb (by omega))).trans' hx23 (fun _ _ h => h) (fun b hb q => q)).trans' hx44 (fun _ _ h => h) (fun b hb q => q)).trans' hx58 (fun _ _ h => h) (fun b hb h => h.elim)).trans' hx62 (fun _ _ h => h) (fun b hb (q : b = b55) => absurd hb (by omega)))⟩

/-- A leaf with one entry. -/
theorem one_saveOK (σ : St) (key val : ByteArray) (hk : rightK key) (hv : val.size ≤ 300) : SaveOK σ ⟨0, [⟨key, val, 0⟩]⟩ :=
  ⟨by simp, by simp, fun x hx => by rw [List.mem_singleton.1 hx]; exact ⟨by have := hk.2; simp only; omega, hv⟩, rfl⟩

theorem tree_Put0 (w : World) (a : SAd) (σ : St) (hS : StAt w a σ) (hA : Alive σ) (key val : ByteArray) (hk : rightK key) (hv : val.size ≤ 300) :
    Ret Tryz.prog 36 [Pt a.s 0, I 0, S key, S val] w fun v w' => ∃ (o : Except Int Int) (σ' : St), (∃ o2, SaveR σ ⟨0, [⟨key, val, 0⟩]⟩ σ' o2 ∧ ((∃ c, o2 = .error c ∧ o = .error c) ∨ ∃ z, o2 = .ok z ∧ o = .ok z.kid)) ∧ (match o with | .error c => ∃ z, v = .tuple #[I z, I c] | .ok r => v = .tuple #[I r, I 0]) ∧ StAt w' a σ' ∧ Ext a.fpp w w' := by
  have lS := hS.bs.lt
  have lMc := hS.mc.lt
  have lMk := hS.mkt.lt
  have hhi := hS.hi
  have nSC : a.s ≠ a.mc := fun e => MapAt.ne hS.mc hS.bs e.symm
  have nKC : a.mkk ≠ a.mc := fun e => hS.cmk e.symm
  refine calls_of_XC Tryz.func36 rfl rfl ?_
  refine .seq ?_
  refine .region ?_
  refine xo.done 2 [(0, Pt a.s 0), (1, I 0), (2, S key), (3, S val)] (by kernel_rfl) rfl (by kernel_rfl) ?_
  refine .seq ?_
  refine .seq ?_
  refine .region ?_
  refine xo.ret 1 (by kernel_rfl) (cf67 _ _) (tree_right_t _ key hk) ?_
  rintro _ _ ⟨rfl, rfl⟩
  refine xo.val 4 (by kernel_rfl) (c_gtr_t (show ((val.size : Int) : Int) ≤ 300 from (by omega))) ?_
  refine xo.done 1 [(0, Pt a.s 0), (1, I 0), (2, S key), (3, S val), (23, B false)] (by kernel_rfl) rfl (by kernel_rfl) ?_
  refine .condF rfl rfl ?_
  refine .skip ?_
  refine .seq ?_
  refine .seq ?_
  refine .region ?_
  refine xo.done 2 [(0, Pt a.s 0), (1, I 0), (2, S key), (3, S val), (25, B true)] (by kernel_rfl) rfl (by kernel_rfl) ?_
  refine .condT rfl rfl ?_
  refine .seq ?_
  refine .region ?_
  refine xo.bsl 4 111 1 #[(0, .agg #[S key, S val, I 0])] (et := 119) (cs := [S key, S val, I 0]) (by kernel_rfl) (by kernel_rfl) ?_
  intro b1 w2 hb3 hx4 hg5
  have z2 := hx4.size
  have l3 := hb3.lt
  have hf6 := (hS.no hx4)
  refine xo.ret 1 (by kernel_rfl) (cf70 _ _) (tree_save _ a σ hf6 hA 0 (some ⟨b1, 0, none⟩) 1 [(⟨key, val, 0⟩ : Item)] b1 (b1 + 1) (.inr ⟨b1, 0, rfl, Nat.le_refl _, Nat.lt_succ_self _, hb3.cs⟩) (by omega) (one_saveOK σ key val hk hv)) ?_
  rintro _ w7 ⟨(c8 | x9), σ10, hR11, hv12, hS13, hx14⟩
  · obtain ⟨y15, rfl⟩ := hv12
    have h28 : c8 = 28 := hR11.1
    subst h28
    have z7 := hx14.size
    refine xo.alloc 3 119 [S (⟨#[]⟩), S (⟨#[]⟩), I 0] (by kernel_rfl) (by kernel_rfl) ?_
    intro b16 w17 hb18 hx19 hg20
    have z17 := hx19.size
    have l18 := hb18.lt
    refine xo.store 0 119 (o := 0) (.agg #[S y15.key, S y15.val, I y15.kid]) [S y15.key, S y15.val, I y15.kid] (by kernel_rfl) hb18 (by kernel_rfl) (by kernel_rfl) (by kernel_rfl) (by kernel_rfl) ?_
    intro w21 hb22 hx23
    have z21 := hx23.size
    refine xo.done 1 [(10, Pt b16 0), (11, I 28)] (by kernel_rfl) rfl (by kernel_rfl) ?_
    refine .seq ?_
    refine .region ?_
    refine xo.val 1 (by kernel_rfl) (ldB (t := 3) (o := 2) (by kernel_rfl) hb22 rfl) ?_
    refine xo.done 3 [(8, I y15.kid), (9, I 28)] (by kernel_rfl) rfl (by kernel_rfl) ?_
    refine .ret ?_
    refine ⟨[I y15.kid, I 28], by kernel_rfl, _, rfl, ?_⟩
    have hf24 := ((hS13.no hx19).ext hx23 (fun b h1 h2 (e : b = b16) => by omega) (MapAt.ne (hS13.no hx19).mkt hb18) (fun b cs hb (e : b = b16) => Blk.ne hb hb18 rfl e))
    exact ⟨.error 28, σ10, ⟨_, hR11, .inl ⟨_, rfl, rfl⟩⟩, ⟨_, rfl⟩, hf24, ((((hx4.weak fun b hb h => h.elim).trans' hx14 (fun _ _ h => h) (fun b hb q => q)).trans' hx19 (fun _ _ h => h) (fun b hb h => h.elim)).trans' hx23 (fun _ _ h => h) (fun b hb (q : b = b16) => absurd hb (by omega)))⟩
  · obtain rfl := hv12
    have z7 := hx14.size
    refine xo.alloc 3 119 [S (⟨#[]⟩), S (⟨#[]⟩), I 0] (by kernel_rfl) (by kernel_rfl) ?_
    intro b25 w26 hb27 hx28 hg29
    have z26 := hx28.size
    have l27 := hb27.lt
    refine xo.store 0 119 (o := 0) (.agg #[S x9.key, S x9.val, I x9.kid]) [S x9.key, S x9.val, I x9.kid] (by kernel_rfl) hb27 (by kernel_rfl) (by kernel_rfl) (by kernel_rfl) (by kernel_rfl) ?_
    intro w30 hb31 hx32
    have z30 := hx32.size
    refine xo.done 1 [(10, Pt b25 0), (11, I 0)] (by kernel_rfl) rfl (by kernel_rfl) ?_
    refine .seq ?_
    refine .region ?_
    refine xo.val 1 (by kernel_rfl) (ldB (t := 3) (o := 2) (by kernel_rfl) hb31 rfl) ?_
    refine xo.done 3 [(8, I x9.kid), (9, I 0)] (by kernel_rfl) rfl (by kernel_rfl) ?_
    refine .ret ?_
    refine ⟨[I x9.kid, I 0], by kernel_rfl, _, rfl, ?_⟩
    have hf33 := ((hS13.no hx28).ext hx32 (fun b h1 h2 (e : b = b25) => by omega) (MapAt.ne (hS13.no hx28).mkt hb27) (fun b cs hb (e : b = b25) => Blk.ne hb hb27 rfl e))
    exact ⟨.ok _, σ10, ⟨_, hR11, .inr ⟨_, rfl, rfl⟩⟩, rfl, hf33, ((((hx4.weak fun b hb h => h.elim).trans' hx14 (fun _ _ h => h) (fun b hb q => q)).trans' hx28 (fun _ _ h => h) (fun b hb h => h.elim)).trans' hx32 (fun _ _ h => h) (fun b hb (q : b = b25) => absurd hb (by omega)))⟩

end Go.Proofs.YtbajgpadmlnffaaGreat
/- Trees by their roots: what putting a key leaves. -/
namespace Go.Proofs.YtbajgpadmlnffaaGreat
open Go.V
set_option linter.unusedVariables false

/-- A tree's root node. -/
structure TreeN (σ : St) (h : Nat) (items : List Item) (root : Int) (E : List KV) : Prop where
  node : NodeAt σ root ⟨(h : Int), items⟩
  high : highC σ.cells root = (h : Int) + 1
  ni : NI h ⟨(h : Int), items⟩
  cont : Cont σ h items E
  sorted : SortedE E
  two : h = 0 ∨ 2 ≤ items.length
def TreeAt (σ : St) (root : Int) (E : List KV) : Prop := (root = 0 ∧ E = []) ∨ ∃ h items, TreeN σ h items root E
theorem TreeN.keeps {σ σ' : St} {h : Nat} {items : List Item} {root : Int} {E : List KV} (t : TreeN σ h items root E) (k : Keeps σ σ') : TreeN σ' h items root E :=
  ⟨k.node _ _ t.node, by obtain ⟨c, hc⟩ := t.node.c; rw [(k.high _ (by rw [hc]; rfl)).2]; exact t.high, t.ni, t.cont.keeps k, t.sorted, t.two⟩
theorem TreeAt.keeps {σ σ' : St} {root : Int} {E : List KV} (t : TreeAt σ root E) (k : Keeps σ σ') : TreeAt σ' root E := by
  rcases t with t | ⟨h, items, t⟩
  · exact .inl t
  · exact .inr ⟨h, items, t.keeps k⟩
theorem RootAt.tree {σ : St} {h : Nat} {x : Item} {nd : Node} {E : List KV} (r : RootAt σ h x nd) (c : Cont σ h nd.items E) (hs : SortedE E) (h2 : h = 0 ∨ 2 ≤ nd.items.length) : TreeAt σ x.kid E := by
  obtain ⟨lv, items⟩ := nd
  have e : lv = (h : Int) := r.ni.level
  subst e
  exact .inr ⟨h, items, r.node, r.high, r.ni, c, hs, h2⟩
theorem HeldM.one {m : Nat} {σ : St} {h : Nat} {x : Item} {Es : List (List KV)} (hw : HeldM m σ h [x] Es) : ∃ e nk, Es = [e] ∧ RootAt σ h x nk ∧ m ≤ nk.items.length ∧ Cont σ h nk.items e := by
  cases Es with
  | nil => exact hw.elim
  | cons e r =>
    cases r with
    | cons _ _ => exact hw.2.elim
    | nil =>
      obtain ⟨⟨nk, h1, h2, h3⟩, _⟩ := hw
      exact ⟨e, nk, rfl, h1, h2, h3⟩
/-- How many entries at least. -/
theorem Cont.many {σ : St} : ∀ {h : Nat} {l : List Item} {E : List KV}, Cont σ h l E → l.length * 4 ^ h ≤ E.length := by
  intro h
  induction h with
  | zero => intro l E c; rw [show E = l.map kv from c, List.length_map]; omega
  | succ h ih =>
    rintro l E ⟨Es, rfl, hk⟩
    have key : ∀ (l : List Item) (Es : List (List KV)), All2 (fun x e => ∃ nk, RootAt σ h x nk ∧ 4 ≤ nk.items.length ∧ Cont σ h nk.items e) l Es → l.length * 4 ^ (h + 1) ≤ Es.flatten.length := by
      intro l
      induction l with
      | nil => intro Es _; simp
      | cons x r ihr =>
        intro Es hE
        cases Es with
        | nil => exact hE.elim
        | cons e q =>
          obtain ⟨⟨nk, _, h4, hc⟩, hq⟩ := hE
          have h1 := ihr q hq
          have h2 := ih hc
          have h3 : 4 * 4 ^ h ≤ nk.items.length * 4 ^ h := Nat.mul_le_mul_right _ h4
          rw [List.flatten_cons, List.length_append, List.length_cons, Nat.add_mul, Nat.one_mul, Nat.pow_succ]
          rw [Nat.pow_succ] at h1
          omega
    exact key l Es hk
/-- A root of so many entries at most is not high. -/
theorem TreeN.low {σ : St} {h : Nat} {items : List Item} {root : Int} {E : List KV} (t : TreeN σ h items root E) (hE : E.length < 512) : h ≤ 3 := by
  have := t.cont.many
  rcases t.two with h0 | h2
  · omega
  · by_cases h4 : h ≤ 3
    · exact h4
    · have h5 : 4 ^ 4 ≤ 4 ^ h := Nat.pow_le_pow_right (by omega) (by omega)
      have h6 : 2 * 4 ^ h ≤ items.length * 4 ^ h := Nat.mul_le_mul_right _ h2
      omega
theorem put0_main {key val : ByteArray} (hk : rightK key) (hv : val.size ≤ 300) {σ σ' : St} {o : Except Int Int} (hd : σ.dev.n ≤ 4096) (hp : ∃ o2, SaveR σ ⟨0, [⟨key, val, 0⟩]⟩ σ' o2 ∧ ((∃ c, o2 = .error c ∧ o = .error c) ∨ ∃ z, o2 = .ok z ∧ o = .ok z.kid)) :
    Keeps σ σ' ∧ (∀ c, o = .error c → c = 28) ∧ (∀ r, o = .ok r → TreeAt σ' r [(key, val)]) ∧ SavesE 1 σ σ' o := by
  obtain ⟨o2, hs, hp⟩ := hp
  rcases hp with ⟨c, rfl, rfl⟩ | ⟨z, rfl, rfl⟩
  · obtain ⟨rfl, hf, rfl⟩ := hs
    exact ⟨.refl _, (fun c hc => by cases hc; rfl), (fun r hr => by cases hr), 0, by omega, .nil _, fun _ _ => hf⟩
  · have hn : NI 0 ⟨((0 : Nat) : Int), [⟨key, val, 0⟩]⟩ := ⟨rfl, by omega, by simp, by simp, by simp [SortedI], fun x hx => by rw [List.mem_singleton.1 hx]; exact ⟨by have := hk.2; simp only; omega, hv⟩, fun x hx => by rw [List.mem_singleton.1 hx]; exact hk, fun x hx => by rw [List.mem_singleton.1 hx]; rfl⟩
    refine ⟨hs.keeps, (fun c hc => by cases hc), fun r hr => ?_, 1, by omega, .cons hs hn trivial (.nil _), (fun c hc => by cases hc)⟩
    cases hr
    have hr := hs.root hn trivial hd
    exact hr.tree (E := [(key, val)]) rfl (by simp [SortedE]) (.inl rfl)
theorem putN_main {key val : ByteArray} (hk : rightK key) (hv : val.size ≤ 300) {h : Nat} {σ σ' : St} {items : List Item} {root : Int} {o : Except Int Int} {E : List KV} (hp : PutN key val h σ ⟨(h : Int), items⟩ σ' o) (t : TreeN σ h items root E) (hd : σ.dev.n ≤ 4096) :
    Keeps σ σ' ∧ (∀ c, o = .error c → c = 28 ∨ c = 27 ∧ h = 20) ∧ (∀ r, o = .ok r → TreeAt σ' r (putE E key val)) ∧ ∃ m, m ≤ 2 * h + 3 ∧ Saves m σ σ' ∧ (o = .error 28 → FreeAt σ' 0) := by
  obtain ⟨σ1, o1, hP, hp⟩ := hp
  have hm : (if h = 0 then 1 else 2) ≤ items.length := by
    have := t.ni.pos
    rcases t.two with h0 | h2
    · rw [if_pos h0]; exact this
    · split
      · exact this
      · exact h2
  obtain ⟨k1, he1, hw1, n1, hn1, hs1, hf1⟩ := putR_main hk hv h σ _ σ1 o1 E hP t.ni t.cont t.sorted hd (if h = 0 then 1 else 2) (by split <;> omega) hm
  have hsE := putE_sorted t.sorted key val
  rcases hp with ⟨c, rfl, rfl, rfl⟩ | ⟨x, rfl, rfl, rfl⟩ | ⟨x, y, rfl, hp⟩
  · exact ⟨k1, (fun c' hc => by cases hc; exact .inl (he1 _ rfl)), (fun r hr => by cases hr), n1, by omega, hs1, fun _ => hf1 _ rfl⟩
  · obtain ⟨_, Es, hH, hEs⟩ := hw1 _ rfl
    obtain ⟨e, nk, rfl, r1, r2, r3⟩ := hH.one
    simp only [List.flatten_cons, List.flatten_nil, List.append_nil, List.length_singleton] at hEs r2
    subst hEs
    refine ⟨k1, (fun c' hc => by cases hc), fun r hr => ?_, n1, by omega, hs1, (fun hc => by cases hc)⟩
    cases hr
    refine r1.tree r3 hsE ?_
    by_cases h0 : h = 0
    · exact .inl h0
    · right; rw [if_neg (by omega), if_neg h0] at r2; exact r2
  · obtain ⟨_, Es, hH, hEs⟩ := hw1 _ rfl
    simp only [List.length_cons, List.length_nil, if_true] at hH
    rcases hp with ⟨h20, rfl, rfl⟩ | ⟨h20, o2, hs2, hp⟩
    · exact ⟨k1, (fun c' hc => by cases hc; exact .inr ⟨rfl, h20⟩), (fun r hr => by cases hr), n1, by omega, hs1, (fun hc => by cases hc)⟩
    · rcases hp with ⟨c, rfl, rfl⟩ | ⟨z, rfl, rfl⟩
      · obtain ⟨rfl, hf, rfl⟩ := hs2
        exact ⟨k1, (fun c hc => by cases hc; exact .inl rfl), (fun r hr => by cases hr), n1, by omega, hs1, fun _ => hf⟩
      · have hc2 : Cont σ1 (h + 1) [x, y] (putE E key val) := ⟨Es, hEs.symm, hH⟩
        have hh := t.ni.high
        have hr : ∀ x' ∈ [x, y], ∃ nk, RootAt σ1 h x' nk := fun x' hx => by
          obtain ⟨e, _, nk, h1, _⟩ := All2.mem hH x' hx
          exact ⟨nk, h1⟩
        have hn : NI (h + 1) ⟨((h + 1 : Nat) : Int), [x, y]⟩ := ⟨rfl, by omega, by simp, by simp, hc2.sorted hsE, fun x' hx => by obtain ⟨nk, h1⟩ := hr x' hx; exact h1.item.1, fun x' hx => by obtain ⟨nk, h1⟩ := hr x' hx; exact h1.item.2, fun x' hx => by
          obtain ⟨nk, h1⟩ := hr x' hx
          rw [if_neg (by omega)]; exact h1.val⟩
        have hs2' : SaveR σ1 ⟨((h + 1 : Nat) : Int), [x, y]⟩ σ' (.ok z) := hs2
        refine ⟨k1.trans hs2'.keeps, (fun c hc => by cases hc), fun r hr => ?_, n1 + 1, by omega, hs1.trans (.cons hs2' hn hc2.kids (.nil _)), (fun hc => by cases hc)⟩
        cases hr
        have hr2 := hs2'.root hn hc2.kids (by rw [k1.n]; exact hd)
        exact hr2.tree (hc2.keeps hs2'.keeps) hsE (.inr (by simp))
end Go.Proofs.YtbajgpadmlnffaaGreat
/- A key is taken out of a tree: what comes of it. -/
namespace Go.Proofs.YtbajgpadmlnffaaGreat
open Go.V
set_option linter.unusedVariables false

/-- The kid's items as they are laid: with those of one beside it, if they are few. -/
def JoinR (σ : St) (items : List Item) (j : Nat) (l l' : List Item) (p q : Nat) : Prop :=
  (¬ (l.length < 4 ∧ 1 < items.length) ∧ l' = l ∧ p = j ∧ q = j + 1) ∨
  ((l.length < 4 ∧ 1 < items.length) ∧ j + 1 < items.length ∧ ∃ y ny, items[j + 1]? = some y ∧ NodeAt σ y.kid ny ∧ l' = l ++ ny.items ∧ p = j ∧ q = j + 2) ∨
  ((l.length < 4 ∧ 1 < items.length) ∧ ¬ j + 1 < items.length ∧ ∃ y ny, items[j - 1]? = some y ∧ NodeAt σ y.kid ny ∧ l' = ny.items ++ l ∧ p = j - 1 ∧ q = j + 1)
/-- tree.cut, as the code does it. -/
def CutR (key : ByteArray) : Nat → St → Node → St → Except Int (Option (List Item)) → Prop
  | 0, σ, nd, σ', o => σ' = σ ∧ ∃ i ok, PlaceR nd.items key i ok ∧ o = .ok (if ok then some (swapL nd.items i (i + 1) []) else none)
  | h + 1, σ, nd, σ', o => ∃ j x nk σ1 o1, WayR nd.items key j ∧ nd.items[j]? = some x ∧ NodeAt σ x.kid nk ∧ CutR key h σ nk σ1 o1 ∧
    ((∃ c, o1 = .error c ∧ σ' = σ1 ∧ o = .error c) ∨ (o1 = .ok none ∧ σ' = σ1 ∧ o = .ok none) ∨
     (∃ l l' p q, o1 = .ok (some l) ∧ JoinR σ1 nd.items j l l' p q ∧ ∃ o2, LaidR σ1 (h : Int) l' σ' o2 ∧ ((∃ c, o2 = .error c ∧ o = .error c) ∨ ∃ ws, o2 = .ok ws ∧ o = .ok (some (swapL nd.items p q ws)))))

theorem delE_no {E : List KV} {key : ByteArray} (h : ∀ e ∈ E, e.1 ≠ key) : delE E key = E := List.filter_eq_self.2 fun e he => by simpa using h e he
theorem cut_leaf {l : List Item} {key : ByteArray} {i : Nat} {ok : Bool} (hs : SortedI l) (hp : PlaceR l key i ok) :
    (ok = true → i < l.length ∧ (swapL l i (i + 1) []).map kv = delE (l.map kv) key) ∧ (ok = false → delE (l.map kv) key = l.map kv) := by
  obtain ⟨hi, hbe, hab, hok⟩ := hp
  constructor
  · rintro rfl
    obtain ⟨x, hx, hk⟩ := hok.1 rfl
    have hl := (List.getElem?_eq_some_iff.1 hx).1
    refine ⟨hl, ?_⟩
    have hA : ∀ e ∈ (l.take i).map kv, Lt e.1 key := by
      intro e he
      obtain ⟨x, hx, rfl⟩ := List.mem_map.1 he
      obtain ⟨j, hj⟩ := List.mem_iff_getElem?.1 hx
      rw [List.getElem?_take] at hj
      split at hj
      · exact hbe j x (by assumption) hj
      · cases hj
    have e1 : l.map kv = (l.take i).map kv ++ [kv x] ++ (l.drop (i + 1)).map kv := by
      conv => lhs; rw [← List.take_append_drop i l, List.drop_eq_getElem_cons hl]
      obtain ⟨_, hx2⟩ := List.getElem?_eq_some_iff.1 hx
      rw [hx2]; simp
    rw [e1, delE_mid hA (fun e he => by
      obtain ⟨y, hy, rfl⟩ := List.mem_map.1 he
      obtain ⟨j, hj⟩ := List.mem_iff_getElem?.1 hy
      rw [List.getElem?_drop] at hj
      have := hs.get (by omega) hx hj
      rw [hk] at this
      exact this)]
    have e2 : delE [kv x] key = [] := by
      unfold delE kv
      simp [hk]
    rw [e2]
    simp [swapL]
  · rintro rfl
    refine delE_no fun e he => ?_
    obtain ⟨y, hy, rfl⟩ := List.mem_map.1 he
    obtain ⟨j, hj⟩ := List.mem_iff_getElem?.1 hy
    intro hk
    by_cases hji : j < i
    · exact Lt.ne (hbe j y hji hj) hk
    · have h1 := hab j y (by omega) hj
      by_cases h0 : j = i
      · subst h0; exact absurd (hok.2 ⟨y, hj, hk⟩) (by decide)
      · have hil : i < l.length := by have := (List.getElem?_eq_some_iff.1 hj).1; omega
        have h4 := hab i _ (by omega) (List.getElem?_eq_getElem hil)
        have := Lt.of_le h4 (hs.get (by omega) (List.getElem?_eq_getElem hil) hj)
        exact Lt.ne this hk.symm
theorem Cont.nil_of {σ : St} {h : Nat} {E : List KV} (c : Cont σ h [] E) : E = [] := by
  cases h with
  | zero => simpa [Cont] using c
  | succ h =>
    obtain ⟨Es, rfl, hk⟩ := c
    cases Es with
    | nil => rfl
    | cons _ _ => exact hk.elim
/-- What is laid, and what stands around it. -/
structure JoinF (σ : St) (h : Nat) (items : List Item) (E : List KV) (l' : List Item) (p q : Nat) : Prop where
  parts : ∃ EL EM ER, Cont σ (h + 1) (items.take p) EL ∧ Cont σ h l' EM ∧ Cont σ (h + 1) (items.drop q) ER ∧ EL ++ EM ++ ER = E
  it : IT h l'
  four : 4 ≤ l'.length
  few : l'.length ≤ 16
  pq : p < q
  ql : q ≤ items.length
  same : q = p + 1 ∧ l'.length ≤ 8 ∨ q = p + 2
theorem join_facts {key : ByteArray} {σ σ1 : St} {h j p q : Nat} {items l l' : List Item} {EA EX EB : List KV} (k : Keeps σ σ1) (hN : NI (h + 1) ⟨((h + 1 : Nat) : Int), items⟩) (h2 : 2 ≤ items.length) (hj : j < items.length)
    (cA : Cont σ (h + 1) (items.take j) EA) (cB : Cont σ (h + 1) (items.drop (j + 1)) EB) (hA : ∀ e ∈ EA, Lt e.1 key) (hB : ∀ e ∈ EB, Lt key e.1) (hs : SortedE (EA ++ EX ++ EB))
    (cl : Cont σ1 h l (delE EX key)) (itl : IT h l) (l3 : 3 ≤ l.length) (l8 : l.length ≤ 8) (hJ : JoinR σ1 items j l l' p q) : JoinF σ1 h items (delE (EA ++ EX ++ EB) key) l' p q := by
  have hdel : delE (EA ++ EX ++ EB) key = EA ++ delE EX key ++ EB := delE_mid hA hB
  have hsd : SortedE (EA ++ delE EX key ++ EB) := by rw [← hdel]; exact delE_sorted hs key
  rw [hdel]
  have h8 : items.length ≤ 8 := hN.few
  rcases hJ with ⟨hf, hl_, hp_, hq_⟩ | ⟨hf, hj1, y, ny, hy, hNy, hl_, hp_, hq_⟩ | ⟨hf, hj1, y, ny, hy, hNy, hl_, hp_, hq_⟩ <;> subst hl_ <;> subst hq_ <;> (have hp_ := hp_.symm) <;> subst hp_
  · exact ⟨⟨EA, delE EX key, EB, cA.keeps k, cl, cB.keeps k, rfl⟩, itl, by omega, by omega, by omega, by omega, .inl ⟨rfl, l8⟩⟩
  · have hy2 : items.drop (j + 1) = [y] ++ items.drop (j + 2) := by
      obtain ⟨h1, h3⟩ := List.getElem?_eq_some_iff.1 hy
      rw [List.drop_eq_getElem_cons h1, h3]; rfl
    rw [hy2] at cB
    obtain ⟨EY, EB2, rfl, cY, cB2⟩ := (cB.keeps k).split
    obtain ⟨Xs, rfl, hXs⟩ := cY
    obtain ⟨e, nk, rfl, r1, r4, rc⟩ := HeldM.one hXs
    obtain rfl := NodeAt.unique hNy r1.node
    simp only [List.flatten_cons, List.flatten_nil, List.append_nil] at *
    have hcl : Cont σ1 h (l ++ ny.items) (delE EX key ++ e) := cl.append rc
    have hse : SortedE (delE EX key ++ e) := hsd.sublist (by
      rw [List.append_assoc]
      exact ((List.Sublist.refl _).append (List.sublist_append_left e EB2)).trans (List.sublist_append_right _ _))
    have hit : IT h (l ++ ny.items) := by
      have t2 := r1.ni.it
      exact ⟨hcl.sorted hse, fun x hx => (List.mem_append.1 hx).elim (itl.short x) (t2.short x), fun x hx => (List.mem_append.1 hx).elim (itl.right x) (t2.right x), fun x hx => (List.mem_append.1 hx).elim (itl.canon x) (t2.canon x)⟩
    have h8' := r1.ni.few
    exact ⟨⟨EA, delE EX key ++ e, EB2, cA.keeps k, hcl, cB2, by simp⟩, hit, by rw [List.length_append]; omega, by rw [List.length_append]; omega, by omega, by omega, .inr rfl⟩
  · have hj0 : 1 ≤ j := by omega
    have hy2 : items.take j = items.take (j - 1) ++ [y] := by
      obtain ⟨h1, h3⟩ := List.getElem?_eq_some_iff.1 hy
      have := List.take_succ_eq_append_getElem h1
      rw [show j - 1 + 1 = j by omega, h3] at this
      exact this
    rw [hy2] at cA
    obtain ⟨EA2, EY, rfl, cA2, cY⟩ := (cA.keeps k).split
    obtain ⟨Xs, rfl, hXs⟩ := cY
    obtain ⟨e, nk, rfl, r1, r4, rc⟩ := HeldM.one hXs
    obtain rfl := NodeAt.unique hNy r1.node
    simp only [List.flatten_cons, List.flatten_nil, List.append_nil] at *
    have hcl : Cont σ1 h (ny.items ++ l) (e ++ delE EX key) := rc.append cl
    have hse : SortedE (e ++ delE EX key) := hsd.sublist (by
      rw [List.append_assoc, List.append_assoc]
      refine List.Sublist.trans ?_ (List.sublist_append_right _ _)
      exact (List.Sublist.refl _).append (List.sublist_append_left _ _))
    have hit : IT h (ny.items ++ l) := by
      have t2 := r1.ni.it
      exact ⟨hcl.sorted hse, fun x hx => (List.mem_append.1 hx).elim (t2.short x) (itl.short x), fun x hx => (List.mem_append.1 hx).elim (t2.right x) (itl.right x), fun x hx => (List.mem_append.1 hx).elim (t2.canon x) (itl.canon x)⟩
    have h8' := r1.ni.few
    exact ⟨⟨EA2, e ++ delE EX key, EB, cA2, hcl, cB.keeps k, by simp⟩, hit, by rw [List.length_append]; omega, by rw [List.length_append]; omega, by omega, by omega, .inr (by omega)⟩
theorem JoinF.laid {σ : St} {h : Nat} {items : List Item} {E : List KV} {l' : List Item} {p q : Nat} (f : JoinF σ h items E l' p q) : LaidOK σ (h : Int) l' := by
  obtain ⟨EL, EM, ER, _, cM, _⟩ := f.parts
  have := f.four
  exact f.it.laid cM.kids (by omega) f.few
theorem JoinF.main {σ σ' : St} {h : Nat} {items : List Item} {E : List KV} {l' : List Item} {p q : Nat} {o : Except Int (List Item)} (f : JoinF σ h items E l' p q) (hl : LaidR σ (h : Int) l' σ' o) (h20 : h ≤ 20) (hit : IT (h + 1) items) (hE : SortedE E) (hd : σ.dev.n ≤ 4096) :
    Keeps σ σ' ∧ (∀ c, o = .error c → c = 28) ∧ (∀ ws, o = .ok ws → ws.length ≤ 2 ∧ Cont σ' (h + 1) (swapL items p q ws) E ∧ IT (h + 1) (swapL items p q ws) ∧ items.length - 1 ≤ (swapL items p q ws).length ∧ (swapL items p q ws).length ≤ items.length) ∧ SavesE 2 σ σ' o := by
  obtain ⟨EL, EM, ER, cL, cM, cR, rfl⟩ := f.parts
  have f4 := f.four
  obtain ⟨k, he, hw, hsv⟩ := laid_main (m := 4) hl h20 f.it cM (by omega) f.few hd (Nat.le_refl _) f4
  refine ⟨k, he, fun ws hws => ?_, hsv⟩
  obtain ⟨hl2, Es, hH, hEs⟩ := hw ws hws
  rw [ite_self] at hH
  have hco : Cont σ' (h + 1) (swapL items p q ws) (EL ++ EM ++ ER) := ((cL.keeps k).append ⟨Es, hEs.symm, hH⟩).append (cR.keeps k)
  have hpq := f.pq
  have hql := f.ql
  have hlen := swapL_length (l := items) (ws := ws) (show p ≤ q by omega) hql
  have hroots := (hl.roots h20 f.it cM.kids (by omega) f.few hd).2.2.1 ws hws
  have hl3 : l'.length ≤ 8 → ws.length = 1 := fun h8 => by
    rw [hroots.length]; unfold partsOf; rw [if_neg (by omega)]; rfl
  refine ⟨by omega, hco, hit.swap hH hco hE, ?_, ?_⟩
  · rcases f.same with ⟨h1, h3⟩ | h1
    · have := hl3 h3; omega
    · omega
  · rcases f.same with ⟨h1, h3⟩ | h1
    · have := hl3 h3; omega
    · omega

theorem cutR_main {key : ByteArray} : ∀ (h : Nat) (σ : St) (nd : Node) (σ' : St) (o : Except Int (Option (List Item))) (E : List KV), CutR key h σ nd σ' o → NI h nd → Cont σ h nd.items E → SortedE E →
    σ.dev.n ≤ 4096 → (h = 0 ∨ 2 ≤ nd.items.length) → Keeps σ σ' ∧ (∀ c, o = .error c → c = 28) ∧ (o = .ok none → σ' = σ ∧ delE E key = E) ∧
      (∀ l, o = .ok (some l) → Cont σ' h l (delE E key) ∧ IT h l ∧ nd.items.length - 1 ≤ l.length ∧ l.length ≤ nd.items.length) ∧ SavesE (2 * h) σ σ' o := by
  intro h
  induction h with
  | zero =>
    intro σ nd σ' o E hp hn hc hs hd _
    obtain ⟨rfl, i, ok, hP, rfl⟩ := hp
    have hc' : E = nd.items.map kv := hc
    obtain ⟨e1, e2⟩ := cut_leaf hn.sorted hP
    refine ⟨.refl _, (fun c hc => by cases hc), fun ho => ⟨rfl, ?_⟩, fun l ho => ?_, 0, by omega, .nil _, (fun c hc => by cases hc)⟩
    · cases ok with
      | true => simp at ho
      | false => rw [hc']; exact e2 rfl
    · cases ok with
      | false => simp at ho
      | true =>
        simp only [if_true, Except.ok.injEq, Option.some.injEq] at ho
        obtain ⟨hi, e3⟩ := e1 rfl
        have hlen := swapL_length (l := nd.items) (ws := []) (show i ≤ i + 1 by omega) (by omega)
        rw [ho] at hlen e3
        simp only [List.length_nil] at hlen
        have hsub : l.Sublist nd.items := by
          rw [← ho]
          unfold swapL
          rw [List.append_nil]
          have h1 : (nd.items.drop (i + 1)).Sublist (nd.items.drop i) := by
            rw [← List.drop_drop]; exact List.drop_sublist _ _
          have := (List.Sublist.refl (nd.items.take i)).append h1
          rw [List.take_append_drop] at this
          exact this
        exact ⟨by rw [hc', ← e3]; rfl, hn.it.sub hsub, by omega, by omega⟩
  | succ h ih =>
    intro σ nd σ' o E hp hn hc hs hd h2
    have h2' : 2 ≤ nd.items.length := by omega
    obtain ⟨j, x, nk, σ1, o1, hW, hx, hN, hP, hR⟩ := hp
    obtain ⟨x', EA, EX, EB, hx', hjl, rfl, cA, cX, cB, hA, hB⟩ := way_split hc hs hW hn.pos
    rw [hx] at hx'
    obtain rfl := Option.some.inj hx'
    obtain ⟨Xs, rfl, hXs⟩ := cX
    obtain ⟨e, nk', rfl, r1, r4, rc⟩ := HeldM.one hXs
    obtain rfl := NodeAt.unique hN r1.node
    simp only [List.flatten_cons, List.flatten_nil, List.append_nil] at *
    have hsX : SortedE e := (List.pairwise_append.1 (List.pairwise_append.1 hs).1).2.1
    obtain ⟨k1, he1, hno1, hw1, n1, hn1, hs1, hf1⟩ := ih σ nk σ1 o1 e hP r1.ni rc hsX hd (.inr (by omega))
    rcases hR with ⟨c, rfl, rfl, rfl⟩ | ⟨rfl, rfl, rfl⟩ | ⟨l, l', p, q, rfl, hJ, o2, hL, hR⟩
    · exact ⟨k1, (fun c' hc => by cases hc; exact he1 _ rfl), (fun hc => by cases hc), (fun l hl => by cases hl), n1, by omega, hs1, fun _ _ => hf1 _ rfl⟩
    · obtain ⟨rfl, hde⟩ := hno1 rfl
      exact ⟨k1, (fun c' hc => by cases hc), fun _ => ⟨rfl, by rw [delE_mid hA hB, hde]⟩, (fun l hl => by cases hl), n1, by omega, hs1, (fun c hc => by cases hc)⟩
    · obtain ⟨cl, itl, l3, l8⟩ := hw1 l rfl
      have hkf := r1.ni.few
      have hni : NI (h + 1) ⟨((h + 1 : Nat) : Int), nd.items⟩ := ⟨rfl, hn.high, hn.pos, hn.few, hn.sorted, hn.short, hn.right, hn.canon⟩
      have hF := join_facts k1 hni h2' hjl cA cB hA hB hs cl itl (by omega) (by omega) hJ
      obtain ⟨k2, he2, hw2, n2, hn2, hs2, hf2⟩ := hF.main hL (by have := hn.high; omega) hn.it (delE_sorted hs key) (by rw [k1.n]; exact hd)
      rcases hR with ⟨c, rfl, rfl⟩ | ⟨ws, rfl, rfl⟩
      · exact ⟨k1.trans k2, (fun c' hc => by cases hc; exact he2 _ rfl), (fun hc => by cases hc), (fun l hl => by cases hl), n1 + n2, by omega, hs1.trans hs2, fun _ _ => hf2 _ rfl⟩
      · obtain ⟨_, c3, i3, l1, l2⟩ := hw2 ws rfl
        exact ⟨k1.trans k2, (fun c' hc => by cases hc), (fun hc => by cases hc), (fun l hl => by cases hl; exact ⟨c3, i3, l1, l2⟩), n1 + n2, by omega, hs1.trans hs2, (fun c hc => by cases hc)⟩
end Go.Proofs.YtbajgpadmlnffaaGreat
