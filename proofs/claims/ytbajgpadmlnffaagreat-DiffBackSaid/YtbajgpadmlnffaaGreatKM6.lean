/-
  A part of the proofs of this seat (ApplyL, Apply, Str, DiffL, StrW): lemmas on which the last text leans. No condition.
-/
import Derived.Test.YtbajgpadmlnffaaGreatKM5
/- Changes of a tree, one behind the other: steps. -/
namespace Go.Proofs.YtbajgpadmlnffaaGreat
open Go.V
set_option linter.unusedVariables false

def chgE (E : List KV) (c : Change) : List KV := if c.gone then delE E c.key else putE E c.key c.val
def applyE (E : List KV) (l : List Change) : List KV := l.foldl chgE E
def validC (c : Change) : Prop := rightK c.key ∧ (c.gone = true ∨ c.val.size ≤ 300)
instance (c : Change) : Decidable (validC c) := inferInstanceAs (Decidable (_ ∧ _))
theorem putE_length (E : List KV) (key val : ByteArray) : (putE E key val).length ≤ E.length + 1 := by
  unfold putE
  rw [List.length_append, List.length_cons]
  have : (E.filter fun e => decide (Lt e.1 key)).length + (E.filter fun e => decide (Lt key e.1)).length ≤ E.length := by
    induction E with
    | nil => simp
    | cons e r ih =>
      simp only [List.filter_cons, List.length_cons]
      by_cases h1 : Lt e.1 key
      · have h2 := h1.asymm
        simp only [h1, h2, decide_true, decide_false, if_true, Bool.false_eq_true, if_false, List.length_cons]; omega
      · by_cases h2 : Lt key e.1
        · simp only [h1, h2, decide_true, decide_false, if_true, Bool.false_eq_true, if_false, List.length_cons]; omega
        · simp only [h1, h2, decide_false, Bool.false_eq_true, if_false]; omega
  exact Nat.succ_le_succ this
theorem delE_length (E : List KV) (key : ByteArray) : (delE E key).length ≤ E.length := List.length_filter_le _ _
theorem chgE_length (E : List KV) (c : Change) : (chgE E c).length ≤ E.length + 1 := by
  unfold chgE
  split
  · have := delE_length E c.key; omega
  · exact putE_length _ _ _
theorem applyE_length : ∀ (l : List Change) (E : List KV), (applyE E l).length ≤ E.length + l.length
  | [], E => by simp [applyE]
  | c :: r, E => by
    have h1 := chgE_length E c
    have h2 := applyE_length r (chgE E c)
    simp only [applyE, List.foldl_cons, List.length_cons] at *
    omega
theorem applyE_take {l : List Change} {i : Nat} {c : Change} (h : l[i]? = some c) (E : List KV) : applyE E (l.take (i + 1)) = chgE (applyE E (l.take i)) c := by
  obtain ⟨hi, h2⟩ := List.getElem?_eq_some_iff.1 h
  unfold applyE
  rw [List.take_succ_eq_append_getElem hi, List.foldl_append, h2]
  rfl
theorem TreeAt.some {σ : St} {r : Int} {E : List KV} (t : TreeAt σ r E) (h : r ≠ 0) : (mfind σ.cells r).isSome ∧ highC σ.cells r ≤ 65 ∧ 2 ≤ r := by
  rcases t with ⟨rfl, _⟩ | ⟨h, items, t⟩
  · exact absurd rfl h
  · obtain ⟨c, hc⟩ := t.node.c
    refine ⟨by rw [hc]; rfl, ?_, t.node.lo⟩
    rw [t.high]
    have := t.ni.high
    omega
theorem TreeAt.sorted {σ : St} {r : Int} {E : List KV} (t : TreeAt σ r E) : SortedE E := by
  rcases t with ⟨_, rfl⟩ | ⟨h, items, t⟩
  · exact List.Pairwise.nil
  · exact t.sorted
/-- What a change of a tree leaves. -/
structure StepR (σ σ' : St) (H : Int → Nat) (r : Int) (E : List KV) : Prop where
  inv : Inv σ' H
  keeps : Keeps σ σ'
  tree : TreeAt σ' r E
  len : σ'.cells.length ≤ σ.cells.length + 9
  nl : ∀ L, NL σ.cells L → NL σ'.cells (fun j => L j ∨ j = r)
theorem put_all (w : World) (a : SAd) (σ : St) (hS : StAt w a σ) (H : Int → Nat) (Iv : Inv σ H) (root : Int) (E : List KV) (hT : TreeAt σ root E) (hE : E.length < 512) (hl : σ.cells.length ≤ 4080) (key val : ByteArray) (hk : rightK key) (hv : val.size ≤ 300) :
    Ret Tryz.prog 36 [Pt a.s 0, I root, S key, S val] w fun v w' => ∃ r σ', v = .tuple #[I r, I 0] ∧ StAt w' a σ' ∧ Ext a.fpp w w' ∧ StepR σ σ' H r (putE E key val) := by
  rcases hT with ⟨rfl, rfl⟩ | ⟨h, items, t⟩
  · refine (tree_Put0 w a σ hS Iv.alive key val hk hv).mono fun v w' ⟨o, σ', hp, hv', hS', hx⟩ => ?_
    obtain ⟨k, he, ht, m, hm, hs, hf⟩ := put0_main hk hv (by rw [Iv.n]; omega) hp
    obtain ⟨I1, l1⟩ := inv_saves hs Iv (by omega)
    cases o with
    | error c => have := full_many I1 (hf c rfl); omega
    | ok r => exact ⟨r, σ', hv', hS', hx, I1, k, ht r rfl, by omega, fun L hL => put0_loose hk hv Iv (by omega) hL hp⟩
  · have h3 := t.low hE
    refine (tree_PutN w a σ hS Iv.alive key val hk hv root h items t.node t.ni E t.cont t.sorted).mono fun v w' ⟨o, σ', hp, hv', hS', hx⟩ => ?_
    obtain ⟨k, he, ht, m, hm, hs, hf⟩ := putN_main hk hv hp t (by rw [Iv.n]; omega)
    obtain ⟨I1, l1⟩ := inv_saves hs Iv (by omega)
    cases o with
    | error c =>
      rcases he c rfl with rfl | ⟨_, h20⟩
      · have := full_many I1 (hf rfl); omega
      · omega
    | ok r => exact ⟨r, σ', hv', hS', hx, I1, k, ht r rfl, by omega, fun L hL => putN_loose hk hv hp t Iv (by omega) hL⟩
theorem del_all (w : World) (a : SAd) (σ : St) (hS : StAt w a σ) (H : Int → Nat) (Iv : Inv σ H) (root : Int) (E : List KV) (hT : TreeAt σ root E) (hE : E.length < 512) (hl : σ.cells.length ≤ 4080) (key : ByteArray) (hk : rightK key) :
    Ret Tryz.prog 35 [Pt a.s 0, I root, S key] w fun v w' => ∃ r σ', v = .tuple #[I r, I 0] ∧ StAt w' a σ' ∧ Ext a.fpp w w' ∧ StepR σ σ' H r (delE E key) := by
  rcases hT with ⟨rfl, rfl⟩ | ⟨h, items, t⟩
  · refine (tree_Del0 w a key hk).mono fun v w' ⟨hv', hw⟩ => ?_
    subst hw
    exact ⟨0, σ, hv', hS, .refl _ _, Iv, .refl _, .inl ⟨rfl, rfl⟩, by omega, fun L hL => hL.mono fun j hj => .inl hj⟩
  · have h3 := t.low hE
    refine (tree_DelN w a σ hS Iv.alive key hk root h items t.node t.ni E t.cont t.sorted t.two).mono fun v w' ⟨o, σ', hp, hv', hS', hx⟩ => ?_
    obtain ⟨k, he, ht, m, hm, hs, hf⟩ := delN_main hp t (by rw [Iv.n]; omega)
    obtain ⟨I1, l1⟩ := inv_saves hs Iv (by omega)
    cases o with
    | error c => have := full_many I1 (hf c rfl); omega
    | ok r => exact ⟨r, σ', hv', hS', hx, I1, k, ht r rfl, by omega, fun L hL => delN_loose hp t Iv (by omega) hL⟩

def hH (H : Int → Nat) (now : Int) : Int → Nat := if now = 0 then H else hInc H now
def holdIf (σ : St) (r : Int) : St := if r = 0 then σ else { σ with cells := holdC σ.cells r 1 }
def dropIf (σ : St) (r : Int) : St := if r = 0 then σ else { σ with cells := goneC 66 (holdC σ.cells r (-1)) r }
structure AInv (σ0 σ : St) (H : Int → Nat) (now : Int) (E : List KV) (n : Nat) : Prop where
  inv : Inv σ (hH H now)
  tree : TreeAt σ now E
  surv : ∀ r E, 0 < H r → TreeAt σ0 r E → TreeAt σ r E
  len : σ.cells.length ≤ σ0.cells.length + n
  nl : ∀ L, NL σ0.cells L → NL σ.cells L
theorem hH_max {H : Int → Nat} (h : ∀ j, H j ≤ 1000) (now : Int) : ∀ j, hH H now j ≤ 1001 := fun j => by
  have := h j
  unfold hH
  split
  · omega
  · simp only [hInc]; split <;> omega
/-- Ahead of the first change. -/
theorem ainv_start {σ : St} {H : Int → Nat} {root : Int} {E : List KV} (I : Inv σ H) (t : TreeAt σ root E) (hm : ∀ j, H j ≤ 1000) : AInv σ (holdIf σ root) H root E 0 := by
  unfold holdIf
  by_cases h0 : root = 0
  · subst h0
    exact ⟨by simpa [hH] using I, by simpa using t, fun r E _ h => by simpa using h, by simp, fun L hL => by simpa using hL⟩
  · rw [if_neg h0]
    obtain ⟨I1, l1, t1⟩ := inv_hold I (t.some h0).1 (by have := hm root; omega)
    refine ⟨by unfold hH; rw [if_neg h0]; exact I1, t1 _ _ t, fun r E _ h => t1 _ _ h, by rw [l1]; exact Nat.le_refl _, fun L hL j c hj e1 e2 => ?_⟩
    obtain ⟨cr, hcr⟩ := Option.isSome_iff_exists.1 (t.some h0).1
    have hh := I.bal.held root cr hcr
    have := hm root
    simp only at hj
    rw [hold_find hcr (by omega) (by omega)] at hj
    split at hj
    · rename_i e; subst e
      obtain rfl := Option.some.inj hj
      simp only at e2; omega
    · exact hL j c hj e1 e2
theorem hDec_hInc {H : Int → Nat} (j : Int) : hDec (hInc H j) j = H := by
  funext k
  unfold hDec hInc
  split <;> omega
theorem hDec_hInc2 {H : Int → Nat} (j k : Int) : hDec (hInc (hInc H j) k) j = hInc H k := by
  funext q
  unfold hDec hInc
  by_cases h1 : q = j <;> by_cases h2 : q = k <;> simp [h1, h2] <;> omega
theorem ainv_hold {σ0 σ σ1 : St} {H : Int → Nat} {now r : Int} {E E' : List KV} {n : Nat} (A : AInv σ0 σ H now E n) (s : StepR σ σ1 (hH H now) r E') (hm : ∀ j, H j ≤ 1000) :
    Inv (holdIf σ1 r) (hH (hH H now) r) ∧ TreeAt (holdIf σ1 r) r E' ∧ TreeAt (holdIf σ1 r) now E ∧ (∀ q E, 0 < H q → TreeAt σ0 q E → TreeAt (holdIf σ1 r) q E) ∧ (holdIf σ1 r).cells.length ≤ σ0.cells.length + (n + 9) ∧ (∀ L, NL σ0.cells L → NL (holdIf σ1 r).cells L) := by
  have hl := A.len
  have hl1 := s.len
  have tn := A.tree.keeps s.keeps
  unfold holdIf
  by_cases h0 : r = 0
  · subst h0
    simp only [if_true]
    refine ⟨by simpa [hH] using s.inv, s.tree, tn, fun q E hq h => (A.surv q E hq h).keeps s.keeps, by omega, fun L hL j c hj e1 e2 => ?_⟩
    rcases s.nl _ (A.nl L hL) j c hj e1 e2 with h | h
    · exact h
    · subst h
      have := s.inv.pos _ c hj
      omega
  · rw [if_neg h0]
    obtain ⟨I1, l1, t1⟩ := inv_hold s.inv (s.tree.some h0).1 (by have := hH_max hm now r; omega)
    refine ⟨by rw [show hH (hH H now) r = hInc (hH H now) r by unfold hH; rw [if_neg h0]]; exact I1, t1 _ _ s.tree, t1 _ _ tn, fun q E hq h => t1 _ _ ((A.surv q E hq h).keeps s.keeps), by rw [l1]; omega, fun L hL j c hj e1 e2 => ?_⟩
    obtain ⟨cr, hcr⟩ := Option.isSome_iff_exists.1 (s.tree.some h0).1
    have hh := s.inv.bal.held r cr hcr
    have := hH_max hm now r
    simp only at hj
    rw [hold_find hcr (by omega) (by omega)] at hj
    split at hj
    · rename_i e; subst e
      obtain rfl := Option.some.inj hj
      simp only at e2; omega
    · rename_i e
      rcases s.nl _ (A.nl L hL) j c hj e1 e2 with h | h
      · exact h
      · exact absurd h.symm e
theorem ainv_next {σ0 σ σ1 : St} {H : Int → Nat} {now r : Int} {E E' : List KV} {n : Nat} (A : AInv σ0 σ H now E n) (s : StepR σ σ1 (hH H now) r E') (hm : ∀ j, H j ≤ 1000) : AInv σ0 (dropIf (holdIf σ1 r) now) H r E' (n + 9) := by
  obtain ⟨I2, t1, t2, sv, len, nl⟩ := ainv_hold A s hm
  unfold dropIf
  by_cases h0 : now = 0
  · rw [if_pos h0]
    subst h0
    exact ⟨by simpa [hH] using I2, t1, sv, len, nl⟩
  · rw [if_neg h0]
    have hpos : 0 < hH (hH H now) r now := by
      have h1 : 0 < hH H now now := by unfold hH; rw [if_neg h0]; simp [hInc]
      unfold hH at h1 ⊢
      rw [if_neg h0] at h1 ⊢
      split
      · exact h1
      · show 0 < hInc H now now + _; omega
    obtain ⟨I3, l3, t3, _, _, _, n3⟩ := inv_drop I2 hpos
    have hd : hDec (hH (hH H now) r) now = hH H r := by
      unfold hH
      rw [if_neg h0]
      split
      · exact hDec_hInc now
      · exact hDec_hInc2 now r
    rw [hd] at I3 t3
    refine ⟨I3, t3 r E' ?_ t1, fun q Eq hq ht => t3 q Eq (.inr ?_) (sv q Eq hq ht), Nat.le_trans l3 len, fun L hL => n3 L (nl L hL) (by have := (t2.some h0).2.1; omega)⟩
    · by_cases hr : r = 0
      · exact .inl hr
      · right; unfold hH; rw [if_neg hr]; simp [hInc]
    · unfold hH; split
      · exact hq
      · show 0 < H q + _; omega
theorem drop_pre {σ : St} {H : Int → Nat} {now : Int} {E : List KV} (I : Inv σ H) (hp : 0 < H now) (t : TreeAt σ now E) (h0 : now ≠ 0) : ∃ c, mfind σ.cells now = some c ∧ 1 ≤ c.held ∧ Good σ.cells ∧ highC σ.cells now ≤ 65 := by
  obtain ⟨_, _, _, ⟨c, hc, h1⟩, _⟩ := inv_drop I hp
  exact ⟨c, hc, h1, I.bal.good, (t.some h0).2.1⟩
end Go.Proofs.YtbajgpadmlnffaaGreat
/- diff.Apply: the walk. -/
namespace Go.Proofs.YtbajgpadmlnffaaGreat
open Go.V
set_option maxRecDepth 100000
set_option linter.unusedVariables false
set_option linter.unusedSimpArgs false

theorem hH_pos {H : Int → Nat} {now r : Int} (h0 : ¬ now = 0) : 0 < hH (hH H now) r now := by
  have h1 : 0 < hH H now now := by unfold hH; rw [if_neg h0]; simp [hInc]
  unfold hH at h1 ⊢
  rw [if_neg h0] at h1 ⊢
  split
  · exact h1
  · show 0 < hInc H now now + _; omega

theorem diff_Apply (w : World) (a : SAd) (σ : St) (hS : StAt w a σ) (H : Int → Nat) (Iv : Inv σ H) (hm : ∀ j, H j ≤ 1000) (root : Int) (E : List KV) (hT : TreeAt σ root E) (A : Option Addr) (cap : Nat) (l : List Change) (lo hi : Nat) (hR : Rd kChange w lo hi A l) (hhi_ : hi ≤ w.heap.size) (hV : ∀ c ∈ l, validC c) (hE : E.length + l.length < 512) (hcl : σ.cells.length + 9 * l.length ≤ 4080) :
    Ret Tryz.prog 11 [Pt a.s 0, I root, .slice A l.length cap] w fun v w' => ∃ r σ', v = .tuple #[I r, I 0] ∧ StAt w' a σ' ∧ Ext a.fpp w w' ∧ AInv σ σ' H r (applyE E l) (9 * l.length) := by
  have lS := hS.bs.lt
  have lMc := hS.mc.lt
  have lMk := hS.mkt.lt
  have hhi := hS.hi
  have nSC : a.s ≠ a.mc := fun e => MapAt.ne hS.mc hS.bs e.symm
  have nKC : a.mkk ≠ a.mc := fun e => hS.cmk e.symm
  refine calls_of_XC Tryz.func11 rfl rfl ?_
  refine .seq ?_
  refine .region ?_
  refine xo.done 2 [(0, Pt a.s 0), (1, I root), (2, .slice A l.length cap)] (by kernel_rfl) rfl (by kernel_rfl) ?_
  refine .seq ?_
  refine .region ?_
  refine xo.done 2 [(0, Pt a.s 0), (2, .slice A l.length cap), (8, I root)] (by kernel_rfl) rfl (by kernel_rfl) ?_
  refine .seq ?_
  refine .seq ?_
  refine .region ?_
  by_cases hc1 : (root : Int) = 0
  · refine xo.val 1 (by kernel_rfl) (c_neq_t hc1) ?_
    refine xo.done 0 [(0, Pt a.s 0), (2, .slice A l.length cap), (8, I root), (16, B false)] (by kernel_rfl) rfl (by kernel_rfl) ?_
    refine .condF rfl rfl ?_
    refine .skip ?_
    refine .seq ?_
    refine .seq ?_
    refine .region ?_
    refine xo.done 3 [(0, Pt a.s 0), (8, I root), (23, .slice A l.length cap), (24, I (l.length : Int)), (25, I 0)] (by kernel_rfl) rfl (by kernel_rfl) ?_
    refine .block ?_
    have hS0 : StAt w a (holdIf σ root) := by
      unfold holdIf
      rw [if_pos hc1]
      exact hS
    refine XC.loop (ι := Int × Nat × St) (fun ⟨now, i, σi⟩ => [(0, Pt a.s 0), (8, I now), (23, .slice A l.length cap), (24, I (l.length : Int)), (25, I (i : Int))]) (fun ⟨now, i, σi⟩ u => StAt u a σi ∧ AInv σ σi H now (applyE E (l.take i)) (9 * i) ∧ i ≤ l.length ∧ Ext a.fpp w u) (fun ⟨now, i, σi⟩ => l.length - i) (root, 0, holdIf σ root) (cov_of (by kernel_rfl)) ⟨hS0, ainv_start Iv hT hm, by omega, (Ext.refl _ _)⟩ ?_
    rintro ⟨now, i, σi⟩ w2 ⟨hSu, hAI, hi_, hE⟩
    have z2 := hE.size
    have hle := applyE_length (l.take i) E
    rw [List.length_take] at hle
    have hlc := hAI.len
    refine .seq ?_
    refine .region ?_
    by_cases hc3 : ((i : Int) : Int) < (l.length : Int)
    · refine xo.val 0 (by kernel_rfl) (c_lss_t hc3) ?_
      refine xo.done 0 [(0, Pt a.s 0), (8, I now), (23, .slice A l.length cap), (24, I (l.length : Int)), (25, I (i : Int)), (26, B true)] (by kernel_rfl) rfl (by kernel_rfl) ?_
      refine .seq ?_
      refine .condT rfl rfl ?_
      refine .skip ?_
      refine .seq ?_
      refine .block ?_
      refine .seq ?_
      refine .region ?_
      have hs4 := (hR.extm hE hS.maps)
      obtain ⟨b5, o6, x7, hi8, hA9, hl10, hh11, hr12⟩ := hs4.at_ i (by omega)
      refine xo.val 0 (by kernel_rfl) (idxN (kk := .i64) (t := 22) (n := l.length) (cap := cap) (sz := 3) (i := i) (by kernel_rfl) hA9 (by omega)) ?_
      have hvx := hV x7 (List.mem_of_getElem? hi8)
      refine xo.val 0 (by kernel_rfl) (ldA (t := 34) (by kernel_rfl) hr12) ?_
      refine xo.alloc 0 34 [S (⟨#[]⟩), S (⟨#[]⟩), B false] (by kernel_rfl) (by kernel_rfl) ?_
      intro b13 w14 hb15 hx16 hg17
      have z14 := hx16.size
      have l15 := hb15.lt
      refine xo.store 0 34 (o := 0) (.agg #[S x7.key, S x7.val, B x7.gone]) [S x7.key, S x7.val, B x7.gone] (by kernel_rfl) hb15 (by kernel_rfl) (by kernel_rfl) (by kernel_rfl) (by kernel_rfl) ?_
      intro w18 hb19 hx20
      have z18 := hx20.size
      refine xo.done 0 [(0, Pt a.s 0), (8, I now), (11, Pt b13 0), (23, .slice A l.length cap), (24, I (l.length : Int)), (25, I (i : Int))] (by kernel_rfl) rfl (by kernel_rfl) ?_
      refine .seq ?_
      refine .region ?_
      refine xo.done 2 [(0, Pt a.s 0), (8, I now), (11, Pt b13 0), (23, .slice A l.length cap), (24, I (l.length : Int)), (25, I (i : Int))] (by kernel_rfl) rfl (by kernel_rfl) ?_
      refine .seq ?_
      refine .seq ?_
      refine .region ?_
      refine xo.val 1 (by kernel_rfl) (ldB (t := 4) (o := 2) (by kernel_rfl) hb19 rfl) ?_
      refine xo.done 0 [(0, Pt a.s 0), (8, I now), (11, Pt b13 0), (23, .slice A l.length cap), (24, I (l.length : Int)), (25, I (i : Int)), (30, B x7.gone)] (by kernel_rfl) rfl (by kernel_rfl) ?_
      refine .condB x7.gone rfl rfl (fun hc21 => ?_) (fun hc21 => ?_)
      · refine .region ?_
        refine xo.val 3 (by kernel_rfl) (ldB (t := 9) (o := 0) (by kernel_rfl) hb19 rfl) ?_
        have hf22 := ((hSu.no hx16).ext hx20 (fun b h1 h2 (e : b = b13) => by omega) (MapAt.ne (hSu.no hx16).mkt hb15) (fun b cs hb (e : b = b13) => Blk.ne hb hb15 rfl e))
        refine xo.ret 0 (by kernel_rfl) (cf35 _ _) (del_all _ a σi hf22 (hH H now) hAI.inv now _ hAI.tree (by omega) (by omega) x7.key hvx.1) ?_
        rintro _ w28 ⟨r23, σ24, rfl, hS25, hx29, hs26⟩
        have z28 := hx29.size
        refine xo.done 5 [(0, Pt a.s 0), (8, I now), (12, I r23), (13, I 0), (23, .slice A l.length cap), (24, I (l.length : Int)), (25, I (i : Int))] (by kernel_rfl) rfl (by kernel_rfl) ?_
        refine .seq ?_
        refine .seq ?_
        refine .region ?_
        by_cases hc30 : (r23 : Int) = 0
        · refine xo.val 4 (by kernel_rfl) (c_neq_t hc30) ?_
          refine xo.done 1 [(0, Pt a.s 0), (8, I now), (12, I r23), (13, I 0), (23, .slice A l.length cap), (24, I (l.length : Int)), (25, I (i : Int)), (54, B false)] (by kernel_rfl) rfl (by kernel_rfl) ?_
          refine .condF rfl rfl ?_
          refine .skip ?_
          refine .seq ?_
          refine .seq ?_
          refine .region ?_
          by_cases hc31 : (now : Int) = 0
          · refine xo.val 1 (by kernel_rfl) (c_neq_t hc31) ?_
            refine xo.done 0 [(0, Pt a.s 0), (8, I now), (12, I r23), (13, I 0), (23, .slice A l.length cap), (24, I (l.length : Int)), (25, I (i : Int)), (59, B false)] (by kernel_rfl) rfl (by kernel_rfl) ?_
            refine .condF rfl rfl ?_
            refine .skip ?_
            refine .seq ?_
            refine .seq ?_
            refine .region ?_
            refine xo.done 2 [(0, Pt a.s 0), (12, I r23), (13, I 0), (23, .slice A l.length cap), (24, I (l.length : Int)), (25, I (i : Int)), (64, B false)] (by kernel_rfl) rfl (by kernel_rfl) ?_
            refine .condF rfl rfl ?_
            refine .skip ?_
            refine .region ?_
            refine xo.done 2 [(0, Pt a.s 0), (8, I r23), (23, .slice A l.length cap), (24, I (l.length : Int)), (25, I (i : Int))] (by kernel_rfl) rfl (by kernel_rfl) ?_
            refine .region ?_
            refine xo.val 0 (by kernel_rfl) (a_add (a := (i : Int)) (b := 1) (by omega) (by omega)) ?_
            refine xo.fin 1 (by kernel_rfl) rfl ?_
            have hN : AInv σ (σ24) H r23 (delE (applyE E (l.take i)) x7.key) (9 * i + 9) := by
              have hN := ainv_next hAI hs26 hm
              simp only [dropIf, holdIf, if_pos hc31, if_pos hc30] at hN
              exact hN
            refine ⟨(r23, i + 1, σ24), cov_of (by kernel_rfl), ⟨hS25, ?_, by omega, ((((hE.weak fun b hb q => q).trans' hx16 (fun _ _ h => h) (fun b hb h => h.elim)).trans' hx20 (fun _ _ h => h) (fun b hb (q : b = b13) => absurd hb (by omega))).trans' hx29 (fun _ _ h => h) (fun b hb q => q))⟩, by show l.length - (i + 1) < l.length - i; omega⟩
            rw [applyE_take hi8]
            unfold chgE
            rw [if_pos hc21]
            exact hN
          · refine xo.val 1 (by kernel_rfl) (c_neq_f hc31) ?_
            refine xo.done 0 [(0, Pt a.s 0), (8, I now), (12, I r23), (13, I 0), (23, .slice A l.length cap), (24, I (l.length : Int)), (25, I (i : Int)), (59, B true)] (by kernel_rfl) rfl (by kernel_rfl) ?_
            refine .condT rfl rfl ?_
            refine .region ?_
            obtain ⟨cdr, hcdr, hd1, hdG, hdH⟩ : ∃ c, mfind (σ24).cells now = some c ∧ 1 ≤ c.held ∧ Good (σ24).cells ∧ highC (σ24).cells now ≤ 65 := by
              obtain ⟨I2, _, t2, _⟩ := ainv_hold hAI hs26 hm
              have hd := drop_pre I2 (hH_pos hc31) t2 hc31
              simp only [holdIf, if_pos hc30] at hd
              exact hd
            refine xo.ret 2 (by kernel_rfl) (cf31 _ _) (st_Drop _ a σ24 hS25 now cdr hcdr hd1 hdG hdH) ?_
            rintro _ w33 ⟨rfl, hS32, hx34⟩
            have z33 := hx34.size
            refine xo.done 0 [(0, Pt a.s 0), (12, I r23), (13, I 0), (23, .slice A l.length cap), (24, I (l.length : Int)), (25, I (i : Int))] (by kernel_rfl) rfl (by kernel_rfl) ?_
            refine .seq ?_
            refine .seq ?_
            refine .region ?_
            refine xo.done 2 [(0, Pt a.s 0), (12, I r23), (13, I 0), (23, .slice A l.length cap), (24, I (l.length : Int)), (25, I (i : Int)), (64, B false)] (by kernel_rfl) rfl (by kernel_rfl) ?_
            refine .condF rfl rfl ?_
            refine .skip ?_
            refine .region ?_
            refine xo.done 2 [(0, Pt a.s 0), (8, I r23), (23, .slice A l.length cap), (24, I (l.length : Int)), (25, I (i : Int))] (by kernel_rfl) rfl (by kernel_rfl) ?_
            refine .region ?_
            refine xo.val 0 (by kernel_rfl) (a_add (a := (i : Int)) (b := 1) (by omega) (by omega)) ?_
            refine xo.fin 1 (by kernel_rfl) rfl ?_
            have hN : AInv σ ({ σ24 with cells := goneC 66 (holdC σ24.cells now (-1)) now }) H r23 (delE (applyE E (l.take i)) x7.key) (9 * i + 9) := by
              have hN := ainv_next hAI hs26 hm
              simp only [dropIf, holdIf, if_neg hc31, if_pos hc30] at hN
              exact hN
            refine ⟨(r23, i + 1, { σ24 with cells := goneC 66 (holdC σ24.cells now (-1)) now }), cov_of (by kernel_rfl), ⟨hS32, ?_, by omega, (((((hE.weak fun b hb q => q).trans' hx16 (fun _ _ h => h) (fun b hb h => h.elim)).trans' hx20 (fun _ _ h => h) (fun b hb (q : b = b13) => absurd hb (by omega))).trans' hx29 (fun _ _ h => h) (fun b hb q => q)).trans' hx34 (fun _ _ h => h) (fun b hb q => q))⟩, by show l.length - (i + 1) < l.length - i; omega⟩
            rw [applyE_take hi8]
            unfold chgE
            rw [if_pos hc21]
            exact hN
        · refine xo.val 4 (by kernel_rfl) (c_neq_f hc30) ?_
          refine xo.done 1 [(0, Pt a.s 0), (8, I now), (12, I r23), (13, I 0), (23, .slice A l.length cap), (24, I (l.length : Int)), (25, I (i : Int)), (54, B true)] (by kernel_rfl) rfl (by kernel_rfl) ?_
          refine .condT rfl rfl ?_
          refine .region ?_
          obtain ⟨cd36, hcd37⟩ := Option.isSome_iff_exists.1 (hs26.tree.some hc30).1
          refine xo.ret 2 (by kernel_rfl) (cf34 _ _) (st_Hold _ a σ24 hS25 r23 cd36 hcd37) ?_
          rintro _ w38 ⟨rfl, hS35, hx39⟩
          have z38 := hx39.size
          refine xo.done 1 [(0, Pt a.s 0), (8, I now), (12, I r23), (13, I 0), (23, .slice A l.length cap), (24, I (l.length : Int)), (25, I (i : Int))] (by kernel_rfl) rfl (by kernel_rfl) ?_
          refine .seq ?_
          refine .seq ?_
          refine .region ?_
          by_cases hc40 : (now : Int) = 0
          · refine xo.val 1 (by kernel_rfl) (c_neq_t hc40) ?_
            refine xo.done 0 [(0, Pt a.s 0), (8, I now), (12, I r23), (13, I 0), (23, .slice A l.length cap), (24, I (l.length : Int)), (25, I (i : Int)), (59, B false)] (by kernel_rfl) rfl (by kernel_rfl) ?_
            refine .condF rfl rfl ?_
            refine .skip ?_
            refine .seq ?_
            refine .seq ?_
            refine .region ?_
            refine xo.done 2 [(0, Pt a.s 0), (12, I r23), (13, I 0), (23, .slice A l.length cap), (24, I (l.length : Int)), (25, I (i : Int)), (64, B false)] (by kernel_rfl) rfl (by kernel_rfl) ?_
            refine .condF rfl rfl ?_
            refine .skip ?_
            refine .region ?_
            refine xo.done 2 [(0, Pt a.s 0), (8, I r23), (23, .slice A l.length cap), (24, I (l.length : Int)), (25, I (i : Int))] (by kernel_rfl) rfl (by kernel_rfl) ?_
            refine .region ?_
            refine xo.val 0 (by kernel_rfl) (a_add (a := (i : Int)) (b := 1) (by omega) (by omega)) ?_
            refine xo.fin 1 (by kernel_rfl) rfl ?_
            have hN : AInv σ ({ σ24 with cells := holdC σ24.cells r23 1 }) H r23 (delE (applyE E (l.take i)) x7.key) (9 * i + 9) := by
              have hN := ainv_next hAI hs26 hm
              simp only [dropIf, holdIf, if_pos hc40, if_neg hc30] at hN
              exact hN
            refine ⟨(r23, i + 1, { σ24 with cells := holdC σ24.cells r23 1 }), cov_of (by kernel_rfl), ⟨hS35, ?_, by omega, (((((hE.weak fun b hb q => q).trans' hx16 (fun _ _ h => h) (fun b hb h => h.elim)).trans' hx20 (fun _ _ h => h) (fun b hb (q : b = b13) => absurd hb (by omega))).trans' hx29 (fun _ _ h => h) (fun b hb q => q)).trans' hx39 (fun _ _ h => h) (fun b hb q => q))⟩, by show l.length - (i + 1) < l.length - i; omega⟩
            rw [applyE_take hi8]
            unfold chgE
            rw [if_pos hc21]
            exact hN
          · refine xo.val 1 (by kernel_rfl) (c_neq_f hc40) ?_
            refine xo.done 0 [(0, Pt a.s 0), (8, I now), (12, I r23), (13, I 0), (23, .slice A l.length cap), (24, I (l.length : Int)), (25, I (i : Int)), (59, B true)] (by kernel_rfl) rfl (by kernel_rfl) ?_
            refine .condT rfl rfl ?_
            refine .region ?_
            obtain ⟨cdr, hcdr, hd1, hdG, hdH⟩ : ∃ c, mfind ({ σ24 with cells := holdC σ24.cells r23 1 }).cells now = some c ∧ 1 ≤ c.held ∧ Good ({ σ24 with cells := holdC σ24.cells r23 1 }).cells ∧ highC ({ σ24 with cells := holdC σ24.cells r23 1 }).cells now ≤ 65 := by
              obtain ⟨I2, _, t2, _⟩ := ainv_hold hAI hs26 hm
              have hd := drop_pre I2 (hH_pos hc40) t2 hc40
              simp only [holdIf, if_neg hc30] at hd
              exact hd
            refine xo.ret 2 (by kernel_rfl) (cf31 _ _) (st_Drop _ a ({ σ24 with cells := holdC σ24.cells r23 1 }) hS35 now cdr hcdr hd1 hdG hdH) ?_
            rintro _ w42 ⟨rfl, hS41, hx43⟩
            have z42 := hx43.size
            refine xo.done 0 [(0, Pt a.s 0), (12, I r23), (13, I 0), (23, .slice A l.length cap), (24, I (l.length : Int)), (25, I (i : Int))] (by kernel_rfl) rfl (by kernel_rfl) ?_
            refine .seq ?_
            refine .seq ?_
            refine .region ?_
            refine xo.done 2 [(0, Pt a.s 0), (12, I r23), (13, I 0), (23, .slice A l.length cap), (24, I (l.length : Int)), (25, I (i : Int)), (64, B false)] (by kernel_rfl) rfl (by kernel_rfl) ?_
            refine .condF rfl rfl ?_
            refine .skip ?_
            refine .region ?_
            refine xo.done 2 [(0, Pt a.s 0), (8, I r23), (23, .slice A l.length cap), (24, I (l.length : Int)), (25, I (i : Int))] (by kernel_rfl) rfl (by kernel_rfl) ?_
            refine .region ?_
            refine xo.val 0 (by kernel_rfl) (a_add (a := (i : Int)) (b := 1) (by omega) (by omega)) ?_
            refine xo.fin 1 (by kernel_rfl) rfl ?_
            have hN : AInv σ ({ { σ24 with cells := holdC σ24.cells r23 1 } with cells := goneC 66 (holdC ({ σ24 with cells := holdC σ24.cells r23 1 }).cells now (-1)) now }) H r23 (delE (applyE E (l.take i)) x7.key) (9 * i + 9) := by
              have hN := ainv_next hAI hs26 hm
              simp only [dropIf, holdIf, if_neg hc40, if_neg hc30] at hN
              exact hN
            refine ⟨(r23, i + 1, { { σ24 with cells := holdC σ24.cells r23 1 } with cells := goneC 66 (holdC ({ σ24 with cells := holdC σ24.cells r23 1 }).cells now (-1)) now }), cov_of (by kernel_rfl), ⟨hS41, ?_, by omega, ((((((hE.weak fun b hb q => q).trans' hx16 (fun _ _ h => h) (fun b hb h => h.elim)).trans' hx20 (fun _ _ h => h) (fun b hb (q : b = b13) => absurd hb (by omega))).trans' hx29 (fun _ _ h => h) (fun b hb q => q)).trans' hx39 (fun _ _ h => h) (fun b hb q => q)).trans' hx43 (fun _ _ h => h) (fun b hb q => q))⟩, by show l.length - (i + 1) < l.length - i; omega⟩
            rw [applyE_take hi8]
            unfold chgE
            rw [if_pos hc21]
            exact hN
      · refine .region ?_
        refine xo.val 3 (by kernel_rfl) (ldB (t := 9) (o := 0) (by kernel_rfl) hb19 rfl) ?_
        refine xo.val 1 (by kernel_rfl) (ldB (t := 9) (o := 1) (by kernel_rfl) hb19 rfl) ?_
        have hf44 := ((hSu.no hx16).ext hx20 (fun b h1 h2 (e : b = b13) => by omega) (MapAt.ne (hSu.no hx16).mkt hb15) (fun b cs hb (e : b = b13) => Blk.ne hb hb15 rfl e))
        refine xo.ret 0 (by kernel_rfl) (cf36 _ _) (put_all _ a σi hf44 (hH H now) hAI.inv now _ hAI.tree (by omega) (by omega) x7.key x7.val hvx.1 (hvx.2.resolve_left (by simp [hc21]))) ?_
        rintro _ w50 ⟨r45, σ46, rfl, hS47, hx51, hs48⟩
        have z50 := hx51.size
        refine xo.done 5 [(0, Pt a.s 0), (8, I now), (12, I r45), (13, I 0), (23, .slice A l.length cap), (24, I (l.length : Int)), (25, I (i : Int))] (by kernel_rfl) rfl (by kernel_rfl) ?_
        refine .seq ?_
        refine .seq ?_
        refine .region ?_
        by_cases hc52 : (r45 : Int) = 0
        · refine xo.val 4 (by kernel_rfl) (c_neq_t hc52) ?_
          refine xo.done 1 [(0, Pt a.s 0), (8, I now), (12, I r45), (13, I 0), (23, .slice A l.length cap), (24, I (l.length : Int)), (25, I (i : Int)), (54, B false)] (by kernel_rfl) rfl (by kernel_rfl) ?_
          refine .condF rfl rfl ?_
          refine .skip ?_
          refine .seq ?_
          refine .seq ?_
          refine .region ?_
          by_cases hc53 : (now : Int) = 0
          · refine xo.val 1 (by kernel_rfl) (c_neq_t hc53) ?_
            refine xo.done 0 [(0, Pt a.s 0), (8, I now), (12, I r45), (13, I 0), (23, .slice A l.length cap), (24, I (l.length : Int)), (25, I (i : Int)), (59, B false)] (by kernel_rfl) rfl (by kernel_rfl) ?_
            refine .condF rfl rfl ?_
            refine .skip ?_
            refine .seq ?_
            refine .seq ?_
            refine .region ?_
            refine xo.done 2 [(0, Pt a.s 0), (12, I r45), (13, I 0), (23, .slice A l.length cap), (24, I (l.length : Int)), (25, I (i : Int)), (64, B false)] (by kernel_rfl) rfl (by kernel_rfl) ?_
            refine .condF rfl rfl ?_
            refine .skip ?_
            refine .region ?_
            refine xo.done 2 [(0, Pt a.s 0), (8, I r45), (23, .slice A l.length cap), (24, I (l.length : Int)), (25, I (i : Int))] (by kernel_rfl) rfl (by kernel_rfl) ?_
            refine .region ?_
            refine xo.val 0 (by kernel_rfl) (a_add (a := (i : Int)) (b := 1) (by omega) (by omega)) ?_
            refine xo.fin 1 (by kernel_rfl) rfl ?_
            have hN : AInv σ (σ46) H r45 (putE (applyE E (l.take i)) x7.key x7.val) (9 * i + 9) := by
              have hN := ainv_next hAI hs48 hm
              simp only [dropIf, holdIf, if_pos hc53, if_pos hc52] at hN
              exact hN
            refine ⟨(r45, i + 1, σ46), cov_of (by kernel_rfl), ⟨hS47, ?_, by omega, ((((hE.weak fun b hb q => q).trans' hx16 (fun _ _ h => h) (fun b hb h => h.elim)).trans' hx20 (fun _ _ h => h) (fun b hb (q : b = b13) => absurd hb (by omega))).trans' hx51 (fun _ _ h => h) (fun b hb q => q))⟩, by show l.length - (i + 1) < l.length - i; omega⟩
            rw [applyE_take hi8]
            unfold chgE
            rw [if_neg (by simp [hc21])]
            exact hN
          · refine xo.val 1 (by kernel_rfl) (c_neq_f hc53) ?_
            refine xo.done 0 [(0, Pt a.s 0), (8, I now), (12, I r45), (13, I 0), (23, .slice A l.length cap), (24, I (l.length : Int)), (25, I (i : Int)), (59, B true)] (by kernel_rfl) rfl (by kernel_rfl) ?_
            refine .condT rfl rfl ?_
            refine .region ?_
            obtain ⟨cdr, hcdr, hd1, hdG, hdH⟩ : ∃ c, mfind (σ46).cells now = some c ∧ 1 ≤ c.held ∧ Good (σ46).cells ∧ highC (σ46).cells now ≤ 65 := by
              obtain ⟨I2, _, t2, _⟩ := ainv_hold hAI hs48 hm
              have hd := drop_pre I2 (hH_pos hc53) t2 hc53
              simp only [holdIf, if_pos hc52] at hd
              exact hd
            refine xo.ret 2 (by kernel_rfl) (cf31 _ _) (st_Drop _ a σ46 hS47 now cdr hcdr hd1 hdG hdH) ?_
            rintro _ w55 ⟨rfl, hS54, hx56⟩
            have z55 := hx56.size
            refine xo.done 0 [(0, Pt a.s 0), (12, I r45), (13, I 0), (23, .slice A l.length cap), (24, I (l.length : Int)), (25, I (i : Int))] (by kernel_rfl) rfl (by kernel_rfl) ?_
            refine .seq ?_
            refine .seq ?_
            refine .region ?_
            refine xo.done 2 [(0, Pt a.s 0), (12, I r45), (13, I 0), (23, .slice A l.length cap), (24, I (l.length : Int)), (25, I (i : Int)), (64, B false)] (by kernel_rfl) rfl (by kernel_rfl) ?_
            refine .condF rfl rfl ?_
            refine .skip ?_
            refine .region ?_
            refine xo.done 2 [(0, Pt a.s 0), (8, I r45), (23, .slice A l.length cap), (24, I (l.length : Int)), (25, I (i : Int))] (by kernel_rfl) rfl (by kernel_rfl) ?_
            refine .region ?_
            refine xo.val 0 (by kernel_rfl) (a_add (a := (i : Int)) (b := 1) (by omega) (by omega)) ?_
            refine xo.fin 1 (by kernel_rfl) rfl ?_
            have hN : AInv σ ({ σ46 with cells := goneC 66 (holdC σ46.cells now (-1)) now }) H r45 (putE (applyE E (l.take i)) x7.key x7.val) (9 * i + 9) := by
              have hN := ainv_next hAI hs48 hm
              simp only [dropIf, holdIf, if_neg hc53, if_pos hc52] at hN
              exact hN
            refine ⟨(r45, i + 1, { σ46 with cells := goneC 66 (holdC σ46.cells now (-1)) now }), cov_of (by kernel_rfl), ⟨hS54, ?_, by omega, (((((hE.weak fun b hb q => q).trans' hx16 (fun _ _ h => h) (fun b hb h => h.elim)).trans' hx20 (fun _ _ h => h) (fun b hb (q : b = b13) => absurd hb (by omega))).trans' hx51 (fun _ _ h => h) (fun b hb q => q)).trans' hx56 (fun _ _ h => h) (fun b hb q => q))⟩, by show l.length - (i + 1) < l.length - i; omega⟩
            rw [applyE_take hi8]
            unfold chgE
            rw [if_neg (by simp [hc21])]
            exact hN
        · refine xo.val 4 (by kernel_rfl) (c_neq_f hc52) ?_
          refine xo.done 1 [(0, Pt a.s 0), (8, I now), (12, I r45), (13, I 0), (23, .slice A l.length cap), (24, I (l.length : Int)), (25, I (i : Int)), (54, B true)] (by kernel_rfl) rfl (by kernel_rfl) ?_
          refine .condT rfl rfl ?_
          refine .region ?_
          obtain ⟨cd58, hcd59⟩ := Option.isSome_iff_exists.1 (hs48.tree.some hc52).1
          refine xo.ret 2 (by kernel_rfl) (cf34 _ _) (st_Hold _ a σ46 hS47 r45 cd58 hcd59) ?_
          rintro _ w60 ⟨rfl, hS57, hx61⟩
          have z60 := hx61.size
          refine xo.done 1 [(0, Pt a.s 0), (8, I now), (12, I r45), (13, I 0), (23, .slice A l.length cap), (24, I (l.length : Int)), (25, I (i : Int))] (by kernel_rfl) rfl (by kernel_rfl) ?_
          refine .seq ?_
          refine .seq ?_
          refine .region ?_
          by_cases hc62 : (now : Int) = 0
          · refine xo.val 1 (by kernel_rfl) (c_neq_t hc62) ?_
            refine xo.done 0 [(0, Pt a.s 0), (8, I now), (12, I r45), (13, I 0), (23, .slice A l.length cap), (24, I (l.length : Int)), (25, I (i : Int)), (59, B false)] (by kernel_rfl) rfl (by kernel_rfl) ?_
            refine .condF rfl rfl ?_
            refine .skip ?_
            refine .seq ?_
            refine .seq ?_
            refine .region ?_
            refine xo.done 2 [(0, Pt a.s 0), (12, I r45), (13, I 0), (23, .slice A l.length cap), (24, I (l.length : Int)), (25, I (i : Int)), (64, B false)] (by kernel_rfl) rfl (by kernel_rfl) ?_
            refine .condF rfl rfl ?_
            refine .skip ?_
            refine .region ?_
            refine xo.done 2 [(0, Pt a.s 0), (8, I r45), (23, .slice A l.length cap), (24, I (l.length : Int)), (25, I (i : Int))] (by kernel_rfl) rfl (by kernel_rfl) ?_
            refine .region ?_
            refine xo.val 0 (by kernel_rfl) (a_add (a := (i : Int)) (b := 1) (by omega) (by omega)) ?_
            refine xo.fin 1 (by kernel_rfl) rfl ?_
            have hN : AInv σ ({ σ46 with cells := holdC σ46.cells r45 1 }) H r45 (putE (applyE E (l.take i)) x7.key x7.val) (9 * i + 9) := by
              have hN := ainv_next hAI hs48 hm
              simp only [dropIf, holdIf, if_pos hc62, if_neg hc52] at hN
              exact hN
            refine ⟨(r45, i + 1, { σ46 with cells := holdC σ46.cells r45 1 }), cov_of (by kernel_rfl), ⟨hS57, ?_, by omega, (((((hE.weak fun b hb q => q).trans' hx16 (fun _ _ h => h) (fun b hb h => h.elim)).trans' hx20 (fun _ _ h => h) (fun b hb (q : b = b13) => absurd hb (by omega))).trans' hx51 (fun _ _ h => h) (fun b hb q => q)).trans' hx61 (fun _ _ h => h) (fun b hb q => q))⟩, by show l.length - (i + 1) < l.length - i; omega⟩
            rw [applyE_take hi8]
            unfold chgE
            rw [if_neg (by simp [hc21])]
            exact hN
          · refine xo.val 1 (by kernel_rfl) (c_neq_f hc62) ?_
            refine xo.done 0 [(0, Pt a.s 0), (8, I now), (12, I r45), (13, I 0), (23, .slice A l.length cap), (24, I (l.length : Int)), (25, I (i : Int)), (59, B true)] (by kernel_rfl) rfl (by kernel_rfl) ?_
            refine .condT rfl rfl ?_
            refine .region ?_
            obtain ⟨cdr, hcdr, hd1, hdG, hdH⟩ : ∃ c, mfind ({ σ46 with cells := holdC σ46.cells r45 1 }).cells now = some c ∧ 1 ≤ c.held ∧ Good ({ σ46 with cells := holdC σ46.cells r45 1 }).cells ∧ highC ({ σ46 with cells := holdC σ46.cells r45 1 }).cells now ≤ 65 := by
              obtain ⟨I2, _, t2, _⟩ := ainv_hold hAI hs48 hm
              have hd := drop_pre I2 (hH_pos hc62) t2 hc62
              simp only [holdIf, if_neg hc52] at hd
              exact hd
            refine xo.ret 2 (by kernel_rfl) (cf31 _ _) (st_Drop _ a ({ σ46 with cells := holdC σ46.cells r45 1 }) hS57 now cdr hcdr hd1 hdG hdH) ?_
            rintro _ w64 ⟨rfl, hS63, hx65⟩
            have z64 := hx65.size
            refine xo.done 0 [(0, Pt a.s 0), (12, I r45), (13, I 0), (23, .slice A l.length cap), (24, I (l.length : Int)), (25, I (i : Int))] (by kernel_rfl) rfl (by kernel_rfl) ?_
            refine .seq ?_
            refine .seq ?_
            refine .region ?_
            refine xo.done 2 [(0, Pt a.s 0), (12, I r45), (13, I 0), (23, .slice A l.length cap), (24, I (l.length : Int)), (25, I (i : Int)), (64, B false)] (by kernel_rfl) rfl (by kernel_rfl) ?_
            refine .condF rfl rfl ?_
            refine .skip ?_
            refine .region ?_
            refine xo.done 2 [(0, Pt a.s 0), (8, I r45), (23, .slice A l.length cap), (24, I (l.length : Int)), (25, I (i : Int))] (by kernel_rfl) rfl (by kernel_rfl) ?_
            refine .region ?_
            refine xo.val 0 (by kernel_rfl) (a_add (a := (i : Int)) (b := 1) (by omega) (by omega)) ?_
            refine xo.fin 1 (by kernel_rfl) rfl ?_
            have hN : AInv σ ({ { σ46 with cells := holdC σ46.cells r45 1 } with cells := goneC 66 (holdC ({ σ46 with cells := holdC σ46.cells r45 1 }).cells now (-1)) now }) H r45 (putE (applyE E (l.take i)) x7.key x7.val) (9 * i + 9) := by
              have hN := ainv_next hAI hs48 hm
              simp only [dropIf, holdIf, if_neg hc62, if_neg hc52] at hN
              exact hN
            refine ⟨(r45, i + 1, { { σ46 with cells := holdC σ46.cells r45 1 } with cells := goneC 66 (holdC ({ σ46 with cells := holdC σ46.cells r45 1 }).cells now (-1)) now }), cov_of (by kernel_rfl), ⟨hS63, ?_, by omega, ((((((hE.weak fun b hb q => q).trans' hx16 (fun _ _ h => h) (fun b hb h => h.elim)).trans' hx20 (fun _ _ h => h) (fun b hb (q : b = b13) => absurd hb (by omega))).trans' hx51 (fun _ _ h => h) (fun b hb q => q)).trans' hx61 (fun _ _ h => h) (fun b hb q => q)).trans' hx65 (fun _ _ h => h) (fun b hb q => q))⟩, by show l.length - (i + 1) < l.length - i; omega⟩
            rw [applyE_take hi8]
            unfold chgE
            rw [if_neg (by simp [hc21])]
            exact hN
    · refine xo.val 0 (by kernel_rfl) (c_lss_f hc3) ?_
      refine xo.done 0 [(0, Pt a.s 0), (8, I now), (23, .slice A l.length cap), (24, I (l.length : Int)), (25, I (i : Int)), (26, B false)] (by kernel_rfl) rfl (by kernel_rfl) ?_
      refine .seq ?_
      refine .condF rfl rfl ?_
      refine .exit ?_
      refine xsetTo ?_
      refine .seq ?_
      refine .region ?_
      refine xo.done 3 [(6, I now), (7, I 0)] (by kernel_rfl) rfl (by kernel_rfl) ?_
      refine .ret ?_
      refine ⟨[I now, I 0], by kernel_rfl, _, rfl, ?_⟩
      have hi9 : i = l.length := by omega
      rw [hi9, List.take_length] at hAI
      exact ⟨now, σi, rfl, hSu, (hE.weak fun b hb q => q), hAI⟩
  · refine xo.val 1 (by kernel_rfl) (c_neq_f hc1) ?_
    refine xo.done 0 [(0, Pt a.s 0), (2, .slice A l.length cap), (8, I root), (16, B true)] (by kernel_rfl) rfl (by kernel_rfl) ?_
    refine .condT rfl rfl ?_
    refine .seq ?_
    refine .region ?_
    obtain ⟨cd67, hcd68⟩ := Option.isSome_iff_exists.1 (hT.some hc1).1
    refine xo.ret 2 (by kernel_rfl) (cf34 _ _) (st_Hold _ a σ hS root cd67 hcd68) ?_
    rintro _ w69 ⟨rfl, hS66, hx70⟩
    have z69 := hx70.size
    refine xo.done 1 [(0, Pt a.s 0), (2, .slice A l.length cap), (8, I root), (9, I 0)] (by kernel_rfl) rfl (by kernel_rfl) ?_
    refine .seq ?_
    refine .region ?_
    refine xo.done 2 [(0, Pt a.s 0), (2, .slice A l.length cap), (8, I root), (9, I 0), (21, B false)] (by kernel_rfl) rfl (by kernel_rfl) ?_
    refine .condF rfl rfl ?_
    refine .skip ?_
    refine .seq ?_
    refine .seq ?_
    refine .region ?_
    refine xo.done 3 [(0, Pt a.s 0), (8, I root), (23, .slice A l.length cap), (24, I (l.length : Int)), (25, I 0)] (by kernel_rfl) rfl (by kernel_rfl) ?_
    refine .block ?_
    have hS0 : StAt w69 a (holdIf σ root) := by
      unfold holdIf
      rw [if_neg hc1]
      exact hS66
    refine XC.loop (ι := Int × Nat × St) (fun ⟨now, i, σi⟩ => [(0, Pt a.s 0), (8, I now), (23, .slice A l.length cap), (24, I (l.length : Int)), (25, I (i : Int))]) (fun ⟨now, i, σi⟩ u => StAt u a σi ∧ AInv σ σi H now (applyE E (l.take i)) (9 * i) ∧ i ≤ l.length ∧ Ext a.fpp w u) (fun ⟨now, i, σi⟩ => l.length - i) (root, 0, holdIf σ root) (cov_of (by kernel_rfl)) ⟨hS0, ainv_start Iv hT hm, by omega, (hx70.weak fun b hb q => q)⟩ ?_
    rintro ⟨now, i, σi⟩ w71 ⟨hSu, hAI, hi_, hE⟩
    have z71 := hE.size
    have hle := applyE_length (l.take i) E
    rw [List.length_take] at hle
    have hlc := hAI.len
    refine .seq ?_
    refine .region ?_
    by_cases hc72 : ((i : Int) : Int) < (l.length : Int)
    · refine xo.val 0 (by kernel_rfl) (c_lss_t hc72) ?_
      refine xo.done 0 [(0, Pt a.s 0), (8, I now), (23, .slice A l.length cap), (24, I (l.length : Int)), (25, I (i : Int)), (26, B true)] (by kernel_rfl) rfl (by kernel_rfl) ?_
      refine .seq ?_
      refine .condT rfl rfl ?_
      refine .skip ?_
      refine .seq ?_
      refine .block ?_
      refine .seq ?_
      refine .region ?_
      have hs73 := (hR.extm hE hS.maps)
      obtain ⟨b74, o75, x76, hi77, hA78, hl79, hh80, hr81⟩ := hs73.at_ i (by omega)
      refine xo.val 0 (by kernel_rfl) (idxN (kk := .i64) (t := 22) (n := l.length) (cap := cap) (sz := 3) (i := i) (by kernel_rfl) hA78 (by omega)) ?_
      have hvx := hV x76 (List.mem_of_getElem? hi77)
      refine xo.val 0 (by kernel_rfl) (ldA (t := 34) (by kernel_rfl) hr81) ?_
      refine xo.alloc 0 34 [S (⟨#[]⟩), S (⟨#[]⟩), B false] (by kernel_rfl) (by kernel_rfl) ?_
      intro b82 w83 hb84 hx85 hg86
      have z83 := hx85.size
      have l84 := hb84.lt
      refine xo.store 0 34 (o := 0) (.agg #[S x76.key, S x76.val, B x76.gone]) [S x76.key, S x76.val, B x76.gone] (by kernel_rfl) hb84 (by kernel_rfl) (by kernel_rfl) (by kernel_rfl) (by kernel_rfl) ?_
      intro w87 hb88 hx89
      have z87 := hx89.size
      refine xo.done 0 [(0, Pt a.s 0), (8, I now), (11, Pt b82 0), (23, .slice A l.length cap), (24, I (l.length : Int)), (25, I (i : Int))] (by kernel_rfl) rfl (by kernel_rfl) ?_
      refine .seq ?_
      refine .region ?_
      refine xo.done 2 [(0, Pt a.s 0), (8, I now), (11, Pt b82 0), (23, .slice A l.length cap), (24, I (l.length : Int)), (25, I (i : Int))] (by kernel_rfl) rfl (by kernel_rfl) ?_
      refine .seq ?_
      refine .seq ?_
      refine .region ?_
      refine xo.val 1 (by kernel_rfl) (ldB (t := 4) (o := 2) (by kernel_rfl) hb88 rfl) ?_
      refine xo.done 0 [(0, Pt a.s 0), (8, I now), (11, Pt b82 0), (23, .slice A l.length cap), (24, I (l.length : Int)), (25, I (i : Int)), (30, B x76.gone)] (by kernel_rfl) rfl (by kernel_rfl) ?_
      refine .condB x76.gone rfl rfl (fun hc90 => ?_) (fun hc90 => ?_)
      · refine .region ?_
        refine xo.val 3 (by kernel_rfl) (ldB (t := 9) (o := 0) (by kernel_rfl) hb88 rfl) ?_
        have hf91 := ((hSu.no hx85).ext hx89 (fun b h1 h2 (e : b = b82) => by omega) (MapAt.ne (hSu.no hx85).mkt hb84) (fun b cs hb (e : b = b82) => Blk.ne hb hb84 rfl e))
        refine xo.ret 0 (by kernel_rfl) (cf35 _ _) (del_all _ a σi hf91 (hH H now) hAI.inv now _ hAI.tree (by omega) (by omega) x76.key hvx.1) ?_
        rintro _ w97 ⟨r92, σ93, rfl, hS94, hx98, hs95⟩
        have z97 := hx98.size
        refine xo.done 5 [(0, Pt a.s 0), (8, I now), (12, I r92), (13, I 0), (23, .slice A l.length cap), (24, I (l.length : Int)), (25, I (i : Int))] (by kernel_rfl) rfl (by kernel_rfl) ?_
        refine .seq ?_
        refine .seq ?_
        refine .region ?_
        by_cases hc99 : (r92 : Int) = 0
        · refine xo.val 4 (by kernel_rfl) (c_neq_t hc99) ?_
          refine xo.done 1 [(0, Pt a.s 0), (8, I now), (12, I r92), (13, I 0), (23, .slice A l.length cap), (24, I (l.length : Int)), (25, I (i : Int)), (54, B false)] (by kernel_rfl) rfl (by kernel_rfl) ?_
          refine .condF rfl rfl ?_
          refine .skip ?_
          refine .seq ?_
          refine .seq ?_
          refine .region ?_
          by_cases hc100 : (now : Int) = 0
          · refine xo.val 1 (by kernel_rfl) (c_neq_t hc100) ?_
            refine xo.done 0 [(0, Pt a.s 0), (8, I now), (12, I r92), (13, I 0), (23, .slice A l.length cap), (24, I (l.length : Int)), (25, I (i : Int)), (59, B false)] (by kernel_rfl) rfl (by kernel_rfl) ?_
            refine .condF rfl rfl ?_
            refine .skip ?_
            refine .seq ?_
            refine .seq ?_
            refine .region ?_
            refine xo.done 2 [(0, Pt a.s 0), (12, I r92), (13, I 0), (23, .slice A l.length cap), (24, I (l.length : Int)), (25, I (i : Int)), (64, B false)] (by kernel_rfl) rfl (by kernel_rfl) ?_
            refine .condF rfl rfl ?_
            refine .skip ?_
            refine .region ?_
            refine xo.done 2 [(0, Pt a.s 0), (8, I r92), (23, .slice A l.length cap), (24, I (l.length : Int)), (25, I (i : Int))] (by kernel_rfl) rfl (by kernel_rfl) ?_
            refine .region ?_
            refine xo.val 0 (by kernel_rfl) (a_add (a := (i : Int)) (b := 1) (by omega) (by omega)) ?_
            refine xo.fin 1 (by kernel_rfl) rfl ?_
            have hN : AInv σ (σ93) H r92 (delE (applyE E (l.take i)) x76.key) (9 * i + 9) := by
              have hN := ainv_next hAI hs95 hm
              simp only [dropIf, holdIf, if_pos hc100, if_pos hc99] at hN
              exact hN
            refine ⟨(r92, i + 1, σ93), cov_of (by kernel_rfl), ⟨hS94, ?_, by omega, ((((hE.weak fun b hb q => q).trans' hx85 (fun _ _ h => h) (fun b hb h => h.elim)).trans' hx89 (fun _ _ h => h) (fun b hb (q : b = b82) => absurd hb (by omega))).trans' hx98 (fun _ _ h => h) (fun b hb q => q))⟩, by show l.length - (i + 1) < l.length - i; omega⟩
            rw [applyE_take hi77]
            unfold chgE
            rw [if_pos hc90]
            exact hN
          · refine xo.val 1 (by kernel_rfl) (c_neq_f hc100) ?_
            refine xo.done 0 [(0, Pt a.s 0), (8, I now), (12, I r92), (13, I 0), (23, .slice A l.length cap), (24, I (l.length : Int)), (25, I (i : Int)), (59, B true)] (by kernel_rfl) rfl (by kernel_rfl) ?_
            refine .condT rfl rfl ?_
            refine .region ?_
            obtain ⟨cdr, hcdr, hd1, hdG, hdH⟩ : ∃ c, mfind (σ93).cells now = some c ∧ 1 ≤ c.held ∧ Good (σ93).cells ∧ highC (σ93).cells now ≤ 65 := by
              obtain ⟨I2, _, t2, _⟩ := ainv_hold hAI hs95 hm
              have hd := drop_pre I2 (hH_pos hc100) t2 hc100
              simp only [holdIf, if_pos hc99] at hd
              exact hd
            refine xo.ret 2 (by kernel_rfl) (cf31 _ _) (st_Drop _ a σ93 hS94 now cdr hcdr hd1 hdG hdH) ?_
            rintro _ w102 ⟨rfl, hS101, hx103⟩
            have z102 := hx103.size
            refine xo.done 0 [(0, Pt a.s 0), (12, I r92), (13, I 0), (23, .slice A l.length cap), (24, I (l.length : Int)), (25, I (i : Int))] (by kernel_rfl) rfl (by kernel_rfl) ?_
            refine .seq ?_
            refine .seq ?_
            refine .region ?_
            refine xo.done 2 [(0, Pt a.s 0), (12, I r92), (13, I 0), (23, .slice A l.length cap), (24, I (l.length : Int)), (25, I (i : Int)), (64, B false)] (by kernel_rfl) rfl (by kernel_rfl) ?_
            refine .condF rfl rfl ?_
            refine .skip ?_
            refine .region ?_
            refine xo.done 2 [(0, Pt a.s 0), (8, I r92), (23, .slice A l.length cap), (24, I (l.length : Int)), (25, I (i : Int))] (by kernel_rfl) rfl (by kernel_rfl) ?_
            refine .region ?_
            refine xo.val 0 (by kernel_rfl) (a_add (a := (i : Int)) (b := 1) (by omega) (by omega)) ?_
            refine xo.fin 1 (by kernel_rfl) rfl ?_
            have hN : AInv σ ({ σ93 with cells := goneC 66 (holdC σ93.cells now (-1)) now }) H r92 (delE (applyE E (l.take i)) x76.key) (9 * i + 9) := by
              have hN := ainv_next hAI hs95 hm
              simp only [dropIf, holdIf, if_neg hc100, if_pos hc99] at hN
              exact hN
            refine ⟨(r92, i + 1, { σ93 with cells := goneC 66 (holdC σ93.cells now (-1)) now }), cov_of (by kernel_rfl), ⟨hS101, ?_, by omega, (((((hE.weak fun b hb q => q).trans' hx85 (fun _ _ h => h) (fun b hb h => h.elim)).trans' hx89 (fun _ _ h => h) (fun b hb (q : b = b82) => absurd hb (by omega))).trans' hx98 (fun _ _ h => h) (fun b hb q => q)).trans' hx103 (fun _ _ h => h) (fun b hb q => q))⟩, by show l.length - (i + 1) < l.length - i; omega⟩
            rw [applyE_take hi77]
            unfold chgE
            rw [if_pos hc90]
            exact hN
        · refine xo.val 4 (by kernel_rfl) (c_neq_f hc99) ?_
          refine xo.done 1 [(0, Pt a.s 0), (8, I now), (12, I r92), (13, I 0), (23, .slice A l.length cap), (24, I (l.length : Int)), (25, I (i : Int)), (54, B true)] (by kernel_rfl) rfl (by kernel_rfl) ?_
          refine .condT rfl rfl ?_
          refine .region ?_
          obtain ⟨cd105, hcd106⟩ := Option.isSome_iff_exists.1 (hs95.tree.some hc99).1
          refine xo.ret 2 (by kernel_rfl) (cf34 _ _) (st_Hold _ a σ93 hS94 r92 cd105 hcd106) ?_
          rintro _ w107 ⟨rfl, hS104, hx108⟩
          have z107 := hx108.size
          refine xo.done 1 [(0, Pt a.s 0), (8, I now), (12, I r92), (13, I 0), (23, .slice A l.length cap), (24, I (l.length : Int)), (25, I (i : Int))] (by kernel_rfl) rfl (by kernel_rfl) ?_
          refine .seq ?_
          refine .seq ?_
          refine .region ?_
          by_cases hc109 : (now : Int) = 0
          · refine xo.val 1 (by kernel_rfl) (c_neq_t hc109) ?_
            refine xo.done 0 [(0, Pt a.s 0), (8, I now), (12, I r92), (13, I 0), (23, .slice A l.length cap), (24, I (l.length : Int)), (25, I (i : Int)), (59, B false)] (by kernel_rfl) rfl (by kernel_rfl) ?_
            refine .condF rfl rfl ?_
            refine .skip ?_
            refine .seq ?_
            refine .seq ?_
            refine .region ?_
            refine xo.done 2 [(0, Pt a.s 0), (12, I r92), (13, I 0), (23, .slice A l.length cap), (24, I (l.length : Int)), (25, I (i : Int)), (64, B false)] (by kernel_rfl) rfl (by kernel_rfl) ?_
            refine .condF rfl rfl ?_
            refine .skip ?_
            refine .region ?_
            refine xo.done 2 [(0, Pt a.s 0), (8, I r92), (23, .slice A l.length cap), (24, I (l.length : Int)), (25, I (i : Int))] (by kernel_rfl) rfl (by kernel_rfl) ?_
            refine .region ?_
            refine xo.val 0 (by kernel_rfl) (a_add (a := (i : Int)) (b := 1) (by omega) (by omega)) ?_
            refine xo.fin 1 (by kernel_rfl) rfl ?_
            have hN : AInv σ ({ σ93 with cells := holdC σ93.cells r92 1 }) H r92 (delE (applyE E (l.take i)) x76.key) (9 * i + 9) := by
              have hN := ainv_next hAI hs95 hm
              simp only [dropIf, holdIf, if_pos hc109, if_neg hc99] at hN
              exact hN
            refine ⟨(r92, i + 1, { σ93 with cells := holdC σ93.cells r92 1 }), cov_of (by kernel_rfl), ⟨hS104, ?_, by omega, (((((hE.weak fun b hb q => q).trans' hx85 (fun _ _ h => h) (fun b hb h => h.elim)).trans' hx89 (fun _ _ h => h) (fun b hb (q : b = b82) => absurd hb (by omega))).trans' hx98 (fun _ _ h => h) (fun b hb q => q)).trans' hx108 (fun _ _ h => h) (fun b hb q => q))⟩, by show l.length - (i + 1) < l.length - i; omega⟩
            rw [applyE_take hi77]
            unfold chgE
            rw [if_pos hc90]
            exact hN
          · refine xo.val 1 (by kernel_rfl) (c_neq_f hc109) ?_
            refine xo.done 0 [(0, Pt a.s 0), (8, I now), (12, I r92), (13, I 0), (23, .slice A l.length cap), (24, I (l.length : Int)), (25, I (i : Int)), (59, B true)] (by kernel_rfl) rfl (by kernel_rfl) ?_
            refine .condT rfl rfl ?_
            refine .region ?_
            obtain ⟨cdr, hcdr, hd1, hdG, hdH⟩ : ∃ c, mfind ({ σ93 with cells := holdC σ93.cells r92 1 }).cells now = some c ∧ 1 ≤ c.held ∧ Good ({ σ93 with cells := holdC σ93.cells r92 1 }).cells ∧ highC ({ σ93 with cells := holdC σ93.cells r92 1 }).cells now ≤ 65 := by
              obtain ⟨I2, _, t2, _⟩ := ainv_hold hAI hs95 hm
              have hd := drop_pre I2 (hH_pos hc109) t2 hc109
              simp only [holdIf, if_neg hc99] at hd
              exact hd
            refine xo.ret 2 (by kernel_rfl) (cf31 _ _) (st_Drop _ a ({ σ93 with cells := holdC σ93.cells r92 1 }) hS104 now cdr hcdr hd1 hdG hdH) ?_
            rintro _ w111 ⟨rfl, hS110, hx112⟩
            have z111 := hx112.size
            refine xo.done 0 [(0, Pt a.s 0), (12, I r92), (13, I 0), (23, .slice A l.length cap), (24, I (l.length : Int)), (25, I (i : Int))] (by kernel_rfl) rfl (by kernel_rfl) ?_
            refine .seq ?_
            refine .seq ?_
            refine .region ?_
            refine xo.done 2 [(0, Pt a.s 0), (12, I r92), (13, I 0), (23, .slice A l.length cap), (24, I (l.length : Int)), (25, I (i : Int)), (64, B false)] (by kernel_rfl) rfl (by kernel_rfl) ?_
            refine .condF rfl rfl ?_
            refine .skip ?_
            refine .region ?_
            refine xo.done 2 [(0, Pt a.s 0), (8, I r92), (23, .slice A l.length cap), (24, I (l.length : Int)), (25, I (i : Int))] (by kernel_rfl) rfl (by kernel_rfl) ?_
            refine .region ?_
            refine xo.val 0 (by kernel_rfl) (a_add (a := (i : Int)) (b := 1) (by omega) (by omega)) ?_
            refine xo.fin 1 (by kernel_rfl) rfl ?_
            have hN : AInv σ ({ { σ93 with cells := holdC σ93.cells r92 1 } with cells := goneC 66 (holdC ({ σ93 with cells := holdC σ93.cells r92 1 }).cells now (-1)) now }) H r92 (delE (applyE E (l.take i)) x76.key) (9 * i + 9) := by
              have hN := ainv_next hAI hs95 hm
              simp only [dropIf, holdIf, if_neg hc109, if_neg hc99] at hN
              exact hN
            refine ⟨(r92, i + 1, { { σ93 with cells := holdC σ93.cells r92 1 } with cells := goneC 66 (holdC ({ σ93 with cells := holdC σ93.cells r92 1 }).cells now (-1)) now }), cov_of (by kernel_rfl), ⟨hS110, ?_, by omega, ((((((hE.weak fun b hb q => q).trans' hx85 (fun _ _ h => h) (fun b hb h => h.elim)).trans' hx89 (fun _ _ h => h) (fun b hb (q : b = b82) => absurd hb (by omega))).trans' hx98 (fun _ _ h => h) (fun b hb q => q)).trans' hx108 (fun _ _ h => h) (fun b hb q => q)).trans' hx112 (fun _ _ h => h) (fun b hb q => q))⟩, by show l.length - (i + 1) < l.length - i; omega⟩
            rw [applyE_take hi77]
            unfold chgE
            rw [if_pos hc90]
            exact hN
      · refine .region ?_
        refine xo.val 3 (by kernel_rfl) (ldB (t := 9) (o := 0) (by kernel_rfl) hb88 rfl) ?_
        refine xo.val 1 (by kernel_rfl) (ldB (t := 9) (o := 1) (by kernel_rfl) hb88 rfl) ?_
        have hf113 := ((hSu.no hx85).ext hx89 (fun b h1 h2 (e : b = b82) => by omega) (MapAt.ne (hSu.no hx85).mkt hb84) (fun b cs hb (e : b = b82) => Blk.ne hb hb84 rfl e))
        refine xo.ret 0 (by kernel_rfl) (cf36 _ _) (put_all _ a σi hf113 (hH H now) hAI.inv now _ hAI.tree (by omega) (by omega) x76.key x76.val hvx.1 (hvx.2.resolve_left (by simp [hc90]))) ?_
        rintro _ w119 ⟨r114, σ115, rfl, hS116, hx120, hs117⟩
        have z119 := hx120.size
        refine xo.done 5 [(0, Pt a.s 0), (8, I now), (12, I r114), (13, I 0), (23, .slice A l.length cap), (24, I (l.length : Int)), (25, I (i : Int))] (by kernel_rfl) rfl (by kernel_rfl) ?_
        refine .seq ?_
        refine .seq ?_
        refine .region ?_
        by_cases hc121 : (r114 : Int) = 0
        · refine xo.val 4 (by kernel_rfl) (c_neq_t hc121) ?_
          refine xo.done 1 [(0, Pt a.s 0), (8, I now), (12, I r114), (13, I 0), (23, .slice A l.length cap), (24, I (l.length : Int)), (25, I (i : Int)), (54, B false)] (by kernel_rfl) rfl (by kernel_rfl) ?_
          refine .condF rfl rfl ?_
          refine .skip ?_
          refine .seq ?_
          refine .seq ?_
          refine .region ?_
          by_cases hc122 : (now : Int) = 0
          · refine xo.val 1 (by kernel_rfl) (c_neq_t hc122) ?_
            refine xo.done 0 [(0, Pt a.s 0), (8, I now), (12, I r114), (13, I 0), (23, .slice A l.length cap), (24, I (l.length : Int)), (25, I (i : Int)), (59, B false)] (by kernel_rfl) rfl (by kernel_rfl) ?_
            refine .condF rfl rfl ?_
            refine .skip ?_
            refine .seq ?_
            refine .seq ?_
            refine .region ?_
            refine xo.done 2 [(0, Pt a.s 0), (12, I r114), (13, I 0), (23, .slice A l.length cap), (24, I (l.length : Int)), (25, I (i : Int)), (64, B false)] (by kernel_rfl) rfl (by kernel_rfl) ?_
            refine .condF rfl rfl ?_
            refine .skip ?_
            refine .region ?_
            refine xo.done 2 [(0, Pt a.s 0), (8, I r114), (23, .slice A l.length cap), (24, I (l.length : Int)), (25, I (i : Int))] (by kernel_rfl) rfl (by kernel_rfl) ?_
            refine .region ?_
            refine xo.val 0 (by kernel_rfl) (a_add (a := (i : Int)) (b := 1) (by omega) (by omega)) ?_
            refine xo.fin 1 (by kernel_rfl) rfl ?_
            have hN : AInv σ (σ115) H r114 (putE (applyE E (l.take i)) x76.key x76.val) (9 * i + 9) := by
              have hN := ainv_next hAI hs117 hm
              simp only [dropIf, holdIf, if_pos hc122, if_pos hc121] at hN
              exact hN
            refine ⟨(r114, i + 1, σ115), cov_of (by kernel_rfl), ⟨hS116, ?_, by omega, ((((hE.weak fun b hb q => q).trans' hx85 (fun _ _ h => h) (fun b hb h => h.elim)).trans' hx89 (fun _ _ h => h) (fun b hb (q : b = b82) => absurd hb (by omega))).trans' hx120 (fun _ _ h => h) (fun b hb q => q))⟩, by show l.length - (i + 1) < l.length - i; omega⟩
            rw [applyE_take hi77]
            unfold chgE
            rw [if_neg (by simp [hc90])]
            exact hN
          · refine xo.val 1 (by kernel_rfl) (c_neq_f hc122) ?_
            refine xo.done 0 [(0, Pt a.s 0), (8, I now), (12, I r114), (13, I 0), (23, .slice A l.length cap), (24, I (l.length : Int)), (25, I (i : Int)), (59, B true)] (by kernel_rfl) rfl (by kernel_rfl) ?_
            refine .condT rfl rfl ?_
            refine .region ?_
            obtain ⟨cdr, hcdr, hd1, hdG, hdH⟩ : ∃ c, mfind (σ115).cells now = some c ∧ 1 ≤ c.held ∧ Good (σ115).cells ∧ highC (σ115).cells now ≤ 65 := by
              obtain ⟨I2, _, t2, _⟩ := ainv_hold hAI hs117 hm
              have hd := drop_pre I2 (hH_pos hc122) t2 hc122
              simp only [holdIf, if_pos hc121] at hd
              exact hd
            refine xo.ret 2 (by kernel_rfl) (cf31 _ _) (st_Drop _ a σ115 hS116 now cdr hcdr hd1 hdG hdH) ?_
            rintro _ w124 ⟨rfl, hS123, hx125⟩
            have z124 := hx125.size
            refine xo.done 0 [(0, Pt a.s 0), (12, I r114), (13, I 0), (23, .slice A l.length cap), (24, I (l.length : Int)), (25, I (i : Int))] (by kernel_rfl) rfl (by kernel_rfl) ?_
            refine .seq ?_
            refine .seq ?_
            refine .region ?_
            refine xo.done 2 [(0, Pt a.s 0), (12, I r114), (13, I 0), (23, .slice A l.length cap), (24, I (l.length : Int)), (25, I (i : Int)), (64, B false)] (by kernel_rfl) rfl (by kernel_rfl) ?_
            refine .condF rfl rfl ?_
            refine .skip ?_
            refine .region ?_
            refine xo.done 2 [(0, Pt a.s 0), (8, I r114), (23, .slice A l.length cap), (24, I (l.length : Int)), (25, I (i : Int))] (by kernel_rfl) rfl (by kernel_rfl) ?_
            refine .region ?_
            refine xo.val 0 (by kernel_rfl) (a_add (a := (i : Int)) (b := 1) (by omega) (by omega)) ?_
            refine xo.fin 1 (by kernel_rfl) rfl ?_
            have hN : AInv σ ({ σ115 with cells := goneC 66 (holdC σ115.cells now (-1)) now }) H r114 (putE (applyE E (l.take i)) x76.key x76.val) (9 * i + 9) := by
              have hN := ainv_next hAI hs117 hm
              simp only [dropIf, holdIf, if_neg hc122, if_pos hc121] at hN
              exact hN
            refine ⟨(r114, i + 1, { σ115 with cells := goneC 66 (holdC σ115.cells now (-1)) now }), cov_of (by kernel_rfl), ⟨hS123, ?_, by omega, (((((hE.weak fun b hb q => q).trans' hx85 (fun _ _ h => h) (fun b hb h => h.elim)).trans' hx89 (fun _ _ h => h) (fun b hb (q : b = b82) => absurd hb (by omega))).trans' hx120 (fun _ _ h => h) (fun b hb q => q)).trans' hx125 (fun _ _ h => h) (fun b hb q => q))⟩, by show l.length - (i + 1) < l.length - i; omega⟩
            rw [applyE_take hi77]
            unfold chgE
            rw [if_neg (by simp [hc90])]
            exact hN
        · refine xo.val 4 (by kernel_rfl) (c_neq_f hc121) ?_
          refine xo.done 1 [(0, Pt a.s 0), (8, I now), (12, I r114), (13, I 0), (23, .slice A l.length cap), (24, I (l.length : Int)), (25, I (i : Int)), (54, B true)] (by kernel_rfl) rfl (by kernel_rfl) ?_
          refine .condT rfl rfl ?_
          refine .region ?_
          obtain ⟨cd127, hcd128⟩ := Option.isSome_iff_exists.1 (hs117.tree.some hc121).1
          refine xo.ret 2 (by kernel_rfl) (cf34 _ _) (st_Hold _ a σ115 hS116 r114 cd127 hcd128) ?_
          rintro _ w129 ⟨rfl, hS126, hx130⟩
          have z129 := hx130.size
          refine xo.done 1 [(0, Pt a.s 0), (8, I now), (12, I r114), (13, I 0), (23, .slice A l.length cap), (24, I (l.length : Int)), (25, I (i : Int))] (by kernel_rfl) rfl (by kernel_rfl) ?_
          refine .seq ?_
          refine .seq ?_
          refine .region ?_
          by_cases hc131 : (now : Int) = 0
          · refine xo.val 1 (by kernel_rfl) (c_neq_t hc131) ?_
            refine xo.done 0 [(0, Pt a.s 0), (8, I now), (12, I r114), (13, I 0), (23, .slice A l.length cap), (24, I (l.length : Int)), (25, I (i : Int)), (59, B false)] (by kernel_rfl) rfl (by kernel_rfl) ?_
            refine .condF rfl rfl ?_
            refine .skip ?_
            refine .seq ?_
            refine .seq ?_
            refine .region ?_
            refine xo.done 2 [(0, Pt a.s 0), (12, I r114), (13, I 0), (23, .slice A l.length cap), (24, I (l.length : Int)), (25, I (i : Int)), (64, B false)] (by kernel_rfl) rfl (by kernel_rfl) ?_
            refine .condF rfl rfl ?_
            refine .skip ?_
            refine .region ?_
            refine xo.done 2 [(0, Pt a.s 0), (8, I r114), (23, .slice A l.length cap), (24, I (l.length : Int)), (25, I (i : Int))] (by kernel_rfl) rfl (by kernel_rfl) ?_
            refine .region ?_
            refine xo.val 0 (by kernel_rfl) (a_add (a := (i : Int)) (b := 1) (by omega) (by omega)) ?_
            refine xo.fin 1 (by kernel_rfl) rfl ?_
            have hN : AInv σ ({ σ115 with cells := holdC σ115.cells r114 1 }) H r114 (putE (applyE E (l.take i)) x76.key x76.val) (9 * i + 9) := by
              have hN := ainv_next hAI hs117 hm
              simp only [dropIf, holdIf, if_pos hc131, if_neg hc121] at hN
              exact hN
            refine ⟨(r114, i + 1, { σ115 with cells := holdC σ115.cells r114 1 }), cov_of (by kernel_rfl), ⟨hS126, ?_, by omega, (((((hE.weak fun b hb q => q).trans' hx85 (fun _ _ h => h) (fun b hb h => h.elim)).trans' hx89 (fun _ _ h => h) (fun b hb (q : b = b82) => absurd hb (by omega))).trans' hx120 (fun _ _ h => h) (fun b hb q => q)).trans' hx130 (fun _ _ h => h) (fun b hb q => q))⟩, by show l.length - (i + 1) < l.length - i; omega⟩
            rw [applyE_take hi77]
            unfold chgE
            rw [if_neg (by simp [hc90])]
            exact hN
          · refine xo.val 1 (by kernel_rfl) (c_neq_f hc131) ?_
            refine xo.done 0 [(0, Pt a.s 0), (8, I now), (12, I r114), (13, I 0), (23, .slice A l.length cap), (24, I (l.length : Int)), (25, I (i : Int)), (59, B true)] (by kernel_rfl) rfl (by kernel_rfl) ?_
            refine .condT rfl rfl ?_
            refine .region ?_
            obtain ⟨cdr, hcdr, hd1, hdG, hdH⟩ : ∃ c, mfind ({ σ115 with cells := holdC σ115.cells r114 1 }).cells now = some c ∧ 1 ≤ c.held ∧ Good ({ σ115 with cells := holdC σ115.cells r114 1 }).cells ∧ highC ({ σ115 with cells := holdC σ115.cells r114 1 }).cells now ≤ 65 := by
              obtain ⟨I2, _, t2, _⟩ := ainv_hold hAI hs117 hm
              have hd := drop_pre I2 (hH_pos hc131) t2 hc131
              simp only [holdIf, if_neg hc121] at hd
              exact hd
            refine xo.ret 2 (by kernel_rfl) (cf31 _ _) (st_Drop _ a ({ σ115 with cells := holdC σ115.cells r114 1 }) hS126 now cdr hcdr hd1 hdG hdH) ?_
            rintro _ w133 ⟨rfl, hS132, hx134⟩
            have z133 := hx134.size
            refine xo.done 0 [(0, Pt a.s 0), (12, I r114), (13, I 0), (23, .slice A l.length cap), (24, I (l.length : Int)), (25, I (i : Int))] (by kernel_rfl) rfl (by kernel_rfl) ?_
            refine .seq ?_
            refine .seq ?_
            refine .region ?_
            refine xo.done 2 [(0, Pt a.s 0), (12, I r114), (13, I 0), (23, .slice A l.length cap), (24, I (l.length : Int)), (25, I (i : Int)), (64, B false)] (by kernel_rfl) rfl (by kernel_rfl) ?_
            refine .condF rfl rfl ?_
            refine .skip ?_
            refine .region ?_
            refine xo.done 2 [(0, Pt a.s 0), (8, I r114), (23, .slice A l.length cap), (24, I (l.length : Int)), (25, I (i : Int))] (by kernel_rfl) rfl (by kernel_rfl) ?_
            refine .region ?_
            refine xo.val 0 (by kernel_rfl) (a_add (a := (i : Int)) (b := 1) (by omega) (by omega)) ?_
            refine xo.fin 1 (by kernel_rfl) rfl ?_
            have hN : AInv σ ({ { σ115 with cells := holdC σ115.cells r114 1 } with cells := goneC 66 (holdC ({ σ115 with cells := holdC σ115.cells r114 1 }).cells now (-1)) now }) H r114 (putE (applyE E (l.take i)) x76.key x76.val) (9 * i + 9) := by
              have hN := ainv_next hAI hs117 hm
              simp only [dropIf, holdIf, if_neg hc131, if_neg hc121] at hN
              exact hN
            refine ⟨(r114, i + 1, { { σ115 with cells := holdC σ115.cells r114 1 } with cells := goneC 66 (holdC ({ σ115 with cells := holdC σ115.cells r114 1 }).cells now (-1)) now }), cov_of (by kernel_rfl), ⟨hS132, ?_, by omega, ((((((hE.weak fun b hb q => q).trans' hx85 (fun _ _ h => h) (fun b hb h => h.elim)).trans' hx89 (fun _ _ h => h) (fun b hb (q : b = b82) => absurd hb (by omega))).trans' hx120 (fun _ _ h => h) (fun b hb q => q)).trans' hx130 (fun _ _ h => h) (fun b hb q => q)).trans' hx134 (fun _ _ h => h) (fun b hb q => q))⟩, by show l.length - (i + 1) < l.length - i; omega⟩
            rw [applyE_take hi77]
            unfold chgE
            rw [if_neg (by simp [hc90])]
            exact hN
    · refine xo.val 0 (by kernel_rfl) (c_lss_f hc72) ?_
      refine xo.done 0 [(0, Pt a.s 0), (8, I now), (23, .slice A l.length cap), (24, I (l.length : Int)), (25, I (i : Int)), (26, B false)] (by kernel_rfl) rfl (by kernel_rfl) ?_
      refine .seq ?_
      refine .condF rfl rfl ?_
      refine .exit ?_
      refine xsetTo ?_
      refine .seq ?_
      refine .region ?_
      refine xo.done 3 [(6, I now), (7, I 0)] (by kernel_rfl) rfl (by kernel_rfl) ?_
      refine .ret ?_
      refine ⟨[I now, I 0], by kernel_rfl, _, rfl, ?_⟩
      have hi9 : i = l.length := by omega
      rw [hi9, List.take_length] at hAI
      exact ⟨now, σi, rfl, hSu, (hE.weak fun b hb q => q), hAI⟩

end Go.Proofs.YtbajgpadmlnffaaGreat
/- Streams of trees, in memory and what they hold. -/
namespace Go.V
theorem Own.front {α : Type} {k : Kd α} {w : World} {base cap : Nat} {A : Option Addr} {xs ys : List α} (h : Own k w base A cap (xs ++ ys)) : Own k w base A cap xs := by
  rcases h with ⟨h1, h2, h3⟩ | ⟨g, rest, h1, h2, h3, h4, h5⟩
  · exact .inl ⟨h1, h2, (List.append_eq_nil_iff.1 h3).1⟩
  · refine .inr ⟨g, k.all ys ++ rest, h1, h2, ?_, ?_, ?_⟩
    · rw [← List.append_assoc, ← k.all_append]; exact h3
    · rw [← List.append_assoc, ← k.all_append]; exact h4
    · rw [List.length_append] at h5; omega
theorem Grow.refl {w : World} {A : Option Addr} : Grow w A A := fun _ h => .inl h
theorem Grow.trans {w u : World} {A B C : Option Addr} (h : Grow w A B) (hw : w.heap.size ≤ u.heap.size) (k : Grow u B C) : Grow w A C := fun b hb => by
  rcases k b hb with h1 | h1
  · exact h b h1
  · exact .inr (by omega)
/-- Two slices lie apart. -/
def Sep (A B : Option Addr) : Prop := ∀ b, OwnB A b → ¬ OwnB B b
theorem Sep.symm {A B : Option Addr} (h : Sep A B) : Sep B A := fun b h1 h2 => h b h2 h1
theorem Sep.grow {w : World} {A A' B : Option Addr} (h : Sep A B) (g : Grow w A A') (hB : ∀ b, OwnB B b → b < w.heap.size) : Sep A' B := fun b h1 h2 => by
  rcases g b h1 with h3 | h3
  · exact h b h3 h2
  · have := hB b h2; omega
end Go.V
namespace Go.Proofs.YtbajgpadmlnffaaGreat
open Go.V
set_option linter.unusedVariables false

structure StrAt (u : World) (a : SAd) (t base : Nat) (A : Option Addr) (c : Nat) (l : List Top) (r : Int) : Prop where
  blk : Blk u t 70 [Pt a.s 0, .slice A l.length c, I r]
  own : Own kTop u base A c l
structure OutAt (u : World) (p s1 s2 base : Nat) (O : Option Addr) (oc : Nat) (out : List Change) : Prop where
  blk : Blk u p 65 [Pt s1 0, Pt s2 0, .slice O out.length oc]
  own : Own kChange u base O oc out
def StrFp (t : Nat) (A : Option Addr) : Nat → Prop := fun b => b = t ∨ OwnB A b
def OutFp (p : Nat) (O : Option Addr) : Nat → Prop := fun b => b = p ∨ OwnB O b
section
variable {u u' : World} {a : SAd} {t base c : Nat} {A : Option Addr} {l : List Top} {r : Int} {M : Nat → Prop} {p s1 s2 oc : Nat} {O : Option Addr} {out : List Change}
theorem StrAt.ext (h : StrAt u a t base A c l r) (hx : Ext M u u') (h1 : ¬ M t) (h2 : ∀ b, OwnB A b → ¬ M b) : StrAt u' a t base A c l r := ⟨h.blk.ext hx h1, h.own.ext hx h2⟩
theorem OutAt.ext (h : OutAt u p s1 s2 base O oc out) (hx : Ext M u u') (h1 : ¬ M p) (h2 : ∀ b, OwnB O b → ¬ M b) : OutAt u' p s1 s2 base O oc out := ⟨h.blk.ext hx h1, h.own.ext hx h2⟩
theorem StrAt.no (h : StrAt u a t base A c l r) (hx : Ext No u u') : StrAt u' a t base A c l r := h.ext hx (fun h => h) fun _ _ h => h
theorem OutAt.no (h : OutAt u p s1 s2 base O oc out) (hx : Ext No u u') : OutAt u' p s1 s2 base O oc out := h.ext hx (fun h => h) fun _ _ h => h
theorem StrAt.lt (h : StrAt u a t base A c l r) : t < u.heap.size := h.blk.lt
/-- A block of another kind, that was not turned. -/
theorem StrAt.is {b0 : Nat} {T : TypeId} {cs : List Value} (h : StrAt u a t base A c l r) (hx : Ext (fun b => b = b0) u u') (hb : Blk u b0 T cs) (hne : t ≠ b0) (hA : ¬ OwnB A b0) : StrAt u' a t base A c l r :=
  h.ext hx hne fun b h1 e => hA (e ▸ h1)
theorem OutAt.is {b0 : Nat} {T : TypeId} {cs : List Value} (h : OutAt u p s1 s2 base O oc out) (hx : Ext (fun b => b = b0) u u') (hb : Blk u b0 T cs) (hne : p ≠ b0) (hT : Nat.beq T kChange.ty = false) : OutAt u' p s1 s2 base O oc out :=
  h.ext hx hne fun b h1 e => h.own.ne hb hT (e ▸ h1)
/-- The other stream has turned. -/
theorem StrAt.str {t2 b2 c2 : Nat} {A2 : Option Addr} {l2 : List Top} {r2 : Int} (h : StrAt u a t base A c l r) (k : StrAt u a t2 b2 A2 c2 l2 r2) (hx : Ext (StrFp t2 A2) u u') (hne : t ≠ t2) (hs : Sep A A2) : StrAt u' a t base A c l r :=
  h.ext hx (fun hm => hm.elim hne (k.own.ne h.blk rfl)) fun b h1 hm => hm.elim (fun e => h.own.ne k.blk rfl (e ▸ h1)) (hs b h1)
theorem OutAt.str {t2 b2 c2 : Nat} {A2 : Option Addr} {l2 : List Top} {r2 : Int} (h : OutAt u p s1 s2 base O oc out) (k : StrAt u a t2 b2 A2 c2 l2 r2) (hx : Ext (StrFp t2 A2) u u') : OutAt u' p s1 s2 base O oc out :=
  h.ext hx (fun hm => hm.elim (Blk.ne h.blk k.blk rfl) (k.own.ne h.blk rfl)) fun b h1 hm => hm.elim (fun e => h.own.ne k.blk rfl (e ▸ h1)) (Own.disj h.own k.own rfl b h1)
theorem StrAt.outp (h : StrAt u a t base A c l r) {b2 : Nat} (k : OutAt u p s1 s2 b2 O oc out) (hx : Ext (OutFp p O) u u') : StrAt u' a t base A c l r :=
  h.ext hx (fun hm => hm.elim (Blk.ne h.blk k.blk rfl) (k.own.ne h.blk rfl)) fun b h1 hm => hm.elim (fun e => h.own.ne k.blk rfl (e ▸ h1)) (Own.disj h.own k.own rfl b h1)
theorem StrAt.blk_ne {b0 : Nat} {T : TypeId} {cs : List Value} (h : StrAt u a t base A c l r) (hb : Blk u b0 T cs) (hne : b0 ≠ t) (hT : Nat.beq T kTop.ty = false) : ¬ StrFp t A b0 := fun hm => hm.elim hne (h.own.ne hb hT)
theorem OutAt.blk_ne {b0 : Nat} {T : TypeId} {cs : List Value} (h : OutAt u p s1 s2 base O oc out) (hb : Blk u b0 T cs) (hne : b0 ≠ p) (hT : Nat.beq T kChange.ty = false) : ¬ OutFp p O b0 := fun hm => hm.elim hne (h.own.ne hb hT)
theorem StAt.str {σ : St} (h : StAt u a σ) (k : StrAt u a t base A c l r) (hx : Ext (StrFp t A) u u') (h1 : a.hi ≤ t) (h2 : a.hi ≤ base) : StAt u' a σ :=
  h.ext hx (fun b hb1 hb2 hm => hm.elim (fun e => by omega) fun hm => by have := (k.own.lt hm).1; omega) (fun hm => hm.elim (fun e => MapAt.ne h.mkt k.blk e) (k.own.ne_map h.mkt))
    fun b cs hb hm => hm.elim (fun e => Blk.ne hb k.blk rfl e) (k.own.ne hb rfl)
theorem StAt.outp {σ : St} (h : StAt u a σ) (k : OutAt u p s1 s2 base O oc out) (hx : Ext (OutFp p O) u u') (h1 : a.hi ≤ p) (h2 : a.hi ≤ base) : StAt u' a σ :=
  h.ext hx (fun b hb1 hb2 hm => hm.elim (fun e => by omega) fun hm => by have := (k.own.lt hm).1; omega) (fun hm => hm.elim (fun e => MapAt.ne h.mkt k.blk e) (k.own.ne_map h.mkt))
    fun b cs hb hm => hm.elim (fun e => Blk.ne hb k.blk rfl e) (k.own.ne hb rfl)
end

/-! what streams hold -/
def topE (x : Item) : Top := ⟨x.key, x.val, 0, 0⟩
def topK (lv : Int) (x : Item) : Top := ⟨x.key, ⟨#[]⟩, x.kid, lv⟩
/-- What stands in a node, as what comes next. -/
def topsOf (h : Nat) (items : List Item) : List Top := if h = 0 then items.map topE else items.map (topK ((h : Int) - 1))
structure TopN (σ : St) (h : Nat) (items : List Item) (t : Top) (E : List KV) : Prop where
  tree : TreeN σ h items t.id E
  level : t.level = (h : Int)
  val : t.val = ⟨#[]⟩
  key : ∃ y, items[0]? = some y ∧ t.key = y.key
def TopD (σ : St) (t : Top) (E : List KV) : Prop := if t.id = 0 then E = [(t.key, t.val)] else ∃ h items, TopN σ h items t E
def topW (t : Top) : Nat := if t.id = 0 then 1 else t.level.toNat + 2
def StrD (σ : St) : List Top → List KV → Nat → Prop
  | [], E, n => E = [] ∧ n = 0
  | t :: r, E, n => ∃ e F m, E = e ++ F ∧ TopD σ t e ∧ StrD σ r F m ∧ n = topW t * e.length + m
theorem StrD.append {σ : St} : ∀ {l m : List Top} {E F : List KV} {n k : Nat}, StrD σ l E n → StrD σ m F k → StrD σ (l ++ m) (E ++ F) (n + k)
  | [], m, E, F, n, k, ⟨h1, h2⟩, h => by subst h1; subst h2; simpa using h
  | t :: r, m, E, F, n, k, ⟨e, G, q, h1, h2, h3, h4⟩, h => ⟨e, G ++ F, q + k, by rw [h1, List.append_assoc], h2, h3.append h, by omega⟩
theorem TopN.head {σ : St} {h : Nat} {items : List Item} {t : Top} {E : List KV} (n : TopN σ h items t E) : ∃ v r, E = (t.key, v) :: r := by
  obtain ⟨y, hy, hk⟩ := n.key
  cases items with
  | nil => simp at hy
  | cons z q =>
    simp only [List.getElem?_cons_zero, Option.some.injEq] at hy
    subst hy
    obtain ⟨e, r, rfl, h1⟩ := n.tree.cont.head
    exact ⟨e.2, r, by rw [hk, ← h1]⟩
theorem TopD.head {σ : St} {t : Top} {E : List KV} (h : TopD σ t E) : ∃ v r, E = (t.key, v) :: r := by
  unfold TopD at h
  split at h
  · exact ⟨t.val, [], h⟩
  · obtain ⟨h', items, n⟩ := h
    exact n.head
theorem Cont.unique {σ : St} : ∀ {h : Nat} {l : List Item} {E F : List KV}, Cont σ h l E → Cont σ h l F → E = F := by
  intro h
  induction h with
  | zero => intro l E F h k; exact h.trans k.symm
  | succ h ih =>
    have key : ∀ (l : List Item) (Es Fs : List (List KV)), All2 (fun x e => ∃ nk, RootAt σ h x nk ∧ 4 ≤ nk.items.length ∧ Cont σ h nk.items e) l Es → All2 (fun x e => ∃ nk, RootAt σ h x nk ∧ 4 ≤ nk.items.length ∧ Cont σ h nk.items e) l Fs → Es = Fs := by
      intro l
      induction l with
      | nil =>
        intro Es Fs hE hF
        cases Es with
        | cons _ _ => exact hE.elim
        | nil => cases Fs with
          | cons _ _ => exact hF.elim
          | nil => rfl
      | cons x r ihr =>
        intro Es Fs hE hF
        cases Es with
        | nil => exact hE.elim
        | cons e Er =>
          cases Fs with
          | nil => exact hF.elim
          | cons f Fr =>
            obtain ⟨⟨nk, a1, _, a3⟩, a4⟩ := hE
            obtain ⟨⟨nk', b1, _, b3⟩, b4⟩ := hF
            obtain rfl := NodeAt.unique a1.node b1.node
            rw [ih a3 b3, ihr _ _ a4 b4]
    rintro l E F ⟨Es, rfl, hE⟩ ⟨Fs, rfl, hF⟩
    rw [key l Es Fs hE hF]
theorem TreeN.unique {σ : St} {h k : Nat} {items l : List Item} {root : Int} {E F : List KV} (a : TreeN σ h items root E) (b : TreeN σ k l root F) : h = k ∧ items = l ∧ E = F := by
  have := NodeAt.unique a.node b.node
  injection this with h1 h2
  have h1 : h = k := by omega
  subst h1; subst h2
  exact ⟨rfl, rfl, a.cont.unique b.cont⟩
theorem sortedE_flat {Es : List (List KV)} (h : SortedE Es.flatten) : ∀ e ∈ Es, SortedE e := fun e he => h.sublist (List.sublist_flatten_of_mem he)
theorem topsE_D (σ : St) : ∀ (items : List Item), StrD σ (items.map topE) (items.map kv) items.length
  | [] => ⟨rfl, rfl⟩
  | x :: r => ⟨[kv x], r.map kv, r.length, rfl, rfl, topsE_D σ r, by simp [topW, topE]; omega⟩
theorem topsK_D {σ : St} {h : Nat} : ∀ (items : List Item) (Es : List (List KV)), All2 (fun x e => ∃ nk, RootAt σ h x nk ∧ 4 ≤ nk.items.length ∧ Cont σ h nk.items e) items Es → (∀ e ∈ Es, SortedE e) →
    StrD σ (items.map (topK (((h + 1 : Nat) : Int) - 1))) Es.flatten ((h + 2) * Es.flatten.length)
  | [], [], _, _ => ⟨rfl, by simp⟩
  | [], _ :: _, h, _ => h.elim
  | _ :: _, [], h, _ => h.elim
  | x :: r, e :: Er, ⟨⟨nk, r1, r4, rc⟩, hr⟩, hs => by
    obtain ⟨lv, it⟩ := nk
    have elv : lv = (h : Int) := r1.ni.level
    subst elv
    have hk0 : x.kid ≠ 0 := by have := r1.node.lo; omega
    refine ⟨e, Er.flatten, (h + 2) * Er.flatten.length, by simp, ?_, topsK_D r Er hr (fun q hq => hs q (by simp [hq])), ?_⟩
    · unfold TopD
      rw [if_neg (show ¬ (topK _ x).id = 0 from hk0)]
      exact ⟨h, it, ⟨r1.node, r1.high, r1.ni, rc, hs e (by simp), .inr (by show 2 ≤ it.length; simp only at r4; omega)⟩, by show ((h + 1 : Nat) : Int) - 1 = _; omega, rfl, r1.key⟩
    · unfold topW
      rw [if_neg (show ¬ (topK _ x).id = 0 from hk0)]
      show (h + 2) * (e :: Er).flatten.length = ((((h + 1 : Nat) : Int) - 1).toNat + 2) * e.length + _
      rw [show (((h + 1 : Nat) : Int) - 1).toNat = h by omega, List.flatten_cons, List.length_append, Nat.mul_add]
/-- Opening a node. -/
theorem open_D {σ : St} {h : Nat} {items : List Item} {t : Top} {E : List KV} (n : TopN σ h items t E) : ∃ m, StrD σ (topsOf h items) E m ∧ m < (h + 2) * E.length := by
  have hpos : 0 < E.length := by obtain ⟨v, r, rfl⟩ := n.head; simp
  unfold topsOf
  cases h with
  | zero =>
    rw [if_pos rfl]
    have hc : E = items.map kv := n.tree.cont
    refine ⟨items.length, ?_, ?_⟩
    · rw [hc]; exact topsE_D σ items
    · rw [hc] at hpos ⊢; rw [List.length_map] at *; omega
  | succ h =>
    rw [if_neg (by omega)]
    obtain ⟨Es, hEs, hE⟩ := n.tree.cont
    refine ⟨(h + 2) * E.length, ?_, Nat.mul_lt_mul_of_pos_right (by omega) hpos⟩
    rw [hEs]
    exact topsK_D items Es hE (sortedE_flat (by rw [← hEs]; exact n.tree.sorted))
end Go.Proofs.YtbajgpadmlnffaaGreat
/- What leads from one row to another one, and the steps through two streams that tell it. -/
namespace Go.Proofs.YtbajgpadmlnffaaGreat
open Go.V
set_option linter.unusedVariables false

def goneE (x : KV) : Change := ⟨x.1, ⟨#[]⟩, true⟩
def comeE (y : KV) : Change := ⟨y.1, y.2, false⟩
def listsE : List KV → List KV → List Change
  | [], b => b.map comeE
  | x :: a, [] => goneE x :: listsE a []
  | x :: a, y :: b => if Lt x.1 y.1 then goneE x :: listsE a (y :: b) else if Lt y.1 x.1 then comeE y :: listsE (x :: a) b else if x.2 = y.2 then listsE a b else comeE y :: listsE a b
termination_by a b => a.length + b.length
theorem listsE_nil (b : List KV) : listsE [] b = b.map comeE := by rw [listsE]
theorem listsE_gone_nil (x : KV) (a : List KV) : listsE (x :: a) [] = goneE x :: listsE a [] := by rw [listsE]
theorem listsE_gone {x y : KV} (a b : List KV) (h : Lt x.1 y.1) : listsE (x :: a) (y :: b) = goneE x :: listsE a (y :: b) := by rw [listsE, if_pos h]
theorem listsE_come {x y : KV} (a b : List KV) (h : Lt y.1 x.1) : listsE (x :: a) (y :: b) = comeE y :: listsE (x :: a) b := by rw [listsE, if_neg h.asymm, if_pos h]
theorem listsE_same {x y : KV} (a b : List KV) (h : x.1 = y.1) : listsE (x :: a) (y :: b) = (if x.2 = y.2 then [] else [comeE y]) ++ listsE a b := by
  rw [listsE, if_neg (by rw [h]; exact Lt.irrefl _), if_neg (by rw [h]; exact Lt.irrefl _)]
  split <;> rfl
theorem listsE_prefix (a b : List KV) : ∀ e : List KV, listsE (e ++ a) (e ++ b) = listsE a b
  | [] => rfl
  | x :: e => by
    rw [List.cons_append, List.cons_append, listsE_same _ _ rfl, if_pos rfl, List.nil_append]
    exact listsE_prefix a b e

def OpenR (σ : St) (t : Top) (ts : List Top) : Prop := ∃ h items E, TopN σ h items t E ∧ ts = topsOf h items
inductive SingleR (σ : St) : Bool → List Top → List Top → List Change → Nat → Prop
  | opn {g : Bool} {x : Top} {r ts : List Top} (hx : x.id ≠ 0) (ho : OpenR σ x ts) : SingleR σ g (x :: r) (ts ++ r) [] 1
  | gone {x : Top} {r : List Top} (hx : x.id = 0) : SingleR σ true (x :: r) r [⟨x.key, ⟨#[]⟩, true⟩] 0
  | come {x : Top} {r : List Top} (hx : x.id = 0) : SingleR σ false (x :: r) r [⟨x.key, x.val, false⟩] 0
inductive PS (σ : St) : List Top → List Top → List Top → List Top → List Change → Nat → Prop
  | left1 {ta ta' : List Top} {ch : List Change} {n : Nat} (h : SingleR σ true ta ta' ch n) : PS σ ta [] ta' [] ch n
  | left2 {x y : Top} {r q ta' : List Top} {ch : List Change} {n : Nat} (h1 : Lt x.key y.key) (h : SingleR σ true (x :: r) ta' ch n) : PS σ (x :: r) (y :: q) ta' (y :: q) ch n
  | right1 {tb tb' : List Top} {ch : List Change} {n : Nat} (h : SingleR σ false tb tb' ch n) : PS σ [] tb [] tb' ch n
  | right2 {x y : Top} {r q tb' : List Top} {ch : List Change} {n : Nat} (h1 : Lt y.key x.key) (h : SingleR σ false (y :: q) tb' ch n) : PS σ (x :: r) (y :: q) (x :: r) tb' ch n
  | same {x y : Top} {r q : List Top} (h1 : x.key = y.key) (h2 : x.id ≠ 0) (h3 : x.id = y.id) : PS σ (x :: r) (y :: q) r q [] 0
  | ent {x y : Top} {r q : List Top} (h1 : x.key = y.key) (h2 : x.id = 0) (h3 : y.id = 0) : PS σ (x :: r) (y :: q) r q (if x.val = y.val then [] else [⟨y.key, y.val, false⟩]) 0
  | opa {x y : Top} {r q ts : List Top} (h1 : x.key = y.key) (h2 : x.id ≠ 0) (h3 : x.id ≠ y.id) (h4 : y.id = 0 ∨ y.level < x.level) (ho : OpenR σ x ts) : PS σ (x :: r) (y :: q) (ts ++ r) (y :: q) [] 1
  | opab {x y : Top} {r q ts us : List Top} (h1 : x.key = y.key) (h2 : x.id ≠ 0) (h3 : x.id ≠ y.id) (h4 : y.id ≠ 0) (h5 : x.level = y.level) (ho : OpenR σ x ts) (ho2 : OpenR σ y us) : PS σ (x :: r) (y :: q) (ts ++ r) (us ++ q) [] 2
  | opb {x y : Top} {r q us : List Top} (h1 : x.key = y.key) (h2 : y.id ≠ 0) (h3 : x.id ≠ y.id) (h4 : x.id = 0 ∨ x.level < y.level) (ho : OpenR σ y us) : PS σ (x :: r) (y :: q) (x :: r) (us ++ q) [] 1
inductive Run (σ : St) : List Top → List Top → List Change → Nat → Prop
  | done : Run σ [] [] [] 0
  | step {ta tb ta' tb' : List Top} {ch cs : List Change} {n m : Nat} (h : PS σ ta tb ta' tb' ch n) (r : Run σ ta' tb' cs m) : Run σ ta tb (ch ++ cs) (n + m)

theorem open_step {σ : St} {x : Top} {r ts : List Top} {E : List KV} {n : Nat} (hx : x.id ≠ 0) (ho : OpenR σ x ts) (h : StrD σ (x :: r) E n) : ∃ m, StrD σ (ts ++ r) E m ∧ m < n := by
  obtain ⟨h', items, E0, hn, rfl⟩ := ho
  obtain ⟨e, F, k, rfl, hd, hr, rfl⟩ := h
  unfold TopD at hd
  rw [if_neg hx] at hd
  obtain ⟨h2, it2, hn2⟩ := hd
  obtain ⟨rfl, rfl, rfl⟩ := hn.tree.unique hn2.tree
  obtain ⟨m, hm, hlt⟩ := open_D hn
  refine ⟨m + k, hm.append hr, ?_⟩
  unfold topW
  rw [if_neg hx, show x.level.toNat = h' by rw [hn.level]; omega]
  omega
theorem ent_step {σ : St} {x : Top} {r : List Top} {E : List KV} {n : Nat} (hx : x.id = 0) (h : StrD σ (x :: r) E n) : ∃ F m, E = (x.key, x.val) :: F ∧ StrD σ r F m ∧ m < n := by
  obtain ⟨e, F, k, rfl, hd, hr, rfl⟩ := h
  unfold TopD at hd
  rw [if_pos hx] at hd
  subst hd
  exact ⟨F, k, rfl, hr, by unfold topW; rw [if_pos hx]; simp⟩
theorem head_step {σ : St} {x : Top} {r : List Top} {E : List KV} {n : Nat} (h : StrD σ (x :: r) E n) : ∃ v F, E = (x.key, v) :: F := by
  obtain ⟨e, F, k, rfl, hd, hr, rfl⟩ := h
  obtain ⟨v, q, rfl⟩ := hd.head
  exact ⟨v, q ++ F, rfl⟩
theorem SortedE.tail {x : KV} {E : List KV} (h : SortedE (x :: E)) : SortedE E := (List.pairwise_cons.1 h).2
theorem ps_main {σ : St} {ta tb ta' tb' : List Top} {ch : List Change} {k : Nat} {Ea Eb : List KV} {na nb : Nat} (p : PS σ ta tb ta' tb' ch k) (ha : StrD σ ta Ea na) (hb : StrD σ tb Eb nb) (sa : SortedE Ea) (sb : SortedE Eb) :
    ∃ Ea' Eb' na' nb', StrD σ ta' Ea' na' ∧ StrD σ tb' Eb' nb' ∧ SortedE Ea' ∧ SortedE Eb' ∧ (na' + nb' < na + nb ∧ na' + nb' + k ≤ na + nb ∧ ch.length ≤ 1) ∧ listsE Ea Eb = ch ++ listsE Ea' Eb' := by
  cases p with
  | left1 h =>
    obtain ⟨rfl, rfl⟩ := hb
    cases h with
    | opn hx ho =>
      obtain ⟨m, h1, h2⟩ := open_step hx ho ha
      exact ⟨Ea, [], m, 0, h1, ⟨rfl, rfl⟩, sa, sb, ⟨by omega, by omega, by simp⟩, rfl⟩
    | gone hx =>
      obtain ⟨F, m, rfl, h1, h2⟩ := ent_step hx ha
      exact ⟨F, [], m, 0, h1, ⟨rfl, rfl⟩, sa.tail, sb, ⟨by omega, by omega, by simp⟩, listsE_gone_nil _ _⟩
  | left2 h1 h =>
    obtain ⟨v, Fb, hEb⟩ := head_step hb
    cases h with
    | opn hx ho =>
      obtain ⟨m, h1, h2⟩ := open_step hx ho ha
      exact ⟨Ea, Eb, m, nb, h1, hb, sa, sb, ⟨by omega, by omega, by simp⟩, rfl⟩
    | gone hx =>
      obtain ⟨F, m, rfl, h3, h4⟩ := ent_step hx ha
      refine ⟨F, Eb, m, nb, h3, hb, sa.tail, sb, ⟨by omega, by omega, by simp⟩, ?_⟩
      rw [hEb]; exact listsE_gone _ _ h1
  | right1 h =>
    obtain ⟨rfl, rfl⟩ := ha
    cases h with
    | opn hx ho =>
      obtain ⟨m, h1, h2⟩ := open_step hx ho hb
      exact ⟨[], Eb, 0, m, ⟨rfl, rfl⟩, h1, sa, sb, ⟨by omega, by omega, by simp⟩, rfl⟩
    | come hx =>
      obtain ⟨F, m, rfl, h1, h2⟩ := ent_step hx hb
      exact ⟨[], F, 0, m, ⟨rfl, rfl⟩, h1, sa, sb.tail, ⟨by omega, by omega, by simp⟩, by rw [listsE_nil, listsE_nil]; rfl⟩
  | right2 h1 h =>
    obtain ⟨v, Fa, hEa⟩ := head_step ha
    cases h with
    | opn hx ho =>
      obtain ⟨m, h1, h2⟩ := open_step hx ho hb
      exact ⟨Ea, Eb, na, m, ha, h1, sa, sb, ⟨by omega, by omega, by simp⟩, rfl⟩
    | come hx =>
      obtain ⟨F, m, rfl, h3, h4⟩ := ent_step hx hb
      refine ⟨Ea, F, na, m, ha, h3, sa, sb.tail, ⟨by omega, by omega, by simp⟩, ?_⟩
      rw [hEa]; exact listsE_come _ _ h1
  | same h1 h2 h3 =>
    obtain ⟨e, Fa, ka, rfl, hda, hra, rfl⟩ := ha
    obtain ⟨f, Fb, kb, rfl, hdb, hrb, rfl⟩ := hb
    have hpos : 0 < e.length := by obtain ⟨v, q, rfl⟩ := hda.head; simp
    unfold TopD at hda hdb
    rw [if_neg h2] at hda
    rw [if_neg (by rw [← h3]; exact h2)] at hdb
    obtain ⟨_, _, n1⟩ := hda
    obtain ⟨_, _, n2⟩ := hdb
    have t1 := n1.tree
    rw [h3] at t1
    obtain ⟨_, _, rfl⟩ := t1.unique n2.tree
    refine ⟨Fa, Fb, ka, kb, hra, hrb, (List.pairwise_append.1 sa).2.1, (List.pairwise_append.1 sb).2.1, ?_, listsE_prefix _ _ _⟩
    have : 0 < topW _ * e.length := Nat.mul_pos (by unfold topW; rw [if_neg h2]; omega) hpos
    exact ⟨by omega, by omega, by simp⟩
  | ent h1 h2 h3 =>
    obtain ⟨F, m, rfl, h4, h5⟩ := ent_step h2 ha
    obtain ⟨G, k, rfl, h6, h7⟩ := ent_step h3 hb
    exact ⟨F, G, m, k, h4, h6, sa.tail, sb.tail, ⟨by omega, by omega, by split <;> simp⟩, by rw [listsE_same _ _ h1]; rfl⟩
  | opa h1 h2 h3 h4 ho =>
    obtain ⟨m, h5, h6⟩ := open_step h2 ho ha
    exact ⟨Ea, Eb, m, nb, h5, hb, sa, sb, ⟨by omega, by omega, by simp⟩, rfl⟩
  | opab h1 h2 h3 h4 h5 ho ho2 =>
    obtain ⟨m, h6, h7⟩ := open_step h2 ho ha
    obtain ⟨k, h8, h9⟩ := open_step h4 ho2 hb
    exact ⟨Ea, Eb, m, k, h6, h8, sa, sb, ⟨by omega, by omega, by simp⟩, rfl⟩
  | opb h1 h2 h3 h4 ho =>
    obtain ⟨m, h5, h6⟩ := open_step h2 ho hb
    exact ⟨Ea, Eb, na, m, ha, h5, sa, sb, ⟨by omega, by omega, by simp⟩, rfl⟩
theorem StrD.tops {σ : St} : ∀ {l : List Top} {E : List KV} {n : Nat}, StrD σ l E n → l.length ≤ n ∧ ∀ x ∈ l, x.id ≠ 0 → ∃ h items E, TopN σ h items x E
  | [], _, _, _ => ⟨by simp, by simp⟩
  | t :: r, E, n, ⟨e, F, m, h1, h2, h3, h4⟩ => by
    obtain ⟨k1, k2⟩ := StrD.tops h3
    have hpos : 0 < topW t * e.length := by
      obtain ⟨v, q, rfl⟩ := h2.head
      exact Nat.mul_pos (by unfold topW; split <;> omega) (by simp)
    refine ⟨by simp only [List.length_cons]; omega, fun x hx hid => ?_⟩
    rcases List.mem_cons.1 hx with rfl | hx
    · unfold TopD at h2
      rw [if_neg hid] at h2
      obtain ⟨h, items, hn⟩ := h2
      exact ⟨h, items, e, hn⟩
    · exact k2 x hx hid
/-- A tree as a stream. -/
theorem TreeN.top {σ : St} {h : Nat} {items : List Item} {root : Int} {E : List KV} (t : TreeN σ h items root E) {y : Item} (hy : items[0]? = some y) : TopN σ h items ⟨y.key, ⟨#[]⟩, root, (h : Int)⟩ E := ⟨t, rfl, rfl, y, hy, rfl⟩
theorem TreeN.str {σ : St} {h : Nat} {items : List Item} {root : Int} {E : List KV} (t : TreeN σ h items root E) {y : Item} (hy : items[0]? = some y) : StrD σ [⟨y.key, ⟨#[]⟩, root, (h : Int)⟩] E ((h + 2) * E.length) := by
  have h0 : root ≠ 0 := by have := t.node.lo; omega
  refine ⟨E, [], 0, by simp, ?_, ⟨rfl, rfl⟩, ?_⟩
  · unfold TopD; rw [if_neg h0]; exact ⟨h, items, t.top hy⟩
  · unfold topW; rw [if_neg h0]; simp
/-- With what a tree's stream begins. -/
def OfL (σ : St) (root : Int) (l : List Top) : Prop := (root = 0 ∧ l = []) ∨ ∃ h items E y, TreeN σ h items root E ∧ items[0]? = some y ∧ l = [⟨y.key, ⟨#[]⟩, root, (h : Int)⟩]
theorem OfL.str {σ : St} {root : Int} {l : List Top} {E : List KV} (h : OfL σ root l) (t : TreeAt σ root E) : ∃ n, n ≤ 22 * E.length ∧ StrD σ l E n := by
  rcases h with ⟨rfl, rfl⟩ | ⟨h, items, E', y, t', hy, rfl⟩
  · rcases t with ⟨_, rfl⟩ | ⟨h, items, t⟩
    · exact ⟨0, by simp, rfl, rfl⟩
    · have := t.node.lo; omega
  · rcases t with ⟨rfl, _⟩ | ⟨h2, it2, t⟩
    · have := t'.node.lo; omega
    · obtain ⟨rfl, rfl, rfl⟩ := t.unique t'
      exact ⟨_, Nat.mul_le_mul_right _ (by have := t.ni.high; omega), t.str hy⟩
theorem OfL.rev {σ : St} {root : Int} {l : List Top} (h : OfL σ root l) : l.reverse = l ∧ l.length ≤ 1 := by
  rcases h with ⟨_, rfl⟩ | ⟨_, _, _, _, _, _, rfl⟩ <;> simp
theorem TreeAt.unique {σ : St} {root : Int} {E F : List KV} (a : TreeAt σ root E) (b : TreeAt σ root F) : E = F := by
  rcases a with ⟨h0, rfl⟩ | ⟨h, items, t⟩
  · rcases b with ⟨_, rfl⟩ | ⟨h, items, t⟩
    · rfl
    · have := t.node.lo; omega
  · rcases b with ⟨rfl, _⟩ | ⟨h2, items2, t2⟩
    · have := t.node.lo; omega
    · exact (t.unique t2).2.2
theorem listsE_self (E : List KV) : listsE E E = [] := by
  have := listsE_prefix [] [] E
  rw [List.append_nil] at this
  rw [this, listsE_nil]; rfl
end Go.Proofs.YtbajgpadmlnffaaGreat
/- Streams: the walks. -/
namespace Go.Proofs.YtbajgpadmlnffaaGreat
open Go.V
set_option maxRecDepth 100000
set_option linter.unusedVariables false
set_option linter.unusedSimpArgs false

theorem StrFp.rf {t : Nat} {A : Option Addr} {w : World} : Ext (StrFp t A) w w := .refl _ _
section
variable {t : Nat} {A B : Option Addr} {w u u' : World}
theorem StrFp.no (h : Ext (StrFp t A) w u) (k : Ext No u u') : Ext (StrFp t A) w u' := h.byc k fun _ _ _ h => h
theorem StrFp.is (h : Ext (StrFp t A) w u) (k : Ext (fun b => b = t) u u') : Ext (StrFp t A) w u' := h.byc k fun b _ hm e => hm (.inl e)
theorem StrFp.fresh {b0 : Nat} (h : Ext (StrFp t A) w u) (k : Ext (fun b => b = b0) u u') (hb : w.heap.size ≤ b0) : Ext (StrFp t A) w u' := h.byc k fun b hb' hm e => by omega
theorem StrFp.own (h : Ext (StrFp t A) w u) (g : Grow w A B) (k : Ext (OwnB B) u u') : Ext (StrFp t A) w u' := h.byc k fun b hb hm ho => by
  rcases g b ho with h1 | h1
  · exact hm (.inr h1)
  · omega
theorem StrFp.str (h : Ext (StrFp t A) w u) (g : Grow w A B) (k : Ext (StrFp t B) u u') : Ext (StrFp t A) w u' := h.byc k fun b hb hm ho => by
  rcases ho with h1 | h1
  · exact hm (.inl h1)
  · rcases g b h1 with h2 | h2
    · exact hm (.inr h2)
    · omega
end
def topV (x : Top) : Value := .agg #[S x.key, S x.val, I x.id, I x.level]

theorem str_next0 (w : World) (a : SAd) (t base : Nat) (A : Option Addr) (c : Nat) (l : List Top) (rd : Int) (hT : StrAt w a t base A c l rd) (h0 : l = []) :
    Ret Tryz.prog 73 [Pt t 0] w fun v w' => v = .tuple #[topV ⟨⟨#[]⟩, ⟨#[]⟩, 0, 0⟩, B false] ∧ Ext No w w' := by
  have lT := hT.blk.lt
  refine calls_of_XCr [.cell 2 127, .tmp 3] Tryz.func73 rfl rfl rfl ?_
  refine .seq ?_
  refine .region ?_
  refine xo.alloc 0 127 [S (⟨#[]⟩), S (⟨#[]⟩), I 0, I 0] (by kernel_rfl) (by kernel_rfl) ?_
  intro b1 w2 hb3 hx4 hg5
  have z2 := hx4.size
  have l3 := hb3.lt
  refine xo.done 1 [(0, Pt t 0), (2, Pt b1 0)] (by kernel_rfl) rfl (by kernel_rfl) ?_
  refine .seq ?_
  refine .seq ?_
  refine .region ?_
  have hb6 := (hT.blk.ext hx4 (fun h => h))
  refine xo.val 3 (by kernel_rfl) (ldB (t := 68) (o := 1) (by kernel_rfl) hb6 rfl) ?_
  refine xo.val 1 (by kernel_rfl) (c_eql_t (show ((l.length : Int) : Int) = 0 from (by rw [h0]; rfl))) ?_
  refine xo.done 0 [(0, Pt t 0), (2, Pt b1 0), (9, B true)] (by kernel_rfl) rfl (by kernel_rfl) ?_
  refine .condT rfl rfl ?_
  refine .seq ?_
  refine .region ?_
  refine xo.store 1 127 (o := 0) (.agg #[S (⟨#[]⟩), S (⟨#[]⟩), I 0, I 0]) [S (⟨#[]⟩), S (⟨#[]⟩), I 0, I 0] (by kernel_rfl) hb3 (by kernel_rfl) (by kernel_rfl) (by kernel_rfl) (by kernel_rfl) ?_
  intro w7 hb8 hx9
  have z7 := hx9.size
  refine xo.done 1 [(2, Pt b1 0), (3, B false)] (by kernel_rfl) rfl (by kernel_rfl) ?_
  refine .ret ?_
  refine ⟨[.agg #[S (⟨#[]⟩), S (⟨#[]⟩), I 0, I 0], B false], ⟨⟨⟨b1, 0, none⟩, by kernel_rfl, lvA (by kernel_rfl) hb8⟩, by kernel_rfl, trivial⟩, _, rfl, ?_⟩
  exact ⟨rfl, (hx4.trans' hx9 (fun _ _ h => h) (fun b hb (e : b = b1) => absurd hb (by omega)))⟩

theorem str_next1 (w : World) (a : SAd) (t base : Nat) (A : Option Addr) (c : Nat) (l : List Top) (rd : Int) (hT : StrAt w a t base A c l rd) (l0 : List Top) (x : Top) (hl : l = l0 ++ [x]) (hlen : l.length ≤ 1000000) :
    Ret Tryz.prog 73 [Pt t 0] w fun v w' => v = .tuple #[topV x, B true] ∧ Ext No w w' := by
  have lT := hT.blk.lt
  have hl1 : l.length = l0.length + 1 := by rw [hl]; simp
  refine calls_of_XCr [.cell 2 127, .tmp 3] Tryz.func73 rfl rfl rfl ?_
  refine .seq ?_
  refine .region ?_
  refine xo.alloc 0 127 [S (⟨#[]⟩), S (⟨#[]⟩), I 0, I 0] (by kernel_rfl) (by kernel_rfl) ?_
  intro b1 w2 hb3 hx4 hg5
  have z2 := hx4.size
  have l3 := hb3.lt
  refine xo.done 1 [(0, Pt t 0), (2, Pt b1 0)] (by kernel_rfl) rfl (by kernel_rfl) ?_
  refine .seq ?_
  refine .seq ?_
  refine .region ?_
  have hb6 := (hT.blk.ext hx4 (fun h => h))
  refine xo.val 3 (by kernel_rfl) (ldB (t := 68) (o := 1) (by kernel_rfl) hb6 rfl) ?_
  refine xo.val 1 (by kernel_rfl) (c_eql_f (show ¬ (((l.length : Int) : Int) = 0) from (by omega))) ?_
  refine xo.done 0 [(0, Pt t 0), (2, Pt b1 0), (9, B false)] (by kernel_rfl) rfl (by kernel_rfl) ?_
  refine .condF rfl rfl ?_
  refine .skip ?_
  refine .seq ?_
  refine .regionTail 12 (by kernel_rfl) (by kernel_rfl) ?_
  intro w7 hd8
  have hx8 := Ext.ofDrew (M := No) hd8
  have z7 := hx8.size
  have hb9 := (hb6.ext hx8 (fun h => h))
  refine Go.V.xs.val 3 (by kernel_rfl) (ldB (t := 68) (o := 1) (by kernel_rfl) hb9 rfl) ?_
  refine Go.V.xs.val 3 (by kernel_rfl) (ldB (t := 68) (o := 1) (by kernel_rfl) hb9 rfl) ?_
  refine Go.V.xs.val 1 (by kernel_rfl) (a_subZ (a := (l.length : Int)) (b := 1) (c := ((l.length - 1 : Nat) : Int)) (by omega) (by omega) (by omega)) ?_
  have hs10 := ((hT.own.ext hx4 (fun _ _ h => h)).ext hx8 (fun _ _ h => h))
  obtain ⟨b11, o12, x13, hi14, hA15, hl16, hh17, hr18⟩ := hs10.rd.at_ ((((l.length - 1 : Nat) : Int)).toNat) (by omega)
  refine Go.V.xs.val 0 (by kernel_rfl) (idxZ (kk := .i64) (t := 68) (n := l.length) (cap := c) (sz := 4) (i := ((l.length - 1 : Nat) : Int)) (by kernel_rfl) hA15 (by omega) (by omega)) ?_
  have ex : x = x13 := by
    rw [hl] at hi14
    simpa using hi14
  subst ex
  refine Go.V.xs.val 0 (by kernel_rfl) (ldA (t := 127) (by kernel_rfl) hr18) ?_
  refine Go.V.xs.fin 0 (by kernel_rfl) rfl ?_
  have hb19 := (hb3.ext hx8 (fun h => h))
  refine xo.store 0 127 (o := 0) (.agg #[S x.key, S x.val, I x.id, I x.level]) [S x.key, S x.val, I x.id, I x.level] (by kernel_rfl) hb19 (by kernel_rfl) (by kernel_rfl) (by kernel_rfl) (by kernel_rfl) ?_
  intro w20 hb21 hx22
  have z20 := hx22.size
  refine xo.done 1 [(2, Pt b1 0), (3, B true)] (by kernel_rfl) rfl (by kernel_rfl) ?_
  refine .ret ?_
  refine ⟨[.agg #[S x.key, S x.val, I x.id, I x.level], B true], ⟨⟨⟨b1, 0, none⟩, by kernel_rfl, lvA (by kernel_rfl) hb21⟩, by kernel_rfl, trivial⟩, _, rfl, ?_⟩
  exact ⟨rfl, ((hx4.trans' hx8 (fun _ _ h => h) (fun b hb h => h)).trans' hx22 (fun _ _ h => h) (fun b hb (e : b = b1) => absurd hb (by omega)))⟩

theorem str_pop (w : World) (a : SAd) (t base : Nat) (A : Option Addr) (c : Nat) (l : List Top) (rd : Int) (hT : StrAt w a t base A c l rd) (l0 : List Top) (x : Top) (hl : l = l0 ++ [x]) (hlen : l.length ≤ 1000000) :
    Ret Tryz.prog 102 [Pt t 0] w fun v w' => StrAt w' a t base A c l0 rd ∧ Ext (fun b => b = t) w w' := by
  have lT := hT.blk.lt
  have hl1 : l.length = l0.length + 1 := by rw [hl]; simp
  refine calls_of_XC Tryz.func102 rfl rfl ?_
  refine .regionTail 14 (by kernel_rfl) (by kernel_rfl) ?_
  intro w1 hd2
  have hx2 := Ext.ofDrew (M := No) hd2
  have z1 := hx2.size
  have hb3 := (hT.blk.ext hx2 (fun h => h))
  refine Go.V.xs.val 4 (by kernel_rfl) (ldB (t := 68) (o := 1) (by kernel_rfl) hb3 rfl) ?_
  refine Go.V.xs.val 3 (by kernel_rfl) (ldB (t := 68) (o := 1) (by kernel_rfl) hb3 rfl) ?_
  refine Go.V.xs.val 1 (by kernel_rfl) (a_subZ (a := (l.length : Int)) (b := 1) (c := ((l.length - 1 : Nat) : Int)) (by omega) (by omega) (by omega)) ?_
  have hs4 := (hT.own.ext hx2 (fun _ _ h => h))
  refine Go.V.xs.val 0 (by kernel_rfl) (vsl_take (t := 68) (A := A) (cap := c) (sz := 4) (xs := l) (k := ((((l.length - 1 : Nat) : Int)).toNat)) (by kernel_rfl) (by omega) hs4.cap_le) ?_
  have hs5 := hs4.rd.take ((((l.length - 1 : Nat) : Int)).toNat)
  refine Go.V.xs.fin 2 (by kernel_rfl) rfl ?_
  refine xo.store 0 68 (o := 1) (.slice A ((l.take ((((l.length - 1 : Nat) : Int)).toNat)).length) c) [Pt a.s 0, .slice A ((l.take ((((l.length - 1 : Nat) : Int)).toNat)).length) c, I rd] (by kernel_rfl) hb3 (by kernel_rfl) (by kernel_rfl) (by kernel_rfl) (by kernel_rfl) ?_
  intro w6 hb7 hx8
  have z6 := hx8.size
  refine xo.fin 0 (by kernel_rfl) rfl ?_
  refine ⟨[], by kernel_rfl, _, rfl, ?_⟩
  have hs9 := (hs4.ext hx8 (fun b hb (e : b = t) => hs4.ne hb3 rfl (e ▸ hb)))
  have ht : l.take (((l.length - 1 : Nat) : Int)).toNat = l0 := by rw [Int.toNat_natCast, hl]; simp
  have hb9 := hb7
  rw [ht] at hb9
  have ho9 := hs9
  rw [hl] at ho9
  exact ⟨⟨hb9, ho9.front⟩, ((hx2.weak fun b hb h => h.elim).trans' hx8 (fun _ _ h => h) (fun b hb e => e))⟩

def entT (e : Entry) : Top := ⟨e.key, e.val, 0, 0⟩
def kidT (lv : Int) (k : Kid) : Top := ⟨k.key, ⟨#[]⟩, k.id, lv⟩
theorem topsOf_parts (h : Nat) (items : List Item) : ((if h = 0 then items.map entI else []).map entT).reverse ++ ((if h = 0 then [] else items.map kidI).map (kidT ((h : Int) - 1))).reverse = (topsOf h items).reverse := by
  unfold topsOf
  by_cases h0 : h = 0
  · simp only [if_pos h0, List.map_map, List.map_nil, List.reverse_nil, List.append_nil]; rfl
  · simp only [if_neg h0, List.map_map, List.map_nil, List.reverse_nil, List.nil_append]; rfl
theorem rev_step {α β : Type} {f : α → β} {es : List α} {i : Nat} {x : α} (h : es[i]? = some x) : ((es.drop i).map f).reverse = ((es.drop (i + 1)).map f).reverse ++ [f x] := by
  obtain ⟨hi, h2⟩ := List.getElem?_eq_some_iff.1 h
  rw [List.drop_eq_getElem_cons hi, List.map_cons, List.reverse_cons, h2]

set_option maxHeartbeats 1000000 in
theorem str_open (w : World) (a : SAd) (t base : Nat) (A : Option Addr) (c : Nat) (l : List Top) (rd : Int) (hT : StrAt w a t base A c l rd) (h : Nat) (items : List Item) (E : List KV) (σ : St) (hS : StAt w a σ) (hA : Alive σ) (l0 : List Top) (x : Top) (hl : l = l0 ++ [x]) (hX : TopN σ h items x E) (hlen : l.length ≤ 900000) (hrd : 0 ≤ rd ∧ rd ≤ 1000000000) (ht1 : a.hi ≤ t) (ht2 : a.hi ≤ base) (ht3 : base ≤ w.heap.size) :
    Ret Tryz.prog 101 [Pt t 0] w fun v w' => ∃ A' c', v = I 0 ∧ StrAt w' a t base A' c' (l0 ++ (topsOf h items).reverse) (rd + 1) ∧ StAt w' a σ ∧ Grow w A A' ∧ Ext (StrFp t A) w w' := by
  have lS := hS.bs.lt
  have lMc := hS.mc.lt
  have lMk := hS.mkt.lt
  have hhi := hS.hi
  have nSC : a.s ≠ a.mc := fun e => MapAt.ne hS.mc hS.bs e.symm
  have nKC : a.mkk ≠ a.mc := fun e => hS.cmk e.symm
  have lT := hT.blk.lt
  have hl1 : l.length = l0.length + 1 := by rw [hl]; simp
  have hxlv := hX.level
  have hh20 := hX.tree.ni.high
  have hi8 : items.length ≤ 8 := hX.tree.ni.few
  obtain ⟨es, hes⟩ : ∃ es, es = (if h = 0 then items.map entI else []) := ⟨_, rfl⟩
  obtain ⟨ks, hks⟩ : ∃ ks, ks = (if h = 0 then [] else items.map kidI) := ⟨_, rfl⟩
  refine calls_of_XC Tryz.func101 rfl rfl ?_
  refine .seq ?_
  refine .region ?_
  refine xo.done 1 [(0, Pt t 0)] (by kernel_rfl) rfl (by kernel_rfl) ?_
  refine .seq ?_
  refine .region ?_
  refine xo.ret 1 (by kernel_rfl) (cf73 _ _) (str_next1 _ a t base A c l rd ⟨hT.blk, hT.own⟩ l0 x hl (by omega)) ?_
  rintro _ w1 ⟨rfl, hx2⟩
  have z1 := hx2.size
  refine xo.alloc 3 127 [S (⟨#[]⟩), S (⟨#[]⟩), I 0, I 0] (by kernel_rfl) (by kernel_rfl) ?_
  intro b3 w4 hb5 hx6 hg7
  have z4 := hx6.size
  have l5 := hb5.lt
  refine xo.store 0 127 (o := 0) (.agg #[S x.key, S x.val, I x.id, I x.level]) [S x.key, S x.val, I x.id, I x.level] (by kernel_rfl) hb5 (by kernel_rfl) (by kernel_rfl) (by kernel_rfl) (by kernel_rfl) ?_
  intro w8 hb9 hx10
  have z8 := hx10.size
  refine xo.done 1 [(0, Pt t 0), (3, Pt b3 0)] (by kernel_rfl) rfl (by kernel_rfl) ?_
  refine .seq ?_
  have hb15 := (((hT.blk.ext hx2 (fun h => h)).ext hx6 (fun h => h)).ext hx10 (show t ≠ b3 by omega))
  refine XC.regionDraw (fun u => Blk u t 70 [Pt a.s 0, .slice A l.length c, I rd] ∧ Blk u b3 127 [S x.key, S x.val, I x.id, I x.level] ∧ True) (by kernel_rfl) ?_
  intro w13 hd14
  have hx14 := Ext.ofDrew (M := No) hd14
  have z13 := hx14.size
  have hb16 := (hb15.ext hx14 (fun h => h))
  have hb17 := (hb9.ext hx14 (fun h => h))
  refine ⟨⟨hb16, hb17, trivial⟩, ?_⟩
  refine xd.q (fun _ _ _ _ h => h) 0 (Pt t 0) (by kernel_rfl) (by kernel_rfl) (by kernel_rfl) ?_
  refine xd.q (fun _ _ _ _ h => h) 1 (Pt t 0) (by kernel_rfl) (by kernel_rfl) (by kernel_rfl) ?_
  refine xd.q (fun _ _ _ _ h => h) 2 (Pt t 0) (by kernel_rfl) (by kernel_rfl) (by kernel_rfl) ?_
  refine xd.rd (fun _ _ _ _ h => h) 3 (by kernel_rfl) (by kernel_rfl) (by kernel_rfl) (fun u hS => (ldB (t := 25) (o := 0) (by kernel_rfl) hS.1 rfl)) ?_
  refine xd.q (fun _ _ _ _ h => h) 4 (Pt b3 2) (by kernel_rfl) (by kernel_rfl) (by kernel_rfl) ?_
  refine xd.rd (fun _ _ _ _ h => h) 5 (by kernel_rfl) (by kernel_rfl) (by kernel_rfl) (fun u hS => (ldB (t := 3) (o := 2) (by kernel_rfl) hS.2.1 rfl)) ?_
  refine xd.one 6 (by kernel_rfl) ?_
  have hf25 := ((((hS.no hx2).no hx6).ext hx10 (fun b h1 h2 (e : b = b3) => by omega) (MapAt.ne ((hS.no hx2).no hx6).mkt hb5) (fun b cs hb (e : b = b3) => Blk.ne hb hb5 rfl e)).no hx14)
  refine xo.ret 0 (by kernel_rfl) (cf117 _ _) (tree_Open _ a σ hf25 hA x.id h items E hX.tree) ?_
  rintro _ w26 ⟨A18, c19, K20, d21, rfl, ho23, hk24, hS22, hx27⟩
  have z26 := hx27.size
  have hesl : es.length ≤ 8 := by rw [hes]; split <;> simp <;> omega
  have hksl : ks.length ≤ 8 := by rw [hks]; split <;> simp <;> omega
  rw [← hes] at ho23
  rw [← hks] at hk24
  rw [← hes, ← hks]
  refine xo.fin 0 (by kernel_rfl) rfl ?_
  have hb28 := (hb16.ext hx27 (fun h => h))
  have hb29 := (hb17.ext hx27 (fun h => h))
  refine ⟨⟨hb28, hb29, trivial⟩, ?_⟩
  refine xd.q (fun _ _ _ _ h => h) 7 (.tuple #[.slice A18 es.length c19, .slice K20 ks.length d21, I 0]) (by kernel_rfl) (by kernel_rfl) (by kernel_rfl) ?_
  refine xd.q (fun _ _ _ _ h => h) 8 (.slice A18 es.length c19) (by kernel_rfl) (by kernel_rfl) (by kernel_rfl) ?_
  refine xd.q (fun _ _ _ _ h => h) 9 (.slice K20 ks.length d21) (by kernel_rfl) (by kernel_rfl) (by kernel_rfl) ?_
  refine xd.q (fun _ _ _ _ h => h) 10 (I 0) (by kernel_rfl) (by kernel_rfl) (by kernel_rfl) ?_
  refine xd.q (fun _ _ _ _ h => h) 11 (.slice A18 es.length c19) (by kernel_rfl) (by kernel_rfl) (by kernel_rfl) ?_
  refine xd.q (fun _ _ _ _ h => h) 12 (.slice K20 ks.length d21) (by kernel_rfl) (by kernel_rfl) (by kernel_rfl) ?_
  refine xd.q (fun _ _ _ _ h => h) 13 (I 0) (by kernel_rfl) (by kernel_rfl) (by kernel_rfl) ?_
  refine xd.done (by kernel_rfl) ?_
  refine .cov [(0, Pt t 0), (3, Pt b3 0), (5, .slice A18 es.length c19), (6, .slice K20 ks.length d21), (7, I 0)] (cov_of (by kernel_rfl)) ?_
  refine .seq ?_
  refine .seq ?_
  refine .region ?_
  refine xo.done 2 [(0, Pt t 0), (3, Pt b3 0), (5, .slice A18 es.length c19), (6, .slice K20 ks.length d21), (7, I 0), (27, B false)] (by kernel_rfl) rfl (by kernel_rfl) ?_
  refine .condF rfl rfl ?_
  refine .skip ?_
  refine .seq ?_
  refine .region ?_
  have hs30 := (((((hT.own.ext hx2 (fun _ _ h => h)).ext hx6 (fun _ _ h => h)).ext hx10 (fun b hb (e : b = b3) => by have := (hT.own.lt hb).2; omega)).ext hx14 (fun _ _ h => h)).ext hx27 (fun _ _ h => h))
  refine xo.ret 1 (by kernel_rfl) (cf102 _ _) (str_pop _ a t base A c l rd ⟨hb28, hs30⟩ l0 x hl (by omega)) ?_
  rintro _ w32 ⟨hp31, hx33⟩
  have z32 := hx33.size
  refine xo.done 0 [(0, Pt t 0), (3, Pt b3 0), (5, .slice A18 es.length c19), (6, .slice K20 ks.length d21)] (by kernel_rfl) rfl (by kernel_rfl) ?_
  refine .seq ?_
  refine .region ?_
  refine xo.val 3 (by kernel_rfl) (ldB (t := 3) (o := 2) (by kernel_rfl) hp31.blk rfl) ?_
  refine xo.val 0 (by kernel_rfl) (a_add (a := rd) (b := 1) (by omega) (by omega)) ?_
  refine xo.store 2 3 (o := 2) (I (rd + 1)) [Pt a.s 0, .slice A l0.length c, I (rd + 1)] (by kernel_rfl) hp31.blk (by kernel_rfl) (by kernel_rfl) (by kernel_rfl) (by kernel_rfl) ?_
  intro w34 hb35 hx36
  have z34 := hx36.size
  refine xo.done 0 [(0, Pt t 0), (3, Pt b3 0), (5, .slice A18 es.length c19), (6, .slice K20 ks.length d21)] (by kernel_rfl) rfl (by kernel_rfl) ?_
  refine .seq ?_
  refine .seq ?_
  refine .region ?_
  refine xo.val 2 (by kernel_rfl) (a_sub (a := (es.length : Int)) (b := 1) (by omega) (by omega)) ?_
  refine xo.done 1 [(0, Pt t 0), (3, Pt b3 0), (5, .slice A18 es.length c19), (6, .slice K20 ks.length d21), (8, I ((es.length : Int) - 1))] (by kernel_rfl) rfl (by kernel_rfl) ?_
  refine .block ?_
  have hb37 := ((hb29.ext hx33 (show b3 ≠ t by omega)).ext hx36 (show b3 ≠ t by omega))
  have hs38 := (hp31.own.ext hx36 (fun b hb (e : b = t) => hp31.own.ne hp31.blk rfl (e ▸ hb)))
  have hf39 := ((hS22.ext hx33 (fun b h1 h2 (e : b = t) => by omega) (MapAt.ne hS22.mkt hb28) (fun b cs hb (e : b = t) => Blk.ne hb hb28 rfl e)).ext hx36 (fun b h1 h2 (e : b = t) => by omega) (MapAt.ne (hS22.ext hx33 (fun b h1 h2 (e : b = t) => by omega) (MapAt.ne hS22.mkt hb28) (fun b cs hb (e : b = t) => Blk.ne hb hb28 rfl e)).mkt hp31.blk) (fun b cs hb (e : b = t) => Blk.ne hb hp31.blk rfl e))
  have hs40 := ((ho23.ext hx33 (fun b hb (e : b = t) => ho23.ne hb28 rfl (e ▸ hb))).ext hx36 (fun b hb (e : b = t) => (ho23.ext hx33 (fun b hb (e : b = t) => ho23.ne hb28 rfl (e ▸ hb))).ne hp31.blk rfl (e ▸ hb)))
  have hs41 := ((hk24.ext hx33 (fun b hb (e : b = t) => hk24.ne hb28 rfl (e ▸ hb))).ext hx36 (fun b hb (e : b = t) => (hk24.ext hx33 (fun b hb (e : b = t) => hk24.ne hb28 rfl (e ▸ hb))).ne hp31.blk rfl (e ▸ hb)))
  refine XC.loop (ι := Option Addr × Nat × Nat × List Top) (fun ⟨A_, c_, i, xs⟩ => [(0, Pt t 0), (3, Pt b3 0), (5, .slice A18 es.length c19), (6, .slice K20 ks.length d21), (8, I ((i : Int) - 1))]) (fun ⟨A_, c_, i, xs⟩ u => Blk u t 70 [Pt a.s 0, .slice A_ xs.length c_, I (rd + 1)] ∧ Own kTop u base A_ c_ xs ∧ Blk u b3 127 [S x.key, S x.val, I x.id, I x.level] ∧ Own kEntry u w.heap.size A18 c19 es ∧ Own kKid u w.heap.size K20 d21 ks ∧ StAt u a σ ∧ ¬ OwnB A_ b3 ∧ Grow w A A_ ∧ Ext (StrFp t A) w u ∧ i ≤ es.length ∧ xs = l0 ++ ((es.drop i).map (entT)).reverse) (fun ⟨A_, c_, i, xs⟩ => i) (A, c, es.length, l0) (cov_of (by kernel_rfl)) ⟨hb35, hs38, hb37, hs40.base_le (by omega), hs41.base_le (by omega), hf39, (fun hm => absurd (hT.own.lt hm).2 (by omega)), (Grow.refl), (StrFp.is (StrFp.is (StrFp.no (StrFp.no (StrFp.fresh (StrFp.no (StrFp.no StrFp.rf hx2) hx6) hx10 (by omega)) hx14) hx27) hx33) hx36), by omega, by simp⟩ ?_
  rintro ⟨A_, c_, i, xs⟩ w42 ⟨hTu, hownu, hb3u, hesu, hksu, hSu, hnbu, hGu, hEu, hi_u, hxu⟩
  have z42 := hEu.size
  have lb3u := hb3u.lt
  have lTu := hTu.lt
  have hxlu : xs.length = (l0).length + (es.length - i) := by rw [hxu, List.length_append, List.length_reverse, List.length_map, List.length_drop]
  refine .seq ?_
  refine .seq ?_
  refine .region ?_
  by_cases hc43 : ((i : Int) - 1 : Int) < 0
  · refine xo.val 1 (by kernel_rfl) (c_geq_t hc43) ?_
    refine xo.done 0 [(0, Pt t 0), (3, Pt b3 0), (5, .slice A18 es.length c19), (6, .slice K20 ks.length d21), (8, I ((i : Int) - 1)), (42, B false)] (by kernel_rfl) rfl (by kernel_rfl) ?_
    refine .condF rfl rfl ?_
    refine .exit ?_
    refine xsetTo ?_
    refine .seq ?_
    refine .seq ?_
    refine .region ?_
    refine xo.val 2 (by kernel_rfl) (a_sub (a := (ks.length : Int)) (b := 1) (by omega) (by omega)) ?_
    refine xo.done 1 [(0, Pt t 0), (3, Pt b3 0), (6, .slice K20 ks.length d21), (9, I ((ks.length : Int) - 1))] (by kernel_rfl) rfl (by kernel_rfl) ?_
    refine .block ?_
    have hi0 : i = 0 := by omega
    rw [hi0, List.drop_zero] at hxu
    refine XC.loop (ι := Option Addr × Nat × Nat × List Top) (fun ⟨B_, d_, j, ys⟩ => [(0, Pt t 0), (3, Pt b3 0), (6, .slice K20 ks.length d21), (9, I ((j : Int) - 1))]) (fun ⟨B_, d_, j, ys⟩ u => Blk u t 70 [Pt a.s 0, .slice B_ ys.length d_, I (rd + 1)] ∧ Own kTop u base B_ d_ ys ∧ Blk u b3 127 [S x.key, S x.val, I x.id, I x.level] ∧ Own kEntry u w.heap.size A18 c19 es ∧ Own kKid u w.heap.size K20 d21 ks ∧ StAt u a σ ∧ ¬ OwnB B_ b3 ∧ Grow w A B_ ∧ Ext (StrFp t A) w u ∧ j ≤ ks.length ∧ ys = xs ++ ((ks.drop j).map (kidT (x.level - 1))).reverse) (fun ⟨B_, d_, j, ys⟩ => j) (A_, c_, ks.length, xs) (cov_of (by kernel_rfl)) ⟨hTu, hownu, hb3u, hesu.base_le (by omega), hksu.base_le (by omega), hSu, hnbu, hGu, (StrFp.str StrFp.rf Grow.refl hEu), by omega, by simp⟩ ?_
    rintro ⟨B_, d_, j, ys⟩ w44 ⟨hTv, hownv, hb3v, hesv, hksv, hSv, hnbv, hGv, hEv, hi_v, hxv⟩
    have z44 := hEv.size
    have lb3v := hb3v.lt
    have lTv := hTv.lt
    have hxlv : ys.length = (xs).length + (ks.length - j) := by rw [hxv, List.length_append, List.length_reverse, List.length_map, List.length_drop]
    refine .seq ?_
    refine .seq ?_
    refine .region ?_
    by_cases hc45 : ((j : Int) - 1 : Int) < 0
    · refine xo.val 1 (by kernel_rfl) (c_geq_t hc45) ?_
      refine xo.done 0 [(0, Pt t 0), (3, Pt b3 0), (6, .slice K20 ks.length d21), (9, I ((j : Int) - 1)), (69, B false)] (by kernel_rfl) rfl (by kernel_rfl) ?_
      refine .condF rfl rfl ?_
      refine .exit ?_
      refine xsetTo ?_
      refine .seq ?_
      refine .region ?_
      refine xo.done 1 [(2, I 0)] (by kernel_rfl) rfl (by kernel_rfl) ?_
      refine .ret ?_
      refine ⟨[I 0], by kernel_rfl, _, rfl, ?_⟩
      have hi9 : j = 0 := by omega
      have hfin : ys = l0 ++ (topsOf h items).reverse := by
        rw [hxv, hi9, List.drop_zero, hxu, hX.level, ← topsOf_parts, ← hes, ← hks, List.append_assoc]
      subst hfin
      exact ⟨_, _, rfl, ⟨hTv, hownv⟩, hSv, hGv, (StrFp.str StrFp.rf Grow.refl hEv)⟩
    · refine xo.val 1 (by kernel_rfl) (c_geq_f hc45) ?_
      refine xo.done 0 [(0, Pt t 0), (3, Pt b3 0), (6, .slice K20 ks.length d21), (9, I ((j : Int) - 1)), (69, B true)] (by kernel_rfl) rfl (by kernel_rfl) ?_
      refine .condT rfl rfl ?_
      refine .skip ?_
      refine .seq ?_
      refine .block ?_
      refine XC.regionDrawM 23 (fun u => Blk u t 70 [Pt a.s 0, .slice B_ ys.length d_, I (rd + 1)] ∧ Own kKid u w.heap.size K20 d21 ks ∧ Blk u b3 127 [S x.key, S x.val, I x.id, I x.level] ∧ True) (by kernel_rfl) ?_
      intro w48 hd49
      have hx49 := Ext.ofDrew (M := No) hd49
      have z48 := hx49.size
      have hb50 := (hTv.ext hx49 (fun h => h))
      have hs51 := (hksv.ext hx49 (fun _ _ h => h))
      have hb52 := (hb3v.ext hx49 (fun h => h))
      refine ⟨⟨hb50, hs51, hb52, trivial⟩, ?_⟩
      refine xm.q (fun _ _ _ _ h => h) 0 (Pt t 0) (by kernel_rfl) (by kernel_rfl) (by kernel_rfl) ?_
      refine xm.q (fun _ _ _ _ h => h) 1 (Pt t 0) (by kernel_rfl) (by kernel_rfl) (by kernel_rfl) ?_
      refine xm.q (fun _ _ _ _ h => h) 2 (Pt t 0) (by kernel_rfl) (by kernel_rfl) (by kernel_rfl) ?_
      refine xm.q (fun _ _ _ _ h => h) 3 (Pt t 1) (by kernel_rfl) (by kernel_rfl) (by kernel_rfl) ?_
      refine xm.rd (fun _ _ _ _ h => h) 4 (by kernel_rfl) (by kernel_rfl) (by kernel_rfl) (fun u hS => (ldB (t := 68) (o := 1) (by kernel_rfl) hS.1 rfl)) ?_
      refine xm.q (fun _ _ _ _ h => h) 5 (.slice K20 ks.length d21) (by kernel_rfl) (by kernel_rfl) (by kernel_rfl) ?_
      refine xm.q (fun _ _ _ _ h => h) 6 (I ((j : Int) - 1)) (by kernel_rfl) (by kernel_rfl) (by kernel_rfl) ?_
      obtain ⟨b53, o54, x55, hi56, hA57, hl58, hh59, hr60⟩ := hs51.rd.at_ (((j : Int) - 1).toNat) (by omega)
      refine xm.rd (fun _ _ _ _ h => h) 7 (by kernel_rfl) (by kernel_rfl) (by kernel_rfl) (fun u hS => (idxZ (kk := .i64) (t := 172) (n := ks.length) (cap := d21) (sz := 2) (i := (j : Int) - 1) (by kernel_rfl) hA57 (by omega) (by omega))) ?_
      refine xm.q (fun _ _ _ _ h => h) 8 (Pt b53 (o54 + (((j : Int) - 1).toNat) * 2)) (by kernel_rfl) (by kernel_rfl) (by kernel_rfl) ?_
      refine xm.rd (fun _ _ _ _ h => h) 9 (by kernel_rfl) (by kernel_rfl) (by kernel_rfl) (fun u hS => (ld (t := 9) (by kernel_rfl) ((Rd.cs hS.2.1.rd hA57 hi56) 0 _ rfl))) ?_
      refine xm.q (fun _ _ _ _ h => h) 10 (.slice K20 ks.length d21) (by kernel_rfl) (by kernel_rfl) (by kernel_rfl) ?_
      refine xm.q (fun _ _ _ _ h => h) 11 (I ((j : Int) - 1)) (by kernel_rfl) (by kernel_rfl) (by kernel_rfl) ?_
      obtain ⟨b61, o62, x63, hi64, hA65, hl66, hh67, hr68⟩ := hs51.rd.at_ (((j : Int) - 1).toNat) (by omega)
      refine xm.rd (fun _ _ _ _ h => h) 12 (by kernel_rfl) (by kernel_rfl) (by kernel_rfl) (fun u hS => (idxZ (kk := .i64) (t := 172) (n := ks.length) (cap := d21) (sz := 2) (i := (j : Int) - 1) (by kernel_rfl) hA65 (by omega) (by omega))) ?_
      have ex69 : x55 = x63 := Option.some.inj (hi56.symm.trans hi64)
      subst ex69
      refine xm.q (fun _ _ _ _ h => h) 13 (Pt b61 ((o62 + (((j : Int) - 1).toNat) * 2) + 1)) (by kernel_rfl) (by kernel_rfl) (by kernel_rfl) ?_
      refine xm.rd (fun _ _ _ _ h => h) 14 (by kernel_rfl) (by kernel_rfl) (by kernel_rfl) (fun u hS => (ld (t := 3) (by kernel_rfl) ((Rd.cs hS.2.1.rd hA65 hi64) 1 _ rfl))) ?_
      refine xm.q (fun _ _ _ _ h => h) 15 (Pt b3 3) (by kernel_rfl) (by kernel_rfl) (by kernel_rfl) ?_
      refine xm.rd (fun _ _ _ _ h => h) 16 (by kernel_rfl) (by kernel_rfl) (by kernel_rfl) (fun u hS => (ldB (t := 3) (o := 3) (by kernel_rfl) hS.2.2.1 rfl)) ?_
      refine xm.rd (fun _ _ _ _ h => h) 17 (by kernel_rfl) (by kernel_rfl) (by kernel_rfl) (fun u hS => (a_sub (a := x.level) (b := 1) (by omega) (by omega))) ?_
      refine xm.q (fun _ _ _ _ h => h) 18 (.agg #[S x55.key, S (⟨#[]⟩), I x55.id, I (x.level - 1)]) (by kernel_rfl) (by kernel_rfl) (by kernel_rfl) ?_
      refine xm.one 19 (by kernel_rfl) ?_
      refine xo.bsl 0 68 1 #[(0, .agg #[S x55.key, S (⟨#[]⟩), I x55.id, I (x.level - 1)])] (et := 127) (cs := [S x55.key, S (⟨#[]⟩), I x55.id, I (x.level - 1)]) (by kernel_rfl) (by kernel_rfl) ?_
      intro b70 w71 hb72 hx73 hg74
      have z71 := hx73.size
      have l72 := hb72.lt
      refine xo.fin 0 (by kernel_rfl) rfl ?_
      have hb75 := (hb50.ext hx73 (fun h => h))
      have hs76 := (hs51.ext hx73 (fun _ _ h => h))
      have hb77 := (hb52.ext hx73 (fun h => h))
      refine ⟨⟨hb75, hs76, hb77, trivial⟩, ?_⟩
      refine xm.one 20 (by kernel_rfl) ?_
      have hs78 := ((hownv.ext hx49 (fun _ _ h => h)).ext hx73 (fun _ _ h => h))
      refine xo.appG 0 (ty := 68) (k := kTop) (t := 68) (tx := 68) (xs := ys) (ys := [(⟨x55.key, ⟨#[]⟩, x55.id, x.level - 1⟩ : Top)]) (x := .slice (some ⟨b70, 0, none⟩) 1 1) (by exact pTop) hs78 (src_one (k := kTop) (x := (⟨x55.key, ⟨#[]⟩, x55.id, x.level - 1⟩ : Top)) (by kernel_rfl) hb72 rfl) (by omega) (show (ys.length + 1) * 48 ≤ 140737488355328 from (by first | omega | (simp only [List.length_append, List.length_cons, List.length_nil]; omega))) (show ys.length + 1 ≤ 9223372036854775807 from (by first | omega | (simp only [List.length_append, List.length_cons, List.length_nil]; omega))) (by kernel_rfl) ?_
      intro A79 c80 w81 ho82 hx83 hG84
      have z81 := hx83.size
      have hGr85 := hGv.trans (by omega) hG84
      have hnb86 : ¬ OwnB A79 b3 := fun hm => (hG84 _ hm).elim hnbv (by omega)
      refine xo.fin 0 (by kernel_rfl) rfl ?_
      have hb87 := (hb75.ext hx83 (hs78.ne hb75 rfl))
      have hs88 := (hs76.ext hx83 (Own.disj hs76 hs78 rfl))
      have hb89 := (hb77.ext hx83 hnbv)
      refine ⟨⟨hb87, hs88, hb89, trivial⟩, ?_⟩
      refine xm.one 21 (by kernel_rfl) ?_
      refine xo.fin 1 (by kernel_rfl) rfl ?_
      refine ⟨⟨hb87, hs88, hb89, trivial⟩, ?_⟩
      refine xm.q (fun _ _ _ _ h => h) 22 (Pt t 1) (by kernel_rfl) (by kernel_rfl) (by kernel_rfl) ?_
      refine xm.past 23 (by kernel_rfl) (by kernel_rfl) ?_
      refine xo.store 0 68 (o := 1) (.slice A79 ((ys ++ [(⟨x55.key, ⟨#[]⟩, x55.id, x.level - 1⟩ : Top)]).length) c80) [Pt a.s 0, .slice A79 ((ys ++ [(⟨x55.key, ⟨#[]⟩, x55.id, x.level - 1⟩ : Top)]).length) c80, I (rd + 1)] (by kernel_rfl) hb87 (by kernel_rfl) (by kernel_rfl) (by kernel_rfl) (by kernel_rfl) ?_
      intro w90 hb91 hx92
      have z90 := hx92.size
      refine xo.fin 0 (by kernel_rfl) rfl ?_
      refine xm.done (by kernel_rfl) ?_
      refine .cov [(0, Pt t 0), (3, Pt b3 0), (6, .slice K20 ks.length d21), (9, I ((j : Int) - 1))] (cov_of (by kernel_rfl)) ?_
      refine .region ?_
      refine xo.val 1 (by kernel_rfl) (a_sub (a := (j : Int) - 1) (b := 1) (by omega) (by omega)) ?_
      refine xo.fin 1 (by kernel_rfl) rfl ?_
      have hs93 := (ho82.ext hx92 (fun b hb (e : b = t) => ho82.ne hb87 rfl (e ▸ hb)))
      have hb94 := (hb89.ext hx92 (show b3 ≠ t by omega))
      have hs95 := ((((hesv.ext hx49 (fun _ _ h => h)).ext hx73 (fun _ _ h => h)).ext hx83 (Own.disj ((hesv.ext hx49 (fun _ _ h => h)).ext hx73 (fun _ _ h => h)) hs78 rfl)).ext hx92 (fun b hb (e : b = t) => (((hesv.ext hx49 (fun _ _ h => h)).ext hx73 (fun _ _ h => h)).ext hx83 (Own.disj ((hesv.ext hx49 (fun _ _ h => h)).ext hx73 (fun _ _ h => h)) hs78 rfl)).ne hb87 rfl (e ▸ hb)))
      have hs96 := (hs88.ext hx92 (fun b hb (e : b = t) => hs88.ne hb87 rfl (e ▸ hb)))
      have hf97 := ((((hSv.no hx49).no hx73).ext hx83 (fun b h1 h2 hm => absurd (hs78.lt hm).1 (by omega)) (hs78.ne_map ((hSv.no hx49).no hx73).mkt) (fun b cs hb hm => hs78.ne hb rfl hm)).ext hx92 (fun b h1 h2 (e : b = t) => by omega) (MapAt.ne (((hSv.no hx49).no hx73).ext hx83 (fun b h1 h2 hm => absurd (hs78.lt hm).1 (by omega)) (hs78.ne_map ((hSv.no hx49).no hx73).mkt) (fun b cs hb hm => hs78.ne hb rfl hm)).mkt hb87) (fun b cs hb (e : b = t) => Blk.ne hb hb87 rfl e))
      have hi1 : ((j : Int) - 1).toNat = j - 1 := by omega
      rw [hi1] at hi56
      refine ⟨(A79, c80, j - 1, ys ++ [(⟨x55.key, ⟨#[]⟩, x55.id, x.level - 1⟩ : Top)]), ?_, ⟨hb91, hs93, hb94, hs95, hs96, hf97, hnb86, hGr85, (StrFp.is (StrFp.own (StrFp.no (StrFp.no (StrFp.str StrFp.rf Grow.refl hEv) hx49) hx73) hGv hx83) hx92), by omega, ?_⟩, by show j - 1 < j; omega⟩
      · have ec : (((j - 1 : Nat) : Int) - 1) = (j : Int) - 1 - 1 := by omega
        show Cov _ [(0, Pt t 0), (3, Pt b3 0), (6, .slice K20 ks.length d21), (9, I (((j - 1 : Nat) : Int) - 1))]
        rw [ec]; exact cov_of (by kernel_rfl)
      · rw [hxv, rev_step (f := kidT (x.level - 1)) hi56, show j - 1 + 1 = j by omega, List.append_assoc]; rfl
  · refine xo.val 1 (by kernel_rfl) (c_geq_f hc43) ?_
    refine xo.done 0 [(0, Pt t 0), (3, Pt b3 0), (5, .slice A18 es.length c19), (6, .slice K20 ks.length d21), (8, I ((i : Int) - 1)), (42, B true)] (by kernel_rfl) rfl (by kernel_rfl) ?_
    refine .condT rfl rfl ?_
    refine .skip ?_
    refine .seq ?_
    refine .block ?_
    refine XC.regionDrawM 20 (fun u => Blk u t 70 [Pt a.s 0, .slice A_ xs.length c_, I (rd + 1)] ∧ Own kEntry u w.heap.size A18 c19 es ∧ True) (by kernel_rfl) ?_
    intro w100 hd101
    have hx101 := Ext.ofDrew (M := No) hd101
    have z100 := hx101.size
    have hb102 := (hTu.ext hx101 (fun h => h))
    have hs103 := (hesu.ext hx101 (fun _ _ h => h))
    refine ⟨⟨hb102, hs103, trivial⟩, ?_⟩
    refine xm.q (fun _ _ _ _ h => h) 0 (Pt t 0) (by kernel_rfl) (by kernel_rfl) (by kernel_rfl) ?_
    refine xm.q (fun _ _ _ _ h => h) 1 (Pt t 0) (by kernel_rfl) (by kernel_rfl) (by kernel_rfl) ?_
    refine xm.q (fun _ _ _ _ h => h) 2 (Pt t 0) (by kernel_rfl) (by kernel_rfl) (by kernel_rfl) ?_
    refine xm.q (fun _ _ _ _ h => h) 3 (Pt t 1) (by kernel_rfl) (by kernel_rfl) (by kernel_rfl) ?_
    refine xm.rd (fun _ _ _ _ h => h) 4 (by kernel_rfl) (by kernel_rfl) (by kernel_rfl) (fun u hS => (ldB (t := 68) (o := 1) (by kernel_rfl) hS.1 rfl)) ?_
    refine xm.q (fun _ _ _ _ h => h) 5 (.slice A18 es.length c19) (by kernel_rfl) (by kernel_rfl) (by kernel_rfl) ?_
    refine xm.q (fun _ _ _ _ h => h) 6 (I ((i : Int) - 1)) (by kernel_rfl) (by kernel_rfl) (by kernel_rfl) ?_
    obtain ⟨b104, o105, x106, hi107, hA108, hl109, hh110, hr111⟩ := hs103.rd.at_ (((i : Int) - 1).toNat) (by omega)
    refine xm.rd (fun _ _ _ _ h => h) 7 (by kernel_rfl) (by kernel_rfl) (by kernel_rfl) (fun u hS => (idxZ (kk := .i64) (t := 36) (n := es.length) (cap := c19) (sz := 2) (i := (i : Int) - 1) (by kernel_rfl) hA108 (by omega) (by omega))) ?_
    refine xm.q (fun _ _ _ _ h => h) 8 (Pt b104 (o105 + (((i : Int) - 1).toNat) * 2)) (by kernel_rfl) (by kernel_rfl) (by kernel_rfl) ?_
    refine xm.rd (fun _ _ _ _ h => h) 9 (by kernel_rfl) (by kernel_rfl) (by kernel_rfl) (fun u hS => (ld (t := 9) (by kernel_rfl) ((Rd.cs hS.2.1.rd hA108 hi107) 0 _ rfl))) ?_
    refine xm.q (fun _ _ _ _ h => h) 10 (.slice A18 es.length c19) (by kernel_rfl) (by kernel_rfl) (by kernel_rfl) ?_
    refine xm.q (fun _ _ _ _ h => h) 11 (I ((i : Int) - 1)) (by kernel_rfl) (by kernel_rfl) (by kernel_rfl) ?_
    obtain ⟨b112, o113, x114, hi115, hA116, hl117, hh118, hr119⟩ := hs103.rd.at_ (((i : Int) - 1).toNat) (by omega)
    refine xm.rd (fun _ _ _ _ h => h) 12 (by kernel_rfl) (by kernel_rfl) (by kernel_rfl) (fun u hS => (idxZ (kk := .i64) (t := 36) (n := es.length) (cap := c19) (sz := 2) (i := (i : Int) - 1) (by kernel_rfl) hA116 (by omega) (by omega))) ?_
    have ex120 : x106 = x114 := Option.some.inj (hi107.symm.trans hi115)
    subst ex120
    refine xm.q (fun _ _ _ _ h => h) 13 (Pt b112 ((o113 + (((i : Int) - 1).toNat) * 2) + 1)) (by kernel_rfl) (by kernel_rfl) (by kernel_rfl) ?_
    refine xm.rd (fun _ _ _ _ h => h) 14 (by kernel_rfl) (by kernel_rfl) (by kernel_rfl) (fun u hS => (ld (t := 9) (by kernel_rfl) ((Rd.cs hS.2.1.rd hA116 hi115) 1 _ rfl))) ?_
    refine xm.q (fun _ _ _ _ h => h) 15 (.agg #[S x106.key, S x106.val, I 0, I 0]) (by kernel_rfl) (by kernel_rfl) (by kernel_rfl) ?_
    refine xm.one 16 (by kernel_rfl) ?_
    refine xo.bsl 0 68 1 #[(0, .agg #[S x106.key, S x106.val, I 0, I 0])] (et := 127) (cs := [S x106.key, S x106.val, I 0, I 0]) (by kernel_rfl) (by kernel_rfl) ?_
    intro b121 w122 hb123 hx124 hg125
    have z122 := hx124.size
    have l123 := hb123.lt
    refine xo.fin 0 (by kernel_rfl) rfl ?_
    have hb126 := (hb102.ext hx124 (fun h => h))
    have hs127 := (hs103.ext hx124 (fun _ _ h => h))
    refine ⟨⟨hb126, hs127, trivial⟩, ?_⟩
    refine xm.one 17 (by kernel_rfl) ?_
    have hs128 := ((hownu.ext hx101 (fun _ _ h => h)).ext hx124 (fun _ _ h => h))
    refine xo.appG 0 (ty := 68) (k := kTop) (t := 68) (tx := 68) (xs := xs) (ys := [(⟨x106.key, x106.val, 0, 0⟩ : Top)]) (x := .slice (some ⟨b121, 0, none⟩) 1 1) (by exact pTop) hs128 (src_one (k := kTop) (x := (⟨x106.key, x106.val, 0, 0⟩ : Top)) (by kernel_rfl) hb123 rfl) (by omega) (show (xs.length + 1) * 48 ≤ 140737488355328 from (by first | omega | (simp only [List.length_append, List.length_cons, List.length_nil]; omega))) (show xs.length + 1 ≤ 9223372036854775807 from (by first | omega | (simp only [List.length_append, List.length_cons, List.length_nil]; omega))) (by kernel_rfl) ?_
    intro A129 c130 w131 ho132 hx133 hG134
    have z131 := hx133.size
    have hGr135 := hGu.trans (by omega) hG134
    have hnb136 : ¬ OwnB A129 b3 := fun hm => (hG134 _ hm).elim hnbu (by omega)
    refine xo.fin 0 (by kernel_rfl) rfl ?_
    have hb137 := (hb126.ext hx133 (hs128.ne hb126 rfl))
    have hs138 := (hs127.ext hx133 (Own.disj hs127 hs128 rfl))
    refine ⟨⟨hb137, hs138, trivial⟩, ?_⟩
    refine xm.one 18 (by kernel_rfl) ?_
    refine xo.fin 1 (by kernel_rfl) rfl ?_
    refine ⟨⟨hb137, hs138, trivial⟩, ?_⟩
    refine xm.q (fun _ _ _ _ h => h) 19 (Pt t 1) (by kernel_rfl) (by kernel_rfl) (by kernel_rfl) ?_
    refine xm.past 20 (by kernel_rfl) (by kernel_rfl) ?_
    refine xo.store 0 68 (o := 1) (.slice A129 ((xs ++ [(⟨x106.key, x106.val, 0, 0⟩ : Top)]).length) c130) [Pt a.s 0, .slice A129 ((xs ++ [(⟨x106.key, x106.val, 0, 0⟩ : Top)]).length) c130, I (rd + 1)] (by kernel_rfl) hb137 (by kernel_rfl) (by kernel_rfl) (by kernel_rfl) (by kernel_rfl) ?_
    intro w139 hb140 hx141
    have z139 := hx141.size
    refine xo.fin 0 (by kernel_rfl) rfl ?_
    refine xm.done (by kernel_rfl) ?_
    refine .cov [(0, Pt t 0), (3, Pt b3 0), (5, .slice A18 es.length c19), (6, .slice K20 ks.length d21), (8, I ((i : Int) - 1))] (cov_of (by kernel_rfl)) ?_
    refine .region ?_
    refine xo.val 1 (by kernel_rfl) (a_sub (a := (i : Int) - 1) (b := 1) (by omega) (by omega)) ?_
    refine xo.fin 1 (by kernel_rfl) rfl ?_
    have hs142 := (ho132.ext hx141 (fun b hb (e : b = t) => ho132.ne hb137 rfl (e ▸ hb)))
    have hb143 := ((((hb3u.ext hx101 (fun h => h)).ext hx124 (fun h => h)).ext hx133 hnbu).ext hx141 (show b3 ≠ t by omega))
    have hs144 := (hs138.ext hx141 (fun b hb (e : b = t) => hs138.ne hb137 rfl (e ▸ hb)))
    have hs145 := ((((hksu.ext hx101 (fun _ _ h => h)).ext hx124 (fun _ _ h => h)).ext hx133 (Own.disj ((hksu.ext hx101 (fun _ _ h => h)).ext hx124 (fun _ _ h => h)) hs128 rfl)).ext hx141 (fun b hb (e : b = t) => (((hksu.ext hx101 (fun _ _ h => h)).ext hx124 (fun _ _ h => h)).ext hx133 (Own.disj ((hksu.ext hx101 (fun _ _ h => h)).ext hx124 (fun _ _ h => h)) hs128 rfl)).ne hb137 rfl (e ▸ hb)))
    have hf146 := ((((hSu.no hx101).no hx124).ext hx133 (fun b h1 h2 hm => absurd (hs128.lt hm).1 (by omega)) (hs128.ne_map ((hSu.no hx101).no hx124).mkt) (fun b cs hb hm => hs128.ne hb rfl hm)).ext hx141 (fun b h1 h2 (e : b = t) => by omega) (MapAt.ne (((hSu.no hx101).no hx124).ext hx133 (fun b h1 h2 hm => absurd (hs128.lt hm).1 (by omega)) (hs128.ne_map ((hSu.no hx101).no hx124).mkt) (fun b cs hb hm => hs128.ne hb rfl hm)).mkt hb137) (fun b cs hb (e : b = t) => Blk.ne hb hb137 rfl e))
    have hi1 : ((i : Int) - 1).toNat = i - 1 := by omega
    rw [hi1] at hi107
    refine ⟨(A129, c130, i - 1, xs ++ [(⟨x106.key, x106.val, 0, 0⟩ : Top)]), ?_, ⟨hb140, hs142, hb143, hs144, hs145, hf146, hnb136, hGr135, (StrFp.is (StrFp.own (StrFp.no (StrFp.no (StrFp.str StrFp.rf Grow.refl hEu) hx101) hx124) hGu hx133) hx141), by omega, ?_⟩, by show i - 1 < i; omega⟩
    · have ec : (((i - 1 : Nat) : Int) - 1) = (i : Int) - 1 - 1 := by omega
      show Cov _ [(0, Pt t 0), (3, Pt b3 0), (5, .slice A18 es.length c19), (6, .slice K20 ks.length d21), (8, I (((i - 1 : Nat) : Int) - 1))]
      rw [ec]; exact cov_of (by kernel_rfl)
    · rw [hxu, rev_step (f := entT) hi107, show i - 1 + 1 = i by omega, List.append_assoc]; rfl

end Go.Proofs.YtbajgpadmlnffaaGreat
