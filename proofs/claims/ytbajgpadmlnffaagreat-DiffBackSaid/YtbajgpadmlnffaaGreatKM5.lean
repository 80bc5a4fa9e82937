/-
  A part of the proofs of this seat (Del, TDel, DrawM, TyFp, Walk, Range, Bal, Inv, Loose): lemmas on which the last text leans. No condition.
-/
import Derived.Test.YtbajgpadmlnffaaGreatKM4
/- tree.cut, tree.joined: the walks. -/
namespace Go.Proofs.YtbajgpadmlnffaaGreat
open Go.V
set_option maxRecDepth 100000
set_option linter.unusedVariables false
set_option linter.unusedSimpArgs false

theorem a_addZ {P : Program} {w : World} {a b c : Int} (h : a + b = c) (h1 : -9223372036854775808 ≤ c) (h2 : c ≤ 9223372036854775807) : (vS (Op.intArith .add .i64 a b)).run P w = .ok (.value (I c)) w := by
  subst h; exact a_add h1 h2
theorem a_subZ {P : Program} {w : World} {a b c : Int} (h : a - b = c) (h1 : -9223372036854775808 ≤ c) (h2 : c ≤ 9223372036854775807) : (vS (Op.intArith .sub .i64 a b)).run P w = .ok (.value (I c)) w := by
  subst h; exact a_sub h1 h2

theorem tree_joined (h : Nat) (w : World) (a : SAd) (σ : St) (hS : StAt w a σ) (hA : Alive σ) (A : Option Addr) (cap : Nat) (items : List Item) (lo hi : Nat) (hR : Rd kItem w lo hi A items) (hhi_ : hi ≤ w.heap.size) (hl : items.length ≤ 8) (j : Nat) (hj : j < items.length) (h2 : 1 < items.length) (h20 : h ≤ 20) (hK : ∀ (i : Nat) (y : Item), items[i]? = some y → ∃ it, NodeAt σ y.kid ⟨(h : Int), it⟩ ∧ it.length ≤ 8) (lA : Option Addr) (lcap : Nat) (l : List Item) (l_lo l_hi : Nat) (hL : Rd kItem w l_lo l_hi lA l) (hlhi : l_hi ≤ w.heap.size) (hl3 : l.length ≤ 1000) :
    Ret Tryz.prog 97 [Pt a.s 0, .agg #[I (((h + 1 : Nat) : Int)), .slice A items.length cap], I (j : Int), .slice lA l.length lcap] w fun v w' => ∃ l' A' cap' p q, v = .tuple #[.slice A' l'.length cap', I ((p : Nat) : Int), I ((q : Nat) : Int), I 0] ∧ ((j + 1 < items.length ∧ ∃ y ny, items[j + 1]? = some y ∧ NodeAt σ y.kid ny ∧ l' = l ++ ny.items ∧ p = j ∧ q = j + 2) ∨ (¬ j + 1 < items.length ∧ ∃ y ny, items[j - 1]? = some y ∧ NodeAt σ y.kid ny ∧ l' = ny.items ++ l ∧ p = j - 1 ∧ q = j + 1)) ∧ l'.length ≤ l.length + 8 ∧ Own kItem w' w.heap.size A' cap' l' ∧ StAt w' a σ ∧ Ext No w w' := by
  have lS := hS.bs.lt
  have lMc := hS.mc.lt
  have lMk := hS.mkt.lt
  have hhi := hS.hi
  have nSC : a.s ≠ a.mc := fun e => MapAt.ne hS.mc hS.bs e.symm
  have nKC : a.mkk ≠ a.mc := fun e => hS.cmk e.symm
  refine calls_of_XC Tryz.func97 rfl rfl ?_
  refine .seq ?_
  refine .region ?_
  refine xo.box 0 113 (.agg #[I (((h + 1 : Nat) : Int)), .slice A items.length cap]) [I (((h + 1 : Nat) : Int)), .slice A items.length cap] (by kernel_rfl) (by kernel_rfl) ?_
  intro b1 w2 hb3 hx4 hg5
  have z2 := hx4.size
  have l3 := hb3.lt
  refine xo.done 4 [(0, Pt a.s 0), (2, I (j : Int)), (3, .slice lA l.length lcap), (5, Pt b1 0)] (by kernel_rfl) rfl (by kernel_rfl) ?_
  refine .seq ?_
  refine .seq ?_
  refine .region ?_
  refine xo.val 1 (by kernel_rfl) (a_add (a := (j : Int)) (b := 1) (by omega) (by omega)) ?_
  refine xo.val 1 (by kernel_rfl) (ldB (t := 111) (o := 1) (by kernel_rfl) hb3 rfl) ?_
  by_cases hc6 : ((j : Int) + 1 : Int) < (items.length : Int)
  · refine xo.val 1 (by kernel_rfl) (c_lss_t hc6) ?_
    refine xo.done 0 [(0, Pt a.s 0), (2, I (j : Int)), (3, .slice lA l.length lcap), (5, Pt b1 0), (21, B true)] (by kernel_rfl) rfl (by kernel_rfl) ?_
    refine .condT rfl rfl ?_
    refine .seq ?_
    refine .region ?_
    refine xo.val 1 (by kernel_rfl) (ldBA (t := 113) (o := 0) (vs := [I (((h + 1 : Nat) : Int)), .slice A items.length cap]) (by kernel_rfl) hb3 rfl) ?_
    refine xo.val 1 (by kernel_rfl) (a_addZ (a := (j : Int)) (b := 1) (c := ((j + 1 : Nat) : Int)) (by omega) (by omega) (by omega)) ?_
    have hs7 := (hR.ext hx4 (fun _ _ _ h => h))
    obtain ⟨y0, hy0⟩ : ∃ y0, items[j + 1]? = some y0 := ⟨_, List.getElem?_eq_getElem (by omega)⟩
    obtain ⟨it, hNy, hit8⟩ := hK _ y0 hy0
    have hf12 := (hS.no hx4)
    refine xo.ret 0 (by kernel_rfl) (cf96 _ _) (tree_below _ a σ hf12 hA ((h + 1 : Nat) : Int) A cap items lo hi hs7 (by omega) (j + 1) y0 hy0 ⟨(h : Int), it⟩ hNy (show (h : Int) = ((h + 1 : Nat) : Int) - 1 by omega) (by omega)) ?_
    rintro _ w13 ⟨A8, c9, rfl, hS10, hx14, ho11⟩
    have z13 := hx14.size
    refine xo.alloc 3 113 [I 0, .slice none 0 0] (by kernel_rfl) (by kernel_rfl) ?_
    intro b15 w16 hb17 hx18 hg19
    have z16 := hx18.size
    have l17 := hb17.lt
    refine xo.store 0 113 (o := 0) (.agg #[I (h : Int), .slice A8 it.length c9]) [I (h : Int), .slice A8 it.length c9] (by kernel_rfl) hb17 (by kernel_rfl) (by kernel_rfl) (by kernel_rfl) (by kernel_rfl) ?_
    intro w20 hb21 hx22
    have z20 := hx22.size
    refine xo.done 1 [(2, I (j : Int)), (3, .slice lA l.length lcap), (12, Pt b15 0), (13, I 0)] (by kernel_rfl) rfl (by kernel_rfl) ?_
    refine .seq ?_
    refine .region ?_
    refine xo.val 2 (by kernel_rfl) (ldB (t := 111) (o := 1) (by kernel_rfl) hb21 rfl) ?_
    refine xo.bsl 0 168 2 #[(0, .slice lA l.length lcap), (1, .slice A8 it.length c9)] (et := 111) (cs := [.slice lA l.length lcap, .slice A8 it.length c9]) (by kernel_rfl) (by kernel_rfl) ?_
    intro b23 w24 hb25 hx26 hg27
    have z24 := hx26.size
    have l25 := hb25.lt
    have hs28 := (((((hL.ext hx4 (fun _ _ _ h => h)).ext hx14 (fun _ _ _ h => h)).ext hx18 (fun _ _ _ h => h)).ext hx22 (fun b h1 h2 (e : b = b15) => by omega)).ext hx26 (fun _ _ _ h => h))
    have hs29 := (((ho11.ext hx18 (fun _ _ h => h)).ext hx22 (fun b hb (e : b = b15) => (ho11.ext hx18 (fun _ _ h => h)).ne hb17 rfl (e ▸ hb))).ext hx26 (fun _ _ h => h))
    refine xo.ret 0 (by kernel_rfl) (cf111 _ _) (cat2_item _ b23 lA lcap l l_lo l_hi hs28 (by omega) (by omega) A8 c9 it w2.heap.size w24.heap.size hs29.rd (by omega) (by omega) hb25) ?_
    rintro _ w33 ⟨A30, c31, rfl, ho32, hx34⟩
    have z33 := hx34.size
    refine xo.val 2 (by kernel_rfl) (a_addZ (a := (j : Int)) (b := 2) (c := ((j + 2 : Nat) : Int)) (by omega) (by omega) (by omega)) ?_
    refine xo.done 5 [(8, .slice A30 ((l ++ it).length) c31), (9, I (j : Int)), (10, I (((j + 2 : Nat) : Int))), (11, I 0)] (by kernel_rfl) rfl (by kernel_rfl) ?_
    refine .ret ?_
    refine ⟨[.slice A30 ((l ++ it).length) c31, I (j : Int), I (((j + 2 : Nat) : Int)), I 0], by kernel_rfl, _, rfl, ?_⟩
    have hf35 := ((((hS10.no hx18).ext hx22 (fun b h1 h2 (e : b = b15) => by omega) (MapAt.ne (hS10.no hx18).mkt hb17) (fun b cs hb (e : b = b15) => Blk.ne hb hb17 rfl e)).no hx26).no hx34)
    exact ⟨l ++ it, _, _, _, _, rfl, .inl ⟨by omega, y0, _, hy0, hNy, rfl, rfl, rfl⟩, by simp only [List.length_append]; omega, ho32.base_le (by omega), hf35, (((((hx4.trans' hx14 (fun _ _ h => h) (fun b hb h => h)).trans' hx18 (fun _ _ h => h) (fun b hb h => h)).trans' hx22 (fun _ _ h => h) (fun b hb (e : b = b15) => absurd hb (by omega))).trans' hx26 (fun _ _ h => h) (fun b hb h => h)).trans' hx34 (fun _ _ h => h) (fun b hb h => h))⟩
  · refine xo.val 1 (by kernel_rfl) (c_lss_f hc6) ?_
    refine xo.done 0 [(0, Pt a.s 0), (2, I (j : Int)), (3, .slice lA l.length lcap), (5, Pt b1 0), (21, B false)] (by kernel_rfl) rfl (by kernel_rfl) ?_
    refine .condF rfl rfl ?_
    refine .skip ?_
    refine .seq ?_
    refine .region ?_
    refine xo.val 1 (by kernel_rfl) (ldBA (t := 113) (o := 0) (vs := [I (((h + 1 : Nat) : Int)), .slice A items.length cap]) (by kernel_rfl) hb3 rfl) ?_
    refine xo.val 1 (by kernel_rfl) (a_subZ (a := (j : Int)) (b := 1) (c := ((j - 1 : Nat) : Int)) (by omega) (by omega) (by omega)) ?_
    have hs36 := (hR.ext hx4 (fun _ _ _ h => h))
    obtain ⟨y0, hy0⟩ : ∃ y0, items[j - 1]? = some y0 := ⟨_, List.getElem?_eq_getElem (by omega)⟩
    obtain ⟨it, hNy, hit8⟩ := hK _ y0 hy0
    have hf41 := (hS.no hx4)
    refine xo.ret 0 (by kernel_rfl) (cf96 _ _) (tree_below _ a σ hf41 hA ((h + 1 : Nat) : Int) A cap items lo hi hs36 (by omega) (j - 1) y0 hy0 ⟨(h : Int), it⟩ hNy (show (h : Int) = ((h + 1 : Nat) : Int) - 1 by omega) (by omega)) ?_
    rintro _ w42 ⟨A37, c38, rfl, hS39, hx43, ho40⟩
    have z42 := hx43.size
    refine xo.alloc 3 113 [I 0, .slice none 0 0] (by kernel_rfl) (by kernel_rfl) ?_
    intro b44 w45 hb46 hx47 hg48
    have z45 := hx47.size
    have l46 := hb46.lt
    refine xo.store 0 113 (o := 0) (.agg #[I (h : Int), .slice A37 it.length c38]) [I (h : Int), .slice A37 it.length c38] (by kernel_rfl) hb46 (by kernel_rfl) (by kernel_rfl) (by kernel_rfl) (by kernel_rfl) ?_
    intro w49 hb50 hx51
    have z49 := hx51.size
    refine xo.done 1 [(2, I (j : Int)), (3, .slice lA l.length lcap), (14, Pt b44 0), (15, I 0)] (by kernel_rfl) rfl (by kernel_rfl) ?_
    refine .seq ?_
    refine .region ?_
    refine xo.val 1 (by kernel_rfl) (ldB (t := 111) (o := 1) (by kernel_rfl) hb50 rfl) ?_
    refine xo.bsl 1 168 2 #[(0, .slice A37 it.length c38), (1, .slice lA l.length lcap)] (et := 111) (cs := [.slice A37 it.length c38, .slice lA l.length lcap]) (by kernel_rfl) (by kernel_rfl) ?_
    intro b52 w53 hb54 hx55 hg56
    have z53 := hx55.size
    have l54 := hb54.lt
    have hs57 := (((ho40.ext hx47 (fun _ _ h => h)).ext hx51 (fun b hb (e : b = b44) => (ho40.ext hx47 (fun _ _ h => h)).ne hb46 rfl (e ▸ hb))).ext hx55 (fun _ _ h => h))
    have hs58 := (((((hL.ext hx4 (fun _ _ _ h => h)).ext hx43 (fun _ _ _ h => h)).ext hx47 (fun _ _ _ h => h)).ext hx51 (fun b h1 h2 (e : b = b44) => by omega)).ext hx55 (fun _ _ _ h => h))
    refine xo.ret 0 (by kernel_rfl) (cf111 _ _) (cat2_item _ b52 A37 c38 it w2.heap.size w53.heap.size hs57.rd (by omega) (by omega) lA lcap l l_lo l_hi hs58 (by omega) (by omega) hb54) ?_
    rintro _ w62 ⟨A59, c60, rfl, ho61, hx63⟩
    have z62 := hx63.size
    refine xo.val 1 (by kernel_rfl) (a_subZ (a := (j : Int)) (b := 1) (c := ((j - 1 : Nat) : Int)) (by omega) (by omega) (by omega)) ?_
    refine xo.val 1 (by kernel_rfl) (a_addZ (a := (j : Int)) (b := 1) (c := ((j + 1 : Nat) : Int)) (by omega) (by omega) (by omega)) ?_
    refine xo.done 5 [(8, .slice A59 ((it ++ l).length) c60), (9, I (((j - 1 : Nat) : Int))), (10, I (((j + 1 : Nat) : Int))), (11, I 0)] (by kernel_rfl) rfl (by kernel_rfl) ?_
    refine .ret ?_
    refine ⟨[.slice A59 ((it ++ l).length) c60, I (((j - 1 : Nat) : Int)), I (((j + 1 : Nat) : Int)), I 0], by kernel_rfl, _, rfl, ?_⟩
    have hf64 := ((((hS39.no hx47).ext hx51 (fun b h1 h2 (e : b = b44) => by omega) (MapAt.ne (hS39.no hx47).mkt hb46) (fun b cs hb (e : b = b44) => Blk.ne hb hb46 rfl e)).no hx55).no hx63)
    exact ⟨it ++ l, _, _, _, _, rfl, .inr ⟨by omega, y0, _, hy0, hNy, rfl, rfl, rfl⟩, by simp only [List.length_append]; omega, ho61.base_le (by omega), hf64, (((((hx4.trans' hx43 (fun _ _ h => h) (fun b hb h => h)).trans' hx47 (fun _ _ h => h) (fun b hb h => h)).trans' hx51 (fun _ _ h => h) (fun b hb (e : b = b44) => absurd hb (by omega))).trans' hx55 (fun _ _ h => h) (fun b hb h => h)).trans' hx63 (fun _ _ h => h) (fun b hb h => h))⟩

def CutOut (key : ByteArray) (h : Nat) (items : List Item) (a : SAd) (σ : St) (w : World) (v : Value) (w' : World) : Prop :=
  ∃ σ', StAt w' a σ' ∧ Ext a.fpp w w' ∧ ((∃ A m cap b, v = .tuple #[.slice A m cap, B b, I 28] ∧ CutR key h σ ⟨(h : Int), items⟩ σ' (.error 28)) ∨ (v = .tuple #[.slice none 0 0, B false, I 0] ∧ CutR key h σ ⟨(h : Int), items⟩ σ' (.ok none)) ∨
    (∃ l A cap, v = .tuple #[.slice A l.length cap, B true, I 0] ∧ CutR key h σ ⟨(h : Int), items⟩ σ' (.ok (some l)) ∧ Own kItem w' w.heap.size A cap l))
def CutOK (h : Nat) : Prop := ∀ (w : World) (a : SAd) (σ : St) (hS : StAt w a σ) (hA : Alive σ) (key : ByteArray) (A : Option Addr) (cap : Nat) (items : List Item) (lo hi : Nat) (hR : Rd kItem w lo hi A items) (hhi_ : hi ≤ w.heap.size) (hcap : items.length ≤ cap)
    (hN : NI h ⟨(h : Int), items⟩) (E : List KV) (hC : Cont σ h items E) (hE : SortedE E) (h2 : h = 0 ∨ 2 ≤ items.length),
    Ret Tryz.prog 69 [Pt a.s 0, .agg #[I (h : Int), .slice A items.length cap], S key] w fun v w' => CutOut key h items a σ w v w'
theorem Cont.kid_at {σ : St} {h : Nat} {l : List Item} {E : List KV} (c : Cont σ (h + 1) l E) {i : Nat} {y : Item} (hy : l[i]? = some y) : ∃ it, NodeAt σ y.kid ⟨(h : Int), it⟩ ∧ it.length ≤ 8 := by
  obtain ⟨nd, r⟩ := c.kids y (List.mem_of_getElem? hy)
  obtain ⟨lv, it⟩ := nd
  have e : lv = (h : Int) := r.ni.level
  subst e
  exact ⟨it, r.node, r.ni.few⟩

theorem tree_cut0 (w : World) (a : SAd) (σ : St) (hS : StAt w a σ) (hA : Alive σ) (key : ByteArray) (A : Option Addr) (cap : Nat) (items : List Item) (lo hi : Nat) (hR : Rd kItem w lo hi A items) (hhi_ : hi ≤ w.heap.size) (hcap : items.length ≤ cap) (hN : NI 0 ⟨((0 : Nat) : Int), items⟩) :
    Ret Tryz.prog 69 [Pt a.s 0, .agg #[I 0, .slice A items.length cap], S key] w fun v w' => CutOut key 0 items a σ w v w' := by
  have lS := hS.bs.lt
  have lMc := hS.mc.lt
  have lMk := hS.mkt.lt
  have hhi := hS.hi
  have nSC : a.s ≠ a.mc := fun e => MapAt.ne hS.mc hS.bs e.symm
  have nKC : a.mkk ≠ a.mc := fun e => hS.cmk e.symm
  have h8 : items.length ≤ 8 := hN.few
  have h1 : 0 < items.length := hN.pos
  have hs : SortedI items := hN.sorted
  have hn4 := hA.n4
  refine calls_of_XC Tryz.func69 rfl rfl ?_
  refine .seq ?_
  refine .region ?_
  refine xo.box 0 113 (.agg #[I 0, .slice A items.length cap]) [I 0, .slice A items.length cap] (by kernel_rfl) (by kernel_rfl) ?_
  intro b1 w2 hb3 hx4 hg5
  have z2 := hx4.size
  have l3 := hb3.lt
  refine xo.done 3 [(0, Pt a.s 0), (2, S key), (4, Pt b1 0)] (by kernel_rfl) rfl (by kernel_rfl) ?_
  refine .seq ?_
  refine .seq ?_
  refine .region ?_
  refine xo.val 1 (by kernel_rfl) (ldB (t := 3) (o := 0) (by kernel_rfl) hb3 rfl) ?_
  refine xo.done 1 [(0, Pt a.s 0), (2, S key), (4, Pt b1 0), (21, B true)] (by kernel_rfl) rfl (by kernel_rfl) ?_
  refine .condT rfl rfl ?_
  refine .seq ?_
  refine .region ?_
  refine xo.val 1 (by kernel_rfl) (ldB (t := 111) (o := 1) (by kernel_rfl) hb3 rfl) ?_
  have hs6 := (hR.ext hx4 (fun _ _ _ h => h))
  refine xo.ret 1 (by kernel_rfl) (cf93 _ _) (tree_place _ A cap items lo hi hs6 (by omega) (by omega) hs key) ?_
  rintro _ w10 ⟨i7, ok8, rfl, hP9, hx11⟩
  have z10 := hx11.size
  have hil_ : i7 ≤ items.length := hP9.1
  obtain hfalse | htrue : ok8 = false ∨ ok8 = true := by cases ok8 <;> simp
  · subst hfalse
    refine xo.done 5 [(4, Pt b1 0), (9, I (i7 : Int)), (10, B false)] (by kernel_rfl) rfl (by kernel_rfl) ?_
    refine .seq ?_
    refine .seq ?_
    refine .region ?_
    refine xo.done 2 [(4, Pt b1 0), (9, I (i7 : Int)), (30, B true)] (by kernel_rfl) rfl (by kernel_rfl) ?_
    refine .condT rfl rfl ?_
    refine .seq ?_
    refine .region ?_
    refine xo.done 3 [(6, .slice none 0 0), (7, B false), (8, I 0)] (by kernel_rfl) rfl (by kernel_rfl) ?_
    refine .ret ?_
    refine ⟨[.slice none 0 0, B false, I 0], by kernel_rfl, _, rfl, ?_⟩
    have hf12 := ((hS.no hx4).no hx11)
    exact ⟨σ, hf12, ((hx4.weak fun b hb h => h.elim).trans' hx11 (fun _ _ h => h) (fun b hb h => h.elim)), .inr (.inl ⟨rfl, rfl, i7, false, hP9, rfl⟩)⟩
  · subst htrue
    have hlt_ : i7 < items.length := by
      obtain ⟨x, hx, _⟩ := hP9.2.2.2.1 rfl
      exact (List.getElem?_eq_some_iff.1 hx).1
    refine xo.done 5 [(4, Pt b1 0), (9, I (i7 : Int)), (10, B true)] (by kernel_rfl) rfl (by kernel_rfl) ?_
    refine .seq ?_
    refine .seq ?_
    refine .region ?_
    refine xo.done 2 [(4, Pt b1 0), (9, I (i7 : Int)), (30, B false)] (by kernel_rfl) rfl (by kernel_rfl) ?_
    refine .condF rfl rfl ?_
    refine .skip ?_
    refine .seq ?_
    refine .region ?_
    have hb13 := (hb3.ext hx11 (fun h => h))
    refine xo.val 1 (by kernel_rfl) (ldB (t := 111) (o := 1) (by kernel_rfl) hb13 rfl) ?_
    refine xo.val 2 (by kernel_rfl) (a_addZ (a := (i7 : Int)) (b := 1) (c := ((i7 + 1 : Nat) : Int)) (by omega) (by omega) (by omega)) ?_
    have hs14 := (hs6.ext hx11 (fun _ _ _ h => h))
    refine xo.ret 0 (by kernel_rfl) (cf94 _ _) (tree_swap _ A cap items lo hi hs14 (by omega) hcap (by omega) none 0 [] 0 0 (Rd.nil (k := _)) (by omega) (by simp) i7 ((((i7 + 1 : Nat) : Int)).toNat) (by omega) (by omega)) ?_
    rintro _ w18 ⟨A15, c16, rfl, ho17, hx19⟩
    have z18 := hx19.size
    refine xo.done 3 [(6, .slice A15 ((swapL items i7 ((((i7 + 1 : Nat) : Int)).toNat) ([])).length) c16), (7, B true), (8, I 0)] (by kernel_rfl) rfl (by kernel_rfl) ?_
    refine .ret ?_
    refine ⟨[.slice A15 ((swapL items i7 ((((i7 + 1 : Nat) : Int)).toNat) ([])).length) c16, B true, I 0], by kernel_rfl, _, rfl, ?_⟩
    have hf20 := (((hS.no hx4).no hx11).no hx19)
    exact ⟨σ, hf20, (((hx4.weak fun b hb h => h.elim).trans' hx11 (fun _ _ h => h) (fun b hb h => h.elim)).trans' hx19 (fun _ _ h => h) (fun b hb h => h.elim)), .inr (.inr ⟨_, A15, c16, rfl, ⟨rfl, i7, true, hP9, rfl⟩, ho17.base_le (by omega)⟩)⟩

theorem tree_cutS (h : Nat) (ih : CutOK h) (w : World) (a : SAd) (σ : St) (hS : StAt w a σ) (hA : Alive σ) (key : ByteArray) (A : Option Addr) (cap : Nat) (items : List Item) (lo hi : Nat) (hR : Rd kItem w lo hi A items) (hhi_ : hi ≤ w.heap.size) (hcap : items.length ≤ cap) (hN : NI (h + 1) ⟨((h + 1 : Nat) : Int), items⟩) (E : List KV) (hC : Cont σ (h + 1) items E) (hE : SortedE E) (h2 : 2 ≤ items.length) :
    Ret Tryz.prog 69 [Pt a.s 0, .agg #[I (((h + 1 : Nat) : Int)), .slice A items.length cap], S key] w fun v w' => CutOut key (h + 1) items a σ w v w' := by
  have lS := hS.bs.lt
  have lMc := hS.mc.lt
  have lMk := hS.mkt.lt
  have hhi := hS.hi
  have nSC : a.s ≠ a.mc := fun e => MapAt.ne hS.mc hS.bs e.symm
  have nKC : a.mkk ≠ a.mc := fun e => hS.cmk e.symm
  have h8 : items.length ≤ 8 := hN.few
  have h1 : 0 < items.length := hN.pos
  have hs : SortedI items := hN.sorted
  have hn4 := hA.n4
  have h20 : h + 1 ≤ 20 := hN.high
  refine calls_of_XC Tryz.func69 rfl rfl ?_
  refine .seq ?_
  refine .region ?_
  refine xo.box 0 113 (.agg #[I (((h + 1 : Nat) : Int)), .slice A items.length cap]) [I (((h + 1 : Nat) : Int)), .slice A items.length cap] (by kernel_rfl) (by kernel_rfl) ?_
  intro b1 w2 hb3 hx4 hg5
  have z2 := hx4.size
  have l3 := hb3.lt
  refine xo.done 3 [(0, Pt a.s 0), (2, S key), (4, Pt b1 0)] (by kernel_rfl) rfl (by kernel_rfl) ?_
  refine .seq ?_
  refine .seq ?_
  refine .region ?_
  refine xo.val 1 (by kernel_rfl) (ldB (t := 3) (o := 0) (by kernel_rfl) hb3 rfl) ?_
  refine xo.val 0 (by kernel_rfl) (c_eql_f (show ¬ ((((h + 1 : Nat) : Int) : Int) = 0) from (by omega))) ?_
  refine xo.done 0 [(0, Pt a.s 0), (2, S key), (4, Pt b1 0), (21, B false)] (by kernel_rfl) rfl (by kernel_rfl) ?_
  refine .condF rfl rfl ?_
  refine .skip ?_
  refine .seq ?_
  refine .region ?_
  refine xo.val 1 (by kernel_rfl) (ldB (t := 111) (o := 1) (by kernel_rfl) hb3 rfl) ?_
  have hs6 := (hR.ext hx4 (fun _ _ _ h => h))
  refine xo.ret 1 (by kernel_rfl) (cf95 _ _) (tree_way _ A cap items lo hi hs6 (by omega) (by omega) hs key) ?_
  rintro _ w7 ⟨j, rfl, hW, hx8⟩
  have z7 := hx8.size
  obtain ⟨x0, EA, EX, EB, hx0, hjl, hEe, cA, cX, cB, hA_, hB_⟩ := way_split hC hE hW hN.pos
  obtain ⟨it, r1, r4, rc⟩ := kid_of cX
  have hE' : SortedE (EA ++ EX ++ EB) := by rw [← hEe]; exact hE
  have hsX : SortedE EX := (List.pairwise_append.1 (List.pairwise_append.1 hE').1).2.1
  have hit8 : it.length ≤ 8 := r1.ni.few
  refine xo.done 1 [(0, Pt a.s 0), (2, S key), (4, Pt b1 0), (11, I (j : Int))] (by kernel_rfl) rfl (by kernel_rfl) ?_
  refine .seq ?_
  refine .region ?_
  have hb9 := (hb3.ext hx8 (fun h => h))
  refine xo.val 1 (by kernel_rfl) (ldBA (t := 113) (o := 0) (vs := [I (((h + 1 : Nat) : Int)), .slice A items.length cap]) (by kernel_rfl) hb9 rfl) ?_
  have hs10 := (hs6.ext hx8 (fun _ _ _ h => h))
  have hf15 := ((hS.no hx4).no hx8)
  refine xo.ret 1 (by kernel_rfl) (cf96 _ _) (tree_below _ a σ hf15 hA ((h + 1 : Nat) : Int) A cap items lo hi hs10 (by omega) j x0 hx0 (⟨(h : Int), it⟩ : Node) r1.node (show (h : Int) = ((h + 1 : Nat) : Int) - 1 by omega) (by omega)) ?_
  rintro _ w16 ⟨A11, c12, rfl, hS13, hx17, ho14⟩
  have z16 := hx17.size
  refine xo.alloc 3 113 [I 0, .slice none 0 0] (by kernel_rfl) (by kernel_rfl) ?_
  intro b18 w19 hb20 hx21 hg22
  have z19 := hx21.size
  have l20 := hb20.lt
  refine xo.store 0 113 (o := 0) (.agg #[I (h : Int), .slice A11 it.length c12]) [I (h : Int), .slice A11 it.length c12] (by kernel_rfl) hb20 (by kernel_rfl) (by kernel_rfl) (by kernel_rfl) (by kernel_rfl) ?_
  intro w23 hb24 hx25
  have z23 := hx25.size
  refine xo.done 1 [(0, Pt a.s 0), (2, S key), (4, Pt b1 0), (11, I (j : Int)), (12, Pt b18 0), (13, I 0)] (by kernel_rfl) rfl (by kernel_rfl) ?_
  refine .seq ?_
  refine .seq ?_
  refine .region ?_
  refine xo.done 2 [(0, Pt a.s 0), (2, S key), (4, Pt b1 0), (11, I (j : Int)), (12, Pt b18 0), (13, I 0), (49, B false)] (by kernel_rfl) rfl (by kernel_rfl) ?_
  refine .condF rfl rfl ?_
  refine .skip ?_
  refine .seq ?_
  refine .region ?_
  refine xo.val 1 (by kernel_rfl) (ldBA (t := 113) (o := 0) (vs := [I (h : Int), .slice A11 it.length c12]) (by kernel_rfl) hb24 rfl) ?_
  have hs26 := ((ho14.ext hx21 (fun _ _ h => h)).ext hx25 (fun b hb (e : b = b18) => (ho14.ext hx21 (fun _ _ h => h)).ne hb20 rfl (e ▸ hb)))
  have hf27 := ((hS13.no hx21).ext hx25 (fun b h1 h2 (e : b = b18) => by omega) (MapAt.ne (hS13.no hx21).mkt hb20) (fun b cs hb (e : b = b18) => Blk.ne hb hb20 rfl e))
  refine xo.ret 1 (by kernel_rfl) (cf69 _ _) (ih _ a σ hf27 hA key A11 c12 it w7.heap.size w23.heap.size hs26.rd (by omega) hs26.cap_le r1.ni EX rc hsX (.inr (by omega))) ?_
  rintro _ w28 ⟨σ29, hS30, hx31, (⟨A32, m36, c33, b37, rfl, hR35⟩ | ⟨rfl, hR35⟩ | ⟨l, A32, c33, rfl, hR35, ho34⟩)⟩
  · have z28 := hx31.size
    refine xo.done 7 [(0, Pt a.s 0), (4, Pt b1 0), (11, I (j : Int)), (13, I 28), (14, .slice A32 m36 c33), (15, B b37)] (by kernel_rfl) rfl (by kernel_rfl) ?_
    refine .seq ?_
    refine .seq ?_
    refine .region ?_
    refine xo.done 6 [(0, Pt a.s 0), (4, Pt b1 0), (11, I (j : Int)), (13, I 28), (14, .slice A32 m36 c33), (15, B b37), (64, B true)] (by kernel_rfl) rfl (by kernel_rfl) ?_
    refine .condT rfl rfl ?_
    refine .seq ?_
    refine .region ?_
    refine xo.done 5 [(6, .slice none 0 0), (7, B b37), (8, I 28)] (by kernel_rfl) rfl (by kernel_rfl) ?_
    refine .ret ?_
    refine ⟨[.slice none 0 0, B b37, I 28], by kernel_rfl, _, rfl, ?_⟩
    exact ⟨σ29, hS30, ((((((hx4.weak fun b hb h => h.elim).trans' hx8 (fun _ _ h => h) (fun b hb h => h.elim)).trans' hx17 (fun _ _ h => h) (fun b hb h => h.elim)).trans' hx21 (fun _ _ h => h) (fun b hb h => h.elim)).trans' hx25 (fun _ _ h => h) (fun b hb (q : b = b18) => absurd hb (by omega))).trans' hx31 (fun _ _ h => h) (fun b hb q => q)), .inl ⟨_, _, _, _, rfl, ⟨j, x0, (⟨(h : Int), it⟩ : Node), σ29, .error 28, hW, hx0, r1.node, hR35, .inl ⟨_, rfl, rfl, rfl⟩⟩⟩⟩
  · have z28 := hx31.size
    refine xo.done 7 [(0, Pt a.s 0), (4, Pt b1 0), (11, I (j : Int)), (13, I 0), (14, .slice none 0 0), (15, B false)] (by kernel_rfl) rfl (by kernel_rfl) ?_
    refine .seq ?_
    refine .seq ?_
    refine .region ?_
    refine xo.done 6 [(0, Pt a.s 0), (4, Pt b1 0), (11, I (j : Int)), (13, I 0), (14, .slice none 0 0), (15, B false), (64, B true)] (by kernel_rfl) rfl (by kernel_rfl) ?_
    refine .condT rfl rfl ?_
    refine .seq ?_
    refine .region ?_
    refine xo.done 5 [(6, .slice none 0 0), (7, B false), (8, I 0)] (by kernel_rfl) rfl (by kernel_rfl) ?_
    refine .ret ?_
    refine ⟨[.slice none 0 0, B false, I 0], by kernel_rfl, _, rfl, ?_⟩
    exact ⟨σ29, hS30, ((((((hx4.weak fun b hb h => h.elim).trans' hx8 (fun _ _ h => h) (fun b hb h => h.elim)).trans' hx17 (fun _ _ h => h) (fun b hb h => h.elim)).trans' hx21 (fun _ _ h => h) (fun b hb h => h.elim)).trans' hx25 (fun _ _ h => h) (fun b hb (q : b = b18) => absurd hb (by omega))).trans' hx31 (fun _ _ h => h) (fun b hb q => q)), .inr (.inl ⟨rfl, ⟨j, x0, (⟨(h : Int), it⟩ : Node), σ29, .ok none, hW, hx0, r1.node, hR35, .inr (.inl ⟨rfl, rfl, rfl⟩)⟩⟩)⟩
  · have z28 := hx31.size
    obtain ⟨hkeep, _, _, hw1, _⟩ := cutR_main h _ _ _ _ EX hR35 r1.ni rc hsX hn4 (.inr (by show 2 ≤ it.length; omega))
    obtain ⟨hcl, hitl, hl3, hl8⟩ := hw1 _ rfl
    simp only at hl3 hl8
    refine xo.done 7 [(0, Pt a.s 0), (4, Pt b1 0), (11, I (j : Int)), (13, I 0), (14, .slice A32 l.length c33), (15, B true)] (by kernel_rfl) rfl (by kernel_rfl) ?_
    refine .seq ?_
    refine .seq ?_
    refine .region ?_
    refine xo.done 6 [(0, Pt a.s 0), (4, Pt b1 0), (11, I (j : Int)), (13, I 0), (14, .slice A32 l.length c33), (15, B true), (64, B false)] (by kernel_rfl) rfl (by kernel_rfl) ?_
    refine .condF rfl rfl ?_
    refine .skip ?_
    refine .seq ?_
    refine .region ?_
    refine xo.val 2 (by kernel_rfl) (a_addZ (a := (j : Int)) (b := 1) (c := ((j + 1 : Nat) : Int)) (by omega) (by omega) (by omega)) ?_
    refine xo.done 2 [(0, Pt a.s 0), (4, Pt b1 0), (11, I (j : Int)), (14, .slice A32 l.length c33), (16, I (j : Int)), (17, I (((j + 1 : Nat) : Int)))] (by kernel_rfl) rfl (by kernel_rfl) ?_
    refine .seq ?_
    refine .seq ?_
    refine .region ?_
    by_cases hc38 : ((l.length : Int) : Int) < 4
    · refine xo.val 2 (by kernel_rfl) (c_lss_t hc38) ?_
      have hb39 := ((((hb9.ext hx17 (fun h => h)).ext hx21 (fun h => h)).ext hx25 (show b1 ≠ b18 by omega)).extm hx31 hf27.maps)
      refine xo.val 2 (by kernel_rfl) (ldB (t := 111) (o := 1) (by kernel_rfl) hb39 rfl) ?_
      refine xo.val 1 (by kernel_rfl) (c_gtr_f (show ¬ (((items.length : Int) : Int) ≤ 1) from (by omega))) ?_
      refine xo.done 1 [(0, Pt a.s 0), (4, Pt b1 0), (11, I (j : Int)), (14, .slice A32 l.length c33), (16, I (j : Int)), (17, I (((j + 1 : Nat) : Int))), (78, B true)] (by kernel_rfl) rfl (by kernel_rfl) ?_
      refine .condT rfl rfl ?_
      refine .seq ?_
      refine .region ?_
      refine xo.val 1 (by kernel_rfl) (ldBA (t := 113) (o := 0) (vs := [I (((h + 1 : Nat) : Int)), .slice A items.length cap]) (by kernel_rfl) hb39 rfl) ?_
      have hs40 := ((((hs10.ext hx17 (fun _ _ _ h => h)).ext hx21 (fun _ _ _ h => h)).ext hx25 (fun b h1 h2 (e : b = b18) => by omega)).extm hx31 hf27.maps)
      refine xo.ret 2 (by kernel_rfl) (cf97 _ _) (tree_joined h _ a σ29 hS30 (hkeep.alive hA) A cap items lo hi hs40 (by omega) (by omega) j (by omega) (by omega) (by omega) (fun i y hy => (hC.keeps hkeep).kid_at hy) A32 c33 l w23.heap.size w28.heap.size ho34.rd (by omega) (by omega)) ?_
      rintro _ w48 ⟨l', A41, c42, p46, q47, rfl, hJ43, hl'8, ho44, hS45, hx49⟩
      have z48 := hx49.size
      have hjr : JoinR σ29 items j l l' p46 q47 := by
        have hf : l.length < 4 ∧ 1 < items.length := by omega
        rcases hJ43 with ⟨h1, h2⟩ | ⟨h1, h2⟩
        · exact .inr (.inl ⟨hf, h1, h2⟩)
        · exact .inr (.inr ⟨hf, h1, h2⟩)
      refine xo.done 9 [(0, Pt a.s 0), (4, Pt b1 0), (13, I 0), (14, .slice A41 l'.length c42), (16, I (p46 : Int)), (17, I (q47 : Int))] (by kernel_rfl) rfl (by kernel_rfl) ?_
      refine .seq ?_
      refine .region ?_
      refine xo.done 2 [(0, Pt a.s 0), (4, Pt b1 0), (13, I 0), (14, .slice A41 l'.length c42), (16, I (p46 : Int)), (17, I (q47 : Int)), (90, B false)] (by kernel_rfl) rfl (by kernel_rfl) ?_
      refine .condF rfl rfl ?_
      refine .skip ?_
      refine .seq ?_
      refine .seq ?_
      refine .region ?_
      have hF := join_facts hkeep hN h2 hjl cA cB hA_ hB_ hE' hcl hitl (by omega) (by omega) hjr
      have hf4 := hF.four
      have hf16 := hF.few
      have hfpq := hF.pq
      have hfql := hF.ql
      refine xo.val 2 (by kernel_rfl) (c_eql_f (show ¬ (((l'.length : Int) : Int) = 0) from (by omega))) ?_
      refine xo.done 0 [(0, Pt a.s 0), (4, Pt b1 0), (14, .slice A41 l'.length c42), (16, I (p46 : Int)), (17, I (q47 : Int)), (94, B false)] (by kernel_rfl) rfl (by kernel_rfl) ?_
      refine .condF rfl rfl ?_
      refine .skip ?_
      refine .seq ?_
      refine .region ?_
      have hb50 := (hb39.ext hx49 (fun h => h))
      refine xo.val 2 (by kernel_rfl) (ldB (t := 3) (o := 0) (by kernel_rfl) hb50 rfl) ?_
      refine xo.val 0 (by kernel_rfl) (a_subZ (a := ((h + 1 : Nat) : Int)) (b := 1) (c := (h : Int)) (by omega) (by omega) (by omega)) ?_
      refine xo.ret 1 (by kernel_rfl) (cf98 _ _) (tree_laid _ a σ29 hS45 (hkeep.alive hA) (h : Int) A41 c42 l' w28.heap.size w48.heap.size ho44.rd (by omega) ho44.cap_le hF.laid) ?_
      rintro _ w51 ⟨(c52 | x53), σ54, hR55, hv56, hS57, hx58⟩
      · obtain rfl := hv56
        have h28 : c52 = 28 := (hF.main hR55 (by omega) (show IT (h + 1) items from hN.it) (by rw [← hEe]; exact delE_sorted hE key) (by rw [hkeep.n]; exact hn4)).2.1 _ rfl
        subst h28
        have z51 := hx58.size
        refine xo.done 5 [(4, Pt b1 0), (13, I 28), (16, I (p46 : Int)), (17, I (q47 : Int)), (18, .slice none 0 0)] (by kernel_rfl) rfl (by kernel_rfl) ?_
        refine .seq ?_
        refine .region ?_
        have hb62 := (hb50.extm hx58 hS45.maps)
        refine xo.val 1 (by kernel_rfl) (ldB (t := 111) (o := 1) (by kernel_rfl) hb62 rfl) ?_
        have hs63 := ((hs40.ext hx49 (fun _ _ _ h => h)).extm hx58 hS45.maps)
        refine xo.ret 3 (by kernel_rfl) (cf94 _ _) (tree_swap _ A cap items lo hi hs63 (by omega) hcap (by omega) none 0 [] 0 0 (Rd.nil (k := _)) (by omega) (by simp) p46 q47 (by omega) (by omega)) ?_
        rintro _ w67 ⟨A64, c65, rfl, ho66, hx68⟩
        have z67 := hx68.size
        refine xo.done 4 [(6, .slice A64 ((swapL items p46 q47 ([])).length) c65), (7, B true), (8, I 28)] (by kernel_rfl) rfl (by kernel_rfl) ?_
        refine .ret ?_
        refine ⟨[.slice A64 ((swapL items p46 q47 ([])).length) c65, B true, I 28], by kernel_rfl, _, rfl, ?_⟩
        have hf69 := (hS57.no hx68)
        exact ⟨σ54, hf69, (((((((((hx4.weak fun b hb h => h.elim).trans' hx8 (fun _ _ h => h) (fun b hb h => h.elim)).trans' hx17 (fun _ _ h => h) (fun b hb h => h.elim)).trans' hx21 (fun _ _ h => h) (fun b hb h => h.elim)).trans' hx25 (fun _ _ h => h) (fun b hb (q : b = b18) => absurd hb (by omega))).trans' hx31 (fun _ _ h => h) (fun b hb q => q)).trans' hx49 (fun _ _ h => h) (fun b hb h => h.elim)).trans' hx58 (fun _ _ h => h) (fun b hb q => q)).trans' hx68 (fun _ _ h => h) (fun b hb h => h.elim)), .inl ⟨_, _, _, _, rfl, ⟨j, x0, (⟨(h : Int), it⟩ : Node), σ29, .ok (some l), hW, hx0, r1.node, hR35, .inr (.inr ⟨l, l', p46, q47, rfl, hjr, .error 28, hR55, .inl ⟨_, rfl, rfl⟩⟩)⟩⟩⟩
      · obtain ⟨A59, c60, rfl, ho61⟩ := hv56
        have hws2 := ((hF.main hR55 (by omega) (show IT (h + 1) items from hN.it) (by rw [← hEe]; exact delE_sorted hE key) (by rw [hkeep.n]; exact hn4)).2.2.1 _ rfl).1
        have z51 := hx58.size
        refine xo.done 5 [(4, Pt b1 0), (13, I 0), (16, I (p46 : Int)), (17, I (q47 : Int)), (18, .slice A59 x53.length c60)] (by kernel_rfl) rfl (by kernel_rfl) ?_
        refine .seq ?_
        refine .region ?_
        have hb70 := (hb50.extm hx58 hS45.maps)
        refine xo.val 1 (by kernel_rfl) (ldB (t := 111) (o := 1) (by kernel_rfl) hb70 rfl) ?_
        have hs71 := ((hs40.ext hx49 (fun _ _ _ h => h)).extm hx58 hS45.maps)
        refine xo.ret 3 (by kernel_rfl) (cf94 _ _) (tree_swap _ A cap items lo hi hs71 (by omega) hcap (by omega) A59 c60 x53 w48.heap.size w51.heap.size ho61.rd (by omega) (by omega) p46 q47 (by omega) (by omega)) ?_
        rintro _ w75 ⟨A72, c73, rfl, ho74, hx76⟩
        have z75 := hx76.size
        refine xo.done 4 [(6, .slice A72 ((swapL items p46 q47 x53).length) c73), (7, B true), (8, I 0)] (by kernel_rfl) rfl (by kernel_rfl) ?_
        refine .ret ?_
        refine ⟨[.slice A72 ((swapL items p46 q47 x53).length) c73, B true, I 0], by kernel_rfl, _, rfl, ?_⟩
        have hf77 := (hS57.no hx76)
        exact ⟨σ54, hf77, (((((((((hx4.weak fun b hb h => h.elim).trans' hx8 (fun _ _ h => h) (fun b hb h => h.elim)).trans' hx17 (fun _ _ h => h) (fun b hb h => h.elim)).trans' hx21 (fun _ _ h => h) (fun b hb h => h.elim)).trans' hx25 (fun _ _ h => h) (fun b hb (q : b = b18) => absurd hb (by omega))).trans' hx31 (fun _ _ h => h) (fun b hb q => q)).trans' hx49 (fun _ _ h => h) (fun b hb h => h.elim)).trans' hx58 (fun _ _ h => h) (fun b hb q => q)).trans' hx76 (fun _ _ h => h) (fun b hb h => h.elim)), .inr (.inr ⟨_, A72, c73, rfl, ⟨j, x0, (⟨(h : Int), it⟩ : Node), σ29, .ok (some l), hW, hx0, r1.node, hR35, .inr (.inr ⟨l, l', p46, q47, rfl, hjr, .ok x53, hR55, .inr ⟨_, rfl, rfl⟩⟩)⟩, ho74.base_le (by omega)⟩)⟩
    · refine xo.val 2 (by kernel_rfl) (c_lss_f hc38) ?_
      refine xo.done 6 [(0, Pt a.s 0), (4, Pt b1 0), (11, I (j : Int)), (14, .slice A32 l.length c33), (16, I (j : Int)), (17, I (((j + 1 : Nat) : Int))), (78, B false)] (by kernel_rfl) rfl (by kernel_rfl) ?_
      refine .condF rfl rfl ?_
      refine .skip ?_
      refine .seq ?_
      refine .seq ?_
      refine .region ?_
      have hjr : JoinR σ29 items j l l j (j + 1) := .inl ⟨by omega, rfl, rfl, rfl⟩
      have hF := join_facts hkeep hN h2 hjl cA cB hA_ hB_ hE' hcl hitl (by omega) (by omega) hjr
      have hf4 := hF.four
      have hf16 := hF.few
      have hfpq := hF.pq
      have hfql := hF.ql
      refine xo.val 2 (by kernel_rfl) (c_eql_f (show ¬ (((l.length : Int) : Int) = 0) from (by omega))) ?_
      refine xo.done 0 [(0, Pt a.s 0), (4, Pt b1 0), (14, .slice A32 l.length c33), (16, I (j : Int)), (17, I (((j + 1 : Nat) : Int))), (94, B false)] (by kernel_rfl) rfl (by kernel_rfl) ?_
      refine .condF rfl rfl ?_
      refine .skip ?_
      refine .seq ?_
      refine .region ?_
      have hb78 := ((((hb9.ext hx17 (fun h => h)).ext hx21 (fun h => h)).ext hx25 (show b1 ≠ b18 by omega)).extm hx31 hf27.maps)
      refine xo.val 2 (by kernel_rfl) (ldB (t := 3) (o := 0) (by kernel_rfl) hb78 rfl) ?_
      refine xo.val 0 (by kernel_rfl) (a_subZ (a := ((h + 1 : Nat) : Int)) (b := 1) (c := (h : Int)) (by omega) (by omega) (by omega)) ?_
      refine xo.ret 1 (by kernel_rfl) (cf98 _ _) (tree_laid _ a σ29 hS30 (hkeep.alive hA) (h : Int) A32 c33 l w23.heap.size w28.heap.size ho34.rd (by omega) ho34.cap_le hF.laid) ?_
      rintro _ w79 ⟨(c80 | x81), σ82, hR83, hv84, hS85, hx86⟩
      · obtain rfl := hv84
        have h28 : c80 = 28 := (hF.main hR83 (by omega) (show IT (h + 1) items from hN.it) (by rw [← hEe]; exact delE_sorted hE key) (by rw [hkeep.n]; exact hn4)).2.1 _ rfl
        subst h28
        have z79 := hx86.size
        refine xo.done 5 [(4, Pt b1 0), (13, I 28), (16, I (j : Int)), (17, I (((j + 1 : Nat) : Int))), (18, .slice none 0 0)] (by kernel_rfl) rfl (by kernel_rfl) ?_
        refine .seq ?_
        refine .region ?_
        have hb90 := (hb78.extm hx86 hS30.maps)
        refine xo.val 1 (by kernel_rfl) (ldB (t := 111) (o := 1) (by kernel_rfl) hb90 rfl) ?_
        have hs91 := (((((hs10.ext hx17 (fun _ _ _ h => h)).ext hx21 (fun _ _ _ h => h)).ext hx25 (fun b h1 h2 (e : b = b18) => by omega)).extm hx31 hf27.maps).extm hx86 hS30.maps)
        refine xo.ret 3 (by kernel_rfl) (cf94 _ _) (tree_swap _ A cap items lo hi hs91 (by omega) hcap (by omega) none 0 [] 0 0 (Rd.nil (k := _)) (by omega) (by simp) j ((((j + 1 : Nat) : Int)).toNat) (by omega) (by omega)) ?_
        rintro _ w95 ⟨A92, c93, rfl, ho94, hx96⟩
        have z95 := hx96.size
        refine xo.done 4 [(6, .slice A92 ((swapL items j ((((j + 1 : Nat) : Int)).toNat) ([])).length) c93), (7, B true), (8, I 28)] (by kernel_rfl) rfl (by kernel_rfl) ?_
        refine .ret ?_
        refine ⟨[.slice A92 ((swapL items j ((((j + 1 : Nat) : Int)).toNat) ([])).length) c93, B true, I 28], by kernel_rfl, _, rfl, ?_⟩
        have hf97 := (hS85.no hx96)
        exact ⟨σ82, hf97, ((((((((hx4.weak fun b hb h => h.elim).trans' hx8 (fun _ _ h => h) (fun b hb h => h.elim)).trans' hx17 (fun _ _ h => h) (fun b hb h => h.elim)).trans' hx21 (fun _ _ h => h) (fun b hb h => h.elim)).trans' hx25 (fun _ _ h => h) (fun b hb (q : b = b18) => absurd hb (by omega))).trans' hx31 (fun _ _ h => h) (fun b hb q => q)).trans' hx86 (fun _ _ h => h) (fun b hb q => q)).trans' hx96 (fun _ _ h => h) (fun b hb h => h.elim)), .inl ⟨_, _, _, _, rfl, ⟨j, x0, (⟨(h : Int), it⟩ : Node), σ29, .ok (some l), hW, hx0, r1.node, hR35, .inr (.inr ⟨l, l, j, (j + 1), rfl, hjr, .error 28, hR83, .inl ⟨_, rfl, rfl⟩⟩)⟩⟩⟩
      · obtain ⟨A87, c88, rfl, ho89⟩ := hv84
        have hws2 := ((hF.main hR83 (by omega) (show IT (h + 1) items from hN.it) (by rw [← hEe]; exact delE_sorted hE key) (by rw [hkeep.n]; exact hn4)).2.2.1 _ rfl).1
        have z79 := hx86.size
        refine xo.done 5 [(4, Pt b1 0), (13, I 0), (16, I (j : Int)), (17, I (((j + 1 : Nat) : Int))), (18, .slice A87 x81.length c88)] (by kernel_rfl) rfl (by kernel_rfl) ?_
        refine .seq ?_
        refine .region ?_
        have hb98 := (hb78.extm hx86 hS30.maps)
        refine xo.val 1 (by kernel_rfl) (ldB (t := 111) (o := 1) (by kernel_rfl) hb98 rfl) ?_
        have hs99 := (((((hs10.ext hx17 (fun _ _ _ h => h)).ext hx21 (fun _ _ _ h => h)).ext hx25 (fun b h1 h2 (e : b = b18) => by omega)).extm hx31 hf27.maps).extm hx86 hS30.maps)
        refine xo.ret 3 (by kernel_rfl) (cf94 _ _) (tree_swap _ A cap items lo hi hs99 (by omega) hcap (by omega) A87 c88 x81 w28.heap.size w79.heap.size ho89.rd (by omega) (by omega) j ((((j + 1 : Nat) : Int)).toNat) (by omega) (by omega)) ?_
        rintro _ w103 ⟨A100, c101, rfl, ho102, hx104⟩
        have z103 := hx104.size
        refine xo.done 4 [(6, .slice A100 ((swapL items j ((((j + 1 : Nat) : Int)).toNat) x81).length) c101), (7, B true), (8, I 0)] (by kernel_rfl) rfl (by kernel_rfl) ?_
        refine .ret ?_
        refine ⟨[.slice A100 ((swapL items j ((((j + 1 : Nat) : Int)).toNat) x81).length) c101, B true, I 0], by kernel_rfl, _, rfl, ?_⟩
        have hf105 := (hS85.no hx104)
        exact ⟨σ82, hf105, ((((((((hx4.weak fun b hb h => h.elim).trans' hx8 (fun _ _ h => h) (fun b hb h => h.elim)).trans' hx17 (fun _ _ h => h) (fun b hb h => h.elim)).trans' hx21 (fun _ _ h => h) (fun b hb h => h.elim)).trans' hx25 (fun _ _ h => h) (fun b hb (q : b = b18) => absurd hb (by omega))).trans' hx31 (fun _ _ h => h) (fun b hb q => q)).trans' hx86 (fun _ _ h => h) (fun b hb q => q)).trans' hx104 (fun _ _ h => h) (fun b hb h => h.elim)), .inr (.inr ⟨_, A100, c101, rfl, ⟨j, x0, (⟨(h : Int), it⟩ : Node), σ29, .ok (some l), hW, hx0, r1.node, hR35, .inr (.inr ⟨l, l, j, (j + 1), rfl, hjr, .ok x81, hR83, .inr ⟨_, rfl, rfl⟩⟩)⟩, ho102.base_le (by omega)⟩)⟩

theorem tree_cut : ∀ h, CutOK h := by
  intro h
  induction h with
  | zero => exact fun w a σ hS hA key A cap items lo hi hR hhi_ hcap hN E hC hE _ => tree_cut0 w a σ hS hA key A cap items lo hi hR hhi_ hcap hN
  | succ h ih => exact fun w a σ hS hA key A cap items lo hi hR hhi_ hcap hN E hC hE h2 => tree_cutS h ih w a σ hS hA key A cap items lo hi hR hhi_ hcap hN E hC hE (by omega)

end Go.Proofs.YtbajgpadmlnffaaGreat
/- tree.Del: the walk. -/
namespace Go.Proofs.YtbajgpadmlnffaaGreat
open Go.V
set_option maxRecDepth 100000
set_option linter.unusedVariables false
set_option linter.unusedSimpArgs false

/-- tree.Del over a root that is there. -/
def DelN (key : ByteArray) (h : Nat) (σ : St) (items : List Item) (root : Int) (σ' : St) (o : Except Int Int) : Prop :=
  ∃ σ1 o1, CutR key h σ ⟨(h : Int), items⟩ σ1 o1 ∧
    ((o1 = .error 28 ∧ σ' = σ1 ∧ o = .error 28) ∨ (o1 = .ok none ∧ σ' = σ1 ∧ o = .ok root) ∨
     ∃ l, o1 = .ok (some l) ∧ ((l.length = 0 ∧ σ' = σ1 ∧ o = .ok 0) ∨ (∃ x, l = [x] ∧ 0 < h ∧ σ' = σ1 ∧ o = .ok x.kid) ∨
       (l.length ≠ 0 ∧ ¬ (0 < h ∧ l.length = 1) ∧ ∃ o2, SaveR σ1 ⟨(h : Int), l⟩ σ' o2 ∧ ((∃ c, o2 = .error c ∧ o = .error c) ∨ ∃ z, o2 = .ok z ∧ o = .ok z.kid))))

theorem tree_DelN (w : World) (a : SAd) (σ : St) (hS : StAt w a σ) (hA : Alive σ) (key : ByteArray) (hk : rightK key) (root : Int) (h : Nat) (items : List Item) (hN : NodeAt σ root ⟨(h : Int), items⟩) (hNI : NI h ⟨(h : Int), items⟩) (E : List KV) (hC : Cont σ h items E) (hE : SortedE E) (h2 : h = 0 ∨ 2 ≤ items.length) :
    Ret Tryz.prog 35 [Pt a.s 0, I root, S key] w fun v w' => ∃ (o : Except Int Int) (σ' : St), DelN key h σ items root σ' o ∧ (match o with | .error c => ∃ z, v = .tuple #[I z, I c] | .ok r => v = .tuple #[I r, I 0]) ∧ StAt w' a σ' ∧ Ext a.fpp w w' := by
  have lS := hS.bs.lt
  have lMc := hS.mc.lt
  have lMk := hS.mkt.lt
  have hhi := hS.hi
  have nSC : a.s ≠ a.mc := fun e => MapAt.ne hS.mc hS.bs e.symm
  have nKC : a.mkk ≠ a.mc := fun e => hS.cmk e.symm
  have h20 : h ≤ 20 := hNI.high
  have h8 : items.length ≤ 8 := hNI.few
  refine calls_of_XC Tryz.func35 rfl rfl ?_
  refine .seq ?_
  refine .region ?_
  refine xo.done 2 [(0, Pt a.s 0), (1, I root), (2, S key)] (by kernel_rfl) rfl (by kernel_rfl) ?_
  refine .seq ?_
  refine .seq ?_
  refine .region ?_
  refine xo.ret 1 (by kernel_rfl) (cf67 _ _) (tree_right_t _ key hk) ?_
  rintro _ _ ⟨rfl, rfl⟩
  refine xo.done 1 [(0, Pt a.s 0), (1, I root), (2, S key), (15, B false)] (by kernel_rfl) rfl (by kernel_rfl) ?_
  refine .condF rfl rfl ?_
  refine .skip ?_
  refine .seq ?_
  refine .seq ?_
  refine .region ?_
  refine xo.val 1 (by kernel_rfl) (c_eql_f (show ¬ ((root : Int) = 0) from (by have := hN.lo; omega))) ?_
  refine xo.done 0 [(0, Pt a.s 0), (1, I root), (2, S key), (17, B false)] (by kernel_rfl) rfl (by kernel_rfl) ?_
  refine .condF rfl rfl ?_
  refine .skip ?_
  refine .seq ?_
  refine .region ?_
  refine xo.ret 2 (by kernel_rfl) (cf68 _ _) (tree_load _ a σ hS hA root (⟨(h : Int), items⟩ : Node) hN) ?_
  rintro _ w5 ⟨A1, c2, rfl, hS3, hx6, ho4⟩
  have z5 := hx6.size
  refine xo.alloc 3 113 [I 0, .slice none 0 0] (by kernel_rfl) (by kernel_rfl) ?_
  intro b7 w8 hb9 hx10 hg11
  have z8 := hx10.size
  have l9 := hb9.lt
  refine xo.store 0 113 (o := 0) (.agg #[I (h : Int), .slice A1 items.length c2]) [I (h : Int), .slice A1 items.length c2] (by kernel_rfl) hb9 (by kernel_rfl) (by kernel_rfl) (by kernel_rfl) (by kernel_rfl) ?_
  intro w12 hb13 hx14
  have z12 := hx14.size
  refine xo.done 1 [(0, Pt a.s 0), (1, I root), (2, S key), (8, Pt b7 0), (9, I 0)] (by kernel_rfl) rfl (by kernel_rfl) ?_
  refine .seq ?_
  refine .seq ?_
  refine .region ?_
  refine xo.done 2 [(0, Pt a.s 0), (1, I root), (2, S key), (8, Pt b7 0), (9, I 0), (25, B false)] (by kernel_rfl) rfl (by kernel_rfl) ?_
  refine .condF rfl rfl ?_
  refine .skip ?_
  refine .seq ?_
  refine .region ?_
  refine xo.val 1 (by kernel_rfl) (ldBA (t := 113) (o := 0) (vs := [I (h : Int), .slice A1 items.length c2]) (by kernel_rfl) hb13 rfl) ?_
  have hs15 := ((ho4.ext hx10 (fun _ _ h => h)).ext hx14 (fun b hb (e : b = b7) => (ho4.ext hx10 (fun _ _ h => h)).ne hb9 rfl (e ▸ hb)))
  have hf16 := ((hS3.no hx10).ext hx14 (fun b h1 h2 (e : b = b7) => by omega) (MapAt.ne (hS3.no hx10).mkt hb9) (fun b cs hb (e : b = b7) => Blk.ne hb hb9 rfl e))
  refine xo.ret 1 (by kernel_rfl) (cf69 _ _) (tree_cut h _ a σ hf16 hA key A1 c2 items w.heap.size w12.heap.size hs15.rd (by omega) hs15.cap_le hNI E hC hE h2) ?_
  rintro _ w17 ⟨σ18, hS19, hx20, (⟨A21, m25, c22, b26, rfl, hR24⟩ | ⟨rfl, hR24⟩ | ⟨l, A21, c22, rfl, hR24, ho23⟩)⟩
  · have z17 := hx20.size
    refine xo.done 7 [(0, Pt a.s 0), (1, I root), (8, Pt b7 0), (9, I 28), (10, .slice A21 m25 c22), (11, B b26)] (by kernel_rfl) rfl (by kernel_rfl) ?_
    refine .seq ?_
    refine .block ?_
    refine .seq ?_
    refine .region ?_
    refine xo.done 3 [(0, Pt a.s 0), (1, I root), (8, Pt b7 0), (9, I 28), (10, .slice A21 m25 c22), (11, B b26), (35, B true)] (by kernel_rfl) rfl (by kernel_rfl) ?_
    refine .condT rfl rfl ?_
    refine .seq ?_
    refine .region ?_
    refine xo.done 3 [(6, I 0), (7, I 28)] (by kernel_rfl) rfl (by kernel_rfl) ?_
    refine .ret ?_
    refine ⟨[I 0, I 28], by kernel_rfl, _, rfl, ?_⟩
    exact ⟨.error 28, σ18, ⟨σ18, .error 28, hR24, .inl ⟨rfl, rfl, rfl⟩⟩, ⟨_, rfl⟩, hS19, ((((hx6.weak fun b hb h => h.elim).trans' hx10 (fun _ _ h => h) (fun b hb h => h.elim)).trans' hx14 (fun _ _ h => h) (fun b hb (q : b = b7) => absurd hb (by omega))).trans' hx20 (fun _ _ h => h) (fun b hb q => q))⟩
  · have z17 := hx20.size
    refine xo.done 7 [(0, Pt a.s 0), (1, I root), (8, Pt b7 0), (9, I 0), (10, .slice none 0 0), (11, B false)] (by kernel_rfl) rfl (by kernel_rfl) ?_
    refine .seq ?_
    refine .block ?_
    refine .seq ?_
    refine .region ?_
    refine xo.done 3 [(0, Pt a.s 0), (1, I root), (8, Pt b7 0), (9, I 0), (10, .slice none 0 0), (11, B false), (35, B false)] (by kernel_rfl) rfl (by kernel_rfl) ?_
    refine .condF rfl rfl ?_
    refine .seq ?_
    refine .region ?_
    refine xo.done 3 [(0, Pt a.s 0), (1, I root), (8, Pt b7 0), (10, .slice none 0 0), (39, B true)] (by kernel_rfl) rfl (by kernel_rfl) ?_
    refine .condT rfl rfl ?_
    refine .seq ?_
    refine .region ?_
    refine xo.done 3 [(6, I root), (7, I 0)] (by kernel_rfl) rfl (by kernel_rfl) ?_
    refine .ret ?_
    refine ⟨[I root, I 0], by kernel_rfl, _, rfl, ?_⟩
    exact ⟨.ok root, σ18, ⟨σ18, .ok none, hR24, .inr (.inl ⟨rfl, rfl, rfl⟩)⟩, rfl, hS19, ((((hx6.weak fun b hb h => h.elim).trans' hx10 (fun _ _ h => h) (fun b hb h => h.elim)).trans' hx14 (fun _ _ h => h) (fun b hb (q : b = b7) => absurd hb (by omega))).trans' hx20 (fun _ _ h => h) (fun b hb q => q))⟩
  · have z17 := hx20.size
    obtain ⟨hkeep, _, _, hw1, _⟩ := cutR_main h _ _ _ _ E hR24 hNI hC hE hA.n4 h2
    obtain ⟨hcl, hitl, hl3, hl8⟩ := hw1 _ rfl
    simp only at hl3 hl8
    refine xo.done 7 [(0, Pt a.s 0), (1, I root), (8, Pt b7 0), (9, I 0), (10, .slice A21 l.length c22), (11, B true)] (by kernel_rfl) rfl (by kernel_rfl) ?_
    refine .seq ?_
    refine .block ?_
    refine .seq ?_
    refine .region ?_
    refine xo.done 3 [(0, Pt a.s 0), (1, I root), (8, Pt b7 0), (9, I 0), (10, .slice A21 l.length c22), (11, B true), (35, B false)] (by kernel_rfl) rfl (by kernel_rfl) ?_
    refine .condF rfl rfl ?_
    refine .seq ?_
    refine .region ?_
    refine xo.done 3 [(0, Pt a.s 0), (1, I root), (8, Pt b7 0), (10, .slice A21 l.length c22), (39, B false)] (by kernel_rfl) rfl (by kernel_rfl) ?_
    refine .condF rfl rfl ?_
    refine .seq ?_
    refine .region ?_
    by_cases hc27 : ((l.length : Int) : Int) = 0
    · refine xo.val 2 (by kernel_rfl) (c_eql_t hc27) ?_
      refine xo.done 1 [(0, Pt a.s 0), (8, Pt b7 0), (10, .slice A21 l.length c22), (43, B true)] (by kernel_rfl) rfl (by kernel_rfl) ?_
      refine .condT rfl rfl ?_
      refine .seq ?_
      refine .region ?_
      refine xo.done 2 [(6, I 0), (7, I 0)] (by kernel_rfl) rfl (by kernel_rfl) ?_
      refine .ret ?_
      refine ⟨[I 0, I 0], by kernel_rfl, _, rfl, ?_⟩
      exact ⟨.ok 0, σ18, ⟨σ18, .ok (some l), hR24, .inr (.inr ⟨l, rfl, .inl ⟨by omega, rfl, rfl⟩⟩)⟩, rfl, hS19, ((((hx6.weak fun b hb h => h.elim).trans' hx10 (fun _ _ h => h) (fun b hb h => h.elim)).trans' hx14 (fun _ _ h => h) (fun b hb (q : b = b7) => absurd hb (by omega))).trans' hx20 (fun _ _ h => h) (fun b hb q => q))⟩
    · refine xo.val 2 (by kernel_rfl) (c_eql_f hc27) ?_
      refine xo.done 1 [(0, Pt a.s 0), (8, Pt b7 0), (10, .slice A21 l.length c22), (43, B false)] (by kernel_rfl) rfl (by kernel_rfl) ?_
      refine .condF rfl rfl ?_
      refine .seq ?_
      refine .region ?_
      have hb28 := (hb13.extm hx20 hf16.maps)
      refine xo.val 1 (by kernel_rfl) (ldB (t := 3) (o := 0) (by kernel_rfl) hb28 rfl) ?_
      by_cases hc29 : ((h : Int) : Int) ≤ 0
      · refine xo.val 0 (by kernel_rfl) (c_gtr_t hc29) ?_
        refine xo.done 6 [(0, Pt a.s 0), (8, Pt b7 0), (10, .slice A21 l.length c22), (47, B false)] (by kernel_rfl) rfl (by kernel_rfl) ?_
        refine .condF rfl rfl ?_
        refine .skip ?_
        refine .seq ?_
        refine .region ?_
        refine xo.val 2 (by kernel_rfl) (ldB (t := 3) (o := 0) (by kernel_rfl) hb28 rfl) ?_
        refine xo.ret 2 (by kernel_rfl) (cf70 _ _) (tree_save _ a σ18 hS19 (hkeep.alive hA) (h : Int) A21 c22 l w12.heap.size w17.heap.size ho23.rd (by omega) ((hitl.laid hcl.kids (by omega) (by omega)).save (fun x hx => hx) (by omega) (by omega))) ?_
        rintro _ w30 ⟨(c31 | x32), σ33, hR34, hv35, hS36, hx37⟩
        · obtain ⟨y38, rfl⟩ := hv35
          have h28 : c31 = 28 := hR34.1
          subst h28
          have z30 := hx37.size
          refine xo.alloc 3 119 [S (⟨#[]⟩), S (⟨#[]⟩), I 0] (by kernel_rfl) (by kernel_rfl) ?_
          intro b39 w40 hb41 hx42 hg43
          have z40 := hx42.size
          have l41 := hb41.lt
          refine xo.store 0 119 (o := 0) (.agg #[S y38.key, S y38.val, I y38.kid]) [S y38.key, S y38.val, I y38.kid] (by kernel_rfl) hb41 (by kernel_rfl) (by kernel_rfl) (by kernel_rfl) (by kernel_rfl) ?_
          intro w44 hb45 hx46
          have z44 := hx46.size
          refine xo.done 1 [(9, I 28), (12, Pt b39 0)] (by kernel_rfl) rfl (by kernel_rfl) ?_
          refine .seq ?_
          refine .region ?_
          refine xo.val 1 (by kernel_rfl) (ldB (t := 3) (o := 2) (by kernel_rfl) hb45 rfl) ?_
          refine xo.done 3 [(6, I y38.kid), (7, I 28)] (by kernel_rfl) rfl (by kernel_rfl) ?_
          refine .ret ?_
          refine ⟨[I y38.kid, I 28], by kernel_rfl, _, rfl, ?_⟩
          have hf47 := ((hS36.no hx42).ext hx46 (fun b h1 h2 (e : b = b39) => by omega) (MapAt.ne (hS36.no hx42).mkt hb41) (fun b cs hb (e : b = b39) => Blk.ne hb hb41 rfl e))
          exact ⟨.error 28, σ33, ⟨σ18, .ok (some l), hR24, .inr (.inr ⟨l, rfl, .inr (.inr ⟨by omega, by omega, _, hR34, .inl ⟨_, rfl, rfl⟩⟩)⟩)⟩, ⟨_, rfl⟩, hf47, (((((((hx6.weak fun b hb h => h.elim).trans' hx10 (fun _ _ h => h) (fun b hb h => h.elim)).trans' hx14 (fun _ _ h => h) (fun b hb (q : b = b7) => absurd hb (by omega))).trans' hx20 (fun _ _ h => h) (fun b hb q => q)).trans' hx37 (fun _ _ h => h) (fun b hb q => q)).trans' hx42 (fun _ _ h => h) (fun b hb h => h.elim)).trans' hx46 (fun _ _ h => h) (fun b hb (q : b = b39) => absurd hb (by omega)))⟩
        · obtain rfl := hv35
          have z30 := hx37.size
          refine xo.alloc 3 119 [S (⟨#[]⟩), S (⟨#[]⟩), I 0] (by kernel_rfl) (by kernel_rfl) ?_
          intro b48 w49 hb50 hx51 hg52
          have z49 := hx51.size
          have l50 := hb50.lt
          refine xo.store 0 119 (o := 0) (.agg #[S x32.key, S x32.val, I x32.kid]) [S x32.key, S x32.val, I x32.kid] (by kernel_rfl) hb50 (by kernel_rfl) (by kernel_rfl) (by kernel_rfl) (by kernel_rfl) ?_
          intro w53 hb54 hx55
          have z53 := hx55.size
          refine xo.done 1 [(9, I 0), (12, Pt b48 0)] (by kernel_rfl) rfl (by kernel_rfl) ?_
          refine .seq ?_
          refine .region ?_
          refine xo.val 1 (by kernel_rfl) (ldB (t := 3) (o := 2) (by kernel_rfl) hb54 rfl) ?_
          refine xo.done 3 [(6, I x32.kid), (7, I 0)] (by kernel_rfl) rfl (by kernel_rfl) ?_
          refine .ret ?_
          refine ⟨[I x32.kid, I 0], by kernel_rfl, _, rfl, ?_⟩
          have hf56 := ((hS36.no hx51).ext hx55 (fun b h1 h2 (e : b = b48) => by omega) (MapAt.ne (hS36.no hx51).mkt hb50) (fun b cs hb (e : b = b48) => Blk.ne hb hb50 rfl e))
          exact ⟨.ok _, σ33, ⟨σ18, .ok (some l), hR24, .inr (.inr ⟨l, rfl, .inr (.inr ⟨by omega, by omega, _, hR34, .inr ⟨_, rfl, rfl⟩⟩)⟩)⟩, rfl, hf56, (((((((hx6.weak fun b hb h => h.elim).trans' hx10 (fun _ _ h => h) (fun b hb h => h.elim)).trans' hx14 (fun _ _ h => h) (fun b hb (q : b = b7) => absurd hb (by omega))).trans' hx20 (fun _ _ h => h) (fun b hb q => q)).trans' hx37 (fun _ _ h => h) (fun b hb q => q)).trans' hx51 (fun _ _ h => h) (fun b hb h => h.elim)).trans' hx55 (fun _ _ h => h) (fun b hb (q : b = b48) => absurd hb (by omega)))⟩
      · refine xo.val 0 (by kernel_rfl) (c_gtr_f hc29) ?_
        by_cases hc57 : ((l.length : Int) : Int) = 1
        · refine xo.val 3 (by kernel_rfl) (c_eql_t hc57) ?_
          refine xo.done 2 [(0, Pt a.s 0), (8, Pt b7 0), (10, .slice A21 l.length c22), (47, B true)] (by kernel_rfl) rfl (by kernel_rfl) ?_
          refine .condT rfl rfl ?_
          refine .seq ?_
          refine .region ?_
          obtain ⟨b58, o59, x60, hi61, hA62, hl63, hh64, hr65⟩ := ho23.rd.at_ 0 (by omega)
          refine xo.val 1 (by kernel_rfl) (idxN (kk := .i64) (t := 111) (n := l.length) (cap := c22) (sz := 3) (i := 0) (by kernel_rfl) hA62 (by omega)) ?_
          have hl1 : l = [x60] := by
            obtain ⟨y1, e⟩ := len1 (l := l) (by omega)
            rw [e] at hi61 ⊢
            simpa using hi61
          refine xo.val 1 (by kernel_rfl) (ld (t := 3) (by kernel_rfl) (hr65 2 _ rfl)) ?_
          refine xo.done 2 [(6, I x60.kid), (7, I 0)] (by kernel_rfl) rfl (by kernel_rfl) ?_
          refine .ret ?_
          refine ⟨[I x60.kid, I 0], by kernel_rfl, _, rfl, ?_⟩
          exact ⟨.ok _, σ18, ⟨σ18, .ok (some l), hR24, .inr (.inr ⟨l, rfl, .inr (.inl ⟨_, hl1, by omega, rfl, rfl⟩)⟩)⟩, rfl, hS19, ((((hx6.weak fun b hb h => h.elim).trans' hx10 (fun _ _ h => h) (fun b hb h => h.elim)).trans' hx14 (fun _ _ h => h) (fun b hb (q : b = b7) => absurd hb (by omega))).trans' hx20 (fun _ _ h => h) (fun b hb q => q))⟩
        · refine xo.val 3 (by kernel_rfl) (c_eql_f hc57) ?_
          refine xo.done 2 [(0, Pt a.s 0), (8, Pt b7 0), (10, .slice A21 l.length c22), (47, B false)] (by kernel_rfl) rfl (by kernel_rfl) ?_
          refine .condF rfl rfl ?_
          refine .skip ?_
          refine .seq ?_
          refine .region ?_
          refine xo.val 2 (by kernel_rfl) (ldB (t := 3) (o := 0) (by kernel_rfl) hb28 rfl) ?_
          refine xo.ret 2 (by kernel_rfl) (cf70 _ _) (tree_save _ a σ18 hS19 (hkeep.alive hA) (h : Int) A21 c22 l w12.heap.size w17.heap.size ho23.rd (by omega) ((hitl.laid hcl.kids (by omega) (by omega)).save (fun x hx => hx) (by omega) (by omega))) ?_
          rintro _ w66 ⟨(c67 | x68), σ69, hR70, hv71, hS72, hx73⟩
          · obtain ⟨y74, rfl⟩ := hv71
            have h28 : c67 = 28 := hR70.1
            subst h28
            have z66 := hx73.size
            refine xo.alloc 3 119 [S (⟨#[]⟩), S (⟨#[]⟩), I 0] (by kernel_rfl) (by kernel_rfl) ?_
            intro b75 w76 hb77 hx78 hg79
            have z76 := hx78.size
            have l77 := hb77.lt
            refine xo.store 0 119 (o := 0) (.agg #[S y74.key, S y74.val, I y74.kid]) [S y74.key, S y74.val, I y74.kid] (by kernel_rfl) hb77 (by kernel_rfl) (by kernel_rfl) (by kernel_rfl) (by kernel_rfl) ?_
            intro w80 hb81 hx82
            have z80 := hx82.size
            refine xo.done 1 [(9, I 28), (12, Pt b75 0)] (by kernel_rfl) rfl (by kernel_rfl) ?_
            refine .seq ?_
            refine .region ?_
            refine xo.val 1 (by kernel_rfl) (ldB (t := 3) (o := 2) (by kernel_rfl) hb81 rfl) ?_
            refine xo.done 3 [(6, I y74.kid), (7, I 28)] (by kernel_rfl) rfl (by kernel_rfl) ?_
            refine .ret ?_
            refine ⟨[I y74.kid, I 28], by kernel_rfl, _, rfl, ?_⟩
            have hf83 := ((hS72.no hx78).ext hx82 (fun b h1 h2 (e : b = b75) => by omega) (MapAt.ne (hS72.no hx78).mkt hb77) (fun b cs hb (e : b = b75) => Blk.ne hb hb77 rfl e))
            exact ⟨.error 28, σ69, ⟨σ18, .ok (some l), hR24, .inr (.inr ⟨l, rfl, .inr (.inr ⟨by omega, by omega, _, hR70, .inl ⟨_, rfl, rfl⟩⟩)⟩)⟩, ⟨_, rfl⟩, hf83, (((((((hx6.weak fun b hb h => h.elim).trans' hx10 (fun _ _ h => h) (fun b hb h => h.elim)).trans' hx14 (fun _ _ h => h) (fun b hb (q : b = b7) => absurd hb (by omega))).trans' hx20 (fun _ _ h => h) (fun b hb q => q)).trans' hx73 (fun _ _ h => h) (fun b hb q => q)).trans' hx78 (fun _ _ h => h) (fun b hb h => h.elim)).trans' hx82 (fun _ _ h => h) (fun b hb (q : b = b75) => absurd hb (by omega)))⟩
          · obtain rfl := hv71
            have z66 := hx73.size
            refine xo.alloc 3 119 [S (⟨#[]⟩), S (⟨#[]⟩), I 0] (by kernel_rfl) (by kernel_rfl) ?_
            intro b84 w85 hb86 hx87 hg88
            have z85 := hx87.size
            have l86 := hb86.lt
            refine xo.store 0 119 (o := 0) (.agg #[S x68.key, S x68.val, I x68.kid]) [S x68.key, S x68.val, I x68.kid] (by kernel_rfl) hb86 (by kernel_rfl) (by kernel_rfl) (by kernel_rfl) (by kernel_rfl) ?_
            intro w89 hb90 hx91
            have z89 := hx91.size
            refine xo.done 1 [(9, I 0), (12, Pt b84 0)] (by kernel_rfl) rfl (by kernel_rfl) ?_
            refine .seq ?_
            refine .region ?_
            refine xo.val 1 (by kernel_rfl) (ldB (t := 3) (o := 2) (by kernel_rfl) hb90 rfl) ?_
            refine xo.done 3 [(6, I x68.kid), (7, I 0)] (by kernel_rfl) rfl (by kernel_rfl) ?_
            refine .ret ?_
            refine ⟨[I x68.kid, I 0], by kernel_rfl, _, rfl, ?_⟩
            have hf92 := ((hS72.no hx87).ext hx91 (fun b h1 h2 (e : b = b84) => by omega) (MapAt.ne (hS72.no hx87).mkt hb86) (fun b cs hb (e : b = b84) => Blk.ne hb hb86 rfl e))
            exact ⟨.ok _, σ69, ⟨σ18, .ok (some l), hR24, .inr (.inr ⟨l, rfl, .inr (.inr ⟨by omega, by omega, _, hR70, .inr ⟨_, rfl, rfl⟩⟩)⟩)⟩, rfl, hf92, (((((((hx6.weak fun b hb h => h.elim).trans' hx10 (fun _ _ h => h) (fun b hb h => h.elim)).trans' hx14 (fun _ _ h => h) (fun b hb (q : b = b7) => absurd hb (by omega))).trans' hx20 (fun _ _ h => h) (fun b hb q => q)).trans' hx73 (fun _ _ h => h) (fun b hb q => q)).trans' hx87 (fun _ _ h => h) (fun b hb h => h.elim)).trans' hx91 (fun _ _ h => h) (fun b hb (q : b = b84) => absurd hb (by omega)))⟩

theorem tree_Del0 (w : World) (a : SAd) (key : ByteArray) (hk : rightK key) :
    Ret Tryz.prog 35 [Pt a.s 0, I 0, S key] w fun v w' => v = .tuple #[I 0, I 0] ∧ w = w' := by
  refine calls_of_XC Tryz.func35 rfl rfl ?_
  refine .seq ?_
  refine .region ?_
  refine xo.done 2 [(0, Pt a.s 0), (1, I 0), (2, S key)] (by kernel_rfl) rfl (by kernel_rfl) ?_
  refine .seq ?_
  refine .seq ?_
  refine .region ?_
  refine xo.ret 1 (by kernel_rfl) (cf67 _ _) (tree_right_t _ key hk) ?_
  rintro _ _ ⟨rfl, rfl⟩
  refine xo.done 1 [(0, Pt a.s 0), (1, I 0), (2, S key), (15, B false)] (by kernel_rfl) rfl (by kernel_rfl) ?_
  refine .condF rfl rfl ?_
  refine .skip ?_
  refine .seq ?_
  refine .seq ?_
  refine .region ?_
  refine xo.done 2 [(0, Pt a.s 0), (1, I 0), (2, S key), (17, B true)] (by kernel_rfl) rfl (by kernel_rfl) ?_
  refine .condT rfl rfl ?_
  refine .seq ?_
  refine .region ?_
  refine xo.done 2 [(6, I 0), (7, I 0)] (by kernel_rfl) rfl (by kernel_rfl) ?_
  refine .ret ?_
  refine ⟨[I 0, I 0], by kernel_rfl, _, rfl, ?_⟩
  exact ⟨rfl, rfl⟩

theorem tree_DelX (w : World) (a : SAd) (root : Int) (key : ByteArray) (hk : ¬ rightK key) :
    Ret Tryz.prog 35 [Pt a.s 0, I root, S key] w fun v w' => v = .tuple #[I 0, I 22] ∧ w = w' := by
  refine calls_of_XC Tryz.func35 rfl rfl ?_
  refine .seq ?_
  refine .region ?_
  refine xo.done 2 [(0, Pt a.s 0), (1, I root), (2, S key)] (by kernel_rfl) rfl (by kernel_rfl) ?_
  refine .seq ?_
  refine .seq ?_
  refine .region ?_
  refine xo.ret 1 (by kernel_rfl) (cf67 _ _) (tree_right_f _ key hk) ?_
  rintro _ _ ⟨rfl, rfl⟩
  refine xo.done 1 [(0, Pt a.s 0), (1, I root), (2, S key), (15, B true)] (by kernel_rfl) rfl (by kernel_rfl) ?_
  refine .condT rfl rfl ?_
  refine .seq ?_
  refine .region ?_
  refine xo.done 2 [(6, I 0), (7, I 22)] (by kernel_rfl) rfl (by kernel_rfl) ?_
  refine .ret ?_
  refine ⟨[I 0, I 22], by kernel_rfl, _, rfl, ?_⟩
  exact ⟨rfl, rfl⟩

theorem tree_PutX (w : World) (a : SAd) (root : Int) (key val : ByteArray) (hk : ¬ (rightK key ∧ val.size ≤ 300)) :
    Ret Tryz.prog 36 [Pt a.s 0, I root, S key, S val] w fun v w' => v = .tuple #[I 0, I 22] ∧ w = w' := by
  refine calls_of_XC Tryz.func36 rfl rfl ?_
  refine .seq ?_
  refine .region ?_
  refine xo.done 2 [(0, Pt a.s 0), (1, I root), (2, S key), (3, S val)] (by kernel_rfl) rfl (by kernel_rfl) ?_
  refine .seq ?_
  refine .seq ?_
  refine .region ?_
  by_cases hr1 : rightK key
  · refine xo.ret 1 (by kernel_rfl) (cf67 _ _) (tree_right_t _ key hr1) ?_
    rintro _ _ ⟨rfl, rfl⟩
    refine xo.val 4 (by kernel_rfl) (c_gtr_f (show ¬ (((val.size : Int) : Int) ≤ 300) from (by have h2 : ¬ val.size ≤ 300 := fun h => hk ⟨(by assumption), h⟩; omega))) ?_
    refine xo.done 1 [(0, Pt a.s 0), (1, I root), (2, S key), (3, S val), (23, B true)] (by kernel_rfl) rfl (by kernel_rfl) ?_
    refine .condT rfl rfl ?_
    refine .seq ?_
    refine .region ?_
    refine xo.done 2 [(8, I 0), (9, I 22)] (by kernel_rfl) rfl (by kernel_rfl) ?_
    refine .ret ?_
    refine ⟨[I 0, I 22], by kernel_rfl, _, rfl, ?_⟩
    exact ⟨rfl, rfl⟩
  · refine xo.ret 1 (by kernel_rfl) (cf67 _ _) (tree_right_f _ key hr1) ?_
    rintro _ _ ⟨rfl, rfl⟩
    refine xo.done 6 [(0, Pt a.s 0), (1, I root), (2, S key), (3, S val), (23, B true)] (by kernel_rfl) rfl (by kernel_rfl) ?_
    refine .condT rfl rfl ?_
    refine .seq ?_
    refine .region ?_
    refine xo.done 2 [(8, I 0), (9, I 22)] (by kernel_rfl) rfl (by kernel_rfl) ?_
    refine .ret ?_
    refine ⟨[I 0, I 22], by kernel_rfl, _, rfl, ?_⟩
    exact ⟨rfl, rfl⟩

theorem delN_main {key : ByteArray} {h : Nat} {σ σ' : St} {items : List Item} {root : Int} {o : Except Int Int} {E : List KV} (hp : DelN key h σ items root σ' o) (t : TreeN σ h items root E) (hd : σ.dev.n ≤ 4096) :
    Keeps σ σ' ∧ (∀ c, o = .error c → c = 28) ∧ (∀ r, o = .ok r → TreeAt σ' r (delE E key)) ∧ SavesE (2 * h + 1) σ σ' o := by
  obtain ⟨σ1, o1, hP, hp⟩ := hp
  obtain ⟨k1, he1, hno, hw1, n1, hn1, hs1, hf1⟩ := cutR_main h σ _ σ1 o1 E hP t.ni t.cont t.sorted hd t.two
  have hsE := delE_sorted t.sorted key
  rcases hp with ⟨rfl, rfl, rfl⟩ | ⟨rfl, rfl, rfl⟩ | ⟨l, rfl, hp⟩
  · exact ⟨k1, (fun c hc => by cases hc; rfl), (fun r hr => by cases hr), n1, by omega, hs1, fun _ _ => hf1 _ rfl⟩
  · obtain ⟨e1, e2⟩ := hno rfl
    refine ⟨k1, (fun c hc => by cases hc), fun r hr => ?_, n1, by omega, hs1, (fun c hc => by cases hc)⟩
    cases hr
    rw [e2]
    exact .inr ⟨h, items, t.keeps k1⟩
  · obtain ⟨hcl, hitl, hl3, hl8⟩ := hw1 l rfl
    have h8 := t.ni.few
    have h20 := t.ni.high
    simp only at hl3 hl8 h8
    rcases hp with ⟨h0, rfl, rfl⟩ | ⟨x, rfl, hpos, rfl, rfl⟩ | ⟨h0, h1, o2, hs2, hp⟩
    · refine ⟨k1, (fun c hc => by cases hc), fun r hr => ?_, n1, by omega, hs1, (fun c hc => by cases hc)⟩
      cases hr
      have : l = [] := List.eq_nil_of_length_eq_zero h0
      subst this
      exact .inl ⟨rfl, hcl.nil_of⟩
    · refine ⟨k1, (fun c hc => by cases hc), fun r hr => ?_, n1, by omega, hs1, (fun c hc => by cases hc)⟩
      cases hr
      obtain ⟨h', rfl⟩ : ∃ h', h = h' + 1 := ⟨h - 1, by omega⟩
      obtain ⟨Xs, hEs, hXs⟩ := hcl
      obtain ⟨e, nk, rfl, r1, r4, rc⟩ := HeldM.one hXs
      simp only [List.flatten_cons, List.flatten_nil, List.append_nil] at hEs
      subst hEs
      exact r1.tree rc hsE (.inr (by omega))
    · rcases hp with ⟨c, rfl, rfl⟩ | ⟨z, rfl, rfl⟩
      · obtain ⟨rfl, hf, rfl⟩ := hs2
        exact ⟨k1, (fun c hc => by cases hc; rfl), (fun r hr => by cases hr), n1, by omega, hs1, fun _ _ => hf⟩
      · have hn : NI h ⟨(h : Int), l⟩ := hitl.ni h20 (by omega) (by omega)
        refine ⟨k1.trans hs2.keeps, (fun c hc => by cases hc), fun r hr => ?_, n1 + 1, by omega, hs1.trans (.cons hs2 hn hcl.kids (.nil _)), (fun c hc => by cases hc)⟩
        cases hr
        have hr2 := hs2.root hn hcl.kids (by rw [k1.n]; exact hd)
        exact hr2.tree (hcl.keeps hs2.keeps) hsE (by show h = 0 ∨ 2 ≤ l.length; omega)

end Go.Proofs.YtbajgpadmlnffaaGreat
/- Regions that draw their order, with a last store: what is held is owed only until operation m has come up. -/
namespace Go.V
section
variable {P : Program} {ops : Array Oper} {Q : Exit → Act → World → Prop} {md : Region.Mode} {S : World → Prop} {m : Nat}

def wpAnyM (P : Program) (md : Region.Mode) (ops : Array Oper) (Q : Exit → Act → World → Prop) (S : World → Prop) (m : Nat) : Nat → Array Bool → Act → World → Prop
  | 0, listed, a, w => Region.ready md ops listed = [] ∧ Q .normal a w
  | fuel + 1, listed, a, w =>
    (Region.ready md ops listed = [] → Q .normal a w) ∧
    ∀ i ∈ Region.ready md ops listed, wpOp P ops Q i (fun a' w' => ((listed.setIfInBounds i true).getD m true = false → S w') ∧ wpAnyM P md ops Q S m fuel (listed.setIfInBounds i true) a' w') a w

theorem wpAny_of_heldM : ∀ (fuel : Nat) (listed : Array Bool) (a : Act) (w : World), wpAnyM P md ops Q S m fuel listed a w → wpAny P md ops Q fuel listed a w
  | 0, _, _, _, h => h
  | fuel + 1, _, _, _, h => ⟨h.1, fun i hi => wpOp_mono (fun a' w' h' => wpAny_of_heldM fuel _ a' w' h'.2) (h.2 i hi)⟩

theorem wpAnyM_first {i : Nat} {oi : Oper} {v : Value} (hi : ops[i]? = some oi) (hsel : ∀ (j : Nat) (o : Oper) cs b, ops[j]? = some o → o.op ≠ .select cs b)
    (hQ : ∀ c a w, Q (.panic c) (a.put oi.dst v) w → Q (.panic c) a w) (him : i ≠ m) (hmw : ∃ om, ops[m]? = some om ∧ ∃ e ∈ om.after, Region.binds md e = true ∧ e.on = i) :
    ∀ (fuel : Nat) (listed : Array Bool) (a : Act) (w : World),
      (∀ j oj, ops[j]? = some oj → j ≠ i → listed.getD j true = false → (∀ e ∈ oj.after, Region.binds md e = true → e.on ≠ i) → oi.apart ops oj = true) →
      i ∈ Region.ready md ops listed → listed.getD m true = false → YieldsIf P ops S oi v a → S w →
      wpAnyM P md ops Q S m fuel (listed.setIfInBounds i true) (a.put oi.dst v) w → wpAnyM P md ops Q S m (fuel + 1) listed a w := by
  intro fuel
  induction fuel with
  | zero =>
    intro listed a w _ hr _ hy hS H
    refine ⟨fun h => (by rw [h] at hr; cases hr), fun j hj => ?_⟩
    by_cases hji : j = i
    · subst hji; exact hy.wpOp hi hS ⟨fun _ => hS, H⟩
    · have := ready_mono hj hji
      rw [H.1] at this
      cases this
  | succ fuel ih =>
    intro listed a w hfree hr hm hy hS H
    refine ⟨fun h => (by rw [h] at hr; cases hr), fun j hj => ?_⟩
    by_cases hji : j = i
    · subst hji; exact hy.wpOp hi hS ⟨fun _ => hS, H⟩
    · have h1 := H.2 j (ready_mono hj hji)
      obtain ⟨hjun, oj, hoj, hall⟩ := mem_ready.1 hj
      have hnot : ∀ e ∈ oj.after, Region.binds md e = true → e.on ≠ i := fun e he hb heq => by
        have h1 := hall e he hb
        have h0 := (mem_ready.1 hr).1
        rw [heq] at h1
        rcases Nat.lt_or_ge i listed.size with h' | h'
        · simp [h'] at h0 h1; rw [h0] at h1; cases h1
        · simp [Array.getElem?_eq_none h'] at h1
      have hjm : j ≠ m := by
        rintro rfl
        obtain ⟨om, ho, e, he, hb, heq⟩ := hmw
        rw [hoj] at ho
        obtain rfl := Option.some.inj ho
        exact hnot e he hb heq
      have h2 := wpOp_putIf hoj (hfree j oj hoj hji hjun hnot) (fun cs b => hsel i oi cs b hi) (fun cs b => hsel j oj cs b hoj) hQ hy h1
      have hfree' : ∀ k ok, ops[k]? = some ok → k ≠ i → (listed.setIfInBounds j true).getD k true = false →
          (∀ e ∈ ok.after, Region.binds md e = true → e.on ≠ i) → oi.apart ops ok = true := fun k ok hk hki hun hno => by
        refine hfree k ok hk hki ?_ hno
        by_cases hjk : j = k
        · subst hjk; exact hjun
        · rw [getD_set_ne true hjk] at hun; exact hun
      have hm' : (listed.setIfInBounds j true).getD m true = false := by rw [getD_set_ne true hjm]; exact hm
      have hm2 : ((listed.setIfInBounds i true).setIfInBounds j true).getD m true = false := by rw [getD_set_ne true hjm, getD_set_ne true him]; exact hm
      refine wpOp_mono (fun a' w' h3 => ⟨fun _ => h3.2.1 hm2, ih (listed.setIfInBounds j true) a' w' hfree' (ready_mono hr (Ne.symm hji)) hm' h3.1 (h3.2.1 hm2) ?_⟩) h2
      rw [Array.setIfInBounds_comm _ _ hji]
      exact h3.2.2
end
section
variable {P : Program} {n : Nat} {D : List Deferred} {K : Env → World → Prop} {X : Nat → Env → World → Prop} {R : Env → World → Prop} {E : List PanicEntry → Env → World → Prop} {e : Env} {w : World}
  {l : List Oper} {S : World → Prop} {m fuel : Nat} {listed : Array Bool}

def xm (P : Program) (n : Nat) (D : List Deferred) (l : List Oper) (S : World → Prop) (m : Nat) (K : Env → World → Prop) (X : Nat → Env → World → Prop) (R : Env → World → Prop) (E : List PanicEntry → Env → World → Prop)
    (fuel : Nat) (listed : Array Bool) (e : Env) (w : World) : Prop :=
  (listed.getD m true = false → S w) → ∀ a, Agree n D a e → wpAnyM P .any l.toArray (fun x a' w' => ∃ e', Agree n D a' e' ∧ post K X R E x e' w') S m fuel listed a w

theorem XC.regionDrawM {id : Nat} (m : Nat) (S : World → Prop) (hm : P.follows .mixedOrders = true)
    (h : ∀ w', Drew w w' → S w' ∧ xm P n D l S m K X R E l.toArray.size (Array.replicate l.toArray.size false) e w') : XC P n D (.region id l.toArray true) K X R E e w := by
  intro a ha
  obtain ⟨h1, h2⟩ := h { w with drawn := w.drawn + 1 } ⟨rfl, rfl, rfl, rfl⟩
  exact wp_region_any hm (wpAny_of_heldM _ _ _ _ (h2 (fun _ => h1) a ha))

def takeM (l : List Oper) (m : Nat) (listed : Array Bool) (i : Nat) : Bool :=
  takeB l listed i && !Nat.beq i m && Region.waitsFor .any l.toArray m i && !listed.getD m true

theorem xm.take_ (hE : ∀ c e e' w, E c e w → E c e' w) (i : Nat) {v : Value} (hB : takeM l m listed i = true)
    (hy : ∀ o a, l[i]? = some o → Agree n D a e → YieldsIf P l.toArray S o v a)
    (h : ∀ o, l[i]? = some o → xm P n D l S m K X R E fuel (listed.setIfInBounds i true) (eput n e o.dst v) w) : xm P n D l S m K X R E (fuel + 1) listed e w := by
  intro hS a ha
  simp only [takeM, takeB, Bool.and_eq_true, Bool.not_eq_true'] at hB
  obtain ⟨⟨⟨⟨⟨⟨h1, h2⟩, h3⟩, h4⟩, h5⟩, h6⟩, h7⟩ := hB
  obtain ⟨o, ho⟩ := Option.isSome_iff_exists.1 h4
  have him : i ≠ m := fun e => by rw [e, Nat.beq_refl] at h5; cases h5
  have hm' : (listed.setIfInBounds i true).getD m true = false := by rw [getD_set_ne true him]; exact h7
  refine wpAnyM_first (oi := o) (v := v) (by simpa using ho) (Region.noSelect_spec h1) ?_ him (Region.waitsFor_spec h6) fuel listed a w (Region.free_spec (by simpa using ho) h2) (by simpa using h3) h7 (hy o a ho ha) (hS h7) (h o ho (fun _ => hS h7) _ (ha.put _ _))
  rintro c a' w' ⟨e', he, hp⟩
  refine ⟨[], ⟨?_, ?_, fun t u hu => by simp [eget] at hu⟩, hE _ _ _ _ hp⟩
  · have := he.size; unfold Act.put at this; cases hd : o.dst <;> simp [hd] at this ⊢ <;> exact this
  · have := he.defers; unfold Act.put at this; cases hd : o.dst <;> simp [hd] at this ⊢ <;> exact this

theorem xm.rd (hE : ∀ c e e' w, E c e w → E c e' w) (i : Nat) {v : Value} {Sm : Sem Next} (hB : takeM l m listed i = true) (hw : wantB l e i = some true) (hx : opRun P l e i = fun u => some (Sm.run P u))
    (hv : ∀ u, S u → Sm.run P u = .ok (.value v) u) (h : xm P n D l S m K X R E fuel (listed.setIfInBounds i true) (eput n e (dstAt l i) v) w) : xm P n D l S m K X R E (fuel + 1) listed e w := by
  refine xm.take_ hE i hB (v := v) (fun o a ho ha => .inl ?_) (fun o ho => ?_)
  · obtain ⟨h1, h2⟩ := wantB_true hw ho
    refine ⟨egd_sound ha h1, fun u hu => ?_⟩
    rw [ha.exec h2]
    have h3 := congrFun hx u
    unfold opRun at h3
    rw [ho] at h3
    simp only [Option.some.injEq] at h3
    rw [h3]
    exact hv u hu
  · rw [dstAt, ho] at h
    exact h
theorem xm.q (hE : ∀ c e e' w, E c e w → E c e' w) (i : Nat) (v : Value) (hB : takeM l m listed i = true) (hw : wantB l e i = some true) (hx : opRun P l e i = fun u => some (.ok (.value v) u))
    (h : xm P n D l S m K X R E fuel (listed.setIfInBounds i true) (eput n e (dstAt l i) v) w) : xm P n D l S m K X R E (fuel + 1) listed e w :=
  xm.rd hE i (Sm := Sem.pure (.value v)) hB hw hx (fun _ _ => rfl) h
theorem xm.no (hE : ∀ c e e' w, E c e w → E c e' w) (i : Nat) (hB : takeM l m listed i = true) (hw : wantB l e i = some false)
    (h : xm P n D l S m K X R E fuel (listed.setIfInBounds i true) (eput n e (dstAt l i) undef) w) : xm P n D l S m K X R E (fuel + 1) listed e w := by
  refine xm.take_ hE i hB (v := undef) (fun o a ho ha => .inr ⟨?_, rfl⟩) (fun o ho => ?_)
  · exact egd_sound ha (wantB_false hw ho)
  · rw [dstAt, ho] at h
    exact h
/-- The one that may come up comes up. -/
theorem xm.one (i : Nat) (hr : Region.ready .any l.toArray listed = [i])
    (h : xo P l n (l[i]?).toList e w (fun e' w' => S w' ∧ xm P n D l S m K X R E fuel (listed.setIfInBounds i true) e' w') E) : xm P n D l S m K X R E (fuel + 1) listed e w := by
  intro hS a ha
  refine ⟨fun h0 => (by rw [hr] at h0; cases h0), fun j hj => ?_⟩
  rw [hr] at hj
  obtain rfl : j = i := by simpa using hj
  have hmem : j ∈ Region.ready .any l.toArray listed := by rw [hr]; simp
  obtain ⟨_, o, ho, _⟩ := mem_ready.1 hmem
  have ho' : l[j]? = some o := by simpa using ho
  refine wpOp_of_wpList ho (xo_sound (D := D) ?_ ?_ [o] e w a ha (by rw [ho'] at h; exact h))
  · rintro e' w' a' ⟨h1, h2⟩ ha'
    exact ⟨fun _ => h1, h2 (fun _ => h1) a' ha'⟩
  · intro ch e' w' a' hk ha'
    exact ⟨e', ha', hk⟩
/-- The last ones: nothing is owed behind m. -/
theorem xm.past (i : Nat) (hr : Region.ready .any l.toArray listed = [i]) (hm : (listed.setIfInBounds i true).getD m true = true)
    (h : xo P l n (l[i]?).toList e w (fun e' w' => xm P n D l S m K X R E fuel (listed.setIfInBounds i true) e' w') E) : xm P n D l S m K X R E (fuel + 1) listed e w := by
  intro hS a ha
  refine ⟨fun h0 => (by rw [hr] at h0; cases h0), fun j hj => ?_⟩
  rw [hr] at hj
  obtain rfl : j = i := by simpa using hj
  have hmem : j ∈ Region.ready .any l.toArray listed := by rw [hr]; simp
  obtain ⟨_, o, ho, _⟩ := mem_ready.1 hmem
  have ho' : l[j]? = some o := by simpa using ho
  have hm' : (listed.setIfInBounds j true).getD m true = false → S w := fun hf => by rw [hm] at hf; cases hf
  refine wpOp_of_wpList ho (xo_sound (D := D) ?_ ?_ [o] e w a ha (by rw [ho'] at h; exact h))
  · rintro e' w' a' h2 ha'
    exact ⟨fun hf => (by rw [hm] at hf; cases hf), h2 (fun hf => by rw [hm] at hf; cases hf) a' ha'⟩
  · intro ch e' w' a' hk ha'
    exact ⟨e', ha', hk⟩
theorem xm.done (hr : Region.ready .any l.toArray listed = []) (h : K e w) : xm P n D l S m K X R E fuel listed e w := by
  intro _ a ha
  cases fuel with
  | zero => exact ⟨hr, e, ha, h⟩
  | succ f => exact ⟨fun _ => ⟨e, ha, h⟩, by rw [hr]; simp⟩
end
end Go.V
/- What appending through a pointer turns. -/
namespace Go.V
set_option linter.unusedVariables false

/-! what an appending through a pointer turns: the slice's own variable, and blocks of its elements -/
def TyFp (t : TypeId) (bo base : Nat) (w : World) : Nat → Prop := fun b => b = bo ∨ (base ≤ b ∧ ∃ cs, Blk w b t cs)
theorem TyFp.ne_blk {t t' : TypeId} {bo base b : Nat} {w : World} {cs : List Value} (h : Blk w b t' cs) (hb : b ≠ bo) (ht : Nat.beq t' t = false) : ¬ TyFp t bo base w b := by
  rintro (h1 | ⟨_, cs', h2⟩)
  · exact hb h1
  · exact Blk.ne h h2 ht rfl
theorem TyFp.ne_own {α : Type} {k : Kd α} {t t' : TypeId} {bo base b0 cap : Nat} {w : World} {A : Option Addr} {xs : List α} {cs : List Value} (h : Own k w b0 A cap xs) (hbo : Blk w bo t' cs) (h1 : Nat.beq t' k.ty = false) (h2 : Nat.beq t k.ty = false) : ∀ b, OwnB A b → ¬ TyFp t bo base w b := by
  rintro b hb (rfl | ⟨_, cs', h3⟩)
  · exact h.ne hbo h1 hb
  · exact h.ne h3 h2 hb
theorem TyFp.ne_map {α : Type} {t t' : TypeId} {bo base m : Nat} {w : World} {enc : α → Value} {f : List (Int × α)} {cs : List Value} (h : MapAt w m enc f) (hbo : Blk w bo t' cs) : ¬ TyFp t bo base w m := by
  rintro (rfl | ⟨_, cs', h3⟩)
  · exact MapAt.ne h hbo rfl
  · exact MapAt.ne h h3 rfl
theorem Ext.byc {M N : Nat → Prop} {w u u' : World} (h : Ext M w u) (k : Ext N u u') (hk : ∀ b, b < w.heap.size → ¬ M b → ¬ N b) : Ext M w u' :=
  h.trans' k (fun _ _ h => h) fun b hb hn => Classical.byContradiction fun hm => hk b hb hm hn
section
variable {t : TypeId} {bo base : Nat} {w u u' : World}
theorem TyFp.rf : Ext (TyFp t bo base w) w w := .refl _ _
theorem TyFp.no (h : Ext (TyFp t bo base w) w u) (k : Ext No u u') : Ext (TyFp t bo base w) w u' := h.byc k fun _ _ _ h => h
theorem TyFp.is (h : Ext (TyFp t bo base w) w u) (k : Ext (fun b => b = bo) u u') : Ext (TyFp t bo base w) w u' := h.byc k fun b _ hm e => hm (.inl e)
theorem TyFp.fresh {b0 : Nat} (h : Ext (TyFp t bo base w) w u) (k : Ext (fun b => b = b0) u u') (hb : w.heap.size ≤ b0) : Ext (TyFp t bo base w) w u' := h.byc k fun b hb' hm e => by omega
theorem TyFp.own {α : Type} {k : Kd α} {b0 cap : Nat} {A : Option Addr} {xs : List α} (h : Ext (TyFp t bo base w) w u) (x : Ext (OwnB A) u u') (ho : Own k u b0 A cap xs) (ht : k.ty = t) (hb : base ≤ b0) : Ext (TyFp t bo base w) w u' := by
  refine h.byc x fun b hlt hm ho' => hm ?_
  right
  have h1 := ho.lt ho'
  refine ⟨by omega, ?_⟩
  obtain ⟨o, rfl⟩ := ho'
  rcases ho with ⟨h2, _⟩ | ⟨g, rest, h2, _, h3, _⟩
  · cases h2
  · injection h2 with h2; injection h2 with h2; subst h2
    have := h.block b hlt hm
    unfold Blk at h3
    rw [this] at h3
    rw [ht] at h3
    exact ⟨_, h3⟩
theorem TyFp.ownf {α : Type} {k : Kd α} {b0 cap : Nat} {A : Option Addr} {xs : List α} (h : Ext (TyFp t bo base w) w u) (x : Ext (OwnB A) u u') (ho : Own k u b0 A cap xs) (hb : w.heap.size ≤ b0) : Ext (TyFp t bo base w) w u' := by
  refine h.byc x fun b hlt hm ho' => ?_
  have h1 := ho.lt ho'
  omega
theorem TyFp.ty (h : Ext (TyFp t bo base w) w u) (x : Ext (TyFp t bo base u) u u') : Ext (TyFp t bo base w) w u' := by
  refine h.byc x fun b hlt hm hm' => hm ?_
  rcases hm' with rfl | ⟨h1, cs, h2⟩
  · exact .inl rfl
  · have := h.block b hlt hm
    unfold Blk at h2
    rw [this] at h2
    exact .inr ⟨h1, cs, h2⟩
end
end Go.V
/- tree.walk: the walk. -/
namespace Go.Proofs.YtbajgpadmlnffaaGreat
open Go.V
set_option maxRecDepth 100000
set_option linter.unusedVariables false
set_option linter.unusedSimpArgs false

theorem StAt.tyfp {w u : World} {a : SAd} {σ : St} {t t' : TypeId} {bo base : Nat} {cs : List Value} (h : StAt w a σ) (hx : Ext (TyFp t bo base w) w u) (hbo : Blk w bo t' cs) (h1 : a.hi ≤ bo) (h2 : a.hi ≤ base) (ht : Nat.beq 3 t = false) (ht' : Nat.beq 3 t' = false) : StAt u a σ := by
  refine h.ext hx (fun b hb1 hb2 hm => ?_) (TyFp.ne_map h.mkt hbo) (fun b cs' hb => ?_)
  · rcases hm with rfl | ⟨h3, _⟩ <;> omega
  · refine TyFp.ne_blk hb ?_ ht
    rintro rfl
    exact Blk.ne hb hbo ht' rfl
def entK (e : KV) : Entry := ⟨e.1, e.2⟩
theorem toList_nil : (⟨#[]⟩ : ByteArray).toList = [] := by simp [ByteArray.toList, ByteArray.toList.loop, ByteArray.size]
theorem lt_empty {k : ByteArray} (h : k ≠ ⟨#[]⟩) : Lt ⟨#[]⟩ k := by
  unfold Lt
  rw [toList_nil]
  cases h2 : k.toList with
  | nil => exact absurd (ba_ext (by rw [h2, toList_nil])) h
  | cons a r => rfl
theorem not_lt_empty (k : ByteArray) : ¬ Lt k ⟨#[]⟩ := by
  unfold Lt
  rw [toList_nil]
  cases k.toList <;> simp [Op.bytesLess]
theorem All2.at_ {α β : Type} {R : α → β → Prop} : ∀ {l : List α} {m : List β}, All2 R l m → ∀ {i : Nat} {x : α}, l[i]? = some x → ∃ y, m[i]? = some y ∧ R x y
  | [], [], _, i, x, hx => by simp at hx
  | a :: r, y :: q, ⟨h1, h2⟩, 0, x, hx => by simp at hx; subst hx; exact ⟨y, rfl, h1⟩
  | a :: r, y :: q, ⟨h1, h2⟩, i + 1, x, hx => by
    obtain ⟨z, h3, h4⟩ := All2.at_ h2 (i := i) (x := x) (by simpa using hx)
    exact ⟨z, by simpa using h3, h4⟩
  | [], _ :: _, h, _, _, _ => h.elim
  | _ :: _, [], h, _, _, _ => h.elim
theorem flat_take_len {α : Type} : ∀ (Es : List (List α)) (i : Nat), (Es.take i).flatten.length ≤ Es.flatten.length
  | [], i => by simp
  | e :: r, 0 => by simp
  | e :: r, i + 1 => by
    have := flat_take_len r i
    simp only [List.take_succ_cons, List.flatten_cons, List.length_append]; omega
theorem flat_take_succ {α : Type} {Es : List (List α)} {i : Nat} {e : List α} (h : Es[i]? = some e) : (Es.take (i + 1)).flatten = (Es.take i).flatten ++ e := by
  obtain ⟨hi, h2⟩ := List.getElem?_eq_some_iff.1 h
  rw [List.take_succ_eq_append_getElem hi, List.flatten_append, h2]
  simp

def WalkOK (h : Nat) : Prop := ∀ (w : World) (a : SAd) (σ : St) (hS : StAt w a σ) (hA : Alive σ) (A : Option Addr) (cap b0 : Nat) (items : List Item) (hI : Own kItem w b0 A cap items) (hN : NI h ⟨(h : Int), items⟩) (E : List KV) (hC : Cont σ h items E) (bo base : Nat) (Ao : Option Addr) (co : Nat) (out : List Entry) (hbo : Blk w bo 36 [.slice Ao out.length co]) (hout : Own kEntry w base Ao co out) (hb1 : a.hi ≤ bo) (hb2 : a.hi ≤ base) (hb3 : base ≤ w.heap.size) (most : Int) (hm1 : 1000 < most) (hm2 : most < 4611686018427387904) (hlen : out.length + E.length ≤ 1000),
    Ret Tryz.prog 76 [Pt a.s 0, .agg #[I (h : Int), .slice A items.length cap], S ⟨#[]⟩, S ⟨#[]⟩, I most, Pt bo 0] w fun v w' => v = I 0 ∧ (∃ A' c', Blk w' bo 36 [.slice A' (out ++ E.map entK).length c'] ∧ Own kEntry w' base A' c' (out ++ E.map entK)) ∧ StAt w' a σ ∧ Ext (TyFp 38 bo base w) w w'

theorem tree_walk0 (w : World) (a : SAd) (σ : St) (hS : StAt w a σ) (A : Option Addr) (cap b0 : Nat) (items : List Item) (hI : Own kItem w b0 A cap items) (hN : NI 0 ⟨((0 : Nat) : Int), items⟩) (E : List KV) (hEm : E = items.map kv) (bo base : Nat) (Ao : Option Addr) (co : Nat) (out : List Entry) (hbo : Blk w bo 36 [.slice Ao out.length co]) (hout : Own kEntry w base Ao co out) (hb1 : a.hi ≤ bo) (hb2 : a.hi ≤ base) (hb3 : base ≤ w.heap.size) (most : Int) (hm1 : 1000 < most) (hm2 : most < 4611686018427387904) (hlen : out.length + E.length ≤ 1000) :
    Ret Tryz.prog 76 [Pt a.s 0, .agg #[I 0, .slice A items.length cap], S (⟨#[]⟩), S (⟨#[]⟩), I most, Pt bo 0] w fun v w' => v = I 0 ∧ (∃ A' c', Blk w' bo 36 [.slice A' (out ++ E.map entK).length c'] ∧ Own kEntry w' base A' c' (out ++ E.map entK)) ∧ StAt w' a σ ∧ Ext (TyFp 38 bo base w) w w' := by
  have lS := hS.bs.lt
  have lMc := hS.mc.lt
  have lMk := hS.mkt.lt
  have hhi := hS.hi
  have nSC : a.s ≠ a.mc := fun e => MapAt.ne hS.mc hS.bs e.symm
  have nKC : a.mkk ≠ a.mc := fun e => hS.cmk e.symm
  have h8 : items.length ≤ 8 := hN.few
  have h1 : 0 < items.length := hN.pos
  have lbo := hbo.lt
  have hEl0 : E.length = items.length := by rw [hEm, List.length_map]
  refine calls_of_XC Tryz.func76 rfl rfl ?_
  refine .seq ?_
  refine .region ?_
  refine xo.box 0 113 (.agg #[I 0, .slice A items.length cap]) [I 0, .slice A items.length cap] (by kernel_rfl) (by kernel_rfl) ?_
  intro b1 w2 hb3 hx4 hg5
  have z2 := hx4.size
  have l3 := hb3.lt
  refine xo.done 1 [(0, Pt a.s 0), (2, S (⟨#[]⟩)), (3, S (⟨#[]⟩)), (4, I most), (5, Pt bo 0), (7, Pt b1 0)] (by kernel_rfl) rfl (by kernel_rfl) ?_
  refine .seq ?_
  refine .seq ?_
  refine .region ?_
  refine xo.val 1 (by kernel_rfl) (ldB (t := 111) (o := 1) (by kernel_rfl) hb3 rfl) ?_
  refine xo.done 2 [(0, Pt a.s 0), (2, S (⟨#[]⟩)), (3, S (⟨#[]⟩)), (4, I most), (5, Pt bo 0), (7, Pt b1 0), (18, .slice A items.length cap), (19, I (items.length : Int)), (20, I 0)] (by kernel_rfl) rfl (by kernel_rfl) ?_
  refine .block ?_
  have hb6 := (hbo.ext hx4 (fun h => h))
  have hs7 := (hout.ext hx4 (fun _ _ h => h))
  have hf8 := (hS.no hx4)
  refine XC.loop (ι := Option Addr × Nat × Nat × List Entry) (fun ⟨A_, c_, i, xs⟩ => [(0, Pt a.s 0), (2, S (⟨#[]⟩)), (3, S (⟨#[]⟩)), (4, I most), (5, Pt bo 0), (7, Pt b1 0), (18, .slice A items.length cap), (19, I (items.length : Int)), (20, I (i : Int))]) (fun ⟨A_, c_, i, xs⟩ u => Blk u bo 36 [.slice A_ xs.length c_] ∧ Own kEntry u base A_ c_ xs ∧ Blk u b1 113 [I 0, .slice A items.length cap] ∧ StAt u a σ ∧ Ext (TyFp 38 bo base w) w u ∧ i ≤ items.length ∧ xs = out ++ (E.take i).map entK) (fun ⟨A_, c_, i, xs⟩ => items.length - i) (Ao, co, 0, out) (cov_of (by kernel_rfl)) ⟨hb6, hs7, hb3, hf8, (TyFp.no TyFp.rf hx4), by omega, by simp⟩ ?_
  rintro ⟨A_, c_, i, xs⟩ w9 ⟨hbou, hown, hb1u, hSu, hE, hi_, hxs⟩
  have z9 := hE.size
  have lb1u := hb1u.lt
  have hxl : xs.length = out.length + (E.take i).length := by rw [hxs, List.length_append, List.length_map]
  rw [List.length_take] at hxl
  refine .seq ?_
  refine .region ?_
  by_cases hc10 : ((i : Int) : Int) < (items.length : Int)
  · refine xo.val 0 (by kernel_rfl) (c_lss_t hc10) ?_
    refine xo.done 0 [(0, Pt a.s 0), (2, S (⟨#[]⟩)), (3, S (⟨#[]⟩)), (4, I most), (5, Pt bo 0), (7, Pt b1 0), (18, .slice A items.length cap), (19, I (items.length : Int)), (20, I (i : Int)), (21, B true)] (by kernel_rfl) rfl (by kernel_rfl) ?_
    refine .seq ?_
    refine .condT rfl rfl ?_
    refine .skip ?_
    refine .seq ?_
    refine .block ?_
    refine .seq ?_
    refine .region ?_
    have hs11 := (hI.ext hE (TyFp.ne_own hI hbo rfl rfl))
    obtain ⟨b12, o13, x14, hi15, hA16, hl17, hh18, hr19⟩ := hs11.rd.at_ i (by omega)
    refine xo.val 1 (by kernel_rfl) (idxN (kk := .i64) (t := 111) (n := items.length) (cap := cap) (sz := 3) (i := i) (by kernel_rfl) hA16 (by omega)) ?_
    refine xo.val 0 (by kernel_rfl) (ldA (t := 119) (by kernel_rfl) hr19) ?_
    refine xo.alloc 0 119 [S (⟨#[]⟩), S (⟨#[]⟩), I 0] (by kernel_rfl) (by kernel_rfl) ?_
    intro b20 w21 hb22 hx23 hg24
    have z21 := hx23.size
    have l22 := hb22.lt
    refine xo.store 1 119 (o := 0) (.agg #[S x14.key, S x14.val, I x14.kid]) [S x14.key, S x14.val, I x14.kid] (by kernel_rfl) hb22 (by kernel_rfl) (by kernel_rfl) (by kernel_rfl) (by kernel_rfl) ?_
    intro w25 hb26 hx27
    have z25 := hx27.size
    refine xo.done 0 [(0, Pt a.s 0), (2, S (⟨#[]⟩)), (3, S (⟨#[]⟩)), (4, I most), (5, Pt bo 0), (7, Pt b1 0), (13, I (i : Int)), (14, Pt b20 0), (18, .slice A items.length cap), (19, I (items.length : Int)), (20, I (i : Int))] (by kernel_rfl) rfl (by kernel_rfl) ?_
    refine .seq ?_
    refine .seq ?_
    refine .region ?_
    have hb28 := ((hbou.ext hx23 (fun h => h)).ext hx27 (show bo ≠ b20 by omega))
    refine xo.val 2 (by kernel_rfl) (ldB (t := 36) (o := 0) (by kernel_rfl) hb28 rfl) ?_
    refine xo.val 2 (by kernel_rfl) (c_geq_t (show ((xs.length : Int) : Int) < most from (by omega))) ?_
    refine xo.done 10 [(0, Pt a.s 0), (2, S (⟨#[]⟩)), (3, S (⟨#[]⟩)), (4, I most), (5, Pt bo 0), (7, Pt b1 0), (13, I (i : Int)), (14, Pt b20 0), (18, .slice A items.length cap), (19, I (items.length : Int)), (20, I (i : Int)), (40, B false)] (by kernel_rfl) rfl (by kernel_rfl) ?_
    refine .condF rfl rfl ?_
    refine .skip ?_
    refine .seq ?_
    refine .seq ?_
    refine .region ?_
    have hb29 := ((hb1u.ext hx23 (fun h => h)).ext hx27 (show b1 ≠ b20 by omega))
    refine xo.val 1 (by kernel_rfl) (ldB (t := 3) (o := 0) (by kernel_rfl) hb29 rfl) ?_
    refine xo.done 1 [(0, Pt a.s 0), (2, S (⟨#[]⟩)), (3, S (⟨#[]⟩)), (4, I most), (5, Pt bo 0), (7, Pt b1 0), (13, I (i : Int)), (14, Pt b20 0), (18, .slice A items.length cap), (19, I (items.length : Int)), (20, I (i : Int)), (43, B true)] (by kernel_rfl) rfl (by kernel_rfl) ?_
    refine .condT rfl rfl ?_
    refine .seq ?_
    refine .seq ?_
    refine .region ?_
    refine xo.val 1 (by kernel_rfl) (ldB (t := 9) (o := 0) (by kernel_rfl) hb26 rfl) ?_
    refine xo.val 1 (by kernel_rfl) (s_geq_f (show ¬ (Lt x14.key (⟨#[]⟩)) from (not_lt_empty _))) ?_
    refine xo.done 0 [(0, Pt a.s 0), (2, S (⟨#[]⟩)), (3, S (⟨#[]⟩)), (4, I most), (5, Pt bo 0), (7, Pt b1 0), (14, Pt b20 0), (18, .slice A items.length cap), (19, I (items.length : Int)), (20, I (i : Int)), (47, B true)] (by kernel_rfl) rfl (by kernel_rfl) ?_
    refine .condT rfl rfl ?_
    refine XC.regionDrawM 12 (fun u => Blk u b20 119 [S x14.key, S x14.val, I x14.kid] ∧ Blk u bo 36 [.slice A_ xs.length c_] ∧ True) (by kernel_rfl) ?_
    intro w32 hd33
    have hx33 := Ext.ofDrew (M := No) hd33
    have z32 := hx33.size
    have hb34 := (hb26.ext hx33 (fun h => h))
    have hb35 := (hb28.ext hx33 (fun h => h))
    refine ⟨⟨hb34, hb35, trivial⟩, ?_⟩
    refine xm.q (fun _ _ _ _ h => h) 0 (Pt bo 0) (by kernel_rfl) (by kernel_rfl) (by kernel_rfl) ?_
    refine xm.q (fun _ _ _ _ h => h) 1 (Pt bo 0) (by kernel_rfl) (by kernel_rfl) (by kernel_rfl) ?_
    refine xm.q (fun _ _ _ _ h => h) 2 (Pt bo 0) (by kernel_rfl) (by kernel_rfl) (by kernel_rfl) ?_
    refine xm.rd (fun _ _ _ _ h => h) 3 (by kernel_rfl) (by kernel_rfl) (by kernel_rfl) (fun u hS => (ldB (t := 36) (o := 0) (by kernel_rfl) hS.2.1 rfl)) ?_
    refine xm.q (fun _ _ _ _ h => h) 4 (Pt b20 0) (by kernel_rfl) (by kernel_rfl) (by kernel_rfl) ?_
    refine xm.rd (fun _ _ _ _ h => h) 5 (by kernel_rfl) (by kernel_rfl) (by kernel_rfl) (fun u hS => (ldB (t := 9) (o := 0) (by kernel_rfl) hS.1 rfl)) ?_
    refine xm.q (fun _ _ _ _ h => h) 6 (Pt b20 1) (by kernel_rfl) (by kernel_rfl) (by kernel_rfl) ?_
    refine xm.rd (fun _ _ _ _ h => h) 7 (by kernel_rfl) (by kernel_rfl) (by kernel_rfl) (fun u hS => (ldB (t := 9) (o := 1) (by kernel_rfl) hS.1 rfl)) ?_
    refine xm.q (fun _ _ _ _ h => h) 8 (.agg #[S x14.key, S x14.val]) (by kernel_rfl) (by kernel_rfl) (by kernel_rfl) ?_
    refine xm.one 9 (by kernel_rfl) ?_
    refine xo.bsl 0 36 1 #[(0, .agg #[S x14.key, S x14.val])] (et := 38) (cs := [S x14.key, S x14.val]) (by kernel_rfl) (by kernel_rfl) ?_
    intro b36 w37 hb38 hx39 hg40
    have z37 := hx39.size
    have l38 := hb38.lt
    refine xo.fin 0 (by kernel_rfl) rfl ?_
    have hb41 := (hb34.ext hx39 (fun h => h))
    have hb42 := (hb35.ext hx39 (fun h => h))
    refine ⟨⟨hb41, hb42, trivial⟩, ?_⟩
    refine xm.one 10 (by kernel_rfl) ?_
    have hs43 := ((((hown.ext hx23 (fun _ _ h => h)).ext hx27 (fun b hb (e : b = b20) => (hown.ext hx23 (fun _ _ h => h)).ne hb22 rfl (e ▸ hb))).ext hx33 (fun _ _ h => h)).ext hx39 (fun _ _ h => h))
    refine xo.app 0 (ty := 36) (k := kEntry) (t := 36) (tx := 36) (xs := xs) (ys := [(⟨x14.key, x14.val⟩ : Entry)]) (x := .slice (some ⟨b36, 0, none⟩) 1 1) (by exact pEntry) hs43 (src_one (k := kEntry) (x := (⟨x14.key, x14.val⟩ : Entry)) (by kernel_rfl) hb38 rfl) (by omega) (show (xs.length + 1) * 32 ≤ 140737488355328 from (by first | omega | (simp only [List.length_append, List.length_cons, List.length_nil]; omega))) (show xs.length + 1 ≤ 9223372036854775807 from (by first | omega | (simp only [List.length_append, List.length_cons, List.length_nil]; omega))) (by kernel_rfl) ?_
    intro A44 c45 w46 ho47 hx48
    have z46 := hx48.size
    refine xo.fin 0 (by kernel_rfl) rfl ?_
    have hb49 := (hb41.ext hx48 (hs43.ne hb41 rfl))
    have hb50 := (hb42.ext hx48 (hs43.ne hb42 rfl))
    refine ⟨⟨hb49, hb50, trivial⟩, ?_⟩
    refine xm.q (fun _ _ _ _ h => h) 11 (Pt bo 0) (by kernel_rfl) (by kernel_rfl) (by kernel_rfl) ?_
    refine xm.past 12 (by kernel_rfl) (by kernel_rfl) ?_
    refine xo.store 0 36 (o := 0) (.slice A44 ((xs ++ [(⟨x14.key, x14.val⟩ : Entry)]).length) c45) [.slice A44 ((xs ++ [(⟨x14.key, x14.val⟩ : Entry)]).length) c45] (by kernel_rfl) hb50 (by kernel_rfl) (by kernel_rfl) (by kernel_rfl) (by kernel_rfl) ?_
    intro w51 hb52 hx53
    have z51 := hx53.size
    refine xo.fin 0 (by kernel_rfl) rfl ?_
    refine xm.done (by kernel_rfl) ?_
    refine .cov [(0, Pt a.s 0), (2, S (⟨#[]⟩)), (3, S (⟨#[]⟩)), (4, I most), (5, Pt bo 0), (7, Pt b1 0), (18, .slice A items.length cap), (19, I (items.length : Int)), (20, I (i : Int))] (cov_of (by kernel_rfl)) ?_
    refine .exit ?_
    refine xsetTo ?_
    refine .region ?_
    refine xo.val 0 (by kernel_rfl) (a_add (a := (i : Int)) (b := 1) (by omega) (by omega)) ?_
    refine xo.fin 1 (by kernel_rfl) rfl ?_
    have hs54 := (ho47.ext hx53 (fun b hb (e : b = bo) => ho47.ne hb50 rfl (e ▸ hb)))
    have hb55 := ((((hb29.ext hx33 (fun h => h)).ext hx39 (fun h => h)).ext hx48 (hs43.ne ((hb29.ext hx33 (fun h => h)).ext hx39 (fun h => h)) rfl)).ext hx53 (show b1 ≠ bo by omega))
    have hf56 := ((((((hSu.no hx23).ext hx27 (fun b h1 h2 (e : b = b20) => by omega) (MapAt.ne (hSu.no hx23).mkt hb22) (fun b cs hb (e : b = b20) => Blk.ne hb hb22 rfl e)).no hx33).no hx39).ext hx48 (fun b h1 h2 hm => absurd (hs43.lt hm).1 (by omega)) (hs43.ne_map ((((hSu.no hx23).ext hx27 (fun b h1 h2 (e : b = b20) => by omega) (MapAt.ne (hSu.no hx23).mkt hb22) (fun b cs hb (e : b = b20) => Blk.ne hb hb22 rfl e)).no hx33).no hx39).mkt) (fun b cs hb hm => hs43.ne hb rfl hm)).ext hx53 (fun b h1 h2 (e : b = bo) => by omega) (MapAt.ne (((((hSu.no hx23).ext hx27 (fun b h1 h2 (e : b = b20) => by omega) (MapAt.ne (hSu.no hx23).mkt hb22) (fun b cs hb (e : b = b20) => Blk.ne hb hb22 rfl e)).no hx33).no hx39).ext hx48 (fun b h1 h2 hm => absurd (hs43.lt hm).1 (by omega)) (hs43.ne_map ((((hSu.no hx23).ext hx27 (fun b h1 h2 (e : b = b20) => by omega) (MapAt.ne (hSu.no hx23).mkt hb22) (fun b cs hb (e : b = b20) => Blk.ne hb hb22 rfl e)).no hx33).no hx39).mkt) (fun b cs hb hm => hs43.ne hb rfl hm)).mkt hb50) (fun b cs hb (e : b = bo) => Blk.ne hb hb50 rfl e))
    refine ⟨(A44, c45, i + 1, xs ++ [(⟨x14.key, x14.val⟩ : Entry)]), cov_of (by kernel_rfl), ⟨hb52, hs54, hb55, hf56, (TyFp.is (TyFp.own (TyFp.no (TyFp.no (TyFp.fresh (TyFp.no (TyFp.ty TyFp.rf hE) hx23) hx27 (by omega)) hx33) hx39) hx48 hs43 rfl (by omega)) hx53), by omega, ?_⟩, by show items.length - (i + 1) < items.length - i; omega⟩
    rw [hxs, List.append_assoc]
    congr 1
    have hEi : E[i]? = some (kv x14) := by rw [hEm, List.getElem?_map, hi15]; rfl
    obtain ⟨hlt, hEe⟩ := List.getElem?_eq_some_iff.1 hEi
    rw [List.take_succ_eq_append_getElem hlt, hEe, List.map_append]
    rfl
  · refine xo.val 0 (by kernel_rfl) (c_lss_f hc10) ?_
    refine xo.done 0 [(0, Pt a.s 0), (2, S (⟨#[]⟩)), (3, S (⟨#[]⟩)), (4, I most), (5, Pt bo 0), (7, Pt b1 0), (18, .slice A items.length cap), (19, I (items.length : Int)), (20, I (i : Int)), (21, B false)] (by kernel_rfl) rfl (by kernel_rfl) ?_
    refine .seq ?_
    refine .condF rfl rfl ?_
    refine .exit ?_
    refine xsetTo ?_
    refine .seq ?_
    refine .region ?_
    refine xo.done 1 [(12, I 0)] (by kernel_rfl) rfl (by kernel_rfl) ?_
    refine .ret ?_
    refine ⟨[I 0], by kernel_rfl, _, rfl, ?_⟩
    have hi9 : i = items.length := by omega
    have hEl : E.length = items.length := by rw [hEm, List.length_map]
    rw [hi9, ← hEl, List.take_length] at hxs
    subst hxs
    exact ⟨rfl, ⟨_, _, hbou, hown⟩, hSu, (TyFp.ty TyFp.rf hE)⟩

theorem tree_walkS (h : Nat) (ih : WalkOK h) (w : World) (a : SAd) (σ : St) (hS : StAt w a σ) (hA : Alive σ) (A : Option Addr) (cap b0 : Nat) (items : List Item) (hI : Own kItem w b0 A cap items) (hN : NI (h + 1) ⟨((h + 1 : Nat) : Int), items⟩) (Es : List (List KV)) (hEs : All2 (fun x e => ∃ nk, RootAt σ h x nk ∧ 4 ≤ nk.items.length ∧ Cont σ h nk.items e) items Es) (E : List KV) (hEf : E = Es.flatten) (bo base : Nat) (Ao : Option Addr) (co : Nat) (out : List Entry) (hbo : Blk w bo 36 [.slice Ao out.length co]) (hout : Own kEntry w base Ao co out) (hb1 : a.hi ≤ bo) (hb2 : a.hi ≤ base) (hb3 : base ≤ w.heap.size) (most : Int) (hm1 : 1000 < most) (hm2 : most < 4611686018427387904) (hlen : out.length + E.length ≤ 1000) :
    Ret Tryz.prog 76 [Pt a.s 0, .agg #[I (((h + 1 : Nat) : Int)), .slice A items.length cap], S (⟨#[]⟩), S (⟨#[]⟩), I most, Pt bo 0] w fun v w' => v = I 0 ∧ (∃ A' c', Blk w' bo 36 [.slice A' (out ++ E.map entK).length c'] ∧ Own kEntry w' base A' c' (out ++ E.map entK)) ∧ StAt w' a σ ∧ Ext (TyFp 38 bo base w) w w' := by
  subst hEf
  have lS := hS.bs.lt
  have lMc := hS.mc.lt
  have lMk := hS.mkt.lt
  have hhi := hS.hi
  have nSC : a.s ≠ a.mc := fun e => MapAt.ne hS.mc hS.bs e.symm
  have nKC : a.mkk ≠ a.mc := fun e => hS.cmk e.symm
  have h8 : items.length ≤ 8 := hN.few
  have h1 : 0 < items.length := hN.pos
  have lbo := hbo.lt
  have h20 : h + 1 ≤ 20 := hN.high
  refine calls_of_XC Tryz.func76 rfl rfl ?_
  refine .seq ?_
  refine .region ?_
  refine xo.box 0 113 (.agg #[I (((h + 1 : Nat) : Int)), .slice A items.length cap]) [I (((h + 1 : Nat) : Int)), .slice A items.length cap] (by kernel_rfl) (by kernel_rfl) ?_
  intro b1 w2 hb3 hx4 hg5
  have z2 := hx4.size
  have l3 := hb3.lt
  refine xo.done 1 [(0, Pt a.s 0), (2, S (⟨#[]⟩)), (3, S (⟨#[]⟩)), (4, I most), (5, Pt bo 0), (7, Pt b1 0)] (by kernel_rfl) rfl (by kernel_rfl) ?_
  refine .seq ?_
  refine .seq ?_
  refine .region ?_
  refine xo.val 1 (by kernel_rfl) (ldB (t := 111) (o := 1) (by kernel_rfl) hb3 rfl) ?_
  refine xo.done 2 [(0, Pt a.s 0), (2, S (⟨#[]⟩)), (3, S (⟨#[]⟩)), (4, I most), (5, Pt bo 0), (7, Pt b1 0), (18, .slice A items.length cap), (19, I (items.length : Int)), (20, I 0)] (by kernel_rfl) rfl (by kernel_rfl) ?_
  refine .block ?_
  have hb6 := (hbo.ext hx4 (fun h => h))
  have hs7 := (hout.ext hx4 (fun _ _ h => h))
  have hf8 := (hS.no hx4)
  refine XC.loop (ι := Option Addr × Nat × Nat × List Entry) (fun ⟨A_, c_, i, xs⟩ => [(0, Pt a.s 0), (2, S (⟨#[]⟩)), (3, S (⟨#[]⟩)), (4, I most), (5, Pt bo 0), (7, Pt b1 0), (18, .slice A items.length cap), (19, I (items.length : Int)), (20, I (i : Int))]) (fun ⟨A_, c_, i, xs⟩ u => Blk u bo 36 [.slice A_ xs.length c_] ∧ Own kEntry u base A_ c_ xs ∧ Blk u b1 113 [I (((h + 1 : Nat) : Int)), .slice A items.length cap] ∧ StAt u a σ ∧ Ext (TyFp 38 bo base w) w u ∧ i ≤ items.length ∧ xs = out ++ ((Es.take i).flatten).map entK) (fun ⟨A_, c_, i, xs⟩ => items.length - i) (Ao, co, 0, out) (cov_of (by kernel_rfl)) ⟨hb6, hs7, hb3, hf8, (TyFp.no TyFp.rf hx4), by omega, by simp⟩ ?_
  rintro ⟨A_, c_, i, xs⟩ w9 ⟨hbou, hown, hb1u, hSu, hE, hi_, hxs⟩
  have z9 := hE.size
  have lb1u := hb1u.lt
  have hxl : xs.length = out.length + ((Es.take i).flatten).length := by rw [hxs, List.length_append, List.length_map]
  have hfl := flat_take_len Es i
  refine .seq ?_
  refine .region ?_
  by_cases hc10 : ((i : Int) : Int) < (items.length : Int)
  · refine xo.val 0 (by kernel_rfl) (c_lss_t hc10) ?_
    refine xo.done 0 [(0, Pt a.s 0), (2, S (⟨#[]⟩)), (3, S (⟨#[]⟩)), (4, I most), (5, Pt bo 0), (7, Pt b1 0), (18, .slice A items.length cap), (19, I (items.length : Int)), (20, I (i : Int)), (21, B true)] (by kernel_rfl) rfl (by kernel_rfl) ?_
    refine .seq ?_
    refine .condT rfl rfl ?_
    refine .skip ?_
    refine .seq ?_
    refine .block ?_
    refine .seq ?_
    refine .region ?_
    have hs11 := (hI.ext hE (TyFp.ne_own hI hbo rfl rfl))
    obtain ⟨b12, o13, x14, hi15, hA16, hl17, hh18, hr19⟩ := hs11.rd.at_ i (by omega)
    refine xo.val 1 (by kernel_rfl) (idxN (kk := .i64) (t := 111) (n := items.length) (cap := cap) (sz := 3) (i := i) (by kernel_rfl) hA16 (by omega)) ?_
    refine xo.val 0 (by kernel_rfl) (ldA (t := 119) (by kernel_rfl) hr19) ?_
    refine xo.alloc 0 119 [S (⟨#[]⟩), S (⟨#[]⟩), I 0] (by kernel_rfl) (by kernel_rfl) ?_
    intro b20 w21 hb22 hx23 hg24
    have z21 := hx23.size
    have l22 := hb22.lt
    refine xo.store 1 119 (o := 0) (.agg #[S x14.key, S x14.val, I x14.kid]) [S x14.key, S x14.val, I x14.kid] (by kernel_rfl) hb22 (by kernel_rfl) (by kernel_rfl) (by kernel_rfl) (by kernel_rfl) ?_
    intro w25 hb26 hx27
    have z25 := hx27.size
    refine xo.done 0 [(0, Pt a.s 0), (2, S (⟨#[]⟩)), (3, S (⟨#[]⟩)), (4, I most), (5, Pt bo 0), (7, Pt b1 0), (13, I (i : Int)), (14, Pt b20 0), (18, .slice A items.length cap), (19, I (items.length : Int)), (20, I (i : Int))] (by kernel_rfl) rfl (by kernel_rfl) ?_
    refine .seq ?_
    refine .seq ?_
    refine .region ?_
    have hb28 := ((hbou.ext hx23 (fun h => h)).ext hx27 (show bo ≠ b20 by omega))
    refine xo.val 2 (by kernel_rfl) (ldB (t := 36) (o := 0) (by kernel_rfl) hb28 rfl) ?_
    refine xo.val 2 (by kernel_rfl) (c_geq_t (show ((xs.length : Int) : Int) < most from (by omega))) ?_
    refine xo.done 10 [(0, Pt a.s 0), (2, S (⟨#[]⟩)), (3, S (⟨#[]⟩)), (4, I most), (5, Pt bo 0), (7, Pt b1 0), (13, I (i : Int)), (14, Pt b20 0), (18, .slice A items.length cap), (19, I (items.length : Int)), (20, I (i : Int)), (40, B false)] (by kernel_rfl) rfl (by kernel_rfl) ?_
    refine .condF rfl rfl ?_
    refine .skip ?_
    refine .seq ?_
    refine .seq ?_
    refine .region ?_
    have hb29 := ((hb1u.ext hx23 (fun h => h)).ext hx27 (show b1 ≠ b20 by omega))
    refine xo.val 1 (by kernel_rfl) (ldB (t := 3) (o := 0) (by kernel_rfl) hb29 rfl) ?_
    refine xo.val 0 (by kernel_rfl) (c_eql_f (show ¬ ((((h + 1 : Nat) : Int) : Int) = 0) from (by omega))) ?_
    refine xo.done 0 [(0, Pt a.s 0), (2, S (⟨#[]⟩)), (3, S (⟨#[]⟩)), (4, I most), (5, Pt bo 0), (7, Pt b1 0), (13, I (i : Int)), (14, Pt b20 0), (18, .slice A items.length cap), (19, I (items.length : Int)), (20, I (i : Int)), (43, B false)] (by kernel_rfl) rfl (by kernel_rfl) ?_
    refine .condF rfl rfl ?_
    refine .skip ?_
    refine .seq ?_
    refine .seq ?_
    refine .region ?_
    refine xo.val 1 (by kernel_rfl) (a_add (a := (i : Int)) (b := 1) (by omega) (by omega)) ?_
    refine xo.val 1 (by kernel_rfl) (ldB (t := 111) (o := 1) (by kernel_rfl) hb29 rfl) ?_
    by_cases hc30 : ((i : Int) + 1 : Int) < (items.length : Int)
    · refine xo.val 1 (by kernel_rfl) (c_lss_t hc30) ?_
      refine xo.val 2 (by kernel_rfl) (ldB (t := 111) (o := 1) (by kernel_rfl) hb29 rfl) ?_
      refine xo.val 1 (by kernel_rfl) (a_add (a := (i : Int)) (b := 1) (by omega) (by omega)) ?_
      have hs31 := ((hs11.ext hx23 (fun _ _ h => h)).ext hx27 (fun b hb (e : b = b20) => by have := (hI.lt hb).2; omega))
      obtain ⟨b32, o33, x34, hi35, hA36, hl37, hh38, hr39⟩ := hs31.rd.at_ (i + 1) (by omega)
      refine xo.val 0 (by kernel_rfl) (idxZ (kk := .i64) (t := 111) (n := items.length) (cap := cap) (sz := 3) (i := (i : Int) + 1) (by kernel_rfl) hA36 (by omega) (by omega)) ?_
      refine xo.val 1 (by kernel_rfl) (ld (t := 9) (by kernel_rfl) (hr39 0 _ rfl)) ?_
      refine xo.val 1 (by kernel_rfl) (s_leq_t (show Lt (⟨#[]⟩) x34.key from (lt_empty (hN.right _ (List.mem_of_getElem? hi35)).1))) ?_
      refine xo.done 1 [(0, Pt a.s 0), (2, S (⟨#[]⟩)), (3, S (⟨#[]⟩)), (4, I most), (5, Pt bo 0), (7, Pt b1 0), (13, I (i : Int)), (18, .slice A items.length cap), (19, I (items.length : Int)), (20, I (i : Int)), (76, B false)] (by kernel_rfl) rfl (by kernel_rfl) ?_
      refine .condF rfl rfl ?_
      refine .skip ?_
      refine .seq ?_
      refine .region ?_
      refine xo.val 1 (by kernel_rfl) (ldBA (t := 113) (o := 0) (vs := [I (((h + 1 : Nat) : Int)), .slice A items.length cap]) (by kernel_rfl) hb29 rfl) ?_
      obtain ⟨e, hEsi, nk, r1, r4, rc⟩ := hEs.at_ hi15
      obtain ⟨lv, it⟩ := nk
      have elv : lv = (h : Int) := r1.ni.level
      subst elv
      have hfs := congrArg List.length (flat_take_succ hEsi)
      have hfl2 := flat_take_len Es (i + 1)
      rw [List.length_append] at hfs
      have hf44 := ((hSu.no hx23).ext hx27 (fun b h1 h2 (e : b = b20) => by omega) (MapAt.ne (hSu.no hx23).mkt hb22) (fun b cs hb (e : b = b20) => Blk.ne hb hb22 rfl e))
      refine xo.ret 1 (by kernel_rfl) (cf96 _ _) (tree_below _ a σ hf44 hA ((h + 1 : Nat) : Int) A cap items b0 w25.heap.size hs31.rd (by omega) i x14 hi15 (⟨(h : Int), it⟩ : Node) r1.node (show (h : Int) = ((h + 1 : Nat) : Int) - 1 by omega) (by omega)) ?_
      rintro _ w45 ⟨A40, c41, rfl, hS42, hx46, ho43⟩
      have z45 := hx46.size
      refine xo.alloc 3 113 [I 0, .slice none 0 0] (by kernel_rfl) (by kernel_rfl) ?_
      intro b47 w48 hb49 hx50 hg51
      have z48 := hx50.size
      have l49 := hb49.lt
      refine xo.store 0 113 (o := 0) (.agg #[I (h : Int), .slice A40 it.length c41]) [I (h : Int), .slice A40 it.length c41] (by kernel_rfl) hb49 (by kernel_rfl) (by kernel_rfl) (by kernel_rfl) (by kernel_rfl) ?_
      intro w52 hb53 hx54
      have z52 := hx54.size
      refine xo.done 1 [(0, Pt a.s 0), (2, S (⟨#[]⟩)), (3, S (⟨#[]⟩)), (4, I most), (5, Pt bo 0), (7, Pt b1 0), (15, Pt b47 0), (16, I 0), (18, .slice A items.length cap), (19, I (items.length : Int)), (20, I (i : Int))] (by kernel_rfl) rfl (by kernel_rfl) ?_
      refine .seq ?_
      refine .seq ?_
      refine .region ?_
      refine xo.done 2 [(0, Pt a.s 0), (2, S (⟨#[]⟩)), (3, S (⟨#[]⟩)), (4, I most), (5, Pt bo 0), (7, Pt b1 0), (15, Pt b47 0), (16, I 0), (18, .slice A items.length cap), (19, I (items.length : Int)), (20, I (i : Int)), (85, B true)] (by kernel_rfl) rfl (by kernel_rfl) ?_
      refine .condT rfl rfl ?_
      refine .region ?_
      refine xo.val 1 (by kernel_rfl) (ldBA (t := 113) (o := 0) (vs := [I (h : Int), .slice A40 it.length c41]) (by kernel_rfl) hb53 rfl) ?_
      have hs55 := ((ho43.ext hx50 (fun _ _ h => h)).ext hx54 (fun b hb (e : b = b47) => (ho43.ext hx50 (fun _ _ h => h)).ne hb49 rfl (e ▸ hb)))
      have hb56 := (((hb28.ext hx46 (fun h => h)).ext hx50 (fun h => h)).ext hx54 (show bo ≠ b47 by omega))
      have hs57 := (((((hown.ext hx23 (fun _ _ h => h)).ext hx27 (fun b hb (e : b = b20) => (hown.ext hx23 (fun _ _ h => h)).ne hb22 rfl (e ▸ hb))).ext hx46 (fun _ _ h => h)).ext hx50 (fun _ _ h => h)).ext hx54 (fun b hb (e : b = b47) => ((((hown.ext hx23 (fun _ _ h => h)).ext hx27 (fun b hb (e : b = b20) => (hown.ext hx23 (fun _ _ h => h)).ne hb22 rfl (e ▸ hb))).ext hx46 (fun _ _ h => h)).ext hx50 (fun _ _ h => h)).ne hb49 rfl (e ▸ hb)))
      have hf58 := ((hS42.no hx50).ext hx54 (fun b h1 h2 (e : b = b47) => by omega) (MapAt.ne (hS42.no hx50).mkt hb49) (fun b cs hb (e : b = b47) => Blk.ne hb hb49 rfl e))
      refine xo.ret 4 (by kernel_rfl) (cf76 _ _) (ih _ a σ hf58 hA A40 c41 w25.heap.size it hs55 r1.ni e rc bo base A_ c_ xs hb56 hs57 hb1 hb2 (by omega) most hm1 hm2 (by omega)) ?_
      rintro _ w64 ⟨rfl, ⟨A59, c60, hb61, ho62⟩, hS63, hx65⟩
      have z64 := hx65.size
      refine xo.done 1 [(0, Pt a.s 0), (2, S (⟨#[]⟩)), (3, S (⟨#[]⟩)), (4, I most), (5, Pt bo 0), (7, Pt b1 0), (16, I 0), (18, .slice A items.length cap), (19, I (items.length : Int)), (20, I (i : Int))] (by kernel_rfl) rfl (by kernel_rfl) ?_
      refine .seq ?_
      refine .region ?_
      refine xo.done 2 [(0, Pt a.s 0), (2, S (⟨#[]⟩)), (3, S (⟨#[]⟩)), (4, I most), (5, Pt bo 0), (7, Pt b1 0), (16, I 0), (18, .slice A items.length cap), (19, I (items.length : Int)), (20, I (i : Int)), (94, B false)] (by kernel_rfl) rfl (by kernel_rfl) ?_
      refine .condF rfl rfl ?_
      refine .skip ?_
      refine .region ?_
      refine xo.val 0 (by kernel_rfl) (a_add (a := (i : Int)) (b := 1) (by omega) (by omega)) ?_
      refine xo.fin 1 (by kernel_rfl) rfl ?_
      have hb66 := ((((hb29.ext hx46 (fun h => h)).ext hx50 (fun h => h)).ext hx54 (show b1 ≠ b47 by omega)).ext hx65 (TyFp.ne_blk (((hb29.ext hx46 (fun h => h)).ext hx50 (fun h => h)).ext hx54 (show b1 ≠ b47 by omega)) (show b1 ≠ bo by omega) rfl))
      refine ⟨(A59, c60, i + 1, xs ++ e.map entK), cov_of (by kernel_rfl), ⟨hb61, ho62, hb66, hS63, (TyFp.ty (TyFp.fresh (TyFp.no (TyFp.no (TyFp.fresh (TyFp.no (TyFp.ty TyFp.rf hE) hx23) hx27 (by omega)) hx46) hx50) hx54 (by omega)) hx65), by omega, ?_⟩, by show items.length - (i + 1) < items.length - i; omega⟩
      rw [hxs, flat_take_succ hEsi, List.map_append, List.append_assoc]
    · refine xo.val 1 (by kernel_rfl) (c_lss_f hc30) ?_
      refine xo.done 11 [(0, Pt a.s 0), (2, S (⟨#[]⟩)), (3, S (⟨#[]⟩)), (4, I most), (5, Pt bo 0), (7, Pt b1 0), (13, I (i : Int)), (18, .slice A items.length cap), (19, I (items.length : Int)), (20, I (i : Int)), (76, B false)] (by kernel_rfl) rfl (by kernel_rfl) ?_
      refine .condF rfl rfl ?_
      refine .skip ?_
      refine .seq ?_
      refine .region ?_
      refine xo.val 1 (by kernel_rfl) (ldBA (t := 113) (o := 0) (vs := [I (((h + 1 : Nat) : Int)), .slice A items.length cap]) (by kernel_rfl) hb29 rfl) ?_
      have hs67 := ((hs11.ext hx23 (fun _ _ h => h)).ext hx27 (fun b hb (e : b = b20) => by have := (hI.lt hb).2; omega))
      obtain ⟨e, hEsi, nk, r1, r4, rc⟩ := hEs.at_ hi15
      obtain ⟨lv, it⟩ := nk
      have elv : lv = (h : Int) := r1.ni.level
      subst elv
      have hfs := congrArg List.length (flat_take_succ hEsi)
      have hfl2 := flat_take_len Es (i + 1)
      rw [List.length_append] at hfs
      have hf72 := ((hSu.no hx23).ext hx27 (fun b h1 h2 (e : b = b20) => by omega) (MapAt.ne (hSu.no hx23).mkt hb22) (fun b cs hb (e : b = b20) => Blk.ne hb hb22 rfl e))
      refine xo.ret 1 (by kernel_rfl) (cf96 _ _) (tree_below _ a σ hf72 hA ((h + 1 : Nat) : Int) A cap items b0 w25.heap.size hs67.rd (by omega) i x14 hi15 (⟨(h : Int), it⟩ : Node) r1.node (show (h : Int) = ((h + 1 : Nat) : Int) - 1 by omega) (by omega)) ?_
      rintro _ w73 ⟨A68, c69, rfl, hS70, hx74, ho71⟩
      have z73 := hx74.size
      refine xo.alloc 3 113 [I 0, .slice none 0 0] (by kernel_rfl) (by kernel_rfl) ?_
      intro b75 w76 hb77 hx78 hg79
      have z76 := hx78.size
      have l77 := hb77.lt
      refine xo.store 0 113 (o := 0) (.agg #[I (h : Int), .slice A68 it.length c69]) [I (h : Int), .slice A68 it.length c69] (by kernel_rfl) hb77 (by kernel_rfl) (by kernel_rfl) (by kernel_rfl) (by kernel_rfl) ?_
      intro w80 hb81 hx82
      have z80 := hx82.size
      refine xo.done 1 [(0, Pt a.s 0), (2, S (⟨#[]⟩)), (3, S (⟨#[]⟩)), (4, I most), (5, Pt bo 0), (7, Pt b1 0), (15, Pt b75 0), (16, I 0), (18, .slice A items.length cap), (19, I (items.length : Int)), (20, I (i : Int))] (by kernel_rfl) rfl (by kernel_rfl) ?_
      refine .seq ?_
      refine .seq ?_
      refine .region ?_
      refine xo.done 2 [(0, Pt a.s 0), (2, S (⟨#[]⟩)), (3, S (⟨#[]⟩)), (4, I most), (5, Pt bo 0), (7, Pt b1 0), (15, Pt b75 0), (16, I 0), (18, .slice A items.length cap), (19, I (items.length : Int)), (20, I (i : Int)), (85, B true)] (by kernel_rfl) rfl (by kernel_rfl) ?_
      refine .condT rfl rfl ?_
      refine .region ?_
      refine xo.val 1 (by kernel_rfl) (ldBA (t := 113) (o := 0) (vs := [I (h : Int), .slice A68 it.length c69]) (by kernel_rfl) hb81 rfl) ?_
      have hs83 := ((ho71.ext hx78 (fun _ _ h => h)).ext hx82 (fun b hb (e : b = b75) => (ho71.ext hx78 (fun _ _ h => h)).ne hb77 rfl (e ▸ hb)))
      have hb84 := (((hb28.ext hx74 (fun h => h)).ext hx78 (fun h => h)).ext hx82 (show bo ≠ b75 by omega))
      have hs85 := (((((hown.ext hx23 (fun _ _ h => h)).ext hx27 (fun b hb (e : b = b20) => (hown.ext hx23 (fun _ _ h => h)).ne hb22 rfl (e ▸ hb))).ext hx74 (fun _ _ h => h)).ext hx78 (fun _ _ h => h)).ext hx82 (fun b hb (e : b = b75) => ((((hown.ext hx23 (fun _ _ h => h)).ext hx27 (fun b hb (e : b = b20) => (hown.ext hx23 (fun _ _ h => h)).ne hb22 rfl (e ▸ hb))).ext hx74 (fun _ _ h => h)).ext hx78 (fun _ _ h => h)).ne hb77 rfl (e ▸ hb)))
      have hf86 := ((hS70.no hx78).ext hx82 (fun b h1 h2 (e : b = b75) => by omega) (MapAt.ne (hS70.no hx78).mkt hb77) (fun b cs hb (e : b = b75) => Blk.ne hb hb77 rfl e))
      refine xo.ret 4 (by kernel_rfl) (cf76 _ _) (ih _ a σ hf86 hA A68 c69 w25.heap.size it hs83 r1.ni e rc bo base A_ c_ xs hb84 hs85 hb1 hb2 (by omega) most hm1 hm2 (by omega)) ?_
      rintro _ w92 ⟨rfl, ⟨A87, c88, hb89, ho90⟩, hS91, hx93⟩
      have z92 := hx93.size
      refine xo.done 1 [(0, Pt a.s 0), (2, S (⟨#[]⟩)), (3, S (⟨#[]⟩)), (4, I most), (5, Pt bo 0), (7, Pt b1 0), (16, I 0), (18, .slice A items.length cap), (19, I (items.length : Int)), (20, I (i : Int))] (by kernel_rfl) rfl (by kernel_rfl) ?_
      refine .seq ?_
      refine .region ?_
      refine xo.done 2 [(0, Pt a.s 0), (2, S (⟨#[]⟩)), (3, S (⟨#[]⟩)), (4, I most), (5, Pt bo 0), (7, Pt b1 0), (16, I 0), (18, .slice A items.length cap), (19, I (items.length : Int)), (20, I (i : Int)), (94, B false)] (by kernel_rfl) rfl (by kernel_rfl) ?_
      refine .condF rfl rfl ?_
      refine .skip ?_
      refine .region ?_
      refine xo.val 0 (by kernel_rfl) (a_add (a := (i : Int)) (b := 1) (by omega) (by omega)) ?_
      refine xo.fin 1 (by kernel_rfl) rfl ?_
      have hb94 := ((((hb29.ext hx74 (fun h => h)).ext hx78 (fun h => h)).ext hx82 (show b1 ≠ b75 by omega)).ext hx93 (TyFp.ne_blk (((hb29.ext hx74 (fun h => h)).ext hx78 (fun h => h)).ext hx82 (show b1 ≠ b75 by omega)) (show b1 ≠ bo by omega) rfl))
      refine ⟨(A87, c88, i + 1, xs ++ e.map entK), cov_of (by kernel_rfl), ⟨hb89, ho90, hb94, hS91, (TyFp.ty (TyFp.fresh (TyFp.no (TyFp.no (TyFp.fresh (TyFp.no (TyFp.ty TyFp.rf hE) hx23) hx27 (by omega)) hx74) hx78) hx82 (by omega)) hx93), by omega, ?_⟩, by show items.length - (i + 1) < items.length - i; omega⟩
      rw [hxs, flat_take_succ hEsi, List.map_append, List.append_assoc]
  · refine xo.val 0 (by kernel_rfl) (c_lss_f hc10) ?_
    refine xo.done 0 [(0, Pt a.s 0), (2, S (⟨#[]⟩)), (3, S (⟨#[]⟩)), (4, I most), (5, Pt bo 0), (7, Pt b1 0), (18, .slice A items.length cap), (19, I (items.length : Int)), (20, I (i : Int)), (21, B false)] (by kernel_rfl) rfl (by kernel_rfl) ?_
    refine .seq ?_
    refine .condF rfl rfl ?_
    refine .exit ?_
    refine xsetTo ?_
    refine .seq ?_
    refine .region ?_
    refine xo.done 1 [(12, I 0)] (by kernel_rfl) rfl (by kernel_rfl) ?_
    refine .ret ?_
    refine ⟨[I 0], by kernel_rfl, _, rfl, ?_⟩
    have hi9 : i = items.length := by omega
    rw [hi9, hEs.length, List.take_length] at hxs
    subst hxs
    exact ⟨rfl, ⟨_, _, hbou, hown⟩, hSu, (TyFp.ty TyFp.rf hE)⟩

theorem tree_walk : ∀ h, WalkOK h := by
  intro h
  induction h with
  | zero => exact fun w a σ hS hA A cap b0 items hI hN E hC bo base Ao co out hbo hout hb1 hb2 hb3 most hm1 hm2 hlen => tree_walk0 w a σ hS A cap b0 items hI hN E hC bo base Ao co out hbo hout hb1 hb2 hb3 most hm1 hm2 hlen
  | succ h ih => 
    intro w a σ hS hA A cap b0 items hI hN E hC bo base Ao co out hbo hout hb1 hb2 hb3 most hm1 hm2 hlen
    obtain ⟨Es, hE, hk⟩ := hC
    exact tree_walkS h ih w a σ hS hA A cap b0 items hI hN Es hk E hE bo base Ao co out hbo hout hb1 hb2 hb3 most hm1 hm2 hlen

end Go.Proofs.YtbajgpadmlnffaaGreat
/- tree.Range, tree.Top, tree.Open: the walks. -/
namespace Go.Proofs.YtbajgpadmlnffaaGreat
open Go.V
set_option maxRecDepth 100000
set_option linter.unusedVariables false
set_option linter.unusedSimpArgs false

theorem tree_RangeN (w : World) (a : SAd) (σ : St) (hS : StAt w a σ) (hA : Alive σ) (root : Int) (h : Nat) (items : List Item) (E : List KV) (hT : TreeN σ h items root E) (most : Int) (hm1 : 1000 < most) (hm2 : most < 4611686018427387904) (hlen : E.length ≤ 1000) :
    Ret Tryz.prog 41 [Pt a.s 0, I root, S (⟨#[]⟩), S (⟨#[]⟩), I most] w fun v w' => ∃ A c, v = .tuple #[.slice A (E.map entK).length c, I 0] ∧ Own kEntry w' w.heap.size A c (E.map entK) ∧ StAt w' a σ ∧ Ext No w w' := by
  have lS := hS.bs.lt
  have lMc := hS.mc.lt
  have lMk := hS.mkt.lt
  have hhi := hS.hi
  have nSC : a.s ≠ a.mc := fun e => MapAt.ne hS.mc hS.bs e.symm
  have nKC : a.mkk ≠ a.mc := fun e => hS.cmk e.symm
  have h8 : items.length ≤ 8 := hT.ni.few
  have h1 : 0 < items.length := hT.ni.pos
  have h20 : h ≤ 20 := hT.ni.high
  refine calls_of_XC Tryz.func41 rfl rfl ?_
  refine .seq ?_
  refine .region ?_
  refine xo.done 2 [(0, Pt a.s 0), (1, I root), (2, S (⟨#[]⟩)), (3, S (⟨#[]⟩)), (4, I most)] (by kernel_rfl) rfl (by kernel_rfl) ?_
  refine .seq ?_
  refine .region ?_
  refine xo.alloc 0 36 [.slice none 0 0] (by kernel_rfl) (by kernel_rfl) ?_
  intro b1 w2 hb3 hx4 hg5
  have z2 := hx4.size
  have l3 := hb3.lt
  refine xo.done 0 [(0, Pt a.s 0), (1, I root), (2, S (⟨#[]⟩)), (3, S (⟨#[]⟩)), (4, I most), (12, Pt b1 0)] (by kernel_rfl) rfl (by kernel_rfl) ?_
  refine .seq ?_
  refine .seq ?_
  refine .region ?_
  refine xo.val 1 (by kernel_rfl) (c_eql_f (show ¬ ((root : Int) = 0) from (by have := hT.node.lo; omega))) ?_
  refine xo.val 2 (by kernel_rfl) (c_leq_f (show ¬ ((most : Int) ≤ 0) from (by omega))) ?_
  refine xo.done 1 [(0, Pt a.s 0), (1, I root), (2, S (⟨#[]⟩)), (3, S (⟨#[]⟩)), (4, I most), (12, Pt b1 0), (21, B false)] (by kernel_rfl) rfl (by kernel_rfl) ?_
  refine .condF rfl rfl ?_
  refine .skip ?_
  refine .seq ?_
  refine .region ?_
  have hf10 := (hS.no hx4)
  refine xo.ret 2 (by kernel_rfl) (cf68 _ _) (tree_load _ a σ hf10 hA root (⟨(h : Int), items⟩ : Node) hT.node) ?_
  rintro _ w11 ⟨A6, c7, rfl, hS8, hx12, ho9⟩
  have z11 := hx12.size
  refine xo.alloc 3 113 [I 0, .slice none 0 0] (by kernel_rfl) (by kernel_rfl) ?_
  intro b13 w14 hb15 hx16 hg17
  have z14 := hx16.size
  have l15 := hb15.lt
  refine xo.store 0 113 (o := 0) (.agg #[I (h : Int), .slice A6 items.length c7]) [I (h : Int), .slice A6 items.length c7] (by kernel_rfl) hb15 (by kernel_rfl) (by kernel_rfl) (by kernel_rfl) (by kernel_rfl) ?_
  intro w18 hb19 hx20
  have z18 := hx20.size
  refine xo.done 1 [(0, Pt a.s 0), (2, S (⟨#[]⟩)), (3, S (⟨#[]⟩)), (4, I most), (12, Pt b1 0), (13, Pt b13 0), (14, I 0)] (by kernel_rfl) rfl (by kernel_rfl) ?_
  refine .seq ?_
  refine .seq ?_
  refine .region ?_
  refine xo.done 2 [(0, Pt a.s 0), (2, S (⟨#[]⟩)), (3, S (⟨#[]⟩)), (4, I most), (12, Pt b1 0), (13, Pt b13 0), (14, I 0), (29, B false)] (by kernel_rfl) rfl (by kernel_rfl) ?_
  refine .condF rfl rfl ?_
  refine .skip ?_
  refine .seq ?_
  refine .seq ?_
  refine .region ?_
  refine xo.val 1 (by kernel_rfl) (ldBA (t := 113) (o := 0) (vs := [I (h : Int), .slice A6 items.length c7]) (by kernel_rfl) hb19 rfl) ?_
  have hs21 := ((ho9.ext hx16 (fun _ _ h => h)).ext hx20 (fun b hb (e : b = b13) => (ho9.ext hx16 (fun _ _ h => h)).ne hb15 rfl (e ▸ hb)))
  have hb22 := (((hb3.ext hx12 (fun h => h)).ext hx16 (fun h => h)).ext hx20 (show b1 ≠ b13 by omega))
  have hf23 := ((hS8.no hx16).ext hx20 (fun b h1 h2 (e : b = b13) => by omega) (MapAt.ne (hS8.no hx16).mkt hb15) (fun b cs hb (e : b = b13) => Blk.ne hb hb15 rfl e))
  refine xo.ret 3 (by kernel_rfl) (cf76 _ _) (tree_walk h _ a σ hf23 hA A6 c7 w2.heap.size items hs21 hT.ni E hT.cont b1 w.heap.size none 0 [] hb22 .nil (by omega) hhi (by omega) most hm1 hm2 (by simp only [List.length_nil]; omega)) ?_
  rintro _ w29 ⟨rfl, ⟨A24, c25, hb26, ho27⟩, hS28, hx30⟩
  have z29 := hx30.size
  refine xo.done 1 [(12, Pt b1 0), (15, I 0)] (by kernel_rfl) rfl (by kernel_rfl) ?_
  refine .seq ?_
  refine .region ?_
  refine xo.done 2 [(12, Pt b1 0), (15, I 0), (38, B false)] (by kernel_rfl) rfl (by kernel_rfl) ?_
  refine .condF rfl rfl ?_
  refine .skip ?_
  refine .seq ?_
  refine .region ?_
  refine xo.val 0 (by kernel_rfl) (ldB (t := 36) (o := 0) (by kernel_rfl) hb26 rfl) ?_
  refine xo.done 2 [(10, .slice A24 (([] ++ E.map entK).length) c25), (11, I 0)] (by kernel_rfl) rfl (by kernel_rfl) ?_
  refine .ret ?_
  refine ⟨[.slice A24 (([] ++ E.map entK).length) c25, I 0], by kernel_rfl, _, rfl, ?_⟩
  exact ⟨_, _, rfl, ho27, hS28, ((((hx4.trans' hx12 (fun _ _ h => h) (fun b hb h => h)).trans' hx16 (fun _ _ h => h) (fun b hb h => h)).trans' hx20 (fun _ _ h => h) (fun b hb (e : b = b13) => absurd hb (by omega))).trans' hx30 (fun _ _ h => h) (fun b hb hm => by rcases hm with rfl | ⟨h9, _⟩ <;> omega))⟩

theorem tree_Range0 (w : World) (a : SAd) (σ : St) (hS : StAt w a σ) (most : Int) :
    Ret Tryz.prog 41 [Pt a.s 0, I 0, S (⟨#[]⟩), S (⟨#[]⟩), I most] w fun v w' => v = .tuple #[.slice none 0 0, I 0] ∧ StAt w' a σ ∧ Ext No w w' := by
  have lS := hS.bs.lt
  have lMc := hS.mc.lt
  have lMk := hS.mkt.lt
  have hhi := hS.hi
  have nSC : a.s ≠ a.mc := fun e => MapAt.ne hS.mc hS.bs e.symm
  have nKC : a.mkk ≠ a.mc := fun e => hS.cmk e.symm
  refine calls_of_XC Tryz.func41 rfl rfl ?_
  refine .seq ?_
  refine .region ?_
  refine xo.done 2 [(0, Pt a.s 0), (1, I 0), (2, S (⟨#[]⟩)), (3, S (⟨#[]⟩)), (4, I most)] (by kernel_rfl) rfl (by kernel_rfl) ?_
  refine .seq ?_
  refine .region ?_
  refine xo.alloc 0 36 [.slice none 0 0] (by kernel_rfl) (by kernel_rfl) ?_
  intro b1 w2 hb3 hx4 hg5
  have z2 := hx4.size
  have l3 := hb3.lt
  refine xo.done 0 [(0, Pt a.s 0), (1, I 0), (2, S (⟨#[]⟩)), (3, S (⟨#[]⟩)), (4, I most), (12, Pt b1 0)] (by kernel_rfl) rfl (by kernel_rfl) ?_
  refine .seq ?_
  refine .seq ?_
  refine .region ?_
  refine xo.done 6 [(0, Pt a.s 0), (1, I 0), (2, S (⟨#[]⟩)), (3, S (⟨#[]⟩)), (4, I most), (12, Pt b1 0), (21, B true)] (by kernel_rfl) rfl (by kernel_rfl) ?_
  refine .condT rfl rfl ?_
  refine .seq ?_
  refine .region ?_
  refine xo.done 2 [(10, .slice none 0 0), (11, I 0)] (by kernel_rfl) rfl (by kernel_rfl) ?_
  refine .ret ?_
  refine ⟨[.slice none 0 0, I 0], by kernel_rfl, _, rfl, ?_⟩
  have hf6 := (hS.no hx4)
  exact ⟨rfl, hf6, hx4⟩

theorem tree_Range (w : World) (a : SAd) (σ : St) (hS : StAt w a σ) (hA : Alive σ) (root : Int) (E : List KV) (hT : TreeAt σ root E) (most : Int) (hm1 : 1000 < most) (hm2 : most < 4611686018427387904) (hlen : E.length ≤ 1000) :
    Ret Tryz.prog 41 [Pt a.s 0, I root, S ⟨#[]⟩, S ⟨#[]⟩, I most] w fun v w' => ∃ A c, v = .tuple #[.slice A (E.map entK).length c, I 0] ∧ Own kEntry w' w.heap.size A c (E.map entK) ∧ StAt w' a σ ∧ Ext No w w' := by
  rcases hT with ⟨rfl, rfl⟩ | ⟨h, items, hT⟩
  · exact (tree_Range0 w a σ hS most).mono fun v w' ⟨h1, h2, h3⟩ => ⟨none, 0, h1, .nil, h2, h3⟩
  · exact tree_RangeN w a σ hS hA root h items E hT most hm1 hm2 hlen

theorem tree_Top (w : World) (a : SAd) (σ : St) (hS : StAt w a σ) (hA : Alive σ) (root : Int) (h : Nat) (items : List Item) (E : List KV) (hT : TreeN σ h items root E) :
    Ret Tryz.prog 72 [Pt a.s 0, I root] w fun v w' => ∃ y, items[0]? = some y ∧ v = .tuple #[S y.key, I (h : Int), I 0] ∧ StAt w' a σ ∧ Ext No w w' := by
  have lS := hS.bs.lt
  have lMc := hS.mc.lt
  have lMk := hS.mkt.lt
  have hhi := hS.hi
  have nSC : a.s ≠ a.mc := fun e => MapAt.ne hS.mc hS.bs e.symm
  have nKC : a.mkk ≠ a.mc := fun e => hS.cmk e.symm
  have h8 : items.length ≤ 8 := hT.ni.few
  have h1 : 0 < items.length := hT.ni.pos
  have h20 : h ≤ 20 := hT.ni.high
  refine calls_of_XC Tryz.func72 rfl rfl ?_
  refine .seq ?_
  refine .region ?_
  refine xo.done 3 [(0, Pt a.s 0), (1, I root)] (by kernel_rfl) rfl (by kernel_rfl) ?_
  refine .seq ?_
  refine .region ?_
  refine xo.ret 2 (by kernel_rfl) (cf68 _ _) (tree_load _ a σ hS hA root (⟨(h : Int), items⟩ : Node) hT.node) ?_
  rintro _ w5 ⟨A1, c2, rfl, hS3, hx6, ho4⟩
  have z5 := hx6.size
  refine xo.alloc 3 113 [I 0, .slice none 0 0] (by kernel_rfl) (by kernel_rfl) ?_
  intro b7 w8 hb9 hx10 hg11
  have z8 := hx10.size
  have l9 := hb9.lt
  refine xo.store 0 113 (o := 0) (.agg #[I (h : Int), .slice A1 items.length c2]) [I (h : Int), .slice A1 items.length c2] (by kernel_rfl) hb9 (by kernel_rfl) (by kernel_rfl) (by kernel_rfl) (by kernel_rfl) ?_
  intro w12 hb13 hx14
  have z12 := hx14.size
  refine xo.done 1 [(7, Pt b7 0), (8, I 0)] (by kernel_rfl) rfl (by kernel_rfl) ?_
  refine .seq ?_
  refine .seq ?_
  refine .region ?_
  refine xo.done 2 [(7, Pt b7 0), (8, I 0), (16, B false)] (by kernel_rfl) rfl (by kernel_rfl) ?_
  refine .condF rfl rfl ?_
  refine .skip ?_
  refine .seq ?_
  refine .regionReads (by kernel_rfl) (by kernel_rfl) ?_
  intro w15 hd16
  have hx16 := Ext.ofDrew (M := No) hd16
  have z15 := hx16.size
  have hb17 := (hb13.ext hx16 (fun h => h))
  refine Go.V.xs.val 1 (by kernel_rfl) (ldB (t := 111) (o := 1) (by kernel_rfl) hb17 rfl) ?_
  have hs18 := (((ho4.ext hx10 (fun _ _ h => h)).ext hx14 (fun b hb (e : b = b7) => (ho4.ext hx10 (fun _ _ h => h)).ne hb9 rfl (e ▸ hb))).ext hx16 (fun _ _ h => h))
  obtain ⟨b19, o20, x21, hi22, hA23, hl24, hh25, hr26⟩ := hs18.rd.at_ 0 (by omega)
  refine Go.V.xs.val 0 (by kernel_rfl) (idxN (kk := .i64) (t := 111) (n := items.length) (cap := c2) (sz := 3) (i := 0) (by kernel_rfl) hA23 (by omega)) ?_
  refine Go.V.xs.val 1 (by kernel_rfl) (ld (t := 9) (by kernel_rfl) (hr26 0 _ rfl)) ?_
  refine Go.V.xs.val 1 (by kernel_rfl) (ldB (t := 3) (o := 0) (by kernel_rfl) hb17 rfl) ?_
  refine Go.V.xs.fin 3 (by kernel_rfl) rfl ?_
  refine .cov [(4, S x21.key), (5, I (h : Int)), (6, I 0)] (cov_of (by kernel_rfl)) ?_
  refine .ret ?_
  refine ⟨[S x21.key, I (h : Int), I 0], by kernel_rfl, _, rfl, ?_⟩
  have hf27 := (((hS3.no hx10).ext hx14 (fun b h1 h2 (e : b = b7) => by omega) (MapAt.ne (hS3.no hx10).mkt hb9) (fun b cs hb (e : b = b7) => Blk.ne hb hb9 rfl e)).no hx16)
  exact ⟨x21, hi22, rfl, hf27, (((hx6.trans' hx10 (fun _ _ h => h) (fun b hb h => h)).trans' hx14 (fun _ _ h => h) (fun b hb (e : b = b7) => absurd hb (by omega))).trans' hx16 (fun _ _ h => h) (fun b hb h => h))⟩

def entI (x : Item) : Entry := ⟨x.key, x.val⟩
def kidI (x : Item) : Kid := ⟨x.key, x.kid⟩

theorem tree_Open (w : World) (a : SAd) (σ : St) (hS : StAt w a σ) (hA : Alive σ) (root : Int) (h : Nat) (items : List Item) (E : List KV) (hT : TreeN σ h items root E) :
    Ret Tryz.prog 117 [Pt a.s 0, I root] w fun v w' => ∃ A c K d, v = .tuple #[.slice A (if h = 0 then items.map entI else []).length c, .slice K (if h = 0 then [] else items.map kidI).length d, I 0] ∧ Own kEntry w' w.heap.size A c (if h = 0 then items.map entI else []) ∧ Own kKid w' w.heap.size K d (if h = 0 then [] else items.map kidI) ∧ StAt w' a σ ∧ Ext No w w' := by
  have lS := hS.bs.lt
  have lMc := hS.mc.lt
  have lMk := hS.mkt.lt
  have hhi := hS.hi
  have nSC : a.s ≠ a.mc := fun e => MapAt.ne hS.mc hS.bs e.symm
  have nKC : a.mkk ≠ a.mc := fun e => hS.cmk e.symm
  have h8 : items.length ≤ 8 := hT.ni.few
  have h1 : 0 < items.length := hT.ni.pos
  have h20 : h ≤ 20 := hT.ni.high
  refine calls_of_XC Tryz.func117 rfl rfl ?_
  refine .seq ?_
  refine .region ?_
  refine xo.done 3 [(0, Pt a.s 0), (1, I root)] (by kernel_rfl) rfl (by kernel_rfl) ?_
  refine .seq ?_
  refine .region ?_
  refine xo.ret 2 (by kernel_rfl) (cf68 _ _) (tree_load _ a σ hS hA root (⟨(h : Int), items⟩ : Node) hT.node) ?_
  rintro _ w5 ⟨A1, c2, rfl, hS3, hx6, ho4⟩
  have z5 := hx6.size
  refine xo.alloc 3 113 [I 0, .slice none 0 0] (by kernel_rfl) (by kernel_rfl) ?_
  intro b7 w8 hb9 hx10 hg11
  have z8 := hx10.size
  have l9 := hb9.lt
  refine xo.store 0 113 (o := 0) (.agg #[I (h : Int), .slice A1 items.length c2]) [I (h : Int), .slice A1 items.length c2] (by kernel_rfl) hb9 (by kernel_rfl) (by kernel_rfl) (by kernel_rfl) (by kernel_rfl) ?_
  intro w12 hb13 hx14
  have z12 := hx14.size
  refine xo.done 1 [(7, Pt b7 0), (8, I 0)] (by kernel_rfl) rfl (by kernel_rfl) ?_
  refine .seq ?_
  refine .seq ?_
  refine .region ?_
  refine xo.done 2 [(7, Pt b7 0), (8, I 0), (20, B false)] (by kernel_rfl) rfl (by kernel_rfl) ?_
  refine .condF rfl rfl ?_
  refine .skip ?_
  refine .seq ?_
  refine .region ?_
  refine xo.done 1 [(7, Pt b7 0), (9, .slice none 0 0)] (by kernel_rfl) rfl (by kernel_rfl) ?_
  refine .seq ?_
  refine .region ?_
  refine xo.done 1 [(7, Pt b7 0), (9, .slice none 0 0), (10, .slice none 0 0)] (by kernel_rfl) rfl (by kernel_rfl) ?_
  refine .seq ?_
  refine .seq ?_
  refine .region ?_
  refine xo.val 1 (by kernel_rfl) (ldB (t := 111) (o := 1) (by kernel_rfl) hb13 rfl) ?_
  refine xo.done 2 [(7, Pt b7 0), (9, .slice none 0 0), (10, .slice none 0 0), (23, .slice A1 items.length c2), (24, I (items.length : Int)), (25, I 0)] (by kernel_rfl) rfl (by kernel_rfl) ?_
  refine .block ?_
  have hf15 := ((hS3.no hx10).ext hx14 (fun b h1 h2 (e : b = b7) => by omega) (MapAt.ne (hS3.no hx10).mkt hb9) (fun b cs hb (e : b = b7) => Blk.ne hb hb9 rfl e))
  have hs16 := ((ho4.ext hx10 (fun _ _ h => h)).ext hx14 (fun b hb (e : b = b7) => (ho4.ext hx10 (fun _ _ h => h)).ne hb9 rfl (e ▸ hb)))
  have hN := hT.ni
  refine XC.loop (ι := Option Addr × Nat × Nat × List Entry × Option Addr × Nat × List Kid) (fun ⟨A_, c_, i, xs, K_, d_, ks⟩ => [(7, Pt b7 0), (9, .slice A_ xs.length c_), (10, .slice K_ ks.length d_), (23, .slice A1 items.length c2), (24, I (items.length : Int)), (25, I (i : Int))]) (fun ⟨A_, c_, i, xs, K_, d_, ks⟩ u => Own kEntry u w.heap.size A_ c_ xs ∧ Own kKid u w.heap.size K_ d_ ks ∧ Blk u b7 113 [I (h : Int), .slice A1 items.length c2] ∧ Own kItem u w.heap.size A1 c2 items ∧ StAt u a σ ∧ Ext No w u ∧ i ≤ items.length ∧ xs = (if h = 0 then (items.take i).map entI else []) ∧ ks = (if h = 0 then [] else (items.take i).map kidI)) (fun ⟨A_, c_, i, xs, K_, d_, ks⟩ => items.length - i) (none, 0, 0, [], none, 0, []) (cov_of (by kernel_rfl)) ⟨.nil, .nil, hb13, hs16.base_le (by omega), hf15, ((hx6.trans' hx10 (fun _ _ h => h) (fun b hb h => h)).trans' hx14 (fun _ _ h => h) (fun b hb (e : b = b7) => absurd hb (by omega))), by omega, by simp, by simp⟩ ?_
  rintro ⟨A_, c_, i, xs, K_, d_, ks⟩ w17 ⟨hown, hkown, hb1u, hitu, hSu, hE, hi_, hxs, hks⟩
  have z17 := hE.size
  have lb1u := hb1u.lt
  have hxl : xs.length ≤ 8 := by rw [hxs]; split <;> simp <;> omega
  have hkl : ks.length ≤ 8 := by rw [hks]; split <;> simp <;> omega
  refine .seq ?_
  refine .region ?_
  by_cases hc18 : ((i : Int) : Int) < (items.length : Int)
  · refine xo.val 0 (by kernel_rfl) (c_lss_t hc18) ?_
    refine xo.done 0 [(7, Pt b7 0), (9, .slice A_ xs.length c_), (10, .slice K_ ks.length d_), (23, .slice A1 items.length c2), (24, I (items.length : Int)), (25, I (i : Int)), (26, B true)] (by kernel_rfl) rfl (by kernel_rfl) ?_
    refine .seq ?_
    refine .condT rfl rfl ?_
    refine .skip ?_
    refine .seq ?_
    refine .block ?_
    refine .seq ?_
    refine .region ?_
    obtain ⟨b19, o20, x21, hi22, hA23, hl24, hh25, hr26⟩ := hitu.rd.at_ i (by omega)
    refine xo.val 0 (by kernel_rfl) (idxN (kk := .i64) (t := 111) (n := items.length) (cap := c2) (sz := 3) (i := i) (by kernel_rfl) hA23 (by omega)) ?_
    refine xo.val 0 (by kernel_rfl) (ldA (t := 119) (by kernel_rfl) hr26) ?_
    refine xo.alloc 0 119 [S (⟨#[]⟩), S (⟨#[]⟩), I 0] (by kernel_rfl) (by kernel_rfl) ?_
    intro b27 w28 hb29 hx30 hg31
    have z28 := hx30.size
    have l29 := hb29.lt
    refine xo.store 0 119 (o := 0) (.agg #[S x21.key, S x21.val, I x21.kid]) [S x21.key, S x21.val, I x21.kid] (by kernel_rfl) hb29 (by kernel_rfl) (by kernel_rfl) (by kernel_rfl) (by kernel_rfl) ?_
    intro w32 hb33 hx34
    have z32 := hx34.size
    refine xo.done 0 [(7, Pt b7 0), (9, .slice A_ xs.length c_), (10, .slice K_ ks.length d_), (12, Pt b27 0), (23, .slice A1 items.length c2), (24, I (items.length : Int)), (25, I (i : Int))] (by kernel_rfl) rfl (by kernel_rfl) ?_
    refine .seq ?_
    refine .region ?_
    have hb35 := ((hb1u.ext hx30 (fun h => h)).ext hx34 (show b7 ≠ b27 by omega))
    refine xo.val 1 (by kernel_rfl) (ldB (t := 3) (o := 0) (by kernel_rfl) hb35 rfl) ?_
    by_cases hc36 : ((h : Int) : Int) ≤ 0
    · refine xo.val 0 (by kernel_rfl) (c_gtr_t hc36) ?_
      refine xo.done 0 [(7, Pt b7 0), (9, .slice A_ xs.length c_), (10, .slice K_ ks.length d_), (12, Pt b27 0), (23, .slice A1 items.length c2), (24, I (items.length : Int)), (25, I (i : Int)), (31, B false)] (by kernel_rfl) rfl (by kernel_rfl) ?_
      refine .condF rfl rfl ?_
      refine .region ?_
      refine xo.val 2 (by kernel_rfl) (ldB (t := 9) (o := 0) (by kernel_rfl) hb33 rfl) ?_
      refine xo.val 1 (by kernel_rfl) (ldB (t := 9) (o := 1) (by kernel_rfl) hb33 rfl) ?_
      refine xo.bsl 1 36 1 #[(0, .agg #[S x21.key, S x21.val])] (et := 38) (cs := [S x21.key, S x21.val]) (by kernel_rfl) (by kernel_rfl) ?_
      intro b37 w38 hb39 hx40 hg41
      have z38 := hx40.size
      have l39 := hb39.lt
      have hs42 := (((hown.ext hx30 (fun _ _ h => h)).ext hx34 (fun b hb (e : b = b27) => (hown.ext hx30 (fun _ _ h => h)).ne hb29 rfl (e ▸ hb))).ext hx40 (fun _ _ h => h))
      refine xo.app 0 (ty := 36) (k := kEntry) (t := 36) (tx := 36) (xs := xs) (ys := [(⟨x21.key, x21.val⟩ : Entry)]) (x := .slice (some ⟨b37, 0, none⟩) 1 1) (by exact pEntry) hs42 (src_one (k := kEntry) (x := (⟨x21.key, x21.val⟩ : Entry)) (by kernel_rfl) hb39 rfl) (by omega) (show (xs.length + 1) * 32 ≤ 140737488355328 from (by first | omega | (simp only [List.length_append, List.length_cons, List.length_nil]; omega))) (show xs.length + 1 ≤ 9223372036854775807 from (by first | omega | (simp only [List.length_append, List.length_cons, List.length_nil]; omega))) (by kernel_rfl) ?_
      intro A43 c44 w45 ho46 hx47
      have z45 := hx47.size
      refine xo.done 1 [(7, Pt b7 0), (9, .slice A43 ((xs ++ [(⟨x21.key, x21.val⟩ : Entry)]).length) c44), (10, .slice K_ ks.length d_), (23, .slice A1 items.length c2), (24, I (items.length : Int)), (25, I (i : Int))] (by kernel_rfl) rfl (by kernel_rfl) ?_
      refine .region ?_
      refine xo.val 0 (by kernel_rfl) (a_add (a := (i : Int)) (b := 1) (by omega) (by omega)) ?_
      refine xo.fin 1 (by kernel_rfl) rfl ?_
      have hs48 := ((((hkown.ext hx30 (fun _ _ h => h)).ext hx34 (fun b hb (e : b = b27) => (hkown.ext hx30 (fun _ _ h => h)).ne hb29 rfl (e ▸ hb))).ext hx40 (fun _ _ h => h)).ext hx47 (Own.disj (((hkown.ext hx30 (fun _ _ h => h)).ext hx34 (fun b hb (e : b = b27) => (hkown.ext hx30 (fun _ _ h => h)).ne hb29 rfl (e ▸ hb))).ext hx40 (fun _ _ h => h)) hs42 rfl))
      have hs49 := ((((hitu.ext hx30 (fun _ _ h => h)).ext hx34 (fun b hb (e : b = b27) => by have := (hitu.lt hb).2; omega)).ext hx40 (fun _ _ h => h)).ext hx47 (Own.disj (((hitu.ext hx30 (fun _ _ h => h)).ext hx34 (fun b hb (e : b = b27) => by have := (hitu.lt hb).2; omega)).ext hx40 (fun _ _ h => h)) hs42 rfl))
      have hb50 := ((hb35.ext hx40 (fun h => h)).ext hx47 (hs42.ne (hb35.ext hx40 (fun h => h)) rfl))
      have hf51 := ((((hSu.no hx30).ext hx34 (fun b h1 h2 (e : b = b27) => by omega) (MapAt.ne (hSu.no hx30).mkt hb29) (fun b cs hb (e : b = b27) => Blk.ne hb hb29 rfl e)).no hx40).ext hx47 (fun b h1 h2 hm => absurd (hs42.lt hm).1 (by omega)) (hs42.ne_map (((hSu.no hx30).ext hx34 (fun b h1 h2 (e : b = b27) => by omega) (MapAt.ne (hSu.no hx30).mkt hb29) (fun b cs hb (e : b = b27) => Blk.ne hb hb29 rfl e)).no hx40).mkt) (fun b cs hb hm => hs42.ne hb rfl hm))
      have htk : items.take (i + 1) = items.take i ++ [x21] := by
        obtain ⟨hlt, he⟩ := List.getElem?_eq_some_iff.1 hi22
        rw [List.take_succ_eq_append_getElem hlt, he]
      refine ⟨(A43, c44, i + 1, xs ++ [(⟨x21.key, x21.val⟩ : Entry)], K_, d_, ks), cov_of (by kernel_rfl), ⟨ho46, hs48, hb50, hs49, hf51, (((((hE.weak fun b hb h => h.elim).trans' hx30 (fun _ _ h => h) (fun b hb h => h.elim)).trans' hx34 (fun _ _ h => h) (fun b hb (q : b = b27) => absurd hb (by omega))).trans' hx40 (fun _ _ h => h) (fun b hb h => h.elim)).trans' hx47 (fun _ _ h => h) (fun b hb hm => absurd (hs42.lt hm).1 (by omega))), by omega, ?_, ?_⟩, by show items.length - (i + 1) < items.length - i; omega⟩
      · rw [hxs, htk, if_pos (by omega), if_pos (by omega), List.map_append]; rfl
      · rw [hks, if_pos (by omega), if_pos (by omega)]
    · refine xo.val 0 (by kernel_rfl) (c_gtr_f hc36) ?_
      refine xo.done 0 [(7, Pt b7 0), (9, .slice A_ xs.length c_), (10, .slice K_ ks.length d_), (12, Pt b27 0), (23, .slice A1 items.length c2), (24, I (items.length : Int)), (25, I (i : Int)), (31, B true)] (by kernel_rfl) rfl (by kernel_rfl) ?_
      refine .condT rfl rfl ?_
      refine .region ?_
      refine xo.val 2 (by kernel_rfl) (ldB (t := 9) (o := 0) (by kernel_rfl) hb33 rfl) ?_
      refine xo.val 1 (by kernel_rfl) (ldB (t := 3) (o := 2) (by kernel_rfl) hb33 rfl) ?_
      refine xo.bsl 1 172 1 #[(0, .agg #[S x21.key, I x21.kid])] (et := 176) (cs := [S x21.key, I x21.kid]) (by kernel_rfl) (by kernel_rfl) ?_
      intro b52 w53 hb54 hx55 hg56
      have z53 := hx55.size
      have l54 := hb54.lt
      have hs57 := (((hkown.ext hx30 (fun _ _ h => h)).ext hx34 (fun b hb (e : b = b27) => (hkown.ext hx30 (fun _ _ h => h)).ne hb29 rfl (e ▸ hb))).ext hx55 (fun _ _ h => h))
      refine xo.app 0 (ty := 172) (k := kKid) (t := 172) (tx := 172) (xs := ks) (ys := [(⟨x21.key, x21.kid⟩ : Kid)]) (x := .slice (some ⟨b52, 0, none⟩) 1 1) (by exact pKid) hs57 (src_one (k := kKid) (x := (⟨x21.key, x21.kid⟩ : Kid)) (by kernel_rfl) hb54 rfl) (by omega) (show (ks.length + 1) * 24 ≤ 140737488355328 from (by first | omega | (simp only [List.length_append, List.length_cons, List.length_nil]; omega))) (show ks.length + 1 ≤ 9223372036854775807 from (by first | omega | (simp only [List.length_append, List.length_cons, List.length_nil]; omega))) (by kernel_rfl) ?_
      intro A58 c59 w60 ho61 hx62
      have z60 := hx62.size
      refine xo.done 1 [(7, Pt b7 0), (9, .slice A_ xs.length c_), (10, .slice A58 ((ks ++ [(⟨x21.key, x21.kid⟩ : Kid)]).length) c59), (23, .slice A1 items.length c2), (24, I (items.length : Int)), (25, I (i : Int))] (by kernel_rfl) rfl (by kernel_rfl) ?_
      refine .region ?_
      refine xo.val 0 (by kernel_rfl) (a_add (a := (i : Int)) (b := 1) (by omega) (by omega)) ?_
      refine xo.fin 1 (by kernel_rfl) rfl ?_
      have hs63 := ((((hown.ext hx30 (fun _ _ h => h)).ext hx34 (fun b hb (e : b = b27) => (hown.ext hx30 (fun _ _ h => h)).ne hb29 rfl (e ▸ hb))).ext hx55 (fun _ _ h => h)).ext hx62 (Own.disj (((hown.ext hx30 (fun _ _ h => h)).ext hx34 (fun b hb (e : b = b27) => (hown.ext hx30 (fun _ _ h => h)).ne hb29 rfl (e ▸ hb))).ext hx55 (fun _ _ h => h)) hs57 rfl))
      have hs64 := ((((hitu.ext hx30 (fun _ _ h => h)).ext hx34 (fun b hb (e : b = b27) => by have := (hitu.lt hb).2; omega)).ext hx55 (fun _ _ h => h)).ext hx62 (Own.disj (((hitu.ext hx30 (fun _ _ h => h)).ext hx34 (fun b hb (e : b = b27) => by have := (hitu.lt hb).2; omega)).ext hx55 (fun _ _ h => h)) hs57 rfl))
      have hb65 := ((hb35.ext hx55 (fun h => h)).ext hx62 (hs57.ne (hb35.ext hx55 (fun h => h)) rfl))
      have hf66 := ((((hSu.no hx30).ext hx34 (fun b h1 h2 (e : b = b27) => by omega) (MapAt.ne (hSu.no hx30).mkt hb29) (fun b cs hb (e : b = b27) => Blk.ne hb hb29 rfl e)).no hx55).ext hx62 (fun b h1 h2 hm => absurd (hs57.lt hm).1 (by omega)) (hs57.ne_map (((hSu.no hx30).ext hx34 (fun b h1 h2 (e : b = b27) => by omega) (MapAt.ne (hSu.no hx30).mkt hb29) (fun b cs hb (e : b = b27) => Blk.ne hb hb29 rfl e)).no hx55).mkt) (fun b cs hb hm => hs57.ne hb rfl hm))
      have htk : items.take (i + 1) = items.take i ++ [x21] := by
        obtain ⟨hlt, he⟩ := List.getElem?_eq_some_iff.1 hi22
        rw [List.take_succ_eq_append_getElem hlt, he]
      refine ⟨(A_, c_, i + 1, xs, A58, c59, ks ++ [(⟨x21.key, x21.kid⟩ : Kid)]), cov_of (by kernel_rfl), ⟨hs63, ho61, hb65, hs64, hf66, (((((hE.weak fun b hb h => h.elim).trans' hx30 (fun _ _ h => h) (fun b hb h => h.elim)).trans' hx34 (fun _ _ h => h) (fun b hb (q : b = b27) => absurd hb (by omega))).trans' hx55 (fun _ _ h => h) (fun b hb h => h.elim)).trans' hx62 (fun _ _ h => h) (fun b hb hm => absurd (hs57.lt hm).1 (by omega))), by omega, ?_, ?_⟩, by show items.length - (i + 1) < items.length - i; omega⟩
      · rw [hxs, if_neg (by omega), if_neg (by omega)]
      · rw [hks, htk, if_neg (by omega), if_neg (by omega), List.map_append]; rfl
  · refine xo.val 0 (by kernel_rfl) (c_lss_f hc18) ?_
    refine xo.done 0 [(7, Pt b7 0), (9, .slice A_ xs.length c_), (10, .slice K_ ks.length d_), (23, .slice A1 items.length c2), (24, I (items.length : Int)), (25, I (i : Int)), (26, B false)] (by kernel_rfl) rfl (by kernel_rfl) ?_
    refine .seq ?_
    refine .condF rfl rfl ?_
    refine .exit ?_
    refine xsetTo ?_
    refine .seq ?_
    refine .region ?_
    refine xo.done 5 [(4, .slice A_ xs.length c_), (5, .slice K_ ks.length d_), (6, I 0)] (by kernel_rfl) rfl (by kernel_rfl) ?_
    refine .ret ?_
    refine ⟨[.slice A_ xs.length c_, .slice K_ ks.length d_, I 0], by kernel_rfl, _, rfl, ?_⟩
    have hi9 : i = items.length := by omega
    rw [hi9, List.take_length] at hxs hks
    subst hxs
    subst hks
    exact ⟨_, _, _, _, rfl, hown, hkown, hSu, (hE.weak fun b hb h => h.elim)⟩

end Go.Proofs.YtbajgpadmlnffaaGreat
/- How often blocks are named: the counts are right, and what is held stays. -/
namespace Go.Proofs.YtbajgpadmlnffaaGreat
open Go.V
set_option linter.unusedVariables false

def occ (f : Cells) (k : Int) : Nat := (f.map fun p => p.2.kids.count k).sum
theorem occ_cons (p : Int × Cl) (f : Cells) (k : Int) : occ (p :: f) k = p.2.kids.count k + occ f k := by simp [occ]
theorem occ_put_new {id : Int} {c : Cl} (k : Int) : ∀ {f : Cells}, mfind f id = none → occ (mput f id c) k = occ f k + c.kids.count k
  | [], _ => by simp [mput, occ]
  | p :: r, h => by
    simp only [mfind] at h
    split at h
    · cases h
    · rename_i hp
      simp only [mput, if_neg hp, occ_cons]
      rw [occ_put_new k h]; omega
theorem occ_put_same {id : Int} {c c0 : Cl} (hk : c.kids = c0.kids) (k : Int) : ∀ {f : Cells}, mfind f id = some c0 → occ (mput f id c) k = occ f k
  | [], h => by simp [mfind] at h
  | p :: r, h => by
    simp only [mfind] at h
    split at h
    · rename_i hp
      obtain rfl := Option.some.inj h
      simp only [mput, if_pos hp, occ_cons, hk]
    · rename_i hp
      simp only [mput, if_neg hp, occ_cons]
      rw [occ_put_same hk k h]
theorem occ_del {id : Int} {c : Cl} (k : Int) : ∀ {f : Cells}, mfind f id = some c → occ (mdel f id) k + c.kids.count k = occ f k
  | [], h => by simp [mfind] at h
  | p :: r, h => by
    simp only [mfind] at h
    split at h
    · rename_i hp
      obtain rfl := Option.some.inj h
      simp only [mdel, if_pos hp, occ_cons]; omega
    · rename_i hp
      simp only [mdel, if_neg hp, occ_cons]
      have := occ_del k h; omega
theorem occ_mem {p k : Int} {c : Cl} {f : Cells} (h : mfind f p = some c) (hk : k ∈ c.kids) : 1 ≤ occ f k := by
  have h1 := occ_del k h
  have h2 : 0 < c.kids.count k := List.count_pos_iff.2 hk
  omega
theorem occ_pos {k : Int} : ∀ {f : Cells}, (keys f).Nodup → 1 ≤ occ f k → ∃ p c, mfind f p = some c ∧ k ∈ c.kids
  | [], _, h => by simp [occ] at h
  | p :: r, hn, h => by
    rw [occ_cons] at h
    simp only [keys, List.map_cons, List.nodup_cons] at hn
    by_cases h1 : 0 < p.2.kids.count k
    · exact ⟨p.1, p.2, by simp [mfind], List.count_pos_iff.1 h1⟩
    · obtain ⟨q, c, hq, hc⟩ := occ_pos (k := k) (f := r) hn.2 (by omega)
      refine ⟨q, c, ?_, hc⟩
      simp only [mfind]
      rw [if_neg ?_]
      · exact hq
      · intro e
        exact hn.1 (e ▸ List.mem_map.2 ⟨(q, c), mfind_some_mem hq, rfl⟩)
theorem occ_le {k : Int} : ∀ {f : Cells}, (∀ p ∈ f, p.2.kids.length ≤ 16) → occ f k ≤ 16 * f.length
  | [], _ => by simp [occ]
  | p :: r, h => by
    rw [occ_cons, List.length_cons]
    have h1 := occ_le (f := r) (k := k) fun q hq => h q (by simp [hq])
    have h2 := h p (by simp)
    have h3 : p.2.kids.count k ≤ p.2.kids.length := List.count_le_length
    omega
theorem length_put_same {α : Type} {id : Int} {c c0 : α} : ∀ {f : List (Int × α)}, mfind f id = some c0 → (mput f id c).length = f.length
  | [], h => by simp [mfind] at h
  | p :: r, h => by
    simp only [mfind] at h
    split at h
    · rename_i hp; simp [mput, if_pos hp]
    · rename_i hp; simp [mput, if_neg hp, length_put_same h]
theorem length_put_new {α : Type} {id : Int} {c : α} : ∀ {f : List (Int × α)}, mfind f id = none → (mput f id c).length = f.length + 1
  | [], h => by simp [mput]
  | p :: r, h => by
    simp only [mfind] at h
    split at h
    · cases h
    · rename_i hp; simp [mput, if_neg hp, length_put_new h]
theorem length_del {α : Type} {id : Int} : ∀ {f : List (Int × α)}, (mdel f id).length ≤ f.length
  | [] => by simp [mdel]
  | p :: r => by
    simp only [mdel]
    split
    · simp
    · have := length_del (f := r) (id := id)
      simp only [List.length_cons]; omega
theorem mem_put {α : Type} {id : Int} {c : α} {q : Int × α} : ∀ {f : List (Int × α)}, q ∈ mput f id c → q ∈ f ∨ q = (id, c)
  | [], h => by simp [mput] at h; exact .inr h
  | p :: r, h => by
    simp only [mput] at h
    split at h
    · rcases List.mem_cons.1 h with h | h
      · exact .inr h
      · exact .inl (by simp [h])
    · rcases List.mem_cons.1 h with h | h
      · exact .inl (by simp [h])
      · rcases mem_put h with h | h
        · exact .inl (by simp [h])
        · exact .inr h
theorem mem_del {α : Type} {id : Int} {q : Int × α} : ∀ {f : List (Int × α)}, q ∈ mdel f id → q ∈ f
  | [], h => by simp [mdel] at h
  | p :: r, h => by
    simp only [mdel] at h
    split at h
    · simp [h]
    · rcases List.mem_cons.1 h with h | h
      · simp [h]
      · simp [mem_del h]
theorem wr_ok {x : Int} (h1 : -9223372036854775808 ≤ x) (h2 : x ≤ 9223372036854775807) : wr x = x := wrap_ok h1 h2

/-- The counts are right, but for the debt D; H is how often each is held. -/
structure Bal (f : Cells) (D H : Int → Nat) : Prop where
  good : Good f
  closed : ∀ id c, mfind f id = some c → ∀ k ∈ c.kids, (mfind f k).isSome
  named : ∀ id c, mfind f id = some c → c.named = ((occ f id + D id : Nat) : Int)
  held : ∀ id c, mfind f id = some c → c.held = ((H id : Nat) : Int)
  debt : ∀ id, D id ≠ 0 → (mfind f id).isSome
  hold : ∀ id, H id ≠ 0 → (mfind f id).isSome
  k16 : ∀ p ∈ f, p.2.kids.length ≤ 16
  few : f.length ≤ 4096
  hmax : ∀ id, H id ≤ 1000000
theorem Bal.congr {f : Cells} {D D' H : Int → Nat} (b : Bal f D H) (h : ∀ j, D j = D' j) : Bal f D' H := by
  rw [show D' = D from funext fun j => (h j).symm]; exact b
theorem Bal.nmax {f : Cells} {D H : Int → Nat} (b : Bal f D H) {id : Int} {c : Cl} (h : mfind f id = some c) (hD : D id ≤ 1000001) : 0 ≤ c.named ∧ c.named ≤ 2000000 := by
  have h1 := b.named id c h
  have h2 := occ_le (k := id) b.k16
  have h3 := b.few
  omega
/-- What is held up from within. -/
def Sup (f : Cells) (H : Int → Nat) (S : Int → Prop) : Prop := ∀ i, S i → (mfind f i).isSome ∧ (0 < H i ∨ ∃ p cp, S p ∧ mfind f p = some cp ∧ i ∈ cp.kids)
def Keep (f f' : Cells) (S : Int → Prop) : Prop := ∀ i, S i → ∀ c, mfind f i = some c → ∃ c', mfind f' i = some c' ∧ c'.kids = c.kids ∧ c'.high = c.high
theorem Keep.refl (f : Cells) (S : Int → Prop) : Keep f f S := fun _ _ c h => ⟨c, h, rfl, rfl⟩
theorem Keep.trans {f g h : Cells} {S : Int → Prop} (a : Keep f g S) (b : Keep g h S) : Keep f h S := fun i hi c hc => by
  obtain ⟨c1, h1, h2, h3⟩ := a i hi c hc
  obtain ⟨c2, h4, h5, h6⟩ := b i hi c1 h1
  exact ⟨c2, h4, h5.trans h2, h6.trans h3⟩
theorem Sup.keep {f f' : Cells} {H : Int → Nat} {S : Int → Prop} (s : Sup f H S) (k : Keep f f' S) : Sup f' H S := fun i hi => by
  obtain ⟨h1, h2⟩ := s i hi
  obtain ⟨c, hc⟩ := Option.isSome_iff_exists.1 h1
  obtain ⟨c', hc', _, _⟩ := k i hi c hc
  refine ⟨by rw [hc']; rfl, ?_⟩
  rcases h2 with h2 | ⟨p, cp, hp, hcp, hk⟩
  · exact .inl h2
  · obtain ⟨cp', h3, h4, _⟩ := k p hp cp hcp
    exact .inr ⟨p, cp', hp, h3, by rw [h4]; exact hk⟩
/-- All that nobody names or holds is in L. -/
def NL (f : Cells) (L : Int → Prop) : Prop := ∀ id c, mfind f id = some c → c.named = 0 → c.held = 0 → L id

theorem bal_name_less {f : Cells} {D H : Int → Nat} {k : Int} (b : Bal f (fun j => D j + if j = k then 1 else 0) H) (hD : ∀ j, D j ≤ 1000000) : Bal (nameC f k (-1)) D H := by
  have hs : (mfind f k).isSome := b.debt k (by simp)
  obtain ⟨c, hc⟩ := Option.isSome_iff_exists.1 hs
  have hcg := cget_of hc
  have hn := b.named k c hc
  have hx := b.nmax hc (by have := hD k; simp; omega)
  simp only [if_true] at hn
  have hf : ∀ j, mfind (nameC f k (-1)) j = if k = j then some { c with named := c.named - 1 } else mfind f j := fun j => by
    unfold nameC
    rw [mfind_put, hcg, wr_ok (by omega) (by omega)]
    rfl
  have ho : ∀ j, occ (nameC f k (-1)) j = occ f j := fun j => by
    unfold nameC
    exact occ_put_same (c0 := c) (by rw [hcg]) j hc
  have hiso : ∀ j, (mfind f j).isSome → (mfind (nameC f k (-1)) j).isSome := fun j hj => by
    rw [hf]; split
    · rfl
    · exact hj
  refine ⟨(shr_name b.good k (-1)).good, fun id c' h q hq => hiso q ?_, fun id c' h => ?_, fun id c' h => ?_, fun id h => hiso id (b.debt id (by simp; omega)), fun id h => hiso id (b.hold id h), fun p hp => ?_, ?_, b.hmax⟩
  · rw [hf] at h
    split at h
    · rename_i e; subst e
      obtain rfl := Option.some.inj h
      exact b.closed k c hc q hq
    · exact b.closed id c' h q hq
  · rw [hf] at h
    rw [ho]
    split at h
    · rename_i e; subst e
      obtain rfl := Option.some.inj h
      simp only; omega
    · rename_i e
      have := b.named id c' h
      rw [if_neg (fun x => e x.symm)] at this
      simpa using this
  · rw [hf] at h
    split at h
    · rename_i e; subst e
      obtain rfl := Option.some.inj h
      exact b.held k c hc
    · exact b.held id c' h
  · rcases mem_put hp with hp | rfl
    · exact b.k16 p hp
    · simp only [hcg]
      exact b.k16 _ (mfind_some_mem hc)
  · unfold nameC
    rw [length_put_same hc]; exact b.few
theorem keep_name {f : Cells} {k by_ : Int} {S : Int → Prop} : Keep f (nameC f k by_) S := fun i hi c hc => by
  unfold nameC
  rw [mfind_put]
  split
  · rename_i e; subst e
    exact ⟨_, rfl, by rw [cget_of hc], by rw [cget_of hc]⟩
  · exact ⟨c, hc, rfl, rfl⟩
theorem bal_del {f : Cells} {D H : Int → Nat} {id : Int} {c : Cl} (b : Bal f D H) (hc : mfind f id = some c) (h0 : occ f id = 0) (hD : D id = 0) (hH : H id = 0) : Bal (mdel f id) (fun j => D j + c.kids.count j) H := by
  have hf : ∀ j, mfind (mdel f id) j = if id = j then none else mfind f j := fun j => mfind_del b.good.nod id j
  have hne : ∀ {p cp k}, mfind f p = some cp → k ∈ cp.kids → id ≠ k := fun hp hk e => by
    subst e
    have := occ_mem hp hk
    omega
  refine ⟨(shr_del b.good id).good, fun p cp h q hq => ?_, fun p cp h => ?_, fun p cp h => ?_, fun j h => ?_, fun j h => ?_, fun p hp => b.k16 p (mem_del hp), Nat.le_trans length_del b.few, b.hmax⟩
  · rw [hf] at h
    split at h
    · cases h
    · rw [hf, if_neg (hne h hq)]
      exact b.closed p cp h q hq
  · rw [hf] at h
    split at h
    · cases h
    · have h1 := b.named p cp h
      have h2 := occ_del p hc
      omega
  · rw [hf] at h
    split at h
    · cases h
    · exact b.held p cp h
  · rw [hf]
    by_cases hj : D j = 0
    · have hk : j ∈ c.kids := List.count_pos_iff.1 (by have h' : D j + c.kids.count j ≠ 0 := h; omega)
      rw [if_neg (hne hc hk)]
      exact b.closed id c hc j hk
    · rw [if_neg (by rintro rfl; exact hj hD)]
      exact b.debt j hj
  · rw [hf, if_neg (by rintro rfl; exact h hH)]
    exact b.hold j h

/-- What is there was there, with the same kids. -/
def Old (f g : Cells) : Prop := ∀ j c', mfind g j = some c' → ∃ c, mfind f j = some c ∧ c'.kids = c.kids ∧ c'.high = c.high
theorem Old.refl (f : Cells) : Old f f := fun j c h => ⟨c, h, rfl, rfl⟩
theorem Old.trans {f g h : Cells} (a : Old f g) (b : Old g h) : Old f h := fun j c hc => by
  obtain ⟨c1, h1, h2, h3⟩ := b j c hc
  obtain ⟨c2, h4, h5, h6⟩ := a j c1 h1
  exact ⟨c2, h4, h2.trans h5, h3.trans h6⟩
theorem old_name {f : Cells} {k by_ : Int} (h : (mfind f k).isSome) : Old f (nameC f k by_) := fun j c' hj => by
  obtain ⟨c, hc⟩ := Option.isSome_iff_exists.1 h
  unfold nameC at hj
  rw [mfind_put] at hj
  split at hj
  · rename_i e; subst e
    obtain rfl := Option.some.inj hj
    exact ⟨c, hc, by rw [cget_of hc], by rw [cget_of hc]⟩
  · exact ⟨c', hj, rfl, rfl⟩
structure GoneR (f g : Cells) (D H : Int → Nat) : Prop where
  bal : Bal g D H
  len : g.length ≤ f.length
  keep : ∀ S, Sup f H S → Keep f g S
  old : Old f g
def GoneOK (m : Nat) : Prop := ∀ (f : Cells) (id : Int) (D H : Int → Nat), Bal f D H → (∀ j, D j + 16 * m ≤ 1000000) → GoneR f (goneC m f id) D H ∧ ∀ L, NL f L → highC f id < m → NL (goneC m f id) (fun j => L j ∧ j ≠ id)
theorem goneF_ok {m : Nat} (ih : GoneOK m) : ∀ (ks : List Int) (f : Cells) (D H : Int → Nat), Bal f (fun j => D j + ks.count j) H → (∀ j, D j + ks.count j + 16 * m ≤ 1000000) →
    GoneR f (goneF m f ks) D H ∧ ∀ L, NL f L → (∀ k ∈ ks, highC f k < m) → NL (goneF m f ks) L
  | [], f, D, H, b, hD => ⟨⟨b.congr fun j => by simp, Nat.le_refl _, fun S _ => .refl _ _, .refl _⟩, fun L h _ => h⟩
  | k :: ks, f, D, H, b, hD => by
    have b1 : Bal (nameC f k (-1)) (fun j => D j + ks.count j) H := by
      refine bal_name_less (b.congr fun j => ?_) fun j => ?_
      · rw [List.count_cons]
        by_cases h : j = k
        · subst h; simp; omega
        · rw [if_neg h, if_neg (by simpa using fun e => h e.symm)]; omega
      · have := hD j
        rw [List.count_cons] at this; split at this <;> omega
    have hD1 : ∀ j, D j + ks.count j + 16 * m ≤ 1000000 := fun j => by
      have := hD j
      rw [List.count_cons] at this; split at this <;> omega
    obtain ⟨r1, n1⟩ := ih (nameC f k (-1)) k _ H b1 fun j => by have := hD1 j; omega
    obtain ⟨r2, n2⟩ := goneF_ok ih ks (goneC m (nameC f k (-1)) k) D H r1.bal hD1
    have hl : (nameC f k (-1)).length = f.length := by
      obtain ⟨c, hc⟩ := Option.isSome_iff_exists.1 (b.debt k (by simp))
      exact length_put_same hc
    have he : goneF m f (k :: ks) = goneF m (goneC m (nameC f k (-1)) k) ks := rfl
    rw [he]
    refine ⟨⟨r2.bal, by have := r2.len; have := r1.len; omega, fun S hS => ?_, ((old_name (b.debt k (by simp))).trans r1.old).trans r2.old⟩, fun L hL hh => ?_⟩
    · have k1 : Keep f (nameC f k (-1)) S := keep_name
      have s1 := hS.keep k1
      have k2 := r1.keep S s1
      exact (k1.trans k2).trans (r2.keep S (s1.keep k2))
    · have hkh : highC (nameC f k (-1)) k < m := by rw [highC_name]; exact hh k (by simp)
      have nl1 : NL (nameC f k (-1)) (fun j => L j ∨ j = k) := fun j c hj h1 h2 => by
        by_cases e : k = j
        · exact .inr e.symm
        · unfold nameC at hj
          rw [mfind_put, if_neg e] at hj
          exact .inl (hL j c hj h1 h2)
      have nl2 := n1 _ nl1 hkh
      refine n2 L (fun j c hj h1 h2 => ?_) fun q hq => ?_
      · obtain ⟨h3 | h3, h4⟩ := nl2 j c hj h1 h2
        · exact h3
        · exact absurd h3 h4
      · have h1 := (shr_gone m _ k b1.good).le q
        rw [highC_name] at h1
        exact Int.lt_of_le_of_lt h1 (hh q (by simp [hq]))
theorem gone_ok : ∀ m, GoneOK m := by
  intro m
  induction m with
  | zero =>
    intro f id D H b hD
    refine ⟨⟨b, Nat.le_refl _, fun S _ => .refl _ _, .refl _⟩, fun L _ h => ?_⟩
    have := b.good.low.nn id
    omega
  | succ m ih =>
    intro f id D H b hD
    unfold goneC
    cases hc : mfind f id with
    | none =>
      refine ⟨⟨b, Nat.le_refl _, fun S _ => .refl _ _, .refl _⟩, fun L hL _ j c hj h1 h2 => ⟨hL j c hj h1 h2, ?_⟩⟩
      rintro rfl
      rw [hc] at hj; cases hj
    | some c =>
      simp only
      have hx := b.nmax hc (by have := hD id; omega)
      have hh := b.held id c hc
      have hm := b.hmax id
      cases hl : c.loose with
      | false =>
        simp only [Bool.false_eq_true, if_false]
        refine ⟨⟨b, Nat.le_refl _, fun S _ => .refl _ _, .refl _⟩, fun L hL _ j c' hj h1 h2 => ⟨hL j c' hj h1 h2, ?_⟩⟩
        rintro rfl
        rw [hc] at hj
        obtain rfl := Option.some.inj hj
        unfold Cl.loose at hl
        rw [h1, h2, wr_ok (by omega) (by omega)] at hl
        simp at hl
      | true =>
        simp only [if_true]
        unfold Cl.loose at hl
        rw [wr_ok (by omega) (by omega)] at hl
        have hl0 : c.named + c.held = 0 := by simpa using hl
        have hn := b.named id c hc
        have h0 : occ f id = 0 := by omega
        have hD0 : D id = 0 := by omega
        have hH0 : H id = 0 := by omega
        have h16 := b.k16 _ (mfind_some_mem hc)
        simp only at h16
        have hcnt : ∀ j, c.kids.count j ≤ 16 := fun j => Nat.le_trans List.count_le_length h16
        obtain ⟨r, n⟩ := goneF_ok ih c.kids (mdel f id) D H (bal_del b hc h0 hD0 hH0) fun j => by have := hD j; have := hcnt j; omega
        refine ⟨⟨r.bal, Nat.le_trans r.len length_del, fun S hS => ?_, Old.trans (fun j c' hj => ?_) r.old⟩, fun L hL hhi => ?_⟩
        · have hid : ¬ S id := fun hs => by
            rcases (hS id hs).2 with h | ⟨p, cp, _, hp, hk⟩
            · omega
            · have := occ_mem hp hk; omega
          have k1 : Keep f (mdel f id) S := fun i hi c' hc' => by
            refine ⟨c', ?_, rfl, rfl⟩
            rw [mfind_del b.good.nod, if_neg (by rintro rfl; exact hid hi)]
            exact hc'
          exact k1.trans (r.keep S (hS.keep k1))
        · rw [mfind_del b.good.nod] at hj
          split at hj
          · cases hj
          · exact ⟨c', hj, rfl, rfl⟩
        · refine n _ (fun j c' hj h1 h2 => ?_) fun k hk => ?_
          · rw [mfind_del b.good.nod] at hj
            split at hj
            · cases hj
            · rename_i e
              exact ⟨hL j c' hj h1 h2, fun x => e x.symm⟩
          · have h1 := (b.good.low id c hc).2 k hk
            have h2 := (shr_del b.good id).le k
            rw [highC_of hc] at hhi
            omega
end Go.Proofs.YtbajgpadmlnffaaGreat
/- A store with trees: saving, holding, dropping. -/
namespace Go.Proofs.YtbajgpadmlnffaaGreat
open Go.V
set_option linter.unusedVariables false

theorem bal_name_more {f : Cells} {D H : Int → Nat} {k : Int} (b : Bal f D H) (hs : (mfind f k).isSome) (hD : D k ≤ 1000000) : Bal (nameC f k 1) (fun j => D j + if j = k then 1 else 0) H := by
  obtain ⟨c, hc⟩ := Option.isSome_iff_exists.1 hs
  have hcg := cget_of hc
  have hn := b.named k c hc
  have hx := b.nmax hc (by omega)
  have hf : ∀ j, mfind (nameC f k 1) j = if k = j then some { c with named := c.named + 1 } else mfind f j := fun j => by
    unfold nameC
    rw [mfind_put, hcg, wr_ok (by omega) (by omega)]
  have ho : ∀ j, occ (nameC f k 1) j = occ f j := fun j => by
    unfold nameC
    exact occ_put_same (c0 := c) (by rw [hcg]) j hc
  have hiso : ∀ j, (mfind f j).isSome → (mfind (nameC f k 1) j).isSome := fun j hj => by
    rw [hf]; split
    · rfl
    · exact hj
  refine ⟨(shr_name b.good k 1).good, fun id c' h q hq => hiso q ?_, fun id c' h => ?_, fun id c' h => ?_, fun id h => hiso id ?_, fun id h => hiso id (b.hold id h), fun p hp => ?_, ?_, b.hmax⟩
  · rw [hf] at h
    split at h
    · rename_i e; subst e
      obtain rfl := Option.some.inj h
      exact b.closed k c hc q hq
    · exact b.closed id c' h q hq
  · rw [hf] at h
    rw [ho]
    split at h
    · rename_i e; subst e
      obtain rfl := Option.some.inj h
      simp only [if_true]; omega
    · rename_i e
      have := b.named id c' h
      rw [if_neg (fun x => e x.symm)]
      simpa using this
  · rw [hf] at h
    split at h
    · rename_i e; subst e
      obtain rfl := Option.some.inj h
      exact b.held k c hc
    · exact b.held id c' h
  · by_cases e : id = k
    · subst e; exact hs
    · simp only [if_neg e, Nat.add_zero] at h
      exact b.debt id h
  · rcases mem_put hp with hp | rfl
    · exact b.k16 p hp
    · simp only [hcg]
      exact b.k16 _ (mfind_some_mem hc)
  · unfold nameC
    rw [length_put_same hc]; exact b.few
theorem bal_nameF {H : Int → Nat} : ∀ (ks : List Int) (f : Cells) (D : Int → Nat), Bal f D H → (∀ k ∈ ks, (mfind f k).isSome) → (∀ j, D j + ks.length ≤ 1000000) → Bal (nameF f ks) (fun j => D j + ks.count j) H ∧ (nameF f ks).length = f.length
  | [], f, D, b, _, _ => ⟨b.congr fun j => by simp, rfl⟩
  | k :: ks, f, D, b, hs, hD => by
    have h1 := bal_name_more b (hs k (by simp)) (by have := hD k; omega)
    obtain ⟨c, hc⟩ := Option.isSome_iff_exists.1 (hs k (by simp))
    obtain ⟨h2, h3⟩ := bal_nameF ks (nameC f k 1) _ h1 (fun q hq => by
      unfold nameC; rw [mfind_put]; split
      · rfl
      · exact hs q (by simp [hq])) (fun j => by have := hD j; simp only [List.length_cons] at this; split <;> omega)
    refine ⟨h2.congr fun j => ?_, h3.trans (length_put_same hc)⟩
    rw [List.count_cons]
    by_cases e : j = k
    · subst e; simp; omega
    · rw [if_neg e, if_neg (by simpa using fun h => e h.symm)]; omega
theorem highs_ge {f : Cells} {k : Int} : ∀ (ks : List Int) (m : Int), (k ∈ ks → highC f k ≤ ks.foldl (fun h k => max h (highC f k)) m) ∧ m ≤ ks.foldl (fun h k => max h (highC f k)) m
  | [], m => ⟨fun h => by simp at h, Int.le_refl _⟩
  | j :: ks, m => by
    rw [List.foldl_cons]
    obtain ⟨h1, h2⟩ := highs_ge (f := f) (k := k) ks (max m (highC f j))
    refine ⟨fun h => ?_, by omega⟩
    rcases List.mem_cons.1 h with rfl | h
    · omega
    · exact h1 h
theorem bal_put_new {f : Cells} {H : Int → Nat} {ks : List Int} {id hi : Int} {A : Option Addr} {cap : Nat} (b : Bal f (fun j => ks.count j) H) (hid : mfind f id = none) (h16 : ks.length ≤ 16) (hf : f.length + 1 ≤ 4096) (hhi : ∀ k ∈ ks, highC f k < hi) (h0 : 0 ≤ hi) :
    Bal (mput f id ⟨0, 0, hi, A, cap, ks⟩) (fun _ => 0) H := by
  have hk : ∀ k ∈ ks, (mfind f k).isSome := fun k hk => b.debt k (by have := List.count_pos_iff.2 hk; omega)
  have hne : ∀ {p cp k}, mfind f p = some cp → k ∈ cp.kids → id ≠ k := fun hp hq e => by
    subst e
    have := b.closed _ _ hp _ hq
    rw [hid] at this; cases this
  have hne2 : ∀ k ∈ ks, id ≠ k := fun k hq e => by
    subst e
    have := hk _ hq
    rw [hid] at this; cases this
  have hfm : ∀ j, mfind (mput f id (⟨0, 0, hi, A, cap, ks⟩ : Cl)) j = if id = j then some ⟨0, 0, hi, A, cap, ks⟩ else mfind f j := fun j => mfind_put f id j _
  have hiso : ∀ j, (mfind f j).isSome → (mfind (mput f id (⟨0, 0, hi, A, cap, ks⟩ : Cl)) j).isSome := fun j hj => by
    rw [hfm]; split
    · rfl
    · exact hj
  have ho0 : occ f id = 0 := by
    rcases Nat.eq_zero_or_pos (occ f id) with h | h
    · exact h
    · obtain ⟨p, c, hp, hc⟩ := occ_pos b.good.nod h
      exact absurd rfl (hne hp hc)
  have hhc : ∀ k, id ≠ k → highC (mput f id (⟨0, 0, hi, A, cap, ks⟩ : Cl)) k = highC f k := fun k hk => by
    unfold highC; rw [cget_mput, if_neg hk]
  refine ⟨⟨fun j c h => ?_, nodup_put b.good.nod _ _⟩, fun j c h q hq => hiso q ?_, fun j c h => ?_, fun j c h => ?_, fun j h => absurd rfl h, fun j h => hiso j (b.hold j h), fun p hp => ?_, ?_, b.hmax⟩
  · rw [hfm] at h
    split at h
    · obtain rfl := Option.some.inj h
      exact ⟨h0, fun k hq => by rw [hhc k (hne2 k hq)]; exact hhi k hq⟩
    · refine ⟨(b.good.low j c h).1, fun k hq => ?_⟩
      rw [hhc k (hne h hq)]
      exact (b.good.low j c h).2 k hq
  · rw [hfm] at h
    split at h
    · obtain rfl := Option.some.inj h
      exact hk q hq
    · exact b.closed j c h q hq
  · rw [hfm] at h
    rw [occ_put_new j hid]
    split at h
    · rename_i e; subst e
      obtain rfl := Option.some.inj h
      have : ks.count id = 0 := List.count_eq_zero.2 fun hq => hne2 id hq rfl
      simp only; omega
    · have := b.named j c h
      simp only at this ⊢; omega
  · rw [hfm] at h
    split at h
    · rename_i e; subst e
      obtain rfl := Option.some.inj h
      have : H id = 0 := by
        by_cases hz : H id = 0
        · exact hz
        · have := b.hold id hz
          rw [hid] at this; cases this
      simp only; omega
    · exact b.held j c h
  · rcases mem_put hp with hp | rfl
    · exact b.k16 p hp
    · exact h16
  · rw [length_put_new hid]; exact hf

/-- What a block's cell names is what its node names. -/
def Link (σ : St) : Prop := ∀ id c nd, mfind σ.cells id = some c → NodeAt σ id nd → c.kids = kidsOf nd
structure Inv (σ : St) (H : Int → Nat) : Prop where
  alive : Alive σ
  n : σ.dev.n = 4096
  kept : σ.kept = []
  bal : Bal σ.cells (fun _ => 0) H
  link : Link σ
  pos : ∀ j c, mfind σ.cells j = some c → 2 ≤ j
theorem kidsAt_some {σ : St} {h : Nat} {nd : Node} (hn : NI h nd) (hk : KidsAt σ h nd.items) : ∀ k ∈ kidsOf nd, (mfind σ.cells k).isSome := by
  intro k hk'
  unfold kidsOf kidsL at hk'
  rw [hn.level] at hk'
  by_cases hp : 0 < h
  · rw [if_pos (by omega)] at hk'
    obtain ⟨z, hz, rfl⟩ := List.mem_map.1 hk'
    cases h with
    | zero => omega
    | succ h =>
      obtain ⟨nz, hnz⟩ := hk z hz
      obtain ⟨c, hc⟩ := hnz.node.c
      rw [hc]; rfl
  · rw [if_neg (by omega)] at hk'; simp at hk'
theorem mfind_nameF {ks : List Int} : ∀ {f : Cells}, (∀ k ∈ ks, (mfind f k).isSome) → ∀ {j : Int} {c : Cl}, mfind (nameF f ks) j = some c → ∃ c0, mfind f j = some c0 ∧ c.kids = c0.kids := by
  induction ks with
  | nil => intro f _ j c h; exact ⟨c, h, rfl⟩
  | cons k ks ih =>
    intro f hs j c h
    obtain ⟨ck, hck⟩ := Option.isSome_iff_exists.1 (hs k (by simp))
    obtain ⟨c1, h1, h2⟩ := ih (f := nameC f k 1) (fun q hq => by
      unfold nameC; rw [mfind_put]; split
      · rfl
      · exact hs q (by simp [hq])) h
    unfold nameC at h1
    rw [mfind_put] at h1
    split at h1
    · rename_i e; subst e
      obtain rfl := Option.some.inj h1
      exact ⟨ck, hck, by rw [h2, cget_of hck]⟩
    · exact ⟨c1, h1, h2⟩
theorem inv_save {σ σ' : St} {H : Int → Nat} {h : Nat} {nd : Node} {x : Item} (I : Inv σ H) (hs : SaveR σ nd σ' (.ok x)) (hn : NI h nd) (hk : KidsAt σ h nd.items) (hl : σ.cells.length + 1 ≤ 4096) :
    Inv σ' H ∧ σ'.cells.length = σ.cells.length + 1 := by
  have hr := hs.root hn hk (by rw [I.n]; omega)
  have hks := kidsAt_some hn hk
  have hkeep := hs.keeps
  obtain ⟨id, A, cap, y, h0, hF, rfl, hy, rfl⟩ := hs
  have hno := hF.none h0
  have hk8 : (kidsOf nd).length ≤ 16 := by
    have := kidsL_length nd.level nd.items
    have := hn.few
    unfold kidsOf; omega
  obtain ⟨b1, l1⟩ := bal_nameF (kidsOf nd) σ.cells (fun _ => 0) I.bal hks (fun j => by omega)
  have hno1 : mfind (nameF σ.cells (kidsOf nd)) id = none := by
    cases hm : mfind (nameF σ.cells (kidsOf nd)) id with
    | none => rfl
    | some c =>
      obtain ⟨c0, hc0, _⟩ := mfind_nameF hks hm
      rw [hno] at hc0; cases hc0
  have hhi : ∀ k ∈ kidsOf nd, highC (nameF σ.cells (kidsOf nd)) k < highs σ.cells (kidsOf nd) + 1 := fun k hq => by
    rw [highC_nameF]
    have := (highs_ge (f := σ.cells) (k := k) (kidsOf nd) 0).1 hq
    unfold highs; omega
  have hh0 : 0 ≤ highs σ.cells (kidsOf nd) + 1 := by
    have := (highs_ge (f := σ.cells) (k := 0) (kidsOf nd) 0).2
    unfold highs; omega
  have b2 : Bal (mput (nameF σ.cells (kidsOf nd)) id ⟨0, 0, highs σ.cells (kidsOf nd) + 1, A, cap, kidsOf nd⟩) (fun _ => 0) H :=
    bal_put_new (b1.congr fun j => by simp) hno1 hk8 (by rw [l1]; exact hl) hhi hh0
  refine ⟨⟨hkeep.alive I.alive, I.n, I.kept, b2, fun j c nd' hj hN => ?_, fun j c hj => ?_⟩, ?_⟩
  · by_cases e : id = j
    · subst e
      obtain rfl := NodeAt.unique hr.node hN
      change mfind (mput (nameF σ.cells (kidsOf nd)) id _) id = _ at hj
      rw [mfind_put, if_pos rfl] at hj
      obtain rfl := Option.some.inj hj
      rfl
    · change mfind (mput (nameF σ.cells (kidsOf nd)) id _) j = _ at hj
      rw [mfind_put, if_neg e] at hj
      obtain ⟨c0, hc0, hck⟩ := mfind_nameF hks hj
      rw [hck]
      have hd : devAt (putC σ id (kidsOf nd) (bs (nodeB nd)) A cap) j = devAt σ j := by rw [devAt_put, if_neg e]
      refine I.link j c0 nd' hc0 ⟨⟨c0, hc0⟩, ?_, hN.lo, hN.hi, ?_⟩
      · obtain ⟨p, hp1, hp2⟩ := hN.p
        rw [hd] at hp1
        exact ⟨p, hp1, hp2⟩
      · have := hN.sz
        rw [hd] at this; exact this
  · change mfind (mput (nameF σ.cells (kidsOf nd)) id _) j = _ at hj
    rw [mfind_put] at hj
    split at hj
    · rename_i e; subst e
      exact (hF.range h0).1
    · obtain ⟨c0, hc0, _⟩ := mfind_nameF hks hj
      exact I.pos j c0 hc0
  · show (mput (nameF σ.cells (kidsOf nd)) id _).length = _
    rw [length_put_new hno1, l1]
theorem inv_saves {n : Nat} {σ σ' : St} {H : Int → Nat} (s : Saves n σ σ') (I : Inv σ H) (hl : σ.cells.length + n ≤ 4096) : Inv σ' H ∧ σ'.cells.length = σ.cells.length + n := by
  induction s with
  | nil => exact ⟨I, rfl⟩
  | cons hs hn hk r ih =>
    obtain ⟨I1, l1⟩ := inv_save I hs hn hk (by omega)
    obtain ⟨I2, l2⟩ := ih I1 (by omega)
    exact ⟨I2, by omega⟩
/-- No room: then there are many. -/
theorem keys_many : ∀ (n : Nat) (f : Cells), (∀ i : Nat, i < n → (mfind f ((i : Int) + 2)).isSome) → (keys f).Nodup → n ≤ f.length := by
  intro n
  induction n with
  | zero => intro f _ _; omega
  | succ n ih =>
    intro f h hn
    have h1 := ih (mdel f ((n : Int) + 2)) (fun i hi => by
      rw [mfind_del hn, if_neg (by omega)]
      exact h i (by omega)) (nodup_del hn _)
    obtain ⟨c, hc⟩ := Option.isSome_iff_exists.1 (h n (by omega))
    have h2 : (mdel f ((n : Int) + 2)).length + 1 = f.length := by
      clear h1 h ih hn
      induction f with
      | nil => simp [mfind] at hc
      | cons p r ih =>
        simp only [mfind] at hc
        split at hc
        · rename_i e; simp [mdel, e]
        · rename_i e; simp only [mdel, if_neg e, List.length_cons]; rw [ih hc]
    omega
theorem full_many {σ : St} {H : Int → Nat} (I : Inv σ H) (hF : FreeAt σ 0) : 4094 ≤ σ.cells.length := by
  rcases hF with ⟨_, h⟩ | ⟨h, _⟩
  · refine keys_many 4094 σ.cells (fun i hi => ?_) I.bal.good.nod
    have := h ((i : Int) + 2) (by omega) (by rw [I.n]; omega)
    unfold isFree at this
    rw [I.kept] at this
    simpa [mfind] using this
  · omega

/-! holding and dropping -/
def hInc (H : Int → Nat) (id : Int) : Int → Nat := fun j => H j + if j = id then 1 else 0
def hDec (H : Int → Nat) (id : Int) : Int → Nat := fun j => H j - if j = id then 1 else 0
theorem hold_find {f : Cells} {id d : Int} {c : Cl} (hc : mfind f id = some c) (h1 : -9223372036854775808 ≤ c.held + d) (h2 : c.held + d ≤ 9223372036854775807) (j : Int) : mfind (holdC f id d) j = if id = j then some { c with held := c.held + d } else mfind f j := by
  unfold holdC
  rw [mfind_put, cget_of hc, wr_ok h1 h2]
theorem keep_hold {f : Cells} {k by_ : Int} {S : Int → Prop} : Keep f (holdC f k by_) S := fun i hi c hc => by
  unfold holdC
  rw [mfind_put]
  split
  · rename_i e; subst e
    exact ⟨_, rfl, by rw [cget_of hc], by rw [cget_of hc]⟩
  · exact ⟨c, hc, rfl, rfl⟩
theorem bal_hold {f : Cells} {D H H' : Int → Nat} {id d : Int} {c : Cl} (b : Bal f D H) (hc : mfind f id = some c) (h1 : -9223372036854775808 ≤ c.held + d) (h2 : c.held + d ≤ 9223372036854775807)
    (hH : ((H' id : Nat) : Int) = (H id : Int) + d) (hH2 : ∀ j, j ≠ id → H' j = H j) (hm : H' id ≤ 1000000) : Bal (holdC f id d) D H' := by
  have hf := hold_find hc h1 h2
  have ho : ∀ j, occ (holdC f id d) j = occ f j := fun j => by
    unfold holdC
    exact occ_put_same (c0 := c) (by rw [cget_of hc]) j hc
  have hiso : ∀ j, (mfind f j).isSome → (mfind (holdC f id d) j).isSome := fun j hj => by
    rw [hf]; split
    · rfl
    · exact hj
  refine ⟨(shr_hold b.good id d).good, fun j c' h q hq => hiso q ?_, fun j c' h => ?_, fun j c' h => ?_, fun j h => hiso j (b.debt j h), fun j h => hiso j ?_, fun p hp => ?_, ?_, fun j => ?_⟩
  · rw [hf] at h
    split at h
    · obtain rfl := Option.some.inj h
      exact b.closed id c hc q hq
    · exact b.closed j c' h q hq
  · rw [hf] at h
    rw [ho]
    split at h
    · rename_i e; subst e
      obtain rfl := Option.some.inj h
      exact b.named id c hc
    · exact b.named j c' h
  · rw [hf] at h
    split at h
    · rename_i e; subst e
      obtain rfl := Option.some.inj h
      have := b.held id c hc
      simp only; omega
    · rename_i e
      rw [hH2 j (fun x => e x.symm)]
      exact b.held j c' h
  · by_cases e : j = id
    · subst e; rw [hc]; rfl
    · rw [hH2 j e] at h; exact b.hold j h
  · rcases mem_put hp with hp | rfl
    · exact b.k16 p hp
    · simp only [cget_of hc]
      exact b.k16 _ (mfind_some_mem hc)
  · unfold holdC
    rw [length_put_same hc]; exact b.few
  · by_cases e : j = id
    · subst e; exact hm
    · rw [hH2 j e]; exact b.hmax j

/-! cells have turned: nodes stay where cells do -/
theorem node_keep {σ : St} {f : Cells} {S : Int → Prop} (k : Keep σ.cells f S) {id : Int} {nd : Node} (hi : S id) (h : NodeAt σ id nd) : NodeAt { σ with cells := f } id nd := by
  obtain ⟨c, hc⟩ := h.c
  obtain ⟨c', hc', _⟩ := k id hi c hc
  exact ⟨⟨c', hc'⟩, h.p, h.lo, h.hi, h.sz⟩
theorem root_keep {σ : St} {f : Cells} {S : Int → Prop} (k : Keep σ.cells f S) {h : Nat} {x : Item} {nd : Node} (hi : S x.kid) (r : RootAt σ h x nd) : RootAt { σ with cells := f } h x nd := by
  obtain ⟨c, hc⟩ := r.node.c
  obtain ⟨c', hc', _, hh⟩ := k _ hi c hc
  refine ⟨node_keep k hi r.node, ?_, r.val, r.key, r.ni⟩
  show highC f x.kid = _
  rw [highC_of hc', hh, ← highC_of hc]
  exact r.high
theorem All2.mono_mem {α β : Type} {R R' : α → β → Prop} : ∀ {l : List α} {m : List β}, (∀ x ∈ l, ∀ y, R x y → R' x y) → All2 R l m → All2 R' l m
  | [], [], _, _ => trivial
  | x :: r, y :: q, hm, ⟨h1, h2⟩ => ⟨hm x (by simp) y h1, All2.mono_mem (fun z hz => hm z (by simp [hz])) h2⟩
  | [], _ :: _, _, h => h.elim
  | _ :: _, [], _, h => h.elim
/-- S has the kids of its own. -/
def Down (f : Cells) (S : Int → Prop) : Prop := ∀ p c k, S p → mfind f p = some c → k ∈ c.kids → S k
theorem kid_down {σ : St} {S : Int → Prop} (hL : Link σ) (hD : Down σ.cells S) {h : Nat} {id : Int} {nd : Node} (hi : S id) (hN : NodeAt σ id nd) (hl : nd.level = (h : Int) + 1) : ∀ y ∈ nd.items, S y.kid := fun y hy => by
  obtain ⟨c, hc⟩ := hN.c
  refine hD id c y.kid hi hc ?_
  rw [hL id c nd hc hN]
  unfold kidsOf kidsL
  rw [hl, if_pos (by omega)]
  exact List.mem_map.2 ⟨y, hy, rfl⟩
theorem cont_keep {σ : St} {f : Cells} {S : Int → Prop} (hL : Link σ) (hD : Down σ.cells S) (k : Keep σ.cells f S) : ∀ {h : Nat} {l : List Item} {E : List KV}, Cont σ h l E → (0 < h → ∀ x ∈ l, S x.kid) → Cont { σ with cells := f } h l E := by
  intro h
  induction h with
  | zero => intro l E c _; exact c
  | succ h ih =>
    rintro l E ⟨Es, rfl, hk⟩ hS
    refine ⟨Es, rfl, hk.mono_mem fun x hx e ⟨nk, r1, r4, rc⟩ => ⟨nk, root_keep k (hS (by omega) x hx) r1, r4, ih rc fun h0 => ?_⟩⟩
    obtain ⟨h', rfl⟩ : ∃ h', h = h' + 1 := ⟨h - 1, by omega⟩
    exact kid_down hL hD (hS (by omega) x hx) r1.node (h := h') (by rw [r1.ni.level]; rfl)
theorem treeN_keep {σ : St} {f : Cells} {S : Int → Prop} (hL : Link σ) (hD : Down σ.cells S) (k : Keep σ.cells f S) {h : Nat} {items : List Item} {root : Int} {E : List KV} (t : TreeN σ h items root E) (hr : S root) : TreeN { σ with cells := f } h items root E := by
  obtain ⟨c, hc⟩ := t.node.c
  obtain ⟨c', hc', _, hh⟩ := k _ hr c hc
  refine ⟨node_keep k hr t.node, ?_, t.ni, cont_keep hL hD k t.cont fun h0 => ?_, t.sorted, t.two⟩
  · show highC f root = _
    rw [highC_of hc', hh, ← highC_of hc]
    exact t.high
  · obtain ⟨h', rfl⟩ : ∃ h', h = h' + 1 := ⟨h - 1, by omega⟩
    exact kid_down hL hD hr t.node (h := h') rfl
theorem treeAt_keep {σ : St} {f : Cells} {S : Int → Prop} (hL : Link σ) (hD : Down σ.cells S) (k : Keep σ.cells f S) {root : Int} {E : List KV} (t : TreeAt σ root E) (hr : root = 0 ∨ S root) : TreeAt { σ with cells := f } root E := by
  rcases t with t | ⟨h, items, t⟩
  · exact .inl t
  · refine .inr ⟨h, items, treeN_keep hL hD k t ?_⟩
    rcases hr with rfl | hr
    · have := t.node.lo; omega
    · exact hr
/-- What stands below what is held. -/
inductive Below (f : Cells) (H : Int → Nat) : Int → Prop
  | held {i : Int} (h : 0 < H i) : Below f H i
  | kid {p k : Int} {c : Cl} (h : Below f H p) (hp : mfind f p = some c) (hk : k ∈ c.kids) : Below f H k
theorem Below.down (f : Cells) (H : Int → Nat) : Down f (Below f H) := fun p c k h hp hk => .kid h hp hk
theorem Below.sup {f : Cells} {D H : Int → Nat} (b : Bal f D H) : Sup f H (Below f H) := fun i hi => by
  cases hi with
  | held h => exact ⟨b.hold i (by omega), .inl h⟩
  | kid h hp hk => exact ⟨b.closed _ _ hp _ hk, .inr ⟨_, _, h, hp, hk⟩⟩
theorem link_keep {σ : St} {f : Cells} (hL : Link σ) (hb : ∀ j c', mfind f j = some c' → ∃ c, mfind σ.cells j = some c ∧ c'.kids = c.kids) : Link { σ with cells := f } := fun id c nd hc hN => by
  obtain ⟨c0, hc0, hk⟩ := hb id c hc
  rw [hk]
  exact hL id c0 nd hc0 ⟨⟨c0, hc0⟩, hN.p, hN.lo, hN.hi, hN.sz⟩
theorem inv_hold {σ : St} {H : Int → Nat} {id : Int} (I : Inv σ H) (hs : (mfind σ.cells id).isSome) (hm : H id < 1000000) :
    Inv { σ with cells := holdC σ.cells id 1 } (hInc H id) ∧ (holdC σ.cells id 1).length = σ.cells.length ∧ ∀ r E, TreeAt σ r E → TreeAt { σ with cells := holdC σ.cells id 1 } r E := by
  obtain ⟨c, hc⟩ := Option.isSome_iff_exists.1 hs
  have hh := I.bal.held id c hc
  refine ⟨⟨⟨I.alive.burns, I.alive.off, I.alive.n8, I.alive.n4⟩, I.n, I.kept, bal_hold I.bal hc (by omega) (by omega) (by simp [hInc]) (fun j hj => by simp [hInc, hj]) (by simp [hInc]; omega), link_keep I.link fun j c' hj => ?_, fun j c' hj => ?_⟩, length_put_same hc, fun r E t => ?_⟩
  · rw [hold_find hc (by omega) (by omega)] at hj
    split at hj
    · rename_i e; subst e
      obtain rfl := Option.some.inj hj
      exact ⟨c, hc, rfl⟩
    · exact ⟨c', hj, rfl⟩
  · simp only at hj
    rw [hold_find hc (by omega) (by omega)] at hj
    split at hj
    · rename_i e; subst e
      exact I.pos _ c hc
    · exact I.pos j c' hj
  · exact treeAt_keep (S := fun _ => True) I.link (fun _ _ _ _ _ _ => trivial) keep_hold t (.inr trivial)
/-- One is held once less: what nobody else holds goes; trees that are held stay. -/
theorem inv_drop {σ : St} {H : Int → Nat} {id : Int} (I : Inv σ H) (hh : 0 < H id) :
    Inv { σ with cells := goneC 66 (holdC σ.cells id (-1)) id } (hDec H id) ∧ (goneC 66 (holdC σ.cells id (-1)) id).length ≤ σ.cells.length ∧
      (∀ r E, (r = 0 ∨ 0 < hDec H id r) → TreeAt σ r E → TreeAt { σ with cells := goneC 66 (holdC σ.cells id (-1)) id } r E) ∧
      (∃ c, mfind σ.cells id = some c ∧ 1 ≤ c.held) ∧ Old σ.cells (goneC 66 (holdC σ.cells id (-1)) id) ∧ Keep σ.cells (goneC 66 (holdC σ.cells id (-1)) id) (Below σ.cells (hDec H id)) ∧
      ∀ L, NL σ.cells L → highC σ.cells id < 66 → NL (goneC 66 (holdC σ.cells id (-1)) id) L := by
  obtain ⟨c, hc⟩ := Option.isSome_iff_exists.1 (I.bal.hold id (by omega))
  have hhd := I.bal.held id c hc
  have hm := I.bal.hmax id
  have b1 : Bal (holdC σ.cells id (-1)) (fun _ => 0) (hDec H id) := bal_hold I.bal hc (by omega) (by omega) (by simp [hDec]; omega) (fun j hj => by simp [hDec, hj]) (by simp [hDec]; omega)
  obtain ⟨r, n⟩ := gone_ok 66 (holdC σ.cells id (-1)) id (fun _ => 0) (hDec H id) b1 (fun j => by omega)
  have hf := hold_find hc (d := -1) (by omega) (by omega)
  have o1 : Old σ.cells (holdC σ.cells id (-1)) := fun j c' hj => by
    rw [hf] at hj
    split at hj
    · rename_i e; subst e
      obtain rfl := Option.some.inj hj
      exact ⟨c, hc, rfl, rfl⟩
    · exact ⟨c', hj, rfl, rfl⟩
  have o2 := o1.trans r.old
  have k1 : Keep σ.cells (holdC σ.cells id (-1)) (Below σ.cells (hDec H id)) := keep_hold
  have s1 : Sup σ.cells (hDec H id) (Below σ.cells (hDec H id)) := fun i hi => by
    cases hi with
    | held h => exact ⟨I.bal.hold i (by unfold hDec at h; omega), .inl h⟩
    | kid h hp hk => exact ⟨I.bal.closed _ _ hp _ hk, .inr ⟨_, _, h, hp, hk⟩⟩
  have k2 := k1.trans (r.keep _ (s1.keep k1))
  refine ⟨⟨⟨I.alive.burns, I.alive.off, I.alive.n8, I.alive.n4⟩, I.n, I.kept, r.bal, link_keep I.link fun j c' hj => ?_, fun j c' hj => ?_⟩, ?_, fun q E hq t => ?_, ⟨c, hc, by omega⟩, o2, k2, fun L hL hhi => ?_⟩
  · obtain ⟨c0, h1, h2, _⟩ := o2 j c' hj
    exact ⟨c0, h1, h2⟩
  · obtain ⟨c0, h1, _⟩ := o2 j c' hj
    exact I.pos j c0 h1
  · have := r.len
    unfold holdC at this ⊢
    rw [length_put_same hc] at this
    exact this
  · exact treeAt_keep I.link (Below.down _ _) k2 t (hq.imp (fun h => h) .held)
  · have h1 : NL (holdC σ.cells id (-1)) (fun j => L j ∨ j = id) := fun j c' hj h1 h2 => by
      rw [hf] at hj
      split at hj
      · rename_i e; exact .inr e.symm
      · exact .inl (hL j c' hj h1 h2)
    have h2 := n _ h1 (by
      have : highC (holdC σ.cells id (-1)) id = highC σ.cells id := by
        rw [highC_of hc, highC_of (by rw [hf, if_pos rfl])]
      rw [this]; exact hhi)
    intro j c' hj e1 e2
    obtain ⟨h3 | h3, h4⟩ := h2 j c' hj e1 e2
    · exact h3
    · exact absurd h3 h4
end Go.Proofs.YtbajgpadmlnffaaGreat
/- What nobody names or holds behind putting a key, or taking one out: the new root alone. -/
namespace Go.Proofs.YtbajgpadmlnffaaGreat
open Go.V
set_option linter.unusedVariables false

theorem NL.mono {f : Cells} {L L' : Int → Prop} (h : NL f L) (hm : ∀ j, L j → L' j) : NL f L' := fun j c hj h1 h2 => hm j (h j c hj h1 h2)
theorem save_loose {σ σ' : St} {H : Int → Nat} {h : Nat} {nd : Node} {x : Item} {L : Int → Prop} (I : Inv σ H) (hs : SaveR σ nd σ' (.ok x)) (hn : NI h nd) (hk : KidsAt σ h nd.items) (hl : σ.cells.length + 1 ≤ 4096) (hL : NL σ.cells L) :
    NL σ'.cells (fun j => (L j ∧ j ∉ kidsOf nd) ∨ j = x.kid) := by
  have hks := kidsAt_some hn hk
  obtain ⟨id, A, cap, y, h0, hF, rfl, hy, rfl⟩ := hs
  have hk8 : (kidsOf nd).length ≤ 16 := by
    have := kidsL_length nd.level nd.items
    have := hn.few
    unfold kidsOf; omega
  obtain ⟨b1, l1⟩ := bal_nameF (kidsOf nd) σ.cells (fun _ => 0) I.bal hks (fun j => by omega)
  intro j c hj h1 h2
  change mfind (mput (nameF σ.cells (kidsOf nd)) id _) j = _ at hj
  rw [mfind_put] at hj
  split at hj
  · rename_i e; exact .inr e.symm
  · have hn := b1.named j c hj
    have hh := b1.held j c hj
    left
    have hnk : j ∉ kidsOf nd := fun hm => by
      have := List.count_pos_iff.2 hm
      omega
    refine ⟨?_, hnk⟩
    obtain ⟨c0, hc0, _⟩ := mfind_nameF hks hj
    refine hL j c0 hc0 ?_ ?_
    · have e1 := I.bal.named j c0 hc0
      have e2 : occ (nameF σ.cells (kidsOf nd)) j = occ σ.cells j := by
        clear hj hn hh hnk b1 l1 h1 h2
        have : ∀ (ks : List Int) (f : Cells), (∀ k ∈ ks, (mfind f k).isSome) → occ (nameF f ks) j = occ f j := by
          intro ks
          induction ks with
          | nil => intro f _; rfl
          | cons k ks ih =>
            intro f hs
            obtain ⟨ck, hck⟩ := Option.isSome_iff_exists.1 (hs k (by simp))
            have := ih (nameC f k 1) (fun q hq => by
              unfold nameC; rw [mfind_put]; split
              · rfl
              · exact hs q (by simp [hq]))
            have h2 : occ (nameC f k 1) j = occ f j := by
              unfold nameC
              exact occ_put_same (c0 := ck) (by rw [cget_of hck]) j hck
            exact this.trans h2
        exact this _ _ hks
      omega
    · have e1 := I.bal.held j c0 hc0
      omega
theorem mem_kidsL {lv : Int} {l : List Item} {j : Int} : j ∈ kidsL lv l ↔ 0 < lv ∧ ∃ x ∈ l, x.kid = j := by
  unfold kidsL
  split
  · rename_i h
    simp [h]
  · rename_i h
    simp [h]
theorem laids_loose {h : Nat} (h20 : h ≤ 20) {H : Int → Nat} : ∀ (ps : List (List Item)) (σ σ' : St) (ws : List Item) (L : Int → Prop), SavesR (h : Int) σ ps σ' (.ok ws) → (∀ p ∈ ps, IT h p ∧ 0 < p.length ∧ p.length ≤ 8 ∧ KidsAt σ h p) → Inv σ H →
    σ.cells.length + ps.length ≤ 4096 → NL σ.cells L → NL σ'.cells (fun j => (L j ∧ ∀ p ∈ ps, j ∉ kidsL (h : Int) p) ∨ ∃ x ∈ ws, x.kid = j)
  | [], σ, σ', ws, L, hs, _, I, _, hL => by
    obtain ⟨rfl, h2⟩ := hs
    exact hL.mono fun j hj => .inl ⟨hj, by simp⟩
  | p :: r, σ, σ', ws, L, hs, hp, I, hl, hL => by
    obtain ⟨σ1, x, h1, h2⟩ := hs
    cases x with
    | error c => exact absurd h2.2 (by simp)
    | ok x =>
      obtain ⟨o', h3, h4⟩ := h2
      cases o' with
      | error c => cases h4
      | ok xs =>
        simp only [Except.ok.injEq] at h4
        subst h4
        obtain ⟨hit, hp1, hp8, hka⟩ := hp p (by simp)
        simp only [List.length_cons] at hl
        have hn := hit.ni h20 hp1 hp8
        have n1 := save_loose I h1 hn hka (by omega) hL
        obtain ⟨I1, l1⟩ := inv_save I h1 hn hka (by omega)
        have n2 := laids_loose h20 r σ1 σ' xs _ h3 (fun q hq => by
          obtain ⟨a1, a2, a3, a4⟩ := hp q (by simp [hq])
          exact ⟨a1, a2, a3, a4.keeps h1.keeps⟩) I1 (by omega) n1
        refine n2.mono fun j hj => ?_
        rcases hj with ⟨⟨e1, e2⟩ | e1, e3⟩ | ⟨y, e1, e2⟩
        · exact .inl ⟨e1, fun q hq => by
            rcases List.mem_cons.1 hq with rfl | hq
            · exact e2
            · exact e3 q hq⟩
        · exact .inr ⟨x, by simp, e1.symm⟩
        · exact .inr ⟨y, by simp [e1], e2⟩
theorem laid_loose {h : Nat} {σ σ' : St} {l ws : List Item} {H : Int → Nat} {L : Int → Prop} (hl : LaidR σ (h : Int) l σ' (.ok ws)) (h20 : h ≤ 20) (t : IT h l) (hk : KidsAt σ h l) (h1 : 0 < l.length) (h16 : l.length ≤ 16) (I : Inv σ H) (hlen : σ.cells.length + 2 ≤ 4096) (hL : NL σ.cells L) :
    NL σ'.cells (fun j => (L j ∧ j ∉ kidsL (h : Int) l) ∨ ∃ x ∈ ws, x.kid = j) := by
  have hp : ∀ p ∈ partsOf l, IT h p ∧ 0 < p.length ∧ p.length ≤ 8 ∧ KidsAt σ h p := by
    intro p hp
    unfold partsOf at hp
    split at hp
    · simp only [List.mem_cons, List.not_mem_nil, or_false] at hp
      rcases hp with rfl | rfl
      · exact ⟨t.sub (List.take_sublist _ _), by rw [List.length_take]; omega, by rw [List.length_take]; omega, hk.sub fun x hx => List.mem_of_mem_take hx⟩
      · exact ⟨t.sub (List.drop_sublist _ _), by rw [List.length_drop]; omega, by rw [List.length_drop]; omega, hk.sub fun x hx => List.mem_of_mem_drop hx⟩
    · simp only [List.mem_singleton] at hp
      subst hp
      exact ⟨t, h1, by omega, hk⟩
  have hpl : (partsOf l).length ≤ 2 := by rcases partsOf_length l with e | e <;> omega
  refine (laids_loose h20 _ σ σ' ws L hl hp I (by omega) hL).mono fun j hj => hj.imp_left fun ⟨e1, e2⟩ => ⟨e1, fun hm => ?_⟩
  obtain ⟨h0, x, hx, rfl⟩ := mem_kidsL.1 hm
  rw [← partsOf_flat l] at hx
  obtain ⟨p, hp', hxp⟩ := List.mem_flatten.1 hx
  exact e2 p hp' (mem_kidsL.2 ⟨h0, x, hxp, rfl⟩)
theorem mem_swapL_w {l ws : List Item} {i j : Nat} {x : Item} (h : x ∈ ws) : x ∈ swapL l i j ws := by
  unfold swapL
  exact List.mem_append.2 (.inl (List.mem_append.2 (.inr h)))
theorem putR_loose {key val : ByteArray} (hk : rightK key) (hv : val.size ≤ 300) {H : Int → Nat} {L : Int → Prop} : ∀ (h : Nat) (σ : St) (nd : Node) (σ' : St) (ws : List Item) (E : List KV), PutR key val h σ nd σ' (.ok ws) → NI h nd → Cont σ h nd.items E → SortedE E →
    Inv σ H → σ.cells.length + 2 * (h + 1) ≤ 4096 → NL σ.cells L → NL σ'.cells (fun j => L j ∨ ∃ x ∈ ws, x.kid = j) := by
  intro h
  induction h with
  | zero =>
    intro σ nd σ' ws E hp hn hc hs I hlen hL
    obtain ⟨i, ok, hP, hl⟩ := hp
    have hc' : E = nd.items.map kv := hc
    obtain ⟨e1, e2⟩ := put_leaf (val := val) hn.sorted hP
    have hle : i ≤ (if ok then i + 1 else i) := by cases ok <;> simp
    have hlen2 := swapL_length (ws := [(⟨key, val, 0⟩ : Item)]) hle e2
    have h8 := hn.few
    have h1 := hn.pos
    simp only [List.length_singleton] at hlen2
    have hlt : (if ok then i + 1 else i) - i ≤ 1 := by cases ok <;> simp
    have hco : Cont σ 0 (swapL nd.items i (if ok then i + 1 else i) [⟨key, val, 0⟩]) (putE E key val) := by rw [hc', ← e1]; rfl
    have hmem : ∀ x ∈ swapL nd.items i (if ok then i + 1 else i) [(⟨key, val, 0⟩ : Item)], x ∈ nd.items ∨ x = ⟨key, val, 0⟩ := fun x hx => (mem_swapL hx).imp (fun h => h) (by simp)
    have hit : IT 0 (swapL nd.items i (if ok then i + 1 else i) [(⟨key, val, 0⟩ : Item)]) := by
      refine ⟨hco.sorted (putE_sorted hs key val), fun x hx => ?_, fun x hx => ?_, fun x hx => ?_⟩
      · rcases hmem x hx with h | rfl
        · exact hn.short x h
        · exact ⟨by have := hk.2; simp only; omega, hv⟩
      · rcases hmem x hx with h | rfl
        · exact hn.right x h
        · exact hk
      · rcases hmem x hx with h | rfl
        · exact hn.canon x h
        · rfl
    refine (laid_loose hl (by omega) hit trivial (by omega) (by omega) I (by omega) hL).mono fun j hj => hj.imp_left (·.1)
  | succ h ih =>
    intro σ nd σ' ws E hp hn hc hs I hlen hL
    obtain ⟨j, x, nk, σ1, o1, hW, hx, hN, hP, hR⟩ := hp
    obtain ⟨x', EA, EX, EB, hx', hjl, rfl, cA, cX, cB, hA, hB⟩ := way_split hc hs hW hn.pos
    rw [hx] at hx'
    obtain rfl := Option.some.inj hx'
    obtain ⟨Xs, rfl, hXs⟩ := cX
    obtain ⟨e, nk', rfl, r1, r4, rc⟩ := HeldM.one hXs
    obtain rfl := NodeAt.unique hN r1.node
    simp only [List.flatten_cons, List.flatten_nil, List.append_nil] at *
    have hsX : SortedE e := (List.pairwise_append.1 (List.pairwise_append.1 hs).1).2.1
    obtain ⟨k1, he1, hw1, n1, hn1, hs1, hf1⟩ := putR_main hk hv h σ nk σ1 o1 e hP r1.ni rc hsX (by rw [I.n]; omega) 4 (Nat.le_refl _) r4
    cases o1 with
    | error c => exact absurd hR.2 (by simp)
    | ok ws1 =>
      simp only at hR
      obtain ⟨hl2, Es, hH, hE⟩ := hw1 ws1 rfl
      rw [ite_self] at hH
      obtain ⟨I1, l1⟩ := inv_saves hs1 I (by omega)
      have nl1 := ih σ nk σ1 ws1 e hP r1.ni rc hsX I (by omega) hL
      have hco : Cont σ1 (h + 1) (swapL nd.items j (j + 1) ws1) (putE (EA ++ e ++ EB) key val) := by
        rw [putE_mid hA hB, ← hE]
        exact ((cA.keeps k1).append ⟨Es, rfl, hH⟩).append (cB.keeps k1)
      have hlen2 := swapL_length (l := nd.items) (ws := ws1) (show j ≤ j + 1 by omega) (by omega)
      have h8 := hn.few
      have h20 := hn.high
      refine (laid_loose hR h20 (hn.it.swap hH hco (putE_sorted hs key val)) hco.kids (by omega) (by omega) I1 (by omega) nl1).mono fun q hq => ?_
      rcases hq with ⟨e1 | ⟨y, e1, e2⟩, e3⟩ | e1
      · exact .inl e1
      · exact absurd (mem_kidsL.2 ⟨by omega, y, mem_swapL_w e1, e2⟩) e3
      · exact .inr e1
theorem putN_loose {key val : ByteArray} (hk : rightK key) (hv : val.size ≤ 300) {h : Nat} {σ σ' : St} {items : List Item} {root r : Int} {E : List KV} {H : Int → Nat} {L : Int → Prop} (hp : PutN key val h σ ⟨(h : Int), items⟩ σ' (.ok r)) (t : TreeN σ h items root E) (I : Inv σ H) (hlen : σ.cells.length + (2 * h + 3) ≤ 4096) (hL : NL σ.cells L) :
    NL σ'.cells (fun j => L j ∨ j = r) := by
  obtain ⟨σ1, o1, hP, hp⟩ := hp
  rcases hp with ⟨c, rfl, rfl, h3⟩ | ⟨x, rfl, rfl, h3⟩ | ⟨x, y, rfl, hp⟩
  · cases h3
  · cases h3
    refine (putR_loose hk hv h σ _ _ _ E hP t.ni t.cont t.sorted I (by omega) hL).mono fun j hj => hj.imp_right fun ⟨z, hz, e⟩ => ?_
    rw [List.mem_singleton.1 hz] at e
    exact e.symm
  · obtain ⟨k1, _, hw1, n1, hn1, hs1, hf1⟩ := putR_main hk hv h σ _ σ1 _ E hP t.ni t.cont t.sorted (by rw [I.n]; omega) 1 (by omega) t.ni.pos
    obtain ⟨_, Es, hH, hEs⟩ := hw1 _ rfl
    simp only [List.length_cons, List.length_nil, if_true] at hH
    have nl1 := putR_loose hk hv h σ _ _ _ E hP t.ni t.cont t.sorted I (by omega) hL
    obtain ⟨I1, l1⟩ := inv_saves hs1 I (by omega)
    rcases hp with ⟨h20, _, h3⟩ | ⟨h20, o2, hs2, hp⟩
    · cases h3
    · rcases hp with ⟨c, _, h3⟩ | ⟨z, rfl, h3⟩
      · cases h3
      · cases h3
        have hsE := putE_sorted t.sorted key val
        have hc2 : Cont σ1 (h + 1) [x, y] (putE E key val) := ⟨Es, hEs.symm, hH⟩
        have hh := t.ni.high
        have hr : ∀ x' ∈ [x, y], ∃ nk, RootAt σ1 h x' nk := fun x' hx => by
          obtain ⟨e, _, nk, h1, _⟩ := All2.mem hH x' hx
          exact ⟨nk, h1⟩
        have hn : NI (h + 1) ⟨((h + 1 : Nat) : Int), [x, y]⟩ := ⟨rfl, by omega, by simp, by simp, hc2.sorted hsE, fun x' hx => by obtain ⟨nk, h1⟩ := hr x' hx; exact h1.item.1, fun x' hx => by obtain ⟨nk, h1⟩ := hr x' hx; exact h1.item.2, fun x' hx => by
          obtain ⟨nk, h1⟩ := hr x' hx
          rw [if_neg (by omega)]; exact h1.val⟩
        have hs2' : SaveR σ1 ⟨((h + 1 : Nat) : Int), [x, y]⟩ σ' (.ok z) := hs2
        refine (save_loose I1 hs2' hn hc2.kids (by omega) nl1).mono fun j hj => ?_
        rcases hj with ⟨e1 | ⟨y', e1, e2⟩, e3⟩ | e1
        · exact .inl e1
        · exact absurd (mem_kidsL.2 ⟨by show 0 < ((h + 1 : Nat) : Int); omega, y', e1, e2⟩) e3
        · exact .inr e1
theorem put0_loose {key val : ByteArray} (hk : rightK key) (hv : val.size ≤ 300) {σ σ' : St} {r : Int} {H : Int → Nat} {L : Int → Prop} (I : Inv σ H) (hlen : σ.cells.length + 1 ≤ 4096) (hL : NL σ.cells L)
    (hp : ∃ o2, SaveR σ ⟨0, [⟨key, val, 0⟩]⟩ σ' o2 ∧ ((∃ c, o2 = .error c ∧ (.ok r : Except Int Int) = .error c) ∨ ∃ z, o2 = .ok z ∧ (.ok r : Except Int Int) = .ok z.kid)) : NL σ'.cells (fun j => L j ∨ j = r) := by
  obtain ⟨o2, hs, hp⟩ := hp
  rcases hp with ⟨c, rfl, h3⟩ | ⟨z, rfl, h3⟩
  · cases h3
  · cases h3
    have hn : NI 0 ⟨((0 : Nat) : Int), [⟨key, val, 0⟩]⟩ := ⟨rfl, by omega, by simp, by simp, by simp [SortedI], fun x hx => by rw [List.mem_singleton.1 hx]; exact ⟨by have := hk.2; simp only; omega, hv⟩, fun x hx => by rw [List.mem_singleton.1 hx]; exact hk, fun x hx => by rw [List.mem_singleton.1 hx]; rfl⟩
    exact (save_loose I hs hn trivial (by omega) hL).mono fun j hj => hj.imp_left (·.1)

theorem cutR_loose {key : ByteArray} {H : Int → Nat} {L : Int → Prop} : ∀ (h : Nat) (σ : St) (nd : Node) (σ' : St) (l : List Item) (E : List KV), CutR key h σ nd σ' (.ok (some l)) → NI h nd → Cont σ h nd.items E → SortedE E →
    Inv σ H → (h = 0 ∨ 2 ≤ nd.items.length) → σ.cells.length + 2 * (h + 1) ≤ 4096 → NL σ.cells L → NL σ'.cells (fun j => L j ∨ (0 < h ∧ ∃ x ∈ l, x.kid = j)) := by
  intro h
  induction h with
  | zero =>
    intro σ nd σ' l E hp hn hc hs I _ hlen hL
    obtain ⟨rfl, _⟩ := hp
    exact hL.mono fun j hj => .inl hj
  | succ h ih =>
    intro σ nd σ' l0 E hp hn hc hs I h2 hlen hL
    obtain ⟨j, x, nk, σ1, o1, hW, hx, hN, hP, hR⟩ := hp
    obtain ⟨x', EA, EX, EB, hx', hjl, rfl, cA, cX, cB, hA, hB⟩ := way_split hc hs hW hn.pos
    rw [hx] at hx'
    obtain rfl := Option.some.inj hx'
    obtain ⟨Xs, rfl, hXs⟩ := cX
    obtain ⟨e, nk', rfl, r1, r4, rc⟩ := HeldM.one hXs
    obtain rfl := NodeAt.unique hN r1.node
    simp only [List.flatten_cons, List.flatten_nil, List.append_nil] at *
    have hsX : SortedE e := (List.pairwise_append.1 (List.pairwise_append.1 hs).1).2.1
    obtain ⟨k1, he1, hno1, hw1, n1, hn1, hs1, hf1⟩ := cutR_main h σ nk σ1 o1 e hP r1.ni rc hsX (by rw [I.n]; omega) (.inr (by omega))
    rcases hR with ⟨c, _, _, h3⟩ | ⟨_, _, h3⟩ | ⟨l, l', p, q, rfl, hJ, o2, hL2, hR⟩
    · cases h3
    · cases h3
    · rcases hR with ⟨c, _, h3⟩ | ⟨ws, rfl, h3⟩
      · cases h3
      · simp only [Except.ok.injEq, Option.some.injEq] at h3
        subst h3
        obtain ⟨cl, itl, l3, l8⟩ := hw1 l rfl
        have hkf := r1.ni.few
        have hni : NI (h + 1) ⟨((h + 1 : Nat) : Int), nd.items⟩ := ⟨rfl, hn.high, hn.pos, hn.few, hn.sorted, hn.short, hn.right, hn.canon⟩
        have hF := join_facts k1 hni (by omega) hjl cA cB hA hB hs cl itl (by omega) (by omega) hJ
        obtain ⟨I1, l1⟩ := inv_saves hs1 I (by omega)
        have nl1 := ih σ nk σ1 l e hP r1.ni rc hsX I (.inr (by omega)) (by omega) hL
        obtain ⟨EL, EM, ER, _, cM, _, _⟩ := hF.parts
        have f4 := hF.four
        have hsub : ∀ z ∈ l, z ∈ l' := by
          intro z hz
          rcases hJ with ⟨_, rfl, _⟩ | ⟨_, _, y, ny, _, _, rfl, _⟩ | ⟨_, _, y, ny, _, _, rfl, _⟩
          · exact hz
          · exact List.mem_append.2 (.inl hz)
          · exact List.mem_append.2 (.inr hz)
        refine (laid_loose hL2 (by have := hn.high; omega) hF.it cM.kids (by omega) hF.few I1 (by omega) nl1).mono fun t ht => ?_
        rcases ht with ⟨e1 | ⟨h0, y, e1, e2⟩, e3⟩ | ⟨y, e1, e2⟩
        · exact .inl e1
        · exact absurd (mem_kidsL.2 ⟨by omega, y, hsub y e1, e2⟩) e3
        · exact .inr ⟨by omega, y, mem_swapL_w e1, e2⟩
theorem delN_loose {key : ByteArray} {h : Nat} {σ σ' : St} {items : List Item} {root r : Int} {E : List KV} {H : Int → Nat} {L : Int → Prop} (hp : DelN key h σ items root σ' (.ok r)) (t : TreeN σ h items root E) (I : Inv σ H) (hlen : σ.cells.length + (2 * h + 3) ≤ 4096) (hL : NL σ.cells L) :
    NL σ'.cells (fun j => L j ∨ j = r) := by
  obtain ⟨σ1, o1, hP, hp⟩ := hp
  obtain ⟨k1, he1, hno, hw1, n1, hn1, hs1, hf1⟩ := cutR_main h σ _ σ1 o1 E hP t.ni t.cont t.sorted (by rw [I.n]; omega) t.two
  rcases hp with ⟨_, _, h3⟩ | ⟨rfl, rfl, h3⟩ | ⟨l, rfl, hp⟩
  · cases h3
  · cases h3
    obtain ⟨e1, _⟩ := hno rfl
    rw [e1]
    exact hL.mono fun j hj => .inl hj
  · have nl1 := cutR_loose h σ _ σ1 l E hP t.ni t.cont t.sorted I t.two (by omega) hL
    obtain ⟨hcl, hitl, hl3, hl8⟩ := hw1 l rfl
    have h8 := t.ni.few
    have h20 := t.ni.high
    simp only at hl3 hl8 h8
    rcases hp with ⟨h0, rfl, h3⟩ | ⟨x, rfl, hpos, rfl, h3⟩ | ⟨h0, h1, o2, hs2, hp⟩
    · cases h3
      have : l = [] := List.eq_nil_of_length_eq_zero h0
      subst this
      exact nl1.mono fun j hj => hj.imp_right fun ⟨_, x, hx, _⟩ => by simp at hx
    · cases h3
      exact nl1.mono fun j hj => hj.imp_right fun ⟨_, y, hy, e⟩ => by rw [List.mem_singleton.1 hy] at e; exact e.symm
    · rcases hp with ⟨c, _, h3⟩ | ⟨z, rfl, h3⟩
      · cases h3
      · cases h3
        obtain ⟨I1, l1⟩ := inv_saves hs1 I (by omega)
        have hn : NI h ⟨(h : Int), l⟩ := hitl.ni h20 (by omega) (by omega)
        refine (save_loose I1 hs2 hn hcl.kids (by omega) nl1).mono fun j hj => ?_
        rcases hj with ⟨e1 | ⟨hp0, y, e1, e2⟩, e3⟩ | e1
        · exact .inl e1
        · exact absurd (mem_kidsL.2 ⟨by show 0 < (h : Int); omega, y, e1, e2⟩) e3
        · exact .inr e1
end Go.Proofs.YtbajgpadmlnffaaGreat
