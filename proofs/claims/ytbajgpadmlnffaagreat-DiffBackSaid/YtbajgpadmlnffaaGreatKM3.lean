/-
  A part of the proofs of this seat (StG, Iter, Form, Fresh, Node, Load, Cat, Save): lemmas on which the last text leans. No condition.
-/
import Derived.Maps.RangeRun
import Derived.Lib.AppendZerosOnto
import Derived.Test.YtbajgpadmlnffaaGreatKM2
/- A store: the walks of Get, Hold, Drop. -/
namespace Go.Proofs.YtbajgpadmlnffaaGreat
open Go.V
set_option maxRecDepth 100000
set_option linter.unusedVariables false
set_option linter.unusedSimpArgs false

/-- What the device holds in a block. -/
def devAt (σ : St) (i : Int) : ByteArray := ((σ.dev.dirty i).or (σ.dev.kept i)).getD ⟨#[]⟩

theorem st_read (w : World) (a : SAd) (σ : St) (hS : StAt w a σ) (hA : Alive σ) (id : Int) (hi0 : 0 ≤ id) (hin : id < σ.dev.n) (hds : (devAt σ id).size ≤ 1099511627776) :
    Ret Tryz.prog 108 [Pt a.s 0, I id] w fun v w' => ∃ A m cap t e, v = .tuple #[.agg #[.slice A m cap, S t], I e] ∧ StAt w' a σ ∧ Ext No w w' ∧ (match blkOf σ.dev.n (devAt σ id) with | some p => e = 0 ∧ m = p.1.length ∧ t = bs p.2 ∧ Own kInt w' w.heap.size A cap p.1 | none => e = 5) := by
  have lS := hS.bs.lt
  have lMc := hS.mc.lt
  have lMk := hS.mkt.lt
  have hhi := hS.hi
  have nSC : a.s ≠ a.mc := fun e => MapAt.ne hS.mc hS.bs e.symm
  have nKC : a.mkk ≠ a.mc := fun e => hS.cmk e.symm
  refine calls_of_XCr [.cell 4 147, .tmp 5] Tryz.func108 rfl rfl rfl ?_
  refine .seq ?_
  refine .region ?_
  refine xo.alloc 0 147 [.slice none 0 0, S (⟨#[]⟩)] (by kernel_rfl) (by kernel_rfl) ?_
  intro b1 w2 hb3 hx4 hg5
  have z2 := hx4.size
  have l3 := hb3.lt
  refine xo.done 1 [(0, Pt a.s 0), (1, I id), (4, Pt b1 0)] (by kernel_rfl) rfl (by kernel_rfl) ?_
  refine .seq ?_
  refine .region ?_
  have hb6 := (hS.bs.ext hx4 (fun h => h))
  refine xo.val 3 (by kernel_rfl) (ldB (t := 53) (o := 3) (by kernel_rfl) hb6 rfl) ?_
  have hf7 := (hS.no hx4)
  refine xo.ret 1 (by kernel_rfl) (cf122 _ _) (dev_read _ a.d σ.dev hf7.dv hA.burns hA.off hA.n8 id (by omega) (by omega)) ?_
  rintro _ _ ⟨rfl, rfl⟩
  refine xo.done 5 [(0, Pt a.s 0), (4, Pt b1 0), (6, S (devAt σ id)), (7, I 0)] (by kernel_rfl) rfl (by kernel_rfl) ?_
  refine .seq ?_
  refine .seq ?_
  refine .region ?_
  refine xo.done 2 [(0, Pt a.s 0), (4, Pt b1 0), (6, S (devAt σ id)), (7, I 0), (20, B false)] (by kernel_rfl) rfl (by kernel_rfl) ?_
  refine .condF rfl rfl ?_
  refine .skip ?_
  refine .seq ?_
  refine .region ?_
  refine xo.val 4 (by kernel_rfl) (ldB (t := 53) (o := 3) (by kernel_rfl) hb6 rfl) ?_
  refine xo.ret 0 (by kernel_rfl) (cf58 _ _) (dev_size _ a.d σ.dev hf7.dv) ?_
  rintro _ _ ⟨rfl, rfl⟩
  rcases hb13 : blkOf σ.dev.n (devAt σ id) with _ | p
  · refine xo.ret 0 (by kernel_rfl) (cf123 _ _) ((store_get _ (devAt σ id) σ.dev.n hds).mono (Q' := fun v w' => ∃ A m cap t, v = .tuple #[.agg #[.slice A m cap, S t], B false] ∧ Ext No _ w' ∧ ∀ p, blkOf σ.dev.n (devAt σ id) = some p → m = p.1.length ∧ t = bs p.2 ∧ Own kInt w' _ A cap p.1) fun v w' ⟨A, m, cap, t, q1, q2, q3⟩ => ⟨A, m, cap, t, by rw [q1, hb13]; rfl, q2, q3⟩) ?_
    rintro _ w14 ⟨A8, m9, c10, t11, rfl, hx15, hp12⟩
    have z14 := hx15.size
    refine xo.alloc 3 147 [.slice none 0 0, S (⟨#[]⟩)] (by kernel_rfl) (by kernel_rfl) ?_
    intro b16 w17 hb18 hx19 hg20
    have z17 := hx19.size
    have l18 := hb18.lt
    refine xo.store 0 147 (o := 0) (.agg #[.slice A8 m9 c10, S t11]) [.slice A8 m9 c10, S t11] (by kernel_rfl) hb18 (by kernel_rfl) (by kernel_rfl) (by kernel_rfl) (by kernel_rfl) ?_
    intro w21 hb22 hx23
    have z21 := hx23.size
    refine xo.done 1 [(4, Pt b1 0), (8, Pt b16 0), (9, B false)] (by kernel_rfl) rfl (by kernel_rfl) ?_
    refine .seq ?_
    refine .seq ?_
    refine .region ?_
    refine xo.done 2 [(4, Pt b1 0), (8, Pt b16 0), (34, B true)] (by kernel_rfl) rfl (by kernel_rfl) ?_
    refine .condT rfl rfl ?_
    refine .seq ?_
    refine .region ?_
    have hb24 := (((hb3.ext hx15 (fun h => h)).ext hx19 (fun h => h)).ext hx23 (show b1 ≠ b16 by omega))
    refine xo.store 1 147 (o := 0) (.agg #[.slice none 0 0, S (⟨#[]⟩)]) [.slice none 0 0, S (⟨#[]⟩)] (by kernel_rfl) hb24 (by kernel_rfl) (by kernel_rfl) (by kernel_rfl) (by kernel_rfl) ?_
    intro w25 hb26 hx27
    have z25 := hx27.size
    refine xo.done 1 [(4, Pt b1 0), (5, I 5)] (by kernel_rfl) rfl (by kernel_rfl) ?_
    refine .ret ?_
    refine ⟨[.agg #[.slice none 0 0, S (⟨#[]⟩)], I 5], ⟨⟨⟨b1, 0, none⟩, by kernel_rfl, lvA (by kernel_rfl) hb26⟩, by kernel_rfl, trivial⟩, _, rfl, ?_⟩
    have hf28 := ((((hf7.no hx15).no hx19).ext hx23 (fun b h1 h2 (e : b = b16) => by omega) (MapAt.ne ((hf7.no hx15).no hx19).mkt hb18) (fun b cs hb (e : b = b16) => Blk.ne hb hb18 rfl e)).ext hx27 (fun b h1 h2 (e : b = b1) => by omega) (MapAt.ne (((hf7.no hx15).no hx19).ext hx23 (fun b h1 h2 (e : b = b16) => by omega) (MapAt.ne ((hf7.no hx15).no hx19).mkt hb18) (fun b cs hb (e : b = b16) => Blk.ne hb hb18 rfl e)).mkt hb24) (fun b cs hb (e : b = b1) => Blk.ne hb hb24 rfl e))
    exact ⟨_, _, _, _, _, rfl, hf28, ((((hx4.trans' hx15 (fun _ _ h => h) (fun b hb h => h)).trans' hx19 (fun _ _ h => h) (fun b hb h => h)).trans' hx23 (fun _ _ h => h) (fun b hb (e : b = b16) => absurd hb (by omega))).trans' hx27 (fun _ _ h => h) (fun b hb (e : b = b1) => absurd hb (by omega))), rfl⟩
  · refine xo.ret 0 (by kernel_rfl) (cf123 _ _) ((store_get _ (devAt σ id) σ.dev.n hds).mono (Q' := fun v w' => ∃ A m cap t, v = .tuple #[.agg #[.slice A m cap, S t], B true] ∧ Ext No _ w' ∧ ∀ p, blkOf σ.dev.n (devAt σ id) = some p → m = p.1.length ∧ t = bs p.2 ∧ Own kInt w' _ A cap p.1) fun v w' ⟨A, m, cap, t, q1, q2, q3⟩ => ⟨A, m, cap, t, by rw [q1, hb13]; rfl, q2, q3⟩) ?_
    rintro _ w29 ⟨A8, m9, c10, t11, rfl, hx30, hp12⟩
    have z29 := hx30.size
    refine xo.alloc 3 147 [.slice none 0 0, S (⟨#[]⟩)] (by kernel_rfl) (by kernel_rfl) ?_
    intro b31 w32 hb33 hx34 hg35
    have z32 := hx34.size
    have l33 := hb33.lt
    refine xo.store 0 147 (o := 0) (.agg #[.slice A8 m9 c10, S t11]) [.slice A8 m9 c10, S t11] (by kernel_rfl) hb33 (by kernel_rfl) (by kernel_rfl) (by kernel_rfl) (by kernel_rfl) ?_
    intro w36 hb37 hx38
    have z36 := hx38.size
    refine xo.done 1 [(4, Pt b1 0), (8, Pt b31 0), (9, B true)] (by kernel_rfl) rfl (by kernel_rfl) ?_
    refine .seq ?_
    refine .seq ?_
    refine .region ?_
    refine xo.done 2 [(4, Pt b1 0), (8, Pt b31 0), (34, B false)] (by kernel_rfl) rfl (by kernel_rfl) ?_
    refine .condF rfl rfl ?_
    refine .skip ?_
    refine .seq ?_
    refine .region ?_
    refine xo.val 0 (by kernel_rfl) (ldBA (t := 147) (o := 0) (vs := [.slice A8 m9 c10, S t11]) (by kernel_rfl) hb37 rfl) ?_
    have hb39 := (((hb3.ext hx30 (fun h => h)).ext hx34 (fun h => h)).ext hx38 (show b1 ≠ b31 by omega))
    refine xo.store 0 147 (o := 0) (.agg #[.slice A8 m9 c10, S t11]) [.slice A8 m9 c10, S t11] (by kernel_rfl) hb39 (by kernel_rfl) (by kernel_rfl) (by kernel_rfl) (by kernel_rfl) ?_
    intro w40 hb41 hx42
    have z40 := hx42.size
    refine xo.done 1 [(4, Pt b1 0), (5, I 0)] (by kernel_rfl) rfl (by kernel_rfl) ?_
    refine .ret ?_
    refine ⟨[.agg #[.slice A8 m9 c10, S t11], I 0], ⟨⟨⟨b1, 0, none⟩, by kernel_rfl, lvA (by kernel_rfl) hb41⟩, by kernel_rfl, trivial⟩, _, rfl, ?_⟩
    have hf43 := ((((hf7.no hx30).no hx34).ext hx38 (fun b h1 h2 (e : b = b31) => by omega) (MapAt.ne ((hf7.no hx30).no hx34).mkt hb33) (fun b cs hb (e : b = b31) => Blk.ne hb hb33 rfl e)).ext hx42 (fun b h1 h2 (e : b = b1) => by omega) (MapAt.ne (((hf7.no hx30).no hx34).ext hx38 (fun b h1 h2 (e : b = b31) => by omega) (MapAt.ne ((hf7.no hx30).no hx34).mkt hb33) (fun b cs hb (e : b = b31) => Blk.ne hb hb33 rfl e)).mkt hb39) (fun b cs hb (e : b = b1) => Blk.ne hb hb39 rfl e))
    obtain ⟨q1, q2, q3⟩ := hp12 p hb13
    exact ⟨_, _, _, _, _, rfl, hf43, ((((hx4.trans' hx30 (fun _ _ h => h) (fun b hb h => h)).trans' hx34 (fun _ _ h => h) (fun b hb h => h)).trans' hx38 (fun _ _ h => h) (fun b hb (e : b = b31) => absurd hb (by omega))).trans' hx42 (fun _ _ h => h) (fun b hb (e : b = b1) => absurd hb (by omega))), ⟨rfl, q1, q2, (((q3.ext hx34 (fun _ _ h => h)).ext hx38 (fun b hb (e : b = b31) => (q3.ext hx34 (fun _ _ h => h)).ne hb33 rfl (e ▸ hb))).ext hx42 (fun b hb (e : b = b1) => ((q3.ext hx34 (fun _ _ h => h)).ext hx38 (fun b hb (e : b = b31) => (q3.ext hx34 (fun _ _ h => h)).ne hb33 rfl (e ▸ hb))).ne hb39 rfl (e ▸ hb))).base_le (by omega)⟩⟩

theorem st_read_ok (w : World) (a : SAd) (σ : St) (hS : StAt w a σ) (hA : Alive σ) (id : Int) (hi0 : 0 ≤ id) (hin : id < σ.dev.n) (hds : (devAt σ id).size ≤ 1099511627776) (p : List Int × List UInt8) (hp : blkOf σ.dev.n (devAt σ id) = some p) :
    Ret Tryz.prog 108 [Pt a.s 0, I id] w fun v w' => ∃ A cap, v = .tuple #[.agg #[.slice A p.1.length cap, S (bs p.2)], I 0] ∧ StAt w' a σ ∧ Ext No w w' ∧ Own kInt w' w.heap.size A cap p.1 :=
  (st_read w a σ hS hA id hi0 hin hds).mono fun v w' ⟨A, m, cap, t, e, h1, h2, h3, h4⟩ => by
    rw [hp] at h4
    obtain ⟨rfl, rfl, rfl, h5⟩ := h4
    exact ⟨A, cap, h1, h2, h3, h5⟩

theorem st_get (w : World) (a : SAd) (σ : St) (hS : StAt w a σ) (hA : Alive σ) (id : Int) (hi0 : 0 ≤ id) (hin : id < σ.dev.n) (hds : (devAt σ id).size ≤ 1099511627776) (p : List Int × List UInt8) (hp : blkOf σ.dev.n (devAt σ id) = some p) (c : Cl) (hc : mfind σ.cells id = some c) :
    Ret Tryz.prog 91 [Pt a.s 0, I id] w fun v w' => ∃ A cap, v = .tuple #[.agg #[.slice A p.1.length cap, S (bs p.2)], I 0] ∧ StAt w' a σ ∧ Ext No w w' ∧ Own kInt w' w.heap.size A cap p.1 := by
  have lS := hS.bs.lt
  have lMc := hS.mc.lt
  have lMk := hS.mkt.lt
  have hhi := hS.hi
  have nSC : a.s ≠ a.mc := fun e => MapAt.ne hS.mc hS.bs e.symm
  have nKC : a.mkk ≠ a.mc := fun e => hS.cmk e.symm
  refine calls_of_XCr [.cell 4 147, .tmp 5] Tryz.func91 rfl rfl rfl ?_
  refine .seq ?_
  refine .region ?_
  refine xo.alloc 0 147 [.slice none 0 0, S (⟨#[]⟩)] (by kernel_rfl) (by kernel_rfl) ?_
  intro b1 w2 hb3 hx4 hg5
  have z2 := hx4.size
  have l3 := hb3.lt
  refine xo.done 1 [(0, Pt a.s 0), (1, I id), (4, Pt b1 0)] (by kernel_rfl) rfl (by kernel_rfl) ?_
  refine .seq ?_
  refine .block ?_
  refine .seq ?_
  refine .region ?_
  have hf6 := (hS.no hx4)
  refine xo.ret 1 (by kernel_rfl) (cf57 _ _) (st_dead _ a σ hf6) ?_
  rintro _ _ ⟨rfl, rfl⟩
  refine xo.done 1 [(0, Pt a.s 0), (1, I id), (4, Pt b1 0), (6, B false)] (by kernel_rfl) rfl (by kernel_rfl) ?_
  refine .condF rfl rfl ?_
  refine .seq ?_
  refine .region ?_
  refine xo.ret 2 (by kernel_rfl) (cf59 _ _) (st_has_some _ a σ hf6 id c hc) ?_
  rintro _ w9 ⟨rfl, hx10⟩
  have z9 := hx10.size
  refine xo.done 2 [(0, Pt a.s 0), (1, I id), (4, Pt b1 0), (10, B false)] (by kernel_rfl) rfl (by kernel_rfl) ?_
  refine .condF rfl rfl ?_
  refine .skip ?_
  refine .seq ?_
  refine .region ?_
  have hf15 := (hf6.no hx10)
  refine xo.ret 2 (by kernel_rfl) (cf108 _ _) (st_read_ok _ a σ hf15 hA id hi0 hin hds p hp) ?_
  rintro _ w16 ⟨A11, c12, rfl, hS13, hx17, ho14⟩
  have z16 := hx17.size
  have hb18 := ((hb3.ext hx10 (fun h => h)).ext hx17 (fun h => h))
  refine xo.store 2 147 (o := 0) (.agg #[.slice A11 p.1.length c12, S (bs p.2)]) [.slice A11 p.1.length c12, S (bs p.2)] (by kernel_rfl) hb18 (by kernel_rfl) (by kernel_rfl) (by kernel_rfl) (by kernel_rfl) ?_
  intro w19 hb20 hx21
  have z19 := hx21.size
  refine xo.done 1 [(4, Pt b1 0), (5, I 0)] (by kernel_rfl) rfl (by kernel_rfl) ?_
  refine .ret ?_
  refine ⟨[.agg #[.slice A11 p.1.length c12, S (bs p.2)], I 0], ⟨⟨⟨b1, 0, none⟩, by kernel_rfl, lvA (by kernel_rfl) hb20⟩, by kernel_rfl, trivial⟩, _, rfl, ?_⟩
  have hf22 := (hS13.ext hx21 (fun b h1 h2 (e : b = b1) => by omega) (MapAt.ne hS13.mkt hb18) (fun b cs hb (e : b = b1) => Blk.ne hb hb18 rfl e))
  have hs23 := (ho14.ext hx21 (fun b hb (e : b = b1) => ho14.ne hb18 rfl (e ▸ hb)))
  exact ⟨_, _, rfl, hf22, (((hx4.trans' hx10 (fun _ _ h => h) (fun b hb h => h)).trans' hx17 (fun _ _ h => h) (fun b hb h => h)).trans' hx21 (fun _ _ h => h) (fun b hb (e : b = b1) => absurd hb (by omega))), hs23.base_le (by omega)⟩

theorem st_Hold (w : World) (a : SAd) (σ : St) (hS : StAt w a σ) (id : Int) (c : Cl) (hc : mfind σ.cells id = some c) :
    Ret Tryz.prog 34 [Pt a.s 0, I id] w fun v w' => v = I 0 ∧ StAt w' a { σ with cells := holdC σ.cells id 1 } ∧ Ext a.fpp w w' := by
  have lS := hS.bs.lt
  have lMc := hS.mc.lt
  have lMk := hS.mkt.lt
  have hhi := hS.hi
  have nSC : a.s ≠ a.mc := fun e => MapAt.ne hS.mc hS.bs e.symm
  have nKC : a.mkk ≠ a.mc := fun e => hS.cmk e.symm
  refine calls_of_XC Tryz.func34 rfl rfl ?_
  refine .seq ?_
  refine .region ?_
  refine xo.done 1 [(0, Pt a.s 0), (1, I id)] (by kernel_rfl) rfl (by kernel_rfl) ?_
  refine .seq ?_
  refine .block ?_
  refine .seq ?_
  refine .region ?_
  refine xo.ret 1 (by kernel_rfl) (cf57 _ _) (st_dead _ a σ hS) ?_
  rintro _ _ ⟨rfl, rfl⟩
  refine xo.done 1 [(0, Pt a.s 0), (1, I id), (5, B false)] (by kernel_rfl) rfl (by kernel_rfl) ?_
  refine .condF rfl rfl ?_
  refine .seq ?_
  refine .region ?_
  refine xo.ret 2 (by kernel_rfl) (cf59 _ _) (st_has_some _ a σ hS id c hc) ?_
  rintro _ w3 ⟨rfl, hx4⟩
  have z3 := hx4.size
  refine xo.done 2 [(0, Pt a.s 0), (1, I id), (8, B false)] (by kernel_rfl) rfl (by kernel_rfl) ?_
  refine .condF rfl rfl ?_
  refine .skip ?_
  refine .seq ?_
  refine .region ?_
  have hf6 := (hS.no hx4)
  refine xo.ret 2 (by kernel_rfl) (cf63 _ _) (st_hold _ a σ hf6 id 1) ?_
  rintro _ w7 ⟨hS5, hx8⟩
  have z7 := hx8.size
  refine xo.done 0 [] (by kernel_rfl) rfl (by kernel_rfl) ?_
  refine .seq ?_
  refine .region ?_
  refine xo.done 1 [(4, I 0)] (by kernel_rfl) rfl (by kernel_rfl) ?_
  refine .ret ?_
  refine ⟨[I 0], by kernel_rfl, _, rfl, ?_⟩
  exact ⟨rfl, hS5, ((hx4.weak fun b hb h => h.elim).trans' hx8 (fun _ _ h => h) (fun b hb q => .inl q))⟩

theorem st_Drop (w : World) (a : SAd) (σ : St) (hS : StAt w a σ) (id : Int) (c : Cl) (hc : mfind σ.cells id = some c) (hh : 1 ≤ c.held) (hG : Good σ.cells) (hH : highC σ.cells id ≤ 65) :
    Ret Tryz.prog 31 [Pt a.s 0, I id] w fun v w' => v = I 0 ∧ StAt w' a { σ with cells := goneC 66 (holdC σ.cells id (-1)) id } ∧ Ext a.fpp w w' := by
  have lS := hS.bs.lt
  have lMc := hS.mc.lt
  have lMk := hS.mkt.lt
  have hhi := hS.hi
  have nSC : a.s ≠ a.mc := fun e => MapAt.ne hS.mc hS.bs e.symm
  have nKC : a.mkk ≠ a.mc := fun e => hS.cmk e.symm
  have hgood := shr_hold hG id (-1)
  refine calls_of_XC Tryz.func31 rfl rfl ?_
  refine .seq ?_
  refine .region ?_
  refine xo.done 1 [(0, Pt a.s 0), (1, I id)] (by kernel_rfl) rfl (by kernel_rfl) ?_
  refine .seq ?_
  refine .block ?_
  refine .seq ?_
  refine .region ?_
  refine xo.ret 1 (by kernel_rfl) (cf57 _ _) (st_dead _ a σ hS) ?_
  rintro _ _ ⟨rfl, rfl⟩
  refine xo.done 1 [(0, Pt a.s 0), (1, I id), (5, B false)] (by kernel_rfl) rfl (by kernel_rfl) ?_
  refine .condF rfl rfl ?_
  refine .seq ?_
  refine .region ?_
  refine xo.val 3 (by kernel_rfl) (ldB (t := 96) (o := 4) (by kernel_rfl) hS.bs rfl) ?_
  refine xo.val 1 (by kernel_rfl) (lk_some (t := 96) (z := .agg #[I 0, I 0, I 0, .slice none 0 0]) (by kernel_rfl) hS.mc hc false) ?_
  refine xo.val 1 (by kernel_rfl) (c_lss_f (show ¬ ((c.held : Int) < 1) from (by omega))) ?_
  refine xo.done 1 [(0, Pt a.s 0), (1, I id), (8, B false)] (by kernel_rfl) rfl (by kernel_rfl) ?_
  refine .condF rfl rfl ?_
  refine .skip ?_
  refine .seq ?_
  refine .region ?_
  refine xo.ret 2 (by kernel_rfl) (cf63 _ _) (st_hold _ a σ hS id (-1)) ?_
  rintro _ w2 ⟨hS1, hx3⟩
  have z2 := hx3.size
  refine xo.done 0 [(0, Pt a.s 0), (1, I id)] (by kernel_rfl) rfl (by kernel_rfl) ?_
  refine .seq ?_
  refine .region ?_
  refine xo.ret 2 (by kernel_rfl) (cf62 _ _) (st_gone 66 _ a _ hS1 id hgood.good (Int.lt_of_le_of_lt (hgood.le _) (by omega))) ?_
  rintro _ w5 ⟨hS4, hx6⟩
  have z5 := hx6.size
  refine xo.done 0 [] (by kernel_rfl) rfl (by kernel_rfl) ?_
  refine .seq ?_
  refine .region ?_
  refine xo.done 1 [(4, I 0)] (by kernel_rfl) rfl (by kernel_rfl) ?_
  refine .ret ?_
  refine ⟨[I 0], by kernel_rfl, _, rfl, ?_⟩
  exact ⟨rfl, hS4, ((hx3.weak fun b hb q => .inl q).trans' hx6 (fun _ _ h => h) (fun b hb q => .inl q))⟩

end Go.Proofs.YtbajgpadmlnffaaGreat
/- Loops over maps. -/
namespace Go.V
section
variable {α : Type} {P : Program} {n : Nat} {K : Env → World → Prop} {E : List PanicEntry → Env → World → Prop} {e : Env} {w w' : World} {l : List Oper} {r : List Oper} {enc : α → Value} {m it : Nat} {f : List (Int × α)} {left : Int → Bool} {cnt : Nat}

/-- Block it goes through map m, of which f's entries at the keys 'left' are still to come. -/
structure Iter (w : World) (it m : Nat) (enc : α → Value) (f : List (Int × α)) (left : Int → Bool) (cnt : Nat) : Prop where
  is : ∃ es c since seen c0, w.heap[m]? = some (.map es c) ∧ es.toList.map entryOf = f.map (pairOf enc) ∧ (es.toList.map (·.born)).Nodup ∧ w.heap[it]? = some (.mapIter (some m) since seen c0) ∧
    (∀ x ∈ es.toList, x.born < since) ∧ since ≤ c0 ∧ since ≤ c ∧ (leftOf es seen).size = cnt ∧ ∀ (i : Nat) x p, es.toList[i]? = some x → f[i]? = some p → left p.1 = !seen.contains x.born
  nodup : (keys f).Nodup
theorem Iter.ext {M : Nat → Prop} (h : Iter w it m enc f left cnt) (hx : Ext M w w') (h1 : ¬ M it) (h2 : ¬ M m) : Iter w' it m enc f left cnt := by
  obtain ⟨es, c, since, seen, c0, a1, a2, a3, a4, a5⟩ := h.is
  have l1 : m < w.heap.size := (Array.getElem?_eq_some_iff.1 a1).1
  have l2 : it < w.heap.size := (Array.getElem?_eq_some_iff.1 a4).1
  exact ⟨⟨es, c, since, seen, c0, (hx.block m l1 h2).trans a1, a2, a3, (hx.block it l2 h1).trans a4, a5⟩, h.nodup⟩
theorem Iter.lt (h : Iter w it m enc f left cnt) : it < w.heap.size := by
  obtain ⟨es, c, since, seen, c0, a1, a2, a3, a4, a5⟩ := h.is
  exact (Array.getElem?_eq_some_iff.1 a4).1
theorem Iter.ne_map (h : Iter w it m enc f left cnt) {β : Type} {m2 : Nat} {enc2 : β → Value} {g : List (Int × β)} (h2 : MapAt w m2 enc2 g) : it ≠ m2 := by
  obtain ⟨es, c, since, seen, c0, a1, a2, a3, a4, a5⟩ := h.is
  obtain ⟨es2, c2, b1, _⟩ := h2.is
  rintro rfl
  rw [a4] at b1
  cases b1
theorem Iter.ne_blk (h : Iter w it m enc f left cnt) {b : Nat} {t : TypeId} {cs : List Value} (h2 : Blk w b t cs) : it ≠ b := by
  obtain ⟨es, c, since, seen, c0, a1, a2, a3, a4, a5⟩ := h.is
  rintro rfl
  unfold Blk at h2
  rw [a4] at h2
  cases h2
theorem Iter.empty (h : Iter w it m enc f left 0) (k : Int) (x : α) (hk : mfind f k = some x) : left k = false := by
  obtain ⟨es, c, since, seen, c0, a1, a2, a3, a4, a5, a6, a7, a8, a9⟩ := h.is
  have hm := mfind_some_mem hk
  obtain ⟨i, hi⟩ := List.mem_iff_getElem?.1 hm
  have h9 : (es.toList.map entryOf)[i]? = (f.map (pairOf enc))[i]? := by rw [a2]
  rw [List.getElem?_map, List.getElem?_map, hi] at h9
  cases hx : es.toList[i]? with
  | none => rw [hx] at h9; simp at h9
  | some y =>
    rw [a9 i y (k, x) hx hi]
    have : leftOf es seen = #[] := Array.eq_empty_of_size_eq_zero a8
    unfold leftOf at this
    rw [Array.filter_eq_empty_iff] at this
    have h10 := this y (by simpa using List.mem_of_getElem? hx)
    simpa using h10

theorem run_rangeMap {t : TypeId} {z : Value} (ht : mapT P t = some z) (h : MapAt w m enc f) :
    ∃ w', (vS (Instr.range t (.map (some m)))).run P w = .ok (.value (Pt w.heap.size 0)) w' ∧ Iter w' w.heap.size m enc f (fun k => (mfind f k).isSome) f.length ∧ Ext No w w' := by
  obtain ⟨k, e, i, h1, h2, h3, h4⟩ := mapT_spec ht
  obtain ⟨es, c, a1, a2, a3, a4⟩ := h.is
  refine ⟨_, vrun (run_range_map w t k e m es c h1 a1), ⟨⟨es, c, c, #[], c, ?_, a2, a3, ?_, a4, Nat.le_refl _, Nat.le_refl _, ?_, fun i x p hx hp => ?_⟩, h.nodup⟩, ⟨rfl, rfl, rfl, by simp, fun b hb _ => hao w _ hb⟩⟩
  · exact (hao w _ h.lt).trans a1
  · exact heap_alloc_new w _
  · have := congrArg List.length a2
    have hf : es.filter (fun e => !(#[] : Array Nat).contains e.born) = es := Array.filter_eq_self.2 (fun x hx => by simp)
    unfold leftOf
    rw [hf]
    simpa using this
  · have hm : mfind f p.1 ≠ none := fun hn => by
      rw [mfind_none_iff] at hn
      exact hn (List.mem_map.2 ⟨p, List.mem_of_getElem? hp, rfl⟩)
    cases hq : mfind f p.1 with
    | none => exact absurd hq hm
    | some y => simp

theorem mfind_of_getElem {f : List (Int × α)} (hn : (keys f).Nodup) {i : Nat} {p : Int × α} (h : f[i]? = some p) : mfind f p.1 = some p.2 := by
  induction f generalizing i with
  | nil => simp at h
  | cons q r ih =>
    simp only [keys, List.map_cons, List.nodup_cons] at hn
    cases i with
    | zero => simp only [List.getElem?_cons_zero, Option.some.injEq] at h; subst h; simp [mfind]
    | succ i =>
      simp only [List.getElem?_cons_succ] at h
      have : q.1 ≠ p.1 := fun e => hn.1 (by rw [e]; exact List.mem_map.2 ⟨p, List.mem_of_getElem? h, rfl⟩)
      simp only [mfind, if_neg this]
      exact ih hn.2 h

theorem nodup_get {β : Type} {l : List β} (h : l.Nodup) {i j : Nat} {x : β} (h1 : l[i]? = some x) (h2 : l[j]? = some x) : i = j :=
  (List.getElem?_inj (List.getElem?_eq_some_iff.1 h1).1 h).1 (h1.trans h2.symm)
theorem run_nextMap (ty : TypeId) (h : Iter w it m enc f left cnt) :
    ((cnt = 0) ∧ (vS (Instr.next (Pt it 0) false ty)).run P w = .ok (.value (.tuple #[B false])) w) ∨
    ∃ k x w', left k = true ∧ mfind f k = some x ∧ (vS (Instr.next (Pt it 0) false ty)).run P w = .ok (.value (.tuple #[B true, I k, enc x])) w' ∧
      (∃ cnt', cnt' < cnt ∧ Iter w' it m enc f (fun j => left j && !(j == k)) cnt') ∧ Ext (fun b => b = it) w w' ∧ (vS (Instr.entry (Pt it 0))).run P w' = .ok (.value (.tuple #[I k, enc x])) w' := by
  obtain ⟨es, c, since, seen, c0, a1, a2, a3, a4, a5, a6, a7, a8, a9⟩ := h.is
  rcases run_next_at (P := P) w ty it m since c0 seen es c a4 a1 a5 a6 with ⟨h0, hrun⟩ | ⟨x, hx, w1, hal, hrun⟩
  · exact .inl ⟨by omega, vrun hrun⟩
  · right
    have hxm : x ∈ es.toList ∧ seen.contains x.born = false := by
      unfold leftOf at hx; simp at hx; simpa using hx
    obtain ⟨i, hi⟩ := List.mem_iff_getElem?.1 hxm.1
    have h9 : (es.toList.map entryOf)[i]? = (f.map (pairOf enc))[i]? := by rw [a2]
    rw [List.getElem?_map, List.getElem?_map, hi] at h9
    cases hp : f[i]? with
    | none => rw [hp] at h9; simp at h9
    | some p =>
      rw [hp] at h9
      simp only [Option.map_some, Option.some.injEq, entryOf, pairOf, Prod.mk.injEq] at h9
      obtain ⟨hk, hv⟩ := h9
      have hne : it ≠ m := by rintro rfl; rw [a4] at a1; cases a1
      have hr1 : w1.heap[it]? = some (.mapIter (some m) since seen c0) := by rcases hal with rfl | rfl <;> exact a4
      have hb1 : w1.heap[m]? = some (.map es c) := by rcases hal with rfl | rfl <;> exact a1
      have hset := MapKept.heap_set (o' := .mapIter (some m) since (seen.push x.born) c) hr1
      have hb' : (ChangeMaps.setBlock w1 it (.mapIter (some m) since (seen.push x.born) c)).heap[m]? = some (.map es c) := (hset.2 m (fun e1 => hne e1.symm)).trans hb1
      refine ⟨p.1, p.2, _, ?_, mfind_of_getElem h.nodup hp, by rw [← hk, ← hv]; exact vrun hrun, ⟨_, by rw [← a8]; exact left_shrinks es seen x hx, ⟨⟨es, c, since, seen.push x.born, c, hb', a2, a3, hset.1, a5, a7, a7, rfl, fun j y q hy hq => ?_⟩, h.nodup⟩⟩, ?_, ?_⟩
      · rw [a9 i x p hi hp, hxm.2]; rfl
      · rw [a9 j y q hy hq, contains_push]
        have hj : (q.1 == p.1) = (y.born == x.born) := by
          by_cases hij : j = i
          · subst hij
            rw [hi] at hy; rw [hp] at hq
            cases hy; cases hq
            simp
          · have n1 : q.1 ≠ p.1 := fun e => hij (nodup_get h.nodup (by simp only [keys, List.getElem?_map, hq]; rfl) (by simp only [keys, List.getElem?_map, hp, e]; rfl))
            have n2 : y.born ≠ x.born := fun e => hij (nodup_get a3 (by simp only [List.getElem?_map, hy]; rfl) (by simp only [List.getElem?_map, hi, e]; rfl))
            rw [beq_eq_false_iff_ne.2 n1, beq_eq_false_iff_ne.2 n2]
        rw [hj]
        cases seen.contains y.born <;> cases (y.born == x.born) <;> rfl
      · rcases hal with rfl | rfl <;> exact ⟨rfl, rfl, rfl, by simp [ChangeMaps.setBlock], fun b hb hm => (hset.2 b (fun e1 => hm (by rw [e1])))⟩
      · rw [← hk, ← hv]
        exact vrun (run_entry_at _ it m since seen es c x hset.1 hb' hxm.1 a3)

theorem xo.range (k : Nat) {t : TypeId} {z : Value} (ht : mapT P t = some z) (hm : MapAt w m enc f) (h : xat P l n k r e w = some (w, (vS (Instr.range t (.map (some m)))).run P w, xdst k r))
    (hk : ∀ it w', Iter w' it m enc f (fun k => (mfind f k).isSome) f.length → Ext No w w' → w.heap.size ≤ it → xo P l n (r.drop (k + 1)) (eput n (xenv P l n k r e w) (xdst k r) (Pt it 0)) w' K E) : xo P l n r e w K E := by
  obtain ⟨w', h1, h2, h3⟩ := run_rangeMap (P := P) ht hm
  refine xo.at_ h fun o r' g1 g2 g3 g4 g5 => ?_
  unfold xo
  rw [g3]
  simp only [g4, cond_true, g5, h1]
  subst g1; rw [g2]
  exact hk _ w' h2 h3 (Nat.le_refl _)
theorem xo.next (k : Nat) {ty : TypeId} (hi : Iter w it m enc f left cnt) (h : xat P l n k r e w = some (w, (vS (Instr.next (Pt it 0) false ty)).run P w, xdst k r))
    (hk0 : cnt = 0 → xo P l n (r.drop (k + 1)) (eput n (xenv P l n k r e w) (xdst k r) (.tuple #[B false])) w K E)
    (hk1 : ∀ key x w' cnt', left key = true → mfind f key = some x → Iter w' it m enc f (fun j => left j && !(j == key)) cnt' → cnt' < cnt → Ext (fun b => b = it) w w' → (vS (Instr.entry (Pt it 0))).run P w' = .ok (.value (.tuple #[I key, enc x])) w' →
      xo P l n (r.drop (k + 1)) (eput n (xenv P l n k r e w) (xdst k r) (.tuple #[B true, I key, enc x])) w' K E) : xo P l n r e w K E := by
  refine xo.at_ h fun o r' g1 g2 g3 g4 g5 => ?_
  unfold xo
  rw [g3]
  simp only [g4, cond_true, g5]
  subst g1
  rcases run_nextMap (P := P) ty hi with ⟨c0, h1⟩ | ⟨key, x, w', h1, h2, h3, ⟨c', h4, h5⟩, h6, h7⟩
  · rw [h1, g2]; exact hk0 c0
  · rw [h3, g2]; exact hk1 key x w' c' h1 h2 h5 h4 h6 h7

/-! the conversion of a constant text's bytes -/
theorem run_cvSelf {t et : TypeId} {b n' c : Nat} {T : TypeId} {cs : List Value} (ht : bytesT P t = some et) (h : Blk w b T cs) :
    ∃ w', (vS (convert t t (.slice (some ⟨b, 0, none⟩) n' c))).run P w = .ok (.value (.slice (some ⟨b, 0, none⟩) n' c)) w' ∧ Cs w' b 0 cs ∧ Ext (fun k => k = b) w w' := by
  obtain ⟨h1, h2⟩ := bytesT_spec ht
  have hs : w.shape? b = some (T, cs.length) := by unfold Blk at h; simp [World.shape?, h]
  refine ⟨w.freeze ⟨b, cs.length, none⟩ 1, ?_, ?_, ?_⟩
  · refine vrun ?_
    simp only [convert, Sem.run_bind, run_underlying h1, run_underlying h2, Result.andThen_ok, beq_self_eq_true, markStringish, shape, freeze, Sem.run, hs]
    rfl
  · intro j v hv
    have := h.cs j v hv
    unfold Blk at h
    simp only [World.cell?, h] at this
    simp only [World.cell?, World.freeze, Nat.one_ne_zero, if_false, Array.getElem?_modify, h]
    simpa using this
  · refine ⟨rfl, rfl, rfl, by simp [World.freeze], fun k hk hm => ?_⟩
    simp only [World.freeze]
    simp only [Nat.one_ne_zero, if_false, Array.getElem?_modify]
    rw [if_neg (fun e => hm e.symm)]
theorem xo.cvSelf (k : Nat) {t et : TypeId} {b n' c : Nat} {T : TypeId} {cs : List Value} (ht : bytesT P t = some et) (hb : Blk w b T cs)
    (h : xat P l n k r e w = some (w, (vS (convert t t (.slice (some ⟨b, 0, none⟩) n' c))).run P w, xdst k r))
    (hk : ∀ w', Cs w' b 0 cs → Ext (fun k => k = b) w w' → xo P l n (r.drop (k + 1)) (eput n (xenv P l n k r e w) (xdst k r) (.slice (some ⟨b, 0, none⟩) n' c)) w' K E) : xo P l n r e w K E := by
  obtain ⟨w', h1, h2, h3⟩ := run_cvSelf (P := P) (n' := n') (c := c) ht hb
  refine xo.at_ h fun o r' g1 g2 g3 g4 g5 => ?_
  unfold xo
  rw [g3]
  simp only [g4, cond_true, g5, h1]
  subst g1; rw [g2]
  exact hk _ h2 h3
end
end Go.V
/- Devices and stores are made. -/
namespace Go.Proofs.YtbajgpadmlnffaaGreat
open Go.V
set_option maxRecDepth 100000
set_option linter.unusedVariables false
set_option linter.unusedSimpArgs false

theorem maps_copy (w : World) (md ms : Nat) (fd fs : List (Int × ByteArray)) (hd : MapAt w md S fd) (hs : MapAt w ms S fs) (hne : ms ≠ md) :
    Ret Tryz.prog 89 [.map (some md), .map (some ms)] w fun v w' => (∃ g, MapAt w' md S g ∧ ∀ k, mfind g k = (mfind fs k).or (mfind fd k)) ∧ Ext (fun b => b = md) w w' := by
  have lD := hd.lt
  have lS := hs.lt
  refine calls_of_XC Tryz.func89 rfl rfl ?_
  refine .seq ?_
  refine .region ?_
  refine xo.range 1 (t := 105) (z := S (⟨#[]⟩)) (by kernel_rfl) hs (by kernel_rfl) ?_
  intro it1 w2 hI3 hx4 hg5
  have z2 := hx4.size
  have lhI3 := hI3.lt
  refine xo.done 0 [(0, .map (some md)), (7, Pt it1 0)] (by kernel_rfl) rfl (by kernel_rfl) ?_
  refine .block ?_
  have hm6 := (hd.ext hx4 (fun h => h))
  refine XC.loop (ι := (Int → Bool) × Nat × List (Int × ByteArray)) (fun ⟨left, cnt, g⟩ => [(0, .map (some md)), (7, Pt it1 0)]) (fun ⟨left, cnt, g⟩ u => Iter u it1 ms S fs left cnt ∧ MapAt u md S g ∧ (∀ k, mfind g k = if (mfind fs k).isSome && !left k then mfind fs k else mfind fd k) ∧ Ext (fun b => b = md) w u) (fun ⟨left, cnt, g⟩ => cnt) (fun k => (mfind fs k).isSome, fs.length, fd) (cov_of (by kernel_rfl)) ⟨hI3, hm6, by intro k; cases hq : mfind fs k <;> simp [hq], (hx4.weak fun b hb h => h.elim)⟩ ?_
  rintro ⟨left, cnt, g⟩ w7 ⟨hIt, hmd, hg, hE⟩
  have z7 := hE.size
  have lI := hIt.lt
  refine .seq ?_
  refine .region ?_
  refine xo.next 0 (ty := 0) hIt (by kernel_rfl) ?_ ?_
  · intro hc8
    refine xo.done 1 [(0, .map (some md)), (7, Pt it1 0), (9, B false)] (by kernel_rfl) rfl (by kernel_rfl) ?_
    refine .seq ?_
    refine .condF rfl rfl ?_
    refine .exit ?_
    refine xsetTo ?_
    refine ⟨[], by kernel_rfl, _, rfl, ?_⟩
    refine ⟨⟨g, hmd, fun k => ?_⟩, hE⟩
    rw [hg k]
    cases hk : mfind fs k with
    | none => simp
    | some x =>
      subst hc8
      have := hIt.empty k x hk
      simp [this]
  · intro key9 x10 w11 cn12 hl13 hq14 hI15 hlt16 hx17 hE18
    have z11 := hx17.size
    refine xo.done 1 [(0, .map (some md)), (7, Pt it1 0), (9, B true)] (by kernel_rfl) rfl (by kernel_rfl) ?_
    refine .seq ?_
    refine .condT rfl rfl ?_
    refine .skip ?_
    refine .block ?_
    refine .seq ?_
    refine .region ?_
    refine xo.val 0 (by kernel_rfl) hE18 ?_
    refine xo.done 4 [(0, .map (some md)), (4, I key9), (5, S x10), (7, Pt it1 0)] (by kernel_rfl) rfl (by kernel_rfl) ?_
    refine .region ?_
    have hm19 := (hmd.ext hx17 (fun e => Iter.ne_map hIt hmd e.symm))
    refine xo.mapPut 3 (t := 105) (z := S (⟨#[]⟩)) (k := key9) (v := S x10) x10 (by kernel_rfl) hm19 rfl (by kernel_rfl) ?_
    intro w20 hm21 hx22
    have z20 := hx22.size
    refine xo.fin 0 (by kernel_rfl) rfl ?_
    have hf23 := (hI15.ext hx22 (Iter.ne_map hI15 hm19) hne)
    refine ⟨(_, cn12, _), cov_of (by kernel_rfl), ⟨hf23, hm21, ?_, (((hE.weak fun b hb (q : b = md) => q).trans' hx17 (fun _ _ h => h) (fun b hb (q : b = it1) => absurd hb (by omega))).trans' hx22 (fun _ _ h => h) (fun b hb (q : b = md) => q))⟩, hlt16⟩
    intro k
    rw [mfind_put, hg]
    by_cases hk : key9 = k
    · subst hk
      simp [hl13, hq14]
    · have hk2 : (k == key9) = false := by simpa using fun e => hk e.symm
      simp [hk, hk2]

structure InB (a : DAd) (lo hi : Nat) : Prop where
  mem : ∀ b, a.fp b → lo ≤ b ∧ b < hi

theorem dev_new (w : World) (n : Int) (h8 : 8 ≤ n) (h4 : n ≤ 4096) :
    Ret Tryz.prog 32 [I n] w fun v w' => ∃ a : DAd, v = .tuple #[Pt a.d 0, I 0] ∧ DvAt w' a ⟨0, false, false, n, fun _ => none, fun _ => none⟩ ∧ InB a w.heap.size w'.heap.size ∧ Ext No w w' := by
  refine calls_of_XC Tryz.func32 rfl rfl ?_
  refine .seq ?_
  refine .region ?_
  refine xo.done 2 [(0, I n)] (by kernel_rfl) rfl (by kernel_rfl) ?_
  refine .seq ?_
  refine .seq ?_
  refine .region ?_
  refine xo.val 1 (by kernel_rfl) (c_lss_f (show ¬ ((n : Int) < 8) from (by omega))) ?_
  refine xo.val 2 (by kernel_rfl) (c_gtr_t (show (n : Int) ≤ 4096 from (by omega))) ?_
  refine xo.done 1 [(0, I n), (9, B false)] (by kernel_rfl) rfl (by kernel_rfl) ?_
  refine .condF rfl rfl ?_
  refine .skip ?_
  refine .seq ?_
  refine .region ?_
  refine xo.mapMk 1 (t := 105) S (by kernel_rfl) ?_
  intro m1 w2 hm3 hx4 hg5
  have z2 := hx4.size
  have l3 := hm3.lt
  refine xo.mapMk 0 (t := 105) S (by kernel_rfl) ?_
  intro m6 w7 hm8 hx9 hg10
  have z7 := hx9.size
  have l8 := hm8.lt
  refine xo.box 1 109 (.agg #[I 0, B false, B false, I n, .map (some m1), .map (some m6)]) [I 0, B false, B false, I n, .map (some m1), .map (some m6)] (by kernel_rfl) (by kernel_rfl) ?_
  intro b11 w12 hb13 hx14 hg15
  have z12 := hx14.size
  have l13 := hb13.lt
  refine xo.done 2 [(2, Pt b11 0), (3, I 0)] (by kernel_rfl) rfl (by kernel_rfl) ?_
  refine .ret ?_
  refine ⟨[Pt b11 0, I 0], by kernel_rfl, _, rfl, ?_⟩
  have hm16 := ((hm3.ext hx9 (fun h => h)).ext hx14 (fun h => h))
  have hm17 := (hm8.ext hx14 (fun h => h))
  exact ⟨⟨b11, m1, m6⟩, rfl, ⟨hb13, ⟨[], hm16, fun _ => rfl⟩, ⟨[], hm17, fun _ => rfl⟩, show m1 ≠ m6 by omega⟩, ⟨by rintro b (rfl | rfl | rfl) <;> (constructor <;> (try show _ ≤ _) <;> omega)⟩, ((hx4.trans' hx9 (fun _ _ h => h) (fun b hb h => h)).trans' hx14 (fun _ _ h => h) (fun b hb h => h))⟩

theorem dev_flush (w : World) (a : DAd) (δ : Dv) (h : DvAt w a δ) (hb : δ.burns = false) (ho : δ.off = false) (hn : 8 ≤ δ.n) :
    Ret Tryz.prog 65 [Pt a.d 0] w fun v w' => v = I 0 ∧ DvAt w' a { δ with kept := fun k => (δ.dirty k).or (δ.kept k), dirty := fun _ => none } ∧ Ext (fun b => b = a.mkp ∨ b = a.mdt) w w' := by
  have hbd := h.bd
  rw [hb, ho] at hbd
  obtain ⟨fk, hkp, hfk⟩ := h.kp
  obtain ⟨fd, hdt, hfd⟩ := h.dt
  have n1 := h.ne
  have n2 := MapAt.ne hdt hbd
  have n3 := MapAt.ne hkp hbd
  refine calls_of_XC Tryz.func65 rfl rfl ?_
  refine .seq ?_
  refine .region ?_
  refine xo.done 1 [(0, Pt a.d 0)] (by kernel_rfl) rfl (by kernel_rfl) ?_
  refine .seq ?_
  refine .seq ?_
  refine .region ?_
  refine xo.ret 1 (by kernel_rfl) (cf87 _ _) (dev_able _ a δ h hb ho hn) ?_
  rintro _ _ ⟨rfl, rfl⟩
  refine xo.done 1 [(0, Pt a.d 0), (3, I 0)] (by kernel_rfl) rfl (by kernel_rfl) ?_
  refine .seq ?_
  refine .region ?_
  refine xo.done 2 [(0, Pt a.d 0), (3, I 0), (7, B false)] (by kernel_rfl) rfl (by kernel_rfl) ?_
  refine .condF rfl rfl ?_
  refine .skip ?_
  refine .seq ?_
  refine .seq ?_
  refine .region ?_
  refine xo.ret 3 (by kernel_rfl) (cf88 _ _) (dev_spend _ a δ h hb ho hn) ?_
  rintro _ _ ⟨rfl, rfl⟩
  refine xo.done 1 [(0, Pt a.d 0), (13, B false)] (by kernel_rfl) rfl (by kernel_rfl) ?_
  refine .condF rfl rfl ?_
  refine .skip ?_
  refine .seq ?_
  refine .regionTail 8 (by kernel_rfl) (by kernel_rfl) ?_
  intro w1 hd2
  have hx2 := Ext.ofDrew (M := No) hd2
  have z1 := hx2.size
  have hb3 := (hbd.ext hx2 (fun h => h))
  refine Go.V.xs.val 3 (by kernel_rfl) (ldB (t := 105) (o := 4) (by kernel_rfl) hb3 rfl) ?_
  refine Go.V.xs.val 3 (by kernel_rfl) (ldB (t := 105) (o := 5) (by kernel_rfl) hb3 rfl) ?_
  refine Go.V.xs.fin 0 (by kernel_rfl) rfl ?_
  have hm4 := (hkp.ext hx2 (fun h => h))
  have hm5 := (hdt.ext hx2 (fun h => h))
  refine xo.ret 0 (by kernel_rfl) (cf89 _ _) (maps_copy _ a.mkp a.mdt fk fd hm4 hm5 (fun e => n1 e.symm)) ?_
  rintro _ w9 ⟨⟨g6, hm7, hg8⟩, hx10⟩
  have z9 := hx10.size
  refine xo.done 0 [(0, Pt a.d 0)] (by kernel_rfl) rfl (by kernel_rfl) ?_
  refine .seq ?_
  refine .region ?_
  have hb11 := (hb3.ext hx10 (fun e => n3 e.symm))
  refine xo.val 3 (by kernel_rfl) (ldB (t := 105) (o := 5) (by kernel_rfl) hb11 rfl) ?_
  have hm12 := (hm5.ext hx10 (fun e => n1 e.symm))
  refine xo.mapClr 0 (ty := 0) (z := S (⟨#[]⟩)) (t := 105) (by kernel_rfl) hm12 (by kernel_rfl) ?_
  intro w13 hm14 hx15
  have z13 := hx15.size
  refine xo.done 0 [] (by kernel_rfl) rfl (by kernel_rfl) ?_
  refine .seq ?_
  refine .region ?_
  refine xo.done 1 [(2, I 0)] (by kernel_rfl) rfl (by kernel_rfl) ?_
  refine .ret ?_
  refine ⟨[I 0], by kernel_rfl, _, rfl, ?_⟩
  have hb16 := (hb11.ext hx15 (fun e => n2 e.symm))
  have hm17 := (hm7.ext hx15 n1)
  exact ⟨rfl, ⟨by simpa [hb, ho] using hb16, ⟨_, hm17, fun k => by rw [hg8 k, hfd, hfk]⟩, ⟨[], hm14, fun _ => rfl⟩, n1⟩, (((hx2.weak fun b hb h => h.elim).trans' hx10 (fun _ _ h => h) (fun b hb (q : b = a.mkp) => .inl q)).trans' hx15 (fun _ _ h => h) (fun b hb (q : b = a.mdt) => .inr q))⟩

def superB (gen root n : Int) (note : ByteArray) : List UInt8 := (((([83] : List UInt8) ++ be 6 gen) ++ be 4 root) ++ be 4 n) ++ txt note
theorem superB_length (gen root n : Int) (note : ByteArray) : (superB gen root n note).length = 15 + (note.size + 2) := by
  unfold superB; simp only [List.length_append, be_length, txt_length]; rfl

theorem super_bytes (w : World) (gen root n : Int) (note : ByteArray) (hn : note.size ≤ 3900) :
    Ret Tryz.prog 66 [.agg #[I gen, I root, S note], I n] w fun v w' => v = S (seal_ (bs (superB gen root n note))) ∧ Ext No w w' := by
  refine calls_of_XC Tryz.func66 rfl rfl ?_
  refine .seq ?_
  refine .region ?_
  refine xo.box 0 95 (.agg #[I gen, I root, S note]) [I gen, I root, S note] (by kernel_rfl) (by kernel_rfl) ?_
  intro b1 w2 hb3 hx4 hg5
  have z2 := hx4.size
  have l3 := hb3.lt
  refine xo.done 1 [(1, I n), (2, Pt b1 0)] (by kernel_rfl) rfl (by kernel_rfl) ?_
  refine .seq ?_
  refine XC.regionDraw (fun u => Blk u b1 95 [I gen, I root, S note] ∧ True) (by kernel_rfl) ?_
  intro w8 hd9
  have hx9 := Ext.ofDrew (M := No) hd9
  have z8 := hx9.size
  have hb10 := (hb3.ext hx9 (fun h => h))
  refine ⟨⟨hb10, trivial⟩, ?_⟩
  refine xd.q (fun _ _ _ _ h => h) 2 (Pt b1 0) (by kernel_rfl) (by kernel_rfl) (by kernel_rfl) ?_
  refine xd.rd (fun _ _ _ _ h => h) 3 (by kernel_rfl) (by kernel_rfl) (by kernel_rfl) (fun u hS => (ldB (t := 3) (o := 0) (by kernel_rfl) hS.1 rfl)) ?_
  refine xd.q (fun _ _ _ _ h => h) 5 (Pt b1 1) (by kernel_rfl) (by kernel_rfl) (by kernel_rfl) ?_
  refine xd.rd (fun _ _ _ _ h => h) 6 (by kernel_rfl) (by kernel_rfl) (by kernel_rfl) (fun u hS => (ldB (t := 3) (o := 1) (by kernel_rfl) hS.1 rfl)) ?_
  refine xd.q (fun _ _ _ _ h => h) 8 (I n) (by kernel_rfl) (by kernel_rfl) (by kernel_rfl) ?_
  refine xd.one 0 (by kernel_rfl) ?_
  refine xo.bsl 0 76 1 #[(0, .int .u8 83)] (et := 5) (cs := [.int .u8 83]) (by kernel_rfl) (by kernel_rfl) ?_
  intro b11 w12 hb13 hx14 hg15
  have z12 := hx14.size
  have l13 := hb13.lt
  refine xo.fin 0 (by kernel_rfl) rfl ?_
  have hb16 := (hb10.ext hx14 (fun h => h))
  refine ⟨⟨hb16, trivial⟩, ?_⟩
  refine xd.one 1 (by kernel_rfl) ?_
  refine xo.cvSelf 0 (t := 76) (et := 5) (n' := 1) (c := 1) (by kernel_rfl) hb13 (by kernel_rfl) ?_
  intro w17 hc18 hx19
  have z17 := hx19.size
  have hs20 : Rd (kU8 5) w17 b11 (b11 + 1) (some ⟨b11, 0, none⟩) [83] := .inr ⟨b11, 0, rfl, Nat.le_refl _, Nat.lt_succ_self _, hc18⟩
  refine xo.fin 0 (by kernel_rfl) rfl ?_
  have hb21 := (hb16.ext hx19 (show b1 ≠ b11 by omega))
  refine ⟨⟨hb21, trivial⟩, ?_⟩
  refine xd.one 4 (by kernel_rfl) ?_
  refine xo.ret 0 (by kernel_rfl) (cf50 _ _) (oct_put _ b11 (b11 + 1) (some ⟨b11, 0, none⟩) 1 ([83]) hs20 (by omega) (by first | omega | (simp only [List.length_append, be_length, List.length_nil, List.length_cons, bs_size, Array.length_toList] at *; omega)) gen 6 (by omega) (by omega)) ?_
  rintro _ w25 ⟨A22, c23, rfl, ho24, hx26⟩
  have z25 := hx26.size
  refine xo.fin 0 (by kernel_rfl) rfl ?_
  have hb27 := (hb21.ext hx26 (fun h => h))
  refine ⟨⟨hb27, trivial⟩, ?_⟩
  refine xd.one 7 (by kernel_rfl) ?_
  refine xo.ret 0 (by kernel_rfl) (cf50 _ _) (oct_put _ w17.heap.size w25.heap.size A22 c23 (([83]) ++ be 6 gen) ho24.rd (by omega) (by first | omega | (simp only [List.length_append, be_length, List.length_nil, List.length_cons, bs_size, Array.length_toList] at *; omega)) root 4 (by omega) (by omega)) ?_
  rintro _ w31 ⟨A28, c29, rfl, ho30, hx32⟩
  have z31 := hx32.size
  refine xo.fin 0 (by kernel_rfl) rfl ?_
  have hb33 := (hb27.ext hx32 (fun h => h))
  refine ⟨⟨hb33, trivial⟩, ?_⟩
  refine xd.one 9 (by kernel_rfl) ?_
  refine xo.ret 0 (by kernel_rfl) (cf50 _ _) (oct_put _ w25.heap.size w31.heap.size A28 c29 ((([83]) ++ be 6 gen) ++ be 4 root) ho30.rd (by omega) (by first | omega | (simp only [List.length_append, be_length, List.length_nil, List.length_cons, bs_size, Array.length_toList] at *; omega)) n 4 (by omega) (by omega)) ?_
  rintro _ w37 ⟨A34, c35, rfl, ho36, hx38⟩
  have z37 := hx38.size
  refine xo.fin 0 (by kernel_rfl) rfl ?_
  have hb39 := (hb33.ext hx38 (fun h => h))
  refine ⟨⟨hb39, trivial⟩, ?_⟩
  refine xd.q (fun _ _ _ _ h => h) 10 (.slice A34 ((((([83]) ++ be 6 gen) ++ be 4 root) ++ be 4 n).length) c35) (by kernel_rfl) (by kernel_rfl) (by kernel_rfl) ?_
  refine xd.done (by kernel_rfl) ?_
  refine .cov [(2, Pt b1 0), (5, .slice A34 ((((([83]) ++ be 6 gen) ++ be 4 root) ++ be 4 n).length) c35)] (cov_of (by kernel_rfl)) ?_
  refine .seq ?_
  refine .region ?_
  refine xo.val 2 (by kernel_rfl) (ldB (t := 9) (o := 2) (by kernel_rfl) hb39 rfl) ?_
  refine xo.ret 0 (by kernel_rfl) (cf51 _ _) (oct_puttext _ w31.heap.size w37.heap.size A34 c35 (((([83]) ++ be 6 gen) ++ be 4 root) ++ be 4 n) ho36.rd (by omega) (by first | omega | (simp only [List.length_append, be_length, List.length_nil, List.length_cons, bs_size, Array.length_toList] at *; omega)) note (by first | omega | (simp only [List.length_append, be_length, List.length_nil, List.length_cons, bs_size, Array.length_toList] at *; omega))) ?_
  rintro _ w43 ⟨A40, c41, rfl, ho42, hx44⟩
  have z43 := hx44.size
  refine xo.val 0 (by kernel_rfl) (conv_bs (cap := c41) (src := 76) (dst := 9) (by kernel_rfl) (by kernel_rfl) ho42.rd) ?_
  refine xo.ret 0 (by kernel_rfl) (cf90 _ _) (crc_seal _ (⟨((((([83]) ++ be 6 gen) ++ be 4 root) ++ be 4 n) ++ txt note).toArray⟩) (by first | omega | (simp only [ba_lit_size, List.length_append, be_length, txt_length, List.length_cons, List.length_nil]; omega))) ?_
  rintro _ w45 ⟨rfl, hx46⟩
  have z45 := hx46.size
  refine xo.done 1 [(4, S (seal_ (⟨((((([83]) ++ be 6 gen) ++ be 4 root) ++ be 4 n) ++ txt note).toArray⟩)))] (by kernel_rfl) rfl (by kernel_rfl) ?_
  refine .ret ?_
  refine ⟨[S (seal_ (⟨((((([83]) ++ be 6 gen) ++ be 4 root) ++ be 4 n) ++ txt note).toArray⟩))], by kernel_rfl, _, rfl, ?_⟩
  exact ⟨rfl, ((((((((hx4.trans' hx9 (fun _ _ h => h) (fun b hb h => h)).trans' hx14 (fun _ _ h => h) (fun b hb h => h)).trans' hx19 (fun _ _ h => h) (fun b hb (e : b = b11) => absurd hb (by omega))).trans' hx26 (fun _ _ h => h) (fun b hb h => h)).trans' hx32 (fun _ _ h => h) (fun b hb h => h)).trans' hx38 (fun _ _ h => h) (fun b hb h => h)).trans' hx44 (fun _ _ h => h) (fun b hb h => h)).trans' hx46 (fun _ _ h => h) (fun b hb h => h))⟩

end Go.Proofs.YtbajgpadmlnffaaGreat
/- A new store. -/
namespace Go.Proofs.YtbajgpadmlnffaaGreat
open Go.V
set_option maxRecDepth 100000
set_option linter.unusedVariables false
set_option linter.unusedSimpArgs false

theorem DvAt.mapd {w : World} {a : DAd} {δ : Dv} (h : DvAt w a δ) : Maps w (fun b => b = a.mdt) := by
  rintro b rfl
  obtain ⟨f, h1, _⟩ := h.dt; obtain ⟨es, c, h2, _⟩ := h1.is; exact ⟨es, c, h2⟩
theorem DvAt.mapkd {w : World} {a : DAd} {δ : Dv} (h : DvAt w a δ) : Maps w (fun b => b = a.mkp ∨ b = a.mdt) := by
  rintro b (rfl | rfl)
  · obtain ⟨f, h1, _⟩ := h.kp; obtain ⟨es, c, h2, _⟩ := h1.is; exact ⟨es, c, h2⟩
  · obtain ⟨f, h1, _⟩ := h.dt; obtain ⟨es, c, h2, _⟩ := h1.is; exact ⟨es, c, h2⟩

theorem st_format (w : World) (ad : DAd) (δ : Dv) (hd : DvAt w ad δ) (hb : δ.burns = false) (ho : δ.off = false) (hn8 : 8 ≤ δ.n) (hn4 : δ.n ≤ 4096) (note : ByteArray) (hno : note.size ≤ 3900) (lo : Nat) (hIn : InB ad lo w.heap.size) (hlo : lo ≤ w.heap.size) :
    Ret Tryz.prog 33 [Pt ad.d 0, S note] w fun v w' => ∃ (a : SAd) (δ' : Dv), v = .tuple #[Pt a.s 0, I 0] ∧ a.d = ad ∧ a.lo = lo ∧ a.hi = w'.heap.size ∧ StAt w' a ⟨1, 0, note, [], [], δ'⟩ ∧ δ'.n = δ.n ∧ δ'.burns = δ.burns ∧ δ'.off = δ.off ∧ Ext (fun b => lo ≤ b) w w' := by
  have lK := hd.kp.lt
  have lDt := hd.dt.lt
  have lD := hd.bd.lt
  refine calls_of_XC Tryz.func33 rfl rfl ?_
  refine .seq ?_
  refine .region ?_
  refine xo.done 2 [(0, Pt ad.d 0), (1, S note)] (by kernel_rfl) rfl (by kernel_rfl) ?_
  refine .seq ?_
  refine .seq ?_
  refine .region ?_
  refine xo.ret 1 (by kernel_rfl) (cf58 _ _) (dev_size _ ad δ hd) ?_
  rintro _ _ ⟨rfl, rfl⟩
  refine xo.val 0 (by kernel_rfl) (c_eql_f (show ¬ ((δ.n : Int) = 0) from (by omega))) ?_
  refine xo.done 0 [(0, Pt ad.d 0), (1, S note), (13, B false)] (by kernel_rfl) rfl (by kernel_rfl) ?_
  refine .condF rfl rfl ?_
  refine .skip ?_
  refine .seq ?_
  refine .seq ?_
  refine .region ?_
  refine xo.val 2 (by kernel_rfl) (c_gtr_t (show ((note.size : Int) : Int) ≤ 3900 from (by omega))) ?_
  refine xo.done 0 [(0, Pt ad.d 0), (1, S note), (16, B false)] (by kernel_rfl) rfl (by kernel_rfl) ?_
  refine .condF rfl rfl ?_
  refine .skip ?_
  refine .seq ?_
  refine .region ?_
  refine xo.mapMk 3 (t := 96) encC (by kernel_rfl) ?_
  intro m1 w2 hm3 hx4 hg5
  have z2 := hx4.size
  have l3 := hm3.lt
  refine xo.mapMk 0 (t := 97) B (by kernel_rfl) ?_
  intro m6 w7 hm8 hx9 hg10
  have z7 := hx9.size
  have l8 := hm8.lt
  refine xo.box 1 99 (.agg #[I 1, I 0, S note, Pt ad.d 0, .map (some m1), .map (some m6)]) [I 1, I 0, S note, Pt ad.d 0, .map (some m1), .map (some m6)] (by kernel_rfl) (by kernel_rfl) ?_
  intro b11 w12 hb13 hx14 hg15
  have z12 := hx14.size
  have l13 := hb13.lt
  refine xo.done 1 [(0, Pt ad.d 0), (6, Pt b11 0)] (by kernel_rfl) rfl (by kernel_rfl) ?_
  refine .seq ?_
  refine .seq ?_
  refine .region ?_
  refine xo.done 1 [(0, Pt ad.d 0), (6, Pt b11 0), (24, I 0)] (by kernel_rfl) rfl (by kernel_rfl) ?_
  refine .block ?_
  refine XC.unroll 3 ?_
  refine rnd.next ?_
  refine .seq ?_
  refine .region ?_
  refine xo.done 1 [(0, Pt ad.d 0), (6, Pt b11 0), (24, I 0), (25, B true)] (by kernel_rfl) rfl (by kernel_rfl) ?_
  refine .seq ?_
  refine .condT rfl rfl ?_
  refine .skip ?_
  refine .seq ?_
  refine .block ?_
  refine .seq ?_
  refine .region ?_
  refine xo.done 2 [(0, Pt ad.d 0), (6, Pt b11 0), (7, I 0), (24, I 0)] (by kernel_rfl) rfl (by kernel_rfl) ?_
  refine .seq ?_
  refine .region ?_
  have hf16 := (((hd.ext hx4 (fun _ _ h => h)).ext hx9 (fun _ _ h => h)).ext hx14 (fun _ _ h => h))
  refine xo.ret 2 (by kernel_rfl) (cf64 _ _) (dev_write _ ad δ hf16 hb ho hn8 0 (⟨#[]⟩) (by omega) (by show _ < δ.n; omega) (by first | omega | (rw [seal_size, superB_length]; omega) | decide)) ?_
  rintro _ w18 ⟨rfl, hD17, hx19⟩
  have z18 := hx19.size
  refine xo.done 1 [(0, Pt ad.d 0), (6, Pt b11 0), (8, I 0), (24, I 0)] (by kernel_rfl) rfl (by kernel_rfl) ?_
  refine .seq ?_
  refine .region ?_
  refine xo.done 2 [(0, Pt ad.d 0), (6, Pt b11 0), (8, I 0), (24, I 0), (31, B false)] (by kernel_rfl) rfl (by kernel_rfl) ?_
  refine .condF rfl rfl ?_
  refine .skip ?_
  refine .region ?_
  refine xo.fin 2 (by kernel_rfl) rfl ?_
  refine rnd.cov [(0, Pt ad.d 0), (6, Pt b11 0), (24, I 1)] (by kernel_rfl) ?_
  refine rnd.next ?_
  refine .seq ?_
  refine .region ?_
  refine xo.done 1 [(0, Pt ad.d 0), (6, Pt b11 0), (24, I 1), (25, B true)] (by kernel_rfl) rfl (by kernel_rfl) ?_
  refine .seq ?_
  refine .condT rfl rfl ?_
  refine .skip ?_
  refine .seq ?_
  refine .block ?_
  refine .seq ?_
  refine .region ?_
  refine xo.done 2 [(0, Pt ad.d 0), (6, Pt b11 0), (7, I 1), (24, I 1)] (by kernel_rfl) rfl (by kernel_rfl) ?_
  refine .seq ?_
  refine .region ?_
  refine xo.ret 2 (by kernel_rfl) (cf64 _ _) (dev_write _ ad ({ δ with dirty := upd δ.dirty 0 (⟨#[]⟩) }) hD17 hb ho hn8 1 (⟨#[]⟩) (by omega) (by show _ < δ.n; omega) (by first | omega | (rw [seal_size, superB_length]; omega) | decide)) ?_
  rintro _ w21 ⟨rfl, hD20, hx22⟩
  have z21 := hx22.size
  refine xo.done 1 [(0, Pt ad.d 0), (6, Pt b11 0), (8, I 0), (24, I 1)] (by kernel_rfl) rfl (by kernel_rfl) ?_
  refine .seq ?_
  refine .region ?_
  refine xo.done 2 [(0, Pt ad.d 0), (6, Pt b11 0), (8, I 0), (24, I 1), (31, B false)] (by kernel_rfl) rfl (by kernel_rfl) ?_
  refine .condF rfl rfl ?_
  refine .skip ?_
  refine .region ?_
  refine xo.fin 2 (by kernel_rfl) rfl ?_
  refine rnd.cov [(0, Pt ad.d 0), (6, Pt b11 0), (24, I 2)] (by kernel_rfl) ?_
  refine rnd.next ?_
  refine .seq ?_
  refine .region ?_
  refine xo.done 1 [(0, Pt ad.d 0), (6, Pt b11 0), (24, I 2), (25, B false)] (by kernel_rfl) rfl (by kernel_rfl) ?_
  refine .seq ?_
  refine .condF rfl rfl ?_
  refine .exit ?_
  refine xsetTo ?_
  refine .seq ?_
  refine .seq ?_
  refine .region ?_
  refine xo.ret 1 (by kernel_rfl) (cf65 _ _) (dev_flush _ ad ({ { δ with dirty := upd δ.dirty 0 (⟨#[]⟩) } with dirty := upd ({ δ with dirty := upd δ.dirty 0 (⟨#[]⟩) }).dirty 1 (⟨#[]⟩) }) hD20 hb ho hn8) ?_
  rintro _ w25 ⟨rfl, hD23, hx26⟩
  have z25 := hx26.size
  refine xo.done 1 [(0, Pt ad.d 0), (6, Pt b11 0), (9, I 0)] (by kernel_rfl) rfl (by kernel_rfl) ?_
  refine .seq ?_
  refine .region ?_
  refine xo.done 2 [(0, Pt ad.d 0), (6, Pt b11 0), (9, I 0), (37, B false)] (by kernel_rfl) rfl (by kernel_rfl) ?_
  refine .condF rfl rfl ?_
  refine .skip ?_
  refine .seq ?_
  refine .seq ?_
  have hb31 := (((hb13.extm hx19 hf16.mapd).extm hx22 hD17.mapd).extm hx26 hD20.mapkd)
  refine XC.regionDraw (fun u => Blk u b11 99 [I 1, I 0, S note, Pt ad.d 0, .map (some m1), .map (some m6)] ∧ True) (by kernel_rfl) ?_
  intro w29 hd30
  have hx30 := Ext.ofDrew (M := No) hd30
  have z29 := hx30.size
  have hb32 := (hb31.ext hx30 (fun h => h))
  refine ⟨⟨hb32, trivial⟩, ?_⟩
  refine xd.q (fun _ _ _ _ h => h) 0 (Pt ad.d 0) (by kernel_rfl) (by kernel_rfl) (by kernel_rfl) ?_
  refine xd.q (fun _ _ _ _ h => h) 1 (Pt b11 0) (by kernel_rfl) (by kernel_rfl) (by kernel_rfl) ?_
  refine xd.q (fun _ _ _ _ h => h) 2 (Pt b11 0) (by kernel_rfl) (by kernel_rfl) (by kernel_rfl) ?_
  refine xd.q (fun _ _ _ _ h => h) 3 (Pt b11 0) (by kernel_rfl) (by kernel_rfl) (by kernel_rfl) ?_
  refine xd.rd (fun _ _ _ _ h => h) 4 (by kernel_rfl) (by kernel_rfl) (by kernel_rfl) (fun u hS => (ldBA (t := 95) (o := 0) (vs := [I 1, I 0, S note]) (by kernel_rfl) hS.1 rfl)) ?_
  refine xd.q (fun _ _ _ _ h => h) 5 (Pt ad.d 0) (by kernel_rfl) (by kernel_rfl) (by kernel_rfl) ?_
  refine xd.one 6 (by kernel_rfl) ?_
  have hf33 := (hD23.ext hx30 (fun _ _ h => h))
  refine xo.ret 0 (by kernel_rfl) (cf58 _ _) (dev_size _ ad ({ { { δ with dirty := upd δ.dirty 0 (⟨#[]⟩) } with dirty := upd ({ δ with dirty := upd δ.dirty 0 (⟨#[]⟩) }).dirty 1 (⟨#[]⟩) } with kept := fun k => (({ { δ with dirty := upd δ.dirty 0 (⟨#[]⟩) } with dirty := upd ({ δ with dirty := upd δ.dirty 0 (⟨#[]⟩) }).dirty 1 (⟨#[]⟩) }).dirty k).or (({ { δ with dirty := upd δ.dirty 0 (⟨#[]⟩) } with dirty := upd ({ δ with dirty := upd δ.dirty 0 (⟨#[]⟩) }).dirty 1 (⟨#[]⟩) }).kept k), dirty := fun _ => none }) hf33) ?_
  rintro _ _ ⟨rfl, rfl⟩
  refine xo.fin 0 (by kernel_rfl) rfl ?_
  refine ⟨⟨hb32, trivial⟩, ?_⟩
  refine xd.one 7 (by kernel_rfl) ?_
  refine xo.ret 0 (by kernel_rfl) (cf66 _ _) (super_bytes _ 1 0 δ.n note (by omega)) ?_
  rintro _ w34 ⟨rfl, hx35⟩
  have z34 := hx35.size
  refine xo.fin 0 (by kernel_rfl) rfl ?_
  have hb36 := (hb32.ext hx35 (fun h => h))
  refine ⟨⟨hb36, trivial⟩, ?_⟩
  refine xd.one 8 (by kernel_rfl) ?_
  have hf37 := (hf33.ext hx35 (fun _ _ h => h))
  refine xo.ret 0 (by kernel_rfl) (cf64 _ _) (dev_write _ ad ({ { { δ with dirty := upd δ.dirty 0 (⟨#[]⟩) } with dirty := upd ({ δ with dirty := upd δ.dirty 0 (⟨#[]⟩) }).dirty 1 (⟨#[]⟩) } with kept := fun k => (({ { δ with dirty := upd δ.dirty 0 (⟨#[]⟩) } with dirty := upd ({ δ with dirty := upd δ.dirty 0 (⟨#[]⟩) }).dirty 1 (⟨#[]⟩) }).dirty k).or (({ { δ with dirty := upd δ.dirty 0 (⟨#[]⟩) } with dirty := upd ({ δ with dirty := upd δ.dirty 0 (⟨#[]⟩) }).dirty 1 (⟨#[]⟩) }).kept k), dirty := fun _ => none }) hf37 hb ho hn8 1 (seal_ (bs (superB 1 0 δ.n note))) (by omega) (by show _ < δ.n; omega) (by first | omega | (rw [seal_size, superB_length]; omega) | decide)) ?_
  rintro _ w39 ⟨rfl, hD38, hx40⟩
  have z39 := hx40.size
  refine xo.fin 0 (by kernel_rfl) rfl ?_
  have hb41 := (hb36.extm hx40 hf37.mapd)
  refine ⟨⟨hb41, trivial⟩, ?_⟩
  refine xd.q (fun _ _ _ _ h => h) 9 (I 0) (by kernel_rfl) (by kernel_rfl) (by kernel_rfl) ?_
  refine xd.done (by kernel_rfl) ?_
  refine .cov [(0, Pt ad.d 0), (6, Pt b11 0), (10, I 0)] (cov_of (by kernel_rfl)) ?_
  refine .seq ?_
  refine .region ?_
  refine xo.done 2 [(0, Pt ad.d 0), (6, Pt b11 0), (10, I 0), (49, B false)] (by kernel_rfl) rfl (by kernel_rfl) ?_
  refine .condF rfl rfl ?_
  refine .skip ?_
  refine .seq ?_
  refine .region ?_
  refine xo.ret 2 (by kernel_rfl) (cf65 _ _) (dev_flush _ ad ({ { { { δ with dirty := upd δ.dirty 0 (⟨#[]⟩) } with dirty := upd ({ δ with dirty := upd δ.dirty 0 (⟨#[]⟩) }).dirty 1 (⟨#[]⟩) } with kept := fun k => (({ { δ with dirty := upd δ.dirty 0 (⟨#[]⟩) } with dirty := upd ({ δ with dirty := upd δ.dirty 0 (⟨#[]⟩) }).dirty 1 (⟨#[]⟩) }).dirty k).or (({ { δ with dirty := upd δ.dirty 0 (⟨#[]⟩) } with dirty := upd ({ δ with dirty := upd δ.dirty 0 (⟨#[]⟩) }).dirty 1 (⟨#[]⟩) }).kept k), dirty := fun _ => none } with dirty := upd ({ { { δ with dirty := upd δ.dirty 0 (⟨#[]⟩) } with dirty := upd ({ δ with dirty := upd δ.dirty 0 (⟨#[]⟩) }).dirty 1 (⟨#[]⟩) } with kept := fun k => (({ { δ with dirty := upd δ.dirty 0 (⟨#[]⟩) } with dirty := upd ({ δ with dirty := upd δ.dirty 0 (⟨#[]⟩) }).dirty 1 (⟨#[]⟩) }).dirty k).or (({ { δ with dirty := upd δ.dirty 0 (⟨#[]⟩) } with dirty := upd ({ δ with dirty := upd δ.dirty 0 (⟨#[]⟩) }).dirty 1 (⟨#[]⟩) }).kept k), dirty := fun _ => none }).dirty 1 (seal_ (bs (superB 1 0 δ.n note))) }) hD38 hb ho hn8) ?_
  rintro _ w44 ⟨rfl, hD42, hx45⟩
  have z44 := hx45.size
  refine xo.done 2 [(4, Pt b11 0), (5, I 0)] (by kernel_rfl) rfl (by kernel_rfl) ?_
  refine .ret ?_
  refine ⟨[Pt b11 0, I 0], by kernel_rfl, _, rfl, ?_⟩
  have hb46 := (hb41.extm hx45 hD38.mapkd)
  have hm47 := (((((((((hm3.ext hx9 (fun h => h)).ext hx14 (fun h => h)).ext hx19 (fun (e : m1 = ad.mdt) => by omega)).ext hx22 (fun (e : m1 = ad.mdt) => by omega)).ext hx26 (fun (e : m1 = ad.mkp ∨ m1 = ad.mdt) => by omega)).ext hx30 (fun h => h)).ext hx35 (fun h => h)).ext hx40 (fun (e : m1 = ad.mdt) => by omega)).ext hx45 (fun (e : m1 = ad.mkp ∨ m1 = ad.mdt) => by omega))
  have hm48 := ((((((((hm8.ext hx14 (fun h => h)).ext hx19 (fun (e : m6 = ad.mdt) => by omega)).ext hx22 (fun (e : m6 = ad.mdt) => by omega)).ext hx26 (fun (e : m6 = ad.mkp ∨ m6 = ad.mdt) => by omega)).ext hx30 (fun h => h)).ext hx35 (fun h => h)).ext hx40 (fun (e : m6 = ad.mdt) => by omega)).ext hx45 (fun (e : m6 = ad.mkp ∨ m6 = ad.mdt) => by omega))
  have hE : Ext (fun b => lo ≤ b) w w44 := ((((((((((hx4.weak fun b hb h => h.elim).trans' hx9 (fun _ _ h => h) (fun b hb h => h.elim)).trans' hx14 (fun _ _ h => h) (fun b hb h => h.elim)).trans' hx19 (fun _ _ h => h) (fun b hb (q : b = ad.mdt) => (by subst q; exact (hIn.mem _ (.inr (.inr rfl))).1))).trans' hx22 (fun _ _ h => h) (fun b hb (q : b = ad.mdt) => (by subst q; exact (hIn.mem _ (.inr (.inr rfl))).1))).trans' hx26 (fun _ _ h => h) (fun b hb (q : b = ad.mkp ∨ b = ad.mdt) => (by rcases q with rfl | rfl; exact (hIn.mem _ (.inr (.inl rfl))).1; exact (hIn.mem _ (.inr (.inr rfl))).1))).trans' hx30 (fun _ _ h => h) (fun b hb h => h.elim)).trans' hx35 (fun _ _ h => h) (fun b hb h => h.elim)).trans' hx40 (fun _ _ h => h) (fun b hb (q : b = ad.mdt) => (by subst q; exact (hIn.mem _ (.inr (.inr rfl))).1))).trans' hx45 (fun _ _ h => h) (fun b hb (q : b = ad.mkp ∨ b = ad.mdt) => (by rcases q with rfl | rfl; exact (hIn.mem _ (.inr (.inl rfl))).1; exact (hIn.mem _ (.inr (.inr rfl))).1)))
  refine ⟨⟨b11, ad, m1, m6, lo, w44.heap.size⟩, { { { { { δ with dirty := upd δ.dirty 0 (⟨#[]⟩) } with dirty := upd ({ δ with dirty := upd δ.dirty 0 (⟨#[]⟩) }).dirty 1 (⟨#[]⟩) } with kept := fun k => (({ { δ with dirty := upd δ.dirty 0 (⟨#[]⟩) } with dirty := upd ({ δ with dirty := upd δ.dirty 0 (⟨#[]⟩) }).dirty 1 (⟨#[]⟩) }).dirty k).or (({ { δ with dirty := upd δ.dirty 0 (⟨#[]⟩) } with dirty := upd ({ δ with dirty := upd δ.dirty 0 (⟨#[]⟩) }).dirty 1 (⟨#[]⟩) }).kept k), dirty := fun _ => none } with dirty := upd ({ { { δ with dirty := upd δ.dirty 0 (⟨#[]⟩) } with dirty := upd ({ δ with dirty := upd δ.dirty 0 (⟨#[]⟩) }).dirty 1 (⟨#[]⟩) } with kept := fun k => (({ { δ with dirty := upd δ.dirty 0 (⟨#[]⟩) } with dirty := upd ({ δ with dirty := upd δ.dirty 0 (⟨#[]⟩) }).dirty 1 (⟨#[]⟩) }).dirty k).or (({ { δ with dirty := upd δ.dirty 0 (⟨#[]⟩) } with dirty := upd ({ δ with dirty := upd δ.dirty 0 (⟨#[]⟩) }).dirty 1 (⟨#[]⟩) }).kept k), dirty := fun _ => none }).dirty 1 (seal_ (bs (superB 1 0 δ.n note))) } with kept := fun k => (({ { { { δ with dirty := upd δ.dirty 0 (⟨#[]⟩) } with dirty := upd ({ δ with dirty := upd δ.dirty 0 (⟨#[]⟩) }).dirty 1 (⟨#[]⟩) } with kept := fun k => (({ { δ with dirty := upd δ.dirty 0 (⟨#[]⟩) } with dirty := upd ({ δ with dirty := upd δ.dirty 0 (⟨#[]⟩) }).dirty 1 (⟨#[]⟩) }).dirty k).or (({ { δ with dirty := upd δ.dirty 0 (⟨#[]⟩) } with dirty := upd ({ δ with dirty := upd δ.dirty 0 (⟨#[]⟩) }).dirty 1 (⟨#[]⟩) }).kept k), dirty := fun _ => none } with dirty := upd ({ { { δ with dirty := upd δ.dirty 0 (⟨#[]⟩) } with dirty := upd ({ δ with dirty := upd δ.dirty 0 (⟨#[]⟩) }).dirty 1 (⟨#[]⟩) } with kept := fun k => (({ { δ with dirty := upd δ.dirty 0 (⟨#[]⟩) } with dirty := upd ({ δ with dirty := upd δ.dirty 0 (⟨#[]⟩) }).dirty 1 (⟨#[]⟩) }).dirty k).or (({ { δ with dirty := upd δ.dirty 0 (⟨#[]⟩) } with dirty := upd ({ δ with dirty := upd δ.dirty 0 (⟨#[]⟩) }).dirty 1 (⟨#[]⟩) }).kept k), dirty := fun _ => none }).dirty 1 (seal_ (bs (superB 1 0 δ.n note))) }).dirty k).or (({ { { { δ with dirty := upd δ.dirty 0 (⟨#[]⟩) } with dirty := upd ({ δ with dirty := upd δ.dirty 0 (⟨#[]⟩) }).dirty 1 (⟨#[]⟩) } with kept := fun k => (({ { δ with dirty := upd δ.dirty 0 (⟨#[]⟩) } with dirty := upd ({ δ with dirty := upd δ.dirty 0 (⟨#[]⟩) }).dirty 1 (⟨#[]⟩) }).dirty k).or (({ { δ with dirty := upd δ.dirty 0 (⟨#[]⟩) } with dirty := upd ({ δ with dirty := upd δ.dirty 0 (⟨#[]⟩) }).dirty 1 (⟨#[]⟩) }).kept k), dirty := fun _ => none } with dirty := upd ({ { { δ with dirty := upd δ.dirty 0 (⟨#[]⟩) } with dirty := upd ({ δ with dirty := upd δ.dirty 0 (⟨#[]⟩) }).dirty 1 (⟨#[]⟩) } with kept := fun k => (({ { δ with dirty := upd δ.dirty 0 (⟨#[]⟩) } with dirty := upd ({ δ with dirty := upd δ.dirty 0 (⟨#[]⟩) }).dirty 1 (⟨#[]⟩) }).dirty k).or (({ { δ with dirty := upd δ.dirty 0 (⟨#[]⟩) } with dirty := upd ({ δ with dirty := upd δ.dirty 0 (⟨#[]⟩) }).dirty 1 (⟨#[]⟩) }).kept k), dirty := fun _ => none }).dirty 1 (seal_ (bs (superB 1 0 δ.n note))) }).kept k), dirty := fun _ => none }, rfl, rfl, rfl, rfl, ?_, rfl, rfl, rfl, hE⟩
  exact { bs := hb46, dv := hD42, mc := hm47, mkt := hm48, kids := fun id c hc => by simp [mfind] at hc, ns := ⟨show lo ≤ b11 by omega, show b11 < w44.heap.size by omega⟩, nd := fun b hb => ⟨(hIn.mem b hb).1, show b < w44.heap.size by have := (hIn.mem b hb).2; omega⟩, nc := ⟨show lo ≤ m1 by omega, show m1 < w44.heap.size by omega⟩, ckp := show m1 ≠ ad.mkp by omega, cdt := show m1 ≠ ad.mdt by omega, cmk := show m1 ≠ m6 by omega, kkp := show m6 ≠ ad.mkp by omega, kdt := show m6 ≠ ad.mdt by omega, hi := Nat.le_refl _, nod := by simp [keys] }

theorem law_fresh (w : World) :
    Ret Tryz.prog 10 [] w fun v w' => ∃ (a : SAd) (δ : Dv), v = Pt a.s 0 ∧ StAt w' a ⟨1, 0, ⟨#[]⟩, [], [], δ⟩ ∧ Alive ⟨1, 0, ⟨#[]⟩, [], [], δ⟩ ∧ δ.n = 4096 ∧ a.lo = w.heap.size ∧ a.hi = w'.heap.size ∧ Ext No w w' := by
  refine calls_of_XC Tryz.func10 rfl rfl ?_
  refine .seq ?_
  refine .region ?_
  refine xo.done 1 [] (by kernel_rfl) rfl (by kernel_rfl) ?_
  refine .seq ?_
  refine .region ?_
  refine xo.ret 0 (by kernel_rfl) (cf32 _ _) (dev_new _ 4096 (by decide) (by decide)) ?_
  rintro _ w4 ⟨ad3, rfl, hD1, hIn2, hx5⟩
  have z4 := hx5.size
  refine xo.done 5 [(1, Pt ad3.d 0)] (by kernel_rfl) rfl (by kernel_rfl) ?_
  refine .seq ?_
  refine .region ?_
  refine xo.ret 1 (by kernel_rfl) (cf33 _ _) (st_format _ ad3 _ hD1 rfl rfl (by decide) (by decide) ⟨#[]⟩ (by decide) w.heap.size hIn2 (by omega)) ?_
  rintro _ w15 ⟨a6, dv7, rfl, ea12, el13, eh14, hS8, hn9, hbn10, hof11, hx16⟩
  have z15 := hx16.size
  refine xo.done 5 [(3, Pt a6.s 0)] (by kernel_rfl) rfl (by kernel_rfl) ?_
  refine .seq ?_
  refine .region ?_
  refine xo.done 2 [(0, Pt a6.s 0)] (by kernel_rfl) rfl (by kernel_rfl) ?_
  refine .ret ?_
  refine ⟨[Pt a6.s 0], by kernel_rfl, _, rfl, ?_⟩
  exact ⟨a6, dv7, rfl, hS8, ⟨hbn10, hof11, by show 8 ≤ dv7.n; rw [hn9]; decide, by show dv7.n ≤ 4096; rw [hn9]; decide⟩, hn9, el13, eh14, (hx5.trans' hx16 (fun _ _ h => h) (fun b hb (q : w.heap.size ≤ b) => absurd hb (by omega)))⟩

end Go.Proofs.YtbajgpadmlnffaaGreat
/- What bytes tell of a node of a tree. -/
namespace Go.Proofs.YtbajgpadmlnffaaGreat
open Go.V
set_option maxRecDepth 100000
set_option linter.unusedVariables false
set_option linter.unusedSimpArgs false

/-! what bytes tell of a node -/
structure Node where
  level : Int
  items : List Item
def rightK (k : ByteArray) : Prop := k ≠ ⟨#[]⟩ ∧ (k.size : Int) ≤ 64
instance (k : ByteArray) : Decidable (rightK k) := inferInstanceAs (Decidable (_ ∧ _))
def pVal (lv : Nat) (ks : List Int) (i : Nat) (k : List UInt8) (r : List UInt8) : Option (Item × List UInt8) :=
  if 0 < lv then some (⟨bs k, ⟨#[]⟩, ks.getD i 0⟩, r) else
    match pText 300 r with
    | none => none
    | some (v, r') => some (⟨bs k, bs v, 0⟩, r')
/-- Does it stand behind the last one? -/
def behind (acc : List Item) (k : ByteArray) : Prop := acc.length = 0 ∨ ∃ p, acc[acc.length - 1]? = some p ∧ Lt p.key k
def behindB (acc : List Item) (k : ByteArray) : Bool := match acc[acc.length - 1]? with | none => true | some p => decide (Lt p.key k)
def pItems (lv : Nat) (ks : List Int) : Nat → List Item → List UInt8 → Option (List Item × List UInt8)
  | 0, acc, l => some (acc, l)
  | m + 1, acc, l =>
    match pText 64 l with
    | none => none
    | some (k, r) =>
      match pVal lv ks acc.length k r with
      | none => none
      | some (x, r') => if rightK x.key ∧ behindB acc x.key = true then pItems lv ks m (acc ++ [x]) r' else none
def badNode (lv many : Nat) (kn : Nat) : Prop := 20 < lv ∨ many < 1 ∨ 8 < many ∨ (0 < lv ∧ many ≠ kn) ∨ (lv = 0 ∧ 0 < kn)
instance (a b c : Nat) : Decidable (badNode a b c) := inferInstanceAs (Decidable (_ ∨ _ ∨ _ ∨ _ ∨ _))
def pNode (ks : List Int) (l : List UInt8) : Option (Node × List UInt8) :=
  match pNum 1 l with
  | none => none
  | some (lv, l1) =>
    match pNum 1 l1 with
    | none => none
    | some (many, l2) => if badNode lv many ks.length then none else (pItems lv ks many [] l2).map fun p => (⟨(lv : Int), p.1⟩, p.2)
theorem pNode_1 {ks : List Int} {l : List UInt8} (h : ¬ 1 ≤ l.length) : pNode ks l = none := by simp only [pNode, pNum, if_neg h]
theorem pNode_2 {ks : List Int} {l : List UInt8} (h : ¬ 1 ≤ (l.drop 1).length) : pNode ks l = none := by
  unfold pNode
  by_cases h1 : 1 ≤ l.length
  · simp only [pNum, if_pos h1, if_neg h]
  · simp only [pNum, if_neg h1]
theorem pNode_3 {ks : List Int} {l : List UInt8} (hb : badNode (beNat (l.take 1)) (beNat ((l.drop 1).take 1)) ks.length) : pNode ks l = none := by
  unfold pNode
  by_cases h1 : 1 ≤ l.length
  · simp only [pNum, if_pos h1]
    by_cases h2 : 1 ≤ (l.drop 1).length
    · simp only [if_pos h2, if_pos hb]
    · simp only [if_neg h2]
  · simp only [pNum, if_neg h1]
theorem pNode_4 {ks : List Int} {l : List UInt8} (h1 : 1 ≤ l.length) (h2 : 1 ≤ (l.drop 1).length) (hb : ¬ badNode (beNat (l.take 1)) (beNat ((l.drop 1).take 1)) ks.length) :
    pNode ks l = (pItems (beNat (l.take 1)) ks (beNat ((l.drop 1).take 1)) [] ((l.drop 1).drop 1)).map fun p => (⟨(beNat (l.take 1) : Int), p.1⟩, p.2) := by
  unfold pNode
  simp only [pNum, if_pos h1, if_pos h2, if_neg hb]
theorem pItems_key {lv : Nat} {ks : List Int} {m : Nat} {acc : List Item} {l : List UInt8} (hm : 0 < m) (h : pText 64 l = none) : pItems lv ks m acc l = none := by
  cases m with
  | zero => omega
  | succ m => simp only [pItems, h]
theorem pItems_val {lv : Nat} {ks : List Int} {m : Nat} {acc : List Item} {l k r : List UInt8} (hm : 0 < m) (h : pText 64 l = some (k, r)) (h0 : ¬ 0 < lv) (hv : pText 300 r = none) : pItems lv ks m acc l = none := by
  cases m with
  | zero => omega
  | succ m => simp only [pItems, h, pVal, if_neg h0, hv]
theorem pItems_bad {lv : Nat} {ks : List Int} {m : Nat} {acc : List Item} {l k r r' : List UInt8} {x : Item} (hm : 0 < m) (h : pText 64 l = some (k, r)) (hv : pVal lv ks acc.length k r = some (x, r')) (hb : ¬ (rightK x.key ∧ behindB acc x.key = true)) : pItems lv ks m acc l = none := by
  cases m with
  | zero => omega
  | succ m => simp only [pItems, h, hv, if_neg hb]
theorem pItems_ok {lv : Nat} {ks : List Int} {m : Nat} {acc : List Item} {l k r r' : List UInt8} {x : Item} (h : pText 64 l = some (k, r)) (hv : pVal lv ks acc.length k r = some (x, r')) (hb : rightK x.key ∧ behindB acc x.key = true) :
    pItems lv ks (m + 1) acc l = pItems lv ks m (acc ++ [x]) r' := by
  simp only [pItems, h, hv, if_pos hb]
theorem behindB_0 {acc : List Item} {k : ByteArray} (h : acc.length = 0) : behindB acc k = true := by
  have : acc = [] := List.eq_nil_of_length_eq_zero h
  subst this; rfl
theorem behindB_at {acc : List Item} {k : ByteArray} {i : Nat} {p : Item} (hi : i + 1 = acc.length) (h : acc[i]? = some p) : behindB acc k = decide (Lt p.key k) := by
  unfold behindB
  rw [show acc.length - 1 = i from by omega, h]

/-- What tree.load's closure leaves. -/
def NodeG (ks : List Int) (l : List UInt8) (base bn be_ : Nat) (w1 w2 : World) (out : Except Int (List UInt8)) : Prop :=
  (match out with
  | .ok r => ∃ nd A cap, pNode ks l = some (nd, r) ∧ Blk w2 bn 113 [I nd.level, .slice A nd.items.length cap] ∧ Own kItem w2 base A cap nd.items
  | .error c => pNode ks l = none ∧ c ≠ 0 ∧ ∃ lv A m cap, Blk w2 bn 113 [I lv, .slice A m cap]) ∧ Ext (fun k => k = bn ∨ k = be_) w1 w2

theorem tree_right_t (w : World) (k : ByteArray) (h : rightK k) :
    Ret Tryz.prog 67 [S k] w fun v w' => v = B true ∧ w = w' := by
  refine calls_of_XC Tryz.func67 rfl rfl ?_
  refine .seq ?_
  refine .region ?_
  refine xo.done 1 [(0, S k)] (by kernel_rfl) rfl (by kernel_rfl) ?_
  refine .seq ?_
  refine .region ?_
  refine xo.val 1 (by kernel_rfl) (s_neq_f (show ¬ (k = (⟨#[]⟩)) from h.1)) ?_
  refine xo.val 3 (by kernel_rfl) (c_leq_t (show ((k.size : Int) : Int) ≤ 64 from h.2)) ?_
  refine xo.done 2 [(2, B true)] (by kernel_rfl) rfl (by kernel_rfl) ?_
  refine .ret ?_
  refine ⟨[B true], by kernel_rfl, _, rfl, ?_⟩
  exact ⟨rfl, rfl⟩

theorem tree_right_f (w : World) (k : ByteArray) (h : ¬ rightK k) :
    Ret Tryz.prog 67 [S k] w fun v w' => v = B false ∧ w = w' := by
  refine calls_of_XC Tryz.func67 rfl rfl ?_
  refine .seq ?_
  refine .region ?_
  refine xo.done 1 [(0, S k)] (by kernel_rfl) rfl (by kernel_rfl) ?_
  refine .seq ?_
  refine .region ?_
  by_cases hc1 : k = (⟨#[]⟩)
  · refine xo.val 1 (by kernel_rfl) (s_neq_t hc1) ?_
    refine xo.done 6 [(2, B false)] (by kernel_rfl) rfl (by kernel_rfl) ?_
    refine .ret ?_
    refine ⟨[B false], by kernel_rfl, _, rfl, ?_⟩
    exact ⟨rfl, rfl⟩
  · refine xo.val 1 (by kernel_rfl) (s_neq_f hc1) ?_
    by_cases hc2 : ((k.size : Int) : Int) ≤ 64
    · refine xo.val 3 (by kernel_rfl) (c_leq_t hc2) ?_
      refine xo.done 2 [(2, B true)] (by kernel_rfl) rfl (by kernel_rfl) ?_
      refine .ret ?_
      refine ⟨[B true], by kernel_rfl, _, rfl, ?_⟩
      exact absurd (show rightK k from ⟨by assumption, by assumption⟩) h
    · refine xo.val 3 (by kernel_rfl) (c_leq_f hc2) ?_
      refine xo.done 2 [(2, B false)] (by kernel_rfl) rfl (by kernel_rfl) ?_
      refine .ret ?_
      refine ⟨[B false], by kernel_rfl, _, rfl, ?_⟩
      exact ⟨rfl, rfl⟩

set_option maxHeartbeats 4000000 in
theorem node_look (w : World) (be_ bn_ bb_ : Nat) (l : List UInt8) (K : Option Addr) (kcap : Nat) (ks : List Int) (dt : ByteArray) (he : Blk w be_ 135 [S (bs l), B true]) (hn : Blk w bn_ 113 [I 0, .slice none 0 0]) (hb : Blk w bb_ 147 [.slice K ks.length kcap, S dt]) (hK : Kids w K ks) :
    Calls Tryz.prog 92 [Pt be_ 0, Pt bn_ 0, Pt bb_ 0].toArray w fun v w' => ∃ out, LookPost be_ v w' out ∧ NodeG ks l w.heap.size bn_ be_ w w' out := by
  have nNE : bn_ ≠ be_ := Blk.ne hn he rfl
  have nBE : bb_ ≠ be_ := Blk.ne hb he rfl
  have nBN : bb_ ≠ bn_ := Blk.ne hb hn rfl
  have lE := he.lt
  have lN := hn.lt
  have lB := hb.lt
  have hk16 := hK.1
  refine calls_of_XC Tryz.func92 rfl rfl ?_
  refine .seq ?_
  refine .region ?_
  by_cases hn2 : 1 ≤ l.length
  · refine xo.ret 1 (by kernel_rfl) (cf44 _ _) (eye_num _ be_ l he 1 (by omega) (by omega) hn2) ?_
    rintro _ w3 ⟨rfl, hb1, hx4⟩
    have z3 := hx4.size
    have hb5 := (hn.ext hx4 nNE)
    refine xo.store 1 3 (o := 0) (I ((beNat (l.take 1) : Int))) [I ((beNat (l.take 1) : Int)), .slice none 0 0] (by kernel_rfl) hb5 (by kernel_rfl) (by kernel_rfl) (by kernel_rfl) (by kernel_rfl) ?_
    intro w6 hb7 hx8
    have z6 := hx8.size
    refine xo.done 0 [(0, Pt be_ 0), (1, Pt bn_ 0), (2, Pt bb_ 0)] (by kernel_rfl) rfl (by kernel_rfl) ?_
    refine .seq ?_
    refine .region ?_
    have hb9 := (hb1.ext hx8 nNE.symm)
    by_cases hn11 : 1 ≤ (l.drop 1).length
    · refine xo.ret 1 (by kernel_rfl) (cf44 _ _) (eye_num _ be_ (l.drop 1) hb9 1 (by omega) (by omega) hn11) ?_
      rintro _ w12 ⟨rfl, hb10, hx13⟩
      have z12 := hx13.size
      refine xo.done 1 [(0, Pt be_ 0), (1, Pt bn_ 0), (2, Pt bb_ 0), (4, I ((beNat ((l.drop 1).take 1) : Int)))] (by kernel_rfl) rfl (by kernel_rfl) ?_
      refine .seq ?_
      refine .seq ?_
      refine .region ?_
      have hb14 := (hb7.ext hx13 nNE)
      refine xo.val 1 (by kernel_rfl) (ldB (t := 3) (o := 0) (by kernel_rfl) hb14 rfl) ?_
      by_cases hc15 : ((beNat (l.take 1) : Int) : Int) ≤ 20
      · refine xo.val 0 (by kernel_rfl) (c_gtr_t hc15) ?_
        by_cases hc16 : ((beNat ((l.drop 1).take 1) : Int) : Int) < 1
        · refine xo.val 2 (by kernel_rfl) (c_lss_t hc16) ?_
          refine xo.done 28 [(0, Pt be_ 0), (1, Pt bn_ 0), (2, Pt bb_ 0), (4, I ((beNat ((l.drop 1).take 1) : Int))), (45, B true)] (by kernel_rfl) rfl (by kernel_rfl) ?_
          refine .condT rfl rfl ?_
          refine .region ?_
          refine xo.cpn 1 (by kernel_rfl) (cf45 _ _) (eye_fail _ be_ _ hb10 201) ?_
          rintro _ _ ⟨rfl, rfl⟩
          exact ⟨.error 201, ⟨(by decide), rfl, _, hb10⟩, ⟨⟨pNode_3 (by unfold badNode; omega), (by decide), _, _, _, _, hb14⟩, (((hx4.weak fun b hb (q : b = be_) => .inr q).trans' hx8 (fun _ _ h => h) (fun b hb (q : b = bn_) => .inl q)).trans' hx13 (fun _ _ h => h) (fun b hb (q : b = be_) => .inr q))⟩⟩
        · refine xo.val 2 (by kernel_rfl) (c_lss_f hc16) ?_
          by_cases hc17 : ((beNat ((l.drop 1).take 1) : Int) : Int) ≤ 8
          · refine xo.val 3 (by kernel_rfl) (c_gtr_t hc17) ?_
            refine xo.val 3 (by kernel_rfl) (ldB (t := 3) (o := 0) (by kernel_rfl) hb14 rfl) ?_
            by_cases hc18 : ((beNat (l.take 1) : Int) : Int) ≤ 0
            · refine xo.val 0 (by kernel_rfl) (c_gtr_t hc18) ?_
              refine xo.val 10 (by kernel_rfl) (ldB (t := 3) (o := 0) (by kernel_rfl) hb14 rfl) ?_
              refine xo.val 0 (by kernel_rfl) (c_eql_t (show ((beNat (l.take 1) : Int) : Int) = 0 from (by omega))) ?_
              have hb19 := (((hb.ext hx4 nBE).ext hx8 nBN).ext hx13 nBE)
              refine xo.val 2 (by kernel_rfl) (ldB (t := 90) (o := 0) (by kernel_rfl) hb19 rfl) ?_
              by_cases hc20 : ((ks.length : Int) : Int) ≤ 0
              · refine xo.val 1 (by kernel_rfl) (c_gtr_t hc20) ?_
                refine xo.done 2 [(0, Pt be_ 0), (1, Pt bn_ 0), (2, Pt bb_ 0), (4, I ((beNat ((l.drop 1).take 1) : Int))), (45, B false)] (by kernel_rfl) rfl (by kernel_rfl) ?_
                refine .condF rfl rfl ?_
                refine .skip ?_
                refine .seq ?_
                refine .region ?_
                refine xo.done 2 [(0, Pt be_ 0), (1, Pt bn_ 0), (2, Pt bb_ 0), (48, I ((beNat ((l.drop 1).take 1) : Int))), (49, I 0)] (by kernel_rfl) rfl (by kernel_rfl) ?_
                refine .block ?_
                have hbad : ¬ badNode (beNat (l.take 1)) (beNat ((l.drop 1).take 1)) ks.length := by unfold badNode; omega
                have hlv : beNat (l.take 1) = 0 := by omega
                refine XC.loop (ι := Option Addr × Nat × Nat × List Item × List UInt8) (fun ⟨A, cap, i, xs, r⟩ => [(0, Pt be_ 0), (1, Pt bn_ 0), (2, Pt bb_ 0), (48, I ((beNat ((l.drop 1).take 1) : Int))), (49, I (i : Int))]) (fun ⟨A, cap, i, xs, r⟩ u => Blk u be_ 135 [S (bs r), B true] ∧ Blk u bn_ 113 [I (beNat (l.take 1) : Int), .slice A xs.length cap] ∧ Own kItem u w.heap.size A cap xs ∧ Ext (fun k => k = bn_ ∨ k = be_) w u ∧ i ≤ beNat ((l.drop 1).take 1) ∧ xs.length = i ∧ pItems (beNat (l.take 1)) ks (beNat ((l.drop 1).take 1)) [] ((l.drop 1).drop 1) = pItems (beNat (l.take 1)) ks (beNat ((l.drop 1).take 1) - i) xs r) (fun ⟨A, cap, i, xs, r⟩ => beNat ((l.drop 1).take 1) - i) (none, 0, 0, [], (l.drop 1).drop 1) (cov_of (by kernel_rfl)) ⟨hb10, hb14, .nil, (((hx4.weak fun b hb (q : b = be_) => .inr q).trans' hx8 (fun _ _ h => h) (fun b hb (q : b = bn_) => .inl q)).trans' hx13 (fun _ _ h => h) (fun b hb (q : b = be_) => .inr q)), by omega, rfl, rfl⟩ ?_
                rintro ⟨A, cap, i, xs, r⟩ w21 ⟨hbe, hbn, hown, hE, him, hi, hI⟩
                have z21 := hE.size
                refine .seq ?_
                refine .region ?_
                by_cases hc22 : ((i : Int) : Int) < (beNat ((l.drop 1).take 1) : Int)
                · refine xo.val 0 (by kernel_rfl) (c_lss_t hc22) ?_
                  refine xo.done 0 [(0, Pt be_ 0), (1, Pt bn_ 0), (2, Pt bb_ 0), (48, I ((beNat ((l.drop 1).take 1) : Int))), (49, I (i : Int)), (50, B true)] (by kernel_rfl) rfl (by kernel_rfl) ?_
                  refine .seq ?_
                  refine .condT rfl rfl ?_
                  refine .skip ?_
                  refine .seq ?_
                  refine .block ?_
                  refine .seq ?_
                  refine .region ?_
                  refine xo.done 2 [(0, Pt be_ 0), (1, Pt bn_ 0), (2, Pt bb_ 0), (5, I (i : Int)), (48, I ((beNat ((l.drop 1).take 1) : Int))), (49, I (i : Int))] (by kernel_rfl) rfl (by kernel_rfl) ?_
                  refine .seq ?_
                  refine .region ?_
                  rcases hq24 : pText 64 r with _ | ⟨t25, r26⟩
                  · refine xo.cpn 1 (by kernel_rfl) (cf46 _ _) (eye_text_bad _ be_ r hbe 64 hq24) ?_
                    rintro _ w30 ⟨c27, hc28, rfl, ⟨s29, hb23⟩, hx31⟩
                    have z30 := hx31.size
                    have hb32 := (hbn.ext hx31 nNE)
                    exact ⟨.error c27, ⟨hc28, rfl, _, hb23⟩, ⟨⟨by rw [pNode_4 (by omega) (by assumption) hbad, hI, pItems_key (by omega) hq24]; rfl, hc28, _, _, _, _, hb32⟩, ((hE.weak fun b hb q => q).trans' hx31 (fun _ _ h => h) (fun b hb (q : b = be_) => .inr q))⟩⟩
                  · refine xo.ret 1 (by kernel_rfl) (cf46 _ _) (eye_text _ be_ r hbe 64 hq24) ?_
                    rintro _ w33 ⟨rfl, hb23, hx34⟩
                    have z33 := hx34.size
                    refine xo.alloc 1 119 [S (⟨#[]⟩), S (⟨#[]⟩), I 0] (by kernel_rfl) (by kernel_rfl) ?_
                    intro b35 w36 hb37 hx38 hg39
                    have z36 := hx38.size
                    have l37 := hb37.lt
                    refine xo.store 0 119 (o := 0) (.agg #[S (bs t25), S (⟨#[]⟩), I 0]) [S (bs t25), S (⟨#[]⟩), I 0] (by kernel_rfl) hb37 (by kernel_rfl) (by kernel_rfl) (by kernel_rfl) (by kernel_rfl) ?_
                    intro w40 hb41 hx42
                    have z40 := hx42.size
                    refine xo.done 0 [(0, Pt be_ 0), (1, Pt bn_ 0), (2, Pt bb_ 0), (5, I (i : Int)), (6, Pt b35 0), (48, I ((beNat ((l.drop 1).take 1) : Int))), (49, I (i : Int))] (by kernel_rfl) rfl (by kernel_rfl) ?_
                    refine .seq ?_
                    refine .seq ?_
                    refine .region ?_
                    have hb43 := (((hbn.ext hx34 nNE).ext hx38 (fun h => h)).ext hx42 (show bn_ ≠ b35 by omega))
                    refine xo.val 1 (by kernel_rfl) (ldB (t := 3) (o := 0) (by kernel_rfl) hb43 rfl) ?_
                    refine xo.val 0 (by kernel_rfl) (c_gtr_t (show ((beNat (l.take 1) : Int) : Int) ≤ 0 from (by omega))) ?_
                    refine xo.done 0 [(0, Pt be_ 0), (1, Pt bn_ 0), (2, Pt bb_ 0), (5, I (i : Int)), (6, Pt b35 0), (48, I ((beNat ((l.drop 1).take 1) : Int))), (49, I (i : Int)), (57, B false)] (by kernel_rfl) rfl (by kernel_rfl) ?_
                    refine .condF rfl rfl ?_
                    refine .region ?_
                    have hb44 := ((hb23.ext hx38 (fun h => h)).ext hx42 (show be_ ≠ b35 by omega))
                    rcases hq46 : pText 300 r26 with _ | ⟨t47, r48⟩
                    · refine xo.cpn 1 (by kernel_rfl) (cf46 _ _) (eye_text_bad _ be_ r26 hb44 300 hq46) ?_
                      rintro _ w52 ⟨c49, hc50, rfl, ⟨s51, hb45⟩, hx53⟩
                      have z52 := hx53.size
                      have hb54 := (hb43.ext hx53 nNE)
                      exact ⟨.error c49, ⟨hc50, rfl, _, hb45⟩, ⟨⟨by rw [pNode_4 (by omega) (by assumption) hbad, hI, pItems_val (by omega) hq24 (by omega) hq46]; rfl, hc50, _, _, _, _, hb54⟩, (((((hE.weak fun b hb q => q).trans' hx34 (fun _ _ h => h) (fun b hb (q : b = be_) => .inr q)).trans' hx38 (fun _ _ h => h) (fun b hb h => h.elim)).trans' hx42 (fun _ _ h => h) (fun b hb (q : b = b35) => absurd hb (by omega))).trans' hx53 (fun _ _ h => h) (fun b hb (q : b = be_) => .inr q))⟩⟩
                    · refine xo.ret 1 (by kernel_rfl) (cf46 _ _) (eye_text _ be_ r26 hb44 300 hq46) ?_
                      rintro _ w55 ⟨rfl, hb45, hx56⟩
                      have z55 := hx56.size
                      have hb57 := (hb41.ext hx56 (show b35 ≠ be_ by omega))
                      refine xo.store 1 9 (o := 1) (S (bs t47)) [S (bs t25), S (bs t47), I 0] (by kernel_rfl) hb57 (by kernel_rfl) (by kernel_rfl) (by kernel_rfl) (by kernel_rfl) ?_
                      intro w58 hb59 hx60
                      have z58 := hx60.size
                      refine xo.done 0 [(0, Pt be_ 0), (1, Pt bn_ 0), (2, Pt bb_ 0), (5, I (i : Int)), (6, Pt b35 0), (48, I ((beNat ((l.drop 1).take 1) : Int))), (49, I (i : Int))] (by kernel_rfl) rfl (by kernel_rfl) ?_
                      refine .seq ?_
                      refine .seq ?_
                      have hb65 := ((hb43.ext hx56 nNE).ext hx60 (show bn_ ≠ b35 by omega))
                      have hs66 := (((((hown.ext hx34 (fun b hb (e : b = be_) => hown.ne hbe rfl (e ▸ hb))).ext hx38 (fun _ _ h => h)).ext hx42 (fun b hb (e : b = b35) => by have := (hown.lt hb).2; omega)).ext hx56 (fun b hb (e : b = be_) => (((hown.ext hx34 (fun b hb (e : b = be_) => hown.ne hbe rfl (e ▸ hb))).ext hx38 (fun _ _ h => h)).ext hx42 (fun b hb (e : b = b35) => by have := (hown.lt hb).2; omega)).ne hb44 rfl (e ▸ hb))).ext hx60 (fun b hb (e : b = b35) => by have := (hown.lt hb).2; omega))
                      refine XC.regionDraw (fun u => Blk u b35 119 [S (bs t25), S (bs t47), I 0] ∧ Blk u bn_ 113 [I ((beNat (l.take 1) : Int)), .slice A xs.length cap] ∧ Own kItem u w.heap.size A cap xs ∧ True) (by kernel_rfl) ?_
                      intro w63 hd64
                      have hx64 := Ext.ofDrew (M := No) hd64
                      have z63 := hx64.size
                      have hb67 := (hb59.ext hx64 (fun h => h))
                      have hb68 := (hb65.ext hx64 (fun h => h))
                      have hs69 := (hs66.ext hx64 (fun _ _ h => h))
                      refine ⟨⟨hb67, hb68, hs69, trivial⟩, ?_⟩
                      refine xd.q (fun _ _ _ _ h => h) 0 (Pt b35 0) (by kernel_rfl) (by kernel_rfl) (by kernel_rfl) ?_
                      refine xd.rd (fun _ _ _ _ h => h) 1 (by kernel_rfl) (by kernel_rfl) (by kernel_rfl) (fun u hS => (ldB (t := 9) (o := 0) (by kernel_rfl) hS.1 rfl)) ?_
                      refine xd.one 2 (by kernel_rfl) ?_
                      by_cases hr70 : rightK (bs t25)
                      · refine xo.ret 0 (by kernel_rfl) (cf67 _ _) (tree_right_t _ (bs t25) hr70) ?_
                        rintro _ _ ⟨rfl, rfl⟩
                        refine xo.fin 0 (by kernel_rfl) rfl ?_
                        refine ⟨⟨hb67, hb68, hs69, trivial⟩, ?_⟩
                        refine xd.q (fun _ _ _ _ h => h) 3 (B false) (by kernel_rfl) (by kernel_rfl) (by kernel_rfl) ?_
                        refine xd.q (fun _ _ _ _ h => h) 4 (B false) (by kernel_rfl) (by kernel_rfl) (by kernel_rfl) ?_
                        refine xd.q (fun _ _ _ _ h => h) 5 (I (i : Int)) (by kernel_rfl) (by kernel_rfl) (by kernel_rfl) ?_
                        by_cases hc71 : ((i : Int) : Int) ≤ 0
                        · refine xd.rd (fun _ _ _ _ h => h) 6 (by kernel_rfl) (by kernel_rfl) (by kernel_rfl) (fun u hS => (c_gtr_t hc71)) ?_
                          refine xd.q (fun _ _ _ _ h => h) 7 (B false) (by kernel_rfl) (by kernel_rfl) (by kernel_rfl) ?_
                          refine xd.no (fun _ _ _ _ h => h) 8 (by kernel_rfl) (by kernel_rfl) ?_
                          refine xd.no (fun _ _ _ _ h => h) 9 (by kernel_rfl) (by kernel_rfl) ?_
                          refine xd.no (fun _ _ _ _ h => h) 10 (by kernel_rfl) (by kernel_rfl) ?_
                          refine xd.no (fun _ _ _ _ h => h) 11 (by kernel_rfl) (by kernel_rfl) ?_
                          refine xd.no (fun _ _ _ _ h => h) 12 (by kernel_rfl) (by kernel_rfl) ?_
                          refine xd.no (fun _ _ _ _ h => h) 13 (by kernel_rfl) (by kernel_rfl) ?_
                          refine xd.no (fun _ _ _ _ h => h) 14 (by kernel_rfl) (by kernel_rfl) ?_
                          refine xd.no (fun _ _ _ _ h => h) 15 (by kernel_rfl) (by kernel_rfl) ?_
                          refine xd.no (fun _ _ _ _ h => h) 16 (by kernel_rfl) (by kernel_rfl) ?_
                          refine xd.no (fun _ _ _ _ h => h) 17 (by kernel_rfl) (by kernel_rfl) ?_
                          refine xd.q (fun _ _ _ _ h => h) 18 (B false) (by kernel_rfl) (by kernel_rfl) (by kernel_rfl) ?_
                          refine xd.q (fun _ _ _ _ h => h) 19 (B false) (by kernel_rfl) (by kernel_rfl) (by kernel_rfl) ?_
                          refine xd.done (by kernel_rfl) ?_
                          refine .cov [(0, Pt be_ 0), (1, Pt bn_ 0), (2, Pt bb_ 0), (6, Pt b35 0), (48, I ((beNat ((l.drop 1).take 1) : Int))), (49, I (i : Int)), (86, B false)] (cov_of (by kernel_rfl)) ?_
                          refine .condF rfl rfl ?_
                          refine .skip ?_
                          refine .region ?_
                          refine xo.val 1 (by kernel_rfl) (ldB (t := 111) (o := 1) (by kernel_rfl) hb68 rfl) ?_
                          refine xo.val 0 (by kernel_rfl) (ldBA (t := 119) (o := 0) (vs := [S (bs t25), S (bs t47), I 0]) (by kernel_rfl) hb67 rfl) ?_
                          refine xo.bsl 0 111 1 #[(0, .agg #[S (bs t25), S (bs t47), I 0])] (et := 119) (cs := [S (bs t25), S (bs t47), I 0]) (by kernel_rfl) (by kernel_rfl) ?_
                          intro b72 w73 hb74 hx75 hg76
                          have z73 := hx75.size
                          have l74 := hb74.lt
                          have hs77 := (hs69.ext hx75 (fun _ _ h => h))
                          refine xo.app 0 (ty := 111) (k := kItem) (t := 111) (tx := 111) (xs := xs) (ys := [(⟨bs t25, bs t47, 0⟩ : Item)]) (x := .slice (some ⟨b72, 0, none⟩) 1 1) (by exact pItem) hs77 (src_one (k := kItem) (x := (⟨bs t25, bs t47, 0⟩ : Item)) (by kernel_rfl) hb74 rfl) (by omega) (show (xs.length + 1) * 40 ≤ 140737488355328 from (by first | omega | (simp only [List.length_append, List.length_cons, List.length_nil]; omega))) (show xs.length + 1 ≤ 9223372036854775807 from (by first | omega | (simp only [List.length_append, List.length_cons, List.length_nil]; omega))) (by kernel_rfl) ?_
                          intro A78 c79 w80 ho81 hx82
                          have z80 := hx82.size
                          have hb83 := ((hb68.ext hx75 (fun h => h)).ext hx82 (hs77.ne (hb68.ext hx75 (fun h => h)) rfl))
                          refine xo.store 1 111 (o := 1) (.slice A78 ((xs ++ [(⟨bs t25, bs t47, 0⟩ : Item)]).length) c79) [I ((beNat (l.take 1) : Int)), .slice A78 ((xs ++ [(⟨bs t25, bs t47, 0⟩ : Item)]).length) c79] (by kernel_rfl) hb83 (by kernel_rfl) (by kernel_rfl) (by kernel_rfl) (by kernel_rfl) ?_
                          intro w84 hb85 hx86
                          have z84 := hx86.size
                          refine xo.done 0 [(0, Pt be_ 0), (1, Pt bn_ 0), (2, Pt bb_ 0), (48, I ((beNat ((l.drop 1).take 1) : Int))), (49, I (i : Int))] (by kernel_rfl) rfl (by kernel_rfl) ?_
                          refine .region ?_
                          refine xo.val 0 (by kernel_rfl) (a_add (a := (i : Int)) (b := 1) (by omega) (by omega)) ?_
                          refine xo.fin 1 (by kernel_rfl) rfl ?_
                          have hb87 := (((((hb45.ext hx60 (show be_ ≠ b35 by omega)).ext hx64 (fun h => h)).ext hx75 (fun h => h)).ext hx82 (hs77.ne (((hb45.ext hx60 (show be_ ≠ b35 by omega)).ext hx64 (fun h => h)).ext hx75 (fun h => h)) rfl)).ext hx86 nNE.symm)
                          have hs88 := (ho81.ext hx86 (fun b hb (e : b = bn_) => ho81.ne hb83 rfl (e ▸ hb)))
                          refine ⟨(A78, c79, i + 1, xs ++ [(⟨bs t25, bs t47, 0⟩ : Item)], r48), cov_of (by kernel_rfl), ⟨hb87, hb85, hs88, ((((((((((hE.weak fun b hb q => q).trans' hx34 (fun _ _ h => h) (fun b hb (q : b = be_) => .inr q)).trans' hx38 (fun _ _ h => h) (fun b hb h => h.elim)).trans' hx42 (fun _ _ h => h) (fun b hb (q : b = b35) => absurd hb (by omega))).trans' hx56 (fun _ _ h => h) (fun b hb (q : b = be_) => .inr q)).trans' hx60 (fun _ _ h => h) (fun b hb (q : b = b35) => absurd hb (by omega))).trans' hx64 (fun _ _ h => h) (fun b hb h => h.elim)).trans' hx75 (fun _ _ h => h) (fun b hb h => h.elim)).trans' hx82 (fun _ _ h => h) (fun b hb hm => absurd (hs77.lt hm).1 (by omega))).trans' hx86 (fun _ _ h => h) (fun b hb (q : b = bn_) => .inl q)), by omega, by simpa using hi, ?_⟩, by show beNat ((l.drop 1).take 1) - (i + 1) < beNat ((l.drop 1).take 1) - i; omega⟩
                          rw [hI, show beNat ((l.drop 1).take 1) - i = (beNat ((l.drop 1).take 1) - (i + 1)) + 1 by omega]
                          exact pItems_ok (k := t25) (r := r26) (r' := r48) (x := (⟨bs t25, bs t47, 0⟩ : Item)) hq24 (by simp only [pVal, if_neg (show ¬ 0 < beNat (l.take 1) by omega), hq46]) ⟨hr70, behindB_0 (by omega)⟩
                        · refine xd.rd (fun _ _ _ _ h => h) 6 (by kernel_rfl) (by kernel_rfl) (by kernel_rfl) (fun u hS => (c_gtr_f hc71)) ?_
                          refine xd.q (fun _ _ _ _ h => h) 7 (B true) (by kernel_rfl) (by kernel_rfl) (by kernel_rfl) ?_
                          refine xd.q (fun _ _ _ _ h => h) 8 (Pt b35 0) (by kernel_rfl) (by kernel_rfl) (by kernel_rfl) ?_
                          refine xd.rd (fun _ _ _ _ h => h) 9 (by kernel_rfl) (by kernel_rfl) (by kernel_rfl) (fun u hS => (ldB (t := 9) (o := 0) (by kernel_rfl) hS.1 rfl)) ?_
                          refine xd.q (fun _ _ _ _ h => h) 10 (Pt bn_ 1) (by kernel_rfl) (by kernel_rfl) (by kernel_rfl) ?_
                          refine xd.rd (fun _ _ _ _ h => h) 11 (by kernel_rfl) (by kernel_rfl) (by kernel_rfl) (fun u hS => (ldB (t := 111) (o := 1) (by kernel_rfl) hS.2.1 rfl)) ?_
                          refine xd.q (fun _ _ _ _ h => h) 12 (I (i : Int)) (by kernel_rfl) (by kernel_rfl) (by kernel_rfl) ?_
                          refine xd.rd (fun _ _ _ _ h => h) 13 (by kernel_rfl) (by kernel_rfl) (by kernel_rfl) (fun u hS => (a_sub (a := (i : Int)) (b := 1) (by omega) (by omega))) ?_
                          obtain ⟨b89, o90, x91, hi92, hA93, hl94, hh95, hr96⟩ := hs69.rd.at_ (((i : Int) - 1).toNat) (by omega)
                          refine xd.rd (fun _ _ _ _ h => h) 14 (by kernel_rfl) (by kernel_rfl) (by kernel_rfl) (fun u hS => (idxZ (kk := .i64) (t := 111) (n := xs.length) (cap := cap) (sz := 3) (i := (i : Int) - 1) (by kernel_rfl) hA93 (by omega) (by omega))) ?_
                          refine xd.q (fun _ _ _ _ h => h) 15 (Pt b89 (o90 + (((i : Int) - 1).toNat) * 3)) (by kernel_rfl) (by kernel_rfl) (by kernel_rfl) ?_
                          refine xd.rd (fun _ _ _ _ h => h) 16 (by kernel_rfl) (by kernel_rfl) (by kernel_rfl) (fun u hS => (ld (t := 9) (by kernel_rfl) ((Rd.cs hS.2.2.1.rd hA93 hi92) 0 _ rfl))) ?_
                          by_cases hc97 : Lt x91.key (bs t25)
                          · refine xd.rd (fun _ _ _ _ h => h) 17 (by kernel_rfl) (by kernel_rfl) (by kernel_rfl) (fun u hS => (s_leq_t hc97)) ?_
                            refine xd.q (fun _ _ _ _ h => h) 18 (B false) (by kernel_rfl) (by kernel_rfl) (by kernel_rfl) ?_
                            refine xd.q (fun _ _ _ _ h => h) 19 (B false) (by kernel_rfl) (by kernel_rfl) (by kernel_rfl) ?_
                            refine xd.done (by kernel_rfl) ?_
                            refine .cov [(0, Pt be_ 0), (1, Pt bn_ 0), (2, Pt bb_ 0), (6, Pt b35 0), (48, I ((beNat ((l.drop 1).take 1) : Int))), (49, I (i : Int)), (86, B false)] (cov_of (by kernel_rfl)) ?_
                            refine .condF rfl rfl ?_
                            refine .skip ?_
                            refine .region ?_
                            refine xo.val 1 (by kernel_rfl) (ldB (t := 111) (o := 1) (by kernel_rfl) hb68 rfl) ?_
                            refine xo.val 0 (by kernel_rfl) (ldBA (t := 119) (o := 0) (vs := [S (bs t25), S (bs t47), I 0]) (by kernel_rfl) hb67 rfl) ?_
                            refine xo.bsl 0 111 1 #[(0, .agg #[S (bs t25), S (bs t47), I 0])] (et := 119) (cs := [S (bs t25), S (bs t47), I 0]) (by kernel_rfl) (by kernel_rfl) ?_
                            intro b98 w99 hb100 hx101 hg102
                            have z99 := hx101.size
                            have l100 := hb100.lt
                            have hs103 := (hs69.ext hx101 (fun _ _ h => h))
                            refine xo.app 0 (ty := 111) (k := kItem) (t := 111) (tx := 111) (xs := xs) (ys := [(⟨bs t25, bs t47, 0⟩ : Item)]) (x := .slice (some ⟨b98, 0, none⟩) 1 1) (by exact pItem) hs103 (src_one (k := kItem) (x := (⟨bs t25, bs t47, 0⟩ : Item)) (by kernel_rfl) hb100 rfl) (by omega) (show (xs.length + 1) * 40 ≤ 140737488355328 from (by first | omega | (simp only [List.length_append, List.length_cons, List.length_nil]; omega))) (show xs.length + 1 ≤ 9223372036854775807 from (by first | omega | (simp only [List.length_append, List.length_cons, List.length_nil]; omega))) (by kernel_rfl) ?_
                            intro A104 c105 w106 ho107 hx108
                            have z106 := hx108.size
                            have hb109 := ((hb68.ext hx101 (fun h => h)).ext hx108 (hs103.ne (hb68.ext hx101 (fun h => h)) rfl))
                            refine xo.store 1 111 (o := 1) (.slice A104 ((xs ++ [(⟨bs t25, bs t47, 0⟩ : Item)]).length) c105) [I ((beNat (l.take 1) : Int)), .slice A104 ((xs ++ [(⟨bs t25, bs t47, 0⟩ : Item)]).length) c105] (by kernel_rfl) hb109 (by kernel_rfl) (by kernel_rfl) (by kernel_rfl) (by kernel_rfl) ?_
                            intro w110 hb111 hx112
                            have z110 := hx112.size
                            refine xo.done 0 [(0, Pt be_ 0), (1, Pt bn_ 0), (2, Pt bb_ 0), (48, I ((beNat ((l.drop 1).take 1) : Int))), (49, I (i : Int))] (by kernel_rfl) rfl (by kernel_rfl) ?_
                            refine .region ?_
                            refine xo.val 0 (by kernel_rfl) (a_add (a := (i : Int)) (b := 1) (by omega) (by omega)) ?_
                            refine xo.fin 1 (by kernel_rfl) rfl ?_
                            have hb113 := (((((hb45.ext hx60 (show be_ ≠ b35 by omega)).ext hx64 (fun h => h)).ext hx101 (fun h => h)).ext hx108 (hs103.ne (((hb45.ext hx60 (show be_ ≠ b35 by omega)).ext hx64 (fun h => h)).ext hx101 (fun h => h)) rfl)).ext hx112 nNE.symm)
                            have hs114 := (ho107.ext hx112 (fun b hb (e : b = bn_) => ho107.ne hb109 rfl (e ▸ hb)))
                            refine ⟨(A104, c105, i + 1, xs ++ [(⟨bs t25, bs t47, 0⟩ : Item)], r48), cov_of (by kernel_rfl), ⟨hb113, hb111, hs114, ((((((((((hE.weak fun b hb q => q).trans' hx34 (fun _ _ h => h) (fun b hb (q : b = be_) => .inr q)).trans' hx38 (fun _ _ h => h) (fun b hb h => h.elim)).trans' hx42 (fun _ _ h => h) (fun b hb (q : b = b35) => absurd hb (by omega))).trans' hx56 (fun _ _ h => h) (fun b hb (q : b = be_) => .inr q)).trans' hx60 (fun _ _ h => h) (fun b hb (q : b = b35) => absurd hb (by omega))).trans' hx64 (fun _ _ h => h) (fun b hb h => h.elim)).trans' hx101 (fun _ _ h => h) (fun b hb h => h.elim)).trans' hx108 (fun _ _ h => h) (fun b hb hm => absurd (hs103.lt hm).1 (by omega))).trans' hx112 (fun _ _ h => h) (fun b hb (q : b = bn_) => .inl q)), by omega, by simpa using hi, ?_⟩, by show beNat ((l.drop 1).take 1) - (i + 1) < beNat ((l.drop 1).take 1) - i; omega⟩
                            rw [hI, show beNat ((l.drop 1).take 1) - i = (beNat ((l.drop 1).take 1) - (i + 1)) + 1 by omega]
                            exact pItems_ok (k := t25) (r := r26) (r' := r48) (x := (⟨bs t25, bs t47, 0⟩ : Item)) hq24 (by simp only [pVal, if_neg (show ¬ 0 < beNat (l.take 1) by omega), hq46]) ⟨hr70, (by rw [behindB_at (by omega) hi92]; simpa using hc97)⟩
                          · refine xd.rd (fun _ _ _ _ h => h) 17 (by kernel_rfl) (by kernel_rfl) (by kernel_rfl) (fun u hS => (s_leq_f hc97)) ?_
                            refine xd.q (fun _ _ _ _ h => h) 18 (B true) (by kernel_rfl) (by kernel_rfl) (by kernel_rfl) ?_
                            refine xd.q (fun _ _ _ _ h => h) 19 (B true) (by kernel_rfl) (by kernel_rfl) (by kernel_rfl) ?_
                            refine xd.done (by kernel_rfl) ?_
                            refine .cov [(0, Pt be_ 0), (1, Pt bn_ 0), (2, Pt bb_ 0), (6, Pt b35 0), (48, I ((beNat ((l.drop 1).take 1) : Int))), (49, I (i : Int)), (86, B true)] (cov_of (by kernel_rfl)) ?_
                            refine .condT rfl rfl ?_
                            refine .region ?_
                            have hb115 := ((hb45.ext hx60 (show be_ ≠ b35 by omega)).ext hx64 (fun h => h))
                            refine xo.cpn 1 (by kernel_rfl) (cf45 _ _) (eye_fail _ be_ _ hb115 201) ?_
                            rintro _ _ ⟨rfl, rfl⟩
                            exact ⟨.error 201, ⟨(by decide), rfl, _, hb115⟩, ⟨⟨by rw [pNode_4 (by omega) (by assumption) hbad, hI, pItems_bad (k := t25) (r := r26) (r' := r48) (x := (⟨bs t25, bs t47, 0⟩ : Item)) (by omega) hq24 (by simp only [pVal, if_neg (show ¬ 0 < beNat (l.take 1) by omega), hq46]) (fun q => absurd q.2 (by rw [behindB_at (by omega) hi92]; simpa using hc97))]; rfl, (by decide), _, _, _, _, hb68⟩, (((((((hE.weak fun b hb q => q).trans' hx34 (fun _ _ h => h) (fun b hb (q : b = be_) => .inr q)).trans' hx38 (fun _ _ h => h) (fun b hb h => h.elim)).trans' hx42 (fun _ _ h => h) (fun b hb (q : b = b35) => absurd hb (by omega))).trans' hx56 (fun _ _ h => h) (fun b hb (q : b = be_) => .inr q)).trans' hx60 (fun _ _ h => h) (fun b hb (q : b = b35) => absurd hb (by omega))).trans' hx64 (fun _ _ h => h) (fun b hb h => h.elim))⟩⟩
                      · refine xo.ret 0 (by kernel_rfl) (cf67 _ _) (tree_right_f _ (bs t25) hr70) ?_
                        rintro _ _ ⟨rfl, rfl⟩
                        refine xo.fin 0 (by kernel_rfl) rfl ?_
                        refine ⟨⟨hb67, hb68, hs69, trivial⟩, ?_⟩
                        refine xd.q (fun _ _ _ _ h => h) 3 (B true) (by kernel_rfl) (by kernel_rfl) (by kernel_rfl) ?_
                        refine xd.q (fun _ _ _ _ h => h) 4 (B true) (by kernel_rfl) (by kernel_rfl) (by kernel_rfl) ?_
                        refine xd.no (fun _ _ _ _ h => h) 5 (by kernel_rfl) (by kernel_rfl) ?_
                        refine xd.no (fun _ _ _ _ h => h) 6 (by kernel_rfl) (by kernel_rfl) ?_
                        refine xd.no (fun _ _ _ _ h => h) 7 (by kernel_rfl) (by kernel_rfl) ?_
                        refine xd.no (fun _ _ _ _ h => h) 8 (by kernel_rfl) (by kernel_rfl) ?_
                        refine xd.no (fun _ _ _ _ h => h) 9 (by kernel_rfl) (by kernel_rfl) ?_
                        refine xd.no (fun _ _ _ _ h => h) 10 (by kernel_rfl) (by kernel_rfl) ?_
                        refine xd.no (fun _ _ _ _ h => h) 11 (by kernel_rfl) (by kernel_rfl) ?_
                        refine xd.no (fun _ _ _ _ h => h) 12 (by kernel_rfl) (by kernel_rfl) ?_
                        refine xd.no (fun _ _ _ _ h => h) 13 (by kernel_rfl) (by kernel_rfl) ?_
                        refine xd.no (fun _ _ _ _ h => h) 14 (by kernel_rfl) (by kernel_rfl) ?_
                        refine xd.no (fun _ _ _ _ h => h) 15 (by kernel_rfl) (by kernel_rfl) ?_
                        refine xd.no (fun _ _ _ _ h => h) 16 (by kernel_rfl) (by kernel_rfl) ?_
                        refine xd.no (fun _ _ _ _ h => h) 17 (by kernel_rfl) (by kernel_rfl) ?_
                        refine xd.no (fun _ _ _ _ h => h) 18 (by kernel_rfl) (by kernel_rfl) ?_
                        refine xd.q (fun _ _ _ _ h => h) 19 (B true) (by kernel_rfl) (by kernel_rfl) (by kernel_rfl) ?_
                        refine xd.done (by kernel_rfl) ?_
                        refine .cov [(0, Pt be_ 0), (1, Pt bn_ 0), (2, Pt bb_ 0), (6, Pt b35 0), (48, I ((beNat ((l.drop 1).take 1) : Int))), (49, I (i : Int)), (86, B true)] (cov_of (by kernel_rfl)) ?_
                        refine .condT rfl rfl ?_
                        refine .region ?_
                        have hb116 := ((hb45.ext hx60 (show be_ ≠ b35 by omega)).ext hx64 (fun h => h))
                        refine xo.cpn 1 (by kernel_rfl) (cf45 _ _) (eye_fail _ be_ _ hb116 201) ?_
                        rintro _ _ ⟨rfl, rfl⟩
                        exact ⟨.error 201, ⟨(by decide), rfl, _, hb116⟩, ⟨⟨by rw [pNode_4 (by omega) (by assumption) hbad, hI, pItems_bad (k := t25) (r := r26) (r' := r48) (x := (⟨bs t25, bs t47, 0⟩ : Item)) (by omega) hq24 (by simp only [pVal, if_neg (show ¬ 0 < beNat (l.take 1) by omega), hq46]) (fun q => hr70 q.1)]; rfl, (by decide), _, _, _, _, hb68⟩, (((((((hE.weak fun b hb q => q).trans' hx34 (fun _ _ h => h) (fun b hb (q : b = be_) => .inr q)).trans' hx38 (fun _ _ h => h) (fun b hb h => h.elim)).trans' hx42 (fun _ _ h => h) (fun b hb (q : b = b35) => absurd hb (by omega))).trans' hx56 (fun _ _ h => h) (fun b hb (q : b = be_) => .inr q)).trans' hx60 (fun _ _ h => h) (fun b hb (q : b = b35) => absurd hb (by omega))).trans' hx64 (fun _ _ h => h) (fun b hb h => h.elim))⟩⟩
                · refine xo.val 0 (by kernel_rfl) (c_lss_f hc22) ?_
                  refine xo.done 0 [(0, Pt be_ 0), (1, Pt bn_ 0), (2, Pt bb_ 0), (48, I ((beNat ((l.drop 1).take 1) : Int))), (49, I (i : Int)), (50, B false)] (by kernel_rfl) rfl (by kernel_rfl) ?_
                  refine .seq ?_
                  refine .condF rfl rfl ?_
                  refine .exit ?_
                  refine xsetTo ?_
                  refine ⟨[], by kernel_rfl, ?_⟩
                  have hi9 : i = beNat ((l.drop 1).take 1) := by omega
                  exact ⟨.ok r, ⟨rfl, hbe⟩, ⟨⟨⟨(beNat (l.take 1) : Int), xs⟩, A, cap, by rw [pNode_4 (by omega) (by assumption) hbad, hI, hi9, Nat.sub_self]; rfl, hbn, hown⟩, (hE.weak fun b hb q => q)⟩⟩
              · refine xo.val 1 (by kernel_rfl) (c_gtr_f hc20) ?_
                refine xo.done 2 [(0, Pt be_ 0), (1, Pt bn_ 0), (2, Pt bb_ 0), (4, I ((beNat ((l.drop 1).take 1) : Int))), (45, B true)] (by kernel_rfl) rfl (by kernel_rfl) ?_
                refine .condT rfl rfl ?_
                refine .region ?_
                refine xo.cpn 1 (by kernel_rfl) (cf45 _ _) (eye_fail _ be_ _ hb10 201) ?_
                rintro _ _ ⟨rfl, rfl⟩
                exact ⟨.error 201, ⟨(by decide), rfl, _, hb10⟩, ⟨⟨pNode_3 (by unfold badNode; omega), (by decide), _, _, _, _, hb14⟩, (((hx4.weak fun b hb (q : b = be_) => .inr q).trans' hx8 (fun _ _ h => h) (fun b hb (q : b = bn_) => .inl q)).trans' hx13 (fun _ _ h => h) (fun b hb (q : b = be_) => .inr q))⟩⟩
            · refine xo.val 0 (by kernel_rfl) (c_gtr_f hc18) ?_
              have hb117 := (((hb.ext hx4 nBE).ext hx8 nBN).ext hx13 nBE)
              refine xo.val 3 (by kernel_rfl) (ldB (t := 90) (o := 0) (by kernel_rfl) hb117 rfl) ?_
              by_cases hc118 : ((beNat ((l.drop 1).take 1) : Int) : Int) = (ks.length : Int)
              · refine xo.val 1 (by kernel_rfl) (c_neq_t hc118) ?_
                refine xo.val 4 (by kernel_rfl) (ldB (t := 3) (o := 0) (by kernel_rfl) hb14 rfl) ?_
                refine xo.val 0 (by kernel_rfl) (c_eql_f (show ¬ (((beNat (l.take 1) : Int) : Int) = 0) from (by omega))) ?_
                refine xo.done 7 [(0, Pt be_ 0), (1, Pt bn_ 0), (2, Pt bb_ 0), (4, I ((beNat ((l.drop 1).take 1) : Int))), (45, B false)] (by kernel_rfl) rfl (by kernel_rfl) ?_
                refine .condF rfl rfl ?_
                refine .skip ?_
                refine .seq ?_
                refine .region ?_
                refine xo.done 2 [(0, Pt be_ 0), (1, Pt bn_ 0), (2, Pt bb_ 0), (48, I ((beNat ((l.drop 1).take 1) : Int))), (49, I 0)] (by kernel_rfl) rfl (by kernel_rfl) ?_
                refine .block ?_
                have hbad : ¬ badNode (beNat (l.take 1)) (beNat ((l.drop 1).take 1)) ks.length := by unfold badNode; omega
                have hlv : 0 < beNat (l.take 1) := by omega
                refine XC.loop (ι := Option Addr × Nat × Nat × List Item × List UInt8) (fun ⟨A, cap, i, xs, r⟩ => [(0, Pt be_ 0), (1, Pt bn_ 0), (2, Pt bb_ 0), (48, I ((beNat ((l.drop 1).take 1) : Int))), (49, I (i : Int))]) (fun ⟨A, cap, i, xs, r⟩ u => Blk u be_ 135 [S (bs r), B true] ∧ Blk u bn_ 113 [I (beNat (l.take 1) : Int), .slice A xs.length cap] ∧ Own kItem u w.heap.size A cap xs ∧ Ext (fun k => k = bn_ ∨ k = be_) w u ∧ i ≤ beNat ((l.drop 1).take 1) ∧ xs.length = i ∧ pItems (beNat (l.take 1)) ks (beNat ((l.drop 1).take 1)) [] ((l.drop 1).drop 1) = pItems (beNat (l.take 1)) ks (beNat ((l.drop 1).take 1) - i) xs r) (fun ⟨A, cap, i, xs, r⟩ => beNat ((l.drop 1).take 1) - i) (none, 0, 0, [], (l.drop 1).drop 1) (cov_of (by kernel_rfl)) ⟨hb10, hb14, .nil, (((hx4.weak fun b hb (q : b = be_) => .inr q).trans' hx8 (fun _ _ h => h) (fun b hb (q : b = bn_) => .inl q)).trans' hx13 (fun _ _ h => h) (fun b hb (q : b = be_) => .inr q)), by omega, rfl, rfl⟩ ?_
                rintro ⟨A, cap, i, xs, r⟩ w119 ⟨hbe, hbn, hown, hE, him, hi, hI⟩
                have z119 := hE.size
                refine .seq ?_
                refine .region ?_
                by_cases hc120 : ((i : Int) : Int) < (beNat ((l.drop 1).take 1) : Int)
                · refine xo.val 0 (by kernel_rfl) (c_lss_t hc120) ?_
                  refine xo.done 0 [(0, Pt be_ 0), (1, Pt bn_ 0), (2, Pt bb_ 0), (48, I ((beNat ((l.drop 1).take 1) : Int))), (49, I (i : Int)), (50, B true)] (by kernel_rfl) rfl (by kernel_rfl) ?_
                  refine .seq ?_
                  refine .condT rfl rfl ?_
                  refine .skip ?_
                  refine .seq ?_
                  refine .block ?_
                  refine .seq ?_
                  refine .region ?_
                  refine xo.done 2 [(0, Pt be_ 0), (1, Pt bn_ 0), (2, Pt bb_ 0), (5, I (i : Int)), (48, I ((beNat ((l.drop 1).take 1) : Int))), (49, I (i : Int))] (by kernel_rfl) rfl (by kernel_rfl) ?_
                  refine .seq ?_
                  refine .region ?_
                  rcases hq122 : pText 64 r with _ | ⟨t123, r124⟩
                  · refine xo.cpn 1 (by kernel_rfl) (cf46 _ _) (eye_text_bad _ be_ r hbe 64 hq122) ?_
                    rintro _ w128 ⟨c125, hc126, rfl, ⟨s127, hb121⟩, hx129⟩
                    have z128 := hx129.size
                    have hb130 := (hbn.ext hx129 nNE)
                    exact ⟨.error c125, ⟨hc126, rfl, _, hb121⟩, ⟨⟨by rw [pNode_4 (by omega) (by assumption) hbad, hI, pItems_key (by omega) hq122]; rfl, hc126, _, _, _, _, hb130⟩, ((hE.weak fun b hb q => q).trans' hx129 (fun _ _ h => h) (fun b hb (q : b = be_) => .inr q))⟩⟩
                  · refine xo.ret 1 (by kernel_rfl) (cf46 _ _) (eye_text _ be_ r hbe 64 hq122) ?_
                    rintro _ w131 ⟨rfl, hb121, hx132⟩
                    have z131 := hx132.size
                    refine xo.alloc 1 119 [S (⟨#[]⟩), S (⟨#[]⟩), I 0] (by kernel_rfl) (by kernel_rfl) ?_
                    intro b133 w134 hb135 hx136 hg137
                    have z134 := hx136.size
                    have l135 := hb135.lt
                    refine xo.store 0 119 (o := 0) (.agg #[S (bs t123), S (⟨#[]⟩), I 0]) [S (bs t123), S (⟨#[]⟩), I 0] (by kernel_rfl) hb135 (by kernel_rfl) (by kernel_rfl) (by kernel_rfl) (by kernel_rfl) ?_
                    intro w138 hb139 hx140
                    have z138 := hx140.size
                    refine xo.done 0 [(0, Pt be_ 0), (1, Pt bn_ 0), (2, Pt bb_ 0), (5, I (i : Int)), (6, Pt b133 0), (48, I ((beNat ((l.drop 1).take 1) : Int))), (49, I (i : Int))] (by kernel_rfl) rfl (by kernel_rfl) ?_
                    refine .seq ?_
                    refine .seq ?_
                    refine .region ?_
                    have hb141 := (((hbn.ext hx132 nNE).ext hx136 (fun h => h)).ext hx140 (show bn_ ≠ b133 by omega))
                    refine xo.val 1 (by kernel_rfl) (ldB (t := 3) (o := 0) (by kernel_rfl) hb141 rfl) ?_
                    refine xo.val 0 (by kernel_rfl) (c_gtr_f (show ¬ (((beNat (l.take 1) : Int) : Int) ≤ 0) from (by omega))) ?_
                    refine xo.done 0 [(0, Pt be_ 0), (1, Pt bn_ 0), (2, Pt bb_ 0), (5, I (i : Int)), (6, Pt b133 0), (48, I ((beNat ((l.drop 1).take 1) : Int))), (49, I (i : Int)), (57, B true)] (by kernel_rfl) rfl (by kernel_rfl) ?_
                    refine .condT rfl rfl ?_
                    refine .region ?_
                    have hb142 := ((((hb.ext hE (fun h => h.elim nBN nBE)).ext hx132 nBE).ext hx136 (fun h => h)).ext hx140 (show bb_ ≠ b133 by omega))
                    refine xo.val 1 (by kernel_rfl) (ldB (t := 90) (o := 0) (by kernel_rfl) hb142 rfl) ?_
                    have hs143 := ((((hK.ext hE (fun b cs hb h => h.elim (fun e => Blk.ne hb hn rfl e) (fun e => Blk.ne hb he rfl e))).ext hx132 (fun b cs hb (e : b = be_) => Blk.ne hb hbe rfl e)).ext hx136 (fun _ _ _ h => h)).ext hx140 (fun b cs hb (e : b = b133) => Blk.ne hb hb135 rfl e))
                    obtain ⟨b144, o145, x146, hi147, hA148, hl149, hh150, hr151⟩ := hs143.rd.at_ i (by omega)
                    refine xo.val 1 (by kernel_rfl) (idxN (kk := .i64) (t := 90) (n := ks.length) (cap := kcap) (sz := 1) (i := i) (by kernel_rfl) hA148 (by omega)) ?_
                    have hk152 : ks.getD i 0 = x146 := by rw [List.getD_eq_getElem?_getD, hi147]; rfl
                    refine xo.val 0 (by kernel_rfl) (ld (t := 3) (by kernel_rfl) (hr151 0 _ rfl)) ?_
                    refine xo.store 1 3 (o := 2) (I x146) [S (bs t123), S (⟨#[]⟩), I x146] (by kernel_rfl) hb139 (by kernel_rfl) (by kernel_rfl) (by kernel_rfl) (by kernel_rfl) ?_
                    intro w153 hb154 hx155
                    have z153 := hx155.size
                    refine xo.done 0 [(0, Pt be_ 0), (1, Pt bn_ 0), (2, Pt bb_ 0), (5, I (i : Int)), (6, Pt b133 0), (48, I ((beNat ((l.drop 1).take 1) : Int))), (49, I (i : Int))] (by kernel_rfl) rfl (by kernel_rfl) ?_
                    refine .seq ?_
                    refine .seq ?_
                    have hb160 := (hb141.ext hx155 (show bn_ ≠ b133 by omega))
                    have hs161 := ((((hown.ext hx132 (fun b hb (e : b = be_) => hown.ne hbe rfl (e ▸ hb))).ext hx136 (fun _ _ h => h)).ext hx140 (fun b hb (e : b = b133) => by have := (hown.lt hb).2; omega)).ext hx155 (fun b hb (e : b = b133) => by have := (hown.lt hb).2; omega))
                    refine XC.regionDraw (fun u => Blk u b133 119 [S (bs t123), S (⟨#[]⟩), I x146] ∧ Blk u bn_ 113 [I ((beNat (l.take 1) : Int)), .slice A xs.length cap] ∧ Own kItem u w.heap.size A cap xs ∧ True) (by kernel_rfl) ?_
                    intro w158 hd159
                    have hx159 := Ext.ofDrew (M := No) hd159
                    have z158 := hx159.size
                    have hb162 := (hb154.ext hx159 (fun h => h))
                    have hb163 := (hb160.ext hx159 (fun h => h))
                    have hs164 := (hs161.ext hx159 (fun _ _ h => h))
                    refine ⟨⟨hb162, hb163, hs164, trivial⟩, ?_⟩
                    refine xd.q (fun _ _ _ _ h => h) 0 (Pt b133 0) (by kernel_rfl) (by kernel_rfl) (by kernel_rfl) ?_
                    refine xd.rd (fun _ _ _ _ h => h) 1 (by kernel_rfl) (by kernel_rfl) (by kernel_rfl) (fun u hS => (ldB (t := 9) (o := 0) (by kernel_rfl) hS.1 rfl)) ?_
                    refine xd.one 2 (by kernel_rfl) ?_
                    by_cases hr165 : rightK (bs t123)
                    · refine xo.ret 0 (by kernel_rfl) (cf67 _ _) (tree_right_t _ (bs t123) hr165) ?_
                      rintro _ _ ⟨rfl, rfl⟩
                      refine xo.fin 0 (by kernel_rfl) rfl ?_
                      refine ⟨⟨hb162, hb163, hs164, trivial⟩, ?_⟩
                      refine xd.q (fun _ _ _ _ h => h) 3 (B false) (by kernel_rfl) (by kernel_rfl) (by kernel_rfl) ?_
                      refine xd.q (fun _ _ _ _ h => h) 4 (B false) (by kernel_rfl) (by kernel_rfl) (by kernel_rfl) ?_
                      refine xd.q (fun _ _ _ _ h => h) 5 (I (i : Int)) (by kernel_rfl) (by kernel_rfl) (by kernel_rfl) ?_
                      by_cases hc166 : ((i : Int) : Int) ≤ 0
                      · refine xd.rd (fun _ _ _ _ h => h) 6 (by kernel_rfl) (by kernel_rfl) (by kernel_rfl) (fun u hS => (c_gtr_t hc166)) ?_
                        refine xd.q (fun _ _ _ _ h => h) 7 (B false) (by kernel_rfl) (by kernel_rfl) (by kernel_rfl) ?_
                        refine xd.no (fun _ _ _ _ h => h) 8 (by kernel_rfl) (by kernel_rfl) ?_
                        refine xd.no (fun _ _ _ _ h => h) 9 (by kernel_rfl) (by kernel_rfl) ?_
                        refine xd.no (fun _ _ _ _ h => h) 10 (by kernel_rfl) (by kernel_rfl) ?_
                        refine xd.no (fun _ _ _ _ h => h) 11 (by kernel_rfl) (by kernel_rfl) ?_
                        refine xd.no (fun _ _ _ _ h => h) 12 (by kernel_rfl) (by kernel_rfl) ?_
                        refine xd.no (fun _ _ _ _ h => h) 13 (by kernel_rfl) (by kernel_rfl) ?_
                        refine xd.no (fun _ _ _ _ h => h) 14 (by kernel_rfl) (by kernel_rfl) ?_
                        refine xd.no (fun _ _ _ _ h => h) 15 (by kernel_rfl) (by kernel_rfl) ?_
                        refine xd.no (fun _ _ _ _ h => h) 16 (by kernel_rfl) (by kernel_rfl) ?_
                        refine xd.no (fun _ _ _ _ h => h) 17 (by kernel_rfl) (by kernel_rfl) ?_
                        refine xd.q (fun _ _ _ _ h => h) 18 (B false) (by kernel_rfl) (by kernel_rfl) (by kernel_rfl) ?_
                        refine xd.q (fun _ _ _ _ h => h) 19 (B false) (by kernel_rfl) (by kernel_rfl) (by kernel_rfl) ?_
                        refine xd.done (by kernel_rfl) ?_
                        refine .cov [(0, Pt be_ 0), (1, Pt bn_ 0), (2, Pt bb_ 0), (6, Pt b133 0), (48, I ((beNat ((l.drop 1).take 1) : Int))), (49, I (i : Int)), (86, B false)] (cov_of (by kernel_rfl)) ?_
                        refine .condF rfl rfl ?_
                        refine .skip ?_
                        refine .region ?_
                        refine xo.val 1 (by kernel_rfl) (ldB (t := 111) (o := 1) (by kernel_rfl) hb163 rfl) ?_
                        refine xo.val 0 (by kernel_rfl) (ldBA (t := 119) (o := 0) (vs := [S (bs t123), S (⟨#[]⟩), I x146]) (by kernel_rfl) hb162 rfl) ?_
                        refine xo.bsl 0 111 1 #[(0, .agg #[S (bs t123), S (⟨#[]⟩), I x146])] (et := 119) (cs := [S (bs t123), S (⟨#[]⟩), I x146]) (by kernel_rfl) (by kernel_rfl) ?_
                        intro b167 w168 hb169 hx170 hg171
                        have z168 := hx170.size
                        have l169 := hb169.lt
                        have hs172 := (hs164.ext hx170 (fun _ _ h => h))
                        refine xo.app 0 (ty := 111) (k := kItem) (t := 111) (tx := 111) (xs := xs) (ys := [(⟨bs t123, ⟨#[]⟩, x146⟩ : Item)]) (x := .slice (some ⟨b167, 0, none⟩) 1 1) (by exact pItem) hs172 (src_one (k := kItem) (x := (⟨bs t123, ⟨#[]⟩, x146⟩ : Item)) (by kernel_rfl) hb169 rfl) (by omega) (show (xs.length + 1) * 40 ≤ 140737488355328 from (by first | omega | (simp only [List.length_append, List.length_cons, List.length_nil]; omega))) (show xs.length + 1 ≤ 9223372036854775807 from (by first | omega | (simp only [List.length_append, List.length_cons, List.length_nil]; omega))) (by kernel_rfl) ?_
                        intro A173 c174 w175 ho176 hx177
                        have z175 := hx177.size
                        have hb178 := ((hb163.ext hx170 (fun h => h)).ext hx177 (hs172.ne (hb163.ext hx170 (fun h => h)) rfl))
                        refine xo.store 1 111 (o := 1) (.slice A173 ((xs ++ [(⟨bs t123, ⟨#[]⟩, x146⟩ : Item)]).length) c174) [I ((beNat (l.take 1) : Int)), .slice A173 ((xs ++ [(⟨bs t123, ⟨#[]⟩, x146⟩ : Item)]).length) c174] (by kernel_rfl) hb178 (by kernel_rfl) (by kernel_rfl) (by kernel_rfl) (by kernel_rfl) ?_
                        intro w179 hb180 hx181
                        have z179 := hx181.size
                        refine xo.done 0 [(0, Pt be_ 0), (1, Pt bn_ 0), (2, Pt bb_ 0), (48, I ((beNat ((l.drop 1).take 1) : Int))), (49, I (i : Int))] (by kernel_rfl) rfl (by kernel_rfl) ?_
                        refine .region ?_
                        refine xo.val 0 (by kernel_rfl) (a_add (a := (i : Int)) (b := 1) (by omega) (by omega)) ?_
                        refine xo.fin 1 (by kernel_rfl) rfl ?_
                        have hb182 := (((((((hb121.ext hx136 (fun h => h)).ext hx140 (show be_ ≠ b133 by omega)).ext hx155 (show be_ ≠ b133 by omega)).ext hx159 (fun h => h)).ext hx170 (fun h => h)).ext hx177 (hs172.ne (((((hb121.ext hx136 (fun h => h)).ext hx140 (show be_ ≠ b133 by omega)).ext hx155 (show be_ ≠ b133 by omega)).ext hx159 (fun h => h)).ext hx170 (fun h => h)) rfl)).ext hx181 nNE.symm)
                        have hs183 := (ho176.ext hx181 (fun b hb (e : b = bn_) => ho176.ne hb178 rfl (e ▸ hb)))
                        refine ⟨(A173, c174, i + 1, xs ++ [(⟨bs t123, ⟨#[]⟩, x146⟩ : Item)], r124), cov_of (by kernel_rfl), ⟨hb182, hb180, hs183, (((((((((hE.weak fun b hb q => q).trans' hx132 (fun _ _ h => h) (fun b hb (q : b = be_) => .inr q)).trans' hx136 (fun _ _ h => h) (fun b hb h => h.elim)).trans' hx140 (fun _ _ h => h) (fun b hb (q : b = b133) => absurd hb (by omega))).trans' hx155 (fun _ _ h => h) (fun b hb (q : b = b133) => absurd hb (by omega))).trans' hx159 (fun _ _ h => h) (fun b hb h => h.elim)).trans' hx170 (fun _ _ h => h) (fun b hb h => h.elim)).trans' hx177 (fun _ _ h => h) (fun b hb hm => absurd (hs172.lt hm).1 (by omega))).trans' hx181 (fun _ _ h => h) (fun b hb (q : b = bn_) => .inl q)), by omega, by simpa using hi, ?_⟩, by show beNat ((l.drop 1).take 1) - (i + 1) < beNat ((l.drop 1).take 1) - i; omega⟩
                        rw [hI, show beNat ((l.drop 1).take 1) - i = (beNat ((l.drop 1).take 1) - (i + 1)) + 1 by omega]
                        exact pItems_ok (k := t123) (r := r124) (r' := r124) (x := (⟨bs t123, ⟨#[]⟩, x146⟩ : Item)) hq122 (by rw [pVal, if_pos hlv, hi, hk152]) ⟨hr165, behindB_0 (by omega)⟩
                      · refine xd.rd (fun _ _ _ _ h => h) 6 (by kernel_rfl) (by kernel_rfl) (by kernel_rfl) (fun u hS => (c_gtr_f hc166)) ?_
                        refine xd.q (fun _ _ _ _ h => h) 7 (B true) (by kernel_rfl) (by kernel_rfl) (by kernel_rfl) ?_
                        refine xd.q (fun _ _ _ _ h => h) 8 (Pt b133 0) (by kernel_rfl) (by kernel_rfl) (by kernel_rfl) ?_
                        refine xd.rd (fun _ _ _ _ h => h) 9 (by kernel_rfl) (by kernel_rfl) (by kernel_rfl) (fun u hS => (ldB (t := 9) (o := 0) (by kernel_rfl) hS.1 rfl)) ?_
                        refine xd.q (fun _ _ _ _ h => h) 10 (Pt bn_ 1) (by kernel_rfl) (by kernel_rfl) (by kernel_rfl) ?_
                        refine xd.rd (fun _ _ _ _ h => h) 11 (by kernel_rfl) (by kernel_rfl) (by kernel_rfl) (fun u hS => (ldB (t := 111) (o := 1) (by kernel_rfl) hS.2.1 rfl)) ?_
                        refine xd.q (fun _ _ _ _ h => h) 12 (I (i : Int)) (by kernel_rfl) (by kernel_rfl) (by kernel_rfl) ?_
                        refine xd.rd (fun _ _ _ _ h => h) 13 (by kernel_rfl) (by kernel_rfl) (by kernel_rfl) (fun u hS => (a_sub (a := (i : Int)) (b := 1) (by omega) (by omega))) ?_
                        obtain ⟨b184, o185, x186, hi187, hA188, hl189, hh190, hr191⟩ := hs164.rd.at_ (((i : Int) - 1).toNat) (by omega)
                        refine xd.rd (fun _ _ _ _ h => h) 14 (by kernel_rfl) (by kernel_rfl) (by kernel_rfl) (fun u hS => (idxZ (kk := .i64) (t := 111) (n := xs.length) (cap := cap) (sz := 3) (i := (i : Int) - 1) (by kernel_rfl) hA188 (by omega) (by omega))) ?_
                        refine xd.q (fun _ _ _ _ h => h) 15 (Pt b184 (o185 + (((i : Int) - 1).toNat) * 3)) (by kernel_rfl) (by kernel_rfl) (by kernel_rfl) ?_
                        refine xd.rd (fun _ _ _ _ h => h) 16 (by kernel_rfl) (by kernel_rfl) (by kernel_rfl) (fun u hS => (ld (t := 9) (by kernel_rfl) ((Rd.cs hS.2.2.1.rd hA188 hi187) 0 _ rfl))) ?_
                        by_cases hc192 : Lt x186.key (bs t123)
                        · refine xd.rd (fun _ _ _ _ h => h) 17 (by kernel_rfl) (by kernel_rfl) (by kernel_rfl) (fun u hS => (s_leq_t hc192)) ?_
                          refine xd.q (fun _ _ _ _ h => h) 18 (B false) (by kernel_rfl) (by kernel_rfl) (by kernel_rfl) ?_
                          refine xd.q (fun _ _ _ _ h => h) 19 (B false) (by kernel_rfl) (by kernel_rfl) (by kernel_rfl) ?_
                          refine xd.done (by kernel_rfl) ?_
                          refine .cov [(0, Pt be_ 0), (1, Pt bn_ 0), (2, Pt bb_ 0), (6, Pt b133 0), (48, I ((beNat ((l.drop 1).take 1) : Int))), (49, I (i : Int)), (86, B false)] (cov_of (by kernel_rfl)) ?_
                          refine .condF rfl rfl ?_
                          refine .skip ?_
                          refine .region ?_
                          refine xo.val 1 (by kernel_rfl) (ldB (t := 111) (o := 1) (by kernel_rfl) hb163 rfl) ?_
                          refine xo.val 0 (by kernel_rfl) (ldBA (t := 119) (o := 0) (vs := [S (bs t123), S (⟨#[]⟩), I x146]) (by kernel_rfl) hb162 rfl) ?_
                          refine xo.bsl 0 111 1 #[(0, .agg #[S (bs t123), S (⟨#[]⟩), I x146])] (et := 119) (cs := [S (bs t123), S (⟨#[]⟩), I x146]) (by kernel_rfl) (by kernel_rfl) ?_
                          intro b193 w194 hb195 hx196 hg197
                          have z194 := hx196.size
                          have l195 := hb195.lt
                          have hs198 := (hs164.ext hx196 (fun _ _ h => h))
                          refine xo.app 0 (ty := 111) (k := kItem) (t := 111) (tx := 111) (xs := xs) (ys := [(⟨bs t123, ⟨#[]⟩, x146⟩ : Item)]) (x := .slice (some ⟨b193, 0, none⟩) 1 1) (by exact pItem) hs198 (src_one (k := kItem) (x := (⟨bs t123, ⟨#[]⟩, x146⟩ : Item)) (by kernel_rfl) hb195 rfl) (by omega) (show (xs.length + 1) * 40 ≤ 140737488355328 from (by first | omega | (simp only [List.length_append, List.length_cons, List.length_nil]; omega))) (show xs.length + 1 ≤ 9223372036854775807 from (by first | omega | (simp only [List.length_append, List.length_cons, List.length_nil]; omega))) (by kernel_rfl) ?_
                          intro A199 c200 w201 ho202 hx203
                          have z201 := hx203.size
                          have hb204 := ((hb163.ext hx196 (fun h => h)).ext hx203 (hs198.ne (hb163.ext hx196 (fun h => h)) rfl))
                          refine xo.store 1 111 (o := 1) (.slice A199 ((xs ++ [(⟨bs t123, ⟨#[]⟩, x146⟩ : Item)]).length) c200) [I ((beNat (l.take 1) : Int)), .slice A199 ((xs ++ [(⟨bs t123, ⟨#[]⟩, x146⟩ : Item)]).length) c200] (by kernel_rfl) hb204 (by kernel_rfl) (by kernel_rfl) (by kernel_rfl) (by kernel_rfl) ?_
                          intro w205 hb206 hx207
                          have z205 := hx207.size
                          refine xo.done 0 [(0, Pt be_ 0), (1, Pt bn_ 0), (2, Pt bb_ 0), (48, I ((beNat ((l.drop 1).take 1) : Int))), (49, I (i : Int))] (by kernel_rfl) rfl (by kernel_rfl) ?_
                          refine .region ?_
                          refine xo.val 0 (by kernel_rfl) (a_add (a := (i : Int)) (b := 1) (by omega) (by omega)) ?_
                          refine xo.fin 1 (by kernel_rfl) rfl ?_
                          have hb208 := (((((((hb121.ext hx136 (fun h => h)).ext hx140 (show be_ ≠ b133 by omega)).ext hx155 (show be_ ≠ b133 by omega)).ext hx159 (fun h => h)).ext hx196 (fun h => h)).ext hx203 (hs198.ne (((((hb121.ext hx136 (fun h => h)).ext hx140 (show be_ ≠ b133 by omega)).ext hx155 (show be_ ≠ b133 by omega)).ext hx159 (fun h => h)).ext hx196 (fun h => h)) rfl)).ext hx207 nNE.symm)
                          have hs209 := (ho202.ext hx207 (fun b hb (e : b = bn_) => ho202.ne hb204 rfl (e ▸ hb)))
                          refine ⟨(A199, c200, i + 1, xs ++ [(⟨bs t123, ⟨#[]⟩, x146⟩ : Item)], r124), cov_of (by kernel_rfl), ⟨hb208, hb206, hs209, (((((((((hE.weak fun b hb q => q).trans' hx132 (fun _ _ h => h) (fun b hb (q : b = be_) => .inr q)).trans' hx136 (fun _ _ h => h) (fun b hb h => h.elim)).trans' hx140 (fun _ _ h => h) (fun b hb (q : b = b133) => absurd hb (by omega))).trans' hx155 (fun _ _ h => h) (fun b hb (q : b = b133) => absurd hb (by omega))).trans' hx159 (fun _ _ h => h) (fun b hb h => h.elim)).trans' hx196 (fun _ _ h => h) (fun b hb h => h.elim)).trans' hx203 (fun _ _ h => h) (fun b hb hm => absurd (hs198.lt hm).1 (by omega))).trans' hx207 (fun _ _ h => h) (fun b hb (q : b = bn_) => .inl q)), by omega, by simpa using hi, ?_⟩, by show beNat ((l.drop 1).take 1) - (i + 1) < beNat ((l.drop 1).take 1) - i; omega⟩
                          rw [hI, show beNat ((l.drop 1).take 1) - i = (beNat ((l.drop 1).take 1) - (i + 1)) + 1 by omega]
                          exact pItems_ok (k := t123) (r := r124) (r' := r124) (x := (⟨bs t123, ⟨#[]⟩, x146⟩ : Item)) hq122 (by rw [pVal, if_pos hlv, hi, hk152]) ⟨hr165, (by rw [behindB_at (by omega) hi187]; simpa using hc192)⟩
                        · refine xd.rd (fun _ _ _ _ h => h) 17 (by kernel_rfl) (by kernel_rfl) (by kernel_rfl) (fun u hS => (s_leq_f hc192)) ?_
                          refine xd.q (fun _ _ _ _ h => h) 18 (B true) (by kernel_rfl) (by kernel_rfl) (by kernel_rfl) ?_
                          refine xd.q (fun _ _ _ _ h => h) 19 (B true) (by kernel_rfl) (by kernel_rfl) (by kernel_rfl) ?_
                          refine xd.done (by kernel_rfl) ?_
                          refine .cov [(0, Pt be_ 0), (1, Pt bn_ 0), (2, Pt bb_ 0), (6, Pt b133 0), (48, I ((beNat ((l.drop 1).take 1) : Int))), (49, I (i : Int)), (86, B true)] (cov_of (by kernel_rfl)) ?_
                          refine .condT rfl rfl ?_
                          refine .region ?_
                          have hb210 := ((((hb121.ext hx136 (fun h => h)).ext hx140 (show be_ ≠ b133 by omega)).ext hx155 (show be_ ≠ b133 by omega)).ext hx159 (fun h => h))
                          refine xo.cpn 1 (by kernel_rfl) (cf45 _ _) (eye_fail _ be_ _ hb210 201) ?_
                          rintro _ _ ⟨rfl, rfl⟩
                          exact ⟨.error 201, ⟨(by decide), rfl, _, hb210⟩, ⟨⟨by rw [pNode_4 (by omega) (by assumption) hbad, hI, pItems_bad (k := t123) (r := r124) (r' := r124) (x := (⟨bs t123, ⟨#[]⟩, x146⟩ : Item)) (by omega) hq122 (by rw [pVal, if_pos hlv, hi, hk152]) (fun q => absurd q.2 (by rw [behindB_at (by omega) hi187]; simpa using hc192))]; rfl, (by decide), _, _, _, _, hb163⟩, ((((((hE.weak fun b hb q => q).trans' hx132 (fun _ _ h => h) (fun b hb (q : b = be_) => .inr q)).trans' hx136 (fun _ _ h => h) (fun b hb h => h.elim)).trans' hx140 (fun _ _ h => h) (fun b hb (q : b = b133) => absurd hb (by omega))).trans' hx155 (fun _ _ h => h) (fun b hb (q : b = b133) => absurd hb (by omega))).trans' hx159 (fun _ _ h => h) (fun b hb h => h.elim))⟩⟩
                    · refine xo.ret 0 (by kernel_rfl) (cf67 _ _) (tree_right_f _ (bs t123) hr165) ?_
                      rintro _ _ ⟨rfl, rfl⟩
                      refine xo.fin 0 (by kernel_rfl) rfl ?_
                      refine ⟨⟨hb162, hb163, hs164, trivial⟩, ?_⟩
                      refine xd.q (fun _ _ _ _ h => h) 3 (B true) (by kernel_rfl) (by kernel_rfl) (by kernel_rfl) ?_
                      refine xd.q (fun _ _ _ _ h => h) 4 (B true) (by kernel_rfl) (by kernel_rfl) (by kernel_rfl) ?_
                      refine xd.no (fun _ _ _ _ h => h) 5 (by kernel_rfl) (by kernel_rfl) ?_
                      refine xd.no (fun _ _ _ _ h => h) 6 (by kernel_rfl) (by kernel_rfl) ?_
                      refine xd.no (fun _ _ _ _ h => h) 7 (by kernel_rfl) (by kernel_rfl) ?_
                      refine xd.no (fun _ _ _ _ h => h) 8 (by kernel_rfl) (by kernel_rfl) ?_
                      refine xd.no (fun _ _ _ _ h => h) 9 (by kernel_rfl) (by kernel_rfl) ?_
                      refine xd.no (fun _ _ _ _ h => h) 10 (by kernel_rfl) (by kernel_rfl) ?_
                      refine xd.no (fun _ _ _ _ h => h) 11 (by kernel_rfl) (by kernel_rfl) ?_
                      refine xd.no (fun _ _ _ _ h => h) 12 (by kernel_rfl) (by kernel_rfl) ?_
                      refine xd.no (fun _ _ _ _ h => h) 13 (by kernel_rfl) (by kernel_rfl) ?_
                      refine xd.no (fun _ _ _ _ h => h) 14 (by kernel_rfl) (by kernel_rfl) ?_
                      refine xd.no (fun _ _ _ _ h => h) 15 (by kernel_rfl) (by kernel_rfl) ?_
                      refine xd.no (fun _ _ _ _ h => h) 16 (by kernel_rfl) (by kernel_rfl) ?_
                      refine xd.no (fun _ _ _ _ h => h) 17 (by kernel_rfl) (by kernel_rfl) ?_
                      refine xd.no (fun _ _ _ _ h => h) 18 (by kernel_rfl) (by kernel_rfl) ?_
                      refine xd.q (fun _ _ _ _ h => h) 19 (B true) (by kernel_rfl) (by kernel_rfl) (by kernel_rfl) ?_
                      refine xd.done (by kernel_rfl) ?_
                      refine .cov [(0, Pt be_ 0), (1, Pt bn_ 0), (2, Pt bb_ 0), (6, Pt b133 0), (48, I ((beNat ((l.drop 1).take 1) : Int))), (49, I (i : Int)), (86, B true)] (cov_of (by kernel_rfl)) ?_
                      refine .condT rfl rfl ?_
                      refine .region ?_
                      have hb211 := ((((hb121.ext hx136 (fun h => h)).ext hx140 (show be_ ≠ b133 by omega)).ext hx155 (show be_ ≠ b133 by omega)).ext hx159 (fun h => h))
                      refine xo.cpn 1 (by kernel_rfl) (cf45 _ _) (eye_fail _ be_ _ hb211 201) ?_
                      rintro _ _ ⟨rfl, rfl⟩
                      exact ⟨.error 201, ⟨(by decide), rfl, _, hb211⟩, ⟨⟨by rw [pNode_4 (by omega) (by assumption) hbad, hI, pItems_bad (k := t123) (r := r124) (r' := r124) (x := (⟨bs t123, ⟨#[]⟩, x146⟩ : Item)) (by omega) hq122 (by rw [pVal, if_pos hlv, hi, hk152]) (fun q => hr165 q.1)]; rfl, (by decide), _, _, _, _, hb163⟩, ((((((hE.weak fun b hb q => q).trans' hx132 (fun _ _ h => h) (fun b hb (q : b = be_) => .inr q)).trans' hx136 (fun _ _ h => h) (fun b hb h => h.elim)).trans' hx140 (fun _ _ h => h) (fun b hb (q : b = b133) => absurd hb (by omega))).trans' hx155 (fun _ _ h => h) (fun b hb (q : b = b133) => absurd hb (by omega))).trans' hx159 (fun _ _ h => h) (fun b hb h => h.elim))⟩⟩
                · refine xo.val 0 (by kernel_rfl) (c_lss_f hc120) ?_
                  refine xo.done 0 [(0, Pt be_ 0), (1, Pt bn_ 0), (2, Pt bb_ 0), (48, I ((beNat ((l.drop 1).take 1) : Int))), (49, I (i : Int)), (50, B false)] (by kernel_rfl) rfl (by kernel_rfl) ?_
                  refine .seq ?_
                  refine .condF rfl rfl ?_
                  refine .exit ?_
                  refine xsetTo ?_
                  refine ⟨[], by kernel_rfl, ?_⟩
                  have hi9 : i = beNat ((l.drop 1).take 1) := by omega
                  exact ⟨.ok r, ⟨rfl, hbe⟩, ⟨⟨⟨(beNat (l.take 1) : Int), xs⟩, A, cap, by rw [pNode_4 (by omega) (by assumption) hbad, hI, hi9, Nat.sub_self]; rfl, hbn, hown⟩, (hE.weak fun b hb q => q)⟩⟩
              · refine xo.val 1 (by kernel_rfl) (c_neq_f hc118) ?_
                refine xo.done 13 [(0, Pt be_ 0), (1, Pt bn_ 0), (2, Pt bb_ 0), (4, I ((beNat ((l.drop 1).take 1) : Int))), (45, B true)] (by kernel_rfl) rfl (by kernel_rfl) ?_
                refine .condT rfl rfl ?_
                refine .region ?_
                refine xo.cpn 1 (by kernel_rfl) (cf45 _ _) (eye_fail _ be_ _ hb10 201) ?_
                rintro _ _ ⟨rfl, rfl⟩
                exact ⟨.error 201, ⟨(by decide), rfl, _, hb10⟩, ⟨⟨pNode_3 (by unfold badNode; omega), (by decide), _, _, _, _, hb14⟩, (((hx4.weak fun b hb (q : b = be_) => .inr q).trans' hx8 (fun _ _ h => h) (fun b hb (q : b = bn_) => .inl q)).trans' hx13 (fun _ _ h => h) (fun b hb (q : b = be_) => .inr q))⟩⟩
          · refine xo.val 3 (by kernel_rfl) (c_gtr_f hc17) ?_
            refine xo.done 24 [(0, Pt be_ 0), (1, Pt bn_ 0), (2, Pt bb_ 0), (4, I ((beNat ((l.drop 1).take 1) : Int))), (45, B true)] (by kernel_rfl) rfl (by kernel_rfl) ?_
            refine .condT rfl rfl ?_
            refine .region ?_
            refine xo.cpn 1 (by kernel_rfl) (cf45 _ _) (eye_fail _ be_ _ hb10 201) ?_
            rintro _ _ ⟨rfl, rfl⟩
            exact ⟨.error 201, ⟨(by decide), rfl, _, hb10⟩, ⟨⟨pNode_3 (by unfold badNode; omega), (by decide), _, _, _, _, hb14⟩, (((hx4.weak fun b hb (q : b = be_) => .inr q).trans' hx8 (fun _ _ h => h) (fun b hb (q : b = bn_) => .inl q)).trans' hx13 (fun _ _ h => h) (fun b hb (q : b = be_) => .inr q))⟩⟩
      · refine xo.val 0 (by kernel_rfl) (c_gtr_f hc15) ?_
        refine xo.done 31 [(0, Pt be_ 0), (1, Pt bn_ 0), (2, Pt bb_ 0), (4, I ((beNat ((l.drop 1).take 1) : Int))), (45, B true)] (by kernel_rfl) rfl (by kernel_rfl) ?_
        refine .condT rfl rfl ?_
        refine .region ?_
        refine xo.cpn 1 (by kernel_rfl) (cf45 _ _) (eye_fail _ be_ _ hb10 201) ?_
        rintro _ _ ⟨rfl, rfl⟩
        exact ⟨.error 201, ⟨(by decide), rfl, _, hb10⟩, ⟨⟨pNode_3 (by unfold badNode; omega), (by decide), _, _, _, _, hb14⟩, (((hx4.weak fun b hb (q : b = be_) => .inr q).trans' hx8 (fun _ _ h => h) (fun b hb (q : b = bn_) => .inl q)).trans' hx13 (fun _ _ h => h) (fun b hb (q : b = be_) => .inr q))⟩⟩
    · refine xo.cpn 1 (by kernel_rfl) (cf44 _ _) (eye_num_bad _ be_ (l.drop 1) hb9 1 (by omega) (by omega) (by omega)) ?_
      rintro _ _ ⟨rfl, rfl⟩
      exact ⟨.error 201, ⟨(by decide), rfl, _, hb9⟩, ⟨⟨pNode_2 hn11, (by decide), _, _, _, _, hb7⟩, ((hx4.weak fun b hb (q : b = be_) => .inr q).trans' hx8 (fun _ _ h => h) (fun b hb (q : b = bn_) => .inl q))⟩⟩
  · refine xo.cpn 1 (by kernel_rfl) (cf44 _ _) (eye_num_bad _ be_ l he 1 (by omega) (by omega) (by omega)) ?_
    rintro _ _ ⟨rfl, rfl⟩
    exact ⟨.error 201, ⟨(by decide), rfl, _, he⟩, ⟨⟨pNode_1 hn2, (by decide), _, _, _, _, hn⟩, (Ext.refl _ _)⟩⟩

end Go.Proofs.YtbajgpadmlnffaaGreat
/- A node is loaded. -/
namespace Go.Proofs.YtbajgpadmlnffaaGreat
open Go.V
set_option maxRecDepth 100000
set_option linter.unusedVariables false
set_option linter.unusedSimpArgs false

theorem pKids_length {n : Int} : ∀ (m : Nat) (l : List UInt8) (p : List Int × List UInt8), pKids n m l = some p → p.1.length = m := by
  intro m
  induction m with
  | zero => intro l p h; simp only [pKids, Option.some.injEq] at h; subst h; rfl
  | succ m ih =>
    intro l p h
    unfold pKids at h
    split at h
    · cases h
    · split at h
      · cases h
      · split at h
        · cases h
        · rename_i hq
          simp only [Option.some.injEq] at h
          subst h
          simp [ih _ _ hq]
theorem pBlk_16 {n : Int} {l : List UInt8} {p : (List Int × List UInt8) × List UInt8} (h : pBlk n l = some p) : p.1.1.length ≤ 16 := by
  unfold pBlk at h
  split at h
  · cases h
  · split at h
    · cases h
    · split at h
      · cases h
      · rename_i hq
        split at h
        · cases h
        · simp only [Option.some.injEq] at h
          subst h
          have := pKids_length _ _ _ hq
          simp only at this ⊢
          omega
theorem blkOf_16 {n : Int} {s : ByteArray} {p : List Int × List UInt8} (h : blkOf n s = some p) : p.1.length ≤ 16 := by
  unfold blkOf at h
  split at h
  · split at h
    · rename_i q hq
      simp only [Option.some.injEq] at h
      subst h
      exact pBlk_16 hq
    · cases h
  · cases h
/-- Block id of the store is a node. -/
structure NodeAt (σ : St) (id : Int) (nd : Node) : Prop where
  c : ∃ c, mfind σ.cells id = some c
  p : ∃ p, blkOf σ.dev.n (devAt σ id) = some p ∧ pNode p.1 p.2 = some (nd, [])
  lo : 2 ≤ id
  hi : id < σ.dev.n
  sz : (devAt σ id).size ≤ 1099511627776

theorem node_read (w : World) (lo hi : Nat) (A : Option Addr) (cap : Nat) (l : List UInt8) (h : Rd (kU8 5) w lo hi A l) (hh : hi ≤ w.heap.size) (bn_ bb_ : Nat) (K : Option Addr) (kcap : Nat) (ks : List Int) (dt : ByteArray)
    (hn : Blk w bn_ 113 [I 0, .slice none 0 0]) (hb : Blk w bb_ 147 [.slice K ks.length kcap, S dt]) (hK : Kids w K ks) (nd : Node) (hnd : pNode ks l = some (nd, [])) :
    Ret Tryz.prog 42 [.slice A l.length cap, .func (.func 92) #[] #[Pt bn_ 0, Pt bb_ 0]] w fun v w' => ∃ A cap, v = I 0 ∧ Ext (fun k => k = bn_) w w' ∧ Blk w' bn_ 113 [I nd.level, .slice A nd.items.length cap] ∧ Own kItem w' w.heap.size A cap nd.items := by
  have hr := oct_read w lo hi A cap l h hh 92 [Pt bn_ 0, Pt bb_ 0] (fun w1 w2 out => ∃ e, w.heap.size ≤ e ∧ e < w1.heap.size ∧ NodeG ks l w1.heap.size bn_ e w1 w2 out) (fun _ _ => cf92 _ _)
    (fun e w1 he hE h1 h2 => Calls.mono (node_look w1 e bn_ bb_ l K kcap ks dt he (hn.ext hE (fun h => h)) (hb.ext hE (fun h => h)) (hK.ext hE (fun _ _ _ h => h))) fun x w2 ⟨out, p, q⟩ =>
      ⟨out, p, ⟨e, h1, h2, q⟩, q.2.weak (fun b hb hk => hk.elim (fun q => .inl (q ▸ hn.lt)) .inr)⟩)
  refine Ret.mono hr ?_
  rintro v w' ⟨w1, w2, out, hE, ⟨e, he1, he2, hG, hG2⟩, hE2, hz, rfl⟩
  have hbx := hn.lt
  have hz1 := hE.size
  have hz2 := hE2.size
  have hAll : Ext (fun k => k = bn_) w w' := (hE.trans' hG2 (M'' := fun k => k = bn_) (fun _ _ h => h.elim) (fun b hb hk => hk.elim id (fun q => absurd hb (by omega)))).trans' hE2 (fun _ _ h => h) (fun b hb hk => absurd hk.1 (by omega))
  cases out with
  | error c =>
    obtain ⟨hno, _⟩ := hG
    rw [hnd] at hno; cases hno
  | ok r =>
    obtain ⟨nd', A2, cap2, hp, hbn, hown⟩ := hG
    rw [hnd] at hp
    simp only [Option.some.injEq, Prod.mk.injEq] at hp
    obtain ⟨rfl, rfl⟩ := hp
    exact ⟨A2, cap2, rfl, hAll, hbn.ext hE2 (fun h => absurd h.1 (by omega)), (hown.ext hE2 (fun b hb hk => by have := (hown.lt hb).1; omega)).base_le (by omega)⟩

theorem tree_load (w : World) (a : SAd) (σ : St) (hS : StAt w a σ) (hA : Alive σ) (id : Int) (nd : Node) (hN : NodeAt σ id nd) :
    Ret Tryz.prog 68 [Pt a.s 0, I id] w fun v w' => ∃ A cap, v = .tuple #[.agg #[I nd.level, .slice A nd.items.length cap], I 0] ∧ StAt w' a σ ∧ Ext No w w' ∧ Own kItem w' w.heap.size A cap nd.items := by
  have lS := hS.bs.lt
  have lMc := hS.mc.lt
  have lMk := hS.mkt.lt
  have hhi := hS.hi
  have nSC : a.s ≠ a.mc := fun e => MapAt.ne hS.mc hS.bs e.symm
  have nKC : a.mkk ≠ a.mc := fun e => hS.cmk e.symm
  obtain ⟨c, hc⟩ := hN.c
  obtain ⟨p, hp, hnd⟩ := hN.p
  refine calls_of_XCr [.cell 4 113, .tmp 5] Tryz.func68 rfl rfl rfl ?_
  refine .seq ?_
  refine .region ?_
  refine xo.alloc 0 113 [I 0, .slice none 0 0] (by kernel_rfl) (by kernel_rfl) ?_
  intro b1 w2 hb3 hx4 hg5
  have z2 := hx4.size
  have l3 := hb3.lt
  refine xo.done 1 [(0, Pt a.s 0), (1, I id), (4, Pt b1 0)] (by kernel_rfl) rfl (by kernel_rfl) ?_
  refine .seq ?_
  refine .region ?_
  have hf10 := (hS.no hx4)
  refine xo.ret 2 (by kernel_rfl) (cf91 _ _) (st_get _ a σ hf10 hA id (by have := hN.lo; omega) hN.hi hN.sz p hp c hc) ?_
  rintro _ w11 ⟨A6, c7, rfl, hS8, hx12, ho9⟩
  have z11 := hx12.size
  have hKd := Own.kids ho9 (blkOf_16 hp)
  refine xo.alloc 3 147 [.slice none 0 0, S (⟨#[]⟩)] (by kernel_rfl) (by kernel_rfl) ?_
  intro b13 w14 hb15 hx16 hg17
  have z14 := hx16.size
  have l15 := hb15.lt
  refine xo.store 0 147 (o := 0) (.agg #[.slice A6 p.1.length c7, S (bs p.2)]) [.slice A6 p.1.length c7, S (bs p.2)] (by kernel_rfl) hb15 (by kernel_rfl) (by kernel_rfl) (by kernel_rfl) (by kernel_rfl) ?_
  intro w18 hb19 hx20
  have z18 := hx20.size
  refine xo.done 1 [(4, Pt b1 0), (6, Pt b13 0), (7, I 0)] (by kernel_rfl) rfl (by kernel_rfl) ?_
  refine .seq ?_
  refine .seq ?_
  refine .region ?_
  refine xo.done 2 [(4, Pt b1 0), (6, Pt b13 0), (7, I 0), (16, B false)] (by kernel_rfl) rfl (by kernel_rfl) ?_
  refine .condF rfl rfl ?_
  refine .skip ?_
  refine .seq ?_
  refine .region ?_
  refine xo.alloc 0 113 [I 0, .slice none 0 0] (by kernel_rfl) (by kernel_rfl) ?_
  intro b21 w22 hb23 hx24 hg25
  have z22 := hx24.size
  have l23 := hb23.lt
  refine xo.done 0 [(4, Pt b1 0), (6, Pt b13 0), (8, Pt b21 0)] (by kernel_rfl) rfl (by kernel_rfl) ?_
  refine .seq ?_
  refine .region ?_
  have hb26 := (hb19.ext hx24 (fun h => h))
  refine xo.val 1 (by kernel_rfl) (ldB (t := 9) (o := 1) (by kernel_rfl) hb26 rfl) ?_
  refine xo.s2b 0 9 76 5 (bs p.2) (by kernel_rfl) (by kernel_rfl) (by kernel_rfl) ?_
  intro A27 c28 w29 hs30 hx31
  have z29 := hx31.size
  have hb32 := (hb23.ext hx31 (fun h => h))
  have hb33 := (hb26.ext hx31 (fun h => h))
  have hs34 := ((((hKd.ext hx16 (fun _ _ _ h => h)).ext hx20 (fun b cs hb (e : b = b13) => Blk.ne hb hb15 rfl e)).ext hx24 (fun _ _ _ h => h)).ext hx31 (fun _ _ _ h => h))
  refine xo.ret 1 (by kernel_rfl) (cf42 _ _) (node_read _ w22.heap.size w29.heap.size A27 c28 ((bs p.2).data.toList) hs30 (by omega) b21 b13 A6 c7 p.1 _ hb32 hb33 hs34 nd (by simpa using hnd)) ?_
  rintro _ w39 ⟨A35, c36, rfl, hx40, hb37, ho38⟩
  have z39 := hx40.size
  refine xo.done 1 [(4, Pt b1 0), (7, I 0), (8, Pt b21 0)] (by kernel_rfl) rfl (by kernel_rfl) ?_
  refine .seq ?_
  refine .seq ?_
  refine .region ?_
  refine xo.done 2 [(4, Pt b1 0), (8, Pt b21 0), (25, B false)] (by kernel_rfl) rfl (by kernel_rfl) ?_
  refine .condF rfl rfl ?_
  refine .skip ?_
  refine .seq ?_
  refine .region ?_
  refine xo.val 0 (by kernel_rfl) (ldBA (t := 113) (o := 0) (vs := [I nd.level, .slice A35 nd.items.length c36]) (by kernel_rfl) hb37 rfl) ?_
  have hb41 := ((((((hb3.ext hx12 (fun h => h)).ext hx16 (fun h => h)).ext hx20 (show b1 ≠ b13 by omega)).ext hx24 (fun h => h)).ext hx31 (fun h => h)).ext hx40 (show b1 ≠ b21 by omega))
  refine xo.store 0 113 (o := 0) (.agg #[I nd.level, .slice A35 nd.items.length c36]) [I nd.level, .slice A35 nd.items.length c36] (by kernel_rfl) hb41 (by kernel_rfl) (by kernel_rfl) (by kernel_rfl) (by kernel_rfl) ?_
  intro w42 hb43 hx44
  have z42 := hx44.size
  refine xo.done 1 [(4, Pt b1 0), (5, I 0)] (by kernel_rfl) rfl (by kernel_rfl) ?_
  refine .ret ?_
  refine ⟨[.agg #[I nd.level, .slice A35 nd.items.length c36], I 0], ⟨⟨⟨b1, 0, none⟩, by kernel_rfl, lvA (by kernel_rfl) hb43⟩, by kernel_rfl, trivial⟩, _, rfl, ?_⟩
  have hf45 := ((((((hS8.no hx16).ext hx20 (fun b h1 h2 (e : b = b13) => by omega) (MapAt.ne (hS8.no hx16).mkt hb15) (fun b cs hb (e : b = b13) => Blk.ne hb hb15 rfl e)).no hx24).no hx31).ext hx40 (fun b h1 h2 (e : b = b21) => by omega) (MapAt.ne ((((hS8.no hx16).ext hx20 (fun b h1 h2 (e : b = b13) => by omega) (MapAt.ne (hS8.no hx16).mkt hb15) (fun b cs hb (e : b = b13) => Blk.ne hb hb15 rfl e)).no hx24).no hx31).mkt hb32) (fun b cs hb (e : b = b21) => Blk.ne hb hb32 rfl e)).ext hx44 (fun b h1 h2 (e : b = b1) => by omega) (MapAt.ne (((((hS8.no hx16).ext hx20 (fun b h1 h2 (e : b = b13) => by omega) (MapAt.ne (hS8.no hx16).mkt hb15) (fun b cs hb (e : b = b13) => Blk.ne hb hb15 rfl e)).no hx24).no hx31).ext hx40 (fun b h1 h2 (e : b = b21) => by omega) (MapAt.ne ((((hS8.no hx16).ext hx20 (fun b h1 h2 (e : b = b13) => by omega) (MapAt.ne (hS8.no hx16).mkt hb15) (fun b cs hb (e : b = b13) => Blk.ne hb hb15 rfl e)).no hx24).no hx31).mkt hb32) (fun b cs hb (e : b = b21) => Blk.ne hb hb32 rfl e)).mkt hb41) (fun b cs hb (e : b = b1) => Blk.ne hb hb41 rfl e))
  have hs46 := (ho38.ext hx44 (fun b hb (e : b = b1) => ho38.ne hb41 rfl (e ▸ hb)))
  exact ⟨_, _, rfl, hf45, (((((((hx4.trans' hx12 (fun _ _ h => h) (fun b hb h => h)).trans' hx16 (fun _ _ h => h) (fun b hb h => h)).trans' hx20 (fun _ _ h => h) (fun b hb (e : b = b13) => absurd hb (by omega))).trans' hx24 (fun _ _ h => h) (fun b hb h => h)).trans' hx31 (fun _ _ h => h) (fun b hb h => h)).trans' hx40 (fun _ _ h => h) (fun b hb (e : b = b21) => absurd hb (by omega))).trans' hx44 (fun _ _ h => h) (fun b hb (e : b = b1) => absurd hb (by omega))), hs46.base_le (by omega)⟩

end Go.Proofs.YtbajgpadmlnffaaGreat
/- slices.Grow, slices.Concat. -/
namespace Go.Proofs.YtbajgpadmlnffaaGreat
open Go.V
set_option maxRecDepth 100000
set_option linter.unusedVariables false
set_option linter.unusedSimpArgs false

/-- append(nil, make([]T, n)...) -/
theorem run_appZ {P : Program} {w : World} {α : Type} {k : Kd α} {t ty : TypeId} {n : Nat} (hk : KdP P k t) (hi : P.underlying 3 = some (.int .i64)) (hn : 0 < n) (hb : n * k.bytes ≤ 140737488355328) (h63 : n ≤ 4611686018427387904) :
    ∃ c w', (vS (Builtin.append_ #[t, 3] ty #[.slice none 0 0, .int .i64 (n : Int)])).run P w = .ok (.value (.slice (some ⟨w.heap.size, 0, none⟩) n c)) w' ∧ n ≤ c ∧ (∃ cs, Blk w' w.heap.size k.ty cs ∧ cs.length = c * k.sz) ∧ Ext No w w' := by
  obtain ⟨hsl, i, z, hi0, hz, hsz, hby, hzs⟩ := hk
  have hold : (Builtin.firstCells i.size 0 (.slice none 0 0)).run P w.drew = .ok #[] w.drew := run_firstCells_none w.drew i.size 0 0 0
  have h := Lib.run_append_grow_zeros w t 3 ty k.ty i z .i64 .i64 hsl hi hi0 hz none 0 0 [] hold n (by omega) (by rw [hsz]; exact k.pos) (by omega) (by omega) (by rw [hby]; omega)
    (by rw [hby]; exact growslice_fits (by omega) (by simpa using hb))
  have hge := grownCap_ge w (0 + n) 0 k.ty
  simp only [Nat.zero_add] at h hge
  refine ⟨_, _, vrun h, hge, ⟨(Builtin.zeroCells z.cells n ++ Builtin.zeroCells z.cells (grownCap w n 0 k.ty - n)).toList, ?_, ?_⟩, ⟨rfl, rfl, rfl, by simp, fun b hb _ => hao w.drew _ hb⟩⟩
  · unfold Blk
    rw [show (w.drew.alloc _).heap[w.heap.size]? = some _ from heap_alloc_new w.drew _]
    simp
  · rw [Array.length_toList, Array.size_append, size_zeroCells, size_zeroCells, hzs, ← Nat.add_mul]
    congr 1; omega

theorem grow_item (w : World) (n : Int) (h0 : 0 ≤ n) (h1 : n ≤ 1099511627776) :
    Ret Tryz.prog 124 [.slice none 0 0, I n] w fun v w' => ∃ A' cap', v = .slice A' 0 cap' ∧ Own kItem w' w.heap.size A' cap' [] ∧ Ext No w w' := by
  refine calls_of_XC Tryz.func124 rfl rfl ?_
  refine .seq ?_
  refine .region ?_
  refine xo.done 1 [(0, .slice none 0 0), (1, I n)] (by kernel_rfl) rfl (by kernel_rfl) ?_
  refine .seq ?_
  refine .seq ?_
  refine .region ?_
  refine xo.val 1 (by kernel_rfl) (c_lss_f (show ¬ ((n : Int) < 0) from (by omega))) ?_
  refine xo.done 0 [(0, .slice none 0 0), (1, I n), (6, B false)] (by kernel_rfl) rfl (by kernel_rfl) ?_
  refine .condF rfl rfl ?_
  refine .skip ?_
  refine .seq ?_
  refine .seq ?_
  refine .region ?_
  refine xo.val 6 (by kernel_rfl) (a_sub (a := n) (b := 0) (by omega) (by omega)) ?_
  refine xo.done 1 [(0, .slice none 0 0), (1, I (n - 0))] (by kernel_rfl) rfl (by kernel_rfl) ?_
  refine .seq ?_
  refine .region ?_
  by_cases hc1 : (n - 0 : Int) ≤ 0
  · refine xo.val 1 (by kernel_rfl) (c_gtr_t hc1) ?_
    refine xo.done 0 [(0, .slice none 0 0), (1, I (n - 0)), (16, B false)] (by kernel_rfl) rfl (by kernel_rfl) ?_
    refine .condF rfl rfl ?_
    refine .skip ?_
    refine .seq ?_
    refine .region ?_
    refine xo.done 2 [(4, .slice none 0 0)] (by kernel_rfl) rfl (by kernel_rfl) ?_
    refine .ret ?_
    refine ⟨[.slice none 0 0], by kernel_rfl, _, rfl, ?_⟩
    exact ⟨_, _, rfl, .nil, .refl _ _⟩
  · refine xo.val 1 (by kernel_rfl) (c_gtr_f hc1) ?_
    refine xo.done 0 [(0, .slice none 0 0), (1, I (n - 0)), (16, B true)] (by kernel_rfl) rfl (by kernel_rfl) ?_
    refine .condT rfl rfl ?_
    refine .region ?_
    obtain ⟨c2, w3, hr5, hle6, ⟨cs, hcs, hcl⟩, hx7⟩ := run_appZ (w := w) (ty := 111) (n := n.toNat) (by exact pItem) (by kernel_rfl) (by omega) (show n.toNat * 40 ≤ 140737488355328 by omega) (by omega)
    rw [show ((n.toNat : Nat) : Int) = n - 0 by omega] at hr5
    refine xo.val 5 (by kernel_rfl) hr5 ?_
    have z3 := hx7.size
    refine xo.val 2 (by kernel_rfl) (vsl_hi (t := 111) (A := (some ⟨w.heap.size, 0, none⟩)) (n := n.toNat) (cap := c2) (sz := 3) (b := 0) (by kernel_rfl) (by omega) (by omega)) ?_
    refine xo.done 1 [(0, .slice (some ⟨w.heap.size, 0, none⟩) 0 c2)] (by kernel_rfl) rfl (by kernel_rfl) ?_
    refine .seq ?_
    refine .region ?_
    refine xo.done 2 [(4, .slice (some ⟨w.heap.size, 0, none⟩) 0 c2)] (by kernel_rfl) rfl (by kernel_rfl) ?_
    refine .ret ?_
    refine ⟨[.slice (some ⟨w.heap.size, 0, none⟩) 0 c2], by kernel_rfl, _, rfl, ?_⟩
    exact ⟨_, _, rfl, .inr ⟨_, cs, rfl, by omega, by simpa [Kd.all] using hcs, by simpa [Kd.all] using hcl, by simp⟩, hx7⟩

set_option maxHeartbeats 4000000 in
theorem cat2_item (w : World) (pb : Nat) (Ap1 : Option Addr) (cp1 : Nat) (xp1 : List Item) (lp1 up1 : Nat) (hp1 : Rd kItem w lp1 up1 Ap1 xp1) (gp1 : xp1.length ≤ 1000000) (vp1 : up1 ≤ w.heap.size) (Ap2 : Option Addr) (cp2 : Nat) (xp2 : List Item) (lp2 up2 : Nat) (hp2 : Rd kItem w lp2 up2 Ap2 xp2) (gp2 : xp2.length ≤ 1000000) (vp2 : up2 ≤ w.heap.size) (hp : Blk w pb 111 [.slice Ap1 xp1.length cp1, .slice Ap2 xp2.length cp2]) :
    Ret Tryz.prog 111 [.slice (some ⟨pb, 0, none⟩) 2 2] w fun v w' => ∃ A' cap', v = .slice A' (xp1 ++ xp2).length cap' ∧ Own kItem w' w.heap.size A' cap' (xp1 ++ xp2) ∧ Ext No w w' := by
  refine calls_of_XC Tryz.func111 rfl rfl ?_
  refine .seq ?_
  refine .region ?_
  refine xo.done 1 [(0, .slice (some ⟨pb, 0, none⟩) 2 2)] (by kernel_rfl) rfl (by kernel_rfl) ?_
  refine .seq ?_
  refine .region ?_
  refine xo.done 1 [(0, .slice (some ⟨pb, 0, none⟩) 2 2), (3, I 0)] (by kernel_rfl) rfl (by kernel_rfl) ?_
  refine .seq ?_
  refine .seq ?_
  refine .region ?_
  refine xo.done 3 [(0, .slice (some ⟨pb, 0, none⟩) 2 2), (3, I 0), (9, .slice (some ⟨pb, 0, none⟩) 2 2), (10, I 2), (11, I 0)] (by kernel_rfl) rfl (by kernel_rfl) ?_
  refine .block ?_
  refine XC.unroll 3 ?_
  refine rnd.next ?_
  refine .seq ?_
  refine .region ?_
  refine xo.done 1 [(0, .slice (some ⟨pb, 0, none⟩) 2 2), (3, I 0), (9, .slice (some ⟨pb, 0, none⟩) 2 2), (10, I 2), (11, I 0), (12, B true)] (by kernel_rfl) rfl (by kernel_rfl) ?_
  refine .seq ?_
  refine .condT rfl rfl ?_
  refine .skip ?_
  refine .seq ?_
  refine .block ?_
  refine .seq ?_
  refine .region ?_
  refine xo.val 0 (by kernel_rfl) (idxN (kk := .i64) (t := 168) (A := (some ⟨pb, 0, none⟩)) (n := 2) (cap := 2) (sz := 1) (i := 0) (b := pb) (o := 0) (by kernel_rfl) rfl (by omega)) ?_
  refine xo.val 0 (by kernel_rfl) (ldB (t := 111) (o := 0) (by kernel_rfl) hp rfl) ?_
  refine xo.done 1 [(0, .slice (some ⟨pb, 0, none⟩) 2 2), (3, I 0), (5, .slice Ap1 xp1.length cp1), (9, .slice (some ⟨pb, 0, none⟩) 2 2), (10, I 2), (11, I 0)] (by kernel_rfl) rfl (by kernel_rfl) ?_
  refine .seq ?_
  refine .region ?_
  refine xo.val 3 (by kernel_rfl) (a_add (a := 0) (b := (xp1.length : Int)) (by omega) (by omega)) ?_
  refine xo.done 1 [(0, .slice (some ⟨pb, 0, none⟩) 2 2), (3, I (0 + (xp1.length : Int))), (9, .slice (some ⟨pb, 0, none⟩) 2 2), (10, I 2), (11, I 0)] (by kernel_rfl) rfl (by kernel_rfl) ?_
  refine .seq ?_
  refine .region ?_
  refine xo.val 1 (by kernel_rfl) (c_lss_f (show ¬ ((0 + (xp1.length : Int) : Int) < 0) from (by omega))) ?_
  refine xo.done 0 [(0, .slice (some ⟨pb, 0, none⟩) 2 2), (3, I (0 + (xp1.length : Int))), (9, .slice (some ⟨pb, 0, none⟩) 2 2), (10, I 2), (11, I 0), (20, B false)] (by kernel_rfl) rfl (by kernel_rfl) ?_
  refine .condF rfl rfl ?_
  refine .skip ?_
  refine .region ?_
  refine xo.fin 2 (by kernel_rfl) rfl ?_
  refine rnd.cov [(0, .slice (some ⟨pb, 0, none⟩) 2 2), (3, I (0 + (xp1.length : Int))), (9, .slice (some ⟨pb, 0, none⟩) 2 2), (10, I 2), (11, I 1)] (by kernel_rfl) ?_
  refine rnd.next ?_
  refine .seq ?_
  refine .region ?_
  refine xo.done 1 [(0, .slice (some ⟨pb, 0, none⟩) 2 2), (3, I (0 + (xp1.length : Int))), (9, .slice (some ⟨pb, 0, none⟩) 2 2), (10, I 2), (11, I 1), (12, B true)] (by kernel_rfl) rfl (by kernel_rfl) ?_
  refine .seq ?_
  refine .condT rfl rfl ?_
  refine .skip ?_
  refine .seq ?_
  refine .block ?_
  refine .seq ?_
  refine .region ?_
  refine xo.val 0 (by kernel_rfl) (idxN (kk := .i64) (t := 168) (A := (some ⟨pb, 0, none⟩)) (n := 2) (cap := 2) (sz := 1) (i := 1) (b := pb) (o := 0) (by kernel_rfl) rfl (by omega)) ?_
  refine xo.val 0 (by kernel_rfl) (ldB (t := 111) (o := 1) (by kernel_rfl) hp rfl) ?_
  refine xo.done 1 [(0, .slice (some ⟨pb, 0, none⟩) 2 2), (3, I (0 + (xp1.length : Int))), (5, .slice Ap2 xp2.length cp2), (9, .slice (some ⟨pb, 0, none⟩) 2 2), (10, I 2), (11, I 1)] (by kernel_rfl) rfl (by kernel_rfl) ?_
  refine .seq ?_
  refine .region ?_
  refine xo.val 3 (by kernel_rfl) (a_add (a := 0 + (xp1.length : Int)) (b := (xp2.length : Int)) (by omega) (by omega)) ?_
  refine xo.done 1 [(0, .slice (some ⟨pb, 0, none⟩) 2 2), (3, I ((0 + (xp1.length : Int)) + (xp2.length : Int))), (9, .slice (some ⟨pb, 0, none⟩) 2 2), (10, I 2), (11, I 1)] (by kernel_rfl) rfl (by kernel_rfl) ?_
  refine .seq ?_
  refine .region ?_
  refine xo.val 1 (by kernel_rfl) (c_lss_f (show ¬ (((0 + (xp1.length : Int)) + (xp2.length : Int) : Int) < 0) from (by omega))) ?_
  refine xo.done 0 [(0, .slice (some ⟨pb, 0, none⟩) 2 2), (3, I ((0 + (xp1.length : Int)) + (xp2.length : Int))), (9, .slice (some ⟨pb, 0, none⟩) 2 2), (10, I 2), (11, I 1), (20, B false)] (by kernel_rfl) rfl (by kernel_rfl) ?_
  refine .condF rfl rfl ?_
  refine .skip ?_
  refine .region ?_
  refine xo.fin 2 (by kernel_rfl) rfl ?_
  refine rnd.cov [(0, .slice (some ⟨pb, 0, none⟩) 2 2), (3, I ((0 + (xp1.length : Int)) + (xp2.length : Int))), (9, .slice (some ⟨pb, 0, none⟩) 2 2), (10, I 2), (11, I 2)] (by kernel_rfl) ?_
  refine rnd.next ?_
  refine .seq ?_
  refine .region ?_
  refine xo.done 1 [(0, .slice (some ⟨pb, 0, none⟩) 2 2), (3, I ((0 + (xp1.length : Int)) + (xp2.length : Int))), (9, .slice (some ⟨pb, 0, none⟩) 2 2), (10, I 2), (11, I 2), (12, B false)] (by kernel_rfl) rfl (by kernel_rfl) ?_
  refine .seq ?_
  refine .condF rfl rfl ?_
  refine .exit ?_
  refine xsetTo ?_
  refine .seq ?_
  refine .region ?_
  refine xo.ret 1 (by kernel_rfl) (cf124 _ _) (grow_item _ ((0 + (xp1.length : Int)) + (xp2.length : Int)) (by omega) (by omega)) ?_
  rintro _ w4 ⟨A1, c2, rfl, ho3, hx5⟩
  have z4 := hx5.size
  refine xo.done 1 [(0, .slice (some ⟨pb, 0, none⟩) 2 2), (6, .slice A1 0 c2)] (by kernel_rfl) rfl (by kernel_rfl) ?_
  refine .seq ?_
  refine .seq ?_
  refine .region ?_
  refine xo.done 3 [(6, .slice A1 0 c2), (25, .slice (some ⟨pb, 0, none⟩) 2 2), (26, I 2), (27, I 0)] (by kernel_rfl) rfl (by kernel_rfl) ?_
  refine .block ?_
  refine XC.unroll 3 ?_
  refine rnd.next ?_
  refine .seq ?_
  refine .region ?_
  refine xo.done 1 [(6, .slice A1 0 c2), (25, .slice (some ⟨pb, 0, none⟩) 2 2), (26, I 2), (27, I 0), (28, B true)] (by kernel_rfl) rfl (by kernel_rfl) ?_
  refine .seq ?_
  refine .condT rfl rfl ?_
  refine .skip ?_
  refine .seq ?_
  refine .block ?_
  refine .seq ?_
  refine .region ?_
  refine xo.val 0 (by kernel_rfl) (idxN (kk := .i64) (t := 168) (A := (some ⟨pb, 0, none⟩)) (n := 2) (cap := 2) (sz := 1) (i := 0) (b := pb) (o := 0) (by kernel_rfl) rfl (by omega)) ?_
  have hb6 := (hp.ext hx5 (fun h => h))
  refine xo.val 0 (by kernel_rfl) (ldB (t := 111) (o := 0) (by kernel_rfl) hb6 rfl) ?_
  refine xo.done 1 [(6, .slice A1 0 c2), (8, .slice Ap1 xp1.length cp1), (25, .slice (some ⟨pb, 0, none⟩) 2 2), (26, I 2), (27, I 0)] (by kernel_rfl) rfl (by kernel_rfl) ?_
  refine .region ?_
  have hs7 := (hp1.ext hx5 (fun _ _ _ h => h))
  refine xo.app 2 (ty := 111) (k := kItem) (t := 111) (tx := 111) (xs := []) (ys := xp1) (x := .slice Ap1 xp1.length cp1) (by exact pItem) ho3 (src_rd (by kernel_rfl) hs7) (by omega) (show (0 + xp1.length) * 40 ≤ 140737488355328 from (by first | omega | (simp only [List.length_append, List.length_cons, List.length_nil]; omega))) (show 0 + xp1.length ≤ 9223372036854775807 from (by first | omega | (simp only [List.length_append, List.length_cons, List.length_nil]; omega))) (by kernel_rfl) ?_
  intro A8 c9 w10 ho11 hx12
  have z10 := hx12.size
  have ho13 : Own kItem w10 w.heap.size A8 c9 xp1 := ho11
  refine xo.done 1 [(6, .slice A8 ((xp1).length) c9), (25, .slice (some ⟨pb, 0, none⟩) 2 2), (26, I 2), (27, I 0)] (by kernel_rfl) rfl (by kernel_rfl) ?_
  refine .region ?_
  refine xo.fin 2 (by kernel_rfl) rfl ?_
  refine rnd.cov [(6, .slice A8 ((xp1).length) c9), (25, .slice (some ⟨pb, 0, none⟩) 2 2), (26, I 2), (27, I 1)] (by kernel_rfl) ?_
  refine rnd.next ?_
  refine .seq ?_
  refine .region ?_
  refine xo.done 1 [(6, .slice A8 ((xp1).length) c9), (25, .slice (some ⟨pb, 0, none⟩) 2 2), (26, I 2), (27, I 1), (28, B true)] (by kernel_rfl) rfl (by kernel_rfl) ?_
  refine .seq ?_
  refine .condT rfl rfl ?_
  refine .skip ?_
  refine .seq ?_
  refine .block ?_
  refine .seq ?_
  refine .region ?_
  refine xo.val 0 (by kernel_rfl) (idxN (kk := .i64) (t := 168) (A := (some ⟨pb, 0, none⟩)) (n := 2) (cap := 2) (sz := 1) (i := 1) (b := pb) (o := 0) (by kernel_rfl) rfl (by omega)) ?_
  have hb14 := (hb6.ext hx12 (ho3.ne hb6 rfl))
  refine xo.val 0 (by kernel_rfl) (ldB (t := 111) (o := 1) (by kernel_rfl) hb14 rfl) ?_
  refine xo.done 1 [(6, .slice A8 ((xp1).length) c9), (8, .slice Ap2 xp2.length cp2), (25, .slice (some ⟨pb, 0, none⟩) 2 2), (26, I 2), (27, I 1)] (by kernel_rfl) rfl (by kernel_rfl) ?_
  refine .region ?_
  have hs15 := ((hp2.ext hx5 (fun _ _ _ h => h)).ext hx12 (fun b h1 h2 hm => absurd (ho3.lt hm).1 (by omega)))
  refine xo.app 2 (ty := 111) (k := kItem) (t := 111) (tx := 111) (xs := xp1) (ys := xp2) (x := .slice Ap2 xp2.length cp2) (by exact pItem) ho13 (src_rd (by kernel_rfl) hs15) (by omega) (show (xp1.length + xp2.length) * 40 ≤ 140737488355328 from (by first | omega | (simp only [List.length_append, List.length_cons, List.length_nil]; omega))) (show xp1.length + xp2.length ≤ 9223372036854775807 from (by first | omega | (simp only [List.length_append, List.length_cons, List.length_nil]; omega))) (by kernel_rfl) ?_
  intro A16 c17 w18 ho19 hx20
  have z18 := hx20.size
  refine xo.done 1 [(6, .slice A16 ((xp1 ++ xp2).length) c17), (25, .slice (some ⟨pb, 0, none⟩) 2 2), (26, I 2), (27, I 1)] (by kernel_rfl) rfl (by kernel_rfl) ?_
  refine .region ?_
  refine xo.fin 2 (by kernel_rfl) rfl ?_
  refine rnd.cov [(6, .slice A16 ((xp1 ++ xp2).length) c17), (25, .slice (some ⟨pb, 0, none⟩) 2 2), (26, I 2), (27, I 2)] (by kernel_rfl) ?_
  refine rnd.next ?_
  refine .seq ?_
  refine .region ?_
  refine xo.done 1 [(6, .slice A16 ((xp1 ++ xp2).length) c17), (25, .slice (some ⟨pb, 0, none⟩) 2 2), (26, I 2), (27, I 2), (28, B false)] (by kernel_rfl) rfl (by kernel_rfl) ?_
  refine .seq ?_
  refine .condF rfl rfl ?_
  refine .exit ?_
  refine xsetTo ?_
  refine .seq ?_
  refine .region ?_
  refine xo.done 2 [(2, .slice A16 ((xp1 ++ xp2).length) c17)] (by kernel_rfl) rfl (by kernel_rfl) ?_
  refine .ret ?_
  refine ⟨[.slice A16 ((xp1 ++ xp2).length) c17], by kernel_rfl, _, rfl, ?_⟩
  exact ⟨_, _, rfl, ho19.base_le (by omega), ((hx5.trans' hx12 (fun _ _ h => h) (fun b hb hm => absurd (ho3.lt hm).1 (by omega))).trans' hx20 (fun _ _ h => h) (fun b hb hm => absurd (ho13.lt hm).1 (by omega)))⟩

set_option maxHeartbeats 4000000 in
theorem cat3_item (w : World) (pb : Nat) (Ap1 : Option Addr) (cp1 : Nat) (xp1 : List Item) (lp1 up1 : Nat) (hp1 : Rd kItem w lp1 up1 Ap1 xp1) (gp1 : xp1.length ≤ 1000000) (vp1 : up1 ≤ w.heap.size) (Ap2 : Option Addr) (cp2 : Nat) (xp2 : List Item) (lp2 up2 : Nat) (hp2 : Rd kItem w lp2 up2 Ap2 xp2) (gp2 : xp2.length ≤ 1000000) (vp2 : up2 ≤ w.heap.size) (Ap3 : Option Addr) (cp3 : Nat) (xp3 : List Item) (lp3 up3 : Nat) (hp3 : Rd kItem w lp3 up3 Ap3 xp3) (gp3 : xp3.length ≤ 1000000) (vp3 : up3 ≤ w.heap.size) (hp : Blk w pb 111 [.slice Ap1 xp1.length cp1, .slice Ap2 xp2.length cp2, .slice Ap3 xp3.length cp3]) :
    Ret Tryz.prog 111 [.slice (some ⟨pb, 0, none⟩) 3 3] w fun v w' => ∃ A' cap', v = .slice A' (xp1 ++ xp2 ++ xp3).length cap' ∧ Own kItem w' w.heap.size A' cap' (xp1 ++ xp2 ++ xp3) ∧ Ext No w w' := by
  refine calls_of_XC Tryz.func111 rfl rfl ?_
  refine .seq ?_
  refine .region ?_
  refine xo.done 1 [(0, .slice (some ⟨pb, 0, none⟩) 3 3)] (by kernel_rfl) rfl (by kernel_rfl) ?_
  refine .seq ?_
  refine .region ?_
  refine xo.done 1 [(0, .slice (some ⟨pb, 0, none⟩) 3 3), (3, I 0)] (by kernel_rfl) rfl (by kernel_rfl) ?_
  refine .seq ?_
  refine .seq ?_
  refine .region ?_
  refine xo.done 3 [(0, .slice (some ⟨pb, 0, none⟩) 3 3), (3, I 0), (9, .slice (some ⟨pb, 0, none⟩) 3 3), (10, I 3), (11, I 0)] (by kernel_rfl) rfl (by kernel_rfl) ?_
  refine .block ?_
  refine XC.unroll 4 ?_
  refine rnd.next ?_
  refine .seq ?_
  refine .region ?_
  refine xo.done 1 [(0, .slice (some ⟨pb, 0, none⟩) 3 3), (3, I 0), (9, .slice (some ⟨pb, 0, none⟩) 3 3), (10, I 3), (11, I 0), (12, B true)] (by kernel_rfl) rfl (by kernel_rfl) ?_
  refine .seq ?_
  refine .condT rfl rfl ?_
  refine .skip ?_
  refine .seq ?_
  refine .block ?_
  refine .seq ?_
  refine .region ?_
  refine xo.val 0 (by kernel_rfl) (idxN (kk := .i64) (t := 168) (A := (some ⟨pb, 0, none⟩)) (n := 3) (cap := 3) (sz := 1) (i := 0) (b := pb) (o := 0) (by kernel_rfl) rfl (by omega)) ?_
  refine xo.val 0 (by kernel_rfl) (ldB (t := 111) (o := 0) (by kernel_rfl) hp rfl) ?_
  refine xo.done 1 [(0, .slice (some ⟨pb, 0, none⟩) 3 3), (3, I 0), (5, .slice Ap1 xp1.length cp1), (9, .slice (some ⟨pb, 0, none⟩) 3 3), (10, I 3), (11, I 0)] (by kernel_rfl) rfl (by kernel_rfl) ?_
  refine .seq ?_
  refine .region ?_
  refine xo.val 3 (by kernel_rfl) (a_add (a := 0) (b := (xp1.length : Int)) (by omega) (by omega)) ?_
  refine xo.done 1 [(0, .slice (some ⟨pb, 0, none⟩) 3 3), (3, I (0 + (xp1.length : Int))), (9, .slice (some ⟨pb, 0, none⟩) 3 3), (10, I 3), (11, I 0)] (by kernel_rfl) rfl (by kernel_rfl) ?_
  refine .seq ?_
  refine .region ?_
  refine xo.val 1 (by kernel_rfl) (c_lss_f (show ¬ ((0 + (xp1.length : Int) : Int) < 0) from (by omega))) ?_
  refine xo.done 0 [(0, .slice (some ⟨pb, 0, none⟩) 3 3), (3, I (0 + (xp1.length : Int))), (9, .slice (some ⟨pb, 0, none⟩) 3 3), (10, I 3), (11, I 0), (20, B false)] (by kernel_rfl) rfl (by kernel_rfl) ?_
  refine .condF rfl rfl ?_
  refine .skip ?_
  refine .region ?_
  refine xo.fin 2 (by kernel_rfl) rfl ?_
  refine rnd.cov [(0, .slice (some ⟨pb, 0, none⟩) 3 3), (3, I (0 + (xp1.length : Int))), (9, .slice (some ⟨pb, 0, none⟩) 3 3), (10, I 3), (11, I 1)] (by kernel_rfl) ?_
  refine rnd.next ?_
  refine .seq ?_
  refine .region ?_
  refine xo.done 1 [(0, .slice (some ⟨pb, 0, none⟩) 3 3), (3, I (0 + (xp1.length : Int))), (9, .slice (some ⟨pb, 0, none⟩) 3 3), (10, I 3), (11, I 1), (12, B true)] (by kernel_rfl) rfl (by kernel_rfl) ?_
  refine .seq ?_
  refine .condT rfl rfl ?_
  refine .skip ?_
  refine .seq ?_
  refine .block ?_
  refine .seq ?_
  refine .region ?_
  refine xo.val 0 (by kernel_rfl) (idxN (kk := .i64) (t := 168) (A := (some ⟨pb, 0, none⟩)) (n := 3) (cap := 3) (sz := 1) (i := 1) (b := pb) (o := 0) (by kernel_rfl) rfl (by omega)) ?_
  refine xo.val 0 (by kernel_rfl) (ldB (t := 111) (o := 1) (by kernel_rfl) hp rfl) ?_
  refine xo.done 1 [(0, .slice (some ⟨pb, 0, none⟩) 3 3), (3, I (0 + (xp1.length : Int))), (5, .slice Ap2 xp2.length cp2), (9, .slice (some ⟨pb, 0, none⟩) 3 3), (10, I 3), (11, I 1)] (by kernel_rfl) rfl (by kernel_rfl) ?_
  refine .seq ?_
  refine .region ?_
  refine xo.val 3 (by kernel_rfl) (a_add (a := 0 + (xp1.length : Int)) (b := (xp2.length : Int)) (by omega) (by omega)) ?_
  refine xo.done 1 [(0, .slice (some ⟨pb, 0, none⟩) 3 3), (3, I ((0 + (xp1.length : Int)) + (xp2.length : Int))), (9, .slice (some ⟨pb, 0, none⟩) 3 3), (10, I 3), (11, I 1)] (by kernel_rfl) rfl (by kernel_rfl) ?_
  refine .seq ?_
  refine .region ?_
  refine xo.val 1 (by kernel_rfl) (c_lss_f (show ¬ (((0 + (xp1.length : Int)) + (xp2.length : Int) : Int) < 0) from (by omega))) ?_
  refine xo.done 0 [(0, .slice (some ⟨pb, 0, none⟩) 3 3), (3, I ((0 + (xp1.length : Int)) + (xp2.length : Int))), (9, .slice (some ⟨pb, 0, none⟩) 3 3), (10, I 3), (11, I 1), (20, B false)] (by kernel_rfl) rfl (by kernel_rfl) ?_
  refine .condF rfl rfl ?_
  refine .skip ?_
  refine .region ?_
  refine xo.fin 2 (by kernel_rfl) rfl ?_
  refine rnd.cov [(0, .slice (some ⟨pb, 0, none⟩) 3 3), (3, I ((0 + (xp1.length : Int)) + (xp2.length : Int))), (9, .slice (some ⟨pb, 0, none⟩) 3 3), (10, I 3), (11, I 2)] (by kernel_rfl) ?_
  refine rnd.next ?_
  refine .seq ?_
  refine .region ?_
  refine xo.done 1 [(0, .slice (some ⟨pb, 0, none⟩) 3 3), (3, I ((0 + (xp1.length : Int)) + (xp2.length : Int))), (9, .slice (some ⟨pb, 0, none⟩) 3 3), (10, I 3), (11, I 2), (12, B true)] (by kernel_rfl) rfl (by kernel_rfl) ?_
  refine .seq ?_
  refine .condT rfl rfl ?_
  refine .skip ?_
  refine .seq ?_
  refine .block ?_
  refine .seq ?_
  refine .region ?_
  refine xo.val 0 (by kernel_rfl) (idxN (kk := .i64) (t := 168) (A := (some ⟨pb, 0, none⟩)) (n := 3) (cap := 3) (sz := 1) (i := 2) (b := pb) (o := 0) (by kernel_rfl) rfl (by omega)) ?_
  refine xo.val 0 (by kernel_rfl) (ldB (t := 111) (o := 2) (by kernel_rfl) hp rfl) ?_
  refine xo.done 1 [(0, .slice (some ⟨pb, 0, none⟩) 3 3), (3, I ((0 + (xp1.length : Int)) + (xp2.length : Int))), (5, .slice Ap3 xp3.length cp3), (9, .slice (some ⟨pb, 0, none⟩) 3 3), (10, I 3), (11, I 2)] (by kernel_rfl) rfl (by kernel_rfl) ?_
  refine .seq ?_
  refine .region ?_
  refine xo.val 3 (by kernel_rfl) (a_add (a := (0 + (xp1.length : Int)) + (xp2.length : Int)) (b := (xp3.length : Int)) (by omega) (by omega)) ?_
  refine xo.done 1 [(0, .slice (some ⟨pb, 0, none⟩) 3 3), (3, I (((0 + (xp1.length : Int)) + (xp2.length : Int)) + (xp3.length : Int))), (9, .slice (some ⟨pb, 0, none⟩) 3 3), (10, I 3), (11, I 2)] (by kernel_rfl) rfl (by kernel_rfl) ?_
  refine .seq ?_
  refine .region ?_
  refine xo.val 1 (by kernel_rfl) (c_lss_f (show ¬ ((((0 + (xp1.length : Int)) + (xp2.length : Int)) + (xp3.length : Int) : Int) < 0) from (by omega))) ?_
  refine xo.done 0 [(0, .slice (some ⟨pb, 0, none⟩) 3 3), (3, I (((0 + (xp1.length : Int)) + (xp2.length : Int)) + (xp3.length : Int))), (9, .slice (some ⟨pb, 0, none⟩) 3 3), (10, I 3), (11, I 2), (20, B false)] (by kernel_rfl) rfl (by kernel_rfl) ?_
  refine .condF rfl rfl ?_
  refine .skip ?_
  refine .region ?_
  refine xo.fin 2 (by kernel_rfl) rfl ?_
  refine rnd.cov [(0, .slice (some ⟨pb, 0, none⟩) 3 3), (3, I (((0 + (xp1.length : Int)) + (xp2.length : Int)) + (xp3.length : Int))), (9, .slice (some ⟨pb, 0, none⟩) 3 3), (10, I 3), (11, I 3)] (by kernel_rfl) ?_
  refine rnd.next ?_
  refine .seq ?_
  refine .region ?_
  refine xo.done 1 [(0, .slice (some ⟨pb, 0, none⟩) 3 3), (3, I (((0 + (xp1.length : Int)) + (xp2.length : Int)) + (xp3.length : Int))), (9, .slice (some ⟨pb, 0, none⟩) 3 3), (10, I 3), (11, I 3), (12, B false)] (by kernel_rfl) rfl (by kernel_rfl) ?_
  refine .seq ?_
  refine .condF rfl rfl ?_
  refine .exit ?_
  refine xsetTo ?_
  refine .seq ?_
  refine .region ?_
  refine xo.ret 1 (by kernel_rfl) (cf124 _ _) (grow_item _ (((0 + (xp1.length : Int)) + (xp2.length : Int)) + (xp3.length : Int)) (by omega) (by omega)) ?_
  rintro _ w4 ⟨A1, c2, rfl, ho3, hx5⟩
  have z4 := hx5.size
  refine xo.done 1 [(0, .slice (some ⟨pb, 0, none⟩) 3 3), (6, .slice A1 0 c2)] (by kernel_rfl) rfl (by kernel_rfl) ?_
  refine .seq ?_
  refine .seq ?_
  refine .region ?_
  refine xo.done 3 [(6, .slice A1 0 c2), (25, .slice (some ⟨pb, 0, none⟩) 3 3), (26, I 3), (27, I 0)] (by kernel_rfl) rfl (by kernel_rfl) ?_
  refine .block ?_
  refine XC.unroll 4 ?_
  refine rnd.next ?_
  refine .seq ?_
  refine .region ?_
  refine xo.done 1 [(6, .slice A1 0 c2), (25, .slice (some ⟨pb, 0, none⟩) 3 3), (26, I 3), (27, I 0), (28, B true)] (by kernel_rfl) rfl (by kernel_rfl) ?_
  refine .seq ?_
  refine .condT rfl rfl ?_
  refine .skip ?_
  refine .seq ?_
  refine .block ?_
  refine .seq ?_
  refine .region ?_
  refine xo.val 0 (by kernel_rfl) (idxN (kk := .i64) (t := 168) (A := (some ⟨pb, 0, none⟩)) (n := 3) (cap := 3) (sz := 1) (i := 0) (b := pb) (o := 0) (by kernel_rfl) rfl (by omega)) ?_
  have hb6 := (hp.ext hx5 (fun h => h))
  refine xo.val 0 (by kernel_rfl) (ldB (t := 111) (o := 0) (by kernel_rfl) hb6 rfl) ?_
  refine xo.done 1 [(6, .slice A1 0 c2), (8, .slice Ap1 xp1.length cp1), (25, .slice (some ⟨pb, 0, none⟩) 3 3), (26, I 3), (27, I 0)] (by kernel_rfl) rfl (by kernel_rfl) ?_
  refine .region ?_
  have hs7 := (hp1.ext hx5 (fun _ _ _ h => h))
  refine xo.app 2 (ty := 111) (k := kItem) (t := 111) (tx := 111) (xs := []) (ys := xp1) (x := .slice Ap1 xp1.length cp1) (by exact pItem) ho3 (src_rd (by kernel_rfl) hs7) (by omega) (show (0 + xp1.length) * 40 ≤ 140737488355328 from (by first | omega | (simp only [List.length_append, List.length_cons, List.length_nil]; omega))) (show 0 + xp1.length ≤ 9223372036854775807 from (by first | omega | (simp only [List.length_append, List.length_cons, List.length_nil]; omega))) (by kernel_rfl) ?_
  intro A8 c9 w10 ho11 hx12
  have z10 := hx12.size
  have ho13 : Own kItem w10 w.heap.size A8 c9 xp1 := ho11
  refine xo.done 1 [(6, .slice A8 ((xp1).length) c9), (25, .slice (some ⟨pb, 0, none⟩) 3 3), (26, I 3), (27, I 0)] (by kernel_rfl) rfl (by kernel_rfl) ?_
  refine .region ?_
  refine xo.fin 2 (by kernel_rfl) rfl ?_
  refine rnd.cov [(6, .slice A8 ((xp1).length) c9), (25, .slice (some ⟨pb, 0, none⟩) 3 3), (26, I 3), (27, I 1)] (by kernel_rfl) ?_
  refine rnd.next ?_
  refine .seq ?_
  refine .region ?_
  refine xo.done 1 [(6, .slice A8 ((xp1).length) c9), (25, .slice (some ⟨pb, 0, none⟩) 3 3), (26, I 3), (27, I 1), (28, B true)] (by kernel_rfl) rfl (by kernel_rfl) ?_
  refine .seq ?_
  refine .condT rfl rfl ?_
  refine .skip ?_
  refine .seq ?_
  refine .block ?_
  refine .seq ?_
  refine .region ?_
  refine xo.val 0 (by kernel_rfl) (idxN (kk := .i64) (t := 168) (A := (some ⟨pb, 0, none⟩)) (n := 3) (cap := 3) (sz := 1) (i := 1) (b := pb) (o := 0) (by kernel_rfl) rfl (by omega)) ?_
  have hb14 := (hb6.ext hx12 (ho3.ne hb6 rfl))
  refine xo.val 0 (by kernel_rfl) (ldB (t := 111) (o := 1) (by kernel_rfl) hb14 rfl) ?_
  refine xo.done 1 [(6, .slice A8 ((xp1).length) c9), (8, .slice Ap2 xp2.length cp2), (25, .slice (some ⟨pb, 0, none⟩) 3 3), (26, I 3), (27, I 1)] (by kernel_rfl) rfl (by kernel_rfl) ?_
  refine .region ?_
  have hs15 := ((hp2.ext hx5 (fun _ _ _ h => h)).ext hx12 (fun b h1 h2 hm => absurd (ho3.lt hm).1 (by omega)))
  refine xo.app 2 (ty := 111) (k := kItem) (t := 111) (tx := 111) (xs := xp1) (ys := xp2) (x := .slice Ap2 xp2.length cp2) (by exact pItem) ho13 (src_rd (by kernel_rfl) hs15) (by omega) (show (xp1.length + xp2.length) * 40 ≤ 140737488355328 from (by first | omega | (simp only [List.length_append, List.length_cons, List.length_nil]; omega))) (show xp1.length + xp2.length ≤ 9223372036854775807 from (by first | omega | (simp only [List.length_append, List.length_cons, List.length_nil]; omega))) (by kernel_rfl) ?_
  intro A16 c17 w18 ho19 hx20
  have z18 := hx20.size
  refine xo.done 1 [(6, .slice A16 ((xp1 ++ xp2).length) c17), (25, .slice (some ⟨pb, 0, none⟩) 3 3), (26, I 3), (27, I 1)] (by kernel_rfl) rfl (by kernel_rfl) ?_
  refine .region ?_
  refine xo.fin 2 (by kernel_rfl) rfl ?_
  refine rnd.cov [(6, .slice A16 ((xp1 ++ xp2).length) c17), (25, .slice (some ⟨pb, 0, none⟩) 3 3), (26, I 3), (27, I 2)] (by kernel_rfl) ?_
  refine rnd.next ?_
  refine .seq ?_
  refine .region ?_
  refine xo.done 1 [(6, .slice A16 ((xp1 ++ xp2).length) c17), (25, .slice (some ⟨pb, 0, none⟩) 3 3), (26, I 3), (27, I 2), (28, B true)] (by kernel_rfl) rfl (by kernel_rfl) ?_
  refine .seq ?_
  refine .condT rfl rfl ?_
  refine .skip ?_
  refine .seq ?_
  refine .block ?_
  refine .seq ?_
  refine .region ?_
  refine xo.val 0 (by kernel_rfl) (idxN (kk := .i64) (t := 168) (A := (some ⟨pb, 0, none⟩)) (n := 3) (cap := 3) (sz := 1) (i := 2) (b := pb) (o := 0) (by kernel_rfl) rfl (by omega)) ?_
  have hb21 := (hb14.ext hx20 (ho13.ne hb14 rfl))
  refine xo.val 0 (by kernel_rfl) (ldB (t := 111) (o := 2) (by kernel_rfl) hb21 rfl) ?_
  refine xo.done 1 [(6, .slice A16 ((xp1 ++ xp2).length) c17), (8, .slice Ap3 xp3.length cp3), (25, .slice (some ⟨pb, 0, none⟩) 3 3), (26, I 3), (27, I 2)] (by kernel_rfl) rfl (by kernel_rfl) ?_
  refine .region ?_
  have hs22 := (((hp3.ext hx5 (fun _ _ _ h => h)).ext hx12 (fun b h1 h2 hm => absurd (ho3.lt hm).1 (by omega))).ext hx20 (fun b h1 h2 hm => absurd (ho13.lt hm).1 (by omega)))
  refine xo.app 2 (ty := 111) (k := kItem) (t := 111) (tx := 111) (xs := xp1 ++ xp2) (ys := xp3) (x := .slice Ap3 xp3.length cp3) (by exact pItem) ho19 (src_rd (by kernel_rfl) hs22) (by omega) (show ((xp1 ++ xp2).length + xp3.length) * 40 ≤ 140737488355328 from (by first | omega | (simp only [List.length_append, List.length_cons, List.length_nil]; omega))) (show (xp1 ++ xp2).length + xp3.length ≤ 9223372036854775807 from (by first | omega | (simp only [List.length_append, List.length_cons, List.length_nil]; omega))) (by kernel_rfl) ?_
  intro A23 c24 w25 ho26 hx27
  have z25 := hx27.size
  refine xo.done 1 [(6, .slice A23 ((xp1 ++ xp2 ++ xp3).length) c24), (25, .slice (some ⟨pb, 0, none⟩) 3 3), (26, I 3), (27, I 2)] (by kernel_rfl) rfl (by kernel_rfl) ?_
  refine .region ?_
  refine xo.fin 2 (by kernel_rfl) rfl ?_
  refine rnd.cov [(6, .slice A23 ((xp1 ++ xp2 ++ xp3).length) c24), (25, .slice (some ⟨pb, 0, none⟩) 3 3), (26, I 3), (27, I 3)] (by kernel_rfl) ?_
  refine rnd.next ?_
  refine .seq ?_
  refine .region ?_
  refine xo.done 1 [(6, .slice A23 ((xp1 ++ xp2 ++ xp3).length) c24), (25, .slice (some ⟨pb, 0, none⟩) 3 3), (26, I 3), (27, I 3), (28, B false)] (by kernel_rfl) rfl (by kernel_rfl) ?_
  refine .seq ?_
  refine .condF rfl rfl ?_
  refine .exit ?_
  refine xsetTo ?_
  refine .seq ?_
  refine .region ?_
  refine xo.done 2 [(2, .slice A23 ((xp1 ++ xp2 ++ xp3).length) c24)] (by kernel_rfl) rfl (by kernel_rfl) ?_
  refine .ret ?_
  refine ⟨[.slice A23 ((xp1 ++ xp2 ++ xp3).length) c24], by kernel_rfl, _, rfl, ?_⟩
  exact ⟨_, _, rfl, ho26.base_le (by omega), (((hx5.trans' hx12 (fun _ _ h => h) (fun b hb hm => absurd (ho3.lt hm).1 (by omega))).trans' hx20 (fun _ _ h => h) (fun b hb hm => absurd (ho13.lt hm).1 (by omega))).trans' hx27 (fun _ _ h => h) (fun b hb hm => absurd (ho19.lt hm).1 (by omega)))⟩

end Go.Proofs.YtbajgpadmlnffaaGreat
/- A node is laid. -/
namespace Go.Proofs.YtbajgpadmlnffaaGreat
open Go.V
set_option maxRecDepth 100000
set_option linter.unusedVariables false
set_option linter.unusedSimpArgs false

/-! a node as bytes -/
def itemB (lv : Int) (x : Item) : List UInt8 := if 0 < lv then txt x.key else txt x.key ++ txt x.val
def itemsB (lv : Int) (l : List Item) : List UInt8 := l.flatMap (itemB lv)
def nodeB (nd : Node) : List UInt8 := (be 1 nd.level ++ be 1 (nd.items.length : Int)) ++ itemsB nd.level nd.items
def kidsL (lv : Int) (l : List Item) : List Int := if 0 < lv then l.map (·.kid) else []
def kidsOf (nd : Node) : List Int := kidsL nd.level nd.items
/-- Its texts are short. -/
def ShortI (l : List Item) : Prop := ∀ x ∈ l, x.key.size ≤ 64 ∧ x.val.size ≤ 300
theorem itemsB_snoc (lv : Int) (l : List Item) (i : Nat) (x : Item) (h : l[i]? = some x) : itemsB lv (l.take (i + 1)) = itemsB lv (l.take i) ++ itemB lv x := by
  obtain ⟨hi, h2⟩ := List.getElem?_eq_some_iff.1 h
  unfold itemsB
  rw [List.take_succ_eq_append_getElem hi, List.flatMap_append, h2]
  simp
theorem kidsL_snoc (lv : Int) (l : List Item) (i : Nat) (x : Item) (h : l[i]? = some x) : kidsL lv (l.take (i + 1)) = if 0 < lv then kidsL lv (l.take i) ++ [x.kid] else [] := by
  obtain ⟨hi, h2⟩ := List.getElem?_eq_some_iff.1 h
  unfold kidsL
  split
  · rw [List.take_succ_eq_append_getElem hi, List.map_append, h2]; rfl
  · rfl
theorem itemB_length (lv : Int) (x : Item) (h : x.key.size ≤ 64 ∧ x.val.size ≤ 300) : (itemB lv x).length ≤ 368 := by
  unfold itemB
  split
  · rw [txt_length]; omega
  · rw [List.length_append, txt_length, txt_length]; omega
theorem itemsB_length (lv : Int) : ∀ (l : List Item), ShortI l → (itemsB lv l).length ≤ 368 * l.length := by
  intro l
  induction l with
  | nil => intro _; simp [itemsB]
  | cons x r ih =>
    intro h
    have h1 := itemB_length lv x (h x (by simp))
    have h2 := ih (fun y hy => h y (by simp [hy]))
    simp only [itemsB, List.flatMap_cons, List.length_append, List.length_cons] at *
    omega
theorem kidsL_length (lv : Int) (l : List Item) : (kidsL lv l).length ≤ l.length := by unfold kidsL; split <;> simp

theorem node_bytes (w : World) (lv : Int) (A : Option Addr) (cap : Nat) (items : List Item) (lo hi : Nat) (hR : Rd kItem w lo hi A items) (hhi_ : hi ≤ w.heap.size) (h16 : items.length ≤ 16) (hS : ShortI items) :
    Ret Tryz.prog 99 [.agg #[I lv, .slice A items.length cap]] w fun v w' => ∃ K kc, v = .tuple #[.slice K (kidsOf ⟨lv, items⟩).length kc, S (bs (nodeB ⟨lv, items⟩))] ∧ Own kInt w' w.heap.size K kc (kidsOf ⟨lv, items⟩) ∧ Ext No w w' := by
  refine calls_of_XC Tryz.func99 rfl rfl ?_
  refine .seq ?_
  refine .region ?_
  refine xo.box 0 113 (.agg #[I lv, .slice A items.length cap]) [I lv, .slice A items.length cap] (by kernel_rfl) (by kernel_rfl) ?_
  intro b1 w2 hb3 hx4 hg5
  have z2 := hx4.size
  have l3 := hb3.lt
  refine xo.done 2 [(1, Pt b1 0)] (by kernel_rfl) rfl (by kernel_rfl) ?_
  refine .seq ?_
  refine .region ?_
  refine xo.done 1 [(1, Pt b1 0), (4, .slice none 0 0)] (by kernel_rfl) rfl (by kernel_rfl) ?_
  refine .seq ?_
  refine XC.regionDraw (fun u => Blk u b1 113 [I lv, .slice A items.length cap] ∧ True) (by kernel_rfl) ?_
  intro w8 hd9
  have hx9 := Ext.ofDrew (M := No) hd9
  have z8 := hx9.size
  have hb10 := (hb3.ext hx9 (fun h => h))
  refine ⟨⟨hb10, trivial⟩, ?_⟩
  refine xd.q (fun _ _ _ _ h => h) 0 (Pt b1 0) (by kernel_rfl) (by kernel_rfl) (by kernel_rfl) ?_
  refine xd.rd (fun _ _ _ _ h => h) 1 (by kernel_rfl) (by kernel_rfl) (by kernel_rfl) (fun u hS => (ldB (t := 3) (o := 0) (by kernel_rfl) hS.1 rfl)) ?_
  refine xd.q (fun _ _ _ _ h => h) 3 (Pt b1 1) (by kernel_rfl) (by kernel_rfl) (by kernel_rfl) ?_
  refine xd.rd (fun _ _ _ _ h => h) 4 (by kernel_rfl) (by kernel_rfl) (by kernel_rfl) (fun u hS => (ldB (t := 111) (o := 1) (by kernel_rfl) hS.1 rfl)) ?_
  refine xd.q (fun _ _ _ _ h => h) 5 (I (items.length : Int)) (by kernel_rfl) (by kernel_rfl) (by kernel_rfl) ?_
  refine xd.one 2 (by kernel_rfl) ?_
  refine xo.ret 0 (by kernel_rfl) (cf50 _ _) (oct_put _ 0 0 none 0 ([]) (Rd.nil (k := _)) (by omega) (by first | omega | (simp only [List.length_append, be_length, List.length_nil, List.length_cons, bs_size, Array.length_toList] at *; omega)) lv 1 (by omega) (by omega)) ?_
  rintro _ w14 ⟨A11, c12, rfl, ho13, hx15⟩
  have z14 := hx15.size
  refine xo.fin 0 (by kernel_rfl) rfl ?_
  have hb16 := (hb10.ext hx15 (fun h => h))
  refine ⟨⟨hb16, trivial⟩, ?_⟩
  refine xd.one 6 (by kernel_rfl) ?_
  refine xo.ret 0 (by kernel_rfl) (cf50 _ _) (oct_put _ w8.heap.size w14.heap.size A11 c12 (([]) ++ be 1 lv) ho13.rd (by omega) (by first | omega | (simp only [List.length_append, be_length, List.length_nil, List.length_cons, bs_size, Array.length_toList] at *; omega)) (items.length : Int) 1 (by omega) (by omega)) ?_
  rintro _ w20 ⟨A17, c18, rfl, ho19, hx21⟩
  have z20 := hx21.size
  refine xo.fin 0 (by kernel_rfl) rfl ?_
  have hb22 := (hb16.ext hx21 (fun h => h))
  refine ⟨⟨hb22, trivial⟩, ?_⟩
  refine xd.q (fun _ _ _ _ h => h) 7 (.slice A17 (((([]) ++ be 1 lv) ++ be 1 (items.length : Int)).length) c18) (by kernel_rfl) (by kernel_rfl) (by kernel_rfl) ?_
  refine xd.done (by kernel_rfl) ?_
  refine .cov [(1, Pt b1 0), (4, .slice none 0 0), (5, .slice A17 (((([]) ++ be 1 lv) ++ be 1 (items.length : Int)).length) c18)] (cov_of (by kernel_rfl)) ?_
  refine .seq ?_
  refine .seq ?_
  refine .region ?_
  refine xo.val 1 (by kernel_rfl) (ldB (t := 111) (o := 1) (by kernel_rfl) hb22 rfl) ?_
  refine xo.done 2 [(1, Pt b1 0), (4, .slice none 0 0), (5, .slice A17 (((([]) ++ be 1 lv) ++ be 1 (items.length : Int)).length) c18), (16, .slice A items.length cap), (17, I (items.length : Int)), (18, I 0)] (by kernel_rfl) rfl (by kernel_rfl) ?_
  refine .block ?_
  refine XC.loop (ι := Option Addr × Nat × Nat × List UInt8 × Option Addr × Nat × List Int) (fun ⟨B_, cp, i, xs, K_, kc, ks⟩ => [(1, Pt b1 0), (4, .slice K_ ks.length kc), (5, .slice B_ xs.length cp), (16, .slice A items.length cap), (17, I (items.length : Int)), (18, I (i : Int))]) (fun ⟨B_, cp, i, xs, K_, kc, ks⟩ u => Own (kU8 5) u w.heap.size B_ cp xs ∧ Own kInt u w.heap.size K_ kc ks ∧ Blk u b1 113 [I lv, .slice A items.length cap] ∧ Ext No w u ∧ i ≤ items.length ∧ xs = (be 1 lv ++ be 1 (items.length : Int)) ++ itemsB lv (items.take i) ∧ ks = kidsL lv (items.take i)) (fun ⟨B_, cp, i, xs, K_, kc, ks⟩ => items.length - i) (A17, c18, 0, _, none, 0, []) (cov_of (by kernel_rfl)) ⟨ho19.base_le (by omega), .nil, hb22, (((hx4.trans' hx9 (fun _ _ h => h) (fun b hb h => h)).trans' hx15 (fun _ _ h => h) (fun b hb h => h)).trans' hx21 (fun _ _ h => h) (fun b hb h => h)), by omega, by simp [itemsB], by simp [kidsL]⟩ ?_
  rintro ⟨B_, cp, i, xs, K_, kc, ks⟩ w23 ⟨hown, hkown, hb1u, hE, hi_, hxs, hks⟩
  have z23 := hE.size
  have lb1u := hb1u.lt
  have hil := itemsB_length lv (items.take i) (fun x hx => hS x (List.mem_of_mem_take hx))
  have hxl : xs.length ≤ 2 + 368 * 16 := by rw [hxs, List.length_append, List.length_append, be_length, be_length]; rw [List.length_take] at hil; omega
  have hkl := kidsL_length lv (items.take i)
  rw [← hks, List.length_take] at hkl
  refine .seq ?_
  refine .region ?_
  by_cases hc24 : ((i : Int) : Int) < (items.length : Int)
  · refine xo.val 0 (by kernel_rfl) (c_lss_t hc24) ?_
    refine xo.done 0 [(1, Pt b1 0), (4, .slice K_ ks.length kc), (5, .slice B_ xs.length cp), (16, .slice A items.length cap), (17, I (items.length : Int)), (18, I (i : Int)), (19, B true)] (by kernel_rfl) rfl (by kernel_rfl) ?_
    refine .seq ?_
    refine .condT rfl rfl ?_
    refine .skip ?_
    refine .seq ?_
    refine .block ?_
    refine .seq ?_
    refine .region ?_
    have hs25 := (hR.ext hE (fun _ _ _ h => h))
    obtain ⟨b26, o27, x28, hi29, hA30, hl31, hh32, hr33⟩ := hs25.at_ i (by omega)
    refine xo.val 0 (by kernel_rfl) (idxN (kk := .i64) (t := 111) (n := items.length) (cap := cap) (sz := 3) (i := i) (by kernel_rfl) hA30 (by omega)) ?_
    have hsh := hS x28 (List.mem_of_getElem? hi29)
    have htk := txt_length x28.key
    have htv := txt_length x28.val
    refine xo.val 0 (by kernel_rfl) (ldA (t := 119) (by kernel_rfl) hr33) ?_
    refine xo.alloc 0 119 [S (⟨#[]⟩), S (⟨#[]⟩), I 0] (by kernel_rfl) (by kernel_rfl) ?_
    intro b34 w35 hb36 hx37 hg38
    have z35 := hx37.size
    have l36 := hb36.lt
    refine xo.store 0 119 (o := 0) (.agg #[S x28.key, S x28.val, I x28.kid]) [S x28.key, S x28.val, I x28.kid] (by kernel_rfl) hb36 (by kernel_rfl) (by kernel_rfl) (by kernel_rfl) (by kernel_rfl) ?_
    intro w39 hb40 hx41
    have z39 := hx41.size
    refine xo.done 0 [(1, Pt b1 0), (4, .slice K_ ks.length kc), (5, .slice B_ xs.length cp), (7, Pt b34 0), (16, .slice A items.length cap), (17, I (items.length : Int)), (18, I (i : Int))] (by kernel_rfl) rfl (by kernel_rfl) ?_
    refine .seq ?_
    refine .region ?_
    refine xo.val 2 (by kernel_rfl) (ldB (t := 9) (o := 0) (by kernel_rfl) hb40 rfl) ?_
    have hs42 := ((hown.ext hx37 (fun _ _ h => h)).ext hx41 (fun b hb (e : b = b34) => (hown.ext hx37 (fun _ _ h => h)).ne hb36 rfl (e ▸ hb)))
    refine xo.ret 0 (by kernel_rfl) (cf51 _ _) (oct_puttext _ w.heap.size w39.heap.size B_ cp xs hs42.rd (by omega) (by first | omega | (simp only [List.length_append, be_length, List.length_nil, List.length_cons, bs_size, Array.length_toList] at *; omega)) x28.key (by first | omega | (simp only [List.length_append, be_length, List.length_nil, List.length_cons, bs_size, Array.length_toList] at *; omega))) ?_
    rintro _ w46 ⟨A43, c44, rfl, ho45, hx47⟩
    have z46 := hx47.size
    refine xo.done 1 [(1, Pt b1 0), (4, .slice K_ ks.length kc), (5, .slice A43 ((xs ++ txt x28.key).length) c44), (7, Pt b34 0), (16, .slice A items.length cap), (17, I (items.length : Int)), (18, I (i : Int))] (by kernel_rfl) rfl (by kernel_rfl) ?_
    refine .seq ?_
    refine .region ?_
    have hb48 := (((hb1u.ext hx37 (fun h => h)).ext hx41 (show b1 ≠ b34 by omega)).ext hx47 (fun h => h))
    refine xo.val 1 (by kernel_rfl) (ldB (t := 3) (o := 0) (by kernel_rfl) hb48 rfl) ?_
    by_cases hc49 : (lv : Int) ≤ 0
    · refine xo.val 0 (by kernel_rfl) (c_gtr_t hc49) ?_
      refine xo.done 0 [(1, Pt b1 0), (4, .slice K_ ks.length kc), (5, .slice A43 ((xs ++ txt x28.key).length) c44), (7, Pt b34 0), (16, .slice A items.length cap), (17, I (items.length : Int)), (18, I (i : Int)), (28, B false)] (by kernel_rfl) rfl (by kernel_rfl) ?_
      refine .condF rfl rfl ?_
      refine .region ?_
      have hb50 := (hb40.ext hx47 (fun h => h))
      refine xo.val 2 (by kernel_rfl) (ldB (t := 9) (o := 1) (by kernel_rfl) hb50 rfl) ?_
      refine xo.ret 0 (by kernel_rfl) (cf51 _ _) (oct_puttext _ w39.heap.size w46.heap.size A43 c44 (xs ++ txt x28.key) ho45.rd (by omega) (by first | omega | (simp only [List.length_append, be_length, List.length_nil, List.length_cons, bs_size, Array.length_toList] at *; omega)) x28.val (by first | omega | (simp only [List.length_append, be_length, List.length_nil, List.length_cons, bs_size, Array.length_toList] at *; omega))) ?_
      rintro _ w54 ⟨A51, c52, rfl, ho53, hx55⟩
      have z54 := hx55.size
      refine xo.done 1 [(1, Pt b1 0), (4, .slice K_ ks.length kc), (5, .slice A51 (((xs ++ txt x28.key) ++ txt x28.val).length) c52), (16, .slice A items.length cap), (17, I (items.length : Int)), (18, I (i : Int))] (by kernel_rfl) rfl (by kernel_rfl) ?_
      refine .region ?_
      refine xo.val 0 (by kernel_rfl) (a_add (a := (i : Int)) (b := 1) (by omega) (by omega)) ?_
      refine xo.fin 1 (by kernel_rfl) rfl ?_
      have hs56 := ((((hkown.ext hx37 (fun _ _ h => h)).ext hx41 (fun b hb (e : b = b34) => (hkown.ext hx37 (fun _ _ h => h)).ne hb36 rfl (e ▸ hb))).ext hx47 (fun _ _ h => h)).ext hx55 (fun _ _ h => h))
      have hb57 := (hb48.ext hx55 (fun h => h))
      refine ⟨(A51, c52, i + 1, (xs ++ txt x28.key) ++ txt x28.val, K_, kc, ks), cov_of (by kernel_rfl), ⟨ho53.base_le (by omega), hs56.base_le (by omega), hb57, ((((hE.trans' hx37 (fun _ _ h => h) (fun b hb h => h)).trans' hx41 (fun _ _ h => h) (fun b hb (e : b = b34) => absurd hb (by omega))).trans' hx47 (fun _ _ h => h) (fun b hb h => h)).trans' hx55 (fun _ _ h => h) (fun b hb h => h)), by omega, ?_, ?_⟩, by show items.length - (i + 1) < items.length - i; omega⟩
      · rw [itemsB_snoc _ _ _ _ hi29, ← List.append_assoc, ← hxs, itemB]
        first | rw [if_pos (by omega)] | rw [if_neg (by omega), List.append_assoc]
      · rw [kidsL_snoc _ _ _ _ hi29, ← hks]
        first | rw [if_pos (by omega)] | (rw [if_neg (by omega), hks, kidsL, if_neg (by omega)])
    · refine xo.val 0 (by kernel_rfl) (c_gtr_f hc49) ?_
      refine xo.done 0 [(1, Pt b1 0), (4, .slice K_ ks.length kc), (5, .slice A43 ((xs ++ txt x28.key).length) c44), (7, Pt b34 0), (16, .slice A items.length cap), (17, I (items.length : Int)), (18, I (i : Int)), (28, B true)] (by kernel_rfl) rfl (by kernel_rfl) ?_
      refine .condT rfl rfl ?_
      refine .region ?_
      have hb58 := (hb40.ext hx47 (fun h => h))
      refine xo.val 2 (by kernel_rfl) (ldB (t := 3) (o := 2) (by kernel_rfl) hb58 rfl) ?_
      refine xo.bsl 0 90 1 #[(0, I x28.kid)] (et := 3) (cs := [I x28.kid]) (by kernel_rfl) (by kernel_rfl) ?_
      intro b59 w60 hb61 hx62 hg63
      have z60 := hx62.size
      have l61 := hb61.lt
      have hs64 := ((((hkown.ext hx37 (fun _ _ h => h)).ext hx41 (fun b hb (e : b = b34) => (hkown.ext hx37 (fun _ _ h => h)).ne hb36 rfl (e ▸ hb))).ext hx47 (fun _ _ h => h)).ext hx62 (fun _ _ h => h))
      refine xo.app 0 (ty := 90) (k := kInt) (t := 90) (tx := 90) (xs := ks) (ys := [x28.kid]) (x := .slice (some ⟨b59, 0, none⟩) 1 1) (by exact pInt) hs64 (src_one (k := kInt) (x := x28.kid) (by kernel_rfl) hb61 rfl) (by omega) (show (ks.length + 1) * 8 ≤ 140737488355328 from (by first | omega | (simp only [List.length_append, List.length_cons, List.length_nil]; omega))) (show ks.length + 1 ≤ 9223372036854775807 from (by first | omega | (simp only [List.length_append, List.length_cons, List.length_nil]; omega))) (by kernel_rfl) ?_
      intro A65 c66 w67 ho68 hx69
      have z67 := hx69.size
      refine xo.done 1 [(1, Pt b1 0), (4, .slice A65 ((ks ++ [x28.kid]).length) c66), (5, .slice A43 ((xs ++ txt x28.key).length) c44), (16, .slice A items.length cap), (17, I (items.length : Int)), (18, I (i : Int))] (by kernel_rfl) rfl (by kernel_rfl) ?_
      refine .region ?_
      refine xo.val 0 (by kernel_rfl) (a_add (a := (i : Int)) (b := 1) (by omega) (by omega)) ?_
      refine xo.fin 1 (by kernel_rfl) rfl ?_
      have hs70 := ((ho45.ext hx62 (fun _ _ h => h)).ext hx69 (Own.disj (ho45.ext hx62 (fun _ _ h => h)) hs64 rfl))
      have hb71 := ((hb48.ext hx62 (fun h => h)).ext hx69 (hs64.ne (hb48.ext hx62 (fun h => h)) rfl))
      refine ⟨(A43, c44, i + 1, xs ++ txt x28.key, A65, c66, ks ++ [x28.kid]), cov_of (by kernel_rfl), ⟨hs70.base_le (by omega), ho68.base_le (by omega), hb71, (((((hE.trans' hx37 (fun _ _ h => h) (fun b hb h => h)).trans' hx41 (fun _ _ h => h) (fun b hb (e : b = b34) => absurd hb (by omega))).trans' hx47 (fun _ _ h => h) (fun b hb h => h)).trans' hx62 (fun _ _ h => h) (fun b hb h => h)).trans' hx69 (fun _ _ h => h) (fun b hb hm => absurd (hs64.lt hm).1 (by omega))), by omega, ?_, ?_⟩, by show items.length - (i + 1) < items.length - i; omega⟩
      · rw [itemsB_snoc _ _ _ _ hi29, ← List.append_assoc, ← hxs, itemB]
        first | rw [if_pos (by omega)] | rw [if_neg (by omega), List.append_assoc]
      · rw [kidsL_snoc _ _ _ _ hi29, ← hks]
        first | rw [if_pos (by omega)] | (rw [if_neg (by omega), hks, kidsL, if_neg (by omega)])
  · refine xo.val 0 (by kernel_rfl) (c_lss_f hc24) ?_
    refine xo.done 0 [(1, Pt b1 0), (4, .slice K_ ks.length kc), (5, .slice B_ xs.length cp), (16, .slice A items.length cap), (17, I (items.length : Int)), (18, I (i : Int)), (19, B false)] (by kernel_rfl) rfl (by kernel_rfl) ?_
    refine .seq ?_
    refine .condF rfl rfl ?_
    refine .exit ?_
    refine xsetTo ?_
    refine .seq ?_
    refine .regionReads (by kernel_rfl) (by kernel_rfl) ?_
    intro w72 hd73
    have hx73 := Ext.ofDrew (M := No) hd73
    have z72 := hx73.size
    have hs74 := (hown.ext hx73 (fun _ _ h => h))
    refine Go.V.xs.val 2 (by kernel_rfl) (conv_bs (cap := cp) (src := 76) (dst := 9) (by kernel_rfl) (by kernel_rfl) hs74.rd) ?_
    refine Go.V.xs.fin 2 (by kernel_rfl) rfl ?_
    refine .cov [(2, .slice K_ ks.length kc), (3, S (⟨(xs).toArray⟩))] (cov_of (by kernel_rfl)) ?_
    refine .ret ?_
    refine ⟨[.slice K_ ks.length kc, S (⟨(xs).toArray⟩)], by kernel_rfl, _, rfl, ?_⟩
    have hs75 := (hkown.ext hx73 (fun _ _ h => h))
    have hi2 : i = items.length := by omega
    rw [hi2, List.take_length] at hxs hks
    subst hxs
    subst hks
    exact ⟨_, _, rfl, hs75, (hE.trans' hx73 (fun _ _ h => h) (fun b hb h => h))⟩

/-- What saving comes to: 28: no room. -/
def SaveR (σ : St) (nd : Node) (σ' : St) : Except Int Item → Prop
  | .error c => c = 28 ∧ FreeAt σ 0 ∧ σ' = σ
  | .ok x => ∃ id A cap y, id ≠ 0 ∧ FreeAt σ id ∧ σ' = putC σ id (kidsOf nd) (bs (nodeB nd)) A cap ∧ nd.items[0]? = some y ∧ x = ⟨y.key, ⟨#[]⟩, id⟩
structure SaveOK (σ : St) (nd : Node) : Prop where
  pos : 0 < nd.items.length
  few : nd.items.length ≤ 8
  short : ShortI nd.items
  good : (kidsOf nd).any (badKid σ) = false
def itemV (x : Item) : Value := .agg #[S x.key, S x.val, I x.kid]
theorem st_put2 (w : World) (a : SAd) (σ : St) (hS : StAt w a σ) (hA : Alive σ) (lo hi : Nat) (A : Option Addr) (cap : Nat) (ks : List Int) (hK : Rd kInt w lo hi A ks) (hhi_ : hi ≤ w.heap.size) (h16 : ks.length ≤ 16) (data : ByteArray) (hd : data.size ≤ 3900)
    (hg : ks.any (badKid σ) = false) : Ret Tryz.prog 100 [Pt a.s 0, .slice A ks.length cap, S data] w fun v w' =>
      (FreeAt σ 0 ∧ v = .tuple #[I 0, I 28] ∧ StAt w' a σ ∧ Ext a.fpp w w') ∨ (∃ id A' cap', id ≠ 0 ∧ FreeAt σ id ∧ v = .tuple #[I id, I 0] ∧ StAt w' a (putC σ id ks data A' cap') ∧ Ext a.fpp w w') :=
  (st_put w a σ hS hA lo hi A cap ks hK hhi_ (by omega) data (by omega)).mono fun v w' h => by
    rcases h with ⟨h, _⟩ | ⟨_, h1, h2, h3, h4⟩ | ⟨_, id, A', cap', ⟨h0, h1⟩, h2, h3, h4⟩
    · exact absurd ⟨h16, hd, hg⟩ h
    · exact .inl ⟨h1, h2, h3, h4⟩
    · exact .inr ⟨id, A', cap', h0, h1, h2, h3, h4⟩

theorem tree_save (w : World) (a : SAd) (σ : St) (hS : StAt w a σ) (hA : Alive σ) (lv : Int) (A : Option Addr) (cap : Nat) (items : List Item) (lo hi : Nat) (hR : Rd kItem w lo hi A items) (hhi_ : hi ≤ w.heap.size) (hO : SaveOK σ ⟨lv, items⟩) :
    Ret Tryz.prog 70 [Pt a.s 0, .agg #[I lv, .slice A items.length cap]] w fun v w' => ∃ (o : Except Int Item) (σ' : St), SaveR σ ⟨lv, items⟩ σ' o ∧ (match o with | .error c => ∃ x, v = .tuple #[itemV x, I c] | .ok x => v = .tuple #[itemV x, I 0]) ∧ StAt w' a σ' ∧ Ext a.fpp w w' := by
  have lS := hS.bs.lt
  have lMc := hS.mc.lt
  have lMk := hS.mkt.lt
  have hhi := hS.hi
  have nSC : a.s ≠ a.mc := fun e => MapAt.ne hS.mc hS.bs e.symm
  have nKC : a.mkk ≠ a.mc := fun e => hS.cmk e.symm
  have hfew : items.length ≤ 8 := hO.few
  have hpos : 0 < items.length := hO.pos
  have hk16 : (kidsOf ⟨lv, items⟩).length ≤ 16 := by have := kidsL_length lv items; unfold kidsOf; simp only; omega
  have hdl : (bs (nodeB ⟨lv, items⟩)).size ≤ 3900 := by
    have := itemsB_length lv items hO.short
    rw [bs_size, nodeB, List.length_append, List.length_append, be_length, be_length]; simp only; omega
  refine calls_of_XCr [.cell 4 119, .tmp 5] Tryz.func70 rfl rfl rfl ?_
  refine .seq ?_
  refine .region ?_
  refine xo.box 0 113 (.agg #[I lv, .slice A items.length cap]) [I lv, .slice A items.length cap] (by kernel_rfl) (by kernel_rfl) ?_
  intro b1 w2 hb3 hx4 hg5
  have z2 := hx4.size
  have l3 := hb3.lt
  refine xo.alloc 0 119 [S (⟨#[]⟩), S (⟨#[]⟩), I 0] (by kernel_rfl) (by kernel_rfl) ?_
  intro b6 w7 hb8 hx9 hg10
  have z7 := hx9.size
  have l8 := hb8.lt
  refine xo.done 1 [(0, Pt a.s 0), (3, Pt b1 0), (4, Pt b6 0)] (by kernel_rfl) rfl (by kernel_rfl) ?_
  refine .seq ?_
  refine .region ?_
  have hb11 := (hb3.ext hx9 (fun h => h))
  refine xo.val 0 (by kernel_rfl) (ldBA (t := 113) (o := 0) (vs := [I lv, .slice A items.length cap]) (by kernel_rfl) hb11 rfl) ?_
  have hs15 := ((hR.ext hx4 (fun _ _ _ h => h)).ext hx9 (fun _ _ _ h => h))
  refine xo.ret 0 (by kernel_rfl) (cf99 _ _) (node_bytes _ lv A cap items lo hi hs15 (by omega) (by omega) hO.short) ?_
  rintro _ w16 ⟨K12, kc13, rfl, ho14, hx17⟩
  have z16 := hx17.size
  refine xo.done 5 [(0, Pt a.s 0), (3, Pt b1 0), (4, Pt b6 0), (6, .slice K12 ((kidsOf ⟨lv, items⟩).length) kc13), (7, S (bs (nodeB ⟨lv, items⟩)))] (by kernel_rfl) rfl (by kernel_rfl) ?_
  refine .seq ?_
  refine .region ?_
  have hf18 := (((hS.no hx4).no hx9).no hx17)
  refine xo.ret 3 (by kernel_rfl) (cf100 _ _) (st_put2 _ a σ hf18 hA w7.heap.size w16.heap.size K12 kc13 (kidsOf ⟨lv, items⟩) ho14.rd (by omega) hk16 _ hdl hO.good) ?_
  rintro _ w22 (⟨hF19, rfl, hS20, hx21⟩ | ⟨id23, A24, c25, h26, hF19, rfl, hS20, hx21⟩)
  · have z22 := hx21.size
    refine xo.done 5 [(3, Pt b1 0), (4, Pt b6 0), (8, I 0), (9, I 28)] (by kernel_rfl) rfl (by kernel_rfl) ?_
    refine .seq ?_
    refine .region ?_
    have hb27 := ((hb11.ext hx17 (fun h => h)).extm hx21 hf18.maps)
    refine xo.val 1 (by kernel_rfl) (ldB (t := 111) (o := 1) (by kernel_rfl) hb27 rfl) ?_
    have hs28 := ((hs15.ext hx17 (fun _ _ _ h => h)).extm hx21 hf18.maps)
    obtain ⟨b29, o30, x31, hi32, hA33, hl34, hh35, hr36⟩ := hs28.at_ 0 (by have := hO.pos; simpa using this)
    refine xo.val 0 (by kernel_rfl) (idxN (kk := .i64) (t := 111) (n := items.length) (cap := cap) (sz := 3) (i := 0) (by kernel_rfl) hA33 (by have := hO.pos; simpa using this)) ?_
    refine xo.val 1 (by kernel_rfl) (ld (t := 9) (by kernel_rfl) (hr36 0 _ rfl)) ?_
    have hb37 := ((hb8.ext hx17 (fun h => h)).extm hx21 hf18.maps)
    refine xo.store 3 119 (o := 0) (.agg #[S x31.key, S (⟨#[]⟩), I 0]) [S x31.key, S (⟨#[]⟩), I 0] (by kernel_rfl) hb37 (by kernel_rfl) (by kernel_rfl) (by kernel_rfl) (by kernel_rfl) ?_
    intro w38 hb39 hx40
    have z38 := hx40.size
    refine xo.done 1 [(4, Pt b6 0), (5, I 28)] (by kernel_rfl) rfl (by kernel_rfl) ?_
    refine .ret ?_
    refine ⟨[.agg #[S x31.key, S (⟨#[]⟩), I 0], I 28], ⟨⟨⟨b6, 0, none⟩, by kernel_rfl, lvA (by kernel_rfl) hb39⟩, by kernel_rfl, trivial⟩, _, rfl, ?_⟩
    have hf41 := (hS20.ext hx40 (fun b h1 h2 (e : b = b6) => by omega) (MapAt.ne hS20.mkt hb37) (fun b cs hb (e : b = b6) => Blk.ne hb hb37 rfl e))
    exact ⟨.error 28, _, ⟨rfl, hF19, rfl⟩, ⟨⟨x31.key, ⟨#[]⟩, 0⟩, rfl⟩, hf41, (((((hx4.weak fun b hb h => h.elim).trans' hx9 (fun _ _ h => h) (fun b hb h => h.elim)).trans' hx17 (fun _ _ h => h) (fun b hb h => h.elim)).trans' hx21 (fun _ _ h => h) (fun b hb q => q)).trans' hx40 (fun _ _ h => h) (fun b hb (q : b = b6) => absurd hb (by omega)))⟩
  · have z22 := hx21.size
    refine xo.done 5 [(3, Pt b1 0), (4, Pt b6 0), (8, I id23), (9, I 0)] (by kernel_rfl) rfl (by kernel_rfl) ?_
    refine .seq ?_
    refine .region ?_
    have hb42 := ((hb11.ext hx17 (fun h => h)).extm hx21 hf18.maps)
    refine xo.val 1 (by kernel_rfl) (ldB (t := 111) (o := 1) (by kernel_rfl) hb42 rfl) ?_
    have hs43 := ((hs15.ext hx17 (fun _ _ _ h => h)).extm hx21 hf18.maps)
    obtain ⟨b44, o45, x46, hi47, hA48, hl49, hh50, hr51⟩ := hs43.at_ 0 (by have := hO.pos; simpa using this)
    refine xo.val 0 (by kernel_rfl) (idxN (kk := .i64) (t := 111) (n := items.length) (cap := cap) (sz := 3) (i := 0) (by kernel_rfl) hA48 (by have := hO.pos; simpa using this)) ?_
    refine xo.val 1 (by kernel_rfl) (ld (t := 9) (by kernel_rfl) (hr51 0 _ rfl)) ?_
    have hb52 := ((hb8.ext hx17 (fun h => h)).extm hx21 hf18.maps)
    refine xo.store 3 119 (o := 0) (.agg #[S x46.key, S (⟨#[]⟩), I id23]) [S x46.key, S (⟨#[]⟩), I id23] (by kernel_rfl) hb52 (by kernel_rfl) (by kernel_rfl) (by kernel_rfl) (by kernel_rfl) ?_
    intro w53 hb54 hx55
    have z53 := hx55.size
    refine xo.done 1 [(4, Pt b6 0), (5, I 0)] (by kernel_rfl) rfl (by kernel_rfl) ?_
    refine .ret ?_
    refine ⟨[.agg #[S x46.key, S (⟨#[]⟩), I id23], I 0], ⟨⟨⟨b6, 0, none⟩, by kernel_rfl, lvA (by kernel_rfl) hb54⟩, by kernel_rfl, trivial⟩, _, rfl, ?_⟩
    have hf56 := (hS20.ext hx55 (fun b h1 h2 (e : b = b6) => by omega) (MapAt.ne hS20.mkt hb52) (fun b cs hb (e : b = b6) => Blk.ne hb hb52 rfl e))
    exact ⟨.ok ⟨x46.key, ⟨#[]⟩, id23⟩, _, ⟨id23, A24, c25, x46, h26, hF19, rfl, hi47, rfl⟩, rfl, hf56, (((((hx4.weak fun b hb h => h.elim).trans' hx9 (fun _ _ h => h) (fun b hb h => h.elim)).trans' hx17 (fun _ _ h => h) (fun b hb h => h.elim)).trans' hx21 (fun _ _ h => h) (fun b hb q => q)).trans' hx55 (fun _ _ h => h) (fun b hb (q : b = b6) => absurd hb (by omega)))⟩

end Go.Proofs.YtbajgpadmlnffaaGreat
