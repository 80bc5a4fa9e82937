/-
  A part of the proofs of this seat (Pair, Trees, Eq, Ref, LawL, Awake, Law): lemmas on which the last text leans. No condition.
-/
import Derived.DeepKeys
import Derived.Test.YtbajgpadmlnffaaGreatKM6
/- Pairs of streams: the walks. -/
namespace Go.Proofs.YtbajgpadmlnffaaGreat
open Go.V
set_option maxRecDepth 100000
set_option linter.unusedVariables false
set_option linter.unusedSimpArgs false

theorem out_tell (w : World) (p s1 s2 base : Nat) (O : Option Addr) (oc : Nat) (out : List Change) (hP : OutAt w p s1 s2 base O oc out) (x : Change) (hlen : out.length ≤ 1000000) (hb : base ≤ w.heap.size) :
    Ret Tryz.prog 103 [Pt p 0, .agg #[S x.key, S x.val, B x.gone]] w fun v w' => ∃ O' oc', OutAt w' p s1 s2 base O' oc' (out ++ [x]) ∧ Grow w O O' ∧ Ext (OutFp p O) w w' := by
  have lP := hP.blk.lt
  refine calls_of_XC Tryz.func103 rfl rfl ?_
  refine .seq ?_
  refine .region ?_
  refine xo.box 0 34 (.agg #[S x.key, S x.val, B x.gone]) [S x.key, S x.val, B x.gone] (by kernel_rfl) (by kernel_rfl) ?_
  intro b1 w2 hb3 hx4 hg5
  have z2 := hx4.size
  have l3 := hb3.lt
  refine xo.done 0 [(0, Pt p 0), (3, Pt b1 0)] (by kernel_rfl) rfl (by kernel_rfl) ?_
  have hb10 := (hP.blk.ext hx4 (fun h => h))
  refine XC.regionDrawM 10 (fun u => Blk u p 65 [Pt s1 0, Pt s2 0, .slice O out.length oc] ∧ Blk u b1 34 [S x.key, S x.val, B x.gone] ∧ True) (by kernel_rfl) ?_
  intro w8 hd9
  have hx9 := Ext.ofDrew (M := No) hd9
  have z8 := hx9.size
  have hb11 := (hb10.ext hx9 (fun h => h))
  have hb12 := (hb3.ext hx9 (fun h => h))
  refine ⟨⟨hb11, hb12, trivial⟩, ?_⟩
  refine xm.q (fun _ _ _ _ h => h) 0 (Pt p 0) (by kernel_rfl) (by kernel_rfl) (by kernel_rfl) ?_
  refine xm.q (fun _ _ _ _ h => h) 1 (Pt p 0) (by kernel_rfl) (by kernel_rfl) (by kernel_rfl) ?_
  refine xm.q (fun _ _ _ _ h => h) 2 (Pt p 0) (by kernel_rfl) (by kernel_rfl) (by kernel_rfl) ?_
  refine xm.q (fun _ _ _ _ h => h) 3 (Pt p 2) (by kernel_rfl) (by kernel_rfl) (by kernel_rfl) ?_
  refine xm.rd (fun _ _ _ _ h => h) 4 (by kernel_rfl) (by kernel_rfl) (by kernel_rfl) (fun u hS => (ldB (t := 22) (o := 2) (by kernel_rfl) hS.1 rfl)) ?_
  refine xm.rd (fun _ _ _ _ h => h) 5 (by kernel_rfl) (by kernel_rfl) (by kernel_rfl) (fun u hS => (ldBA (t := 34) (o := 0) (vs := [S x.key, S x.val, B x.gone]) (by kernel_rfl) hS.2.1 rfl)) ?_
  refine xm.one 6 (by kernel_rfl) ?_
  refine xo.bsl 0 22 1 #[(0, .agg #[S x.key, S x.val, B x.gone])] (et := 34) (cs := [S x.key, S x.val, B x.gone]) (by kernel_rfl) (by kernel_rfl) ?_
  intro b13 w14 hb15 hx16 hg17
  have z14 := hx16.size
  have l15 := hb15.lt
  refine xo.fin 0 (by kernel_rfl) rfl ?_
  have hb18 := (hb11.ext hx16 (fun h => h))
  have hb19 := (hb12.ext hx16 (fun h => h))
  refine ⟨⟨hb18, hb19, trivial⟩, ?_⟩
  refine xm.one 7 (by kernel_rfl) ?_
  have hs20 := (((hP.own.ext hx4 (fun _ _ h => h)).ext hx9 (fun _ _ h => h)).ext hx16 (fun _ _ h => h))
  refine xo.appG 0 (ty := 22) (k := kChange) (t := 22) (tx := 22) (xs := out) (ys := [(⟨x.key, x.val, x.gone⟩ : Change)]) (x := .slice (some ⟨b13, 0, none⟩) 1 1) (by exact pChange) hs20 (src_one (k := kChange) (x := (⟨x.key, x.val, x.gone⟩ : Change)) (by kernel_rfl) hb15 rfl) (by omega) (show (out.length + 1) * 40 ≤ 140737488355328 from (by first | omega | (simp only [List.length_append, List.length_cons, List.length_nil]; omega))) (show out.length + 1 ≤ 9223372036854775807 from (by first | omega | (simp only [List.length_append, List.length_cons, List.length_nil]; omega))) (by kernel_rfl) ?_
  intro A21 c22 w23 ho24 hx25 hG26
  have z23 := hx25.size
  refine xo.fin 0 (by kernel_rfl) rfl ?_
  have hb27 := (hb18.ext hx25 (hs20.ne hb18 rfl))
  have hb28 := (hb19.ext hx25 (fun hm => absurd (hP.own.lt hm).2 (by omega)))
  refine ⟨⟨hb27, hb28, trivial⟩, ?_⟩
  refine xm.one 8 (by kernel_rfl) ?_
  refine xo.fin 1 (by kernel_rfl) rfl ?_
  refine ⟨⟨hb27, hb28, trivial⟩, ?_⟩
  refine xm.q (fun _ _ _ _ h => h) 9 (Pt p 2) (by kernel_rfl) (by kernel_rfl) (by kernel_rfl) ?_
  refine xm.past 10 (by kernel_rfl) (by kernel_rfl) ?_
  refine xo.store 0 22 (o := 2) (.slice A21 ((out ++ [(⟨x.key, x.val, x.gone⟩ : Change)]).length) c22) [Pt s1 0, Pt s2 0, .slice A21 ((out ++ [(⟨x.key, x.val, x.gone⟩ : Change)]).length) c22] (by kernel_rfl) hb27 (by kernel_rfl) (by kernel_rfl) (by kernel_rfl) (by kernel_rfl) ?_
  intro w29 hb30 hx31
  have z29 := hx31.size
  refine xo.fin 0 (by kernel_rfl) rfl ?_
  refine xm.done (by kernel_rfl) ?_
  refine ⟨[], by kernel_rfl, _, rfl, ?_⟩
  have hs32 := (ho24.ext hx31 (fun b hb (e : b = p) => ho24.ne hb27 rfl (e ▸ hb)))
  exact ⟨_, _, ⟨hb30, hs32⟩, fun b hb => (hG26 b hb).imp_right fun h => by omega, (StrFp.is (StrFp.own (StrFp.no (StrFp.no (StrFp.no StrFp.rf hx4) hx9) hx16) Grow.refl hx25) hx31)⟩

theorem pair_single (w : World) (a : SAd) (t base : Nat) (A : Option Addr) (c : Nat) (l : List Top) (rd : Int) (hT : StrAt w a t base A c l rd) (p s1 s2 : Nat) (O : Option Addr) (oc : Nat) (out : List Change) (hP : OutAt w p s1 s2 base O oc out) (σ : St) (hS : StAt w a σ) (hA : Alive σ) (l0 : List Top) (x : Top) (hl : l = l0 ++ [x]) (hX : x.id ≠ 0 → ∃ h items E, TopN σ h items x E) (hlen : l.length ≤ 900000) (hrd : 0 ≤ rd ∧ rd ≤ 1000000000) (hol : out.length ≤ 900000) (ht1 : a.hi ≤ t) (ht2 : a.hi ≤ base) (ht3 : base ≤ w.heap.size) (hp1 : a.hi ≤ p) (g : Bool) :
    Ret Tryz.prog 74 [Pt p 0, Pt t 0, B g] w fun v w' => ∃ A' c' ts' O' oc' ch, ∃ n : Nat, v = I 0 ∧ StrAt w' a t base A' c' ts'.reverse (rd + n) ∧ OutAt w' p s1 s2 base O' oc' (out ++ ch) ∧ StAt w' a σ ∧ SingleR σ g (x :: l0.reverse) ts' ch n ∧ Grow w A A' ∧ Grow w O O' ∧ Ext (fun b => StrFp t A b ∨ OutFp p O b) w w' := by
  have lS := hS.bs.lt
  have lMc := hS.mc.lt
  have lMk := hS.mkt.lt
  have hhi := hS.hi
  have nSC : a.s ≠ a.mc := fun e => MapAt.ne hS.mc hS.bs e.symm
  have nKC : a.mkk ≠ a.mc := fun e => hS.cmk e.symm
  have lT := hT.blk.lt
  have lP := hP.blk.lt
  have nTP : t ≠ p := Blk.ne hT.blk hP.blk rfl
  have hl1 : l.length = l0.length + 1 := by rw [hl]; simp
  refine calls_of_XC Tryz.func74 rfl rfl ?_
  refine .seq ?_
  refine .region ?_
  refine xo.done 1 [(0, Pt p 0), (1, Pt t 0), (2, B g)] (by kernel_rfl) rfl (by kernel_rfl) ?_
  refine .seq ?_
  refine .region ?_
  refine xo.ret 1 (by kernel_rfl) (cf73 _ _) (str_next1 _ a t base A c l rd hT l0 x hl (by omega)) ?_
  rintro _ w1 ⟨rfl, hx2⟩
  have z1 := hx2.size
  refine xo.alloc 3 127 [S (⟨#[]⟩), S (⟨#[]⟩), I 0, I 0] (by kernel_rfl) (by kernel_rfl) ?_
  intro b3 w4 hb5 hx6 hg7
  have z4 := hx6.size
  have l5 := hb5.lt
  refine xo.store 0 127 (o := 0) (.agg #[S x.key, S x.val, I x.id, I x.level]) [S x.key, S x.val, I x.id, I x.level] (by kernel_rfl) hb5 (by kernel_rfl) (by kernel_rfl) (by kernel_rfl) (by kernel_rfl) ?_
  intro w8 hb9 hx10
  have z8 := hx10.size
  refine xo.done 1 [(0, Pt p 0), (1, Pt t 0), (2, B g), (7, Pt b3 0)] (by kernel_rfl) rfl (by kernel_rfl) ?_
  refine .seq ?_
  refine .seq ?_
  refine .region ?_
  refine xo.val 1 (by kernel_rfl) (ldB (t := 3) (o := 2) (by kernel_rfl) hb9 rfl) ?_
  by_cases hc11 : (x.id : Int) = 0
  · refine xo.val 0 (by kernel_rfl) (c_neq_t hc11) ?_
    refine xo.done 0 [(0, Pt p 0), (1, Pt t 0), (2, B g), (7, Pt b3 0), (16, B false)] (by kernel_rfl) rfl (by kernel_rfl) ?_
    refine .condF rfl rfl ?_
    refine .skip ?_
    refine .seq ?_
    refine .region ?_
    have hf12 := (((hT.no hx2).no hx6).is hx10 hb5 (by omega) (fun hm => absurd (hT.own.lt hm).2 (by omega)))
    refine xo.ret 1 (by kernel_rfl) (cf102 _ _) (str_pop _ a t base A c l rd hf12 l0 x hl (by omega)) ?_
    rintro _ w14 ⟨hT13, hx15⟩
    have z14 := hx15.size
    refine xo.done 0 [(0, Pt p 0), (2, B g), (7, Pt b3 0)] (by kernel_rfl) rfl (by kernel_rfl) ?_
    refine .seq ?_
    refine .seq ?_
    refine .region ?_
    refine xo.done 1 [(0, Pt p 0), (7, Pt b3 0), (21, B g)] (by kernel_rfl) rfl (by kernel_rfl) ?_
    refine .condB g rfl rfl (fun hc16 => ?_) (fun hc16 => ?_)
    · refine .region ?_
      have hb17 := (hb9.ext hx15 (show b3 ≠ t by omega))
      refine xo.val 2 (by kernel_rfl) (ldB (t := 9) (o := 0) (by kernel_rfl) hb17 rfl) ?_
      have hf18 := ((((hP.no hx2).no hx6).is hx10 hb5 (by omega) rfl).is hx15 hf12.blk (by omega) rfl)
      refine xo.ret 1 (by kernel_rfl) (cf103 _ _) (out_tell _ p s1 s2 base O oc out hf18 (⟨x.key, ⟨#[]⟩, true⟩ : Change) (by omega) (by omega)) ?_
      rintro _ w23 ⟨O19, oc20, hP21, hGo22, hx24⟩
      have z23 := hx24.size
      refine xo.done 0 [] (by kernel_rfl) rfl (by kernel_rfl) ?_
      refine .seq ?_
      refine .region ?_
      refine xo.done 1 [(6, I 0)] (by kernel_rfl) rfl (by kernel_rfl) ?_
      refine .ret ?_
      refine ⟨[I 0], by kernel_rfl, _, rfl, ?_⟩
      have hf25 := (hT13.outp hf18 hx24)
      have hf26 := (((((hS.no hx2).no hx6).ext hx10 (fun b h1 h2 (e : b = b3) => by omega) (MapAt.ne ((hS.no hx2).no hx6).mkt hb5) (fun b cs hb (e : b = b3) => Blk.ne hb hb5 rfl e)).ext hx15 (fun b h1 h2 (e : b = t) => by omega) (MapAt.ne (((hS.no hx2).no hx6).ext hx10 (fun b h1 h2 (e : b = b3) => by omega) (MapAt.ne ((hS.no hx2).no hx6).mkt hb5) (fun b cs hb (e : b = b3) => Blk.ne hb hb5 rfl e)).mkt hf12.blk) (fun b cs hb (e : b = t) => Blk.ne hb hf12.blk rfl e)).outp hf18 hx24 (by omega) (by omega))
      subst hc16
      have hr : l0 = l0.reverse.reverse := by rw [List.reverse_reverse]
      have hT9 := hf25
      rw [hr] at hT9
      exact ⟨_, _, _, _, _, [(⟨x.key, ⟨#[]⟩, true⟩ : Change)], 0, rfl, by rw [show rd + ((0 : Nat) : Int) = rd by omega]; exact hT9, hP21, hf26, .gone hc11, Grow.refl, fun b hb => (hGo22 b hb).imp_right fun h => by omega, (((((hx2.weak fun b hb h => h.elim).trans' hx6 (fun _ _ h => h) (fun b hb h => h.elim)).trans' hx10 (fun _ _ h => h) (fun b hb (e : b = b3) => absurd hb (by omega))).trans' hx15 (fun _ _ h => h) (fun b hb (e : b = t) => .inl (.inl e))).trans' hx24 (fun _ _ h => h) (fun b hb hm => .inr hm))⟩
    · refine .region ?_
      have hb27 := (hb9.ext hx15 (show b3 ≠ t by omega))
      refine xo.val 2 (by kernel_rfl) (ldB (t := 9) (o := 0) (by kernel_rfl) hb27 rfl) ?_
      refine xo.val 1 (by kernel_rfl) (ldB (t := 9) (o := 1) (by kernel_rfl) hb27 rfl) ?_
      have hf28 := ((((hP.no hx2).no hx6).is hx10 hb5 (by omega) rfl).is hx15 hf12.blk (by omega) rfl)
      refine xo.ret 1 (by kernel_rfl) (cf103 _ _) (out_tell _ p s1 s2 base O oc out hf28 (⟨x.key, x.val, false⟩ : Change) (by omega) (by omega)) ?_
      rintro _ w33 ⟨O29, oc30, hP31, hGo32, hx34⟩
      have z33 := hx34.size
      refine xo.done 0 [] (by kernel_rfl) rfl (by kernel_rfl) ?_
      refine .seq ?_
      refine .region ?_
      refine xo.done 1 [(6, I 0)] (by kernel_rfl) rfl (by kernel_rfl) ?_
      refine .ret ?_
      refine ⟨[I 0], by kernel_rfl, _, rfl, ?_⟩
      have hf35 := (hT13.outp hf28 hx34)
      have hf36 := (((((hS.no hx2).no hx6).ext hx10 (fun b h1 h2 (e : b = b3) => by omega) (MapAt.ne ((hS.no hx2).no hx6).mkt hb5) (fun b cs hb (e : b = b3) => Blk.ne hb hb5 rfl e)).ext hx15 (fun b h1 h2 (e : b = t) => by omega) (MapAt.ne (((hS.no hx2).no hx6).ext hx10 (fun b h1 h2 (e : b = b3) => by omega) (MapAt.ne ((hS.no hx2).no hx6).mkt hb5) (fun b cs hb (e : b = b3) => Blk.ne hb hb5 rfl e)).mkt hf12.blk) (fun b cs hb (e : b = t) => Blk.ne hb hf12.blk rfl e)).outp hf28 hx34 (by omega) (by omega))
      subst hc16
      have hr : l0 = l0.reverse.reverse := by rw [List.reverse_reverse]
      have hT9 := hf35
      rw [hr] at hT9
      exact ⟨_, _, _, _, _, [(⟨x.key, x.val, false⟩ : Change)], 0, rfl, by rw [show rd + ((0 : Nat) : Int) = rd by omega]; exact hT9, hP31, hf36, .come hc11, Grow.refl, fun b hb => (hGo32 b hb).imp_right fun h => by omega, (((((hx2.weak fun b hb h => h.elim).trans' hx6 (fun _ _ h => h) (fun b hb h => h.elim)).trans' hx10 (fun _ _ h => h) (fun b hb (e : b = b3) => absurd hb (by omega))).trans' hx15 (fun _ _ h => h) (fun b hb (e : b = t) => .inl (.inl e))).trans' hx34 (fun _ _ h => h) (fun b hb hm => .inr hm))⟩
  · refine xo.val 0 (by kernel_rfl) (c_neq_f hc11) ?_
    refine xo.done 0 [(0, Pt p 0), (1, Pt t 0), (2, B g), (7, Pt b3 0), (16, B true)] (by kernel_rfl) rfl (by kernel_rfl) ?_
    refine .condT rfl rfl ?_
    refine .seq ?_
    refine .region ?_
    have hf37 := (((hT.no hx2).no hx6).is hx10 hb5 (by omega) (fun hm => absurd (hT.own.lt hm).2 (by omega)))
    have hf38 := (((hS.no hx2).no hx6).ext hx10 (fun b h1 h2 (e : b = b3) => by omega) (MapAt.ne ((hS.no hx2).no hx6).mkt hb5) (fun b cs hb (e : b = b3) => Blk.ne hb hb5 rfl e))
    obtain ⟨h44, it45, E46, hX47⟩ := hX hc11
    refine xo.ret 1 (by kernel_rfl) (cf101 _ _) (str_open _ a t base A c l rd hf37 h44 it45 E46 σ hf38 hA l0 x hl hX47 (by omega) (by omega) (by omega) (by omega) (by omega)) ?_
    rintro _ w48 ⟨A39, c40, rfl, hT41, hS42, hG43, hx49⟩
    have z48 := hx49.size
    refine xo.done 1 [(6, I 0)] (by kernel_rfl) rfl (by kernel_rfl) ?_
    refine .ret ?_
    refine ⟨[I 0], by kernel_rfl, _, rfl, ?_⟩
    have hf50 := ((((hP.no hx2).no hx6).is hx10 hb5 (by omega) rfl).str hf37 hx49)
    have hr : l0 ++ (topsOf h44 it45).reverse = (topsOf h44 it45 ++ l0.reverse).reverse := by rw [List.reverse_append, List.reverse_reverse]
    have hT9 := hT41
    rw [hr] at hT9
    exact ⟨_, _, _, _, _, [], 1, rfl, hT9, by rw [List.append_nil]; exact hf50, hS42, .opn hc11 ⟨h44, it45, E46, hX47, rfl⟩, fun b hb => (hG43 b hb).imp_right fun h => by omega, Grow.refl, ((((hx2.weak fun b hb h => h.elim).trans' hx6 (fun _ _ h => h) (fun b hb h => h.elim)).trans' hx10 (fun _ _ h => h) (fun b hb (e : b = b3) => absurd hb (by omega))).trans' hx49 (fun _ _ h => h) (fun b hb hm => .inl hm))⟩

theorem StrAt.sg {u u' : World} {a : SAd} {t base c : Nat} {A : Option Addr} {l : List Top} {r : Int} {p s1 s2 oc : Nat} {O : Option Addr} {out : List Change} {t2 b2 c2 b3 : Nat} {A2 : Option Addr} {l2 : List Top} {r2 : Int} (h : StrAt u a t base A c l r) (k : StrAt u a t2 b2 A2 c2 l2 r2) (kp : OutAt u p s1 s2 b3 O oc out)
    (hx : Ext (fun b => StrFp t2 A2 b ∨ OutFp p O b) u u') (hne : t ≠ t2) (hs : Sep A A2) : StrAt u' a t base A c l r :=
  h.ext hx (fun hm => hm.elim (fun hm => hm.elim hne (k.own.ne h.blk rfl)) (fun hm => hm.elim (Blk.ne h.blk kp.blk rfl) (kp.own.ne h.blk rfl)))
    fun b h1 hm => hm.elim (fun hm => hm.elim (fun e => h.own.ne k.blk rfl (e ▸ h1)) (hs b h1)) (fun hm => hm.elim (fun e => h.own.ne kp.blk rfl (e ▸ h1)) (Own.disj h.own kp.own rfl b h1))
/-- What a step leaves. -/
def PairOut (a : SAd) (s1 s2 p base : Nat) (σ : St) (r1 r2 : Int) (out : List Change) (ta tb : List Top) (w w' : World) : Prop :=
  ∃ A1 c1 ta' A2 c2 tb' O oc ch, ∃ n1 n2 : Nat, StrAt w' a s1 base A1 c1 ta'.reverse (r1 + n1) ∧ StrAt w' a s2 base A2 c2 tb'.reverse (r2 + n2) ∧ OutAt w' p s1 s2 base O oc (out ++ ch) ∧ StAt w' a σ ∧ PS σ ta tb ta' tb' ch (n1 + n2) ∧ Sep A1 A2 ∧ Ext (fun b => base ≤ b) w w'

set_option maxHeartbeats 1000000 in
theorem pair_both (w : World) (a : SAd) (s1 s2 p base : Nat) (A1 : Option Addr) (c1 : Nat) (l1 : List Top) (r1 : Int) (hT1 : StrAt w a s1 base A1 c1 l1 r1) (A2 : Option Addr) (c2 : Nat) (l2 : List Top) (r2 : Int) (hT2 : StrAt w a s2 base A2 c2 l2 r2) (O : Option Addr) (oc : Nat) (out : List Change) (hP : OutAt w p s1 s2 base O oc out) (hsep : Sep A1 A2) (hne : s1 ≠ s2) (σ : St) (hS : StAt w a σ) (hA : Alive σ) (hlen : l1.length + l2.length ≤ 900000) (hrd : 0 ≤ r1 ∧ r1 ≤ 1000000000 ∧ 0 ≤ r2 ∧ r2 ≤ 1000000000) (hol : out.length ≤ 900000) (ht2 : a.hi ≤ base) (ht3 : base ≤ w.heap.size) (hb1 : base ≤ s1) (hb2 : base ≤ s2) (hb3 : base ≤ p) (l01 : List Top) (x : Top) (hl1 : l1 = l01 ++ [x]) (hX1 : x.id ≠ 0 → ∃ h items E, TopN σ h items x E) (l02 : List Top) (y : Top) (hl2 : l2 = l02 ++ [y]) (hX2 : y.id ≠ 0 → ∃ h items E, TopN σ h items y E) (hkey : x.key = y.key) :
    Ret Tryz.prog 75 [Pt p 0, .agg #[S x.key, S x.val, I x.id, I x.level], .agg #[S y.key, S y.val, I y.id, I y.level]] w fun v w' => v = I 0 ∧ PairOut a s1 s2 p base σ r1 r2 out (x :: l01.reverse) (y :: l02.reverse) w w' := by
  have lS := hS.bs.lt
  have lMc := hS.mc.lt
  have lMk := hS.mkt.lt
  have hhi := hS.hi
  have nSC : a.s ≠ a.mc := fun e => MapAt.ne hS.mc hS.bs e.symm
  have nKC : a.mkk ≠ a.mc := fun e => hS.cmk e.symm
  have lT1 := hT1.blk.lt
  have lT2 := hT2.blk.lt
  have lP := hP.blk.lt
  have nTP1 : s1 ≠ p := Blk.ne hT1.blk hP.blk rfl
  have nTP2 : s2 ≠ p := Blk.ne hT2.blk hP.blk rfl
  have hll1 : l1.length = l01.length + 1 := by rw [hl1]; simp
  have hll2 : l2.length = l02.length + 1 := by rw [hl2]; simp
  refine calls_of_XC Tryz.func75 rfl rfl ?_
  refine .seq ?_
  refine .region ?_
  refine xo.box 0 127 (.agg #[S x.key, S x.val, I x.id, I x.level]) [S x.key, S x.val, I x.id, I x.level] (by kernel_rfl) (by kernel_rfl) ?_
  intro b1 w2 hb3 hx4 hg5
  have z2 := hx4.size
  have l3 := hb3.lt
  refine xo.box 0 127 (.agg #[S y.key, S y.val, I y.id, I y.level]) [S y.key, S y.val, I y.id, I y.level] (by kernel_rfl) (by kernel_rfl) ?_
  intro b6 w7 hb8 hx9 hg10
  have z7 := hx9.size
  have l8 := hb8.lt
  refine xo.done 1 [(0, Pt p 0), (4, Pt b1 0), (5, Pt b6 0)] (by kernel_rfl) rfl (by kernel_rfl) ?_
  refine .seq ?_
  refine .block ?_
  refine .seq ?_
  refine .region ?_
  have hb11 := (hb3.ext hx9 (fun h => h))
  refine xo.val 1 (by kernel_rfl) (ldB (t := 3) (o := 2) (by kernel_rfl) hb11 rfl) ?_
  by_cases hc12 : (x.id : Int) = 0
  · refine xo.val 0 (by kernel_rfl) (c_neq_t hc12) ?_
    refine xo.done 8 [(0, Pt p 0), (4, Pt b1 0), (5, Pt b6 0), (8, B false)] (by kernel_rfl) rfl (by kernel_rfl) ?_
    refine .condF rfl rfl ?_
    refine .seq ?_
    refine .region ?_
    refine xo.val 1 (by kernel_rfl) (ldB (t := 3) (o := 2) (by kernel_rfl) hb11 rfl) ?_
    refine xo.val 0 (by kernel_rfl) (c_eql_t (show (x.id : Int) = 0 from hc12)) ?_
    refine xo.val 2 (by kernel_rfl) (ldB (t := 3) (o := 2) (by kernel_rfl) hb8 rfl) ?_
    by_cases hc13 : (y.id : Int) = 0
    · refine xo.val 0 (by kernel_rfl) (c_eql_t hc13) ?_
      refine xo.done 2 [(0, Pt p 0), (4, Pt b1 0), (5, Pt b6 0), (29, B true)] (by kernel_rfl) rfl (by kernel_rfl) ?_
      refine .condT rfl rfl ?_
      refine .seq ?_
      refine .region ?_
      have hb14 := ((hP.blk.ext hx4 (fun h => h)).ext hx9 (fun h => h))
      refine xo.val 3 (by kernel_rfl) (ldB (t := 60) (o := 0) (by kernel_rfl) hb14 rfl) ?_
      have hf15 := ((hT1.no hx4).no hx9)
      refine xo.ret 0 (by kernel_rfl) (cf102 _ _) (str_pop _ a s1 base A1 c1 l1 r1 hf15 l01 x hl1 (by omega)) ?_
      rintro _ w17 ⟨hT16, hx18⟩
      have z17 := hx18.size
      refine xo.done 0 [(0, Pt p 0), (4, Pt b1 0), (5, Pt b6 0)] (by kernel_rfl) rfl (by kernel_rfl) ?_
      refine .seq ?_
      refine .region ?_
      have hb19 := (hb14.ext hx18 (show p ≠ s1 by omega))
      refine xo.val 3 (by kernel_rfl) (ldB (t := 60) (o := 1) (by kernel_rfl) hb19 rfl) ?_
      have hf20 := (((hT2.no hx4).no hx9).is hx18 hf15.blk (by omega) (((hT2.no hx4).no hx9).own.ne hf15.blk rfl))
      refine xo.ret 0 (by kernel_rfl) (cf102 _ _) (str_pop _ a s2 base A2 c2 l2 r2 hf20 l02 y hl2 (by omega)) ?_
      rintro _ w22 ⟨hT21, hx23⟩
      have z22 := hx23.size
      refine xo.done 0 [(0, Pt p 0), (4, Pt b1 0), (5, Pt b6 0)] (by kernel_rfl) rfl (by kernel_rfl) ?_
      refine .seq ?_
      refine .seq ?_
      refine .region ?_
      have hb24 := ((hb11.ext hx18 (show b1 ≠ s1 by omega)).ext hx23 (show b1 ≠ s2 by omega))
      refine xo.val 1 (by kernel_rfl) (ldB (t := 9) (o := 1) (by kernel_rfl) hb24 rfl) ?_
      have hb25 := ((hb8.ext hx18 (show b6 ≠ s1 by omega)).ext hx23 (show b6 ≠ s2 by omega))
      refine xo.val 1 (by kernel_rfl) (ldB (t := 9) (o := 1) (by kernel_rfl) hb25 rfl) ?_
      by_cases hc26 : x.val = y.val
      · refine xo.val 0 (by kernel_rfl) (s_neq_t hc26) ?_
        refine xo.done 0 [(0, Pt p 0), (5, Pt b6 0), (52, B false)] (by kernel_rfl) rfl (by kernel_rfl) ?_
        refine .condF rfl rfl ?_
        refine .skip ?_
        refine .seq ?_
        refine .region ?_
        refine xo.done 1 [(6, I 0)] (by kernel_rfl) rfl (by kernel_rfl) ?_
        refine .ret ?_
        refine ⟨[I 0], by kernel_rfl, _, rfl, ?_⟩
        have hf27 := (hT16.is hx23 hf20.blk (by omega) (hT16.own.ne hf20.blk rfl))
        have hT28 := hf27
        rw [show l01 = (l01.reverse).reverse by simp, show r1 = r1 + ((0 : Nat) : Int) by omega] at hT28
        have hT29 := hT21
        rw [show l02 = (l02.reverse).reverse by simp, show r2 = r2 + ((0 : Nat) : Int) by omega] at hT29
        have hf30 := ((((hP.no hx4).no hx9).is hx18 hf15.blk (by omega) rfl).is hx23 hf20.blk (by omega) rfl)
        have hf31 := ((((hS.no hx4).no hx9).ext hx18 (fun b h1 h2 (e : b = s1) => by omega) (MapAt.ne ((hS.no hx4).no hx9).mkt hf15.blk) (fun b cs hb (e : b = s1) => Blk.ne hb hf15.blk rfl e)).ext hx23 (fun b h1 h2 (e : b = s2) => by omega) (MapAt.ne (((hS.no hx4).no hx9).ext hx18 (fun b h1 h2 (e : b = s1) => by omega) (MapAt.ne ((hS.no hx4).no hx9).mkt hf15.blk) (fun b cs hb (e : b = s1) => Blk.ne hb hf15.blk rfl e)).mkt hf20.blk) (fun b cs hb (e : b = s2) => Blk.ne hb hf20.blk rfl e))
        have hP32 := hf30
        exact ⟨rfl, _, _, _, _, _, _, _, _, (if x.val = y.val then [] else [⟨y.key, y.val, false⟩]), 0, 0, hT28, hT29, by rw [if_pos hc26, List.append_nil]; exact hP32, hf31, .ent hkey (by omega) (by omega), hsep, ((((hx4.weak fun b hb h => h.elim).trans' hx9 (fun _ _ h => h) (fun b hb h => h.elim)).trans' hx18 (fun _ _ h => h) (fun b hb (e : b = s1) => (by show base ≤ b; omega))).trans' hx23 (fun _ _ h => h) (fun b hb (e : b = s2) => (by show base ≤ b; omega)))⟩
      · refine xo.val 0 (by kernel_rfl) (s_neq_f hc26) ?_
        refine xo.done 0 [(0, Pt p 0), (5, Pt b6 0), (52, B true)] (by kernel_rfl) rfl (by kernel_rfl) ?_
        refine .condT rfl rfl ?_
        refine .region ?_
        refine xo.val 2 (by kernel_rfl) (ldB (t := 9) (o := 0) (by kernel_rfl) hb25 rfl) ?_
        refine xo.val 1 (by kernel_rfl) (ldB (t := 9) (o := 1) (by kernel_rfl) hb25 rfl) ?_
        have hf33 := ((((hP.no hx4).no hx9).is hx18 hf15.blk (by omega) rfl).is hx23 hf20.blk (by omega) rfl)
        refine xo.ret 1 (by kernel_rfl) (cf103 _ _) (out_tell _ p s1 s2 base O oc out hf33 (⟨y.key, y.val, false⟩ : Change) (by omega) (by omega)) ?_
        rintro _ w38 ⟨O34, oc35, hP36, hGo37, hx39⟩
        have z38 := hx39.size
        refine xo.done 0 [] (by kernel_rfl) rfl (by kernel_rfl) ?_
        refine .seq ?_
        refine .region ?_
        refine xo.done 1 [(6, I 0)] (by kernel_rfl) rfl (by kernel_rfl) ?_
        refine .ret ?_
        refine ⟨[I 0], by kernel_rfl, _, rfl, ?_⟩
        have hf40 := ((hT16.is hx23 hf20.blk (by omega) (hT16.own.ne hf20.blk rfl)).outp hf33 hx39)
        have hT41 := hf40
        rw [show l01 = (l01.reverse).reverse by simp, show r1 = r1 + ((0 : Nat) : Int) by omega] at hT41
        have hf42 := (hT21.outp hf33 hx39)
        have hT43 := hf42
        rw [show l02 = (l02.reverse).reverse by simp, show r2 = r2 + ((0 : Nat) : Int) by omega] at hT43
        have hf44 := (((((hS.no hx4).no hx9).ext hx18 (fun b h1 h2 (e : b = s1) => by omega) (MapAt.ne ((hS.no hx4).no hx9).mkt hf15.blk) (fun b cs hb (e : b = s1) => Blk.ne hb hf15.blk rfl e)).ext hx23 (fun b h1 h2 (e : b = s2) => by omega) (MapAt.ne (((hS.no hx4).no hx9).ext hx18 (fun b h1 h2 (e : b = s1) => by omega) (MapAt.ne ((hS.no hx4).no hx9).mkt hf15.blk) (fun b cs hb (e : b = s1) => Blk.ne hb hf15.blk rfl e)).mkt hf20.blk) (fun b cs hb (e : b = s2) => Blk.ne hb hf20.blk rfl e)).outp hf33 hx39 (by omega) (by omega))
        have hP45 := hP36
        exact ⟨rfl, _, _, _, _, _, _, _, _, (if x.val = y.val then [] else [⟨y.key, y.val, false⟩]), 0, 0, hT41, hT43, by rw [if_neg hc26]; exact hP45, hf44, .ent hkey (by omega) (by omega), hsep, (((((hx4.weak fun b hb h => h.elim).trans' hx9 (fun _ _ h => h) (fun b hb h => h.elim)).trans' hx18 (fun _ _ h => h) (fun b hb (e : b = s1) => (by show base ≤ b; omega))).trans' hx23 (fun _ _ h => h) (fun b hb (e : b = s2) => (by show base ≤ b; omega))).trans' hx39 (fun _ _ h => h) (fun b hb hm => hm.elim (fun e => by show base ≤ b; omega) (fun hm => (hf33.own.lt hm).1)))⟩
    · refine xo.val 0 (by kernel_rfl) (c_eql_f hc13) ?_
      refine xo.done 2 [(0, Pt p 0), (4, Pt b1 0), (5, Pt b6 0), (29, B false)] (by kernel_rfl) rfl (by kernel_rfl) ?_
      refine .condF rfl rfl ?_
      refine .seq ?_
      refine .region ?_
      refine xo.val 1 (by kernel_rfl) (ldB (t := 3) (o := 2) (by kernel_rfl) hb11 rfl) ?_
      refine xo.val 0 (by kernel_rfl) (c_neq_t (show (x.id : Int) = 0 from hc12)) ?_
      refine xo.done 13 [(0, Pt p 0), (4, Pt b1 0), (5, Pt b6 0), (60, B false)] (by kernel_rfl) rfl (by kernel_rfl) ?_
      refine .condF rfl rfl ?_
      refine .skip ?_
      refine .seq ?_
      refine .region ?_
      have hb46 := ((hP.blk.ext hx4 (fun h => h)).ext hx9 (fun h => h))
      refine xo.val 3 (by kernel_rfl) (ldB (t := 60) (o := 1) (by kernel_rfl) hb46 rfl) ?_
      have hf47 := ((hT2.no hx4).no hx9)
      have hf48 := ((hS.no hx4).no hx9)
      obtain ⟨h54, it55, E56, hX57⟩ := hX2 (by omega)
      refine xo.ret 0 (by kernel_rfl) (cf101 _ _) (str_open _ a s2 base A2 c2 l2 r2 hf47 h54 it55 E56 σ hf48 hA l02 y hl2 hX57 (by omega) (by omega) (by omega) (by omega) (by omega)) ?_
      rintro _ w58 ⟨A49, c50, rfl, hT51, hS52, hG53, hx59⟩
      have z58 := hx59.size
      refine xo.done 1 [(6, I 0)] (by kernel_rfl) rfl (by kernel_rfl) ?_
      refine .ret ?_
      refine ⟨[I 0], by kernel_rfl, _, rfl, ?_⟩
      have hf60 := (((hT1.no hx4).no hx9).str hf47 hx59 (by omega) hsep)
      have hT61 := hf60
      rw [show l1 = ((x :: l01.reverse)).reverse by rw [hl1]; simp, show r1 = r1 + ((0 : Nat) : Int) by omega] at hT61
      have hT62 := hT51
      rw [show l02 ++ (topsOf h54 it55).reverse = ((topsOf h54 it55 ++ l02.reverse)).reverse by rw [List.reverse_append, List.reverse_reverse]] at hT62
      have hf63 := (((hP.no hx4).no hx9).str hf47 hx59)
      have hP64 := hf63
      exact ⟨rfl, _, _, _, _, _, _, _, _, [], 0, 1, hT61, hT62, by rw [List.append_nil]; exact hP64, hS52, .opb hkey (by omega) (by omega) (by omega) ⟨h54, it55, E56, hX57, rfl⟩, (hsep.symm.grow hG53 (fun b hb => Nat.lt_of_lt_of_le (hT1.own.lt hb).2 (by omega))).symm, (((hx4.weak fun b hb h => h.elim).trans' hx9 (fun _ _ h => h) (fun b hb h => h.elim)).trans' hx59 (fun _ _ h => h) (fun b hb hm => hm.elim (fun e => by show base ≤ b; omega) (fun hm => (hf47.own.lt hm).1)))⟩
  · refine xo.val 0 (by kernel_rfl) (c_neq_f hc12) ?_
    refine xo.val 2 (by kernel_rfl) (ldB (t := 3) (o := 2) (by kernel_rfl) hb11 rfl) ?_
    refine xo.val 1 (by kernel_rfl) (ldB (t := 3) (o := 2) (by kernel_rfl) hb8 rfl) ?_
    by_cases hc65 : (x.id : Int) = y.id
    · refine xo.val 0 (by kernel_rfl) (c_eql_t hc65) ?_
      refine xo.done 2 [(0, Pt p 0), (4, Pt b1 0), (5, Pt b6 0), (8, B true)] (by kernel_rfl) rfl (by kernel_rfl) ?_
      refine .condT rfl rfl ?_
      refine .seq ?_
      refine .region ?_
      have hb66 := ((hP.blk.ext hx4 (fun h => h)).ext hx9 (fun h => h))
      refine xo.val 3 (by kernel_rfl) (ldB (t := 60) (o := 0) (by kernel_rfl) hb66 rfl) ?_
      have hf67 := ((hT1.no hx4).no hx9)
      refine xo.ret 0 (by kernel_rfl) (cf102 _ _) (str_pop _ a s1 base A1 c1 l1 r1 hf67 l01 x hl1 (by omega)) ?_
      rintro _ w69 ⟨hT68, hx70⟩
      have z69 := hx70.size
      refine xo.done 0 [(0, Pt p 0)] (by kernel_rfl) rfl (by kernel_rfl) ?_
      refine .seq ?_
      refine .region ?_
      have hb71 := (hb66.ext hx70 (show p ≠ s1 by omega))
      refine xo.val 3 (by kernel_rfl) (ldB (t := 60) (o := 1) (by kernel_rfl) hb71 rfl) ?_
      have hf72 := (((hT2.no hx4).no hx9).is hx70 hf67.blk (by omega) (((hT2.no hx4).no hx9).own.ne hf67.blk rfl))
      refine xo.ret 0 (by kernel_rfl) (cf102 _ _) (str_pop _ a s2 base A2 c2 l2 r2 hf72 l02 y hl2 (by omega)) ?_
      rintro _ w74 ⟨hT73, hx75⟩
      have z74 := hx75.size
      refine xo.done 0 [] (by kernel_rfl) rfl (by kernel_rfl) ?_
      refine .seq ?_
      refine .region ?_
      refine xo.done 1 [(6, I 0)] (by kernel_rfl) rfl (by kernel_rfl) ?_
      refine .ret ?_
      refine ⟨[I 0], by kernel_rfl, _, rfl, ?_⟩
      have hf76 := (hT68.is hx75 hf72.blk (by omega) (hT68.own.ne hf72.blk rfl))
      have hT77 := hf76
      rw [show l01 = (l01.reverse).reverse by simp, show r1 = r1 + ((0 : Nat) : Int) by omega] at hT77
      have hT78 := hT73
      rw [show l02 = (l02.reverse).reverse by simp, show r2 = r2 + ((0 : Nat) : Int) by omega] at hT78
      have hf79 := ((((hP.no hx4).no hx9).is hx70 hf67.blk (by omega) rfl).is hx75 hf72.blk (by omega) rfl)
      have hf80 := ((((hS.no hx4).no hx9).ext hx70 (fun b h1 h2 (e : b = s1) => by omega) (MapAt.ne ((hS.no hx4).no hx9).mkt hf67.blk) (fun b cs hb (e : b = s1) => Blk.ne hb hf67.blk rfl e)).ext hx75 (fun b h1 h2 (e : b = s2) => by omega) (MapAt.ne (((hS.no hx4).no hx9).ext hx70 (fun b h1 h2 (e : b = s1) => by omega) (MapAt.ne ((hS.no hx4).no hx9).mkt hf67.blk) (fun b cs hb (e : b = s1) => Blk.ne hb hf67.blk rfl e)).mkt hf72.blk) (fun b cs hb (e : b = s2) => Blk.ne hb hf72.blk rfl e))
      have hP81 := hf79
      exact ⟨rfl, _, _, _, _, _, _, _, _, [], 0, 0, hT77, hT78, by rw [List.append_nil]; exact hP81, hf80, .same hkey (by omega) (by omega), hsep, ((((hx4.weak fun b hb h => h.elim).trans' hx9 (fun _ _ h => h) (fun b hb h => h.elim)).trans' hx70 (fun _ _ h => h) (fun b hb (e : b = s1) => (by show base ≤ b; omega))).trans' hx75 (fun _ _ h => h) (fun b hb (e : b = s2) => (by show base ≤ b; omega)))⟩
    · refine xo.val 0 (by kernel_rfl) (c_eql_f hc65) ?_
      refine xo.done 2 [(0, Pt p 0), (4, Pt b1 0), (5, Pt b6 0), (8, B false)] (by kernel_rfl) rfl (by kernel_rfl) ?_
      refine .condF rfl rfl ?_
      refine .seq ?_
      refine .region ?_
      refine xo.val 1 (by kernel_rfl) (ldB (t := 3) (o := 2) (by kernel_rfl) hb11 rfl) ?_
      refine xo.val 0 (by kernel_rfl) (c_eql_f (show ¬ ((x.id : Int) = 0) from hc12)) ?_
      refine xo.done 6 [(0, Pt p 0), (4, Pt b1 0), (5, Pt b6 0), (29, B false)] (by kernel_rfl) rfl (by kernel_rfl) ?_
      refine .condF rfl rfl ?_
      refine .seq ?_
      refine .region ?_
      refine xo.val 1 (by kernel_rfl) (ldB (t := 3) (o := 2) (by kernel_rfl) hb11 rfl) ?_
      refine xo.val 0 (by kernel_rfl) (c_neq_f (show ¬ ((x.id : Int) = 0) from hc12)) ?_
      refine xo.val 2 (by kernel_rfl) (ldB (t := 3) (o := 2) (by kernel_rfl) hb8 rfl) ?_
      by_cases hc82 : (y.id : Int) = 0
      · refine xo.val 0 (by kernel_rfl) (c_eql_t hc82) ?_
        refine xo.done 9 [(0, Pt p 0), (4, Pt b1 0), (5, Pt b6 0), (60, B true)] (by kernel_rfl) rfl (by kernel_rfl) ?_
        refine .condT rfl rfl ?_
        refine .seq ?_
        refine .region ?_
        have hb83 := ((hP.blk.ext hx4 (fun h => h)).ext hx9 (fun h => h))
        refine xo.val 3 (by kernel_rfl) (ldB (t := 60) (o := 0) (by kernel_rfl) hb83 rfl) ?_
        have hf84 := ((hT1.no hx4).no hx9)
        have hf85 := ((hS.no hx4).no hx9)
        obtain ⟨h91, it92, E93, hX94⟩ := hX1 (by omega)
        refine xo.ret 0 (by kernel_rfl) (cf101 _ _) (str_open _ a s1 base A1 c1 l1 r1 hf84 h91 it92 E93 σ hf85 hA l01 x hl1 hX94 (by omega) (by omega) (by omega) (by omega) (by omega)) ?_
        rintro _ w95 ⟨A86, c87, rfl, hT88, hS89, hG90, hx96⟩
        have z95 := hx96.size
        refine xo.done 1 [(0, Pt p 0), (4, Pt b1 0), (5, Pt b6 0), (7, I 0)] (by kernel_rfl) rfl (by kernel_rfl) ?_
        refine .seq ?_
        refine .region ?_
        have hb97 := (hb8.ext hx96 (fun hm => hm.elim (fun e => by omega) (fun hm => absurd (hT1.own.lt hm).2 (by omega))))
        refine xo.val 4 (by kernel_rfl) (ldB (t := 3) (o := 2) (by kernel_rfl) hb97 rfl) ?_
        refine xo.val 0 (by kernel_rfl) (c_eql_t (show (y.id : Int) = 0 from hc82)) ?_
        refine xo.done 8 [(0, Pt p 0), (7, I 0), (94, B true)] (by kernel_rfl) rfl (by kernel_rfl) ?_
        refine .condT rfl rfl ?_
        refine .seq ?_
        refine .region ?_
        refine xo.done 2 [(6, I 0)] (by kernel_rfl) rfl (by kernel_rfl) ?_
        refine .ret ?_
        refine ⟨[I 0], by kernel_rfl, _, rfl, ?_⟩
        have hT98 := hT88
        rw [show l01 ++ (topsOf h91 it92).reverse = ((topsOf h91 it92 ++ l01.reverse)).reverse by rw [List.reverse_append, List.reverse_reverse]] at hT98
        have hf99 := (((hT2.no hx4).no hx9).str hf84 hx96 (by omega) hsep.symm)
        have hT100 := hf99
        rw [show l2 = ((y :: l02.reverse)).reverse by rw [hl2]; simp, show r2 = r2 + ((0 : Nat) : Int) by omega] at hT100
        have hf101 := (((hP.no hx4).no hx9).str hf84 hx96)
        have hP102 := hf101
        exact ⟨rfl, _, _, _, _, _, _, _, _, [], 1, 0, hT98, hT100, by rw [List.append_nil]; exact hP102, hS89, .opa hkey (by omega) (by omega) (by omega) ⟨h91, it92, E93, hX94, rfl⟩, (hsep.grow hG90 (fun b hb => Nat.lt_of_lt_of_le (hT2.own.lt hb).2 (by omega))), (((hx4.weak fun b hb h => h.elim).trans' hx9 (fun _ _ h => h) (fun b hb h => h.elim)).trans' hx96 (fun _ _ h => h) (fun b hb hm => hm.elim (fun e => by show base ≤ b; omega) (fun hm => (hf84.own.lt hm).1)))⟩
      · refine xo.val 0 (by kernel_rfl) (c_eql_f hc82) ?_
        refine xo.val 2 (by kernel_rfl) (ldB (t := 3) (o := 3) (by kernel_rfl) hb11 rfl) ?_
        refine xo.val 1 (by kernel_rfl) (ldB (t := 3) (o := 3) (by kernel_rfl) hb8 rfl) ?_
        by_cases hc103 : (x.level : Int) < y.level
        · refine xo.val 0 (by kernel_rfl) (c_geq_t hc103) ?_
          refine xo.done 3 [(0, Pt p 0), (4, Pt b1 0), (5, Pt b6 0), (60, B false)] (by kernel_rfl) rfl (by kernel_rfl) ?_
          refine .condF rfl rfl ?_
          refine .skip ?_
          refine .seq ?_
          refine .region ?_
          have hb104 := ((hP.blk.ext hx4 (fun h => h)).ext hx9 (fun h => h))
          refine xo.val 3 (by kernel_rfl) (ldB (t := 60) (o := 1) (by kernel_rfl) hb104 rfl) ?_
          have hf105 := ((hT2.no hx4).no hx9)
          have hf106 := ((hS.no hx4).no hx9)
          obtain ⟨h112, it113, E114, hX115⟩ := hX2 (by omega)
          refine xo.ret 0 (by kernel_rfl) (cf101 _ _) (str_open _ a s2 base A2 c2 l2 r2 hf105 h112 it113 E114 σ hf106 hA l02 y hl2 hX115 (by omega) (by omega) (by omega) (by omega) (by omega)) ?_
          rintro _ w116 ⟨A107, c108, rfl, hT109, hS110, hG111, hx117⟩
          have z116 := hx117.size
          refine xo.done 1 [(6, I 0)] (by kernel_rfl) rfl (by kernel_rfl) ?_
          refine .ret ?_
          refine ⟨[I 0], by kernel_rfl, _, rfl, ?_⟩
          have hf118 := (((hT1.no hx4).no hx9).str hf105 hx117 (by omega) hsep)
          have hT119 := hf118
          rw [show l1 = ((x :: l01.reverse)).reverse by rw [hl1]; simp, show r1 = r1 + ((0 : Nat) : Int) by omega] at hT119
          have hT120 := hT109
          rw [show l02 ++ (topsOf h112 it113).reverse = ((topsOf h112 it113 ++ l02.reverse)).reverse by rw [List.reverse_append, List.reverse_reverse]] at hT120
          have hf121 := (((hP.no hx4).no hx9).str hf105 hx117)
          have hP122 := hf121
          exact ⟨rfl, _, _, _, _, _, _, _, _, [], 0, 1, hT119, hT120, by rw [List.append_nil]; exact hP122, hS110, .opb hkey (by omega) (by omega) (by omega) ⟨h112, it113, E114, hX115, rfl⟩, (hsep.symm.grow hG111 (fun b hb => Nat.lt_of_lt_of_le (hT1.own.lt hb).2 (by omega))).symm, (((hx4.weak fun b hb h => h.elim).trans' hx9 (fun _ _ h => h) (fun b hb h => h.elim)).trans' hx117 (fun _ _ h => h) (fun b hb hm => hm.elim (fun e => by show base ≤ b; omega) (fun hm => (hf105.own.lt hm).1)))⟩
        · refine xo.val 0 (by kernel_rfl) (c_geq_f hc103) ?_
          refine xo.done 3 [(0, Pt p 0), (4, Pt b1 0), (5, Pt b6 0), (60, B true)] (by kernel_rfl) rfl (by kernel_rfl) ?_
          refine .condT rfl rfl ?_
          refine .seq ?_
          refine .region ?_
          have hb123 := ((hP.blk.ext hx4 (fun h => h)).ext hx9 (fun h => h))
          refine xo.val 3 (by kernel_rfl) (ldB (t := 60) (o := 0) (by kernel_rfl) hb123 rfl) ?_
          have hf124 := ((hT1.no hx4).no hx9)
          have hf125 := ((hS.no hx4).no hx9)
          obtain ⟨h131, it132, E133, hX134⟩ := hX1 (by omega)
          refine xo.ret 0 (by kernel_rfl) (cf101 _ _) (str_open _ a s1 base A1 c1 l1 r1 hf124 h131 it132 E133 σ hf125 hA l01 x hl1 hX134 (by omega) (by omega) (by omega) (by omega) (by omega)) ?_
          rintro _ w135 ⟨A126, c127, rfl, hT128, hS129, hG130, hx136⟩
          have z135 := hx136.size
          refine xo.done 1 [(0, Pt p 0), (4, Pt b1 0), (5, Pt b6 0), (7, I 0)] (by kernel_rfl) rfl (by kernel_rfl) ?_
          refine .seq ?_
          refine .region ?_
          have hb137 := (hb8.ext hx136 (fun hm => hm.elim (fun e => by omega) (fun hm => absurd (hT1.own.lt hm).2 (by omega))))
          refine xo.val 4 (by kernel_rfl) (ldB (t := 3) (o := 2) (by kernel_rfl) hb137 rfl) ?_
          refine xo.val 0 (by kernel_rfl) (c_eql_f (show ¬ ((y.id : Int) = 0) from hc82)) ?_
          have hb138 := (hb11.ext hx136 (fun hm => hm.elim (fun e => by omega) (fun hm => absurd (hT1.own.lt hm).2 (by omega))))
          refine xo.val 3 (by kernel_rfl) (ldB (t := 3) (o := 3) (by kernel_rfl) hb138 rfl) ?_
          refine xo.val 1 (by kernel_rfl) (ldB (t := 3) (o := 3) (by kernel_rfl) hb137 rfl) ?_
          by_cases hc139 : (x.level : Int) ≤ y.level
          · refine xo.val 0 (by kernel_rfl) (c_gtr_t hc139) ?_
            refine xo.done 1 [(0, Pt p 0), (7, I 0), (94, B false)] (by kernel_rfl) rfl (by kernel_rfl) ?_
            refine .condF rfl rfl ?_
            refine .skip ?_
            refine .seq ?_
            refine .region ?_
            have hb140 := (hb123.ext hx136 (hf124.blk_ne hb123 (by omega) rfl))
            refine xo.val 3 (by kernel_rfl) (ldB (t := 60) (o := 1) (by kernel_rfl) hb140 rfl) ?_
            have hf141 := (((hT2.no hx4).no hx9).str hf124 hx136 (by omega) hsep.symm)
            obtain ⟨h147, it148, E149, hX150⟩ := hX2 (by omega)
            refine xo.ret 0 (by kernel_rfl) (cf101 _ _) (str_open _ a s2 base A2 c2 l2 r2 hf141 h147 it148 E149 σ hS129 hA l02 y hl2 hX150 (by omega) (by omega) (by omega) (by omega) (by omega)) ?_
            rintro _ w151 ⟨A142, c143, rfl, hT144, hS145, hG146, hx152⟩
            have z151 := hx152.size
            refine xo.done 1 [(6, I 0)] (by kernel_rfl) rfl (by kernel_rfl) ?_
            refine .ret ?_
            refine ⟨[I 0], by kernel_rfl, _, rfl, ?_⟩
            have hf153 := (hT128.str hf141 hx152 (by omega) (hsep.grow hG130 (fun b hb => Nat.lt_of_lt_of_le (hT2.own.lt hb).2 (by omega))))
            have hT154 := hf153
            rw [show l01 ++ (topsOf h131 it132).reverse = ((topsOf h131 it132 ++ l01.reverse)).reverse by rw [List.reverse_append, List.reverse_reverse]] at hT154
            have hT155 := hT144
            rw [show l02 ++ (topsOf h147 it148).reverse = ((topsOf h147 it148 ++ l02.reverse)).reverse by rw [List.reverse_append, List.reverse_reverse]] at hT155
            have hf156 := ((((hP.no hx4).no hx9).str hf124 hx136).str hf141 hx152)
            have hP157 := hf156
            exact ⟨rfl, _, _, _, _, _, _, _, _, [], 1, 1, hT154, hT155, by rw [List.append_nil]; exact hP157, hS145, .opab hkey (by omega) (by omega) (by omega) (by omega) ⟨h131, it132, E133, hX134, rfl⟩ ⟨h147, it148, E149, hX150, rfl⟩, ((hsep.grow hG130 (fun b hb => Nat.lt_of_lt_of_le (hT2.own.lt hb).2 (by omega))).symm.grow hG146 (fun b hb => Nat.lt_of_lt_of_le (hT128.own.lt hb).2 (by omega))).symm, ((((hx4.weak fun b hb h => h.elim).trans' hx9 (fun _ _ h => h) (fun b hb h => h.elim)).trans' hx136 (fun _ _ h => h) (fun b hb hm => hm.elim (fun e => by show base ≤ b; omega) (fun hm => (hf124.own.lt hm).1))).trans' hx152 (fun _ _ h => h) (fun b hb hm => hm.elim (fun e => by show base ≤ b; omega) (fun hm => (hf141.own.lt hm).1)))⟩
          · refine xo.val 0 (by kernel_rfl) (c_gtr_f hc139) ?_
            refine xo.done 1 [(0, Pt p 0), (7, I 0), (94, B true)] (by kernel_rfl) rfl (by kernel_rfl) ?_
            refine .condT rfl rfl ?_
            refine .seq ?_
            refine .region ?_
            refine xo.done 2 [(6, I 0)] (by kernel_rfl) rfl (by kernel_rfl) ?_
            refine .ret ?_
            refine ⟨[I 0], by kernel_rfl, _, rfl, ?_⟩
            have hT158 := hT128
            rw [show l01 ++ (topsOf h131 it132).reverse = ((topsOf h131 it132 ++ l01.reverse)).reverse by rw [List.reverse_append, List.reverse_reverse]] at hT158
            have hf159 := (((hT2.no hx4).no hx9).str hf124 hx136 (by omega) hsep.symm)
            have hT160 := hf159
            rw [show l2 = ((y :: l02.reverse)).reverse by rw [hl2]; simp, show r2 = r2 + ((0 : Nat) : Int) by omega] at hT160
            have hf161 := (((hP.no hx4).no hx9).str hf124 hx136)
            have hP162 := hf161
            exact ⟨rfl, _, _, _, _, _, _, _, _, [], 1, 0, hT158, hT160, by rw [List.append_nil]; exact hP162, hS129, .opa hkey (by omega) (by omega) (by omega) ⟨h131, it132, E133, hX134, rfl⟩, (hsep.grow hG130 (fun b hb => Nat.lt_of_lt_of_le (hT2.own.lt hb).2 (by omega))), (((hx4.weak fun b hb h => h.elim).trans' hx9 (fun _ _ h => h) (fun b hb h => h.elim)).trans' hx136 (fun _ _ h => h) (fun b hb hm => hm.elim (fun e => by show base ≤ b; omega) (fun hm => (hf124.own.lt hm).1)))⟩

theorem pair_step00 (w : World) (a : SAd) (s1 s2 p base : Nat) (A1 : Option Addr) (c1 : Nat) (l1 : List Top) (r1 : Int) (hT1 : StrAt w a s1 base A1 c1 l1 r1) (A2 : Option Addr) (c2 : Nat) (l2 : List Top) (r2 : Int) (hT2 : StrAt w a s2 base A2 c2 l2 r2) (O : Option Addr) (oc : Nat) (out : List Change) (hP : OutAt w p s1 s2 base O oc out) (hsep : Sep A1 A2) (hne : s1 ≠ s2) (σ : St) (hS : StAt w a σ) (hA : Alive σ) (hlen : l1.length + l2.length ≤ 900000) (hrd : 0 ≤ r1 ∧ r1 ≤ 1000000000 ∧ 0 ≤ r2 ∧ r2 ≤ 1000000000) (hol : out.length ≤ 900000) (ht2 : a.hi ≤ base) (ht3 : base ≤ w.heap.size) (hb1 : base ≤ s1) (hb2 : base ≤ s2) (hb3 : base ≤ p) (hl1 : l1 = []) (hl2 : l2 = []) :
    Ret Tryz.prog 38 [Pt p 0] w fun v w' => v = .tuple #[B false, I 0] ∧ Ext No w w' := by
  have lS := hS.bs.lt
  have lMc := hS.mc.lt
  have lMk := hS.mkt.lt
  have hhi := hS.hi
  have nSC : a.s ≠ a.mc := fun e => MapAt.ne hS.mc hS.bs e.symm
  have nKC : a.mkk ≠ a.mc := fun e => hS.cmk e.symm
  have lT1 := hT1.blk.lt
  have lT2 := hT2.blk.lt
  have lP := hP.blk.lt
  have nTP1 : s1 ≠ p := Blk.ne hT1.blk hP.blk rfl
  have nTP2 : s2 ≠ p := Blk.ne hT2.blk hP.blk rfl
  refine calls_of_XC Tryz.func38 rfl rfl ?_
  refine .seq ?_
  refine .region ?_
  refine xo.done 2 [(0, Pt p 0)] (by kernel_rfl) rfl (by kernel_rfl) ?_
  refine .seq ?_
  refine .region ?_
  refine xo.val 3 (by kernel_rfl) (ldB (t := 60) (o := 0) (by kernel_rfl) hP.blk rfl) ?_
  refine xo.ret 0 (by kernel_rfl) (cf73 _ _) (str_next0 _ a s1 base A1 c1 l1 r1 hT1 hl1) ?_
  rintro _ w1 ⟨rfl, hx2⟩
  have z1 := hx2.size
  refine xo.alloc 3 127 [S (⟨#[]⟩), S (⟨#[]⟩), I 0, I 0] (by kernel_rfl) (by kernel_rfl) ?_
  intro b3 w4 hb5 hx6 hg7
  have z4 := hx6.size
  have l5 := hb5.lt
  refine xo.store 0 127 (o := 0) (.agg #[S (⟨#[]⟩), S (⟨#[]⟩), I 0, I 0]) [S (⟨#[]⟩), S (⟨#[]⟩), I 0, I 0] (by kernel_rfl) hb5 (by kernel_rfl) (by kernel_rfl) (by kernel_rfl) (by kernel_rfl) ?_
  intro w8 hb9 hx10
  have z8 := hx10.size
  refine xo.done 1 [(0, Pt p 0), (4, Pt b3 0), (5, B false)] (by kernel_rfl) rfl (by kernel_rfl) ?_
  refine .seq ?_
  refine .region ?_
  have hb11 := (((hP.blk.ext hx2 (fun h => h)).ext hx6 (fun h => h)).ext hx10 (show p ≠ b3 by omega))
  refine xo.val 3 (by kernel_rfl) (ldB (t := 60) (o := 1) (by kernel_rfl) hb11 rfl) ?_
  have hf12 := (((hT2.no hx2).no hx6).is hx10 hb5 (by omega) (fun hm => absurd (hT2.own.lt hm).2 (by omega)))
  refine xo.ret 0 (by kernel_rfl) (cf73 _ _) (str_next0 _ a s2 base A2 c2 l2 r2 hf12 hl2) ?_
  rintro _ w13 ⟨rfl, hx14⟩
  have z13 := hx14.size
  refine xo.alloc 3 127 [S (⟨#[]⟩), S (⟨#[]⟩), I 0, I 0] (by kernel_rfl) (by kernel_rfl) ?_
  intro b15 w16 hb17 hx18 hg19
  have z16 := hx18.size
  have l17 := hb17.lt
  refine xo.store 0 127 (o := 0) (.agg #[S (⟨#[]⟩), S (⟨#[]⟩), I 0, I 0]) [S (⟨#[]⟩), S (⟨#[]⟩), I 0, I 0] (by kernel_rfl) hb17 (by kernel_rfl) (by kernel_rfl) (by kernel_rfl) (by kernel_rfl) ?_
  intro w20 hb21 hx22
  have z20 := hx22.size
  refine xo.done 1 [(0, Pt p 0), (4, Pt b3 0), (5, B false), (6, Pt b15 0), (7, B false)] (by kernel_rfl) rfl (by kernel_rfl) ?_
  refine .seq ?_
  refine .block ?_
  refine .seq ?_
  refine .region ?_
  refine xo.done 7 [(0, Pt p 0), (4, Pt b3 0), (5, B false), (6, Pt b15 0), (7, B false), (24, B true)] (by kernel_rfl) rfl (by kernel_rfl) ?_
  refine .condT rfl rfl ?_
  refine .seq ?_
  refine .region ?_
  refine xo.done 2 [(2, B false), (3, I 0)] (by kernel_rfl) rfl (by kernel_rfl) ?_
  refine .ret ?_
  refine ⟨[B false, I 0], by kernel_rfl, _, rfl, ?_⟩
  exact ⟨rfl, (((((hx2.trans' hx6 (fun _ _ h => h) (fun b hb h => h)).trans' hx10 (fun _ _ h => h) (fun b hb (e : b = b3) => absurd hb (by omega))).trans' hx14 (fun _ _ h => h) (fun b hb h => h)).trans' hx18 (fun _ _ h => h) (fun b hb h => h)).trans' hx22 (fun _ _ h => h) (fun b hb (e : b = b15) => absurd hb (by omega)))⟩

theorem pair_step10 (w : World) (a : SAd) (s1 s2 p base : Nat) (A1 : Option Addr) (c1 : Nat) (l1 : List Top) (r1 : Int) (hT1 : StrAt w a s1 base A1 c1 l1 r1) (A2 : Option Addr) (c2 : Nat) (l2 : List Top) (r2 : Int) (hT2 : StrAt w a s2 base A2 c2 l2 r2) (O : Option Addr) (oc : Nat) (out : List Change) (hP : OutAt w p s1 s2 base O oc out) (hsep : Sep A1 A2) (hne : s1 ≠ s2) (σ : St) (hS : StAt w a σ) (hA : Alive σ) (hlen : l1.length + l2.length ≤ 900000) (hrd : 0 ≤ r1 ∧ r1 ≤ 1000000000 ∧ 0 ≤ r2 ∧ r2 ≤ 1000000000) (hol : out.length ≤ 900000) (ht2 : a.hi ≤ base) (ht3 : base ≤ w.heap.size) (hb1 : base ≤ s1) (hb2 : base ≤ s2) (hb3 : base ≤ p) (l01 : List Top) (x : Top) (hl1 : l1 = l01 ++ [x]) (hX1 : x.id ≠ 0 → ∃ h items E, TopN σ h items x E) (hl2 : l2 = []) :
    Ret Tryz.prog 38 [Pt p 0] w fun v w' => v = .tuple #[B true, I 0] ∧ PairOut a s1 s2 p base σ r1 r2 out (x :: l01.reverse) [] w w' := by
  have lS := hS.bs.lt
  have lMc := hS.mc.lt
  have lMk := hS.mkt.lt
  have hhi := hS.hi
  have nSC : a.s ≠ a.mc := fun e => MapAt.ne hS.mc hS.bs e.symm
  have nKC : a.mkk ≠ a.mc := fun e => hS.cmk e.symm
  have lT1 := hT1.blk.lt
  have lT2 := hT2.blk.lt
  have lP := hP.blk.lt
  have nTP1 : s1 ≠ p := Blk.ne hT1.blk hP.blk rfl
  have nTP2 : s2 ≠ p := Blk.ne hT2.blk hP.blk rfl
  have hll1 : l1.length = l01.length + 1 := by rw [hl1]; simp
  refine calls_of_XC Tryz.func38 rfl rfl ?_
  refine .seq ?_
  refine .region ?_
  refine xo.done 2 [(0, Pt p 0)] (by kernel_rfl) rfl (by kernel_rfl) ?_
  refine .seq ?_
  refine .region ?_
  refine xo.val 3 (by kernel_rfl) (ldB (t := 60) (o := 0) (by kernel_rfl) hP.blk rfl) ?_
  refine xo.ret 0 (by kernel_rfl) (cf73 _ _) (str_next1 _ a s1 base A1 c1 l1 r1 hT1 l01 x hl1 (by omega)) ?_
  rintro _ w1 ⟨rfl, hx2⟩
  have z1 := hx2.size
  refine xo.alloc 3 127 [S (⟨#[]⟩), S (⟨#[]⟩), I 0, I 0] (by kernel_rfl) (by kernel_rfl) ?_
  intro b3 w4 hb5 hx6 hg7
  have z4 := hx6.size
  have l5 := hb5.lt
  refine xo.store 0 127 (o := 0) (.agg #[S x.key, S x.val, I x.id, I x.level]) [S x.key, S x.val, I x.id, I x.level] (by kernel_rfl) hb5 (by kernel_rfl) (by kernel_rfl) (by kernel_rfl) (by kernel_rfl) ?_
  intro w8 hb9 hx10
  have z8 := hx10.size
  refine xo.done 1 [(0, Pt p 0), (4, Pt b3 0), (5, B true)] (by kernel_rfl) rfl (by kernel_rfl) ?_
  refine .seq ?_
  refine .region ?_
  have hb11 := (((hP.blk.ext hx2 (fun h => h)).ext hx6 (fun h => h)).ext hx10 (show p ≠ b3 by omega))
  refine xo.val 3 (by kernel_rfl) (ldB (t := 60) (o := 1) (by kernel_rfl) hb11 rfl) ?_
  have hf12 := (((hT2.no hx2).no hx6).is hx10 hb5 (by omega) (fun hm => absurd (hT2.own.lt hm).2 (by omega)))
  refine xo.ret 0 (by kernel_rfl) (cf73 _ _) (str_next0 _ a s2 base A2 c2 l2 r2 hf12 hl2) ?_
  rintro _ w13 ⟨rfl, hx14⟩
  have z13 := hx14.size
  refine xo.alloc 3 127 [S (⟨#[]⟩), S (⟨#[]⟩), I 0, I 0] (by kernel_rfl) (by kernel_rfl) ?_
  intro b15 w16 hb17 hx18 hg19
  have z16 := hx18.size
  have l17 := hb17.lt
  refine xo.store 0 127 (o := 0) (.agg #[S (⟨#[]⟩), S (⟨#[]⟩), I 0, I 0]) [S (⟨#[]⟩), S (⟨#[]⟩), I 0, I 0] (by kernel_rfl) hb17 (by kernel_rfl) (by kernel_rfl) (by kernel_rfl) (by kernel_rfl) ?_
  intro w20 hb21 hx22
  have z20 := hx22.size
  refine xo.done 1 [(0, Pt p 0), (4, Pt b3 0), (5, B true), (6, Pt b15 0), (7, B false)] (by kernel_rfl) rfl (by kernel_rfl) ?_
  refine .seq ?_
  refine .block ?_
  refine .seq ?_
  refine .region ?_
  refine xo.done 7 [(0, Pt p 0), (4, Pt b3 0), (5, B true), (6, Pt b15 0), (7, B false), (24, B false)] (by kernel_rfl) rfl (by kernel_rfl) ?_
  refine .condF rfl rfl ?_
  refine .seq ?_
  refine .region ?_
  refine xo.done 13 [(0, Pt p 0), (4, Pt b3 0), (5, B true), (6, Pt b15 0), (31, B true)] (by kernel_rfl) rfl (by kernel_rfl) ?_
  refine .condT rfl rfl ?_
  refine .seq ?_
  refine .region ?_
  have hb23 := (((hb11.ext hx14 (fun h => h)).ext hx18 (fun h => h)).ext hx22 (show p ≠ b15 by omega))
  refine xo.val 4 (by kernel_rfl) (ldB (t := 60) (o := 0) (by kernel_rfl) hb23 rfl) ?_
  have hf24 := ((((((hT1.no hx2).no hx6).is hx10 hb5 (by omega) (fun hm => absurd (hT1.own.lt hm).2 (by omega))).no hx14).no hx18).is hx22 hb17 (by omega) (fun hm => absurd (hT1.own.lt hm).2 (by omega)))
  have hf25 := ((((((hS.no hx2).no hx6).ext hx10 (fun b h1 h2 (e : b = b3) => by omega) (MapAt.ne ((hS.no hx2).no hx6).mkt hb5) (fun b cs hb (e : b = b3) => Blk.ne hb hb5 rfl e)).no hx14).no hx18).ext hx22 (fun b h1 h2 (e : b = b15) => by omega) (MapAt.ne (((((hS.no hx2).no hx6).ext hx10 (fun b h1 h2 (e : b = b3) => by omega) (MapAt.ne ((hS.no hx2).no hx6).mkt hb5) (fun b cs hb (e : b = b3) => Blk.ne hb hb5 rfl e)).no hx14).no hx18).mkt hb17) (fun b cs hb (e : b = b15) => Blk.ne hb hb17 rfl e))
  have hf26 := ((((((hP.no hx2).no hx6).is hx10 hb5 (by omega) rfl).no hx14).no hx18).is hx22 hb17 (by omega) rfl)
  refine xo.ret 0 (by kernel_rfl) (cf74 _ _) (pair_single _ a s1 base A1 c1 l1 r1 hf24 p s1 s2 O oc out hf26 σ hf25 hA l01 x hl1 hX1 (by omega) (by omega) (by omega) (by omega) (by omega) (by omega) (by omega) true) ?_
  rintro _ w40 ⟨A27, c28, ts29, O30, oc31, ch32, n33, rfl, hT34, hP35, hS36, hR37, hG38, hGo39, hx41⟩
  have z40 := hx41.size
  refine xo.done 2 [(2, B true), (3, I 0)] (by kernel_rfl) rfl (by kernel_rfl) ?_
  refine .ret ?_
  refine ⟨[B true, I 0], by kernel_rfl, _, rfl, ?_⟩
  have hf43 := ((((hf12.no hx14).no hx18).is hx22 hb17 (by omega) (fun hm => absurd (hT2.own.lt hm).2 (by omega))).sg hf24 hf26 hx41 (by omega) hsep.symm)
  have hT44 := hf43
  rw [show l2 = ([] : List Top).reverse by rw [hl2]; simp, show r2 = r2 + ((0 : Nat) : Int) by omega] at hT44
  exact ⟨rfl, _, _, _, _, _, _, _, _, _, n33, 0, hT34, hT44, hP35, hS36, (show PS σ _ _ _ _ _ (n33 + 0) by rw [Nat.add_zero]; exact (.left1 hR37)), (hsep.grow hG38 (fun b hb => Nat.lt_of_lt_of_le (hT2.own.lt hb).2 (by omega))), (((((((hx2.weak fun b hb h => h.elim).trans' hx6 (fun _ _ h => h) (fun b hb h => h.elim)).trans' hx10 (fun _ _ h => h) (fun b hb (e : b = b3) => (by show base ≤ b; omega))).trans' hx14 (fun _ _ h => h) (fun b hb h => h.elim)).trans' hx18 (fun _ _ h => h) (fun b hb h => h.elim)).trans' hx22 (fun _ _ h => h) (fun b hb (e : b = b15) => (by show base ≤ b; omega))).trans' hx41 (fun _ _ h => h) (fun b hb hm => hm.elim (fun hm => hm.elim (fun e => by show base ≤ b; omega) (fun hm => (hf24.own.lt hm).1)) (fun hm => hm.elim (fun e => by show base ≤ b; omega) (fun hm => (hf26.own.lt hm).1))))⟩

theorem pair_step01 (w : World) (a : SAd) (s1 s2 p base : Nat) (A1 : Option Addr) (c1 : Nat) (l1 : List Top) (r1 : Int) (hT1 : StrAt w a s1 base A1 c1 l1 r1) (A2 : Option Addr) (c2 : Nat) (l2 : List Top) (r2 : Int) (hT2 : StrAt w a s2 base A2 c2 l2 r2) (O : Option Addr) (oc : Nat) (out : List Change) (hP : OutAt w p s1 s2 base O oc out) (hsep : Sep A1 A2) (hne : s1 ≠ s2) (σ : St) (hS : StAt w a σ) (hA : Alive σ) (hlen : l1.length + l2.length ≤ 900000) (hrd : 0 ≤ r1 ∧ r1 ≤ 1000000000 ∧ 0 ≤ r2 ∧ r2 ≤ 1000000000) (hol : out.length ≤ 900000) (ht2 : a.hi ≤ base) (ht3 : base ≤ w.heap.size) (hb1 : base ≤ s1) (hb2 : base ≤ s2) (hb3 : base ≤ p) (hl1 : l1 = []) (l02 : List Top) (y : Top) (hl2 : l2 = l02 ++ [y]) (hX2 : y.id ≠ 0 → ∃ h items E, TopN σ h items y E) :
    Ret Tryz.prog 38 [Pt p 0] w fun v w' => v = .tuple #[B true, I 0] ∧ PairOut a s1 s2 p base σ r1 r2 out [] (y :: l02.reverse) w w' := by
  have lS := hS.bs.lt
  have lMc := hS.mc.lt
  have lMk := hS.mkt.lt
  have hhi := hS.hi
  have nSC : a.s ≠ a.mc := fun e => MapAt.ne hS.mc hS.bs e.symm
  have nKC : a.mkk ≠ a.mc := fun e => hS.cmk e.symm
  have lT1 := hT1.blk.lt
  have lT2 := hT2.blk.lt
  have lP := hP.blk.lt
  have nTP1 : s1 ≠ p := Blk.ne hT1.blk hP.blk rfl
  have nTP2 : s2 ≠ p := Blk.ne hT2.blk hP.blk rfl
  have hll2 : l2.length = l02.length + 1 := by rw [hl2]; simp
  refine calls_of_XC Tryz.func38 rfl rfl ?_
  refine .seq ?_
  refine .region ?_
  refine xo.done 2 [(0, Pt p 0)] (by kernel_rfl) rfl (by kernel_rfl) ?_
  refine .seq ?_
  refine .region ?_
  refine xo.val 3 (by kernel_rfl) (ldB (t := 60) (o := 0) (by kernel_rfl) hP.blk rfl) ?_
  refine xo.ret 0 (by kernel_rfl) (cf73 _ _) (str_next0 _ a s1 base A1 c1 l1 r1 hT1 hl1) ?_
  rintro _ w1 ⟨rfl, hx2⟩
  have z1 := hx2.size
  refine xo.alloc 3 127 [S (⟨#[]⟩), S (⟨#[]⟩), I 0, I 0] (by kernel_rfl) (by kernel_rfl) ?_
  intro b3 w4 hb5 hx6 hg7
  have z4 := hx6.size
  have l5 := hb5.lt
  refine xo.store 0 127 (o := 0) (.agg #[S (⟨#[]⟩), S (⟨#[]⟩), I 0, I 0]) [S (⟨#[]⟩), S (⟨#[]⟩), I 0, I 0] (by kernel_rfl) hb5 (by kernel_rfl) (by kernel_rfl) (by kernel_rfl) (by kernel_rfl) ?_
  intro w8 hb9 hx10
  have z8 := hx10.size
  refine xo.done 1 [(0, Pt p 0), (4, Pt b3 0), (5, B false)] (by kernel_rfl) rfl (by kernel_rfl) ?_
  refine .seq ?_
  refine .region ?_
  have hb11 := (((hP.blk.ext hx2 (fun h => h)).ext hx6 (fun h => h)).ext hx10 (show p ≠ b3 by omega))
  refine xo.val 3 (by kernel_rfl) (ldB (t := 60) (o := 1) (by kernel_rfl) hb11 rfl) ?_
  have hf12 := (((hT2.no hx2).no hx6).is hx10 hb5 (by omega) (fun hm => absurd (hT2.own.lt hm).2 (by omega)))
  refine xo.ret 0 (by kernel_rfl) (cf73 _ _) (str_next1 _ a s2 base A2 c2 l2 r2 hf12 l02 y hl2 (by omega)) ?_
  rintro _ w13 ⟨rfl, hx14⟩
  have z13 := hx14.size
  refine xo.alloc 3 127 [S (⟨#[]⟩), S (⟨#[]⟩), I 0, I 0] (by kernel_rfl) (by kernel_rfl) ?_
  intro b15 w16 hb17 hx18 hg19
  have z16 := hx18.size
  have l17 := hb17.lt
  refine xo.store 0 127 (o := 0) (.agg #[S y.key, S y.val, I y.id, I y.level]) [S y.key, S y.val, I y.id, I y.level] (by kernel_rfl) hb17 (by kernel_rfl) (by kernel_rfl) (by kernel_rfl) (by kernel_rfl) ?_
  intro w20 hb21 hx22
  have z20 := hx22.size
  refine xo.done 1 [(0, Pt p 0), (4, Pt b3 0), (5, B false), (6, Pt b15 0), (7, B true)] (by kernel_rfl) rfl (by kernel_rfl) ?_
  refine .seq ?_
  refine .block ?_
  refine .seq ?_
  refine .region ?_
  refine xo.done 7 [(0, Pt p 0), (4, Pt b3 0), (5, B false), (6, Pt b15 0), (7, B true), (24, B false)] (by kernel_rfl) rfl (by kernel_rfl) ?_
  refine .condF rfl rfl ?_
  refine .seq ?_
  refine .region ?_
  refine xo.done 13 [(0, Pt p 0), (4, Pt b3 0), (5, B false), (6, Pt b15 0), (31, B false)] (by kernel_rfl) rfl (by kernel_rfl) ?_
  refine .condF rfl rfl ?_
  refine .seq ?_
  refine .region ?_
  refine xo.done 10 [(0, Pt p 0), (4, Pt b3 0), (6, Pt b15 0), (50, B true)] (by kernel_rfl) rfl (by kernel_rfl) ?_
  refine .condT rfl rfl ?_
  refine .seq ?_
  refine .region ?_
  have hb23 := (((hb11.ext hx14 (fun h => h)).ext hx18 (fun h => h)).ext hx22 (show p ≠ b15 by omega))
  refine xo.val 4 (by kernel_rfl) (ldB (t := 60) (o := 1) (by kernel_rfl) hb23 rfl) ?_
  have hf24 := (((hf12.no hx14).no hx18).is hx22 hb17 (by omega) (fun hm => absurd (hT2.own.lt hm).2 (by omega)))
  have hf25 := ((((((hS.no hx2).no hx6).ext hx10 (fun b h1 h2 (e : b = b3) => by omega) (MapAt.ne ((hS.no hx2).no hx6).mkt hb5) (fun b cs hb (e : b = b3) => Blk.ne hb hb5 rfl e)).no hx14).no hx18).ext hx22 (fun b h1 h2 (e : b = b15) => by omega) (MapAt.ne (((((hS.no hx2).no hx6).ext hx10 (fun b h1 h2 (e : b = b3) => by omega) (MapAt.ne ((hS.no hx2).no hx6).mkt hb5) (fun b cs hb (e : b = b3) => Blk.ne hb hb5 rfl e)).no hx14).no hx18).mkt hb17) (fun b cs hb (e : b = b15) => Blk.ne hb hb17 rfl e))
  have hf26 := ((((((hP.no hx2).no hx6).is hx10 hb5 (by omega) rfl).no hx14).no hx18).is hx22 hb17 (by omega) rfl)
  refine xo.ret 0 (by kernel_rfl) (cf74 _ _) (pair_single _ a s2 base A2 c2 l2 r2 hf24 p s1 s2 O oc out hf26 σ hf25 hA l02 y hl2 hX2 (by omega) (by omega) (by omega) (by omega) (by omega) (by omega) (by omega) false) ?_
  rintro _ w40 ⟨A27, c28, ts29, O30, oc31, ch32, n33, rfl, hT34, hP35, hS36, hR37, hG38, hGo39, hx41⟩
  have z40 := hx41.size
  refine xo.done 2 [(2, B true), (3, I 0)] (by kernel_rfl) rfl (by kernel_rfl) ?_
  refine .ret ?_
  refine ⟨[B true, I 0], by kernel_rfl, _, rfl, ?_⟩
  have hf42 := (((((((hT1.no hx2).no hx6).is hx10 hb5 (by omega) (fun hm => absurd (hT1.own.lt hm).2 (by omega))).no hx14).no hx18).is hx22 hb17 (by omega) (fun hm => absurd (hT1.own.lt hm).2 (by omega))).sg hf24 hf26 hx41 (by omega) hsep)
  have hT43 := hf42
  rw [show l1 = ([] : List Top).reverse by rw [hl1]; simp, show r1 = r1 + ((0 : Nat) : Int) by omega] at hT43
  exact ⟨rfl, _, _, _, _, _, _, _, _, _, 0, n33, hT43, hT34, hP35, hS36, (show PS σ _ _ _ _ _ (0 + n33) by rw [Nat.zero_add]; exact (.right1 hR37)), (hsep.symm.grow hG38 (fun b hb => Nat.lt_of_lt_of_le (hT1.own.lt hb).2 (by omega))).symm, (((((((hx2.weak fun b hb h => h.elim).trans' hx6 (fun _ _ h => h) (fun b hb h => h.elim)).trans' hx10 (fun _ _ h => h) (fun b hb (e : b = b3) => (by show base ≤ b; omega))).trans' hx14 (fun _ _ h => h) (fun b hb h => h.elim)).trans' hx18 (fun _ _ h => h) (fun b hb h => h.elim)).trans' hx22 (fun _ _ h => h) (fun b hb (e : b = b15) => (by show base ≤ b; omega))).trans' hx41 (fun _ _ h => h) (fun b hb hm => hm.elim (fun hm => hm.elim (fun e => by show base ≤ b; omega) (fun hm => (hf24.own.lt hm).1)) (fun hm => hm.elim (fun e => by show base ≤ b; omega) (fun hm => (hf26.own.lt hm).1))))⟩

theorem pair_step11 (w : World) (a : SAd) (s1 s2 p base : Nat) (A1 : Option Addr) (c1 : Nat) (l1 : List Top) (r1 : Int) (hT1 : StrAt w a s1 base A1 c1 l1 r1) (A2 : Option Addr) (c2 : Nat) (l2 : List Top) (r2 : Int) (hT2 : StrAt w a s2 base A2 c2 l2 r2) (O : Option Addr) (oc : Nat) (out : List Change) (hP : OutAt w p s1 s2 base O oc out) (hsep : Sep A1 A2) (hne : s1 ≠ s2) (σ : St) (hS : StAt w a σ) (hA : Alive σ) (hlen : l1.length + l2.length ≤ 900000) (hrd : 0 ≤ r1 ∧ r1 ≤ 1000000000 ∧ 0 ≤ r2 ∧ r2 ≤ 1000000000) (hol : out.length ≤ 900000) (ht2 : a.hi ≤ base) (ht3 : base ≤ w.heap.size) (hb1 : base ≤ s1) (hb2 : base ≤ s2) (hb3 : base ≤ p) (l01 : List Top) (x : Top) (hl1 : l1 = l01 ++ [x]) (hX1 : x.id ≠ 0 → ∃ h items E, TopN σ h items x E) (l02 : List Top) (y : Top) (hl2 : l2 = l02 ++ [y]) (hX2 : y.id ≠ 0 → ∃ h items E, TopN σ h items y E) :
    Ret Tryz.prog 38 [Pt p 0] w fun v w' => v = .tuple #[B true, I 0] ∧ PairOut a s1 s2 p base σ r1 r2 out (x :: l01.reverse) (y :: l02.reverse) w w' := by
  have lS := hS.bs.lt
  have lMc := hS.mc.lt
  have lMk := hS.mkt.lt
  have hhi := hS.hi
  have nSC : a.s ≠ a.mc := fun e => MapAt.ne hS.mc hS.bs e.symm
  have nKC : a.mkk ≠ a.mc := fun e => hS.cmk e.symm
  have lT1 := hT1.blk.lt
  have lT2 := hT2.blk.lt
  have lP := hP.blk.lt
  have nTP1 : s1 ≠ p := Blk.ne hT1.blk hP.blk rfl
  have nTP2 : s2 ≠ p := Blk.ne hT2.blk hP.blk rfl
  have hll1 : l1.length = l01.length + 1 := by rw [hl1]; simp
  have hll2 : l2.length = l02.length + 1 := by rw [hl2]; simp
  refine calls_of_XC Tryz.func38 rfl rfl ?_
  refine .seq ?_
  refine .region ?_
  refine xo.done 2 [(0, Pt p 0)] (by kernel_rfl) rfl (by kernel_rfl) ?_
  refine .seq ?_
  refine .region ?_
  refine xo.val 3 (by kernel_rfl) (ldB (t := 60) (o := 0) (by kernel_rfl) hP.blk rfl) ?_
  refine xo.ret 0 (by kernel_rfl) (cf73 _ _) (str_next1 _ a s1 base A1 c1 l1 r1 hT1 l01 x hl1 (by omega)) ?_
  rintro _ w1 ⟨rfl, hx2⟩
  have z1 := hx2.size
  refine xo.alloc 3 127 [S (⟨#[]⟩), S (⟨#[]⟩), I 0, I 0] (by kernel_rfl) (by kernel_rfl) ?_
  intro b3 w4 hb5 hx6 hg7
  have z4 := hx6.size
  have l5 := hb5.lt
  refine xo.store 0 127 (o := 0) (.agg #[S x.key, S x.val, I x.id, I x.level]) [S x.key, S x.val, I x.id, I x.level] (by kernel_rfl) hb5 (by kernel_rfl) (by kernel_rfl) (by kernel_rfl) (by kernel_rfl) ?_
  intro w8 hb9 hx10
  have z8 := hx10.size
  refine xo.done 1 [(0, Pt p 0), (4, Pt b3 0), (5, B true)] (by kernel_rfl) rfl (by kernel_rfl) ?_
  refine .seq ?_
  refine .region ?_
  have hb11 := (((hP.blk.ext hx2 (fun h => h)).ext hx6 (fun h => h)).ext hx10 (show p ≠ b3 by omega))
  refine xo.val 3 (by kernel_rfl) (ldB (t := 60) (o := 1) (by kernel_rfl) hb11 rfl) ?_
  have hf12 := (((hT2.no hx2).no hx6).is hx10 hb5 (by omega) (fun hm => absurd (hT2.own.lt hm).2 (by omega)))
  refine xo.ret 0 (by kernel_rfl) (cf73 _ _) (str_next1 _ a s2 base A2 c2 l2 r2 hf12 l02 y hl2 (by omega)) ?_
  rintro _ w13 ⟨rfl, hx14⟩
  have z13 := hx14.size
  refine xo.alloc 3 127 [S (⟨#[]⟩), S (⟨#[]⟩), I 0, I 0] (by kernel_rfl) (by kernel_rfl) ?_
  intro b15 w16 hb17 hx18 hg19
  have z16 := hx18.size
  have l17 := hb17.lt
  refine xo.store 0 127 (o := 0) (.agg #[S y.key, S y.val, I y.id, I y.level]) [S y.key, S y.val, I y.id, I y.level] (by kernel_rfl) hb17 (by kernel_rfl) (by kernel_rfl) (by kernel_rfl) (by kernel_rfl) ?_
  intro w20 hb21 hx22
  have z20 := hx22.size
  refine xo.done 1 [(0, Pt p 0), (4, Pt b3 0), (5, B true), (6, Pt b15 0), (7, B true)] (by kernel_rfl) rfl (by kernel_rfl) ?_
  refine .seq ?_
  refine .block ?_
  refine .seq ?_
  refine .region ?_
  refine xo.done 7 [(0, Pt p 0), (4, Pt b3 0), (5, B true), (6, Pt b15 0), (7, B true), (24, B false)] (by kernel_rfl) rfl (by kernel_rfl) ?_
  refine .condF rfl rfl ?_
  refine .seq ?_
  refine .region ?_
  have hb23 := (((hb9.ext hx14 (fun h => h)).ext hx18 (fun h => h)).ext hx22 (show b3 ≠ b15 by omega))
  refine xo.val 6 (by kernel_rfl) (ldB (t := 9) (o := 0) (by kernel_rfl) hb23 rfl) ?_
  refine xo.val 1 (by kernel_rfl) (ldB (t := 9) (o := 0) (by kernel_rfl) hb21 rfl) ?_
  by_cases hc24 : Lt x.key y.key
  · refine xo.val 0 (by kernel_rfl) (s_lss_t hc24) ?_
    refine xo.done 3 [(0, Pt p 0), (4, Pt b3 0), (5, B true), (6, Pt b15 0), (31, B true)] (by kernel_rfl) rfl (by kernel_rfl) ?_
    refine .condT rfl rfl ?_
    refine .seq ?_
    refine .region ?_
    have hb25 := (((hb11.ext hx14 (fun h => h)).ext hx18 (fun h => h)).ext hx22 (show p ≠ b15 by omega))
    refine xo.val 4 (by kernel_rfl) (ldB (t := 60) (o := 0) (by kernel_rfl) hb25 rfl) ?_
    have hf26 := ((((((hT1.no hx2).no hx6).is hx10 hb5 (by omega) (fun hm => absurd (hT1.own.lt hm).2 (by omega))).no hx14).no hx18).is hx22 hb17 (by omega) (fun hm => absurd (hT1.own.lt hm).2 (by omega)))
    have hf27 := ((((((hS.no hx2).no hx6).ext hx10 (fun b h1 h2 (e : b = b3) => by omega) (MapAt.ne ((hS.no hx2).no hx6).mkt hb5) (fun b cs hb (e : b = b3) => Blk.ne hb hb5 rfl e)).no hx14).no hx18).ext hx22 (fun b h1 h2 (e : b = b15) => by omega) (MapAt.ne (((((hS.no hx2).no hx6).ext hx10 (fun b h1 h2 (e : b = b3) => by omega) (MapAt.ne ((hS.no hx2).no hx6).mkt hb5) (fun b cs hb (e : b = b3) => Blk.ne hb hb5 rfl e)).no hx14).no hx18).mkt hb17) (fun b cs hb (e : b = b15) => Blk.ne hb hb17 rfl e))
    have hf28 := ((((((hP.no hx2).no hx6).is hx10 hb5 (by omega) rfl).no hx14).no hx18).is hx22 hb17 (by omega) rfl)
    refine xo.ret 0 (by kernel_rfl) (cf74 _ _) (pair_single _ a s1 base A1 c1 l1 r1 hf26 p s1 s2 O oc out hf28 σ hf27 hA l01 x hl1 hX1 (by omega) (by omega) (by omega) (by omega) (by omega) (by omega) (by omega) true) ?_
    rintro _ w42 ⟨A29, c30, ts31, O32, oc33, ch34, n35, rfl, hT36, hP37, hS38, hR39, hG40, hGo41, hx43⟩
    have z42 := hx43.size
    refine xo.done 2 [(2, B true), (3, I 0)] (by kernel_rfl) rfl (by kernel_rfl) ?_
    refine .ret ?_
    refine ⟨[B true, I 0], by kernel_rfl, _, rfl, ?_⟩
    have hf45 := ((((hf12.no hx14).no hx18).is hx22 hb17 (by omega) (fun hm => absurd (hT2.own.lt hm).2 (by omega))).sg hf26 hf28 hx43 (by omega) hsep.symm)
    have hT46 := hf45
    rw [show l2 = (y :: l02.reverse).reverse by rw [hl2]; simp, show r2 = r2 + ((0 : Nat) : Int) by omega] at hT46
    exact ⟨rfl, _, _, _, _, _, _, _, _, _, n35, 0, hT36, hT46, hP37, hS38, (show PS σ _ _ _ _ _ (n35 + 0) by rw [Nat.add_zero]; exact (.left2 hc24 hR39)), (hsep.grow hG40 (fun b hb => Nat.lt_of_lt_of_le (hT2.own.lt hb).2 (by omega))), (((((((hx2.weak fun b hb h => h.elim).trans' hx6 (fun _ _ h => h) (fun b hb h => h.elim)).trans' hx10 (fun _ _ h => h) (fun b hb (e : b = b3) => (by show base ≤ b; omega))).trans' hx14 (fun _ _ h => h) (fun b hb h => h.elim)).trans' hx18 (fun _ _ h => h) (fun b hb h => h.elim)).trans' hx22 (fun _ _ h => h) (fun b hb (e : b = b15) => (by show base ≤ b; omega))).trans' hx43 (fun _ _ h => h) (fun b hb hm => hm.elim (fun hm => hm.elim (fun e => by show base ≤ b; omega) (fun hm => (hf26.own.lt hm).1)) (fun hm => hm.elim (fun e => by show base ≤ b; omega) (fun hm => (hf28.own.lt hm).1))))⟩
  · refine xo.val 0 (by kernel_rfl) (s_lss_f hc24) ?_
    refine xo.done 3 [(0, Pt p 0), (4, Pt b3 0), (5, B true), (6, Pt b15 0), (31, B false)] (by kernel_rfl) rfl (by kernel_rfl) ?_
    refine .condF rfl rfl ?_
    refine .seq ?_
    refine .region ?_
    refine xo.val 4 (by kernel_rfl) (ldB (t := 9) (o := 0) (by kernel_rfl) hb21 rfl) ?_
    refine xo.val 1 (by kernel_rfl) (ldB (t := 9) (o := 0) (by kernel_rfl) hb23 rfl) ?_
    by_cases hc47 : Lt y.key x.key
    · refine xo.val 0 (by kernel_rfl) (s_lss_t hc47) ?_
      refine xo.done 2 [(0, Pt p 0), (4, Pt b3 0), (6, Pt b15 0), (50, B true)] (by kernel_rfl) rfl (by kernel_rfl) ?_
      refine .condT rfl rfl ?_
      refine .seq ?_
      refine .region ?_
      have hb48 := (((hb11.ext hx14 (fun h => h)).ext hx18 (fun h => h)).ext hx22 (show p ≠ b15 by omega))
      refine xo.val 4 (by kernel_rfl) (ldB (t := 60) (o := 1) (by kernel_rfl) hb48 rfl) ?_
      have hf49 := (((hf12.no hx14).no hx18).is hx22 hb17 (by omega) (fun hm => absurd (hT2.own.lt hm).2 (by omega)))
      have hf50 := ((((((hS.no hx2).no hx6).ext hx10 (fun b h1 h2 (e : b = b3) => by omega) (MapAt.ne ((hS.no hx2).no hx6).mkt hb5) (fun b cs hb (e : b = b3) => Blk.ne hb hb5 rfl e)).no hx14).no hx18).ext hx22 (fun b h1 h2 (e : b = b15) => by omega) (MapAt.ne (((((hS.no hx2).no hx6).ext hx10 (fun b h1 h2 (e : b = b3) => by omega) (MapAt.ne ((hS.no hx2).no hx6).mkt hb5) (fun b cs hb (e : b = b3) => Blk.ne hb hb5 rfl e)).no hx14).no hx18).mkt hb17) (fun b cs hb (e : b = b15) => Blk.ne hb hb17 rfl e))
      have hf51 := ((((((hP.no hx2).no hx6).is hx10 hb5 (by omega) rfl).no hx14).no hx18).is hx22 hb17 (by omega) rfl)
      refine xo.ret 0 (by kernel_rfl) (cf74 _ _) (pair_single _ a s2 base A2 c2 l2 r2 hf49 p s1 s2 O oc out hf51 σ hf50 hA l02 y hl2 hX2 (by omega) (by omega) (by omega) (by omega) (by omega) (by omega) (by omega) false) ?_
      rintro _ w65 ⟨A52, c53, ts54, O55, oc56, ch57, n58, rfl, hT59, hP60, hS61, hR62, hG63, hGo64, hx66⟩
      have z65 := hx66.size
      refine xo.done 2 [(2, B true), (3, I 0)] (by kernel_rfl) rfl (by kernel_rfl) ?_
      refine .ret ?_
      refine ⟨[B true, I 0], by kernel_rfl, _, rfl, ?_⟩
      have hf67 := (((((((hT1.no hx2).no hx6).is hx10 hb5 (by omega) (fun hm => absurd (hT1.own.lt hm).2 (by omega))).no hx14).no hx18).is hx22 hb17 (by omega) (fun hm => absurd (hT1.own.lt hm).2 (by omega))).sg hf49 hf51 hx66 (by omega) hsep)
      have hT68 := hf67
      rw [show l1 = (x :: l01.reverse).reverse by rw [hl1]; simp, show r1 = r1 + ((0 : Nat) : Int) by omega] at hT68
      exact ⟨rfl, _, _, _, _, _, _, _, _, _, 0, n58, hT68, hT59, hP60, hS61, (show PS σ _ _ _ _ _ (0 + n58) by rw [Nat.zero_add]; exact (.right2 hc47 hR62)), (hsep.symm.grow hG63 (fun b hb => Nat.lt_of_lt_of_le (hT1.own.lt hb).2 (by omega))).symm, (((((((hx2.weak fun b hb h => h.elim).trans' hx6 (fun _ _ h => h) (fun b hb h => h.elim)).trans' hx10 (fun _ _ h => h) (fun b hb (e : b = b3) => (by show base ≤ b; omega))).trans' hx14 (fun _ _ h => h) (fun b hb h => h.elim)).trans' hx18 (fun _ _ h => h) (fun b hb h => h.elim)).trans' hx22 (fun _ _ h => h) (fun b hb (e : b = b15) => (by show base ≤ b; omega))).trans' hx66 (fun _ _ h => h) (fun b hb hm => hm.elim (fun hm => hm.elim (fun e => by show base ≤ b; omega) (fun hm => (hf49.own.lt hm).1)) (fun hm => hm.elim (fun e => by show base ≤ b; omega) (fun hm => (hf51.own.lt hm).1))))⟩
    · refine xo.val 0 (by kernel_rfl) (s_lss_f hc47) ?_
      refine xo.done 2 [(0, Pt p 0), (4, Pt b3 0), (6, Pt b15 0), (50, B false)] (by kernel_rfl) rfl (by kernel_rfl) ?_
      refine .condF rfl rfl ?_
      refine .skip ?_
      refine .seq ?_
      refine .region ?_
      refine xo.val 1 (by kernel_rfl) (ldBA (t := 127) (o := 0) (vs := [S x.key, S x.val, I x.id, I x.level]) (by kernel_rfl) hb23 rfl) ?_
      refine xo.val 0 (by kernel_rfl) (ldBA (t := 127) (o := 0) (vs := [S y.key, S y.val, I y.id, I y.level]) (by kernel_rfl) hb21 rfl) ?_
      have hf70 := ((((((hT1.no hx2).no hx6).is hx10 hb5 (by omega) (fun hm => absurd (hT1.own.lt hm).2 (by omega))).no hx14).no hx18).is hx22 hb17 (by omega) (fun hm => absurd (hT1.own.lt hm).2 (by omega)))
      have hf71 := (((hf12.no hx14).no hx18).is hx22 hb17 (by omega) (fun hm => absurd (hT2.own.lt hm).2 (by omega)))
      have hf72 := ((((((hP.no hx2).no hx6).is hx10 hb5 (by omega) rfl).no hx14).no hx18).is hx22 hb17 (by omega) rfl)
      have hf73 := ((((((hS.no hx2).no hx6).ext hx10 (fun b h1 h2 (e : b = b3) => by omega) (MapAt.ne ((hS.no hx2).no hx6).mkt hb5) (fun b cs hb (e : b = b3) => Blk.ne hb hb5 rfl e)).no hx14).no hx18).ext hx22 (fun b h1 h2 (e : b = b15) => by omega) (MapAt.ne (((((hS.no hx2).no hx6).ext hx10 (fun b h1 h2 (e : b = b3) => by omega) (MapAt.ne ((hS.no hx2).no hx6).mkt hb5) (fun b cs hb (e : b = b3) => Blk.ne hb hb5 rfl e)).no hx14).no hx18).mkt hb17) (fun b cs hb (e : b = b15) => Blk.ne hb hb17 rfl e))
      refine xo.ret 0 (by kernel_rfl) (cf75 _ _) (pair_both _ a s1 s2 p base A1 c1 l1 r1 hf70 A2 c2 l2 r2 hf71 O oc out hf72 hsep hne σ hf73 hA (by omega) (by omega) (by omega) (by omega) (by omega) (by omega) (by omega) (by omega) l01 x hl1 hX1 l02 y hl2 hX2 ((Lt.total hc24).resolve_left hc47)) ?_
      rintro _ w74 ⟨rfl, A77, c78, ta79, A80, c81, tb82, O83, oc84, ch85, n86, n87, hT88, hT89, hP90, hS91, hPS92, hSep93, hx76⟩
      have z74 := hx76.size
      refine xo.done 2 [(2, B true), (3, I 0)] (by kernel_rfl) rfl (by kernel_rfl) ?_
      refine .ret ?_
      refine ⟨[B true, I 0], by kernel_rfl, _, rfl, ?_⟩
      exact ⟨rfl, A77, c78, ta79, A80, c81, tb82, O83, oc84, ch85, n86, n87, hT88, hT89, hP90, hS91, hPS92, hSep93, (((((((hx2.weak fun b hb h => h.elim).trans' hx6 (fun _ _ h => h) (fun b hb h => h.elim)).trans' hx10 (fun _ _ h => h) (fun b hb (e : b = b3) => (by show base ≤ b; omega))).trans' hx14 (fun _ _ h => h) (fun b hb h => h.elim)).trans' hx18 (fun _ _ h => h) (fun b hb h => h.elim)).trans' hx22 (fun _ _ h => h) (fun b hb (e : b = b15) => (by show base ≤ b; omega))).trans' hx76 (fun _ _ h => h) (fun b hb hm => hm))⟩

theorem pair_step (w : World) (a : SAd) (s1 s2 p base : Nat) (A1 : Option Addr) (c1 : Nat) (l1 : List Top) (r1 : Int) (hT1 : StrAt w a s1 base A1 c1 l1 r1) (A2 : Option Addr) (c2 : Nat) (l2 : List Top) (r2 : Int) (hT2 : StrAt w a s2 base A2 c2 l2 r2) (O : Option Addr) (oc : Nat) (out : List Change) (hP : OutAt w p s1 s2 base O oc out) (hsep : Sep A1 A2) (hne : s1 ≠ s2) (σ : St) (hS : StAt w a σ) (hA : Alive σ) (hlen : l1.length + l2.length ≤ 900000) (hrd : 0 ≤ r1 ∧ r1 ≤ 1000000000 ∧ 0 ≤ r2 ∧ r2 ≤ 1000000000) (hol : out.length ≤ 900000) (ht2 : a.hi ≤ base) (ht3 : base ≤ w.heap.size) (hb1 : base ≤ s1) (hb2 : base ≤ s2) (hb3 : base ≤ p) (hX1 : ∀ x ∈ l1, x.id ≠ 0 → ∃ h items E, TopN σ h items x E) (hX2 : ∀ y ∈ l2, y.id ≠ 0 → ∃ h items E, TopN σ h items y E) :
    Ret Tryz.prog 38 [Pt p 0] w fun v w' => (l1 = [] ∧ l2 = [] ∧ v = .tuple #[B false, I 0] ∧ Ext No w w') ∨ (v = .tuple #[B true, I 0] ∧ PairOut a s1 s2 p base σ r1 r2 out l1.reverse l2.reverse w w') := by
  rcases List.eq_nil_or_concat l1 with h1 | ⟨l01, x, h1⟩ <;> rcases List.eq_nil_or_concat l2 with h2 | ⟨l02, y, h2⟩
  · exact (pair_step00 w a s1 s2 p base A1 c1 l1 r1 hT1 A2 c2 l2 r2 hT2 O oc out hP hsep hne σ hS hA hlen hrd hol ht2 ht3 hb1 hb2 hb3 h1 h2).mono fun v w' q => .inl ⟨h1, h2, q.1, q.2⟩
  · have e2 : l2.reverse = y :: l02.reverse := by rw [h2]; simp
    refine (pair_step01 w a s1 s2 p base A1 c1 l1 r1 hT1 A2 c2 l2 r2 hT2 O oc out hP hsep hne σ hS hA hlen hrd hol ht2 ht3 hb1 hb2 hb3 h1 l02 y (by simpa using h2) (hX2 y (by rw [h2]; simp))).mono fun v w' q => .inr ⟨q.1, ?_⟩
    rw [e2, h1]; exact q.2
  · have e1 : l1.reverse = x :: l01.reverse := by rw [h1]; simp
    refine (pair_step10 w a s1 s2 p base A1 c1 l1 r1 hT1 A2 c2 l2 r2 hT2 O oc out hP hsep hne σ hS hA hlen hrd hol ht2 ht3 hb1 hb2 hb3 l01 x (by simpa using h1) (hX1 x (by rw [h1]; simp)) h2).mono fun v w' q => .inr ⟨q.1, ?_⟩
    rw [e1, h2]; exact q.2
  · have e1 : l1.reverse = x :: l01.reverse := by rw [h1]; simp
    have e2 : l2.reverse = y :: l02.reverse := by rw [h2]; simp
    refine (pair_step11 w a s1 s2 p base A1 c1 l1 r1 hT1 A2 c2 l2 r2 hT2 O oc out hP hsep hne σ hS hA hlen hrd hol ht2 ht3 hb1 hb2 hb3 l01 x (by simpa using h1) (hX1 x (by rw [h1]; simp)) l02 y (by simpa using h2) (hX2 y (by rw [h2]; simp))).mono fun v w' q => .inr ⟨q.1, ?_⟩
    rw [e1, e2]; exact q.2

end Go.Proofs.YtbajgpadmlnffaaGreat
/- diff.Trees: the walk. -/
namespace Go.Proofs.YtbajgpadmlnffaaGreat
open Go.V
set_option maxRecDepth 100000
set_option linter.unusedVariables false
set_option linter.unusedSimpArgs false

theorem diff_ofN (w : World) (a : SAd) (σ : St) (hS : StAt w a σ) (hA : Alive σ) (root : Int) (h : Nat) (items : List Item) (E : List KV) (hT : TreeN σ h items root E) :
    Ret Tryz.prog 37 [Pt a.s 0, I root] w fun v w' => ∃ t A c l, v = .tuple #[Pt t 0, I 0] ∧ w.heap.size ≤ t ∧ StrAt w' a t w.heap.size A c l 0 ∧ OfL σ root l ∧ StAt w' a σ ∧ Ext No w w' := by
  have lS := hS.bs.lt
  have lMc := hS.mc.lt
  have lMk := hS.mkt.lt
  have hhi := hS.hi
  have nSC : a.s ≠ a.mc := fun e => MapAt.ne hS.mc hS.bs e.symm
  have nKC : a.mkk ≠ a.mc := fun e => hS.cmk e.symm
  have h8 : items.length ≤ 8 := hT.ni.few
  have h1 : 0 < items.length := hT.ni.pos
  have h20 : h ≤ 20 := hT.ni.high
  refine calls_of_XC Tryz.func37 rfl rfl ?_
  refine .seq ?_
  refine .region ?_
  refine xo.done 2 [(0, Pt a.s 0), (1, I root)] (by kernel_rfl) rfl (by kernel_rfl) ?_
  refine .seq ?_
  refine .region ?_
  refine xo.box 2 70 (.agg #[Pt a.s 0, .slice none 0 0, I 0]) [Pt a.s 0, .slice none 0 0, I 0] (by kernel_rfl) (by kernel_rfl) ?_
  intro b1 w2 hb3 hx4 hg5
  have z2 := hx4.size
  have l3 := hb3.lt
  refine xo.done 1 [(0, Pt a.s 0), (1, I root), (6, Pt b1 0)] (by kernel_rfl) rfl (by kernel_rfl) ?_
  refine .seq ?_
  refine .seq ?_
  refine .region ?_
  refine xo.val 1 (by kernel_rfl) (c_eql_f (show ¬ ((root : Int) = 0) from (by have := hT.node.lo; omega))) ?_
  refine xo.done 0 [(0, Pt a.s 0), (1, I root), (6, Pt b1 0), (14, B false)] (by kernel_rfl) rfl (by kernel_rfl) ?_
  refine .condF rfl rfl ?_
  refine .skip ?_
  refine .seq ?_
  refine .region ?_
  have hf7 := (hS.no hx4)
  refine xo.ret 2 (by kernel_rfl) (cf72 _ _) (tree_Top _ a σ hf7 hA root h items E hT) ?_
  rintro _ w8 ⟨y, hy, rfl, hS6, hx9⟩
  have z8 := hx9.size
  refine xo.done 7 [(1, I root), (6, Pt b1 0), (7, S y.key), (8, I (h : Int)), (9, I 0)] (by kernel_rfl) rfl (by kernel_rfl) ?_
  refine .seq ?_
  refine .seq ?_
  refine .region ?_
  refine xo.done 2 [(1, I root), (6, Pt b1 0), (7, S y.key), (8, I (h : Int)), (9, I 0), (24, B false)] (by kernel_rfl) rfl (by kernel_rfl) ?_
  refine .condF rfl rfl ?_
  refine .skip ?_
  refine .seq ?_
  refine .region ?_
  refine xo.bsl 5 68 1 #[(0, .agg #[S y.key, S (⟨#[]⟩), I root, I (h : Int)])] (et := 127) (cs := [S y.key, S (⟨#[]⟩), I root, I (h : Int)]) (by kernel_rfl) (by kernel_rfl) ?_
  intro b10 w11 hb12 hx13 hg14
  have z11 := hx13.size
  have l12 := hb12.lt
  have hb15 := ((hb3.ext hx9 (fun h => h)).ext hx13 (fun h => h))
  refine xo.store 2 68 (o := 1) (.slice (some ⟨b10, 0, none⟩) 1 1) [Pt a.s 0, .slice (some ⟨b10, 0, none⟩) 1 1, I 0] (by kernel_rfl) hb15 (by kernel_rfl) (by kernel_rfl) (by kernel_rfl) (by kernel_rfl) ?_
  intro w16 hb17 hx18
  have z16 := hx18.size
  refine xo.done 0 [(6, Pt b1 0)] (by kernel_rfl) rfl (by kernel_rfl) ?_
  refine .seq ?_
  refine .region ?_
  refine xo.done 3 [(4, Pt b1 0), (5, I 0)] (by kernel_rfl) rfl (by kernel_rfl) ?_
  refine .ret ?_
  refine ⟨[Pt b1 0, I 0], by kernel_rfl, _, rfl, ?_⟩
  have hb19 := (hb12.ext hx18 (show b10 ≠ b1 by omega))
  have hf20 := ((hS6.no hx13).ext hx18 (fun b h1 h2 (e : b = b1) => by omega) (MapAt.ne (hS6.no hx13).mkt hb15) (fun b cs hb (e : b = b1) => Blk.ne hb hb15 rfl e))
  exact ⟨b1, some ⟨b10, 0, none⟩, 1, [⟨y.key, ⟨#[]⟩, root, (h : Int)⟩], rfl, by omega, ⟨hb17, Own.of_blk hb19 (by omega) rfl rfl⟩, .inr ⟨h, items, E, y, hT, hy, rfl⟩, hf20, ((((hx4.weak fun b hb h => h.elim).trans' hx9 (fun _ _ h => h) (fun b hb h => h.elim)).trans' hx13 (fun _ _ h => h) (fun b hb h => h.elim)).trans' hx18 (fun _ _ h => h) (fun b hb (e : b = b1) => absurd hb (by omega)))⟩

theorem diff_of0 (w : World) (a : SAd) (σ : St) (hS : StAt w a σ) :
    Ret Tryz.prog 37 [Pt a.s 0, I 0] w fun v w' => ∃ t A c l, v = .tuple #[Pt t 0, I 0] ∧ w.heap.size ≤ t ∧ StrAt w' a t w.heap.size A c l 0 ∧ OfL σ 0 l ∧ StAt w' a σ ∧ Ext No w w' := by
  have lS := hS.bs.lt
  have lMc := hS.mc.lt
  have lMk := hS.mkt.lt
  have hhi := hS.hi
  have nSC : a.s ≠ a.mc := fun e => MapAt.ne hS.mc hS.bs e.symm
  have nKC : a.mkk ≠ a.mc := fun e => hS.cmk e.symm
  refine calls_of_XC Tryz.func37 rfl rfl ?_
  refine .seq ?_
  refine .region ?_
  refine xo.done 2 [(0, Pt a.s 0), (1, I 0)] (by kernel_rfl) rfl (by kernel_rfl) ?_
  refine .seq ?_
  refine .region ?_
  refine xo.box 2 70 (.agg #[Pt a.s 0, .slice none 0 0, I 0]) [Pt a.s 0, .slice none 0 0, I 0] (by kernel_rfl) (by kernel_rfl) ?_
  intro b1 w2 hb3 hx4 hg5
  have z2 := hx4.size
  have l3 := hb3.lt
  refine xo.done 1 [(0, Pt a.s 0), (1, I 0), (6, Pt b1 0)] (by kernel_rfl) rfl (by kernel_rfl) ?_
  refine .seq ?_
  refine .seq ?_
  refine .region ?_
  refine xo.done 2 [(0, Pt a.s 0), (1, I 0), (6, Pt b1 0), (14, B true)] (by kernel_rfl) rfl (by kernel_rfl) ?_
  refine .condT rfl rfl ?_
  refine .seq ?_
  refine .region ?_
  refine xo.done 3 [(4, Pt b1 0), (5, I 0)] (by kernel_rfl) rfl (by kernel_rfl) ?_
  refine .ret ?_
  refine ⟨[Pt b1 0, I 0], by kernel_rfl, _, rfl, ?_⟩
  have hf6 := (hS.no hx4)
  exact ⟨b1, none, 0, [], rfl, by omega, ⟨hb3, .nil⟩, .inl ⟨rfl, rfl⟩, hf6, hx4⟩

theorem diff_of (w : World) (a : SAd) (σ : St) (hS : StAt w a σ) (hA : Alive σ) (root : Int) (E : List KV) (hT : TreeAt σ root E) : Ret Tryz.prog 37 [Pt a.s 0, I root] w fun v w' => ∃ t A c l, v = .tuple #[Pt t 0, I 0] ∧ w.heap.size ≤ t ∧ StrAt w' a t w.heap.size A c l 0 ∧ OfL σ root l ∧ StAt w' a σ ∧ Ext No w w' := by
  rcases hT with ⟨rfl, rfl⟩ | ⟨h, items, hT⟩
  · exact diff_of0 w a σ hS
  · exact diff_ofN w a σ hS hA root h items E hT

/-- Between two steps. -/
def TInv (u : World) (a : SAd) (σ : St) (s1 s2 p : Nat) (w0 w : World) (ta0 tb0 : List Top) (L : List Change) (N n : Nat) : Prop :=
  ∃ A1 c1 ta, ∃ r1 : Int, ∃ A2 c2 tb, ∃ r2 : Int, ∃ O oc out, ∃ k : Nat, ∃ Ea Eb na nb, StrAt u a s1 w0.heap.size A1 c1 ta.reverse r1 ∧ StrAt u a s2 w0.heap.size A2 c2 tb.reverse r2 ∧ OutAt u p s1 s2 w0.heap.size O oc out ∧ Sep A1 A2 ∧ StAt u a σ ∧ Ext No w0 u ∧
    StrD σ ta Ea na ∧ StrD σ tb Eb nb ∧ SortedE Ea ∧ SortedE Eb ∧ L = out ++ listsE Ea Eb ∧ n = na + nb ∧ (k + n ≤ N ∧ out.length + n ≤ N ∧ 0 ≤ r1 ∧ 0 ≤ r2 ∧ r1 + r2 = (k : Int)) ∧ ∀ cs m, Run σ ta tb cs m → Run σ ta0 tb0 (out ++ cs) (k + m)
def TDone (u : World) (a : SAd) (σ : St) (s1 s2 p : Nat) (w0 : World) (ta0 tb0 : List Top) (L : List Change) : Prop :=
  ∃ A1 c1, ∃ r1 : Int, ∃ A2 c2, ∃ r2 : Int, ∃ O oc, ∃ k : Nat, StrAt u a s1 w0.heap.size A1 c1 [] r1 ∧ StrAt u a s2 w0.heap.size A2 c2 [] r2 ∧ OutAt u p s1 s2 w0.heap.size O oc L ∧ StAt u a σ ∧ Ext No w0 u ∧ (0 ≤ r1 ∧ 0 ≤ r2 ∧ r1 + r2 = (k : Int) ∧ k ≤ 500000) ∧ Run σ ta0 tb0 L k
theorem trees_step (u : World) (a : SAd) (σ : St) (hA : Alive σ) (s1 s2 p : Nat) (w0 w : World) (ta0 tb0 : List Top) (L : List Change) (N n : Nat) (hI : TInv u a σ s1 s2 p w0 w ta0 tb0 L N n) (hN : N ≤ 500000) (hne : s1 ≠ s2) (ha : a.hi ≤ w0.heap.size) (hb1 : w0.heap.size ≤ s1) (hb2 : w0.heap.size ≤ s2) (hb3 : w0.heap.size ≤ p) :
    Ret Tryz.prog 38 [Pt p 0] u fun v u' => (v = .tuple #[B false, I 0] ∧ TDone u' a σ s1 s2 p w0 ta0 tb0 L) ∨ (v = .tuple #[B true, I 0] ∧ ∃ n', n' < n ∧ TInv u' a σ s1 s2 p w0 w ta0 tb0 L N n') := by
  obtain ⟨A1, c1, ta, r1, A2, c2, tb, r2, O, oc, out, k, Ea, Eb, na, nb, h1, h2, hP, hsep, hS, hE, hda, hdb, sa, sb, hL, hn, hb, hR⟩ := hI
  have t1 := hda.tops
  have t2 := hdb.tops
  have hsz := hE.size
  refine (pair_step u a s1 s2 p w0.heap.size A1 c1 ta.reverse r1 h1 A2 c2 tb.reverse r2 h2 O oc out hP hsep hne σ hS hA (by rw [List.length_reverse, List.length_reverse]; omega) (by omega) (by omega) ha hsz hb1 hb2 hb3
    (fun x hx => t1.2 x (List.mem_reverse.1 hx)) (fun x hx => t2.2 x (List.mem_reverse.1 hx))).mono fun v u' q => ?_
  rcases q with ⟨e1, e2, rfl, hx⟩ | ⟨rfl, A1', c1', ta', A2', c2', tb', O', oc', ch, n1, n2, k1, k2, kP, kS, hps, ks, kx⟩
  · left
    have e1 : ta = [] := by simpa using e1
    have e2 : tb = [] := by simpa using e2
    subst e1; subst e2
    obtain ⟨rfl, rfl⟩ := hda
    obtain ⟨rfl, rfl⟩ := hdb
    rw [listsE_nil, List.map_nil, List.append_nil] at hL
    subst hL
    have hr := hR [] 0 .done
    rw [List.append_nil] at hr
    exact ⟨rfl, A1, c1, r1, A2, c2, r2, O, oc, k, h1.no hx, h2.no hx, hP.no hx, hS.no hx, hE.byc hx (fun _ _ _ h => h), ⟨by omega, by omega, by omega, by omega⟩, hr⟩
  · right
    rw [List.reverse_reverse, List.reverse_reverse] at hps
    obtain ⟨Ea', Eb', na', nb', g1, g2, g3, g4, ⟨g5, g6, g7⟩, g8⟩ := ps_main hps hda hdb sa sb
    refine ⟨rfl, na' + nb', by omega, A1', c1', ta', r1 + n1, A2', c2', tb', r2 + n2, O', oc', out ++ ch, k + (n1 + n2), Ea', Eb', na', nb', k1, k2, kP, ks, kS, hE.byc kx (fun b hb _ hm => by have hm' : w0.heap.size ≤ b := hm; omega), g1, g2, g3, g4, by rw [hL, g8, List.append_assoc], rfl, ⟨by omega, by rw [List.length_append]; omega, by omega, by omega, by omega⟩, fun cs m hcs => ?_⟩
    have := hR (ch ++ cs) (n1 + n2 + m) (.step hps hcs)
    rw [List.append_assoc, Nat.add_assoc]
    exact this

theorem TInv.ext {u : World} {a : SAd} {σ : St} {s1 s2 p : Nat} {w0 w : World} {ta0 tb0 : List Top} {L : List Change} {N n : Nat} (h : TInv u a σ s1 s2 p w0 w ta0 tb0 L N n) : Ext No w0 u := by
  obtain ⟨_, _, _, _, _, _, _, _, _, _, _, _, _, _, _, _, _, _, _, _, _, hE, _⟩ := h
  exact hE

theorem diff_Trees (w : World) (a : SAd) (σ : St) (hS : StAt w a σ) (hA : Alive σ) (ra rb : Int) (Ea Eb : List KV) (hTa : TreeAt σ ra Ea) (hTb : TreeAt σ rb Eb) (hla : Ea.length ≤ 1000) (hlb : Eb.length ≤ 1000) :
    Ret Tryz.prog 13 [Pt a.s 0, I ra, I rb] w fun v w' => ∃ A c, ∃ k : Nat, v = .tuple #[.slice A (listsE Ea Eb).length c, I (k : Int), I 0] ∧ Own kChange w' w.heap.size A c (listsE Ea Eb) ∧ StAt w' a σ ∧ Ext No w w' ∧ (ra ≠ rb → ∃ ta tb, OfL σ ra ta ∧ OfL σ rb tb ∧ Run σ ta tb (listsE Ea Eb) k) := by
  have lS := hS.bs.lt
  have lMc := hS.mc.lt
  have lMk := hS.mkt.lt
  have hhi := hS.hi
  have nSC : a.s ≠ a.mc := fun e => MapAt.ne hS.mc hS.bs e.symm
  have nKC : a.mkk ≠ a.mc := fun e => hS.cmk e.symm
  refine calls_of_XC Tryz.func13 rfl rfl ?_
  refine .seq ?_
  refine .region ?_
  refine xo.done 3 [(0, Pt a.s 0), (1, I ra), (2, I rb)] (by kernel_rfl) rfl (by kernel_rfl) ?_
  refine .seq ?_
  refine .seq ?_
  refine .region ?_
  by_cases hc1 : (ra : Int) = rb
  · refine xo.val 2 (by kernel_rfl) (c_eql_t hc1) ?_
    refine xo.done 0 [(0, Pt a.s 0), (1, I ra), (2, I rb), (17, B true)] (by kernel_rfl) rfl (by kernel_rfl) ?_
    refine .condT rfl rfl ?_
    refine .seq ?_
    refine .region ?_
    refine xo.done 3 [(6, .slice none 0 0), (7, I 0), (8, I 0)] (by kernel_rfl) rfl (by kernel_rfl) ?_
    refine .ret ?_
    refine ⟨[.slice none 0 0, I 0, I 0], by kernel_rfl, _, rfl, ?_⟩
    subst hc1
    obtain rfl := hTa.unique hTb
    rw [listsE_self]
    exact ⟨none, 0, 0, rfl, .nil, hS, (Ext.refl _ _), fun h => absurd rfl h⟩
  · refine xo.val 2 (by kernel_rfl) (c_eql_f hc1) ?_
    refine xo.done 0 [(0, Pt a.s 0), (1, I ra), (2, I rb), (17, B false)] (by kernel_rfl) rfl (by kernel_rfl) ?_
    refine .condF rfl rfl ?_
    refine .skip ?_
    refine .seq ?_
    refine .region ?_
    refine xo.ret 2 (by kernel_rfl) (cf37 _ _) (diff_of _ a σ hS hA ra Ea hTa) ?_
    rintro _ w10 ⟨t2, A3, c4, l5, rfl, ht9, hT6, hO7, hS8, hx11⟩
    have z10 := hx11.size
    have lT1 := hT6.blk.lt
    refine xo.done 5 [(0, Pt a.s 0), (2, I rb), (9, Pt t2 0), (10, I 0)] (by kernel_rfl) rfl (by kernel_rfl) ?_
    refine .seq ?_
    refine .seq ?_
    refine .region ?_
    refine xo.done 2 [(0, Pt a.s 0), (2, I rb), (9, Pt t2 0), (10, I 0), (25, B false)] (by kernel_rfl) rfl (by kernel_rfl) ?_
    refine .condF rfl rfl ?_
    refine .skip ?_
    refine .seq ?_
    refine .region ?_
    refine xo.ret 2 (by kernel_rfl) (cf37 _ _) (diff_of _ a σ hS8 hA rb Eb hTb) ?_
    rintro _ w20 ⟨t12, A13, c14, l15, rfl, ht19, hT16, hO17, hS18, hx21⟩
    have z20 := hx21.size
    have lT2 := hT16.blk.lt
    refine xo.done 5 [(9, Pt t2 0), (10, I 0), (11, Pt t12 0)] (by kernel_rfl) rfl (by kernel_rfl) ?_
    refine .seq ?_
    refine .seq ?_
    refine .region ?_
    refine xo.done 2 [(9, Pt t2 0), (10, I 0), (11, Pt t12 0), (34, B false)] (by kernel_rfl) rfl (by kernel_rfl) ?_
    refine .condF rfl rfl ?_
    refine .skip ?_
    refine .seq ?_
    refine .region ?_
    refine xo.box 3 65 (.agg #[Pt t2 0, Pt t12 0, .slice none 0 0]) [Pt t2 0, Pt t12 0, .slice none 0 0] (by kernel_rfl) (by kernel_rfl) ?_
    intro b22 w23 hb24 hx25 hg26
    have z23 := hx25.size
    have l24 := hb24.lt
    refine xo.done 1 [(9, Pt t2 0), (11, Pt t12 0), (12, Pt b22 0)] (by kernel_rfl) rfl (by kernel_rfl) ?_
    refine .block ?_
    have hf27 := ((hT6.no hx21).no hx25)
    have hf28 := (hT16.no hx25)
    have hf29 := (hS18.no hx25)
    obtain ⟨na0, hna, hda⟩ := hO7.str hTa
    obtain ⟨nb0, hnb, hdb⟩ := hO17.str hTb
    have hst1 : StrAt w23 a t2 w.heap.size A3 c4 l5.reverse 0 := by rw [hO7.rev.1]; exact ⟨hf27.blk, hf27.own.base_le (by omega)⟩
    have hst2 : StrAt w23 a t12 w.heap.size A13 c14 l15.reverse 0 := by rw [hO17.rev.1]; exact ⟨hf28.blk, hf28.own.base_le (by omega)⟩
    have hI0 : TInv w23 a σ t2 t12 b22 w w l5 l15 (listsE Ea Eb) (na0 + nb0) (na0 + nb0) := ⟨A3, c4, l5, 0, A13, c14, l15, 0, none, 0, [], 0, Ea, Eb, na0, nb0, hst1, hst2, ⟨hb24, .nil⟩, (fun b hb1 hb2 => by have := (hT6.own.lt hb1).2; have := (hT16.own.lt hb2).1; omega), hf29, ((hx11.trans' hx21 (fun _ _ h => h) (fun b hb h => h)).trans' hx25 (fun _ _ h => h) (fun b hb h => h)), hda, hdb, hTa.sorted, hTb.sorted, rfl, rfl, ⟨by omega, by simp, by omega, by omega, by omega⟩, fun cs m h => by rw [Nat.zero_add]; exact h⟩
    refine XC.loop (ι := Nat) (fun n => [(9, Pt t2 0), (11, Pt t12 0), (12, Pt b22 0)]) (fun n u => TInv u a σ t2 t12 b22 w w l5 l15 (listsE Ea Eb) (na0 + nb0) n ∧ Ext No w u) (fun n => n) (na0 + nb0) (cov_of (by kernel_rfl)) ⟨hI0, ((hx11.trans' hx21 (fun _ _ h => h) (fun b hb h => h)).trans' hx25 (fun _ _ h => h) (fun b hb h => h))⟩ ?_
    rintro n w30 ⟨hIu, hE⟩
    have z30 := hE.size
    refine .block ?_
    refine .seq ?_
    refine .region ?_
    refine xo.ret 1 (by kernel_rfl) (cf38 _ _) (trees_step _ a σ hA t2 t12 b22 w w l5 l15 _ _ n hIu (by omega) (by omega) (by omega) (by omega) (by omega) (by omega)) ?_
    rintro _ w31 (⟨rfl, hD⟩ | ⟨rfl, n2, hnlt, hIn⟩)
    · obtain ⟨A1, c1, r1, A2, c2, r2, O, oc, kk, hd1, hd2, hdP, hdS, hdE, hdb, hRun⟩ := hD
      have z31 := hdE.size
      refine xo.done 5 [(9, Pt t2 0), (11, Pt t12 0), (12, Pt b22 0), (13, B false), (14, I 0)] (by kernel_rfl) rfl (by kernel_rfl) ?_
      refine .seq ?_
      refine .seq ?_
      refine .region ?_
      refine xo.done 2 [(9, Pt t2 0), (11, Pt t12 0), (12, Pt b22 0), (13, B false), (14, I 0), (46, B false)] (by kernel_rfl) rfl (by kernel_rfl) ?_
      refine .condF rfl rfl ?_
      refine .skip ?_
      refine .seq ?_
      refine .region ?_
      refine xo.done 2 [(9, Pt t2 0), (11, Pt t12 0), (12, Pt b22 0), (49, B true)] (by kernel_rfl) rfl (by kernel_rfl) ?_
      refine .condT rfl rfl ?_
      refine .seq ?_
      refine .regionReads (by kernel_rfl) (by kernel_rfl) ?_
      intro w33 hd34
      have hx34 := Ext.ofDrew (M := No) hd34
      have z33 := hx34.size
      have hb35 := (hdP.blk.ext hx34 (fun h => h))
      refine Go.V.xs.val 3 (by kernel_rfl) (ldB (t := 22) (o := 2) (by kernel_rfl) hb35 rfl) ?_
      have hb36 := (hd1.blk.ext hx34 (fun h => h))
      refine Go.V.xs.val 3 (by kernel_rfl) (ldB (t := 3) (o := 2) (by kernel_rfl) hb36 rfl) ?_
      have hb37 := (hd2.blk.ext hx34 (fun h => h))
      refine Go.V.xs.val 3 (by kernel_rfl) (ldB (t := 3) (o := 2) (by kernel_rfl) hb37 rfl) ?_
      refine Go.V.xs.val 0 (by kernel_rfl) (a_add (a := r1) (b := r2) (by omega) (by omega)) ?_
      refine Go.V.xs.fin 3 (by kernel_rfl) rfl ?_
      refine .cov [(6, .slice O ((listsE Ea Eb).length) oc), (7, I (r1 + r2)), (8, I 0)] (cov_of (by kernel_rfl)) ?_
      refine .ret ?_
      refine ⟨[.slice O ((listsE Ea Eb).length) oc, I (r1 + r2), I 0], by kernel_rfl, _, rfl, ?_⟩
      have hs38 := (hdP.own.ext hx34 (fun _ _ h => h))
      have hf39 := (hdS.no hx34)
      exact ⟨O, oc, kk, by rw [hdb.2.2.1]; rfl, hs38, hf39, (hdE.trans' hx34 (fun _ _ h => h) (fun b hb h => h)), fun _ => ⟨_, _, hO7, hO17, hRun⟩⟩
    · have hdE : Ext No w w31 := hIn.ext
      have z31 := hdE.size
      refine xo.done 5 [(9, Pt t2 0), (11, Pt t12 0), (12, Pt b22 0), (13, B true), (14, I 0)] (by kernel_rfl) rfl (by kernel_rfl) ?_
      refine .seq ?_
      refine .seq ?_
      refine .region ?_
      refine xo.done 2 [(9, Pt t2 0), (11, Pt t12 0), (12, Pt b22 0), (13, B true), (14, I 0), (46, B false)] (by kernel_rfl) rfl (by kernel_rfl) ?_
      refine .condF rfl rfl ?_
      refine .skip ?_
      refine .seq ?_
      refine .region ?_
      refine xo.done 2 [(9, Pt t2 0), (11, Pt t12 0), (12, Pt b22 0), (49, B false)] (by kernel_rfl) rfl (by kernel_rfl) ?_
      refine .condF rfl rfl ?_
      refine .skip ?_
      exact ⟨_, cov_of (by kernel_rfl), ⟨hIn, hdE⟩, hnlt⟩

end Go.Proofs.YtbajgpadmlnffaaGreat
/- Two like structs are equal. -/
namespace Go.Proofs.YtbajgpadmlnffaaGreat
open Go.V
set_option linter.unusedVariables false

theorem neq_same {P : Program} {w : World} {t : TypeId} {a : Array Value} {x y : Operand} {m : Nat} {l : Lit} (hg : (eqGuard .neq t x y (.agg a) (.agg a)).run P w = .ok () w) (hm : m ≤ 10000) (hk : P.keyTypeAt m t = true)
    (hw : (match P.underlying t with | some (.array _ _) | some (.struct _) => true | _ => false) = true) (hx : keyOf P t (.agg a) = some l) :
    (vS (do eqGuard .neq t x y (.agg a) (.agg a); binOp .neq t (.agg a) (.agg a))).run P w = .ok (.value (B false)) w := by
  obtain ⟨r, hr, hiff⟩ := run_equal_deep w hm hk hw hx hx
  have hr1 : r = true := hiff.2 rfl
  subst hr1
  refine vrun ?_
  simp only [Sem.run_bind, hg, Result.andThen_ok]
  show (do pure (.bool (!(← Op.equal t (.agg a) (.agg a)))) : Sem Value).run P w = _
  simp only [Sem.run_bind, hr, Result.andThen_ok, Sem.run_pure]
  rfl
theorem neq_entry (w : World) (x y : Operand) (e : Entry) (h : e.key.size ≤ maxLen ∧ e.val.size ≤ maxLen) :
    (vS (do eqGuard .neq 38 x y (.agg #[S e.key, S e.val]) (.agg #[S e.key, S e.val]); binOp .neq 38 (.agg #[S e.key, S e.val]) (.agg #[S e.key, S e.val]))).run Tryz.prog w = .ok (.value (B false)) w := by
  have hk : keyOf Tryz.prog 38 (.agg #[S e.key, S e.val]) = ((((if e.key.size ≤ maxLen then some [Lit.string e.key.data.toList] else none).bind fun a => (if e.val.size ≤ maxLen then some [Lit.string e.val.data.toList] else none).bind fun b => some [a, b])).map List.flatten).map fun ls => .string (keyBytes ls) := by kernel_rfl
  rw [if_pos h.1, if_pos h.2] at hk
  exact neq_same (m := 5) (by kernel_rfl) (by omega) (by kernel_rfl) (by kernel_rfl) hk
theorem neq_change (w : World) (x y : Operand) (e : Change) (h : e.key.size ≤ maxLen ∧ e.val.size ≤ maxLen) :
    (vS (do eqGuard .neq 34 x y (.agg #[S e.key, S e.val, B e.gone]) (.agg #[S e.key, S e.val, B e.gone]); binOp .neq 34 (.agg #[S e.key, S e.val, B e.gone]) (.agg #[S e.key, S e.val, B e.gone]))).run Tryz.prog w = .ok (.value (B false)) w := by
  have hk : keyOf Tryz.prog 34 (.agg #[S e.key, S e.val, B e.gone]) = ((((if e.key.size ≤ maxLen then some [Lit.string e.key.data.toList] else none).bind fun a => (if e.val.size ≤ maxLen then some [Lit.string e.val.data.toList] else none).bind fun b => some [a, b, [Lit.bool e.gone]])).map List.flatten).map fun ls => .string (keyBytes ls) := by kernel_rfl
  rw [if_pos h.1, if_pos h.2] at hk
  exact neq_same (m := 5) (by kernel_rfl) (by omega) (by kernel_rfl) (by kernel_rfl) hk
end Go.Proofs.YtbajgpadmlnffaaGreat
/- slices.Equal, and the reference of trees: the walks. -/
namespace Go.Proofs.YtbajgpadmlnffaaGreat
open Go.V
set_option maxRecDepth 100000
set_option linter.unusedVariables false
set_option linter.unusedSimpArgs false

theorem equal_entry (w : World) (xs : List Entry) (A1 : Option Addr) (c1 lo1 hi1 : Nat) (hR1 : Rd kEntry w lo1 hi1 A1 xs) (hh1 : hi1 ≤ w.heap.size) (A2 : Option Addr) (c2 lo2 hi2 : Nat) (hR2 : Rd kEntry w lo2 hi2 A2 xs) (hh2 : hi2 ≤ w.heap.size) (hlen : xs.length ≤ 1000000) (hz : ∀ x ∈ xs, x.key.size ≤ maxLen ∧ x.val.size ≤ maxLen) :
    Ret Tryz.prog 14 [.slice A1 xs.length c1, .slice A2 xs.length c2] w fun v w' => v = B true ∧ Ext No w w' := by
  refine calls_of_XC Tryz.func14 rfl rfl ?_
  refine .seq ?_
  refine .region ?_
  refine xo.done 1 [(0, .slice A1 xs.length c1), (1, .slice A2 xs.length c2)] (by kernel_rfl) rfl (by kernel_rfl) ?_
  refine .seq ?_
  refine .seq ?_
  refine .region ?_
  refine xo.val 4 (by kernel_rfl) (c_neq_t (show ((xs.length : Int) : Int) = (xs.length : Int) from rfl)) ?_
  refine xo.done 0 [(0, .slice A1 xs.length c1), (1, .slice A2 xs.length c2), (10, B false)] (by kernel_rfl) rfl (by kernel_rfl) ?_
  refine .condF rfl rfl ?_
  refine .skip ?_
  refine .seq ?_
  refine .seq ?_
  refine .region ?_
  refine xo.done 3 [(0, .slice A1 xs.length c1), (1, .slice A2 xs.length c2), (12, I (xs.length : Int)), (13, I 0)] (by kernel_rfl) rfl (by kernel_rfl) ?_
  refine .block ?_
  refine XC.loop (ι := Nat) (fun i => [(0, .slice A1 xs.length c1), (1, .slice A2 xs.length c2), (12, I (xs.length : Int)), (13, I (i : Int))]) (fun i u => i ≤ xs.length ∧ Ext No w u) (fun i => xs.length - i) 0 (cov_of (by kernel_rfl)) ⟨by omega, (Ext.refl _ _)⟩ ?_
  rintro i w1 ⟨hi_, hE⟩
  have z1 := hE.size
  refine .seq ?_
  refine .region ?_
  by_cases hc2 : ((i : Int) : Int) < (xs.length : Int)
  · refine xo.val 0 (by kernel_rfl) (c_lss_t hc2) ?_
    refine xo.done 0 [(0, .slice A1 xs.length c1), (1, .slice A2 xs.length c2), (12, I (xs.length : Int)), (13, I (i : Int)), (14, B true)] (by kernel_rfl) rfl (by kernel_rfl) ?_
    refine .seq ?_
    refine .condT rfl rfl ?_
    refine .skip ?_
    refine .seq ?_
    refine .block ?_
    refine .seq ?_
    refine .region ?_
    refine xo.done 2 [(0, .slice A1 xs.length c1), (1, .slice A2 xs.length c2), (5, I (i : Int)), (12, I (xs.length : Int)), (13, I (i : Int))] (by kernel_rfl) rfl (by kernel_rfl) ?_
    refine .seq ?_
    refine .regionReads (by kernel_rfl) (by kernel_rfl) ?_
    intro w3 hd4
    have hx4 := Ext.ofDrew (M := No) hd4
    have z3 := hx4.size
    have hs5 := ((hR1.ext hE (fun _ _ _ h => h)).ext hx4 (fun _ _ _ h => h))
    obtain ⟨b6, o7, x8, hi9, hA10, hl11, hh12, hr13⟩ := hs5.at_ i (by omega)
    refine Go.V.xs.val 2 (by kernel_rfl) (idxN (kk := .i64) (t := 36) (n := xs.length) (cap := c1) (sz := 2) (i := i) (by kernel_rfl) hA10 (by omega)) ?_
    refine Go.V.xs.val 0 (by kernel_rfl) (ldA (t := 38) (by kernel_rfl) hr13) ?_
    have hs14 := ((hR2.ext hE (fun _ _ _ h => h)).ext hx4 (fun _ _ _ h => h))
    obtain ⟨b15, o16, x17, hi18, hA19, hl20, hh21, hr22⟩ := hs14.at_ i (by omega)
    refine Go.V.xs.val 2 (by kernel_rfl) (idxN (kk := .i64) (t := 36) (n := xs.length) (cap := c2) (sz := 2) (i := i) (by kernel_rfl) hA19 (by omega)) ?_
    have ex23 : x8 = x17 := Option.some.inj (hi9.symm.trans hi18)
    subst ex23
    refine Go.V.xs.val 0 (by kernel_rfl) (ldA (t := 38) (by kernel_rfl) hr22) ?_
    refine Go.V.xs.val 0 (by kernel_rfl) (neq_entry _ (.tmp 19) (.tmp 23) x8 (hz x8 (List.mem_of_getElem? hi9))) ?_
    refine Go.V.xs.fin 0 (by kernel_rfl) rfl ?_
    refine .cov [(0, .slice A1 xs.length c1), (1, .slice A2 xs.length c2), (12, I (xs.length : Int)), (13, I (i : Int)), (24, B false)] (cov_of (by kernel_rfl)) ?_
    refine .condF rfl rfl ?_
    refine .skip ?_
    refine .region ?_
    refine xo.val 0 (by kernel_rfl) (a_add (a := (i : Int)) (b := 1) (by omega) (by omega)) ?_
    refine xo.fin 1 (by kernel_rfl) rfl ?_
    exact ⟨i + 1, cov_of (by kernel_rfl), ⟨by omega, (hE.trans' hx4 (fun _ _ h => h) (fun b hb h => h))⟩, by show xs.length - (i + 1) < xs.length - i; omega⟩
  · refine xo.val 0 (by kernel_rfl) (c_lss_f hc2) ?_
    refine xo.done 0 [(0, .slice A1 xs.length c1), (1, .slice A2 xs.length c2), (12, I (xs.length : Int)), (13, I (i : Int)), (14, B false)] (by kernel_rfl) rfl (by kernel_rfl) ?_
    refine .seq ?_
    refine .condF rfl rfl ?_
    refine .exit ?_
    refine xsetTo ?_
    refine .seq ?_
    refine .region ?_
    refine xo.done 1 [(4, B true)] (by kernel_rfl) rfl (by kernel_rfl) ?_
    refine .ret ?_
    refine ⟨[B true], by kernel_rfl, _, rfl, ?_⟩
    exact ⟨rfl, hE⟩

theorem equal_change (w : World) (xs : List Change) (A1 : Option Addr) (c1 lo1 hi1 : Nat) (hR1 : Rd kChange w lo1 hi1 A1 xs) (hh1 : hi1 ≤ w.heap.size) (A2 : Option Addr) (c2 lo2 hi2 : Nat) (hR2 : Rd kChange w lo2 hi2 A2 xs) (hh2 : hi2 ≤ w.heap.size) (hlen : xs.length ≤ 1000000) (hz : ∀ x ∈ xs, x.key.size ≤ maxLen ∧ x.val.size ≤ maxLen) :
    Ret Tryz.prog 23 [.slice A1 xs.length c1, .slice A2 xs.length c2] w fun v w' => v = B true ∧ Ext No w w' := by
  refine calls_of_XC Tryz.func23 rfl rfl ?_
  refine .seq ?_
  refine .region ?_
  refine xo.done 1 [(0, .slice A1 xs.length c1), (1, .slice A2 xs.length c2)] (by kernel_rfl) rfl (by kernel_rfl) ?_
  refine .seq ?_
  refine .seq ?_
  refine .region ?_
  refine xo.val 4 (by kernel_rfl) (c_neq_t (show ((xs.length : Int) : Int) = (xs.length : Int) from rfl)) ?_
  refine xo.done 0 [(0, .slice A1 xs.length c1), (1, .slice A2 xs.length c2), (10, B false)] (by kernel_rfl) rfl (by kernel_rfl) ?_
  refine .condF rfl rfl ?_
  refine .skip ?_
  refine .seq ?_
  refine .seq ?_
  refine .region ?_
  refine xo.done 3 [(0, .slice A1 xs.length c1), (1, .slice A2 xs.length c2), (12, I (xs.length : Int)), (13, I 0)] (by kernel_rfl) rfl (by kernel_rfl) ?_
  refine .block ?_
  refine XC.loop (ι := Nat) (fun i => [(0, .slice A1 xs.length c1), (1, .slice A2 xs.length c2), (12, I (xs.length : Int)), (13, I (i : Int))]) (fun i u => i ≤ xs.length ∧ Ext No w u) (fun i => xs.length - i) 0 (cov_of (by kernel_rfl)) ⟨by omega, (Ext.refl _ _)⟩ ?_
  rintro i w1 ⟨hi_, hE⟩
  have z1 := hE.size
  refine .seq ?_
  refine .region ?_
  by_cases hc2 : ((i : Int) : Int) < (xs.length : Int)
  · refine xo.val 0 (by kernel_rfl) (c_lss_t hc2) ?_
    refine xo.done 0 [(0, .slice A1 xs.length c1), (1, .slice A2 xs.length c2), (12, I (xs.length : Int)), (13, I (i : Int)), (14, B true)] (by kernel_rfl) rfl (by kernel_rfl) ?_
    refine .seq ?_
    refine .condT rfl rfl ?_
    refine .skip ?_
    refine .seq ?_
    refine .block ?_
    refine .seq ?_
    refine .region ?_
    refine xo.done 2 [(0, .slice A1 xs.length c1), (1, .slice A2 xs.length c2), (5, I (i : Int)), (12, I (xs.length : Int)), (13, I (i : Int))] (by kernel_rfl) rfl (by kernel_rfl) ?_
    refine .seq ?_
    refine .regionReads (by kernel_rfl) (by kernel_rfl) ?_
    intro w3 hd4
    have hx4 := Ext.ofDrew (M := No) hd4
    have z3 := hx4.size
    have hs5 := ((hR1.ext hE (fun _ _ _ h => h)).ext hx4 (fun _ _ _ h => h))
    obtain ⟨b6, o7, x8, hi9, hA10, hl11, hh12, hr13⟩ := hs5.at_ i (by omega)
    refine Go.V.xs.val 2 (by kernel_rfl) (idxN (kk := .i64) (t := 22) (n := xs.length) (cap := c1) (sz := 3) (i := i) (by kernel_rfl) hA10 (by omega)) ?_
    refine Go.V.xs.val 0 (by kernel_rfl) (ldA (t := 34) (by kernel_rfl) hr13) ?_
    have hs14 := ((hR2.ext hE (fun _ _ _ h => h)).ext hx4 (fun _ _ _ h => h))
    obtain ⟨b15, o16, x17, hi18, hA19, hl20, hh21, hr22⟩ := hs14.at_ i (by omega)
    refine Go.V.xs.val 2 (by kernel_rfl) (idxN (kk := .i64) (t := 22) (n := xs.length) (cap := c2) (sz := 3) (i := i) (by kernel_rfl) hA19 (by omega)) ?_
    have ex23 : x8 = x17 := Option.some.inj (hi9.symm.trans hi18)
    subst ex23
    refine Go.V.xs.val 0 (by kernel_rfl) (ldA (t := 34) (by kernel_rfl) hr22) ?_
    refine Go.V.xs.val 0 (by kernel_rfl) (neq_change _ (.tmp 19) (.tmp 23) x8 (hz x8 (List.mem_of_getElem? hi9))) ?_
    refine Go.V.xs.fin 0 (by kernel_rfl) rfl ?_
    refine .cov [(0, .slice A1 xs.length c1), (1, .slice A2 xs.length c2), (12, I (xs.length : Int)), (13, I (i : Int)), (24, B false)] (cov_of (by kernel_rfl)) ?_
    refine .condF rfl rfl ?_
    refine .skip ?_
    refine .region ?_
    refine xo.val 0 (by kernel_rfl) (a_add (a := (i : Int)) (b := 1) (by omega) (by omega)) ?_
    refine xo.fin 1 (by kernel_rfl) rfl ?_
    exact ⟨i + 1, cov_of (by kernel_rfl), ⟨by omega, (hE.trans' hx4 (fun _ _ h => h) (fun b hb h => h))⟩, by show xs.length - (i + 1) < xs.length - i; omega⟩
  · refine xo.val 0 (by kernel_rfl) (c_lss_f hc2) ?_
    refine xo.done 0 [(0, .slice A1 xs.length c1), (1, .slice A2 xs.length c2), (12, I (xs.length : Int)), (13, I (i : Int)), (14, B false)] (by kernel_rfl) rfl (by kernel_rfl) ?_
    refine .seq ?_
    refine .condF rfl rfl ?_
    refine .exit ?_
    refine xsetTo ?_
    refine .seq ?_
    refine .region ?_
    refine xo.done 1 [(4, B true)] (by kernel_rfl) rfl (by kernel_rfl) ?_
    refine .ret ?_
    refine ⟨[B true], by kernel_rfl, _, rfl, ?_⟩
    exact ⟨rfl, hE⟩

theorem less_drop {l m : List UInt8} : ∀ (i : Nat), l.take i = m.take i → i ≤ l.length → i ≤ m.length → Op.bytesLess l m = Op.bytesLess (l.drop i) (m.drop i) := by
  intro i
  induction i generalizing l m with
  | zero => intro _ _ _; simp
  | succ i ih =>
    intro h h1 h2
    cases l with
    | nil => simp at h1
    | cons a l =>
      cases m with
      | nil => simp at h2
      | cons b m =>
        simp only [List.take_succ_cons, List.cons.injEq] at h
        obtain ⟨rfl, h⟩ := h
        simp only [List.drop_succ_cons, List.length_cons] at *
        rw [← ih h (by omega) (by omega)]
        simp [Op.bytesLess]
theorem less_at {a b : ByteArray} {i : Nat} (h : a.data.toList.take i = b.data.toList.take i) (h1 : i ≤ a.size) (h2 : i ≤ b.size) : Lt a b ↔ Op.bytesLess (a.data.toList.drop i) (b.data.toList.drop i) = true := by
  unfold Lt
  rw [ba_toList, ba_toList, less_drop i h (by simpa using h1) (by simpa using h2)]
theorem less_end {a b : ByteArray} {i : Nat} (h : a.data.toList.take i = b.data.toList.take i) (h1 : i = a.size) (h2 : i < b.size) : Lt a b := by
  rw [less_at h (by omega) (by omega)]
  have e : a.data.toList.drop i = [] := List.drop_eq_nil_of_le (by simp; omega)
  rw [e]
  have hl : i < b.data.toList.length := by simpa using h2
  rw [List.drop_eq_getElem_cons hl]; rfl
theorem less_no {a b : ByteArray} {i : Nat} (h : a.data.toList.take i = b.data.toList.take i) (h1 : i ≤ a.size) (h2 : i = b.size) : ¬ Lt a b := by
  rw [less_at h h1 (by omega)]
  have e : b.data.toList.drop i = [] := List.drop_eq_nil_of_le (by simp; omega)
  rw [e]
  cases a.data.toList.drop i <;> simp [Op.bytesLess]
theorem less_cmp {a b : ByteArray} {i : Nat} (h : a.data.toList.take i = b.data.toList.take i) (h1 : i < a.size) (h2 : i < b.size) :
    (((a.data.toList.getD i 0).toNat : Int) < ((b.data.toList.getD i 0).toNat : Int) → Lt a b) ∧ (((b.data.toList.getD i 0).toNat : Int) < ((a.data.toList.getD i 0).toNat : Int) → ¬ Lt a b) ∧
    (((a.data.toList.getD i 0).toNat : Int) = ((b.data.toList.getD i 0).toNat : Int) → a.data.toList.take (i + 1) = b.data.toList.take (i + 1)) := by
  have l1 : i < a.data.toList.length := by simpa using h1
  have l2 : i < b.data.toList.length := by simpa using h2
  rw [less_at h (by omega) (by omega), List.drop_eq_getElem_cons l1, List.drop_eq_getElem_cons l2, List.take_succ_eq_append_getElem l1, List.take_succ_eq_append_getElem l2, h]
  simp only [List.getD_eq_getElem?_getD, List.getElem?_eq_getElem l1, List.getElem?_eq_getElem l2, Option.getD_some, Op.bytesLess]
  generalize a.data.toList[i] = p
  generalize b.data.toList[i] = q
  refine ⟨fun hlt => ?_, fun hlt => ?_, fun he => ?_⟩
  · have : p < q := UInt8.lt_iff_toNat_lt.2 (by omega)
    simp [this]
  · have h3 : ¬ p < q := fun h => by have := UInt8.lt_iff_toNat_lt.1 h; omega
    have h4 : ¬ p = q := fun h => by subst h; omega
    simp [h3, h4]
  · have : p = q := UInt8.toNat_inj.1 (by omega)
    rw [this]

theorem ref_less (w : World) (a b : ByteArray) (ha : a.size ≤ 140737488355328) (hb : b.size ≤ 140737488355328) :
    Ret Tryz.prog 56 [S a, S b] w fun v w' => v = B (decide (Lt a b)) ∧ Ext No w w' := by
  refine calls_of_XC Tryz.func56 rfl rfl ?_
  refine .seq ?_
  refine .region ?_
  refine xo.done 1 [(0, S a), (1, S b)] (by kernel_rfl) rfl (by kernel_rfl) ?_
  refine .seq ?_
  refine .seq ?_
  refine .region ?_
  refine xo.done 3 [(0, S a), (1, S b), (7, I (b.size : Int)), (8, I 0)] (by kernel_rfl) rfl (by kernel_rfl) ?_
  refine .block ?_
  refine XC.loop (ι := Nat) (fun i => [(0, S a), (1, S b), (7, I (b.size : Int)), (8, I (i : Int))]) (fun i u => i ≤ b.size ∧ i ≤ a.size ∧ a.data.toList.take i = b.data.toList.take i ∧ Ext No w u) (fun i => b.size - i) 0 (cov_of (by kernel_rfl)) ⟨by omega, by omega, by simp, (Ext.refl _ _)⟩ ?_
  rintro i w1 ⟨hib, hia, hpre, hE⟩
  have z1 := hE.size
  refine .seq ?_
  refine .region ?_
  by_cases hc2 : ((i : Int) : Int) < (b.size : Int)
  · refine xo.val 0 (by kernel_rfl) (c_lss_t hc2) ?_
    refine xo.done 0 [(0, S a), (1, S b), (7, I (b.size : Int)), (8, I (i : Int)), (9, B true)] (by kernel_rfl) rfl (by kernel_rfl) ?_
    refine .seq ?_
    refine .condT rfl rfl ?_
    refine .skip ?_
    refine .seq ?_
    refine .block ?_
    refine .seq ?_
    refine .region ?_
    refine xo.done 2 [(0, S a), (1, S b), (5, I (i : Int)), (7, I (b.size : Int)), (8, I (i : Int))] (by kernel_rfl) rfl (by kernel_rfl) ?_
    refine .seq ?_
    refine .seq ?_
    refine .regionReads (by kernel_rfl) (by kernel_rfl) ?_
    intro w3 hd4
    have hx4 := Ext.ofDrew (M := No) hd4
    have z3 := hx4.size
    by_cases hc5 : ((i : Int) : Int) < (a.size : Int)
    · refine Go.V.xs.val 3 (by kernel_rfl) (c_geq_t hc5) ?_
      refine Go.V.xs.val 3 (by kernel_rfl) (sidx (kk := .i64) (t := 9) (s := a) (i := (i : Int)) (by kernel_rfl) (by omega) (by omega)) ?_
      refine Go.V.xs.val 2 (by kernel_rfl) (sidx (kk := .i64) (t := 9) (s := b) (i := (i : Int)) (by kernel_rfl) (by omega) (by omega)) ?_
      by_cases hc6 : (((a.data.toList.getD i 0).toNat : Int) : Int) < ((b.data.toList.getD i 0).toNat : Int)
      · refine Go.V.xs.val 0 (by kernel_rfl) (c_lss_t hc6) ?_
        refine Go.V.xs.fin 1 (by kernel_rfl) rfl ?_
        refine .cov [(0, S a), (1, S b), (5, I (i : Int)), (7, I (b.size : Int)), (8, I (i : Int)), (23, B true)] (cov_of (by kernel_rfl)) ?_
        refine .condT rfl rfl ?_
        refine .seq ?_
        refine .region ?_
        refine xo.done 1 [(4, B true)] (by kernel_rfl) rfl (by kernel_rfl) ?_
        refine .ret ?_
        refine ⟨[B true], by kernel_rfl, _, rfl, ?_⟩
        exact ⟨by rw [decide_eq_true ((less_cmp hpre (by omega) (by omega)).1 (by omega))]; rfl, (hE.trans' hx4 (fun _ _ h => h) (fun b hb h => h))⟩
      · refine Go.V.xs.val 0 (by kernel_rfl) (c_lss_f hc6) ?_
        refine Go.V.xs.fin 1 (by kernel_rfl) rfl ?_
        refine .cov [(0, S a), (1, S b), (5, I (i : Int)), (7, I (b.size : Int)), (8, I (i : Int)), (23, B false)] (cov_of (by kernel_rfl)) ?_
        refine .condF rfl rfl ?_
        refine .skip ?_
        refine .seq ?_
        refine .regionReads (by kernel_rfl) (by kernel_rfl) ?_
        intro w7 hd8
        have hx8 := Ext.ofDrew (M := No) hd8
        have z7 := hx8.size
        refine Go.V.xs.val 2 (by kernel_rfl) (sidx (kk := .i64) (t := 9) (s := a) (i := (i : Int)) (by kernel_rfl) (by omega) (by omega)) ?_
        refine Go.V.xs.val 2 (by kernel_rfl) (sidx (kk := .i64) (t := 9) (s := b) (i := (i : Int)) (by kernel_rfl) (by omega) (by omega)) ?_
        by_cases hc9 : (((a.data.toList.getD i 0).toNat : Int) : Int) ≤ ((b.data.toList.getD i 0).toNat : Int)
        · refine Go.V.xs.val 0 (by kernel_rfl) (c_gtr_t hc9) ?_
          refine Go.V.xs.fin 0 (by kernel_rfl) rfl ?_
          refine .cov [(0, S a), (1, S b), (7, I (b.size : Int)), (8, I (i : Int)), (30, B false)] (cov_of (by kernel_rfl)) ?_
          refine .condF rfl rfl ?_
          refine .skip ?_
          refine .region ?_
          refine xo.val 0 (by kernel_rfl) (a_add (a := (i : Int)) (b := 1) (by omega) (by omega)) ?_
          refine xo.fin 1 (by kernel_rfl) rfl ?_
          exact ⟨i + 1, cov_of (by kernel_rfl), ⟨by omega, by omega, (less_cmp hpre (by omega) (by omega)).2.2 (by omega), ((hE.trans' hx4 (fun _ _ h => h) (fun b hb h => h)).trans' hx8 (fun _ _ h => h) (fun b hb h => h))⟩, by show b.size - (i + 1) < b.size - i; omega⟩
        · refine Go.V.xs.val 0 (by kernel_rfl) (c_gtr_f hc9) ?_
          refine Go.V.xs.fin 0 (by kernel_rfl) rfl ?_
          refine .cov [(0, S a), (1, S b), (7, I (b.size : Int)), (8, I (i : Int)), (30, B true)] (cov_of (by kernel_rfl)) ?_
          refine .condT rfl rfl ?_
          refine .seq ?_
          refine .region ?_
          refine xo.done 1 [(4, B false)] (by kernel_rfl) rfl (by kernel_rfl) ?_
          refine .ret ?_
          refine ⟨[B false], by kernel_rfl, _, rfl, ?_⟩
          exact ⟨by rw [decide_eq_false ((less_cmp hpre (by omega) (by omega)).2.1 (by omega))]; rfl, ((hE.trans' hx4 (fun _ _ h => h) (fun b hb h => h)).trans' hx8 (fun _ _ h => h) (fun b hb h => h))⟩
    · refine Go.V.xs.val 3 (by kernel_rfl) (c_geq_f hc5) ?_
      refine Go.V.xs.fin 9 (by kernel_rfl) rfl ?_
      refine .cov [(0, S a), (1, S b), (5, I (i : Int)), (7, I (b.size : Int)), (8, I (i : Int)), (23, B true)] (cov_of (by kernel_rfl)) ?_
      refine .condT rfl rfl ?_
      refine .seq ?_
      refine .region ?_
      refine xo.done 1 [(4, B true)] (by kernel_rfl) rfl (by kernel_rfl) ?_
      refine .ret ?_
      refine ⟨[B true], by kernel_rfl, _, rfl, ?_⟩
      exact ⟨by rw [decide_eq_true (less_end hpre (by omega) (by omega))]; rfl, (hE.trans' hx4 (fun _ _ h => h) (fun b hb h => h))⟩
  · refine xo.val 0 (by kernel_rfl) (c_lss_f hc2) ?_
    refine xo.done 0 [(0, S a), (1, S b), (7, I (b.size : Int)), (8, I (i : Int)), (9, B false)] (by kernel_rfl) rfl (by kernel_rfl) ?_
    refine .seq ?_
    refine .condF rfl rfl ?_
    refine .exit ?_
    refine xsetTo ?_
    refine .seq ?_
    refine .region ?_
    refine xo.done 1 [(4, B false)] (by kernel_rfl) rfl (by kernel_rfl) ?_
    refine .ret ?_
    refine ⟨[B false], by kernel_rfl, _, rfl, ?_⟩
    exact ⟨by rw [decide_eq_false (less_no hpre (by omega) (by omega))]; rfl, hE⟩

theorem take_snoc {α : Type} {l : List α} {i : Nat} {x : α} (h : l[i]? = some x) : l.take (i + 1) = l.take i ++ [x] := by
  obtain ⟨hi, h2⟩ := List.getElem?_eq_some_iff.1 h
  rw [List.take_succ_eq_append_getElem hi, h2]
theorem drop_at {α : Type} {l : List α} {i : Nat} {x : α} (h : l[i]? = some x) : l.drop i = x :: l.drop (i + 1) := by
  obtain ⟨hi, h2⟩ := List.getElem?_eq_some_iff.1 h
  rw [List.drop_eq_getElem_cons hi, h2]
theorem delE_snoc (E : List KV) (e : KV) (key : ByteArray) : delE (E ++ [e]) key = if e.1 = key then delE E key else delE E key ++ [e] := by
  unfold delE
  rw [List.filter_append]
  by_cases h : e.1 = key <;> simp [h]

theorem ref_del (w : World) (A : Option Addr) (cap : Nat) (E : List KV) (lo hi : Nat) (hR : Rd kEntry w lo hi A (E.map entK)) (hhi_ : hi ≤ w.heap.size) (hlen : E.length ≤ 10000) (key : ByteArray) :
    Ret Tryz.prog 39 [.slice A ((E.map entK).length) cap, S key] w fun v w' => ∃ A' c', v = .slice A' ((delE E key).map entK).length c' ∧ Own kEntry w' w.heap.size A' c' ((delE E key).map entK) ∧ Ext No w w' := by
  have hml : (E.map entK).length = E.length := by rw [List.length_map]
  refine calls_of_XC Tryz.func39 rfl rfl ?_
  refine .seq ?_
  refine .region ?_
  refine xo.done 1 [(0, .slice A ((E.map entK).length) cap), (1, S key)] (by kernel_rfl) rfl (by kernel_rfl) ?_
  refine .seq ?_
  refine .region ?_
  refine xo.done 1 [(0, .slice A ((E.map entK).length) cap), (1, S key), (5, .slice none 0 0)] (by kernel_rfl) rfl (by kernel_rfl) ?_
  refine .seq ?_
  refine .seq ?_
  refine .region ?_
  refine xo.done 3 [(1, S key), (5, .slice none 0 0), (8, .slice A ((E.map entK).length) cap), (9, I (((E.map entK).length : Int))), (10, I 0)] (by kernel_rfl) rfl (by kernel_rfl) ?_
  refine .block ?_
  refine XC.loop (ι := Option Addr × Nat × Nat × List Entry) (fun ⟨A_, c_, i, xs⟩ => [(1, S key), (5, .slice A_ xs.length c_), (8, .slice A ((E.map entK).length) cap), (9, I (((E.map entK).length : Int))), (10, I (i : Int))]) (fun ⟨A_, c_, i, xs⟩ u => Own kEntry u w.heap.size A_ c_ xs ∧ i ≤ (E.map entK).length ∧ Ext No w u ∧ xs = (delE (E.take i) key).map entK) (fun ⟨A_, c_, i, xs⟩ => (E.map entK).length - i) (none, 0, 0, []) (cov_of (by kernel_rfl)) ⟨.nil, by omega, (Ext.refl _ _), by simp [delE]⟩ ?_
  rintro ⟨A_, c_, i, xs⟩ w1 ⟨hown, hi_, hE, hxs⟩
  have z1 := hE.size
  have hxl : xs.length ≤ E.length := by rw [hxs, List.length_map]; have := delE_length (E.take i) key; rw [List.length_take] at this; omega
  refine .seq ?_
  refine .region ?_
  by_cases hc2 : ((i : Int) : Int) < ((E.map entK).length : Int)
  · refine xo.val 0 (by kernel_rfl) (c_lss_t hc2) ?_
    refine xo.done 0 [(1, S key), (5, .slice A_ xs.length c_), (8, .slice A ((E.map entK).length) cap), (9, I (((E.map entK).length : Int))), (10, I (i : Int)), (11, B true)] (by kernel_rfl) rfl (by kernel_rfl) ?_
    refine .seq ?_
    refine .condT rfl rfl ?_
    refine .skip ?_
    refine .seq ?_
    refine .block ?_
    refine .seq ?_
    refine .region ?_
    have hs3 := (hR.ext hE (fun _ _ _ h => h))
    obtain ⟨b4, o5, x6, hi7, hA8, hl9, hh10, hr11⟩ := hs3.at_ i (by omega)
    refine xo.val 0 (by kernel_rfl) (idxN (kk := .i64) (t := 36) (n := (E.map entK).length) (cap := cap) (sz := 2) (i := i) (by kernel_rfl) hA8 (by omega)) ?_
    obtain ⟨e12, he13, hxe⟩ : ∃ e, E[i]? = some e ∧ entK e = x6 := by
      rw [List.getElem?_map, Option.map_eq_some_iff] at hi7
      exact hi7
    subst hxe
    have hie : i < E.length := (List.getElem?_eq_some_iff.1 he13).1
    refine xo.val 0 (by kernel_rfl) (ldA (t := 38) (by kernel_rfl) hr11) ?_
    refine xo.alloc 0 38 [S (⟨#[]⟩), S (⟨#[]⟩)] (by kernel_rfl) (by kernel_rfl) ?_
    intro b14 w15 hb16 hx17 hg18
    have z15 := hx17.size
    have l16 := hb16.lt
    refine xo.store 0 38 (o := 0) (.agg #[S e12.1, S e12.2]) [S e12.1, S e12.2] (by kernel_rfl) hb16 (by kernel_rfl) (by kernel_rfl) (by kernel_rfl) (by kernel_rfl) ?_
    intro w19 hb20 hx21
    have z19 := hx21.size
    refine xo.done 0 [(1, S key), (5, .slice A_ xs.length c_), (7, Pt b14 0), (8, .slice A ((E.map entK).length) cap), (9, I (((E.map entK).length : Int))), (10, I (i : Int))] (by kernel_rfl) rfl (by kernel_rfl) ?_
    refine .seq ?_
    refine .region ?_
    refine xo.val 1 (by kernel_rfl) (ldB (t := 9) (o := 0) (by kernel_rfl) hb20 rfl) ?_
    by_cases hc22 : e12.1 = key
    · refine xo.val 1 (by kernel_rfl) (s_neq_t hc22) ?_
      refine xo.done 0 [(1, S key), (5, .slice A_ xs.length c_), (7, Pt b14 0), (8, .slice A ((E.map entK).length) cap), (9, I (((E.map entK).length : Int))), (10, I (i : Int)), (17, B false)] (by kernel_rfl) rfl (by kernel_rfl) ?_
      refine .condF rfl rfl ?_
      refine .skip ?_
      refine .region ?_
      refine xo.val 0 (by kernel_rfl) (a_add (a := (i : Int)) (b := 1) (by omega) (by omega)) ?_
      refine xo.fin 1 (by kernel_rfl) rfl ?_
      have hs23 := ((hown.ext hx17 (fun _ _ h => h)).ext hx21 (fun b hb (e : b = b14) => by have := (hown.lt hb).2; omega))
      refine ⟨(A_, c_, i + 1, xs), cov_of (by kernel_rfl), ⟨hs23, by rw [List.length_map]; omega, (((hE.weak fun b hb h => h.elim).trans' hx17 (fun _ _ h => h) (fun b hb h => h.elim)).trans' hx21 (fun _ _ h => h) (fun b hb (q : b = b14) => absurd hb (by omega))), ?_⟩, by show (E.map entK).length - (i + 1) < (E.map entK).length - i; rw [List.length_map]; omega⟩
      rw [take_snoc he13, delE_snoc, if_pos hc22]; exact hxs
    · refine xo.val 1 (by kernel_rfl) (s_neq_f hc22) ?_
      refine xo.done 0 [(1, S key), (5, .slice A_ xs.length c_), (7, Pt b14 0), (8, .slice A ((E.map entK).length) cap), (9, I (((E.map entK).length : Int))), (10, I (i : Int)), (17, B true)] (by kernel_rfl) rfl (by kernel_rfl) ?_
      refine .condT rfl rfl ?_
      refine .region ?_
      refine xo.val 1 (by kernel_rfl) (ldBA (t := 38) (o := 0) (vs := [S e12.1, S e12.2]) (by kernel_rfl) hb20 rfl) ?_
      refine xo.bsl 0 36 1 #[(0, .agg #[S e12.1, S e12.2])] (et := 38) (cs := [S e12.1, S e12.2]) (by kernel_rfl) (by kernel_rfl) ?_
      intro b24 w25 hb26 hx27 hg28
      have z25 := hx27.size
      have l26 := hb26.lt
      have hs29 := (((hown.ext hx17 (fun _ _ h => h)).ext hx21 (fun b hb (e : b = b14) => by have := (hown.lt hb).2; omega)).ext hx27 (fun _ _ h => h))
      refine xo.app 0 (ty := 36) (k := kEntry) (t := 36) (tx := 36) (xs := xs) (ys := [(⟨e12.1, e12.2⟩ : Entry)]) (x := .slice (some ⟨b24, 0, none⟩) 1 1) (by exact pEntry) hs29 (src_one (k := kEntry) (x := (⟨e12.1, e12.2⟩ : Entry)) (by kernel_rfl) hb26 rfl) (by omega) (show (xs.length + 1) * 32 ≤ 140737488355328 from (by first | omega | (simp only [List.length_append, List.length_cons, List.length_nil]; omega))) (show xs.length + 1 ≤ 9223372036854775807 from (by first | omega | (simp only [List.length_append, List.length_cons, List.length_nil]; omega))) (by kernel_rfl) ?_
      intro A30 c31 w32 ho33 hx34
      have z32 := hx34.size
      refine xo.done 1 [(1, S key), (5, .slice A30 ((xs ++ [(⟨e12.1, e12.2⟩ : Entry)]).length) c31), (8, .slice A ((E.map entK).length) cap), (9, I (((E.map entK).length : Int))), (10, I (i : Int))] (by kernel_rfl) rfl (by kernel_rfl) ?_
      refine .region ?_
      refine xo.val 0 (by kernel_rfl) (a_add (a := (i : Int)) (b := 1) (by omega) (by omega)) ?_
      refine xo.fin 1 (by kernel_rfl) rfl ?_
      refine ⟨(A30, c31, i + 1, xs ++ [(⟨e12.1, e12.2⟩ : Entry)]), cov_of (by kernel_rfl), ⟨ho33, by rw [List.length_map]; omega, (((((hE.weak fun b hb h => h.elim).trans' hx17 (fun _ _ h => h) (fun b hb h => h.elim)).trans' hx21 (fun _ _ h => h) (fun b hb (q : b = b14) => absurd hb (by omega))).trans' hx27 (fun _ _ h => h) (fun b hb h => h.elim)).trans' hx34 (fun _ _ h => h) (fun b hb hm => absurd (hs29.lt hm).1 (by omega))), ?_⟩, by show (E.map entK).length - (i + 1) < (E.map entK).length - i; rw [List.length_map]; omega⟩
      rw [take_snoc he13, delE_snoc, if_neg hc22, List.map_append, ← hxs]; rfl
  · refine xo.val 0 (by kernel_rfl) (c_lss_f hc2) ?_
    refine xo.done 0 [(1, S key), (5, .slice A_ xs.length c_), (8, .slice A ((E.map entK).length) cap), (9, I (((E.map entK).length : Int))), (10, I (i : Int)), (11, B false)] (by kernel_rfl) rfl (by kernel_rfl) ?_
    refine .seq ?_
    refine .condF rfl rfl ?_
    refine .exit ?_
    refine xsetTo ?_
    refine .seq ?_
    refine .region ?_
    refine xo.done 2 [(4, .slice A_ xs.length c_)] (by kernel_rfl) rfl (by kernel_rfl) ?_
    refine .ret ?_
    refine ⟨[.slice A_ xs.length c_], by kernel_rfl, _, rfl, ?_⟩
    have hi9 : i = E.length := by rw [List.length_map] at *; omega
    rw [hi9, List.take_length] at hxs
    subst hxs
    exact ⟨_, _, rfl, hown, (hE.weak fun b hb h => h.elim)⟩

theorem putE_below {A : List KV} {key val : ByteArray} (h : ∀ e ∈ A, Lt e.1 key) : putE A key val = A ++ [(key, val)] := by
  have := putE_mid (A := A) (B := []) (C := []) (key := key) (val := val) h (by simp)
  rw [List.append_nil, List.append_nil, List.append_nil] at this
  rw [this]; rfl
theorem putE_above {A : List KV} {e : KV} {key val : ByteArray} (h : Lt key e.1) : putE (A ++ [e]) key val = putE A key val ++ [e] := by
  unfold putE
  have h2 := h.asymm
  simp [List.filter_append, h, h2]
theorem putE_meet {A : List KV} {e : KV} {key val : ByteArray} (hA : ∀ e ∈ A, Lt e.1 key) (h : e.1 = key) : putE (A ++ [e]) key val = A ++ [(key, val)] := by
  rw [show A ++ [e] = A ++ [e] ++ [] by simp, putE_mid hA (by simp)]
  have : putE [e] key val = [(key, val)] := by unfold putE; simp [h, Lt.irrefl]
  rw [this]; simp
/-- Ahead of the key, or behind it. -/
def PutI (E : List KV) (key val : ByteArray) (i : Nat) (d : Bool) (xs : List Entry) : Prop :=
  (d = false ∧ (∀ e ∈ E.take i, Lt e.1 key) ∧ xs = (E.take i).map entK) ∨ (d = true ∧ (∀ e ∈ E.drop i, Lt key e.1) ∧ xs = (putE (E.take i) key val).map entK)
theorem sorted_behind {E : List KV} (h : SortedE E) {i : Nat} {e : KV} (he : E[i]? = some e) : ∀ f ∈ E.drop (i + 1), Lt e.1 f.1 := fun f hf => by
  obtain ⟨j, hj⟩ := List.mem_iff_getElem?.1 hf
  rw [List.getElem?_drop] at hj
  obtain ⟨h1, e1⟩ := List.getElem?_eq_some_iff.1 he
  obtain ⟨h2, e2⟩ := List.getElem?_eq_some_iff.1 hj
  have := List.pairwise_iff_getElem.1 h i (i + 1 + j) h1 h2 (by omega)
  rw [e1, e2] at this
  exact this

theorem mv_ok {P : Program} {w : World} {v : Value} : (Sem.pure (.value v) : Sem Next).run P w = .ok (.value v) w := rfl

theorem ref_put (w : World) (A : Option Addr) (cap : Nat) (E : List KV) (lo hi : Nat) (hR : Rd kEntry w lo hi A (E.map entK)) (hhi_ : hi ≤ w.heap.size) (hlen : E.length ≤ 10000) (key val : ByteArray) (hE_ : SortedE E) (hks : key.size ≤ 140737488355328) (hes : ∀ e ∈ E, e.1.size ≤ 140737488355328) :
    Ret Tryz.prog 40 [.slice A ((E.map entK).length) cap, S key, S val] w fun v w' => ∃ A' c', v = .slice A' ((putE E key val).map entK).length c' ∧ Own kEntry w' w.heap.size A' c' ((putE E key val).map entK) ∧ Ext No w w' := by
  have hml : (E.map entK).length = E.length := by rw [List.length_map]
  refine calls_of_XC Tryz.func40 rfl rfl ?_
  refine .seq ?_
  refine .region ?_
  refine xo.done 1 [(0, .slice A ((E.map entK).length) cap), (1, S key), (2, S val)] (by kernel_rfl) rfl (by kernel_rfl) ?_
  refine .seq ?_
  refine .region ?_
  refine xo.done 1 [(0, .slice A ((E.map entK).length) cap), (1, S key), (2, S val), (7, .slice none 0 0)] (by kernel_rfl) rfl (by kernel_rfl) ?_
  refine .seq ?_
  refine .region ?_
  refine xo.done 1 [(0, .slice A ((E.map entK).length) cap), (1, S key), (2, S val), (7, .slice none 0 0), (8, B false)] (by kernel_rfl) rfl (by kernel_rfl) ?_
  refine .seq ?_
  refine .seq ?_
  refine .region ?_
  refine xo.done 3 [(1, S key), (2, S val), (7, .slice none 0 0), (8, B false), (11, .slice A ((E.map entK).length) cap), (12, I (((E.map entK).length : Int))), (13, I 0)] (by kernel_rfl) rfl (by kernel_rfl) ?_
  refine .block ?_
  refine XC.loop (ι := Option Addr × Nat × Nat × List Entry × Bool) (fun ⟨A_, c_, i, xs, d⟩ => [(1, S key), (2, S val), (7, .slice A_ xs.length c_), (8, B d), (11, .slice A ((E.map entK).length) cap), (12, I (((E.map entK).length : Int))), (13, I (i : Int))]) (fun ⟨A_, c_, i, xs, d⟩ u => Own kEntry u w.heap.size A_ c_ xs ∧ i ≤ (E.map entK).length ∧ Ext No w u ∧ PutI E key val i d xs) (fun ⟨A_, c_, i, xs, d⟩ => (E.map entK).length - i) (none, 0, 0, [], false) (cov_of (by kernel_rfl)) ⟨.nil, by omega, (Ext.refl _ _), .inl ⟨rfl, by simp, by simp⟩⟩ ?_
  rintro ⟨A_, c_, i, xs, d⟩ w1 ⟨hown, hi_, hE, hxs⟩
  have z1 := hE.size
  have hxl : xs.length ≤ E.length + 1 := by
    rcases hxs with ⟨_, _, h⟩ | ⟨_, _, h⟩
    · rw [h, List.length_map, List.length_take]; omega
    · rw [h, List.length_map]; have := putE_length (E.take i) key val; rw [List.length_take] at this; omega
  refine .seq ?_
  refine .region ?_
  by_cases hc2 : ((i : Int) : Int) < ((E.map entK).length : Int)
  · refine xo.val 0 (by kernel_rfl) (c_lss_t hc2) ?_
    refine xo.done 0 [(1, S key), (2, S val), (7, .slice A_ xs.length c_), (8, B d), (11, .slice A ((E.map entK).length) cap), (12, I (((E.map entK).length : Int))), (13, I (i : Int)), (14, B true)] (by kernel_rfl) rfl (by kernel_rfl) ?_
    refine .seq ?_
    refine .condT rfl rfl ?_
    refine .skip ?_
    refine .seq ?_
    refine .block ?_
    refine .seq ?_
    refine .region ?_
    have hs3 := (hR.ext hE (fun _ _ _ h => h))
    obtain ⟨b4, o5, x6, hi7, hA8, hl9, hh10, hr11⟩ := hs3.at_ i (by omega)
    refine xo.val 0 (by kernel_rfl) (idxN (kk := .i64) (t := 36) (n := (E.map entK).length) (cap := cap) (sz := 2) (i := i) (by kernel_rfl) hA8 (by omega)) ?_
    obtain ⟨e12, he13, hxe⟩ : ∃ e, E[i]? = some e ∧ entK e = x6 := by
      rw [List.getElem?_map, Option.map_eq_some_iff] at hi7
      exact hi7
    subst hxe
    have hie : i < E.length := (List.getElem?_eq_some_iff.1 he13).1
    have hsz := hes e12 (List.mem_of_getElem? he13)
    refine xo.val 0 (by kernel_rfl) (ldA (t := 38) (by kernel_rfl) hr11) ?_
    refine xo.alloc 0 38 [S (⟨#[]⟩), S (⟨#[]⟩)] (by kernel_rfl) (by kernel_rfl) ?_
    intro b14 w15 hb16 hx17 hg18
    have z15 := hx17.size
    have l16 := hb16.lt
    refine xo.store 0 38 (o := 0) (.agg #[S e12.1, S e12.2]) [S e12.1, S e12.2] (by kernel_rfl) hb16 (by kernel_rfl) (by kernel_rfl) (by kernel_rfl) (by kernel_rfl) ?_
    intro w19 hb20 hx21
    have z19 := hx21.size
    refine xo.done 0 [(1, S key), (2, S val), (7, .slice A_ xs.length c_), (8, B d), (10, Pt b14 0), (11, .slice A ((E.map entK).length) cap), (12, I (((E.map entK).length : Int))), (13, I (i : Int))] (by kernel_rfl) rfl (by kernel_rfl) ?_
    refine .seq ?_
    refine .seq ?_
    refine .region ?_
    rcases hxs with ⟨hd, hI1, hI2⟩ | ⟨hd, hI1, hI2⟩
    · subst hd
      refine xo.val 0 (by kernel_rfl) (mv_ok (v := B false)) ?_
      refine xo.val 3 (by kernel_rfl) (ldB (t := 9) (o := 0) (by kernel_rfl) hb20 rfl) ?_
      by_cases hl22 : Lt e12.1 key
      · refine xo.ret 1 (by kernel_rfl) (cf56 _ _) ((ref_less _ e12.1 key (by omega) (by omega)).mono (Q' := fun v w' => v = B true ∧ Ext No _ w') fun v w' q => ⟨by rw [q.1, decide_eq_true hl22], q.2⟩) ?_
        rintro _ w23 ⟨rfl, hx24⟩
        have z23 := hx24.size
        refine xo.done 2 [(1, S key), (2, S val), (7, .slice A_ xs.length c_), (8, B false), (10, Pt b14 0), (11, .slice A ((E.map entK).length) cap), (12, I (((E.map entK).length : Int))), (13, I (i : Int)), (25, B false)] (by kernel_rfl) rfl (by kernel_rfl) ?_
        refine .condF rfl rfl ?_
        refine .skip ?_
        refine .seq ?_
        refine .region ?_
        have hb25 := (hb20.ext hx24 (fun h => h))
        refine xo.val 1 (by kernel_rfl) (ldB (t := 9) (o := 0) (by kernel_rfl) hb25 rfl) ?_
        by_cases hc26 : e12.1 = key
        · refine xo.val 1 (by kernel_rfl) (s_neq_t hc26) ?_
          refine xo.done 0 [(1, S key), (2, S val), (7, .slice A_ xs.length c_), (8, B false), (10, Pt b14 0), (11, .slice A ((E.map entK).length) cap), (12, I (((E.map entK).length : Int))), (13, I (i : Int)), (35, B false)] (by kernel_rfl) rfl (by kernel_rfl) ?_
          refine .condF rfl rfl ?_
          refine .skip ?_
          refine .region ?_
          refine xo.val 0 (by kernel_rfl) (a_add (a := (i : Int)) (b := 1) (by omega) (by omega)) ?_
          refine xo.fin 1 (by kernel_rfl) rfl ?_
          have hs27 := (((hown.ext hx17 (fun _ _ h => h)).ext hx21 (fun b hb (e : b = b14) => by have := (hown.lt hb).2; omega)).ext hx24 (fun _ _ h => h))
          refine ⟨(A_, c_, i + 1, xs, false), cov_of (by kernel_rfl), ⟨hs27, by rw [List.length_map]; omega, ((((hE.weak fun b hb h => h.elim).trans' hx17 (fun _ _ h => h) (fun b hb h => h.elim)).trans' hx21 (fun _ _ h => h) (fun b hb (q : b = b14) => absurd hb (by omega))).trans' hx24 (fun _ _ h => h) (fun b hb h => h.elim)), ?_⟩, by show (E.map entK).length - (i + 1) < (E.map entK).length - i; rw [List.length_map]; omega⟩
          exact absurd hc26 (Lt.ne hl22)
        · refine xo.val 1 (by kernel_rfl) (s_neq_f hc26) ?_
          refine xo.done 0 [(1, S key), (2, S val), (7, .slice A_ xs.length c_), (8, B false), (10, Pt b14 0), (11, .slice A ((E.map entK).length) cap), (12, I (((E.map entK).length : Int))), (13, I (i : Int)), (35, B true)] (by kernel_rfl) rfl (by kernel_rfl) ?_
          refine .condT rfl rfl ?_
          refine .region ?_
          refine xo.val 1 (by kernel_rfl) (ldBA (t := 38) (o := 0) (vs := [S e12.1, S e12.2]) (by kernel_rfl) hb25 rfl) ?_
          refine xo.bsl 0 36 1 #[(0, .agg #[S e12.1, S e12.2])] (et := 38) (cs := [S e12.1, S e12.2]) (by kernel_rfl) (by kernel_rfl) ?_
          intro b28 w29 hb30 hx31 hg32
          have z29 := hx31.size
          have l30 := hb30.lt
          have hs33 := ((((hown.ext hx17 (fun _ _ h => h)).ext hx21 (fun b hb (e : b = b14) => by have := (hown.lt hb).2; omega)).ext hx24 (fun _ _ h => h)).ext hx31 (fun _ _ h => h))
          refine xo.app 0 (ty := 36) (k := kEntry) (t := 36) (tx := 36) (xs := xs) (ys := [(⟨e12.1, e12.2⟩ : Entry)]) (x := .slice (some ⟨b28, 0, none⟩) 1 1) (by exact pEntry) hs33 (src_one (k := kEntry) (x := (⟨e12.1, e12.2⟩ : Entry)) (by kernel_rfl) hb30 rfl) (by omega) (show (xs.length + 1) * 32 ≤ 140737488355328 from (by first | omega | (simp only [List.length_append, List.length_cons, List.length_nil]; omega))) (show xs.length + 1 ≤ 9223372036854775807 from (by first | omega | (simp only [List.length_append, List.length_cons, List.length_nil]; omega))) (by kernel_rfl) ?_
          intro A34 c35 w36 ho37 hx38
          have z36 := hx38.size
          refine xo.done 1 [(1, S key), (2, S val), (7, .slice A34 ((xs ++ [(⟨e12.1, e12.2⟩ : Entry)]).length) c35), (8, B false), (11, .slice A ((E.map entK).length) cap), (12, I (((E.map entK).length : Int))), (13, I (i : Int))] (by kernel_rfl) rfl (by kernel_rfl) ?_
          refine .region ?_
          refine xo.val 0 (by kernel_rfl) (a_add (a := (i : Int)) (b := 1) (by omega) (by omega)) ?_
          refine xo.fin 1 (by kernel_rfl) rfl ?_
          refine ⟨(A34, c35, i + 1, xs ++ [(⟨e12.1, e12.2⟩ : Entry)], false), cov_of (by kernel_rfl), ⟨ho37, by rw [List.length_map]; omega, ((((((hE.weak fun b hb h => h.elim).trans' hx17 (fun _ _ h => h) (fun b hb h => h.elim)).trans' hx21 (fun _ _ h => h) (fun b hb (q : b = b14) => absurd hb (by omega))).trans' hx24 (fun _ _ h => h) (fun b hb h => h.elim)).trans' hx31 (fun _ _ h => h) (fun b hb h => h.elim)).trans' hx38 (fun _ _ h => h) (fun b hb hm => absurd (hs33.lt hm).1 (by omega))), ?_⟩, by show (E.map entK).length - (i + 1) < (E.map entK).length - i; rw [List.length_map]; omega⟩
          refine .inl ⟨rfl, fun f hf => ?_, ?_⟩
          · rw [take_snoc he13] at hf
            rcases List.mem_append.1 hf with hf | hf
            · exact hI1 f hf
            · rw [List.mem_singleton.1 hf]; exact hl22
          · rw [take_snoc he13, List.map_append, ← hI2]; rfl
      · refine xo.ret 1 (by kernel_rfl) (cf56 _ _) ((ref_less _ e12.1 key (by omega) (by omega)).mono (Q' := fun v w' => v = B false ∧ Ext No _ w') fun v w' q => ⟨by rw [q.1, decide_eq_false hl22], q.2⟩) ?_
        rintro _ w39 ⟨rfl, hx40⟩
        have z39 := hx40.size
        refine xo.done 2 [(1, S key), (2, S val), (7, .slice A_ xs.length c_), (8, B false), (10, Pt b14 0), (11, .slice A ((E.map entK).length) cap), (12, I (((E.map entK).length : Int))), (13, I (i : Int)), (25, B true)] (by kernel_rfl) rfl (by kernel_rfl) ?_
        refine .condT rfl rfl ?_
        refine .seq ?_
        refine .region ?_
        refine xo.bsl 4 36 1 #[(0, .agg #[S key, S val])] (et := 38) (cs := [S key, S val]) (by kernel_rfl) (by kernel_rfl) ?_
        intro b41 w42 hb43 hx44 hg45
        have z42 := hx44.size
        have l43 := hb43.lt
        have hs46 := ((((hown.ext hx17 (fun _ _ h => h)).ext hx21 (fun b hb (e : b = b14) => by have := (hown.lt hb).2; omega)).ext hx40 (fun _ _ h => h)).ext hx44 (fun _ _ h => h))
        refine xo.app 0 (ty := 36) (k := kEntry) (t := 36) (tx := 36) (xs := xs) (ys := [(⟨key, val⟩ : Entry)]) (x := .slice (some ⟨b41, 0, none⟩) 1 1) (by exact pEntry) hs46 (src_one (k := kEntry) (x := (⟨key, val⟩ : Entry)) (by kernel_rfl) hb43 rfl) (by omega) (show (xs.length + 1) * 32 ≤ 140737488355328 from (by first | omega | (simp only [List.length_append, List.length_cons, List.length_nil]; omega))) (show xs.length + 1 ≤ 9223372036854775807 from (by first | omega | (simp only [List.length_append, List.length_cons, List.length_nil]; omega))) (by kernel_rfl) ?_
        intro A47 c48 w49 ho50 hx51
        have z49 := hx51.size
        refine xo.done 1 [(1, S key), (2, S val), (7, .slice A47 ((xs ++ [(⟨key, val⟩ : Entry)]).length) c48), (10, Pt b14 0), (11, .slice A ((E.map entK).length) cap), (12, I (((E.map entK).length : Int))), (13, I (i : Int))] (by kernel_rfl) rfl (by kernel_rfl) ?_
        refine .region ?_
        refine xo.done 1 [(1, S key), (2, S val), (7, .slice A47 ((xs ++ [(⟨key, val⟩ : Entry)]).length) c48), (8, B true), (10, Pt b14 0), (11, .slice A ((E.map entK).length) cap), (12, I (((E.map entK).length : Int))), (13, I (i : Int))] (by kernel_rfl) rfl (by kernel_rfl) ?_
        refine .seq ?_
        refine .region ?_
        have hb52 := (((hb20.ext hx40 (fun h => h)).ext hx44 (fun h => h)).ext hx51 (fun hm => absurd (hown.lt hm).2 (by omega)))
        refine xo.val 1 (by kernel_rfl) (ldB (t := 9) (o := 0) (by kernel_rfl) hb52 rfl) ?_
        by_cases hc53 : e12.1 = key
        · refine xo.val 1 (by kernel_rfl) (s_neq_t hc53) ?_
          refine xo.done 0 [(1, S key), (2, S val), (7, .slice A47 ((xs ++ [(⟨key, val⟩ : Entry)]).length) c48), (8, B true), (10, Pt b14 0), (11, .slice A ((E.map entK).length) cap), (12, I (((E.map entK).length : Int))), (13, I (i : Int)), (35, B false)] (by kernel_rfl) rfl (by kernel_rfl) ?_
          refine .condF rfl rfl ?_
          refine .skip ?_
          refine .region ?_
          refine xo.val 0 (by kernel_rfl) (a_add (a := (i : Int)) (b := 1) (by omega) (by omega)) ?_
          refine xo.fin 1 (by kernel_rfl) rfl ?_
          refine ⟨(A47, c48, i + 1, xs ++ [(⟨key, val⟩ : Entry)], true), cov_of (by kernel_rfl), ⟨ho50, by rw [List.length_map]; omega, ((((((hE.weak fun b hb h => h.elim).trans' hx17 (fun _ _ h => h) (fun b hb h => h.elim)).trans' hx21 (fun _ _ h => h) (fun b hb (q : b = b14) => absurd hb (by omega))).trans' hx40 (fun _ _ h => h) (fun b hb h => h.elim)).trans' hx44 (fun _ _ h => h) (fun b hb h => h.elim)).trans' hx51 (fun _ _ h => h) (fun b hb hm => absurd (hs46.lt hm).1 (by omega))), ?_⟩, by show (E.map entK).length - (i + 1) < (E.map entK).length - i; rw [List.length_map]; omega⟩
          refine .inr ⟨rfl, fun f hf => by rw [← hc53]; exact sorted_behind hE_ he13 f hf, ?_⟩
          rw [take_snoc he13, putE_meet hI1 hc53, List.map_append, ← hI2]; rfl
        · refine xo.val 1 (by kernel_rfl) (s_neq_f hc53) ?_
          refine xo.done 0 [(1, S key), (2, S val), (7, .slice A47 ((xs ++ [(⟨key, val⟩ : Entry)]).length) c48), (8, B true), (10, Pt b14 0), (11, .slice A ((E.map entK).length) cap), (12, I (((E.map entK).length : Int))), (13, I (i : Int)), (35, B true)] (by kernel_rfl) rfl (by kernel_rfl) ?_
          refine .condT rfl rfl ?_
          refine .region ?_
          refine xo.val 1 (by kernel_rfl) (ldBA (t := 38) (o := 0) (vs := [S e12.1, S e12.2]) (by kernel_rfl) hb52 rfl) ?_
          refine xo.bsl 0 36 1 #[(0, .agg #[S e12.1, S e12.2])] (et := 38) (cs := [S e12.1, S e12.2]) (by kernel_rfl) (by kernel_rfl) ?_
          intro b54 w55 hb56 hx57 hg58
          have z55 := hx57.size
          have l56 := hb56.lt
          have hs59 := (ho50.ext hx57 (fun _ _ h => h))
          refine xo.app 0 (ty := 36) (k := kEntry) (t := 36) (tx := 36) (xs := xs ++ [(⟨key, val⟩ : Entry)]) (ys := [(⟨e12.1, e12.2⟩ : Entry)]) (x := .slice (some ⟨b54, 0, none⟩) 1 1) (by exact pEntry) hs59 (src_one (k := kEntry) (x := (⟨e12.1, e12.2⟩ : Entry)) (by kernel_rfl) hb56 rfl) (by omega) (show ((xs ++ [(⟨key, val⟩ : Entry)]).length + 1) * 32 ≤ 140737488355328 from (by first | omega | (simp only [List.length_append, List.length_cons, List.length_nil]; omega))) (show (xs ++ [(⟨key, val⟩ : Entry)]).length + 1 ≤ 9223372036854775807 from (by first | omega | (simp only [List.length_append, List.length_cons, List.length_nil]; omega))) (by kernel_rfl) ?_
          intro A60 c61 w62 ho63 hx64
          have z62 := hx64.size
          refine xo.done 1 [(1, S key), (2, S val), (7, .slice A60 ((xs ++ [(⟨key, val⟩ : Entry)] ++ [(⟨e12.1, e12.2⟩ : Entry)]).length) c61), (8, B true), (11, .slice A ((E.map entK).length) cap), (12, I (((E.map entK).length : Int))), (13, I (i : Int))] (by kernel_rfl) rfl (by kernel_rfl) ?_
          refine .region ?_
          refine xo.val 0 (by kernel_rfl) (a_add (a := (i : Int)) (b := 1) (by omega) (by omega)) ?_
          refine xo.fin 1 (by kernel_rfl) rfl ?_
          refine ⟨(A60, c61, i + 1, xs ++ [(⟨key, val⟩ : Entry)] ++ [(⟨e12.1, e12.2⟩ : Entry)], true), cov_of (by kernel_rfl), ⟨ho63, by rw [List.length_map]; omega, ((((((((hE.weak fun b hb h => h.elim).trans' hx17 (fun _ _ h => h) (fun b hb h => h.elim)).trans' hx21 (fun _ _ h => h) (fun b hb (q : b = b14) => absurd hb (by omega))).trans' hx40 (fun _ _ h => h) (fun b hb h => h.elim)).trans' hx44 (fun _ _ h => h) (fun b hb h => h.elim)).trans' hx51 (fun _ _ h => h) (fun b hb hm => absurd (hs46.lt hm).1 (by omega))).trans' hx57 (fun _ _ h => h) (fun b hb h => h.elim)).trans' hx64 (fun _ _ h => h) (fun b hb hm => absurd (hs59.lt hm).1 (by omega))), ?_⟩, by show (E.map entK).length - (i + 1) < (E.map entK).length - i; rw [List.length_map]; omega⟩
          have hlt : Lt key e12.1 := (Lt.total hl22).resolve_right hc53
          refine .inr ⟨rfl, fun f hf => hlt.trans (sorted_behind hE_ he13 f hf), ?_⟩
          rw [take_snoc he13, putE_above hlt, putE_below hI1, List.map_append, List.map_append, ← hI2]; rfl
    · subst hd
      refine xo.val 0 (by kernel_rfl) (mv_ok (v := B true)) ?_
      refine xo.done 8 [(1, S key), (2, S val), (7, .slice A_ xs.length c_), (8, B true), (10, Pt b14 0), (11, .slice A ((E.map entK).length) cap), (12, I (((E.map entK).length : Int))), (13, I (i : Int)), (25, B false)] (by kernel_rfl) rfl (by kernel_rfl) ?_
      refine .condF rfl rfl ?_
      refine .skip ?_
      refine .seq ?_
      refine .region ?_
      refine xo.val 1 (by kernel_rfl) (ldB (t := 9) (o := 0) (by kernel_rfl) hb20 rfl) ?_
      by_cases hc65 : e12.1 = key
      · refine xo.val 1 (by kernel_rfl) (s_neq_t hc65) ?_
        refine xo.done 0 [(1, S key), (2, S val), (7, .slice A_ xs.length c_), (8, B true), (10, Pt b14 0), (11, .slice A ((E.map entK).length) cap), (12, I (((E.map entK).length : Int))), (13, I (i : Int)), (35, B false)] (by kernel_rfl) rfl (by kernel_rfl) ?_
        refine .condF rfl rfl ?_
        refine .skip ?_
        refine .region ?_
        refine xo.val 0 (by kernel_rfl) (a_add (a := (i : Int)) (b := 1) (by omega) (by omega)) ?_
        refine xo.fin 1 (by kernel_rfl) rfl ?_
        have hs66 := ((hown.ext hx17 (fun _ _ h => h)).ext hx21 (fun b hb (e : b = b14) => by have := (hown.lt hb).2; omega))
        refine ⟨(A_, c_, i + 1, xs, true), cov_of (by kernel_rfl), ⟨hs66, by rw [List.length_map]; omega, (((hE.weak fun b hb h => h.elim).trans' hx17 (fun _ _ h => h) (fun b hb h => h.elim)).trans' hx21 (fun _ _ h => h) (fun b hb (q : b = b14) => absurd hb (by omega))), ?_⟩, by show (E.map entK).length - (i + 1) < (E.map entK).length - i; rw [List.length_map]; omega⟩
        exact absurd hc65 (Lt.ne (hI1 _ (by rw [drop_at he13]; simp))).symm
      · refine xo.val 1 (by kernel_rfl) (s_neq_f hc65) ?_
        refine xo.done 0 [(1, S key), (2, S val), (7, .slice A_ xs.length c_), (8, B true), (10, Pt b14 0), (11, .slice A ((E.map entK).length) cap), (12, I (((E.map entK).length : Int))), (13, I (i : Int)), (35, B true)] (by kernel_rfl) rfl (by kernel_rfl) ?_
        refine .condT rfl rfl ?_
        refine .region ?_
        refine xo.val 1 (by kernel_rfl) (ldBA (t := 38) (o := 0) (vs := [S e12.1, S e12.2]) (by kernel_rfl) hb20 rfl) ?_
        refine xo.bsl 0 36 1 #[(0, .agg #[S e12.1, S e12.2])] (et := 38) (cs := [S e12.1, S e12.2]) (by kernel_rfl) (by kernel_rfl) ?_
        intro b67 w68 hb69 hx70 hg71
        have z68 := hx70.size
        have l69 := hb69.lt
        have hs72 := (((hown.ext hx17 (fun _ _ h => h)).ext hx21 (fun b hb (e : b = b14) => by have := (hown.lt hb).2; omega)).ext hx70 (fun _ _ h => h))
        refine xo.app 0 (ty := 36) (k := kEntry) (t := 36) (tx := 36) (xs := xs) (ys := [(⟨e12.1, e12.2⟩ : Entry)]) (x := .slice (some ⟨b67, 0, none⟩) 1 1) (by exact pEntry) hs72 (src_one (k := kEntry) (x := (⟨e12.1, e12.2⟩ : Entry)) (by kernel_rfl) hb69 rfl) (by omega) (show (xs.length + 1) * 32 ≤ 140737488355328 from (by first | omega | (simp only [List.length_append, List.length_cons, List.length_nil]; omega))) (show xs.length + 1 ≤ 9223372036854775807 from (by first | omega | (simp only [List.length_append, List.length_cons, List.length_nil]; omega))) (by kernel_rfl) ?_
        intro A73 c74 w75 ho76 hx77
        have z75 := hx77.size
        refine xo.done 1 [(1, S key), (2, S val), (7, .slice A73 ((xs ++ [(⟨e12.1, e12.2⟩ : Entry)]).length) c74), (8, B true), (11, .slice A ((E.map entK).length) cap), (12, I (((E.map entK).length : Int))), (13, I (i : Int))] (by kernel_rfl) rfl (by kernel_rfl) ?_
        refine .region ?_
        refine xo.val 0 (by kernel_rfl) (a_add (a := (i : Int)) (b := 1) (by omega) (by omega)) ?_
        refine xo.fin 1 (by kernel_rfl) rfl ?_
        refine ⟨(A73, c74, i + 1, xs ++ [(⟨e12.1, e12.2⟩ : Entry)], true), cov_of (by kernel_rfl), ⟨ho76, by rw [List.length_map]; omega, (((((hE.weak fun b hb h => h.elim).trans' hx17 (fun _ _ h => h) (fun b hb h => h.elim)).trans' hx21 (fun _ _ h => h) (fun b hb (q : b = b14) => absurd hb (by omega))).trans' hx70 (fun _ _ h => h) (fun b hb h => h.elim)).trans' hx77 (fun _ _ h => h) (fun b hb hm => absurd (hs72.lt hm).1 (by omega))), ?_⟩, by show (E.map entK).length - (i + 1) < (E.map entK).length - i; rw [List.length_map]; omega⟩
        have hlt : Lt key e12.1 := hI1 _ (by rw [drop_at he13]; simp)
        refine .inr ⟨rfl, fun f hf => hI1 f (by rw [drop_at he13]; simp [hf]), ?_⟩
        rw [take_snoc he13, putE_above hlt, List.map_append, ← hI2]; rfl
  · refine xo.val 0 (by kernel_rfl) (c_lss_f hc2) ?_
    refine xo.done 0 [(1, S key), (2, S val), (7, .slice A_ xs.length c_), (8, B d), (11, .slice A ((E.map entK).length) cap), (12, I (((E.map entK).length : Int))), (13, I (i : Int)), (14, B false)] (by kernel_rfl) rfl (by kernel_rfl) ?_
    refine .seq ?_
    refine .condF rfl rfl ?_
    refine .exit ?_
    refine xsetTo ?_
    refine .seq ?_
    refine .seq ?_
    refine .region ?_
    rcases hxs with ⟨hd, hI1, hI2⟩ | ⟨hd, hI1, hI2⟩
    · subst hd
      refine xo.val 0 (by kernel_rfl) (mv_ok (v := B false)) ?_
      refine xo.done 1 [(1, S key), (2, S val), (7, .slice A_ xs.length c_), (42, B true)] (by kernel_rfl) rfl (by kernel_rfl) ?_
      refine .condT rfl rfl ?_
      refine .region ?_
      refine xo.bsl 4 36 1 #[(0, .agg #[S key, S val])] (et := 38) (cs := [S key, S val]) (by kernel_rfl) (by kernel_rfl) ?_
      intro b78 w79 hb80 hx81 hg82
      have z79 := hx81.size
      have l80 := hb80.lt
      have hs83 := (hown.ext hx81 (fun _ _ h => h))
      refine xo.app 0 (ty := 36) (k := kEntry) (t := 36) (tx := 36) (xs := xs) (ys := [(⟨key, val⟩ : Entry)]) (x := .slice (some ⟨b78, 0, none⟩) 1 1) (by exact pEntry) hs83 (src_one (k := kEntry) (x := (⟨key, val⟩ : Entry)) (by kernel_rfl) hb80 rfl) (by omega) (show (xs.length + 1) * 32 ≤ 140737488355328 from (by first | omega | (simp only [List.length_append, List.length_cons, List.length_nil]; omega))) (show xs.length + 1 ≤ 9223372036854775807 from (by first | omega | (simp only [List.length_append, List.length_cons, List.length_nil]; omega))) (by kernel_rfl) ?_
      intro A84 c85 w86 ho87 hx88
      have z86 := hx88.size
      refine xo.done 1 [(7, .slice A84 ((xs ++ [(⟨key, val⟩ : Entry)]).length) c85)] (by kernel_rfl) rfl (by kernel_rfl) ?_
      refine .seq ?_
      refine .region ?_
      refine xo.done 2 [(6, .slice A84 ((xs ++ [(⟨key, val⟩ : Entry)]).length) c85)] (by kernel_rfl) rfl (by kernel_rfl) ?_
      refine .ret ?_
      refine ⟨[.slice A84 ((xs ++ [(⟨key, val⟩ : Entry)]).length) c85], by kernel_rfl, _, rfl, ?_⟩
      have hi9 : i = E.length := by rw [List.length_map] at *; omega
      rw [hi9, List.take_length] at hI1 hI2
      have hp : xs ++ [(⟨key, val⟩ : Entry)] = (putE E key val).map entK := by rw [putE_below hI1, hI2, List.map_append]; rfl
      have hf9 := ho87
      rw [hp] at hf9
      exact ⟨_, _, by rw [hp]; rfl, hf9, (((hE.weak fun b hb h => h.elim).trans' hx81 (fun _ _ h => h) (fun b hb h => h.elim)).trans' hx88 (fun _ _ h => h) (fun b hb hm => absurd (hs83.lt hm).1 (by omega)))⟩
    · subst hd
      refine xo.val 0 (by kernel_rfl) (mv_ok (v := B true)) ?_
      refine xo.done 1 [(1, S key), (2, S val), (7, .slice A_ xs.length c_), (42, B false)] (by kernel_rfl) rfl (by kernel_rfl) ?_
      refine .condF rfl rfl ?_
      refine .skip ?_
      refine .seq ?_
      refine .region ?_
      refine xo.done 2 [(6, .slice A_ xs.length c_)] (by kernel_rfl) rfl (by kernel_rfl) ?_
      refine .ret ?_
      refine ⟨[.slice A_ xs.length c_], by kernel_rfl, _, rfl, ?_⟩
      have hi9 : i = E.length := by rw [List.length_map] at *; omega
      rw [hi9, List.take_length] at hI2
      subst hI2
      exact ⟨_, _, rfl, hown, (hE.weak fun b hb h => h.elim)⟩

end Go.Proofs.YtbajgpadmlnffaaGreat
/- What leads from one row to another one, and back (plain); the example. -/
namespace Go.Proofs.YtbajgpadmlnffaaGreat
open Go.V
set_option linter.unusedVariables false

theorem chgE_sorted {E : List KV} (h : SortedE E) (c : Change) : SortedE (chgE E c) := by
  unfold chgE
  split
  · exact delE_sorted h _
  · exact putE_sorted h _ _
theorem applyE_sorted : ∀ (l : List Change) {E : List KV}, SortedE E → SortedE (applyE E l)
  | [], E, h => h
  | c :: r, E, h => applyE_sorted r (chgE_sorted h c)
theorem putE_mem {E : List KV} {key val : ByteArray} {e : KV} (h : e ∈ putE E key val) : e ∈ E ∨ e = (key, val) := by
  unfold putE at h
  rcases List.mem_append.1 h with h | h
  · exact .inl (List.mem_filter.1 h).1
  · rcases List.mem_cons.1 h with h | h
    · exact .inr h
    · exact .inl (List.mem_filter.1 h).1
theorem chgE_mem {E : List KV} {c : Change} {e : KV} (h : e ∈ chgE E c) : e ∈ E ∨ (c.gone = false ∧ e = (c.key, c.val)) := by
  unfold chgE at h
  split at h
  · exact .inl (List.mem_filter.1 h).1
  · rename_i hg
    exact (putE_mem h).imp_right fun q => ⟨by simpa using hg, q⟩
/-- Entries of a kind stay of that kind. -/
theorem applyE_all {p : KV → Prop} : ∀ (l : List Change) {E : List KV}, (∀ e ∈ E, p e) → (∀ c ∈ l, c.gone = false → p (c.key, c.val)) → ∀ e ∈ applyE E l, p e
  | [], E, h, _ => h
  | c :: r, E, h, hc => applyE_all r (fun e he => (chgE_mem he).elim (h e) fun ⟨h1, h2⟩ => by rw [h2]; exact hc c (by simp) h1) fun d hd => hc d (by simp [hd])

theorem SortedE.mid {P a : List KV} {x : KV} (h : SortedE (P ++ x :: a)) : (∀ e ∈ P, Lt e.1 x.1) ∧ (∀ e ∈ a, Lt x.1 e.1) ∧ SortedE (P ++ a) ∧ SortedE (P ++ [x] ++ a) := by
  have h1 := List.pairwise_append.1 h
  have h2 := List.pairwise_cons.1 h1.2.1
  refine ⟨fun e he => h1.2.2 e he x (by simp), h2.1, List.pairwise_append.2 ⟨h1.1, h2.2, fun e he f hf => h1.2.2 e he f (by simp [hf])⟩, by simpa using h⟩
theorem apply_lists_aux : ∀ (n : Nat) (P a b : List KV), a.length + b.length ≤ n → SortedE (P ++ a) → SortedE (P ++ b) → applyE (P ++ a) (listsE a b) = P ++ b := by
  intro n
  induction n with
  | zero =>
    intro P a b hn _ _
    have ha : a = [] := List.eq_nil_of_length_eq_zero (by omega)
    have hb : b = [] := List.eq_nil_of_length_eq_zero (by omega)
    subst ha; subst hb
    rw [listsE_nil]; rfl
  | succ n ih =>
    intro P a b hn sa sb
    cases a with
    | nil =>
      cases b with
      | nil => rw [listsE_nil]; rfl
      | cons y b =>
        obtain ⟨hP, hb, _, s2⟩ := sb.mid
        have h1 := ih (P ++ [y]) [] b (by simp only [List.length_cons, List.length_nil] at *; omega) (by
          rw [List.append_nil]; exact (List.pairwise_append.1 s2).1) s2
        rw [listsE_nil] at h1 ⊢
        rw [List.append_nil] at h1 ⊢
        show applyE (chgE P (comeE y)) (b.map comeE) = _
        have h2 : chgE P (comeE y) = P ++ [y] := by
          unfold chgE comeE
          simp only [Bool.false_eq_true, if_false]
          exact putE_below hP
        rw [h2, h1]; simp
    | cons x a =>
      obtain ⟨hP, ha, s1, s2⟩ := sa.mid
      have hgone : chgE (P ++ x :: a) (goneE x) = P ++ a := by
        unfold chgE goneE
        simp only [if_true]
        have := delE_mid (B := [x]) hP ha
        rw [show P ++ [x] ++ a = P ++ x :: a by simp] at this
        rw [this]
        simp [delE]
      cases b with
      | nil =>
        rw [listsE_gone_nil]
        show applyE (chgE _ (goneE x)) _ = _
        rw [hgone]
        exact ih P a [] (by simp only [List.length_cons, List.length_nil] at *; omega) s1 sb
      | cons y b =>
        obtain ⟨hPy, hb, t1, t2⟩ := sb.mid
        by_cases h1 : Lt x.1 y.1
        · rw [listsE_gone _ _ h1]
          show applyE (chgE _ (goneE x)) _ = _
          rw [hgone]
          exact ih P a (y :: b) (by simp only [List.length_cons] at *; omega) s1 sb
        · by_cases h2 : Lt y.1 x.1
          · rw [listsE_come _ _ h2]
            show applyE (chgE _ (comeE y)) _ = _
            have hC : ∀ e ∈ x :: a, Lt y.1 e.1 := fun e he => by
              rcases List.mem_cons.1 he with rfl | he
              · exact h2
              · exact h2.trans (ha e he)
            have hc : chgE (P ++ x :: a) (comeE y) = P ++ [y] ++ x :: a := by
              unfold chgE comeE
              simp only [Bool.false_eq_true, if_false]
              have := putE_mid (B := []) (val := y.2) hPy hC
              rw [List.append_nil] at this
              rw [this]; rfl
            rw [hc]
            have := ih (P ++ [y]) (x :: a) b (by simp only [List.length_cons] at *; omega) (by
              refine List.pairwise_append.2 ⟨(List.pairwise_append.1 t2).1, (List.pairwise_append.1 sa).2.1, fun e he f hf => ?_⟩
              rcases List.mem_append.1 he with he | he
              · exact (List.pairwise_append.1 sa).2.2 e he f hf
              · rw [List.mem_singleton.1 he]; exact hC f hf) t2
            rw [this]; simp
          · have he : x.1 = y.1 := (Lt.total h1).resolve_left h2
            rw [listsE_same _ _ he]
            by_cases hv : x.2 = y.2
            · rw [if_pos hv, List.nil_append]
              have hxy : x = y := Prod.ext he hv
              subst hxy
              have := ih (P ++ [x]) a b (by simp only [List.length_cons] at *; omega) s2 t2
              rw [show P ++ x :: a = P ++ [x] ++ a by simp, this]; simp
            · rw [if_neg hv]
              show applyE (chgE _ (comeE y)) _ = _
              have hc : chgE (P ++ x :: a) (comeE y) = P ++ [y] ++ a := by
                unfold chgE comeE
                simp only [Bool.false_eq_true, if_false]
                have := putE_mid (B := [x]) (C := a) (val := y.2) hPy (fun e hx => by rw [← he]; exact ha e hx)
                rw [show P ++ [x] ++ a = P ++ x :: a by simp] at this
                rw [this]
                have h3 : putE [x] y.1 y.2 = [y] := by unfold putE; simp [he, Lt.irrefl]
                rw [h3]
              rw [hc]
              change applyE (P ++ [y] ++ a) (listsE a b) = _
              have := ih (P ++ [y]) a b (by simp only [List.length_cons] at *; omega) (by
                refine List.pairwise_append.2 ⟨(List.pairwise_append.1 t2).1, (List.pairwise_append.1 s1).2.1, fun e hm f hf => ?_⟩
                rcases List.mem_append.1 hm with hm | hm
                · exact (List.pairwise_append.1 s1).2.2 e hm f hf
                · rw [List.mem_singleton.1 hm, ← he]; exact ha f hf) t2
              rw [this]; simp
theorem apply_lists {a b : List KV} (ha : SortedE a) (hb : SortedE b) : applyE a (listsE a b) = b := apply_lists_aux _ [] a b (Nat.le_refl _) ha hb
theorem lists_back_aux : ∀ (n : Nat) (a b : List KV), a.length + b.length ≤ n → All2 (fun c d : Change => c.key = d.key ∧ ¬ (c.gone = true ∧ d.gone = true)) (listsE a b) (listsE b a) := by
  intro n
  induction n with
  | zero =>
    intro a b hn
    have ha : a = [] := List.eq_nil_of_length_eq_zero (by omega)
    have hb : b = [] := List.eq_nil_of_length_eq_zero (by omega)
    subst ha; subst hb
    rw [listsE_nil]; trivial
  | succ n ih =>
    intro a b hn
    cases a with
    | nil =>
      cases b with
      | nil => rw [listsE_nil]; trivial
      | cons y b =>
        have := ih [] b (by simp only [List.length_cons, List.length_nil] at *; omega)
        rw [listsE_nil] at this ⊢
        rw [listsE_gone_nil]
        exact ⟨⟨rfl, by simp [comeE]⟩, this⟩
    | cons x a =>
      cases b with
      | nil =>
        have := ih a [] (by simp only [List.length_cons, List.length_nil] at *; omega)
        rw [listsE_nil] at this ⊢
        rw [listsE_gone_nil]
        exact ⟨⟨rfl, by simp [comeE]⟩, this⟩
      | cons y b =>
        simp only [List.length_cons] at hn
        by_cases h1 : Lt x.1 y.1
        · rw [listsE_gone _ _ h1, listsE_come _ _ h1]
          exact ⟨⟨rfl, by simp [comeE]⟩, ih a (y :: b) (by simp only [List.length_cons]; omega)⟩
        · by_cases h2 : Lt y.1 x.1
          · rw [listsE_come _ _ h2, listsE_gone _ _ h2]
            exact ⟨⟨rfl, by simp [comeE]⟩, ih (x :: a) b (by simp only [List.length_cons]; omega)⟩
          · have he : x.1 = y.1 := (Lt.total h1).resolve_left h2
            rw [listsE_same _ _ he, listsE_same _ _ he.symm]
            have := ih a b (by omega)
            by_cases hv : x.2 = y.2
            · rw [if_pos hv, if_pos hv.symm]; exact this
            · rw [if_neg hv, if_neg (fun h => hv h.symm)]
              exact ⟨⟨he.symm, by simp [comeE]⟩, this⟩
theorem lists_back (a b : List KV) : All2 (fun c d : Change => c.key = d.key ∧ ¬ (c.gone = true ∧ d.gone = true)) (listsE a b) (listsE b a) := lists_back_aux _ a b (Nat.le_refl _)
theorem lists_sizes {n : Nat} : ∀ (m : Nat) (a b : List KV), a.length + b.length ≤ m → (∀ e ∈ a, e.1.size ≤ n ∧ e.2.size ≤ n) → (∀ e ∈ b, e.1.size ≤ n ∧ e.2.size ≤ n) → ∀ c ∈ listsE a b, c.key.size ≤ n ∧ c.val.size ≤ n := by
  intro m
  induction m with
  | zero =>
    intro a b hn _ _
    have ha : a = [] := List.eq_nil_of_length_eq_zero (by omega)
    have hb : b = [] := List.eq_nil_of_length_eq_zero (by omega)
    subst ha; subst hb
    rw [listsE_nil]; simp
  | succ m ih =>
    intro a b hn ha hb c hc
    cases a with
    | nil =>
      rw [listsE_nil] at hc
      obtain ⟨y, hy, rfl⟩ := List.mem_map.1 hc
      exact hb y hy
    | cons x a =>
      have hx := ha x (by simp)
      have ha' : ∀ e ∈ a, e.1.size ≤ n ∧ e.2.size ≤ n := fun e he => ha e (by simp [he])
      have hg : (goneE x).key.size ≤ n ∧ (goneE x).val.size ≤ n := ⟨hx.1, Nat.zero_le _⟩
      cases b with
      | nil =>
        rw [listsE_gone_nil] at hc
        rcases List.mem_cons.1 hc with rfl | hc
        · exact hg
        · exact ih a [] (by simp only [List.length_cons] at *; omega) ha' hb c hc
      | cons y b =>
        have hy := hb y (by simp)
        have hb' : ∀ e ∈ b, e.1.size ≤ n ∧ e.2.size ≤ n := fun e he => hb e (by simp [he])
        simp only [List.length_cons] at hn
        by_cases h1 : Lt x.1 y.1
        · rw [listsE_gone _ _ h1] at hc
          rcases List.mem_cons.1 hc with rfl | hc
          · exact hg
          · exact ih a (y :: b) (by simp only [List.length_cons]; omega) ha' hb c hc
        · by_cases h2 : Lt y.1 x.1
          · rw [listsE_come _ _ h2] at hc
            rcases List.mem_cons.1 hc with rfl | hc
            · exact hy
            · exact ih (x :: a) b (by simp only [List.length_cons]; omega) ha hb' c hc
          · have he : x.1 = y.1 := (Lt.total h1).resolve_left h2
            rw [listsE_same _ _ he] at hc
            rcases List.mem_append.1 hc with hc | hc
            · split at hc
              · simp at hc
              · rw [List.mem_singleton.1 hc]; exact hy
            · exact ih a b (by omega) ha' hb' c hc
theorem lists_length : ∀ (m : Nat) (a b : List KV), a.length + b.length ≤ m → (listsE a b).length ≤ a.length + b.length := by
  intro m
  induction m with
  | zero =>
    intro a b hn
    have ha : a = [] := List.eq_nil_of_length_eq_zero (by omega)
    have hb : b = [] := List.eq_nil_of_length_eq_zero (by omega)
    subst ha; subst hb
    rw [listsE_nil]; simp
  | succ m ih =>
    intro a b hn
    cases a with
    | nil => rw [listsE_nil]; simp
    | cons x a =>
      cases b with
      | nil => rw [listsE_gone_nil]; have := ih a [] (by simp only [List.length_cons] at *; omega); simp only [List.length_cons] at *; omega
      | cons y b =>
        simp only [List.length_cons] at hn
        by_cases h1 : Lt x.1 y.1
        · rw [listsE_gone _ _ h1]; have := ih a (y :: b) (by simp only [List.length_cons]; omega); simp only [List.length_cons] at *; omega
        · by_cases h2 : Lt y.1 x.1
          · rw [listsE_come _ _ h2]; have := ih (x :: a) b (by simp only [List.length_cons]; omega); simp only [List.length_cons] at *; omega
          · rw [listsE_same _ _ ((Lt.total h1).resolve_left h2)]
            have := ih a b (by omega)
            split <;> (simp only [List.length_append, List.length_cons, List.length_nil]; omega)

/-- The changes that may be done. -/
def mayL (l : List Change) : List Change := l.filter fun c => decide (1 ≤ c.key.size ∧ c.key.size ≤ 64 ∧ c.val.size ≤ 300)
theorem mayL_valid {l : List Change} : ∀ c ∈ mayL l, validC c ∧ c.key.size ≤ 64 ∧ c.val.size ≤ 300 := fun c hc => by
  have h := (List.mem_filter.1 hc).2
  simp only [decide_eq_true_eq] at h
  refine ⟨⟨⟨fun e => ?_, by omega⟩, .inr h.2.2⟩, h.2⟩
  rw [e] at h
  have : (⟨#[]⟩ : ByteArray).size = 0 := rfl
  omega
theorem mayL_length (l : List Change) : (mayL l).length ≤ l.length := List.length_filter_le _ _
end Go.Proofs.YtbajgpadmlnffaaGreat
/- The example of layer 8 (plain). -/
namespace Go.Proofs.YtbajgpadmlnffaaGreat
open Go.V
set_option linter.unusedVariables false

def ta : ByteArray := ⟨#[97]⟩
def tb : ByteArray := ⟨#[98]⟩
def tc : ByteArray := ⟨#[99]⟩
theorem lab : Lt ta tb := by unfold Lt; rw [ba_toList, ba_toList]; decide
theorem lbc : Lt tb tc := by unfold Lt; rw [ba_toList, ba_toList]; decide
def exA : List Change := [⟨ta, ⟨#[49]⟩, false⟩, ⟨tb, ⟨#[50]⟩, false⟩]
def exB : List Change := [⟨ta, ⟨#[]⟩, true⟩, ⟨tb, ⟨#[51]⟩, false⟩, ⟨tc, ⟨#[52]⟩, false⟩]
def exE : List KV := [(ta, ⟨#[49]⟩), (tb, ⟨#[50]⟩)]
def exF : List KV := [(tb, ⟨#[51]⟩), (tc, ⟨#[52]⟩)]
theorem ex_e : applyE [] exA = exE := by
  show putE (putE [] ta _) tb _ = _
  rw [putE_below (A := []) (by simp)]
  exact putE_below (by simp [lab])
theorem ex_f : applyE exE exB = exF := by
  show putE (putE (delE exE ta) tb _) tc _ = _
  have h1 : delE exE ta = [] ++ [(tb, ⟨#[50]⟩)] := by
    have hne := (Lt.ne lab).symm
    simp [delE, exE, hne]
  rw [h1, putE_meet (by simp) rfl]
  exact putE_below (by simp [lbc])
theorem ex_l : listsE exE exF = exB := by
  show listsE ((ta, _) :: [(tb, _)]) ((tb, _) :: [(tc, _)]) = _
  rw [listsE_gone _ _ lab, listsE_same (x := (tb, ⟨#[50]⟩)) (y := (tb, ⟨#[51]⟩)) [] [(tc, ⟨#[52]⟩)] rfl, listsE_nil]
  rw [if_neg (by decide)]
  rfl
theorem ex_valid : (∀ c ∈ exA, validC c) ∧ ∀ c ∈ exB, validC c := by
  constructor <;> intro c hc <;> simp only [exA, exB, List.mem_cons, List.not_mem_nil, or_false] at hc
  · rcases hc with rfl | rfl <;> exact ⟨⟨by decide, by decide⟩, .inr (by decide)⟩
  · rcases hc with rfl | rfl | rfl <;> exact ⟨⟨by decide, by decide⟩, .inr (by decide)⟩
/-- A tree of two entries is a leaf. -/
theorem two_leaf {σ : St} {r : Int} {l : List Top} {E : List KV} {x y : KV} (h : OfL σ r l) (t : TreeAt σ r E) (hE : E = [x, y]) : r ≠ 0 ∧ l = [⟨x.1, ⟨#[]⟩, r, 0⟩] ∧ ∀ ts, OpenR σ ⟨x.1, ⟨#[]⟩, r, 0⟩ ts → ts = [⟨x.1, x.2, 0, 0⟩, ⟨y.1, y.2, 0, 0⟩] := by
  subst hE
  rcases t with ⟨_, h0⟩ | ⟨h', items, t⟩
  · cases h0
  · have hr : r ≠ 0 := by have := t.node.lo; omega
    have h0 : h' = 0 := by
      have := t.cont.many
      rcases t.two with h0 | h2
      · exact h0
      · by_cases h4 : h' = 0
        · exact h4
        · have h5 : 4 ^ 1 ≤ 4 ^ h' := Nat.pow_le_pow_right (by omega) (by omega)
          have h6 : 2 * 4 ^ h' ≤ items.length * 4 ^ h' := Nat.mul_le_mul_right _ h2
          simp only [List.length_cons, List.length_nil] at this
          omega
    subst h0
    have hc : [x, y] = items.map kv := t.cont
    have hops : ∀ ts, OpenR σ ⟨x.1, ⟨#[]⟩, r, 0⟩ ts → ts = [⟨x.1, x.2, 0, 0⟩, ⟨y.1, y.2, 0, 0⟩] := by
      rintro ts ⟨h2, it2, E2, hn, rfl⟩
      obtain ⟨rfl, rfl, _⟩ := hn.tree.unique t
      unfold topsOf
      rw [if_pos rfl]
      have e : it2.map topE = (it2.map kv).map fun e => (⟨e.1, e.2, 0, 0⟩ : Top) := by rw [List.map_map]; rfl
      rw [e, ← hc]; rfl
    refine ⟨hr, ?_, hops⟩
    rcases h with ⟨h0, _⟩ | ⟨h2, it2, E2, z, t2, hz, rfl⟩
    · exact absurd h0 hr
    · obtain ⟨rfl, rfl, _⟩ := t2.unique t
      cases it2 with
      | nil => simp at hz
      | cons q qs =>
        simp only [List.getElem?_cons_zero, Option.some.injEq] at hz
        subst hz
        rw [List.map_cons] at hc
        injection hc with hc1 _
        rw [hc1]; rfl
theorem ex_run {σ : St} {ra rb : Int} {la lb : List Top} {cs : List Change} {n : Nat} (oa : OfL σ ra la) (ob : OfL σ rb lb) (ha : TreeAt σ ra exE) (hb : TreeAt σ rb exF) (r : Run σ la lb cs n) : n = 2 := by
  obtain ⟨ra0, rfl, hoa⟩ := two_leaf oa ha rfl
  obtain ⟨rb0, rfl, hob⟩ := two_leaf ob hb rfl
  have nab := lab.asymm
  have nirr := Lt.irrefl tb
  have neab := Lt.ne lab
  simp only at hoa hob
  -- a node against a node
  cases r with
  | step h1 r1 =>
    cases h1 with
    | left2 k1 s =>
      cases s with
      | gone hx => exact absurd hx ra0
      | opn _ ho =>
        have := hoa _ ho
        subst this
        cases r1 with
        | step h2 r2 =>
          cases h2 with
          | left2 k2 s2 =>
            cases s2 with
            | opn hx _ => exact absurd rfl hx
            | gone _ =>
              cases r2 with
              | step h3 r3 =>
                cases h3 with
                | left2 k3 _ => exact absurd k3 nirr
                | right2 k3 _ => exact absurd k3 nirr
                | same _ hx _ => exact absurd rfl hx
                | ent _ _ hy => exact absurd hy rb0
                | opa _ hx _ _ _ => exact absurd rfl hx
                | opab _ hx _ _ _ _ _ => exact absurd rfl hx
                | opb _ _ _ _ ho2 =>
                  have := hob _ ho2
                  subst this
                  cases r3 with
                  | step h4 r4 =>
                    cases h4 with
                    | left2 k4 _ => exact absurd k4 nirr
                    | right2 k4 _ => exact absurd k4 nirr
                    | same _ hx _ => exact absurd rfl hx
                    | opa _ hx _ _ _ => exact absurd rfl hx
                    | opab _ hx _ _ _ _ _ => exact absurd rfl hx
                    | opb _ hx _ _ _ => exact absurd rfl hx
                    | ent _ _ _ =>
                      cases r4 with
                      | step h5 r5 =>
                        cases h5 with
                        | right1 s5 =>
                          cases s5 with
                          | opn hx _ => exact absurd rfl hx
                          | come _ =>
                            cases r5 with
                            | done => rfl
                            | step h6 _ =>
                              cases h6 with
                              | left1 s6 => cases s6
                              | right1 s6 => cases s6
          | right2 k2 _ => exact absurd k2 nab
          | same k2 _ _ => exact absurd k2 neab
          | ent k2 _ _ => exact absurd k2 neab
          | opa k2 _ _ _ _ => exact absurd k2 neab
          | opab k2 _ _ _ _ _ _ => exact absurd k2 neab
          | opb k2 _ _ _ _ => exact absurd k2 neab
    | right2 k1 _ => exact absurd k1 nab
    | same k1 _ _ => exact absurd k1 neab
    | ent k1 _ _ => exact absurd k1 neab
    | opa k1 _ _ _ _ => exact absurd k1 neab
    | opab k1 _ _ _ _ _ _ => exact absurd k1 neab
    | opb k1 _ _ _ _ => exact absurd k1 neab
/-- A store with nothing in it. -/
theorem inv_fresh {δ : Dv} (hA : Alive ⟨1, 0, ⟨#[]⟩, [], [], δ⟩) (hn : δ.n = 4096) : Inv ⟨1, 0, ⟨#[]⟩, [], [], δ⟩ (fun _ => 0) :=
  ⟨hA, hn, rfl, ⟨⟨fun _ _ h => by simp [mfind] at h, by simp [keys]⟩, fun _ _ h => by simp [mfind] at h, fun _ _ h => by simp [mfind] at h, fun _ _ h => by simp [mfind] at h, fun _ h => absurd rfl h, fun _ h => absurd rfl h, by simp, by simp, fun _ => by omega⟩,
    fun _ _ _ h => by simp [mfind] at h, fun _ _ h => by simp [mfind] at h⟩
theorem AInv.old {σ0 σ : St} {H : Int → Nat} {q r : Int} {E F : List KV} {n : Nat} (A : AInv σ0 σ (hH H q) r F n) (t : TreeAt σ0 q E) : TreeAt σ q E := by
  by_cases h0 : q = 0
  · subst h0
    rcases t with h | ⟨_, _, t⟩
    · exact .inl h
    · have := t.node.lo; omega
  · exact A.surv q E (by unfold hH; rw [if_neg h0]; simp [hInc]) t
theorem hH_le {H : Int → Nat} {n : Nat} (h : ∀ j, H j ≤ n) (q : Int) : ∀ j, hH H q j ≤ n + 1 := fun j => by
  have := h j
  unfold hH
  split
  · omega
  · simp only [hInc]; split <;> omega
end Go.Proofs.YtbajgpadmlnffaaGreat
/- The helpers of the law: the walks. -/
namespace Go.Proofs.YtbajgpadmlnffaaGreat
open Go.V
set_option maxRecDepth 100000
set_option linter.unusedVariables false
set_option linter.unusedSimpArgs false

theorem ref_apply (w : World) (A : Option Addr) (cap : Nat) (E : List KV) (lo0 hi0 : Nat) (hR0 : Rd kEntry w lo0 hi0 A (E.map entK)) (hh0 : hi0 ≤ w.heap.size) (L : Option Addr) (lcap : Nat) (l : List Change) (lo hi : Nat) (hR : Rd kChange w lo hi L l) (hhi_ : hi ≤ w.heap.size) (hlen : E.length + l.length ≤ 10000) (hE_ : SortedE E) (hes : ∀ e ∈ E, e.1.size ≤ 140737488355328) (hks : ∀ c ∈ l, c.key.size ≤ 140737488355328) :
    Ret Tryz.prog 15 [.slice A ((E.map entK).length) cap, .slice L l.length lcap] w fun v w' => ∃ A' c', v = .slice A' ((applyE E l).map entK).length c' ∧ Rd kEntry w' 0 w'.heap.size A' ((applyE E l).map entK) ∧ Ext No w w' := by
  refine calls_of_XC Tryz.func15 rfl rfl ?_
  refine .seq ?_
  refine .region ?_
  refine xo.done 1 [(0, .slice A ((E.map entK).length) cap), (1, .slice L l.length lcap)] (by kernel_rfl) rfl (by kernel_rfl) ?_
  refine .seq ?_
  refine .seq ?_
  refine .region ?_
  refine xo.done 3 [(0, .slice A ((E.map entK).length) cap), (7, .slice L l.length lcap), (8, I (l.length : Int)), (9, I 0)] (by kernel_rfl) rfl (by kernel_rfl) ?_
  refine .block ?_
  refine XC.loop (ι := Option Addr × Nat × Nat) (fun ⟨A_, c_, i⟩ => [(0, .slice A_ (((applyE E (l.take i)).map entK).length) c_), (7, .slice L l.length lcap), (8, I (l.length : Int)), (9, I (i : Int))]) (fun ⟨A_, c_, i⟩ u => i ≤ l.length ∧ Ext No w u ∧ Rd kEntry u 0 u.heap.size A_ ((applyE E (l.take i)).map entK)) (fun ⟨A_, c_, i⟩ => l.length - i) (A, cap, 0) (cov_of (by kernel_rfl)) ⟨by omega, (Ext.refl _ _), by simpa [applyE] using (hR0).wide (Nat.zero_le _) (by omega)⟩ ?_
  rintro ⟨A_, c_, i⟩ w1 ⟨hi_, hE, hcu⟩
  have z1 := hE.size
  have hle := applyE_length (l.take i) E
  rw [List.length_take] at hle
  have hso := applyE_sorted (l.take i) hE_
  have hsz := applyE_all (p := fun e => e.1.size ≤ 140737488355328) (l.take i) hes (fun c hc _ => hks c (List.mem_of_mem_take hc))
  refine .seq ?_
  refine .region ?_
  by_cases hc2 : ((i : Int) : Int) < (l.length : Int)
  · refine xo.val 0 (by kernel_rfl) (c_lss_t hc2) ?_
    refine xo.done 0 [(0, .slice A_ (((applyE E (l.take i)).map entK).length) c_), (7, .slice L l.length lcap), (8, I (l.length : Int)), (9, I (i : Int)), (10, B true)] (by kernel_rfl) rfl (by kernel_rfl) ?_
    refine .seq ?_
    refine .condT rfl rfl ?_
    refine .skip ?_
    refine .seq ?_
    refine .block ?_
    refine .seq ?_
    refine .region ?_
    have hs3 := (hR.ext hE (fun _ _ _ h => h))
    obtain ⟨b4, o5, x6, hi7, hA8, hl9, hh10, hr11⟩ := hs3.at_ i (by omega)
    refine xo.val 0 (by kernel_rfl) (idxN (kk := .i64) (t := 22) (n := l.length) (cap := lcap) (sz := 3) (i := i) (by kernel_rfl) hA8 (by omega)) ?_
    refine xo.val 0 (by kernel_rfl) (ldA (t := 34) (by kernel_rfl) hr11) ?_
    refine xo.alloc 0 34 [S (⟨#[]⟩), S (⟨#[]⟩), B false] (by kernel_rfl) (by kernel_rfl) ?_
    intro b12 w13 hb14 hx15 hg16
    have z13 := hx15.size
    have l14 := hb14.lt
    refine xo.store 0 34 (o := 0) (.agg #[S x6.key, S x6.val, B x6.gone]) [S x6.key, S x6.val, B x6.gone] (by kernel_rfl) hb14 (by kernel_rfl) (by kernel_rfl) (by kernel_rfl) (by kernel_rfl) ?_
    intro w17 hb18 hx19
    have z17 := hx19.size
    refine xo.done 0 [(0, .slice A_ (((applyE E (l.take i)).map entK).length) c_), (6, Pt b12 0), (7, .slice L l.length lcap), (8, I (l.length : Int)), (9, I (i : Int))] (by kernel_rfl) rfl (by kernel_rfl) ?_
    refine .seq ?_
    refine .region ?_
    refine xo.val 1 (by kernel_rfl) (ldB (t := 4) (o := 2) (by kernel_rfl) hb18 rfl) ?_
    refine xo.done 0 [(0, .slice A_ (((applyE E (l.take i)).map entK).length) c_), (6, Pt b12 0), (7, .slice L l.length lcap), (8, I (l.length : Int)), (9, I (i : Int)), (14, B x6.gone)] (by kernel_rfl) rfl (by kernel_rfl) ?_
    refine .condB x6.gone rfl rfl (fun hc20 => ?_) (fun hc20 => ?_)
    · refine .region ?_
      refine xo.val 2 (by kernel_rfl) (ldB (t := 9) (o := 0) (by kernel_rfl) hb18 rfl) ?_
      have hs21 := ((hcu.ext hx15 (fun _ _ _ h => h)).ext hx19 (fun b h1 h2 (e : b = b12) => by omega))
      refine xo.ret 0 (by kernel_rfl) (cf39 _ _) (ref_del _ A_ c_ (applyE E (l.take i)) 0 w1.heap.size hs21 (by omega) (by omega) x6.key) ?_
      rintro _ w25 ⟨A22, c23, rfl, ho24, hx26⟩
      have z25 := hx26.size
      refine xo.done 1 [(0, .slice A22 (((delE (applyE E (l.take i)) x6.key).map entK).length) c23), (7, .slice L l.length lcap), (8, I (l.length : Int)), (9, I (i : Int))] (by kernel_rfl) rfl (by kernel_rfl) ?_
      refine .region ?_
      refine xo.val 0 (by kernel_rfl) (a_add (a := (i : Int)) (b := 1) (by omega) (by omega)) ?_
      refine xo.fin 1 (by kernel_rfl) rfl ?_
      have he9 : applyE E (l.take (i + 1)) = delE (applyE E (l.take i)) x6.key := by
        rw [applyE_take hi7]; unfold chgE; rw [if_pos hc20]
      refine ⟨(A22, c23, i + 1), by show Cov _ [(0, .slice A22 ((applyE E (l.take (i + 1))).map entK).length c23), (7, .slice L l.length lcap), (8, I (l.length : Int)), (9, I ((i + 1 : Nat) : Int))]; rw [he9]; exact cov_of (by kernel_rfl), ⟨by omega, ((((hE.weak fun b hb h => h.elim).trans' hx15 (fun _ _ h => h) (fun b hb h => h.elim)).trans' hx19 (fun _ _ h => h) (fun b hb (q : b = b12) => absurd hb (by omega))).trans' hx26 (fun _ _ h => h) (fun b hb h => h.elim)), ?_⟩, by show l.length - (i + 1) < l.length - i; omega⟩
      rw [he9]
      exact (ho24.rd).wide (Nat.zero_le _) (Nat.le_refl _)
    · refine .region ?_
      refine xo.val 2 (by kernel_rfl) (ldB (t := 9) (o := 0) (by kernel_rfl) hb18 rfl) ?_
      refine xo.val 1 (by kernel_rfl) (ldB (t := 9) (o := 1) (by kernel_rfl) hb18 rfl) ?_
      have hs27 := ((hcu.ext hx15 (fun _ _ _ h => h)).ext hx19 (fun b h1 h2 (e : b = b12) => by omega))
      refine xo.ret 0 (by kernel_rfl) (cf40 _ _) (ref_put _ A_ c_ (applyE E (l.take i)) 0 w1.heap.size hs27 (by omega) (by omega) x6.key x6.val hso (hks x6 (List.mem_of_getElem? hi7)) hsz) ?_
      rintro _ w31 ⟨A28, c29, rfl, ho30, hx32⟩
      have z31 := hx32.size
      refine xo.done 1 [(0, .slice A28 (((putE (applyE E (l.take i)) x6.key x6.val).map entK).length) c29), (7, .slice L l.length lcap), (8, I (l.length : Int)), (9, I (i : Int))] (by kernel_rfl) rfl (by kernel_rfl) ?_
      refine .region ?_
      refine xo.val 0 (by kernel_rfl) (a_add (a := (i : Int)) (b := 1) (by omega) (by omega)) ?_
      refine xo.fin 1 (by kernel_rfl) rfl ?_
      have he9 : applyE E (l.take (i + 1)) = putE (applyE E (l.take i)) x6.key x6.val := by
        rw [applyE_take hi7]; unfold chgE; rw [if_neg (by simp [hc20])]
      refine ⟨(A28, c29, i + 1), by show Cov _ [(0, .slice A28 ((applyE E (l.take (i + 1))).map entK).length c29), (7, .slice L l.length lcap), (8, I (l.length : Int)), (9, I ((i + 1 : Nat) : Int))]; rw [he9]; exact cov_of (by kernel_rfl), ⟨by omega, ((((hE.weak fun b hb h => h.elim).trans' hx15 (fun _ _ h => h) (fun b hb h => h.elim)).trans' hx19 (fun _ _ h => h) (fun b hb (q : b = b12) => absurd hb (by omega))).trans' hx32 (fun _ _ h => h) (fun b hb h => h.elim)), ?_⟩, by show l.length - (i + 1) < l.length - i; omega⟩
      rw [he9]
      exact (ho30.rd).wide (Nat.zero_le _) (Nat.le_refl _)
  · refine xo.val 0 (by kernel_rfl) (c_lss_f hc2) ?_
    refine xo.done 0 [(0, .slice A_ (((applyE E (l.take i)).map entK).length) c_), (7, .slice L l.length lcap), (8, I (l.length : Int)), (9, I (i : Int)), (10, B false)] (by kernel_rfl) rfl (by kernel_rfl) ?_
    refine .seq ?_
    refine .condF rfl rfl ?_
    refine .exit ?_
    refine xsetTo ?_
    refine .seq ?_
    refine .region ?_
    refine xo.done 2 [(4, .slice A_ (((applyE E (l.take i)).map entK).length) c_)] (by kernel_rfl) rfl (by kernel_rfl) ?_
    refine .ret ?_
    refine ⟨[.slice A_ (((applyE E (l.take i)).map entK).length) c_], by kernel_rfl, _, rfl, ?_⟩
    have hi9 : i = l.length := by omega
    rw [hi9, List.take_length] at hcu
    exact ⟨A_, c_, by rw [hi9, List.take_length]; rfl, hcu, hE⟩

theorem law_may (w : World) (A : Option Addr) (cap : Nat) (l : List Change) (lo hi : Nat) (hR : Rd kChange w lo hi A l) (hhi_ : hi ≤ w.heap.size) (hlen : l.length ≤ 200) :
    Ret Tryz.prog 12 [.slice A l.length cap] w fun v w' => ∃ A' c', v = .slice A' (mayL l).length c' ∧ Own kChange w' w.heap.size A' c' (mayL l) ∧ Ext No w w' := by
  refine calls_of_XC Tryz.func12 rfl rfl ?_
  refine .seq ?_
  refine .region ?_
  refine xo.done 1 [(0, .slice A l.length cap)] (by kernel_rfl) rfl (by kernel_rfl) ?_
  refine .seq ?_
  refine .region ?_
  refine xo.done 1 [(0, .slice A l.length cap), (3, .slice none 0 0)] (by kernel_rfl) rfl (by kernel_rfl) ?_
  refine .seq ?_
  refine .seq ?_
  refine .region ?_
  refine xo.done 3 [(3, .slice none 0 0), (6, .slice A l.length cap), (7, I (l.length : Int)), (8, I 0)] (by kernel_rfl) rfl (by kernel_rfl) ?_
  refine .block ?_
  refine XC.loop (ι := Option Addr × Nat × Nat × List Change) (fun ⟨A_, c_, i, xs⟩ => [(3, .slice A_ xs.length c_), (6, .slice A l.length cap), (7, I (l.length : Int)), (8, I (i : Int))]) (fun ⟨A_, c_, i, xs⟩ u => Own kChange u w.heap.size A_ c_ xs ∧ i ≤ l.length ∧ Ext No w u ∧ xs = mayL (l.take i)) (fun ⟨A_, c_, i, xs⟩ => l.length - i) (none, 0, 0, []) (cov_of (by kernel_rfl)) ⟨.nil, by omega, (Ext.refl _ _), by simp [mayL]⟩ ?_
  rintro ⟨A_, c_, i, xs⟩ w1 ⟨hown, hi_, hE, hxs⟩
  have z1 := hE.size
  have hxl : xs.length ≤ l.length := by rw [hxs]; have := mayL_length (l.take i); rw [List.length_take] at this; omega
  refine .seq ?_
  refine .region ?_
  by_cases hc2 : ((i : Int) : Int) < (l.length : Int)
  · refine xo.val 0 (by kernel_rfl) (c_lss_t hc2) ?_
    refine xo.done 0 [(3, .slice A_ xs.length c_), (6, .slice A l.length cap), (7, I (l.length : Int)), (8, I (i : Int)), (9, B true)] (by kernel_rfl) rfl (by kernel_rfl) ?_
    refine .seq ?_
    refine .condT rfl rfl ?_
    refine .skip ?_
    refine .seq ?_
    refine .block ?_
    refine .seq ?_
    refine .region ?_
    have hs3 := (hR.ext hE (fun _ _ _ h => h))
    obtain ⟨b4, o5, x6, hi7, hA8, hl9, hh10, hr11⟩ := hs3.at_ i (by omega)
    refine xo.val 0 (by kernel_rfl) (idxN (kk := .i64) (t := 22) (n := l.length) (cap := cap) (sz := 3) (i := i) (by kernel_rfl) hA8 (by omega)) ?_
    refine xo.val 0 (by kernel_rfl) (ldA (t := 34) (by kernel_rfl) hr11) ?_
    refine xo.alloc 0 34 [S (⟨#[]⟩), S (⟨#[]⟩), B false] (by kernel_rfl) (by kernel_rfl) ?_
    intro b12 w13 hb14 hx15 hg16
    have z13 := hx15.size
    have l14 := hb14.lt
    refine xo.store 0 34 (o := 0) (.agg #[S x6.key, S x6.val, B x6.gone]) [S x6.key, S x6.val, B x6.gone] (by kernel_rfl) hb14 (by kernel_rfl) (by kernel_rfl) (by kernel_rfl) (by kernel_rfl) ?_
    intro w17 hb18 hx19
    have z17 := hx19.size
    refine xo.done 0 [(3, .slice A_ xs.length c_), (5, Pt b12 0), (6, .slice A l.length cap), (7, I (l.length : Int)), (8, I (i : Int))] (by kernel_rfl) rfl (by kernel_rfl) ?_
    refine .seq ?_
    refine .region ?_
    refine xo.val 1 (by kernel_rfl) (ldB (t := 9) (o := 0) (by kernel_rfl) hb18 rfl) ?_
    by_cases hc20 : ((x6.key.size : Int) : Int) < 1
    · refine xo.val 1 (by kernel_rfl) (c_geq_t hc20) ?_
      refine xo.done 12 [(3, .slice A_ xs.length c_), (5, Pt b12 0), (6, .slice A l.length cap), (7, I (l.length : Int)), (8, I (i : Int)), (27, B false)] (by kernel_rfl) rfl (by kernel_rfl) ?_
      refine .condF rfl rfl ?_
      refine .skip ?_
      refine .region ?_
      refine xo.val 0 (by kernel_rfl) (a_add (a := (i : Int)) (b := 1) (by omega) (by omega)) ?_
      refine xo.fin 1 (by kernel_rfl) rfl ?_
      have hs21 := ((hown.ext hx15 (fun _ _ h => h)).ext hx19 (fun b hb (e : b = b12) => by have := (hown.lt hb).2; omega))
      refine ⟨(A_, c_, i + 1, xs), cov_of (by kernel_rfl), ⟨hs21, by omega, (((hE.weak fun b hb h => h.elim).trans' hx15 (fun _ _ h => h) (fun b hb h => h.elim)).trans' hx19 (fun _ _ h => h) (fun b hb (q : b = b12) => absurd hb (by omega))), ?_⟩, by show l.length - (i + 1) < l.length - i; omega⟩
      rw [take_snoc hi7, mayL, List.filter_append, ← mayL, ← hxs]
      rw [List.filter_cons_of_neg (by simp; omega)]; simp
    · refine xo.val 1 (by kernel_rfl) (c_geq_f hc20) ?_
      refine xo.val 2 (by kernel_rfl) (ldB (t := 9) (o := 0) (by kernel_rfl) hb18 rfl) ?_
      by_cases hc22 : ((x6.key.size : Int) : Int) ≤ 64
      · refine xo.val 1 (by kernel_rfl) (c_leq_t hc22) ?_
        refine xo.val 3 (by kernel_rfl) (ldB (t := 9) (o := 1) (by kernel_rfl) hb18 rfl) ?_
        by_cases hc23 : ((x6.val.size : Int) : Int) ≤ 300
        · refine xo.val 1 (by kernel_rfl) (c_leq_t hc23) ?_
          refine xo.done 1 [(3, .slice A_ xs.length c_), (5, Pt b12 0), (6, .slice A l.length cap), (7, I (l.length : Int)), (8, I (i : Int)), (27, B true)] (by kernel_rfl) rfl (by kernel_rfl) ?_
          refine .condT rfl rfl ?_
          refine .region ?_
          refine xo.val 1 (by kernel_rfl) (ldBA (t := 34) (o := 0) (vs := [S x6.key, S x6.val, B x6.gone]) (by kernel_rfl) hb18 rfl) ?_
          refine xo.bsl 0 22 1 #[(0, .agg #[S x6.key, S x6.val, B x6.gone])] (et := 34) (cs := [S x6.key, S x6.val, B x6.gone]) (by kernel_rfl) (by kernel_rfl) ?_
          intro b24 w25 hb26 hx27 hg28
          have z25 := hx27.size
          have l26 := hb26.lt
          have hs29 := (((hown.ext hx15 (fun _ _ h => h)).ext hx19 (fun b hb (e : b = b12) => by have := (hown.lt hb).2; omega)).ext hx27 (fun _ _ h => h))
          refine xo.app 0 (ty := 22) (k := kChange) (t := 22) (tx := 22) (xs := xs) (ys := [(⟨x6.key, x6.val, x6.gone⟩ : Change)]) (x := .slice (some ⟨b24, 0, none⟩) 1 1) (by exact pChange) hs29 (src_one (k := kChange) (x := (⟨x6.key, x6.val, x6.gone⟩ : Change)) (by kernel_rfl) hb26 rfl) (by omega) (show (xs.length + 1) * 40 ≤ 140737488355328 from (by first | omega | (simp only [List.length_append, List.length_cons, List.length_nil]; omega))) (show xs.length + 1 ≤ 9223372036854775807 from (by first | omega | (simp only [List.length_append, List.length_cons, List.length_nil]; omega))) (by kernel_rfl) ?_
          intro A30 c31 w32 ho33 hx34
          have z32 := hx34.size
          refine xo.done 1 [(3, .slice A30 ((xs ++ [(⟨x6.key, x6.val, x6.gone⟩ : Change)]).length) c31), (6, .slice A l.length cap), (7, I (l.length : Int)), (8, I (i : Int))] (by kernel_rfl) rfl (by kernel_rfl) ?_
          refine .region ?_
          refine xo.val 0 (by kernel_rfl) (a_add (a := (i : Int)) (b := 1) (by omega) (by omega)) ?_
          refine xo.fin 1 (by kernel_rfl) rfl ?_
          refine ⟨(A30, c31, i + 1, xs ++ [(⟨x6.key, x6.val, x6.gone⟩ : Change)]), cov_of (by kernel_rfl), ⟨ho33, by omega, (((((hE.weak fun b hb h => h.elim).trans' hx15 (fun _ _ h => h) (fun b hb h => h.elim)).trans' hx19 (fun _ _ h => h) (fun b hb (q : b = b12) => absurd hb (by omega))).trans' hx27 (fun _ _ h => h) (fun b hb h => h.elim)).trans' hx34 (fun _ _ h => h) (fun b hb hm => absurd (hs29.lt hm).1 (by omega))), ?_⟩, by show l.length - (i + 1) < l.length - i; omega⟩
          rw [take_snoc hi7, mayL, List.filter_append, ← mayL, ← hxs]
          rw [List.filter_cons_of_pos (by simp; omega)]; rfl
        · refine xo.val 1 (by kernel_rfl) (c_leq_f hc23) ?_
          refine xo.done 1 [(3, .slice A_ xs.length c_), (5, Pt b12 0), (6, .slice A l.length cap), (7, I (l.length : Int)), (8, I (i : Int)), (27, B false)] (by kernel_rfl) rfl (by kernel_rfl) ?_
          refine .condF rfl rfl ?_
          refine .skip ?_
          refine .region ?_
          refine xo.val 0 (by kernel_rfl) (a_add (a := (i : Int)) (b := 1) (by omega) (by omega)) ?_
          refine xo.fin 1 (by kernel_rfl) rfl ?_
          have hs35 := ((hown.ext hx15 (fun _ _ h => h)).ext hx19 (fun b hb (e : b = b12) => by have := (hown.lt hb).2; omega))
          refine ⟨(A_, c_, i + 1, xs), cov_of (by kernel_rfl), ⟨hs35, by omega, (((hE.weak fun b hb h => h.elim).trans' hx15 (fun _ _ h => h) (fun b hb h => h.elim)).trans' hx19 (fun _ _ h => h) (fun b hb (q : b = b12) => absurd hb (by omega))), ?_⟩, by show l.length - (i + 1) < l.length - i; omega⟩
          rw [take_snoc hi7, mayL, List.filter_append, ← mayL, ← hxs]
          rw [List.filter_cons_of_neg (by simp; omega)]; simp
      · refine xo.val 1 (by kernel_rfl) (c_leq_f hc22) ?_
        refine xo.done 7 [(3, .slice A_ xs.length c_), (5, Pt b12 0), (6, .slice A l.length cap), (7, I (l.length : Int)), (8, I (i : Int)), (27, B false)] (by kernel_rfl) rfl (by kernel_rfl) ?_
        refine .condF rfl rfl ?_
        refine .skip ?_
        refine .region ?_
        refine xo.val 0 (by kernel_rfl) (a_add (a := (i : Int)) (b := 1) (by omega) (by omega)) ?_
        refine xo.fin 1 (by kernel_rfl) rfl ?_
        have hs36 := ((hown.ext hx15 (fun _ _ h => h)).ext hx19 (fun b hb (e : b = b12) => by have := (hown.lt hb).2; omega))
        refine ⟨(A_, c_, i + 1, xs), cov_of (by kernel_rfl), ⟨hs36, by omega, (((hE.weak fun b hb h => h.elim).trans' hx15 (fun _ _ h => h) (fun b hb h => h.elim)).trans' hx19 (fun _ _ h => h) (fun b hb (q : b = b12) => absurd hb (by omega))), ?_⟩, by show l.length - (i + 1) < l.length - i; omega⟩
        rw [take_snoc hi7, mayL, List.filter_append, ← mayL, ← hxs]
        rw [List.filter_cons_of_neg (by simp; omega)]; simp
  · refine xo.val 0 (by kernel_rfl) (c_lss_f hc2) ?_
    refine xo.done 0 [(3, .slice A_ xs.length c_), (6, .slice A l.length cap), (7, I (l.length : Int)), (8, I (i : Int)), (9, B false)] (by kernel_rfl) rfl (by kernel_rfl) ?_
    refine .seq ?_
    refine .condF rfl rfl ?_
    refine .exit ?_
    refine xsetTo ?_
    refine .seq ?_
    refine .region ?_
    refine xo.done 2 [(2, .slice A_ xs.length c_)] (by kernel_rfl) rfl (by kernel_rfl) ?_
    refine .ret ?_
    refine ⟨[.slice A_ xs.length c_], by kernel_rfl, _, rfl, ?_⟩
    have hi9 : i = l.length := by omega
    rw [hi9, List.take_length] at hxs
    subst hxs
    exact ⟨_, _, rfl, hown, (hE.weak fun b hb h => h.elim)⟩

theorem law_small (w : World) (A : Option Addr) (cap : Nat) (l : List Change) (lo hi : Nat) (hR : Rd kChange w lo hi A l) (hhi_ : hi ≤ w.heap.size) :
    Ret Tryz.prog 8 [.slice A l.length cap] w fun v w' => ∃ b, v = B b ∧ (b = true → l.length ≤ 200) ∧ Ext No w w' := by
  refine calls_of_XC Tryz.func8 rfl rfl ?_
  refine .seq ?_
  refine .region ?_
  refine xo.done 1 [(0, .slice A l.length cap)] (by kernel_rfl) rfl (by kernel_rfl) ?_
  refine .seq ?_
  refine .region ?_
  refine xo.done 1 [(0, .slice A l.length cap), (3, I 0)] (by kernel_rfl) rfl (by kernel_rfl) ?_
  refine .seq ?_
  refine .seq ?_
  refine .region ?_
  refine xo.done 1 [(0, .slice A l.length cap), (3, I 0), (4, I 0)] (by kernel_rfl) rfl (by kernel_rfl) ?_
  refine .block ?_
  refine XC.loop (ι := Int × Nat) (fun ⟨n, i⟩ => [(0, .slice A l.length cap), (3, I n), (4, I (i : Int))]) (fun ⟨n, i⟩ u => 0 ≤ n ∧ n ≤ 100000 ∧ i ≤ 201 ∧ Ext No w u) (fun ⟨n, i⟩ => 202 - i) (0, 0) (cov_of (by kernel_rfl)) ⟨by omega, by omega, by omega, (Ext.refl _ _)⟩ ?_
  rintro ⟨n, i⟩ w1 ⟨hn0, hn1, hi_, hE⟩
  have z1 := hE.size
  refine .seq ?_
  refine .seq ?_
  refine .region ?_
  by_cases hc2 : ((i : Int) : Int) < (l.length : Int)
  · refine xo.val 3 (by kernel_rfl) (c_lss_t hc2) ?_
    by_cases hc3 : ((i : Int) : Int) ≤ 200
    · refine xo.val 2 (by kernel_rfl) (c_leq_t hc3) ?_
      by_cases hc4 : (n : Int) ≤ 16384
      · refine xo.val 3 (by kernel_rfl) (c_leq_t hc4) ?_
        refine xo.done 1 [(0, .slice A l.length cap), (3, I n), (4, I (i : Int)), (16, B true)] (by kernel_rfl) rfl (by kernel_rfl) ?_
        refine .condT rfl rfl ?_
        refine .skip ?_
        refine .seq ?_
        refine .block ?_
        refine .regionReads (by kernel_rfl) (by kernel_rfl) ?_
        intro w5 hd6
        have hx6 := Ext.ofDrew (M := No) hd6
        have z5 := hx6.size
        have hs7 := ((hR.ext hE (fun _ _ _ h => h)).ext hx6 (fun _ _ _ h => h))
        obtain ⟨b8, o9, x10, hi11, hA12, hl13, hh14, hr15⟩ := hs7.at_ i (by omega)
        refine Go.V.xs.val 3 (by kernel_rfl) (idxN (kk := .i64) (t := 22) (n := l.length) (cap := cap) (sz := 3) (i := i) (by kernel_rfl) hA12 (by omega)) ?_
        refine Go.V.xs.val 1 (by kernel_rfl) (ld (t := 9) (by kernel_rfl) (hr15 0 _ rfl)) ?_
        by_cases hc16 : (16384 : Int) < (x10.key.size : Int)
        · refine Go.V.xs.val 1 (by kernel_rfl) (mn_t (x := (x10.key.size : Int)) (y := 16384) hc16) ?_
          obtain ⟨b17, o18, x19, hi20, hA21, hl22, hh23, hr24⟩ := hs7.at_ i (by omega)
          refine Go.V.xs.val 2 (by kernel_rfl) (idxN (kk := .i64) (t := 22) (n := l.length) (cap := cap) (sz := 3) (i := i) (by kernel_rfl) hA21 (by omega)) ?_
          refine Go.V.xs.val 1 (by kernel_rfl) (ld (t := 9) (by kernel_rfl) (hr24 1 _ rfl)) ?_
          by_cases hc25 : (16384 : Int) < (x19.val.size : Int)
          · refine Go.V.xs.val 1 (by kernel_rfl) (mn_t (x := (x19.val.size : Int)) (y := 16384) hc25) ?_
            refine Go.V.xs.val 1 (by kernel_rfl) (a_add (a := n) (b := 32768) (by omega) (by omega)) ?_
            refine Go.V.xs.fin 1 (by kernel_rfl) rfl ?_
            refine .cov [(0, .slice A l.length cap), (3, I (n + 32768)), (4, I (i : Int))] (cov_of (by kernel_rfl)) ?_
            refine .region ?_
            refine xo.val 1 (by kernel_rfl) (a_add (a := (i : Int)) (b := 1) (by omega) (by omega)) ?_
            refine xo.fin 1 (by kernel_rfl) rfl ?_
            exact ⟨(n + 32768, i + 1), cov_of (by kernel_rfl), ⟨by omega, by omega, by omega, (hE.trans' hx6 (fun _ _ h => h) (fun b hb h => h))⟩, by show 202 - (i + 1) < 202 - i; omega⟩
          · refine Go.V.xs.val 1 (by kernel_rfl) (mn_f (x := (x19.val.size : Int)) (y := 16384) hc25) ?_
            refine Go.V.xs.val 0 (by kernel_rfl) (a_add (a := 16384) (b := (x19.val.size : Int)) (by omega) (by omega)) ?_
            refine Go.V.xs.val 0 (by kernel_rfl) (a_add (a := n) (b := 16384 + (x19.val.size : Int)) (by omega) (by omega)) ?_
            refine Go.V.xs.fin 1 (by kernel_rfl) rfl ?_
            refine .cov [(0, .slice A l.length cap), (3, I (n + (16384 + (x19.val.size : Int)))), (4, I (i : Int))] (cov_of (by kernel_rfl)) ?_
            refine .region ?_
            refine xo.val 1 (by kernel_rfl) (a_add (a := (i : Int)) (b := 1) (by omega) (by omega)) ?_
            refine xo.fin 1 (by kernel_rfl) rfl ?_
            exact ⟨(n + (16384 + (x19.val.size : Int)), i + 1), cov_of (by kernel_rfl), ⟨by omega, by omega, by omega, (hE.trans' hx6 (fun _ _ h => h) (fun b hb h => h))⟩, by show 202 - (i + 1) < 202 - i; omega⟩
        · refine Go.V.xs.val 1 (by kernel_rfl) (mn_f (x := (x10.key.size : Int)) (y := 16384) hc16) ?_
          obtain ⟨b26, o27, x28, hi29, hA30, hl31, hh32, hr33⟩ := hs7.at_ i (by omega)
          refine Go.V.xs.val 2 (by kernel_rfl) (idxN (kk := .i64) (t := 22) (n := l.length) (cap := cap) (sz := 3) (i := i) (by kernel_rfl) hA30 (by omega)) ?_
          refine Go.V.xs.val 1 (by kernel_rfl) (ld (t := 9) (by kernel_rfl) (hr33 1 _ rfl)) ?_
          by_cases hc34 : (16384 : Int) < (x28.val.size : Int)
          · refine Go.V.xs.val 1 (by kernel_rfl) (mn_t (x := (x28.val.size : Int)) (y := 16384) hc34) ?_
            refine Go.V.xs.val 0 (by kernel_rfl) (a_add (a := (x10.key.size : Int)) (b := 16384) (by omega) (by omega)) ?_
            refine Go.V.xs.val 0 (by kernel_rfl) (a_add (a := n) (b := (x10.key.size : Int) + 16384) (by omega) (by omega)) ?_
            refine Go.V.xs.fin 1 (by kernel_rfl) rfl ?_
            refine .cov [(0, .slice A l.length cap), (3, I (n + ((x10.key.size : Int) + 16384))), (4, I (i : Int))] (cov_of (by kernel_rfl)) ?_
            refine .region ?_
            refine xo.val 1 (by kernel_rfl) (a_add (a := (i : Int)) (b := 1) (by omega) (by omega)) ?_
            refine xo.fin 1 (by kernel_rfl) rfl ?_
            exact ⟨(n + ((x10.key.size : Int) + 16384), i + 1), cov_of (by kernel_rfl), ⟨by omega, by omega, by omega, (hE.trans' hx6 (fun _ _ h => h) (fun b hb h => h))⟩, by show 202 - (i + 1) < 202 - i; omega⟩
          · refine Go.V.xs.val 1 (by kernel_rfl) (mn_f (x := (x28.val.size : Int)) (y := 16384) hc34) ?_
            refine Go.V.xs.val 0 (by kernel_rfl) (a_add (a := (x10.key.size : Int)) (b := (x28.val.size : Int)) (by omega) (by omega)) ?_
            refine Go.V.xs.val 0 (by kernel_rfl) (a_add (a := n) (b := (x10.key.size : Int) + (x28.val.size : Int)) (by omega) (by omega)) ?_
            refine Go.V.xs.fin 1 (by kernel_rfl) rfl ?_
            refine .cov [(0, .slice A l.length cap), (3, I (n + ((x10.key.size : Int) + (x28.val.size : Int)))), (4, I (i : Int))] (cov_of (by kernel_rfl)) ?_
            refine .region ?_
            refine xo.val 1 (by kernel_rfl) (a_add (a := (i : Int)) (b := 1) (by omega) (by omega)) ?_
            refine xo.fin 1 (by kernel_rfl) rfl ?_
            exact ⟨(n + ((x10.key.size : Int) + (x28.val.size : Int)), i + 1), cov_of (by kernel_rfl), ⟨by omega, by omega, by omega, (hE.trans' hx6 (fun _ _ h => h) (fun b hb h => h))⟩, by show 202 - (i + 1) < 202 - i; omega⟩
      · refine xo.val 3 (by kernel_rfl) (c_leq_f hc4) ?_
        refine xo.done 1 [(0, .slice A l.length cap), (3, I n), (4, I (i : Int)), (16, B false)] (by kernel_rfl) rfl (by kernel_rfl) ?_
        refine .condF rfl rfl ?_
        refine .exit ?_
        refine xsetTo ?_
        refine .seq ?_
        refine .region ?_
        by_cases hc35 : ((l.length : Int) : Int) ≤ 200
        · refine xo.val 2 (by kernel_rfl) (c_leq_t hc35) ?_
          by_cases hc36 : (n : Int) ≤ 16384
          · refine xo.val 2 (by kernel_rfl) (c_leq_t hc36) ?_
            refine xo.done 2 [(2, B true)] (by kernel_rfl) rfl (by kernel_rfl) ?_
            refine .ret ?_
            refine ⟨[B true], by kernel_rfl, _, rfl, ?_⟩
            exact ⟨true, rfl, fun h => by first | (cases h; done) | omega, hE⟩
          · refine xo.val 2 (by kernel_rfl) (c_leq_f hc36) ?_
            refine xo.done 2 [(2, B false)] (by kernel_rfl) rfl (by kernel_rfl) ?_
            refine .ret ?_
            refine ⟨[B false], by kernel_rfl, _, rfl, ?_⟩
            exact ⟨false, rfl, fun h => by first | (cases h; done) | omega, hE⟩
        · refine xo.val 2 (by kernel_rfl) (c_leq_f hc35) ?_
          refine xo.done 5 [(2, B false)] (by kernel_rfl) rfl (by kernel_rfl) ?_
          refine .ret ?_
          refine ⟨[B false], by kernel_rfl, _, rfl, ?_⟩
          exact ⟨false, rfl, fun h => by first | (cases h; done) | omega, hE⟩
    · refine xo.val 2 (by kernel_rfl) (c_leq_f hc3) ?_
      refine xo.done 5 [(0, .slice A l.length cap), (3, I n), (4, I (i : Int)), (16, B false)] (by kernel_rfl) rfl (by kernel_rfl) ?_
      refine .condF rfl rfl ?_
      refine .exit ?_
      refine xsetTo ?_
      refine .seq ?_
      refine .region ?_
      by_cases hc37 : ((l.length : Int) : Int) ≤ 200
      · refine xo.val 2 (by kernel_rfl) (c_leq_t hc37) ?_
        by_cases hc38 : (n : Int) ≤ 16384
        · refine xo.val 2 (by kernel_rfl) (c_leq_t hc38) ?_
          refine xo.done 2 [(2, B true)] (by kernel_rfl) rfl (by kernel_rfl) ?_
          refine .ret ?_
          refine ⟨[B true], by kernel_rfl, _, rfl, ?_⟩
          exact ⟨true, rfl, fun h => by first | (cases h; done) | omega, hE⟩
        · refine xo.val 2 (by kernel_rfl) (c_leq_f hc38) ?_
          refine xo.done 2 [(2, B false)] (by kernel_rfl) rfl (by kernel_rfl) ?_
          refine .ret ?_
          refine ⟨[B false], by kernel_rfl, _, rfl, ?_⟩
          exact ⟨false, rfl, fun h => by first | (cases h; done) | omega, hE⟩
      · refine xo.val 2 (by kernel_rfl) (c_leq_f hc37) ?_
        refine xo.done 5 [(2, B false)] (by kernel_rfl) rfl (by kernel_rfl) ?_
        refine .ret ?_
        refine ⟨[B false], by kernel_rfl, _, rfl, ?_⟩
        exact ⟨false, rfl, fun h => by first | (cases h; done) | omega, hE⟩
  · refine xo.val 3 (by kernel_rfl) (c_lss_f hc2) ?_
    refine xo.done 8 [(0, .slice A l.length cap), (3, I n), (4, I (i : Int)), (16, B false)] (by kernel_rfl) rfl (by kernel_rfl) ?_
    refine .condF rfl rfl ?_
    refine .exit ?_
    refine xsetTo ?_
    refine .seq ?_
    refine .region ?_
    by_cases hc39 : ((l.length : Int) : Int) ≤ 200
    · refine xo.val 2 (by kernel_rfl) (c_leq_t hc39) ?_
      by_cases hc40 : (n : Int) ≤ 16384
      · refine xo.val 2 (by kernel_rfl) (c_leq_t hc40) ?_
        refine xo.done 2 [(2, B true)] (by kernel_rfl) rfl (by kernel_rfl) ?_
        refine .ret ?_
        refine ⟨[B true], by kernel_rfl, _, rfl, ?_⟩
        exact ⟨true, rfl, fun h => by first | (cases h; done) | omega, hE⟩
      · refine xo.val 2 (by kernel_rfl) (c_leq_f hc40) ?_
        refine xo.done 2 [(2, B false)] (by kernel_rfl) rfl (by kernel_rfl) ?_
        refine .ret ?_
        refine ⟨[B false], by kernel_rfl, _, rfl, ?_⟩
        exact ⟨false, rfl, fun h => by first | (cases h; done) | omega, hE⟩
    · refine xo.val 2 (by kernel_rfl) (c_leq_f hc39) ?_
      refine xo.done 5 [(2, B false)] (by kernel_rfl) rfl (by kernel_rfl) ?_
      refine .ret ?_
      refine ⟨[B false], by kernel_rfl, _, rfl, ?_⟩
      exact ⟨false, rfl, fun h => by first | (cases h; done) | omega, hE⟩

theorem law_all (w : World) (a : SAd) (σ : St) (hS : StAt w a σ) (hA : Alive σ) (root : Int) (E : List KV) (hT : TreeAt σ root E) (hlen : E.length ≤ 1000) :
    Ret Tryz.prog 16 [Pt a.s 0, I root] w fun v w' => ∃ A c, v = .slice A (E.map entK).length c ∧ Own kEntry w' w.heap.size A c (E.map entK) ∧ StAt w' a σ ∧ Ext No w w' := by
  have lS := hS.bs.lt
  have lMc := hS.mc.lt
  have lMk := hS.mkt.lt
  have hhi := hS.hi
  have nSC : a.s ≠ a.mc := fun e => MapAt.ne hS.mc hS.bs e.symm
  have nKC : a.mkk ≠ a.mc := fun e => hS.cmk e.symm
  refine calls_of_XC Tryz.func16 rfl rfl ?_
  refine .seq ?_
  refine .region ?_
  refine xo.done 1 [(0, Pt a.s 0), (1, I root)] (by kernel_rfl) rfl (by kernel_rfl) ?_
  refine .seq ?_
  refine .region ?_
  refine xo.ret 2 (by kernel_rfl) (cf41 _ _) (tree_Range _ a σ hS hA root E hT 1073741824 (by decide) (by decide) hlen) ?_
  rintro _ w5 ⟨A1, c2, rfl, ho3, hS4, hx6⟩
  have z5 := hx6.size
  refine xo.done 5 [(5, .slice A1 ((E.map entK).length) c2)] (by kernel_rfl) rfl (by kernel_rfl) ?_
  refine .seq ?_
  refine .region ?_
  refine xo.done 2 [(4, .slice A1 ((E.map entK).length) c2)] (by kernel_rfl) rfl (by kernel_rfl) ?_
  refine .ret ?_
  refine ⟨[.slice A1 ((E.map entK).length) c2], by kernel_rfl, _, rfl, ?_⟩
  exact ⟨_, _, rfl, ho3.base_le (by omega), hS4, hx6⟩

end Go.Proofs.YtbajgpadmlnffaaGreat
