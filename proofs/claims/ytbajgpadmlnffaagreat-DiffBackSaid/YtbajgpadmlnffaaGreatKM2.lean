/-
  A part of the proofs of this seat (Octet, Read, Dev, Res, Draw, Blk, St, StF, StP, Gen, StO): lemmas on which the last text leans. No condition.
-/
import Derived.OrdersHeld
import Derived.Test.YtbajgpadmlnffaaGreatKM1
/- Numbers and texts as bytes: the walks. -/
namespace Go.Proofs.YtbajgpadmlnffaaGreat
open Go.V
set_option maxRecDepth 100000
set_option linter.unusedVariables false
set_option linter.unusedSimpArgs false

theorem oct_wide (w : World) (n : Int) (h1 : 1 ≤ n) (h2 : n ≤ 8) :
    Ret Tryz.prog 79 [I n] w fun v w' => v = B true ∧ w = w' := by
  refine calls_of_XC Tryz.func79 rfl rfl ?_
  refine .seq ?_
  refine .region ?_
  refine xo.done 1 [(0, I n)] (by kernel_rfl) rfl (by kernel_rfl) ?_
  refine .seq ?_
  refine .region ?_
  refine xo.val 1 (by kernel_rfl) (c_geq_f (show ¬ ((n : Int) < 1) from (by omega))) ?_
  refine xo.val 2 (by kernel_rfl) (c_leq_t (show (n : Int) ≤ 8 from (by omega))) ?_
  refine xo.done 2 [(2, B true)] (by kernel_rfl) rfl (by kernel_rfl) ?_
  refine .ret ?_
  refine ⟨[B true], by kernel_rfl, _, rfl, ?_⟩
  exact ⟨rfl, rfl⟩

theorem oct_put (w : World) (lo hi : Nat) (A : Option Addr) (cap : Nat) (l : List UInt8) (h : Rd (kU8 5) w lo hi A l) (hh : hi ≤ w.heap.size) (hl : l.length ≤ 1099511627776) (n : Int) (wd : Nat) (h1 : 1 ≤ wd) (h2 : wd ≤ 8) :
    Ret Tryz.prog 50 [.slice A l.length cap, I n, I (wd : Int)] w fun v w' => ∃ A' cap', v = .slice A' (l ++ be wd n).length cap' ∧ Own (kU8 5) w' w.heap.size A' cap' (l ++ be wd n) ∧ Ext No w w' := by
  refine calls_of_XC Tryz.func50 rfl rfl ?_
  refine .seq ?_
  refine .region ?_
  refine xo.done 1 [(0, .slice A l.length cap), (1, I n), (2, I (wd : Int))] (by kernel_rfl) rfl (by kernel_rfl) ?_
  refine .seq ?_
  refine .region ?_
  refine xo.bsl 0 76 0 #[] (et := 5) (cs := []) (by kernel_rfl) (by kernel_rfl) ?_
  intro b1 w2 hb3 hx4 hg5
  have z2 := hx4.size
  have l3 := hb3.lt
  have hs6 := (h.ext hx4 (fun _ _ _ h => h))
  refine xo.app 1 (ty := 76) (k := (kU8 5)) (t := 76) (tx := 76) (xs := []) (ys := l) (x := .slice A l.length cap) (by exact pU8) (Own.of_blk (k := (kU8 5)) (xs := []) hb3 (Nat.le_refl _) rfl rfl) (src_rd (by kernel_rfl) hs6) (by omega) (show (0 + l.length) * 1 ≤ 140737488355328 from (by first | omega | (simp only [List.length_append, List.length_cons, List.length_nil]; omega))) (show 0 + l.length ≤ 9223372036854775807 from (by first | omega | (simp only [List.length_append, List.length_cons, List.length_nil]; omega))) (by kernel_rfl) ?_
  intro A7 c8 w9 ho10 hx11
  have z9 := hx11.size
  have ho12 : Own (kU8 5) w9 b1 A7 c8 l := ho10
  refine xo.done 1 [(1, I n), (2, I (wd : Int)), (7, .slice A7 ((l).length) c8)] (by kernel_rfl) rfl (by kernel_rfl) ?_
  refine .seq ?_
  refine .seq ?_
  refine .region ?_
  refine xo.ret 1 (by kernel_rfl) (cf79 _ _) (oct_wide _ (wd : Int) (by omega) (by omega)) ?_
  rintro _ _ ⟨rfl, rfl⟩
  refine xo.done 1 [(1, I n), (2, I (wd : Int)), (7, .slice A7 ((l).length) c8), (14, B false)] (by kernel_rfl) rfl (by kernel_rfl) ?_
  refine .condF rfl rfl ?_
  refine .skip ?_
  refine .seq ?_
  refine .seq ?_
  refine .region ?_
  refine xo.val 1 (by kernel_rfl) (a_sub (a := (wd : Int)) (b := 1) (by omega) (by omega)) ?_
  refine xo.done 1 [(1, I n), (7, .slice A7 ((l).length) c8), (8, I ((wd : Int) - 1))] (by kernel_rfl) rfl (by kernel_rfl) ?_
  refine .block ?_
  refine XC.loop (ι := Option Addr × Nat × Nat × Int × List UInt8) (fun ⟨A, cap, j, i, xs⟩ => [(1, I n), (7, .slice A xs.length cap), (8, I i)]) (fun ⟨A, cap, j, i, xs⟩ u => Own (kU8 5) u w.heap.size A cap xs ∧ Ext No w u ∧ j ≤ wd ∧ i = (wd : Int) - 1 - (j : Int) ∧ xs = l ++ (be wd n).take j) (fun ⟨A, cap, j, i, xs⟩ => wd - j) (A7, c8, 0, (wd : Int) - 1, l) (cov_of (by kernel_rfl)) ⟨by simpa using ho12.base_le (by omega), (hx4.trans' hx11 (fun _ _ h => h) (fun b hb hm => absurd ((Own.of_blk (k := (kU8 5)) (xs := []) hb3 (Nat.le_refl _) rfl rfl).lt hm).1 (by omega))), by omega, by simp, by simp⟩ ?_
  rintro ⟨A, cap, j, i, xs⟩ w13 ⟨hown, hE, hj, hi, hxs⟩
  have z13 := hE.size
  refine .seq ?_
  refine .seq ?_
  refine .region ?_
  by_cases hc14 : (i : Int) < 0
  · refine xo.val 1 (by kernel_rfl) (c_geq_t hc14) ?_
    refine xo.done 0 [(1, I n), (7, .slice A xs.length cap), (8, I i), (19, B false)] (by kernel_rfl) rfl (by kernel_rfl) ?_
    refine .condF rfl rfl ?_
    refine .exit ?_
    refine xsetTo ?_
    refine .seq ?_
    refine .region ?_
    refine xo.done 2 [(6, .slice A xs.length cap)] (by kernel_rfl) rfl (by kernel_rfl) ?_
    refine .ret ?_
    refine ⟨[.slice A xs.length cap], by kernel_rfl, _, rfl, ?_⟩
    have hj2 : j = wd := by omega
    subst hj2
    rw [List.take_of_length_le (by simp)] at hxs
    subst hxs
    exact ⟨_, _, rfl, hown, hE⟩
  · refine xo.val 1 (by kernel_rfl) (c_geq_f hc14) ?_
    refine xo.done 0 [(1, I n), (7, .slice A xs.length cap), (8, I i), (19, B true)] (by kernel_rfl) rfl (by kernel_rfl) ?_
    refine .condT rfl rfl ?_
    refine .skip ?_
    refine .seq ?_
    refine .block ?_
    refine .region ?_
    have hlen : xs.length = l.length + j := by rw [hxs]; simp; omega
    refine xo.val 3 (by kernel_rfl) (a_mul (a := 8) (b := i) (by omega) (by omega)) ?_
    refine xo.val 0 (by kernel_rfl) (sh_r (x := n) (y := 8 * i) (by omega)) ?_
    refine xo.bsl 1 76 1 #[(0, .int .u8 (uw .u8 (ishr n (8 * i))))] (et := 5) (cs := [.int .u8 (uw .u8 (ishr n (8 * i)))]) (by kernel_rfl) (by kernel_rfl) ?_
    intro b15 w16 hb17 hx18 hg19
    have z16 := hx18.size
    have l17 := hb17.lt
    have hs20 := (hown.ext hx18 (fun _ _ h => h))
    refine xo.app 0 (ty := 76) (k := (kU8 5)) (t := 76) (tx := 76) (xs := xs) (ys := [sByte (ishr n (8 * i))]) (x := .slice (some ⟨b15, 0, none⟩) 1 1) (by exact pU8) hs20 (src_one (k := (kU8 5)) (x := sByte (ishr n (8 * i))) (by kernel_rfl) hb17 (congrArg (fun q => [Value.int .u8 q]) (sByte_val _).symm)) (by omega) (show (xs.length + 1) * 1 ≤ 140737488355328 from (by first | omega | (simp only [List.length_append, List.length_cons, List.length_nil]; omega))) (show xs.length + 1 ≤ 9223372036854775807 from (by first | omega | (simp only [List.length_append, List.length_cons, List.length_nil]; omega))) (by kernel_rfl) ?_
    intro A21 c22 w23 ho24 hx25
    have z23 := hx25.size
    refine xo.done 1 [(1, I n), (7, .slice A21 ((xs ++ [sByte (ishr n (8 * i))]).length) c22), (8, I i)] (by kernel_rfl) rfl (by kernel_rfl) ?_
    refine .region ?_
    refine xo.val 1 (by kernel_rfl) (a_sub (a := i) (b := 1) (by omega) (by omega)) ?_
    refine xo.fin 1 (by kernel_rfl) rfl ?_
    refine ⟨(A21, c22, j + 1, i - 1, xs ++ [sByte (ishr n (8 * i))]), cov_of (by kernel_rfl), ⟨ho24, ((hE.trans' hx18 (fun _ _ h => h) (fun b hb h => h)).trans' hx25 (fun _ _ h => h) (fun b hb hm => absurd (hs20.lt hm).1 (by omega))), by omega, by omega, ?_⟩, by show wd - (j + 1) < wd - j; omega⟩
    rw [be_get wd n j (by omega), ← List.append_assoc, hxs, hi]

def txt (s : ByteArray) : List UInt8 := be 2 s.size ++ s.data.toList
theorem txt_length (s : ByteArray) : (txt s).length = s.size + 2 := by unfold txt; rw [List.length_append, be_length, Array.length_toList]; show 2 + s.size = _; omega

theorem oct_puttext (w : World) (lo hi : Nat) (A : Option Addr) (cap : Nat) (l : List UInt8) (h : Rd (kU8 5) w lo hi A l) (hh : hi ≤ w.heap.size) (hl : l.length ≤ 1099511627776) (t : ByteArray) (ht : t.size ≤ 65535) :
    Ret Tryz.prog 51 [.slice A l.length cap, S t] w fun v w' => ∃ A' cap', v = .slice A' (l ++ txt t).length cap' ∧ Own (kU8 5) w' w.heap.size A' cap' (l ++ txt t) ∧ Ext No w w' := by
  refine calls_of_XC Tryz.func51 rfl rfl ?_
  refine .seq ?_
  refine .region ?_
  refine xo.done 1 [(0, .slice A l.length cap), (1, S t)] (by kernel_rfl) rfl (by kernel_rfl) ?_
  refine .seq ?_
  refine .region ?_
  refine xo.val 3 (by kernel_rfl) (mn_f (x := (t.size : Int)) (y := 65535) (show ¬ ((65535 : Int) < (t.size : Int)) from (by omega))) ?_
  refine xo.val 0 (by kernel_rfl) (ssl_full (t := 9) (s := t) (by kernel_rfl)) ?_
  refine xo.done 1 [(0, .slice A l.length cap), (1, S t)] (by kernel_rfl) rfl (by kernel_rfl) ?_
  refine .seq ?_
  refine .region ?_
  refine xo.ret 3 (by kernel_rfl) (cf50 _ _) (oct_put _ lo hi A cap l h (by omega) (by first | omega | (simp only [List.length_append, be_length, List.length_nil, List.length_cons, bs_size, Array.length_toList] at *; omega)) (t.size : Int) 2 (by omega) (by omega)) ?_
  rintro _ w4 ⟨A1, c2, rfl, ho3, hx5⟩
  have z4 := hx5.size
  refine xo.app 1 (ty := 76) (k := (kU8 5)) (t := 76) (tx := 9) (xs := l ++ be 2 (t.size : Int)) (ys := t.data.toList) (x := S t) (by exact pU8) ho3 (src_str t (by kernel_rfl)) (by omega) (show ((l ++ be 2 (t.size : Int)).length + t.data.toList.length) * 1 ≤ 140737488355328 from (by have ht2 : t.data.toList.length = t.size := Array.length_toList; simp only [List.length_append, be_length]; omega)) (show (l ++ be 2 (t.size : Int)).length + t.data.toList.length ≤ 9223372036854775807 from (by have ht2 : t.data.toList.length = t.size := Array.length_toList; simp only [List.length_append, be_length]; omega)) (by kernel_rfl) ?_
  intro A6 c7 w8 ho9 hx10
  have z8 := hx10.size
  refine xo.done 1 [(4, .slice A6 ((l ++ be 2 (t.size : Int) ++ t.data.toList).length) c7)] (by kernel_rfl) rfl (by kernel_rfl) ?_
  refine .ret ?_
  refine ⟨[.slice A6 ((l ++ be 2 (t.size : Int) ++ t.data.toList).length) c7], by kernel_rfl, _, rfl, ?_⟩
  unfold txt
  rw [← List.append_assoc]
  exact ⟨_, _, rfl, ho9.base_le (by omega), (hx5.trans' hx10 (fun _ _ h => h) (fun b hb hm => absurd (ho3.lt hm).1 (by omega)))⟩

theorem eye_dead (w : World) (b : Nat) (s : ByteArray) (hb : Blk w b 135 [S s, B true]) :
    Ret Tryz.prog 78 [Pt b 0] w fun v w' => v = B false ∧ w = w' := by
  refine calls_of_XC Tryz.func78 rfl rfl ?_
  refine .seq ?_
  refine .region ?_
  refine xo.done 1 [(0, Pt b 0)] (by kernel_rfl) rfl (by kernel_rfl) ?_
  refine .seq ?_
  refine .region ?_
  refine xo.val 6 (by kernel_rfl) (ldB (t := 4) (o := 1) (by kernel_rfl) hb rfl) ?_
  refine xo.done 3 [(2, B false)] (by kernel_rfl) rfl (by kernel_rfl) ?_
  refine .ret ?_
  refine ⟨[B false], by kernel_rfl, _, rfl, ?_⟩
  exact ⟨rfl, rfl⟩

def fault (c : Int) : List PanicEntry := [{ v := .iface 137 (.agg #[I c]), recovered := false }]

theorem eye_fail (w : World) (b : Nat) (s : ByteArray) (hb : Blk w b 135 [S s, B true]) (c : Int) :
    Pnc Tryz.prog 45 [Pt b 0, I c] w fun v w' => v = fault c ∧ w = w' := by
  refine calls_of_XC Tryz.func45 rfl rfl ?_
  refine .seq ?_
  refine .region ?_
  refine xo.ret 1 (by kernel_rfl) (cf78 _ _) (eye_dead _ b _ hb) ?_
  rintro _ _ ⟨rfl, rfl⟩
  refine xo.done 1 [(1, I c), (6, B true)] (by kernel_rfl) rfl (by kernel_rfl) ?_
  refine .condT rfl rfl ?_
  refine .region ?_
  refine xo.pnc 3 (by kernel_rfl) (pnc_iface (t := 137) (v := .agg #[I c])) ?_
  refine ⟨_, rfl, ?_⟩
  exact ⟨rfl, rfl⟩

theorem eye_raw (w : World) (b : Nat) (l : List UInt8) (hb : Blk w b 135 [S (bs l), B true]) (n : Nat) (hn : n ≤ l.length) :
    Ret Tryz.prog 80 [Pt b 0, I (n : Int)] w fun v w' => v = S (bs (l.take n)) ∧ Blk w' b 135 [S (bs (l.drop n)), B true] ∧ Ext (fun k => k = b) w w' := by
  have hsz := bs_size l
  refine calls_of_XC Tryz.func80 rfl rfl ?_
  refine .seq ?_
  refine .region ?_
  refine xo.done 1 [(0, Pt b 0), (1, I (n : Int))] (by kernel_rfl) rfl (by kernel_rfl) ?_
  refine .seq ?_
  refine .seq ?_
  refine .region ?_
  refine xo.ret 1 (by kernel_rfl) (cf78 _ _) (eye_dead _ b _ hb) ?_
  rintro _ _ ⟨rfl, rfl⟩
  refine xo.done 0 [(0, Pt b 0), (1, I (n : Int)), (7, B false)] (by kernel_rfl) rfl (by kernel_rfl) ?_
  refine .condF rfl rfl ?_
  refine .skip ?_
  refine .seq ?_
  refine .seq ?_
  refine .region ?_
  refine xo.val 1 (by kernel_rfl) (c_lss_f (show ¬ (((n : Int) : Int) < 0) from (by omega))) ?_
  refine xo.val 5 (by kernel_rfl) (ldB (t := 9) (o := 0) (by kernel_rfl) hb rfl) ?_
  refine xo.val 1 (by kernel_rfl) (c_gtr_t (show ((n : Int) : Int) ≤ ((bs l).size : Int) from (by omega))) ?_
  refine xo.done 1 [(0, Pt b 0), (1, I (n : Int)), (18, B false)] (by kernel_rfl) rfl (by kernel_rfl) ?_
  refine .condF rfl rfl ?_
  refine .skip ?_
  refine .seq ?_
  refine .region ?_
  refine xo.val 3 (by kernel_rfl) (ldB (t := 9) (o := 0) (by kernel_rfl) hb rfl) ?_
  refine xo.val 1 (by kernel_rfl) (ssl_hi (t := 9) (s := bs l) (b := (n : Int)) (by kernel_rfl) (by omega) (by omega)) ?_
  refine xo.done 1 [(0, Pt b 0), (1, I (n : Int)), (5, S ((bs l).extract 0 n))] (by kernel_rfl) rfl (by kernel_rfl) ?_
  refine .seq ?_
  refine .region ?_
  refine xo.val 4 (by kernel_rfl) (ldB (t := 9) (o := 0) (by kernel_rfl) hb rfl) ?_
  refine xo.val 1 (by kernel_rfl) (ssl_lo (t := 9) (s := bs l) (a := (n : Int)) (by kernel_rfl) (by omega) (by omega)) ?_
  refine xo.store 2 9 (o := 0) (S ((bs l).extract n (bs l).size)) [S ((bs l).extract n (bs l).size), B true] (by kernel_rfl) hb (by kernel_rfl) (by kernel_rfl) (by kernel_rfl) (by kernel_rfl) ?_
  intro w1 hb2 hx3
  have z1 := hx3.size
  refine xo.done 0 [(5, S ((bs l).extract 0 n))] (by kernel_rfl) rfl (by kernel_rfl) ?_
  refine .seq ?_
  refine .region ?_
  refine xo.done 2 [(4, S ((bs l).extract 0 n))] (by kernel_rfl) rfl (by kernel_rfl) ?_
  refine .ret ?_
  refine ⟨[S ((bs l).extract 0 n)], by kernel_rfl, _, rfl, ?_⟩
  rw [← bs_take, ← bs_drop]
  exact ⟨rfl, hb2, hx3⟩

theorem eye_raw_bad (w : World) (b : Nat) (l : List UInt8) (hb : Blk w b 135 [S (bs l), B true]) (n : Nat) (hn : l.length < n) :
    Pnc Tryz.prog 80 [Pt b 0, I (n : Int)] w fun v w' => v = fault 201 ∧ w = w' := by
  have hsz := bs_size l
  refine calls_of_XC Tryz.func80 rfl rfl ?_
  refine .seq ?_
  refine .region ?_
  refine xo.done 1 [(0, Pt b 0), (1, I (n : Int))] (by kernel_rfl) rfl (by kernel_rfl) ?_
  refine .seq ?_
  refine .seq ?_
  refine .region ?_
  refine xo.ret 1 (by kernel_rfl) (cf78 _ _) (eye_dead _ b _ hb) ?_
  rintro _ _ ⟨rfl, rfl⟩
  refine xo.done 0 [(0, Pt b 0), (1, I (n : Int)), (7, B false)] (by kernel_rfl) rfl (by kernel_rfl) ?_
  refine .condF rfl rfl ?_
  refine .skip ?_
  refine .seq ?_
  refine .seq ?_
  refine .region ?_
  refine xo.val 1 (by kernel_rfl) (c_lss_f (show ¬ (((n : Int) : Int) < 0) from (by omega))) ?_
  refine xo.val 5 (by kernel_rfl) (ldB (t := 9) (o := 0) (by kernel_rfl) hb rfl) ?_
  refine xo.val 1 (by kernel_rfl) (c_gtr_f (show ¬ (((n : Int) : Int) ≤ ((bs l).size : Int)) from (by omega))) ?_
  refine xo.done 1 [(0, Pt b 0), (1, I (n : Int)), (18, B true)] (by kernel_rfl) rfl (by kernel_rfl) ?_
  refine .condT rfl rfl ?_
  refine .region ?_
  refine xo.cpn 1 (by kernel_rfl) (cf45 _ _) (eye_fail _ b _ hb 201) ?_
  rintro _ _ ⟨rfl, rfl⟩
  refine ⟨_, rfl, ?_⟩
  exact ⟨rfl, rfl⟩

theorem num_small {x n : Nat} (h : x < 256 ^ n) (hn : n ≤ 6) : x < 36028797018963968 := by
  have : 256 ^ n ≤ 256 ^ 6 := Nat.pow_le_pow_right (by omega) hn
  omega
theorem be_step (l : List UInt8) (i : Nat) (b : UInt8) (h : l[i]? = some b) : beNat (l.take (i + 1)) = beNat (l.take i) * 256 + b.toNat := by
  obtain ⟨hi, h2⟩ := List.getElem?_eq_some_iff.1 h
  rw [List.take_succ_eq_append_getElem hi, beNat_snoc, h2]

theorem eye_num (w : World) (b : Nat) (l : List UInt8) (hb : Blk w b 135 [S (bs l), B true]) (wd : Nat) (h1 : 1 ≤ wd) (h2 : wd ≤ 6) (hn : wd ≤ l.length) :
    Ret Tryz.prog 44 [Pt b 0, I (wd : Int)] w fun v w' => v = I (beNat (l.take wd) : Int) ∧ Blk w' b 135 [S (bs (l.drop wd)), B true] ∧ Ext (fun k => k = b) w w' := by
  have hsz := bs_size l
  refine calls_of_XC Tryz.func44 rfl rfl ?_
  refine .seq ?_
  refine .region ?_
  refine xo.done 1 [(0, Pt b 0), (1, I (wd : Int))] (by kernel_rfl) rfl (by kernel_rfl) ?_
  refine .seq ?_
  refine .seq ?_
  refine .region ?_
  refine xo.ret 1 (by kernel_rfl) (cf78 _ _) (eye_dead _ b _ hb) ?_
  rintro _ _ ⟨rfl, rfl⟩
  refine xo.done 0 [(0, Pt b 0), (1, I (wd : Int)), (9, B false)] (by kernel_rfl) rfl (by kernel_rfl) ?_
  refine .condF rfl rfl ?_
  refine .skip ?_
  refine .seq ?_
  refine .seq ?_
  refine .region ?_
  refine xo.ret 1 (by kernel_rfl) (cf79 _ _) (oct_wide _ (wd : Int) (by omega) (by omega)) ?_
  rintro _ _ ⟨rfl, rfl⟩
  refine xo.done 1 [(0, Pt b 0), (1, I (wd : Int)), (12, B false)] (by kernel_rfl) rfl (by kernel_rfl) ?_
  refine .condF rfl rfl ?_
  refine .skip ?_
  refine .seq ?_
  refine .region ?_
  refine xo.done 1 [(0, Pt b 0), (1, I (wd : Int)), (5, I 0)] (by kernel_rfl) rfl (by kernel_rfl) ?_
  refine .seq ?_
  refine .seq ?_
  refine .region ?_
  refine xo.ret 2 (by kernel_rfl) (cf80 _ _) (eye_raw _ b l hb wd (by omega)) ?_
  rintro _ w2 ⟨rfl, hb1, hx3⟩
  have z2 := hx3.size
  refine xo.s2b 0 9 76 5 (bs (l.take wd)) (by kernel_rfl) (by kernel_rfl) (by kernel_rfl) ?_
  intro A4 c5 w6 hs7 hx8
  have z6 := hx8.size
  refine xo.done 2 [(0, Pt b 0), (5, I 0), (18, .slice A4 ((bs (l.take wd)).data.toList.length) c5), (19, I (((bs (l.take wd)).data.toList.length : Int))), (20, I 0)] (by kernel_rfl) rfl (by kernel_rfl) ?_
  refine .block ?_
  refine XC.loop (ι := Nat × Nat) (fun ⟨i, x⟩ => [(0, Pt b 0), (5, I (x : Int)), (18, .slice A4 ((bs (l.take wd)).data.toList.length) c5), (19, I (((bs (l.take wd)).data.toList.length : Int))), (20, I (i : Int))]) (fun ⟨i, x⟩ u => i ≤ wd ∧ x = beNat ((l.take wd).take i) ∧ w6 = u) (fun ⟨i, x⟩ => wd - i) (0, 0) (cov_of (by kernel_rfl)) ⟨by omega, by simp [beNat], rfl⟩ ?_
  rintro ⟨i, x⟩ w9 ⟨hi, hx, rfl⟩
  refine .seq ?_
  refine .region ?_
  have hlw : (bs (l.take wd)).data.toList.length = wd := by simp; omega
  by_cases hc10 : ((i : Int) : Int) < ((bs (l.take wd)).data.toList.length : Int)
  · refine xo.val 0 (by kernel_rfl) (c_lss_t hc10) ?_
    refine xo.done 0 [(0, Pt b 0), (5, I (x : Int)), (18, .slice A4 ((bs (l.take wd)).data.toList.length) c5), (19, I (((bs (l.take wd)).data.toList.length : Int))), (20, I (i : Int)), (21, B true)] (by kernel_rfl) rfl (by kernel_rfl) ?_
    refine .seq ?_
    refine .condT rfl rfl ?_
    refine .skip ?_
    refine .seq ?_
    refine .block ?_
    refine .seq ?_
    refine .region ?_
    obtain ⟨b11, o12, x13, hi14, hA15, hl16, hh17, hr18⟩ := hs7.at_ i (by simp; omega)
    refine xo.val 0 (by kernel_rfl) (idxN (kk := .i64) (t := 76) (n := (bs (l.take wd)).data.toList.length) (cap := c5) (sz := 1) (i := i) (by kernel_rfl) hA15 (by simp; omega)) ?_
    have hby := x13.toNat_lt
    have hx6 := beNat_lt ((l.take wd).take i)
    rw [← hx] at hx6
    have hx7 : x < 36028797018963968 := num_small (n := ((l.take wd).take i).length) hx6 (by rw [List.length_take, List.length_take]; omega)
    refine xo.val 0 (by kernel_rfl) (ld (t := 5) (by kernel_rfl) (hr18 0 _ rfl)) ?_
    refine xo.done 1 [(0, Pt b 0), (5, I (x : Int)), (7, .int .u8 (x13.toNat : Int)), (18, .slice A4 ((bs (l.take wd)).data.toList.length) c5), (19, I (((bs (l.take wd)).data.toList.length : Int))), (20, I (i : Int))] (by kernel_rfl) rfl (by kernel_rfl) ?_
    refine .region ?_
    refine xo.val 1 (by kernel_rfl) (shl8 (x := x) (by omega)) ?_
    refine xo.val 1 (by kernel_rfl) (cv_ok (x := (x13.toNat : Int)) (by omega) (by omega)) ?_
    refine xo.val 0 (by kernel_rfl) (or8 (x := x) (c := x13.toNat) (by omega) (by omega)) ?_
    refine xo.done 1 [(0, Pt b 0), (5, I (((x * 256 + x13.toNat : Nat) : Int))), (18, .slice A4 ((bs (l.take wd)).data.toList.length) c5), (19, I (((bs (l.take wd)).data.toList.length : Int))), (20, I (i : Int))] (by kernel_rfl) rfl (by kernel_rfl) ?_
    refine .region ?_
    refine xo.val 0 (by kernel_rfl) (a_add (a := (i : Int)) (b := 1) (by omega) (by omega)) ?_
    refine xo.fin 1 (by kernel_rfl) rfl ?_
    exact ⟨(i + 1, x * 256 + x13.toNat), cov_of (by kernel_rfl), ⟨by omega, by rw [be_step _ i x13 (by assumption), ← hx], rfl⟩, by show wd - (i + 1) < wd - i; omega⟩
  · refine xo.val 0 (by kernel_rfl) (c_lss_f hc10) ?_
    refine xo.done 0 [(0, Pt b 0), (5, I (x : Int)), (18, .slice A4 ((bs (l.take wd)).data.toList.length) c5), (19, I (((bs (l.take wd)).data.toList.length : Int))), (20, I (i : Int)), (21, B false)] (by kernel_rfl) rfl (by kernel_rfl) ?_
    refine .seq ?_
    refine .condF rfl rfl ?_
    refine .exit ?_
    refine xsetTo ?_
    refine .seq ?_
    refine .seq ?_
    refine .region ?_
    refine xo.val 1 (by kernel_rfl) (c_lss_f (show ¬ (((x : Int) : Int) < 0) from (by omega))) ?_
    refine xo.done 0 [(0, Pt b 0), (5, I (x : Int)), (31, B false)] (by kernel_rfl) rfl (by kernel_rfl) ?_
    refine .condF rfl rfl ?_
    refine .skip ?_
    refine .seq ?_
    refine .region ?_
    refine xo.done 2 [(4, I (x : Int))] (by kernel_rfl) rfl (by kernel_rfl) ?_
    refine .ret ?_
    refine ⟨[I (x : Int)], by kernel_rfl, _, rfl, ?_⟩
    have hb19 := (hb1.ext hx8 (fun h => h))
    have hi2 : i = wd := by omega
    subst hi2
    rw [List.take_take, Nat.min_self] at hx
    subst hx
    exact ⟨rfl, hb19, ((hx3.weak fun b hb e => e).trans' hx8 (fun _ _ h => h) (fun b hb h => h.elim))⟩

theorem eye_num_bad (w : World) (b : Nat) (l : List UInt8) (hb : Blk w b 135 [S (bs l), B true]) (wd : Nat) (h1 : 1 ≤ wd) (h2 : wd ≤ 6) (hn : l.length < wd) :
    Pnc Tryz.prog 44 [Pt b 0, I (wd : Int)] w fun v w' => v = fault 201 ∧ w = w' := by
  have hsz := bs_size l
  refine calls_of_XC Tryz.func44 rfl rfl ?_
  refine .seq ?_
  refine .region ?_
  refine xo.done 1 [(0, Pt b 0), (1, I (wd : Int))] (by kernel_rfl) rfl (by kernel_rfl) ?_
  refine .seq ?_
  refine .seq ?_
  refine .region ?_
  refine xo.ret 1 (by kernel_rfl) (cf78 _ _) (eye_dead _ b _ hb) ?_
  rintro _ _ ⟨rfl, rfl⟩
  refine xo.done 0 [(0, Pt b 0), (1, I (wd : Int)), (9, B false)] (by kernel_rfl) rfl (by kernel_rfl) ?_
  refine .condF rfl rfl ?_
  refine .skip ?_
  refine .seq ?_
  refine .seq ?_
  refine .region ?_
  refine xo.ret 1 (by kernel_rfl) (cf79 _ _) (oct_wide _ (wd : Int) (by omega) (by omega)) ?_
  rintro _ _ ⟨rfl, rfl⟩
  refine xo.done 1 [(0, Pt b 0), (1, I (wd : Int)), (12, B false)] (by kernel_rfl) rfl (by kernel_rfl) ?_
  refine .condF rfl rfl ?_
  refine .skip ?_
  refine .seq ?_
  refine .region ?_
  refine xo.done 1 [(0, Pt b 0), (1, I (wd : Int)), (5, I 0)] (by kernel_rfl) rfl (by kernel_rfl) ?_
  refine .seq ?_
  refine .seq ?_
  refine .region ?_
  refine xo.cpn 2 (by kernel_rfl) (cf80 _ _) (eye_raw_bad _ b l hb wd (by omega)) ?_
  rintro _ _ ⟨rfl, rfl⟩
  refine ⟨_, rfl, ?_⟩
  exact ⟨rfl, rfl⟩

theorem eye_text0 (w : World) (b : Nat) (l : List UInt8) (hb : Blk w b 135 [S (bs l), B true]) (most : Nat) (h2 : 2 ≤ l.length) (hm : beNat (l.take 2) ≤ most) (hn : beNat (l.take 2) ≤ (l.drop 2).length) :
    Ret Tryz.prog 46 [Pt b 0, I (most : Int)] w fun v w' => v = S (bs ((l.drop 2).take (beNat (l.take 2)))) ∧ Blk w' b 135 [S (bs ((l.drop 2).drop (beNat (l.take 2)))), B true] ∧ Ext (fun k => k = b) w w' := by
  refine calls_of_XC Tryz.func46 rfl rfl ?_
  refine .seq ?_
  refine .region ?_
  refine xo.done 1 [(0, Pt b 0), (1, I (most : Int))] (by kernel_rfl) rfl (by kernel_rfl) ?_
  refine .seq ?_
  refine .region ?_
  refine xo.ret 1 (by kernel_rfl) (cf44 _ _) (eye_num _ b l hb 2 (by omega) (by omega) (by omega)) ?_
  rintro _ w2 ⟨rfl, hb1, hx3⟩
  have z2 := hx3.size
  refine xo.done 1 [(0, Pt b 0), (1, I (most : Int)), (5, I ((beNat (l.take 2) : Int)))] (by kernel_rfl) rfl (by kernel_rfl) ?_
  refine .seq ?_
  refine .seq ?_
  refine .region ?_
  refine xo.val 2 (by kernel_rfl) (c_gtr_t (show ((beNat (l.take 2) : Int) : Int) ≤ (most : Int) from (by omega))) ?_
  refine xo.done 0 [(0, Pt b 0), (5, I ((beNat (l.take 2) : Int))), (10, B false)] (by kernel_rfl) rfl (by kernel_rfl) ?_
  refine .condF rfl rfl ?_
  refine .skip ?_
  refine .seq ?_
  refine .region ?_
  refine xo.ret 2 (by kernel_rfl) (cf80 _ _) (eye_raw _ b (l.drop 2) hb1 (beNat (l.take 2)) (by omega)) ?_
  rintro _ w5 ⟨rfl, hb4, hx6⟩
  have z5 := hx6.size
  refine xo.done 1 [(4, S (bs ((l.drop 2).take (beNat (l.take 2)))))] (by kernel_rfl) rfl (by kernel_rfl) ?_
  refine .ret ?_
  refine ⟨[S (bs ((l.drop 2).take (beNat (l.take 2))))], by kernel_rfl, _, rfl, ?_⟩
  exact ⟨rfl, hb4, ((hx3.weak fun b hb e => e).trans' hx6 (fun _ _ h => h) (fun b hb e => e))⟩

theorem eye_text1 (w : World) (b : Nat) (l : List UInt8) (hb : Blk w b 135 [S (bs l), B true]) (most : Nat) (h2 : l.length < 2) :
    Pnc Tryz.prog 46 [Pt b 0, I (most : Int)] w fun v w' => v = fault 201 ∧ w = w' := by
  refine calls_of_XC Tryz.func46 rfl rfl ?_
  refine .seq ?_
  refine .region ?_
  refine xo.done 1 [(0, Pt b 0), (1, I (most : Int))] (by kernel_rfl) rfl (by kernel_rfl) ?_
  refine .seq ?_
  refine .region ?_
  refine xo.cpn 1 (by kernel_rfl) (cf44 _ _) (eye_num_bad _ b l hb 2 (by omega) (by omega) (by omega)) ?_
  rintro _ _ ⟨rfl, rfl⟩
  refine ⟨_, rfl, ?_⟩
  exact ⟨rfl, rfl⟩

theorem eye_text2 (w : World) (b : Nat) (l : List UInt8) (hb : Blk w b 135 [S (bs l), B true]) (most : Nat) (h2 : 2 ≤ l.length) (hm : most < beNat (l.take 2)) :
    Pnc Tryz.prog 46 [Pt b 0, I (most : Int)] w fun v w' => v = fault 203 ∧ Blk w' b 135 [S (bs (l.drop 2)), B true] ∧ Ext (fun k => k = b) w w' := by
  refine calls_of_XC Tryz.func46 rfl rfl ?_
  refine .seq ?_
  refine .region ?_
  refine xo.done 1 [(0, Pt b 0), (1, I (most : Int))] (by kernel_rfl) rfl (by kernel_rfl) ?_
  refine .seq ?_
  refine .region ?_
  refine xo.ret 1 (by kernel_rfl) (cf44 _ _) (eye_num _ b l hb 2 (by omega) (by omega) (by omega)) ?_
  rintro _ w2 ⟨rfl, hb1, hx3⟩
  have z2 := hx3.size
  refine xo.done 1 [(0, Pt b 0), (1, I (most : Int)), (5, I ((beNat (l.take 2) : Int)))] (by kernel_rfl) rfl (by kernel_rfl) ?_
  refine .seq ?_
  refine .seq ?_
  refine .region ?_
  refine xo.val 2 (by kernel_rfl) (c_gtr_f (show ¬ (((beNat (l.take 2) : Int) : Int) ≤ (most : Int)) from (by omega))) ?_
  refine xo.done 0 [(0, Pt b 0), (5, I ((beNat (l.take 2) : Int))), (10, B true)] (by kernel_rfl) rfl (by kernel_rfl) ?_
  refine .condT rfl rfl ?_
  refine .region ?_
  refine xo.cpn 1 (by kernel_rfl) (cf45 _ _) (eye_fail _ b _ hb1 203) ?_
  rintro _ _ ⟨rfl, rfl⟩
  refine ⟨_, rfl, ?_⟩
  exact ⟨rfl, hb1, (hx3.weak fun b hb e => e)⟩

theorem eye_text3 (w : World) (b : Nat) (l : List UInt8) (hb : Blk w b 135 [S (bs l), B true]) (most : Nat) (h2 : 2 ≤ l.length) (hm : beNat (l.take 2) ≤ most) (hn : (l.drop 2).length < beNat (l.take 2)) :
    Pnc Tryz.prog 46 [Pt b 0, I (most : Int)] w fun v w' => v = fault 201 ∧ Blk w' b 135 [S (bs (l.drop 2)), B true] ∧ Ext (fun k => k = b) w w' := by
  refine calls_of_XC Tryz.func46 rfl rfl ?_
  refine .seq ?_
  refine .region ?_
  refine xo.done 1 [(0, Pt b 0), (1, I (most : Int))] (by kernel_rfl) rfl (by kernel_rfl) ?_
  refine .seq ?_
  refine .region ?_
  refine xo.ret 1 (by kernel_rfl) (cf44 _ _) (eye_num _ b l hb 2 (by omega) (by omega) (by omega)) ?_
  rintro _ w2 ⟨rfl, hb1, hx3⟩
  have z2 := hx3.size
  refine xo.done 1 [(0, Pt b 0), (1, I (most : Int)), (5, I ((beNat (l.take 2) : Int)))] (by kernel_rfl) rfl (by kernel_rfl) ?_
  refine .seq ?_
  refine .seq ?_
  refine .region ?_
  refine xo.val 2 (by kernel_rfl) (c_gtr_t (show ((beNat (l.take 2) : Int) : Int) ≤ (most : Int) from (by omega))) ?_
  refine xo.done 0 [(0, Pt b 0), (5, I ((beNat (l.take 2) : Int))), (10, B false)] (by kernel_rfl) rfl (by kernel_rfl) ?_
  refine .condF rfl rfl ?_
  refine .skip ?_
  refine .seq ?_
  refine .region ?_
  refine xo.cpn 2 (by kernel_rfl) (cf80 _ _) (eye_raw_bad _ b (l.drop 2) hb1 (beNat (l.take 2)) (by omega)) ?_
  rintro _ _ ⟨rfl, rfl⟩
  refine ⟨_, rfl, ?_⟩
  exact ⟨rfl, hb1, (hx3.weak fun b hb e => e)⟩

theorem eye_text (w : World) (b : Nat) (l : List UInt8) (hb : Blk w b 135 [S (bs l), B true]) (most : Nat) {t r : List UInt8} (h : pText most l = some (t, r)) :
    Ret Tryz.prog 46 [Pt b 0, I (most : Int)] w fun v w' => v = S (bs t) ∧ Blk w' b 135 [S (bs r), B true] ∧ Ext (fun k => k = b) w w' := by
  unfold pText pNum at h
  by_cases h2 : 2 ≤ l.length
  · simp only [h2, if_true] at h
    split at h
    · rename_i hc
      simp only [Option.some.injEq, Prod.mk.injEq] at h
      obtain ⟨rfl, rfl⟩ := h
      exact eye_text0 w b l hb most h2 hc.1 hc.2
    · cases h
  · simp [h2] at h
theorem eye_text_bad (w : World) (b : Nat) (l : List UInt8) (hb : Blk w b 135 [S (bs l), B true]) (most : Nat) (h : pText most l = none) :
    Pnc Tryz.prog 46 [Pt b 0, I (most : Int)] w fun v w' => ∃ c, c ≠ 0 ∧ v = fault c ∧ (∃ s, Blk w' b 135 [S s, B true]) ∧ Ext (fun k => k = b) w w' := by
  by_cases h2 : 2 ≤ l.length
  · by_cases hm : beNat (l.take 2) ≤ most
    · by_cases hn : beNat (l.take 2) ≤ (l.drop 2).length
      · simp only [pText, pNum, h2, if_true, hm, hn, and_self] at h
        cases h
      · exact (eye_text3 w b l hb most h2 hm (by omega)).mono fun v w' ⟨h1, h2, h3⟩ => ⟨_, by decide, h1, ⟨_, h2⟩, h3⟩
    · exact (eye_text2 w b l hb most h2 (by omega)).mono fun v w' ⟨h1, h2, h3⟩ => ⟨_, by decide, h1, ⟨_, h2⟩, h3⟩
  · exact (eye_text1 w b l hb most (by omega)).mono fun v w' ⟨h1, h2⟩ => by subst h2; exact ⟨_, by decide, h1, ⟨_, hb⟩, .refl _ _⟩

end Go.Proofs.YtbajgpadmlnffaaGreat
/- octet.Read: what it hands back. -/
namespace Go.Proofs.YtbajgpadmlnffaaGreat
open Go.V
set_option maxRecDepth 100000
set_option linter.unusedVariables false
set_option linter.unusedSimpArgs false

theorem read_back (w : World) (be_ bx_ e : Nat) (s : ByteArray) (c0 : Int) (h4 : Blk w be_ 27 [I c0]) (h5 : Blk w bx_ 77 [Pt e 0]) (he : Blk w e 135 [S s, B true]) :
    CallsD Tryz.prog 77 [Pt bx_ 0, Pt be_ 0].toArray .returning w fun x u' w' => x = .returned (.tuple #[]) ∧ u' = .returning ∧ (Blk w' be_ 27 [I c0] ∧ Ext (fun k => k = e ∨ k = be_) w w') := by
  have n1 : be_ ≠ e := Blk.ne h4 he rfl
  have n2 : bx_ ≠ e := Blk.ne h5 he rfl
  have n3 : be_ ≠ bx_ := Blk.ne h4 h5 rfl
  have l4 := h4.lt
  refine callsD_rec (fn := Tryz.f77) (o := { dst := some 8, op := .call { callee := .builtin .recover, args := #[], argTypes := #[] }, type := 20, pos := "octet.go:41", after := #[], guard := none }) (v := .nilIface) (u' := .returning) (e1 := [(0, Pt bx_ 0), (1, Pt be_ 0)]) Tryz.func77 rfl rfl rfl rfl (fun _ _ => rfl) (.inr ⟨rfl, rfl, rfl⟩) ?_
  refine .region ?_
  refine xo.val 0 (by kernel_rfl) (ldB (t := 77) (o := 0) (by kernel_rfl) h5 rfl) ?_
  refine xo.store 2 4 (o := 1) (B false) [S s, B false] (by kernel_rfl) he (by kernel_rfl) (by kernel_rfl) (by kernel_rfl) (by kernel_rfl) ?_
  intro w1 hb2 hx3
  have z1 := hx3.size
  refine xo.fin 0 (by kernel_rfl) rfl ?_
  refine ⟨cov_of (by kernel_rfl), ?_⟩
  refine .block ?_
  refine .seq ?_
  refine .region ?_
  refine xo.done 1 [(1, Pt be_ 0), (8, .nilIface), (10, B true)] (by kernel_rfl) rfl (by kernel_rfl) ?_
  refine .condT rfl rfl ?_
  refine .region ?_
  refine xo.fin 1 (by kernel_rfl) rfl ?_
  have hb4 := (h4.ext hx3 n1)
  exact ⟨hb4, (hx3.weak fun b hb (q : b = e) => .inl q)⟩

theorem read_caught (w : World) (be_ bx_ e : Nat) (s : ByteArray) (c0 : Int) (h4 : Blk w be_ 27 [I c0]) (h5 : Blk w bx_ 77 [Pt e 0]) (he : Blk w e 135 [S s, B true]) (c : Int) :
    CallsD Tryz.prog 77 [Pt bx_ 0, Pt be_ 0].toArray (.panicking (fault c)) w fun x u' w' => x = .returned (.tuple #[]) ∧ u' = (.panicking [{ v := .iface 137 (.agg #[I c]), recovered := true }]) ∧ (Blk w' be_ 27 [I c] ∧ Ext (fun k => k = e ∨ k = be_) w w') := by
  have n1 : be_ ≠ e := Blk.ne h4 he rfl
  have n2 : bx_ ≠ e := Blk.ne h5 he rfl
  have n3 : be_ ≠ bx_ := Blk.ne h4 h5 rfl
  have l4 := h4.lt
  refine callsD_rec (fn := Tryz.f77) (o := { dst := some 8, op := .call { callee := .builtin .recover, args := #[], argTypes := #[] }, type := 20, pos := "octet.go:41", after := #[], guard := none }) (v := .iface 137 (.agg #[I c])) (u' := (.panicking [{ v := .iface 137 (.agg #[I c]), recovered := true }])) (e1 := [(0, Pt bx_ 0), (1, Pt be_ 0)]) Tryz.func77 rfl rfl rfl rfl (fun _ _ => rfl) (.inl ⟨_, _, rfl, rfl, rfl⟩) ?_
  refine .region ?_
  refine xo.val 0 (by kernel_rfl) (ldB (t := 77) (o := 0) (by kernel_rfl) h5 rfl) ?_
  refine xo.store 2 4 (o := 1) (B false) [S s, B false] (by kernel_rfl) he (by kernel_rfl) (by kernel_rfl) (by kernel_rfl) (by kernel_rfl) ?_
  intro w1 hb2 hx3
  have z1 := hx3.size
  refine xo.fin 0 (by kernel_rfl) rfl ?_
  refine ⟨cov_of (by kernel_rfl), ?_⟩
  refine .block ?_
  refine .seq ?_
  refine .region ?_
  refine xo.done 1 [(1, Pt be_ 0), (8, .iface 137 (.agg #[I c])), (10, B false)] (by kernel_rfl) rfl (by kernel_rfl) ?_
  refine .condF rfl rfl ?_
  refine .seq ?_
  refine .region ?_
  refine xo.done 3 [(1, Pt be_ 0), (8, .iface 137 (.agg #[I c])), (12, B true), (13, .agg #[I c])] (by kernel_rfl) rfl (by kernel_rfl) ?_
  refine .condT rfl rfl ?_
  refine .seq ?_
  refine .region ?_
  refine xo.alloc 0 137 [I 0] (by kernel_rfl) (by kernel_rfl) ?_
  intro b4 w5 hb6 hx7 hg8
  have z5 := hx7.size
  have l6 := hb6.lt
  refine xo.store 0 137 (o := 0) (.agg #[I c]) [I c] (by kernel_rfl) hb6 (by kernel_rfl) (by kernel_rfl) (by kernel_rfl) (by kernel_rfl) ?_
  intro w9 hb10 hx11
  have z9 := hx11.size
  refine xo.done 0 [(1, Pt be_ 0), (3, Pt b4 0)] (by kernel_rfl) rfl (by kernel_rfl) ?_
  refine .region ?_
  refine xo.val 1 (by kernel_rfl) (ldB (t := 27) (o := 0) (by kernel_rfl) hb10 rfl) ?_
  have hb12 := (((h4.ext hx3 n1).ext hx7 (fun h => h)).ext hx11 (show be_ ≠ b4 by omega))
  refine xo.store 0 27 (o := 0) (I c) [I c] (by kernel_rfl) hb12 (by kernel_rfl) (by kernel_rfl) (by kernel_rfl) (by kernel_rfl) ?_
  intro w13 hb14 hx15
  have z13 := hx15.size
  refine xo.fin 0 (by kernel_rfl) rfl ?_
  exact ⟨hb14, ((((hx3.weak fun b hb (q : b = e) => .inl q).trans' hx7 (fun _ _ h => h) (fun b hb q => q.elim)).trans' hx11 (fun _ _ h => h) (fun b hb (q : b = b4) => absurd hb (by omega))).trans' hx15 (fun _ _ h => h) (fun b hb (q : b = be_) => .inr q))⟩

theorem res_cell {w : World} {a : Act} {b : Nat} {c : Int} (h : Blk w b 27 [I c]) (ha : a.tmps[4]? = some (Pt b 0)) : (results Tryz.f42 a.tmps).run Tryz.prog w = .ok (I c) w := by
  have h1 : (loadVar 27 ⟨b, 0, none⟩).run Tryz.prog w = .ok (I c) w := by
    have h2 : w.cell? ⟨b, 0, none⟩ = some (I c) := h.cs 0 _ rfl
    have h3 := run_isAgg_plain (P := Tryz.prog) (w := w) (t := 27) (by kernel_rfl)
    simp only [loadVar, Sem.run_bind, h3, Result.andThen_ok, Bool.false_eq_true, if_false]
    exact run_load_cell h2
  have hr : Tryz.f42.results = #[.cell 4 27] := rfl
  simp [results, hr, ha, asAddr, h1]

/-- What the looking came to. -/
def LookPost (e : Nat) (x : Ending) (w2 : World) : Except Int (List UInt8) → Prop
  | .ok l2 => x = .returned (.tuple #[]) ∧ Blk w2 e 135 [S (bs l2), B true]
  | .error c => c ≠ 0 ∧ x = .panicked (fault c) ∧ ∃ s, Blk w2 e 135 [S s, B true]
def readCode : Except Int (List UInt8) → Int
  | .ok [] => 0
  | .ok _ => 201
  | .error c => c

set_option maxHeartbeats 1000000 in
theorem oct_read (w : World) (lo hi : Nat) (A : Option Addr) (cap : Nat) (l : List UInt8) (h : Rd (kU8 5) w lo hi A l) (hh : hi ≤ w.heap.size) (fid : FuncId) (caps : List Value)
    (G : World → World → Except Int (List UInt8) → Prop) (hcf : ∀ (args : Array Value) (w : World), (callFunc fid args).run Tryz.prog w = .ok (.enter fid args) w)
    (hlook : ∀ e w1, Blk w1 e 135 [S (bs l), B true] → Ext No w w1 → w.heap.size ≤ e → e < w1.heap.size →
      Calls Tryz.prog fid (Pt e 0 :: caps).toArray w1 fun x w2 => ∃ out, LookPost e x w2 out ∧ G w1 w2 out ∧ Ext (fun k => k < w.heap.size ∨ k = e) w1 w2) :
    Ret Tryz.prog 42 [.slice A l.length cap, .func (.func fid) #[] caps.toArray] w fun v w' =>
      ∃ w1 w2 out, Ext No w w1 ∧ G w1 w2 out ∧ Ext (fun k => w.heap.size ≤ k ∧ k < w1.heap.size) w2 w' ∧ w1.heap.size ≤ w2.heap.size ∧ v = I (readCode out) := by
  refine calls_of_wp_defers Tryz.func42 rfl ?_
  have ha := agree_args (n := Tryz.f42.ntmps) (args := [.slice A l.length cap, .func (.func fid) #[] caps.toArray]) rfl
  refine wp_of_XC ha (fun _ _ _ => False) (fun _ _ _ _ h => h.elim) ?_
  refine .region ?_
  refine xo.alloc 0 27 [I 0] (by kernel_rfl) (by kernel_rfl) ?_
  intro b1 w2 hb3 hx4 hg5
  have z2 := hx4.size
  have l3 := hb3.lt
  refine xo.fin 0 (by kernel_rfl) rfl ?_
  intro a1 ha1
  have ha1' := ha1.cov (e' := [(0, .slice A l.length cap), (1, .func (.func fid) #[] caps.toArray), (4, Pt b1 0)]) (cov_of (by kernel_rfl))
  refine wp_of_XC ha1' (fun _ _ _ => False) (fun _ _ _ _ h => h.elim) ?_
  refine .region ?_
  have hs6 := (h.ext hx4 (fun _ _ _ h => h))
  refine xo.val 1 (by kernel_rfl) (conv_bs (cap := cap) (src := 76) (dst := 9) (by kernel_rfl) (by kernel_rfl) hs6) ?_
  refine xo.box 1 135 (.agg #[S (⟨(l).toArray⟩), B true]) [S (⟨(l).toArray⟩), B true] (by kernel_rfl) (by kernel_rfl) ?_
  intro b7 w8 hb9 hx10 hg11
  have z8 := hx10.size
  have l9 := hb9.lt
  refine xo.alloc 0 77 [.pointer none] (by kernel_rfl) (by kernel_rfl) ?_
  intro b12 w13 hb14 hx15 hg16
  have z13 := hx15.size
  have l14 := hb14.lt
  refine xo.store 0 77 (o := 0) (Pt b7 0) [Pt b7 0] (by kernel_rfl) hb14 (by kernel_rfl) (by kernel_rfl) (by kernel_rfl) (by kernel_rfl) ?_
  intro w17 hb18 hx19
  have z17 := hx19.size
  refine xo.fin 0 (by kernel_rfl) rfl ?_
  intro a2 ha2
  have ha2' := ha2.cov (e' := [(0, .slice A l.length cap), (1, .func (.func fid) #[] caps.toArray), (4, Pt b1 0), (5, Pt b12 0)]) (cov_of (by kernel_rfl))
  refine wp_regionDefer ha2' 1 ⟨.fn (.func 77) #[Pt b12 0, Pt b1 0], #[]⟩ ((10, .func (.func 77) #[] #[Pt b12 0, Pt b1 0]) :: [(0, .slice A l.length cap), (1, .func (.func fid) #[] caps.toArray), (4, Pt b1 0), (5, Pt b12 0)]) _ (by kernel_rfl) rfl rfl rfl rfl (by kernel_rfl) ?_
  intro a3 ha3
  have ha3' := ha3.cov (e' := [(1, .func (.func fid) #[] caps.toArray), (4, Pt b1 0), (5, Pt b12 0)]) (cov_of (by kernel_rfl))
  have hb20 := (((hb3.ext hx10 (fun h => h)).ext hx15 (fun h => h)).ext hx19 (show b1 ≠ b12 by omega))
  have hb21 := ((hb9.ext hx15 (fun h => h)).ext hx19 (show b7 ≠ b12 by omega))
  have lt_b1 := hb20.lt
  have lt_b12 := hb18.lt
  have lt_b7 := hb21.lt
  have nE : b1 ≠ b7 := Blk.ne hb20 hb21 rfl
  have nB : b12 ≠ b7 := Blk.ne hb18 hb21 rfl
  have E0 : Ext No w w17 := (((hx4.trans' hx10 (fun _ _ h => h) (fun b hb h => h)).trans' hx15 (fun _ _ h => h) (fun b hb h => h)).trans' hx19 (fun _ _ h => h) (fun b hb (e : b = b12) => absurd hb (by omega)))
  have hl := hlook b7 w17 hb21 E0 (by omega) hb21.lt
  -- what holds behind the body, whichever way it ends
  let Fin : Int → World → Prop := fun c w' => ∃ w2 out s c0, G w17 w2 out ∧ Ext (fun k => w.heap.size ≤ k ∧ k < w17.heap.size) w2 w' ∧ w17.heap.size ≤ w2.heap.size ∧ c = readCode out ∧ Blk w' b1 27 [I c0] ∧ Blk w' b12 77 [Pt b7 0] ∧ Blk w' b7 135 [S s, B true] ∧ (c = 0 → c0 = 0)
  refine wp_mono ((?key : XC Tryz.prog Tryz.f42.ntmps [⟨.fn (.func 77) #[Pt b12 0, Pt b1 0], #[]⟩] _ (fun _ _ => False) (fun _ _ _ => False) (fun e w' => eget e 4 = some (Pt b1 0) ∧ Fin 0 w')
      (fun ch e w' => eget e 4 = some (Pt b1 0) ∧ ∃ c, ch = fault c ∧ Fin c w') [(1, .func (.func fid) #[] caps.toArray), (4, Pt b1 0), (5, Pt b12 0)] w17) a3 ha3') ?rest
  case key =>
    refine .seq ?_
    refine .seq ?_
    refine .region ?_
    refine xo.done 2 [(1, .func (.func fid) #[] caps.toArray), (4, Pt b1 0), (5, Pt b12 0), (12, B true)] (by kernel_rfl) rfl (by kernel_rfl) ?_
    refine .condT rfl rfl ?_
    refine .region ?_
    refine xo.val 1 (by kernel_rfl) (ldB (t := 77) (o := 0) (by kernel_rfl) hb18 rfl) ?_
    refine xo.any 0 (S := callFunc fid (#[Pt b7 0] ++ caps.toArray)) (by kernel_rfl) (by rw [show #[Pt b7 0] ++ caps.toArray = (Pt b7 0 :: caps).toArray from by simp]; exact hcf _ _) hl ?_ ?_ (fun w2 ⟨out, h1, _⟩ => by cases out <;> simp [LookPost] at h1)
    · rintro v w22 ⟨out, hp, hG, hX⟩
      have zz := hX.size
      cases out with
      | error c => exact absurd hp.2.1 (by simp)
      | ok l2 =>
        obtain ⟨hv, hbe⟩ := hp
        simp only [Ending.returned.injEq] at hv
        subst hv
        refine xo.done 0 [(4, Pt b1 0), (5, Pt b12 0)] (by kernel_rfl) rfl (by kernel_rfl) ?_
        refine .seq ?_
        refine .seq ?_
        refine .region ?_
        have hb23 := (hb18.ext hX (fun h => by omega))
        refine xo.val 0 (by kernel_rfl) (ldB (t := 77) (o := 0) (by kernel_rfl) hb23 rfl) ?_
        refine xo.val 2 (by kernel_rfl) (ldB (t := 9) (o := 0) (by kernel_rfl) hbe rfl) ?_
        by_cases hne : bs l2 = ⟨#[]⟩
        · refine xo.val 0 (by kernel_rfl) (s_neq_t hne) ?_
          obtain rfl : l2 = [] := bs_inj hne
          refine xo.done 0 [(4, Pt b1 0), (5, Pt b12 0), (20, B false)] (by kernel_rfl) rfl (by kernel_rfl) ?_
          refine .condF rfl rfl ?_
          refine .skip ?_
          refine .seq ?_
          refine .region ?_
          have hb24 := (hb20.ext hX (fun h => by omega))
          refine xo.store 0 27 (o := 0) (I 0) [I 0] (by kernel_rfl) hb24 (by kernel_rfl) (by kernel_rfl) (by kernel_rfl) (by kernel_rfl) ?_
          intro w25 hb26 hx27
          have z25 := hx27.size
          refine xo.done 0 [(4, Pt b1 0)] (by kernel_rfl) rfl (by kernel_rfl) ?_
          refine .ret ?_
          have hb28 := (hb23.ext hx27 (show b12 ≠ b1 by omega))
          have hb29 := (hbe.ext hx27 (show b7 ≠ b1 by omega))
          refine ⟨by kernel_rfl, _, _, _, 0, hG, hx27.weak (fun b hb (q : b = b1) => ⟨by omega, by omega⟩), zz, rfl, hb26, hb28, hb29, fun _ => rfl⟩
        · refine xo.val 0 (by kernel_rfl) (s_neq_f hne) ?_
          refine xo.done 0 [(4, Pt b1 0), (5, Pt b12 0), (20, B true)] (by kernel_rfl) rfl (by kernel_rfl) ?_
          refine .condT rfl rfl ?_
          refine .region ?_
          refine xo.val 0 (by kernel_rfl) (ldB (t := 77) (o := 0) (by kernel_rfl) hb23 rfl) ?_
          refine xo.cpn 0 (by kernel_rfl) (cf45 _ _) (eye_fail _ b7 _ hbe 201) ?_
          rintro _ _ ⟨rfl, rfl⟩
          have hb30 := (hb20.ext hX (fun h => by omega))
          have hl2 : ∃ x r, l2 = x :: r := by cases l2 with | nil => exact absurd rfl hne | cons x r => exact ⟨x, r, rfl⟩
          obtain ⟨x2, r2, rfl⟩ := hl2
          exact ⟨by kernel_rfl, 201, rfl, _, _, _, 0, hG, .refl _ _, zz, rfl, hb30, hb23, hbe, fun h => absurd h (by decide)⟩
    · rintro ch w31 ⟨out, hp, hG, hX⟩
      have zz := hX.size
      cases out with
      | ok l2 => exact absurd hp.1 (by simp)
      | error c =>
        obtain ⟨hc, hv, s, hbe⟩ := hp
        simp only [Ending.panicked.injEq] at hv
        subst hv
        refine ⟨by kernel_rfl, c, rfl, w31, _, s, 0, hG, .refl _ _, zz, rfl, hb20.ext hX (fun h => by omega), hb18.ext hX (fun h => by omega), hbe, fun h => absurd h hc⟩
  case rest =>
    rintro x a' w' ⟨e', q1, q2⟩
    cases x with
    | exit id => exact q2.elim
    | goto l => exact q2.elim
    | normal => exact q2.elim
    | outgrown => exact q2.elim
    | ret =>
      obtain ⟨q3, w2, out, s, c0, q4, q5, q6, q7, q8, q9, q10, q11⟩ := q2
      obtain rfl := q11 rfl
      show Leaves Tryz.prog Tryz.f42 a'.tmps _ a'.defers .returning w'
      rw [q1.defers]
      refine leaves_cons (f := 77) (args := [Pt b12 0, Pt b1 0].toArray) (by simp) (cf77 _ _) ?_
      refine (read_back w' b1 b12 b7 s 0 q8 q9 q10).mono ?_
      rintro x u w'' ⟨rfl, rfl, h27, hext⟩
      have r1 : (results Tryz.f42 a'.tmps).run Tryz.prog w'' = .ok (I 0) w'' := res_cell h27 (q1.get _ _ q3)
      refine ⟨_, r1, _, rfl, w17, w2, out, E0, q4, q5.trans' hext (fun _ _ h => h) (fun b hb hk => ?_), q6, by rw [q7]⟩
      rcases hk with rfl | rfl <;> exact ⟨by omega, by omega⟩
    | panic ch =>
      obtain ⟨q3, c, rfl, w2, out, s, c0, q4, q5, q6, q7, q8, q9, q10, q11⟩ := q2
      show Leaves Tryz.prog Tryz.f42 a'.tmps _ a'.defers (.panicking (fault c)) w'
      rw [q1.defers]
      refine leaves_cons (f := 77) (args := [Pt b12 0, Pt b1 0].toArray) (by simp) (cf77 _ _) ?_
      refine (read_caught w' b1 b12 b7 s c0 q8 q9 q10 c).mono ?_
      rintro x u w'' ⟨rfl, rfl, h27, hext⟩
      have r1 : (results Tryz.f42 a'.tmps).run Tryz.prog w'' = .ok (I c) w'' := res_cell h27 (q1.get _ _ q3)
      refine ⟨_, r1, _, rfl, w17, w2, out, E0, q4, q5.trans' hext (fun _ _ h => h) (fun b hb hk => ?_), q6, by rw [q7]⟩
      rcases hk with rfl | rfl <;> exact ⟨by omega, by omega⟩

end Go.Proofs.YtbajgpadmlnffaaGreat
/- The device: the walks of its functions, where the power stays. -/
namespace Go.Proofs.YtbajgpadmlnffaaGreat
open Go.V
set_option maxRecDepth 100000
set_option linter.unusedVariables false
set_option linter.unusedSimpArgs false

theorem dev_able (w : World) (a : DAd) (δ : Dv) (h : DvAt w a δ) (hb : δ.burns = false) (ho : δ.off = false) (hn : 8 ≤ δ.n) :
    Ret Tryz.prog 87 [Pt a.d 0] w fun v w' => v = I 0 ∧ w = w' := by
  have hbd := h.bd
  rw [hb, ho] at hbd
  refine calls_of_XC Tryz.func87 rfl rfl ?_
  refine .seq ?_
  refine .region ?_
  refine xo.done 1 [(0, Pt a.d 0)] (by kernel_rfl) rfl (by kernel_rfl) ?_
  refine .seq ?_
  refine .block ?_
  refine .seq ?_
  refine .region ?_
  refine xo.val 6 (by kernel_rfl) (ldB (t := 3) (o := 3) (by kernel_rfl) hbd rfl) ?_
  refine xo.val 0 (by kernel_rfl) (c_eql_f (show ¬ ((δ.n : Int) = 0) from (by omega))) ?_
  refine xo.done 2 [(0, Pt a.d 0), (3, B false)] (by kernel_rfl) rfl (by kernel_rfl) ?_
  refine .condF rfl rfl ?_
  refine .seq ?_
  refine .region ?_
  refine xo.val 4 (by kernel_rfl) (ldB (t := 4) (o := 2) (by kernel_rfl) hbd rfl) ?_
  refine xo.done 1 [(13, B false)] (by kernel_rfl) rfl (by kernel_rfl) ?_
  refine .condF rfl rfl ?_
  refine .skip ?_
  refine .seq ?_
  refine .region ?_
  refine xo.done 1 [(2, I 0)] (by kernel_rfl) rfl (by kernel_rfl) ?_
  refine .ret ?_
  refine ⟨[I 0], by kernel_rfl, _, rfl, ?_⟩
  exact ⟨rfl, rfl⟩

theorem dev_size (w : World) (a : DAd) (δ : Dv) (h : DvAt w a δ) :
    Ret Tryz.prog 58 [Pt a.d 0] w fun v w' => v = I δ.n ∧ w = w' := by
  have hbd := h.bd
  refine calls_of_XC Tryz.func58 rfl rfl ?_
  refine .seq ?_
  refine .region ?_
  refine xo.done 1 [(0, Pt a.d 0)] (by kernel_rfl) rfl (by kernel_rfl) ?_
  refine .seq ?_
  refine .seq ?_
  refine .region ?_
  refine xo.done 2 [(0, Pt a.d 0), (4, B false)] (by kernel_rfl) rfl (by kernel_rfl) ?_
  refine .condF rfl rfl ?_
  refine .skip ?_
  refine .seq ?_
  refine .region ?_
  refine xo.val 3 (by kernel_rfl) (ldB (t := 3) (o := 3) (by kernel_rfl) hbd rfl) ?_
  refine xo.done 1 [(2, I δ.n)] (by kernel_rfl) rfl (by kernel_rfl) ?_
  refine .ret ?_
  refine ⟨[I δ.n], by kernel_rfl, _, rfl, ?_⟩
  exact ⟨rfl, rfl⟩

theorem dev_spend (w : World) (a : DAd) (δ : Dv) (h : DvAt w a δ) (hb : δ.burns = false) (ho : δ.off = false) (hn : 8 ≤ δ.n) :
    Ret Tryz.prog 88 [Pt a.d 0] w fun v w' => v = B true ∧ w = w' := by
  have hbd := h.bd
  rw [hb, ho] at hbd
  refine calls_of_XC Tryz.func88 rfl rfl ?_
  refine .seq ?_
  refine .region ?_
  refine xo.done 1 [(0, Pt a.d 0)] (by kernel_rfl) rfl (by kernel_rfl) ?_
  refine .seq ?_
  refine .seq ?_
  refine .region ?_
  refine xo.val 3 (by kernel_rfl) (ldB (t := 4) (o := 2) (by kernel_rfl) hbd rfl) ?_
  refine xo.done 0 [(0, Pt a.d 0), (6, B false)] (by kernel_rfl) rfl (by kernel_rfl) ?_
  refine .condF rfl rfl ?_
  refine .skip ?_
  refine .seq ?_
  refine .seq ?_
  refine .region ?_
  refine xo.val 3 (by kernel_rfl) (ldB (t := 4) (o := 1) (by kernel_rfl) hbd rfl) ?_
  refine xo.done 0 [(0, Pt a.d 0), (10, B false)] (by kernel_rfl) rfl (by kernel_rfl) ?_
  refine .condF rfl rfl ?_
  refine .skip ?_
  refine .seq ?_
  refine .region ?_
  refine xo.done 1 [(2, B true)] (by kernel_rfl) rfl (by kernel_rfl) ?_
  refine .ret ?_
  refine ⟨[B true], by kernel_rfl, _, rfl, ?_⟩
  exact ⟨rfl, rfl⟩

theorem dev_read (w : World) (a : DAd) (δ : Dv) (h : DvAt w a δ) (hb : δ.burns = false) (ho : δ.off = false) (hn : 8 ≤ δ.n) (i : Int) (h0 : 0 ≤ i) (h1 : i < δ.n) :
    Ret Tryz.prog 122 [Pt a.d 0, I i] w fun v w' => v = .tuple #[S (((δ.dirty i).or (δ.kept i)).getD ⟨#[]⟩), I 0] ∧ w = w' := by
  have hbd := h.bd
  rw [hb, ho] at hbd
  obtain ⟨fk, hkp, hfk⟩ := h.kp
  obtain ⟨fd, hdt, hfd⟩ := h.dt
  have n1 := h.ne
  have n2 := MapAt.ne hdt hbd
  have n3 := MapAt.ne hkp hbd
  refine calls_of_XC Tryz.func122 rfl rfl ?_
  refine .seq ?_
  refine .region ?_
  refine xo.done 2 [(0, Pt a.d 0), (1, I i)] (by kernel_rfl) rfl (by kernel_rfl) ?_
  refine .seq ?_
  refine .seq ?_
  refine .region ?_
  refine xo.ret 1 (by kernel_rfl) (cf87 _ _) (dev_able _ a δ h hb ho hn) ?_
  rintro _ _ ⟨rfl, rfl⟩
  refine xo.done 1 [(0, Pt a.d 0), (1, I i), (6, I 0)] (by kernel_rfl) rfl (by kernel_rfl) ?_
  refine .seq ?_
  refine .region ?_
  refine xo.done 2 [(0, Pt a.d 0), (1, I i), (6, I 0), (12, B false)] (by kernel_rfl) rfl (by kernel_rfl) ?_
  refine .condF rfl rfl ?_
  refine .skip ?_
  refine .seq ?_
  refine .seq ?_
  refine .region ?_
  refine xo.val 1 (by kernel_rfl) (c_lss_f (show ¬ ((i : Int) < 0) from (by omega))) ?_
  refine xo.val 5 (by kernel_rfl) (ldB (t := 3) (o := 3) (by kernel_rfl) hbd rfl) ?_
  refine xo.val 0 (by kernel_rfl) (c_geq_t (show (i : Int) < δ.n from (by omega))) ?_
  refine xo.done 1 [(0, Pt a.d 0), (1, I i), (23, B false)] (by kernel_rfl) rfl (by kernel_rfl) ?_
  refine .condF rfl rfl ?_
  refine .skip ?_
  refine .seq ?_
  refine .seq ?_
  refine .region ?_
  refine xo.val 3 (by kernel_rfl) (ldB (t := 105) (o := 5) (by kernel_rfl) hbd rfl) ?_
  rcases hq1 : mfind fd i with _ | x2
  · refine xo.val 1 (by kernel_rfl) (lk_none (t := 105) (z := S (⟨#[]⟩)) (by kernel_rfl) hdt hq1 true) ?_
    refine xo.done 5 [(0, Pt a.d 0), (1, I i), (7, S (⟨#[]⟩)), (8, B false)] (by kernel_rfl) rfl (by kernel_rfl) ?_
    refine .seq ?_
    refine .region ?_
    refine xo.done 1 [(0, Pt a.d 0), (1, I i), (7, S (⟨#[]⟩)), (33, B false)] (by kernel_rfl) rfl (by kernel_rfl) ?_
    refine .condF rfl rfl ?_
    refine .skip ?_
    refine .seq ?_
    refine .region ?_
    refine xo.val 3 (by kernel_rfl) (ldB (t := 105) (o := 4) (by kernel_rfl) hbd rfl) ?_
    rcases hq3 : mfind fk i with _ | x4
    · refine xo.val 1 (by kernel_rfl) (lk_none (t := 105) (z := S (⟨#[]⟩)) (by kernel_rfl) hkp hq3 false) ?_
      refine xo.done 2 [(4, S (⟨#[]⟩)), (5, I 0)] (by kernel_rfl) rfl (by kernel_rfl) ?_
      refine .ret ?_
      refine ⟨[S (⟨#[]⟩), I 0], by kernel_rfl, _, rfl, ?_⟩
      refine ⟨?_, rfl⟩
      rw [← hfd, ← hfk, hq1, hq3]
      rfl
    · refine xo.val 1 (by kernel_rfl) (lk_some (t := 105) (z := S (⟨#[]⟩)) (by kernel_rfl) hkp hq3 false) ?_
      refine xo.done 2 [(4, S x4), (5, I 0)] (by kernel_rfl) rfl (by kernel_rfl) ?_
      refine .ret ?_
      refine ⟨[S x4, I 0], by kernel_rfl, _, rfl, ?_⟩
      refine ⟨?_, rfl⟩
      rw [← hfd, ← hfk, hq1, hq3]
      rfl
  · refine xo.val 1 (by kernel_rfl) (lk_some (t := 105) (z := S (⟨#[]⟩)) (by kernel_rfl) hdt hq1 true) ?_
    refine xo.done 5 [(0, Pt a.d 0), (1, I i), (7, S x2), (8, B true)] (by kernel_rfl) rfl (by kernel_rfl) ?_
    refine .seq ?_
    refine .region ?_
    refine xo.done 1 [(0, Pt a.d 0), (1, I i), (7, S x2), (33, B true)] (by kernel_rfl) rfl (by kernel_rfl) ?_
    refine .condT rfl rfl ?_
    refine .seq ?_
    refine .region ?_
    refine xo.done 3 [(4, S x2), (5, I 0)] (by kernel_rfl) rfl (by kernel_rfl) ?_
    refine .ret ?_
    refine ⟨[S x2, I 0], by kernel_rfl, _, rfl, ?_⟩
    refine ⟨?_, rfl⟩
    rw [← hfd, ← hfk, hq1]
    rfl

theorem dev_write (w : World) (a : DAd) (δ : Dv) (h : DvAt w a δ) (hb : δ.burns = false) (ho : δ.off = false) (hn : 8 ≤ δ.n) (i : Int) (s : ByteArray) (h0 : 0 ≤ i) (h1 : i < δ.n) (h2 : s.size ≤ 4096) :
    Ret Tryz.prog 64 [Pt a.d 0, I i, S s] w fun v w' => v = I 0 ∧ DvAt w' a { δ with dirty := upd δ.dirty i s } ∧ Ext (fun b => b = a.mdt) w w' := by
  have hbd := h.bd
  rw [hb, ho] at hbd
  obtain ⟨fk, hkp, hfk⟩ := h.kp
  obtain ⟨fd, hdt, hfd⟩ := h.dt
  have n1 := h.ne
  have n2 := MapAt.ne hdt hbd
  have n3 := MapAt.ne hkp hbd
  refine calls_of_XC Tryz.func64 rfl rfl ?_
  refine .seq ?_
  refine .region ?_
  refine xo.done 1 [(0, Pt a.d 0), (1, I i), (2, S s)] (by kernel_rfl) rfl (by kernel_rfl) ?_
  refine .seq ?_
  refine .seq ?_
  refine .region ?_
  refine xo.ret 1 (by kernel_rfl) (cf87 _ _) (dev_able _ a δ h hb ho hn) ?_
  rintro _ _ ⟨rfl, rfl⟩
  refine xo.done 1 [(0, Pt a.d 0), (1, I i), (2, S s), (7, I 0)] (by kernel_rfl) rfl (by kernel_rfl) ?_
  refine .seq ?_
  refine .region ?_
  refine xo.done 2 [(0, Pt a.d 0), (1, I i), (2, S s), (7, I 0), (11, B false)] (by kernel_rfl) rfl (by kernel_rfl) ?_
  refine .condF rfl rfl ?_
  refine .skip ?_
  refine .seq ?_
  refine .seq ?_
  refine .region ?_
  refine xo.val 1 (by kernel_rfl) (c_lss_f (show ¬ ((i : Int) < 0) from (by omega))) ?_
  refine xo.val 5 (by kernel_rfl) (ldB (t := 3) (o := 3) (by kernel_rfl) hbd rfl) ?_
  refine xo.val 0 (by kernel_rfl) (c_geq_t (show (i : Int) < δ.n from (by omega))) ?_
  refine xo.val 4 (by kernel_rfl) (c_gtr_t (show ((s.size : Int) : Int) ≤ 4096 from (by omega))) ?_
  refine xo.done 1 [(0, Pt a.d 0), (1, I i), (2, S s), (27, B false)] (by kernel_rfl) rfl (by kernel_rfl) ?_
  refine .condF rfl rfl ?_
  refine .skip ?_
  refine .seq ?_
  refine .seq ?_
  refine .region ?_
  refine xo.ret 3 (by kernel_rfl) (cf88 _ _) (dev_spend _ a δ h hb ho hn) ?_
  rintro _ _ ⟨rfl, rfl⟩
  refine xo.done 1 [(0, Pt a.d 0), (1, I i), (2, S s), (32, B false)] (by kernel_rfl) rfl (by kernel_rfl) ?_
  refine .condF rfl rfl ?_
  refine .skip ?_
  refine .seq ?_
  refine .region ?_
  refine xo.val 3 (by kernel_rfl) (ldB (t := 105) (o := 5) (by kernel_rfl) hbd rfl) ?_
  refine xo.mapPut 2 (t := 105) (z := S (⟨#[]⟩)) (k := i) (v := S s) s (by kernel_rfl) hdt rfl (by kernel_rfl) ?_
  intro w1 hm2 hx3
  have z1 := hx3.size
  refine xo.done 0 [] (by kernel_rfl) rfl (by kernel_rfl) ?_
  refine .seq ?_
  refine .region ?_
  refine xo.done 1 [(6, I 0)] (by kernel_rfl) rfl (by kernel_rfl) ?_
  refine .ret ?_
  refine ⟨[I 0], by kernel_rfl, _, rfl, ?_⟩
  have hb4 := (hbd.ext hx3 (fun e => n2 e.symm))
  have hm5 := (hkp.ext hx3 n1)
  exact ⟨rfl, ⟨by simpa [hb, ho] using hb4, ⟨fk, hm5, hfk⟩, MapF.put hfd hm2, n1⟩, hx3⟩

end Go.Proofs.YtbajgpadmlnffaaGreat
/- Results that lie in variables. -/
namespace Go.V
section
variable {P : Program} {w : World} {n : Nat} {D : List Deferred} {e : Env}

def resOK (P : Program) (w : World) (e : Env) : List ResultVar → List Value → Prop
  | [], [] => True
  | .tmp t :: r, v :: vs => eget e t = some v ∧ resOK P w e r vs
  | .cell c t :: r, v :: vs => (∃ a, eget e c = some (.pointer (some a)) ∧ (loadVar t a).run P w = .ok v w) ∧ resOK P w e r vs
  | _, _ => False

theorem lvA {t : TypeId} {b : Nat} {T : TypeId} {cs : List Value} (ht : aggT P t = some cs.length) (h : Blk w b T cs) : (loadVar t ⟨b, 0, none⟩).run P w = .ok (.agg cs.toArray) w := by
  obtain ⟨h1, h2⟩ := run_isAgg_agg (w := w) ht
  simp only [loadVar, Sem.run_bind, Sem.run_pure, Result.andThen_ok, h1, h2, if_true, loadCells]
  rw [run_loadCellsFrom cs 0 #[] fun j v hv => by rw [Nat.zero_add, add_none]; exact h.cs j v hv]
  simp
theorem lv {t : TypeId} {b : Nat} {T : TypeId} {v : Value} {cs : List Value} (ht : plainT P t = true) (h : Blk w b T (v :: cs)) : (loadVar t ⟨b, 0, none⟩).run P w = .ok v w := by
  simp only [loadVar, Sem.run_bind, run_isAgg_plain ht, Result.andThen_ok, Bool.false_eq_true, if_false]
  exact run_load_cell (h.cs 0 v rfl)

theorem results_mapM' {a : Act} (h : Agree n D a e) (F : ResultVar → Sem Value) (hF : ∀ t, F (.tmp t) = pure (a.tmps.getD t undef))
    (hG : ∀ c t, F (.cell c t) = (do loadVar t (← asAddr (a.tmps.getD c undef)))) :
    ∀ (rs : List ResultVar) (vs : List Value), resOK P w e rs vs → (rs.mapM F).run P w = .ok vs w := by
  intro rs
  induction rs with
  | nil =>
    intro vs hv
    cases vs with
    | nil => simp
    | cons v vs => exact hv.elim
  | cons r rs ih =>
    intro vs hv
    cases vs with
    | nil => cases r <;> exact hv.elim
    | cons v vs =>
      cases r with
      | cell c t =>
        obtain ⟨⟨ad, h1, h2⟩, h3⟩ := hv
        have h4 := h.get c _ h1
        have hi := ih vs h3
        have h5 : (asAddr (a.tmps.getD c undef)).run P w = .ok ad w := by
          rw [show a.tmps.getD c undef = .pointer (some ad) from by simp [h4]]; rfl
        simp only [List.mapM_cons, Sem.run_bind, Sem.run_pure, Result.andThen_ok, hG, hi, h5, h2]
      | tmp t =>
        obtain ⟨h1, h3⟩ := hv
        have := h.get t v h1
        have hi := ih vs h3
        simp only [List.mapM_cons, Sem.run_bind, Sem.run_pure, Result.andThen_ok, hF, hi]
        simp [this]

theorem results_env' {fn : Func} {a : Act} {rs : List ResultVar} {vs : List Value} (h : Agree n D a e) (hrs : fn.results.toList = rs) (hv : resOK P w e rs vs) :
    (results fn a.tmps).run P w = .ok (pack vs) w := by
  subst hrs
  unfold results
  rw [Array.mapM_eq_mapM_toList]
  simp only [Sem.run_bind, Sem.run_map]
  rw [results_mapM' (P := P) (w := w) h _ (fun t => rfl) (fun c t => rfl) fn.results.toList vs hv]
  simp only [Result.andThen_ok, Sem.run_pure]
  rw [pack_eq]

/-- A function's contract out of its body. -/
theorem calls_of_XCr {f : FuncId} {fn : Func} {c : Code} {args : List Value} {R : Ending → World → Prop} (rs : List ResultVar)
    (hf : P.funcs[f]? = some fn) (hb : fn.body = some c) (hn' : Nat.ble args.length fn.ntmps = true) (hrs : fn.results.toList = rs)
    (h : XC P fn.ntmps [] c (fun e w => ∃ vs, resOK P w e rs vs ∧ R (.returned (pack vs)) w) (fun _ _ _ => False)
      (fun e w => ∃ vs, resOK P w e rs vs ∧ R (.returned (pack vs)) w) (fun ch _ w => R (.panicked ch) w) (argEnv 0 args) w) :
    Calls P f args.toArray w R := by
  have hn := Nat.le_of_ble_eq_true hn'
  refine calls_of_wp hf hb ?_
  have ha : Agree fn.ntmps [] { tmps := args.toArray ++ Array.replicate (fn.ntmps - args.toArray.size) undef, defers := [] } (argEnv 0 args) := by
    refine ⟨by simp; omega, rfl, fun t v hv => ?_⟩
    obtain ⟨_, h2⟩ := argEnv_get _ _ _ _ hv
    simp only [Nat.sub_zero] at h2
    have ht : t < args.length := (List.getElem?_eq_some_iff.1 h2).1
    show (args.toArray ++ Array.replicate (fn.ntmps - args.toArray.size) undef)[t]? = some v
    rw [Array.getElem?_append_left (by simpa using ht)]
    simpa using h2
  refine wp_mono (h _ ha) ?_
  rintro x a' w' ⟨e', h1, h2⟩
  cases x with
  | normal => obtain ⟨vs, hv, hR⟩ := h2; exact ⟨h1.defers, _, results_env' h1 hrs hv, hR⟩
  | ret => obtain ⟨vs, hv, hR⟩ := h2; exact ⟨h1.defers, _, results_env' h1 hrs hv, hR⟩
  | panic ch => exact ⟨h1.defers, h2⟩
  | exit id => exact h2.elim
  | goto l => exact h2.elim
  | outgrown => exact h2.elim
/-! is a slice nil? -/
theorem run_eqIn_nil (d : Nat) {t : TypeId} {A : Option Addr} {n c : Nat} (ht : (slT P t).isSome = true) : (Op.equalIn (d + 1) t (.slice A n c) (.slice none 0 0)).run P w = .ok A.isNone w := by
  obtain ⟨e, he⟩ := slT_some ht
  cases A <;> simp [Op.equalIn, run_underlying he]
theorem run_eq_nil {t : TypeId} {A : Option Addr} {n c : Nat} (ht : (slT P t).isSome = true) : (Op.equal t (.slice A n c) (.slice none 0 0)).run P w = .ok A.isNone w := by
  exact run_eqIn_nil 9999 ht
theorem sn_eql {t : TypeId} {A : Option Addr} {n c : Nat} (ht : (slT P t).isSome = true) : (vS (binOp .eql t (.slice A n c) (.slice none 0 0))).run P w = .ok (.value (B A.isNone)) w := by
  refine vrun ?_
  simp only [binOp, Sem.run_bind, run_eq_nil ht, Result.andThen_ok, Sem.run_pure]
theorem sn_neq {t : TypeId} {A : Option Addr} {n c : Nat} (ht : (slT P t).isSome = true) : (vS (binOp .neq t (.slice A n c) (.slice none 0 0))).run P w = .ok (.value (B !A.isNone)) w := by
  refine vrun ?_
  simp only [binOp, Sem.run_bind, run_eq_nil ht, Result.andThen_ok, Sem.run_pure]
end
theorem vsl_take {P : Program} {w : World} {α : Type} {t : TypeId} {A : Option Addr} {cap sz : Nat} {xs : List α} {k : Nat} (hT : slT P t = some sz) (h0 : k ≤ xs.length) (h1 : xs.length ≤ cap) :
    (vS (Instr.sliceAt t (.slice A xs.length cap) none (some (I (k : Int))) none)).run P w = .ok (.value (.slice A (xs.take k).length cap)) w := by
  have := vsl_hi (P := P) (w := w) (t := t) (A := A) (n := xs.length) (cap := cap) (b := (k : Int)) hT (by omega) (by omega)
  rw [this, List.length_take, Nat.min_eq_left h0]
  rfl
theorem vsl_drop {P : Program} {w : World} {α : Type} {t : TypeId} {A : Option Addr} {cap sz : Nat} {xs : List α} {k : Nat} (hT : slT P t = some sz) (h0 : k ≤ xs.length) :
    (vS (Instr.sliceAt t (.slice A xs.length cap) (some (I (k : Int))) none none)).run P w = .ok (.value (.slice (if cap = k then A else A.map (·.add (k * sz))) (xs.drop k).length (cap - k))) w := by
  have := vsl_lo (P := P) (w := w) (t := t) (A := A) (n := xs.length) (cap := cap) (a := (k : Int)) hT (by omega) (by omega)
  rw [this, List.length_drop]
  rfl
theorem a_quo2 {P : Program} {w : World} {n : Nat} (h : n ≤ 4611686018427387904) : (vS (Op.intDiv .quo .i64 (n : Int) 2)).run P w = .ok (.value (I ((n / 2 : Nat) : Int))) w := by
  refine vrun ?_
  have h1 : ((n : Int).tdiv 2) = ((n / 2 : Nat) : Int) := by
    rw [Int.tdiv_eq_ediv_of_nonneg (by omega)]; omega
  simp only [Op.intDiv, h1]
  rw [wrap_ok (by omega) (by omega)]
  rfl
theorem a_addN {P : Program} {w : World} {a b : Nat} (h : a + b ≤ 9223372036854775807) : (vS (Op.intArith .add .i64 (a : Int) (b : Int))).run P w = .ok (.value (I ((a + b : Nat) : Int))) w := by
  have := a_add (P := P) (w := w) (a := (a : Int)) (b := (b : Int)) (by omega) (by omega)
  rw [Int.natCast_add]
  exact this
theorem mid_ok {P : Program} {w : World} {n : Nat} (h : n ≤ 4611686018427387904) : (Sem.pure (.value (I (uw .i64 (ushr (uw .u64 (n : Int)) 1)))) : Sem Next).run P w = .ok (.value (I ((n / 2 : Nat) : Int))) w := by
  have h1 : uw .u64 (n : Int) = (n : Int) := by
    have h : IntKind.u64.wrap (n : Int) = (n : Int) % 18446744073709551616 := by simp [IntKind.wrap, IntKind.bits, IntKind.signed]
    unfold uw; rw [h]; omega
  have h2 : ushr (n : Int) 1 = ((n / 2 : Nat) : Int) := by
    unfold ushr
    show (n : Int).fdiv 2 = _
    rw [Int.fdiv_eq_ediv_of_nonneg _ (by omega)]; omega
  rw [h1, h2]
  exact cv_ok (by omega) (by omega)
theorem Rd.cs {α : Type} {k : Kd α} {w : World} {lo hi b o i : Nat} {A : Option Addr} {xs : List α} {x : α} (h : Rd k w lo hi A xs) (hA : A = some ⟨b, o, none⟩) (hx : xs[i]? = some x) : Cs w b (o + i * k.sz) (k.enc x) := by
  obtain ⟨b', o', x', h1, h2, _, _, h5⟩ := h.at_ i (List.getElem?_eq_some_iff.1 hx).1
  rw [hA] at h2
  injection h2 with h2
  injection h2 with h2 h3
  subst h2; subst h3
  rw [hx] at h1
  injection h1 with h1
  subst h1
  exact h5
theorem Rd.none_nil {α : Type} {k : Kd α} {w : World} {lo hi : Nat} {xs : List α} (h : Rd k w lo hi none xs) : xs = [] := by
  rcases h with h | ⟨b, o, h, _⟩
  · exact h
  · cases h
end Go.V
/- Regions that draw their order: reads that no operation of the region turns may be taken first; the others come up one by one. -/
namespace Go.V
section
variable {P : Program} {n : Nat} {D : List Deferred} {K : Env → World → Prop} {X : Nat → Env → World → Prop} {R : Env → World → Prop} {E : List PanicEntry → Env → World → Prop} {e : Env} {w : World}
  {l : List Oper} {S : World → Prop} {fuel : Nat} {listed : Array Bool}

def xd (P : Program) (n : Nat) (D : List Deferred) (l : List Oper) (S : World → Prop) (K : Env → World → Prop) (X : Nat → Env → World → Prop) (R : Env → World → Prop) (E : List PanicEntry → Env → World → Prop)
    (fuel : Nat) (listed : Array Bool) (e : Env) (w : World) : Prop :=
  S w → ∀ a, Agree n D a e → wpAnyH P .any l.toArray (fun x a' w' => ∃ e', Agree n D a' e' ∧ post K X R E x e' w') S fuel listed a w

theorem XC.regionDraw {id : Nat} (S : World → Prop) (hm : P.follows .mixedOrders = true)
    (h : ∀ w', Drew w w' → S w' ∧ xd P n D l S K X R E l.toArray.size (Array.replicate l.toArray.size false) e w') : XC P n D (.region id l.toArray true) K X R E e w := by
  intro a ha
  obtain ⟨h1, h2⟩ := h { w with drawn := w.drawn + 1 } ⟨rfl, rfl, rfl, rfl⟩
  exact wp_region_held hm (h2 h1 a ha)

def takeB (l : List Oper) (listed : Array Bool) (i : Nat) : Bool :=
  Region.noSelect l.toArray && Region.free .any l.toArray listed i && (Region.ready .any l.toArray listed).contains i && (l[i]?).isSome

theorem xd.take_ (hE : ∀ c e e' w, E c e w → E c e' w) (i : Nat) {v : Value} (hB : takeB l listed i = true)
    (hy : ∀ o a, l[i]? = some o → Agree n D a e → YieldsIf P l.toArray S o v a)
    (h : ∀ o, l[i]? = some o → xd P n D l S K X R E fuel (listed.setIfInBounds i true) (eput n e o.dst v) w) : xd P n D l S K X R E (fuel + 1) listed e w := by
  intro hS a ha
  simp only [takeB, Bool.and_eq_true] at hB
  obtain ⟨⟨⟨h1, h2⟩, h3⟩, h4⟩ := hB
  obtain ⟨o, ho⟩ := Option.isSome_iff_exists.1 h4
  refine wpAnyH_take (oi := o) (v := v) (by simpa using ho) h1 h2 h3 ?_ (hy o a ho ha) hS (h o ho hS _ (ha.put _ _))
  rintro c a' w' ⟨e', he, hp⟩
  refine ⟨[], ⟨?_, ?_, fun t u hu => by simp [eget] at hu⟩, hE _ _ _ _ hp⟩
  · have := he.size; unfold Act.put at this; cases hd : o.dst <;> simp [hd] at this ⊢ <;> exact this
  · have := he.defers; unfold Act.put at this; cases hd : o.dst <;> simp [hd] at this ⊢ <;> exact this

def wantB (l : List Oper) (e : Env) (i : Nat) : Option Bool :=
  match l[i]? with
  | none => none
  | some o => match egd l e o.guard with
    | some true => bif okOp e o then some true else none
    | x => x
def opRun (P : Program) (l : List Oper) (e : Env) (i : Nat) (w : World) : Option (Result Next) :=
  match l[i]? with
  | none => none
  | some o => some ((execOp (rho e) o).run P w)
def dstAt (l : List Oper) (i : Nat) : Option Nat := (l[i]?).bind (·.dst)

theorem wantB_true {i : Nat} {o : Oper} (h : wantB l e i = some true) (ho : l[i]? = some o) : egd l e o.guard = some true ∧ okOp e o = true := by
  unfold wantB at h
  rw [ho] at h
  simp only at h
  cases hg : egd l e o.guard with
  | none => rw [hg] at h; cases h
  | some b =>
    cases b
    · rw [hg] at h; cases h
    · rw [hg] at h
      cases hk : okOp e o with
      | false => simp [hk] at h
      | true => exact ⟨rfl, rfl⟩
theorem wantB_false {i : Nat} {o : Oper} (h : wantB l e i = some false) (ho : l[i]? = some o) : egd l e o.guard = some false := by
  unfold wantB at h
  rw [ho] at h
  simp only at h
  cases hg : egd l e o.guard with
  | none => rw [hg] at h; cases h
  | some b =>
    cases b
    · rfl
    · rw [hg] at h
      cases hk : okOp e o <;> simp [hk] at h

/-- Take a reading first. -/
theorem xd.rd (hE : ∀ c e e' w, E c e w → E c e' w) (i : Nat) {v : Value} {Sm : Sem Next} (hB : takeB l listed i = true) (hw : wantB l e i = some true) (hx : opRun P l e i = fun u => some (Sm.run P u))
    (hv : ∀ u, S u → Sm.run P u = .ok (.value v) u) (h : xd P n D l S K X R E fuel (listed.setIfInBounds i true) (eput n e (dstAt l i) v) w) : xd P n D l S K X R E (fuel + 1) listed e w := by
  refine xd.take_ hE i hB (v := v) (fun o a ho ha => .inl ?_) (fun o ho => ?_)
  · obtain ⟨h1, h2⟩ := wantB_true hw ho
    refine ⟨egd_sound ha h1, fun u hu => ?_⟩
    rw [ha.exec h2]
    have h3 := congrFun hx u
    unfold opRun at h3
    rw [ho] at h3
    simp only [Option.some.injEq] at h3
    rw [h3]
    exact hv u hu
  · rw [dstAt, ho] at h
    exact h
/-- Take what reads nothing first. -/
theorem xd.q (hE : ∀ c e e' w, E c e w → E c e' w) (i : Nat) (v : Value) (hB : takeB l listed i = true) (hw : wantB l e i = some true) (hx : opRun P l e i = fun u => some (.ok (.value v) u))
    (h : xd P n D l S K X R E fuel (listed.setIfInBounds i true) (eput n e (dstAt l i) v) w) : xd P n D l S K X R E (fuel + 1) listed e w :=
  xd.rd hE i (Sm := Sem.pure (.value v)) hB hw hx (fun _ _ => rfl) h
/-- One that is not wanted. -/
theorem xd.no (hE : ∀ c e e' w, E c e w → E c e' w) (i : Nat) (hB : takeB l listed i = true) (hw : wantB l e i = some false)
    (h : xd P n D l S K X R E fuel (listed.setIfInBounds i true) (eput n e (dstAt l i) undef) w) : xd P n D l S K X R E (fuel + 1) listed e w := by
  refine xd.take_ hE i hB (v := undef) (fun o a ho ha => .inr ⟨?_, rfl⟩) (fun o ho => ?_)
  · exact egd_sound ha (wantB_false hw ho)
  · rw [dstAt, ho] at h
    exact h

theorem wpOp_of_wpList {ops : Array Oper} {i : Nat} {o : Oper} {Q : Exit → Act → World → Prop} {J : Act → World → Prop} {a : Act} (ho : ops[i]? = some o)
    (h : wpList P ops (fun x a w => match x with | .normal => J a w | x => Q x a w) [o] a w) : wpOp P ops Q i J a w := by
  unfold wpOp
  simp only [ho]
  unfold wpList at h
  simp only [wpList] at h
  split
  · rename_i hw
    simp only [hw, if_true] at h
    rcases h with h | ⟨h1, h2⟩
    · left
      unfold Oper.wp at h ⊢
      generalize (execOp a.eval o).run P w = r at h ⊢
      cases r with
      | ok nx w' =>
        cases nx <;> simp only [Oper.upon] at h ⊢ <;> first | exact h | exact Calls.mono h fun x w'' hx => by cases x <;> exact hx
      | halt x w' => cases x <;> simp only [Oper.upon] at h ⊢ <;> exact h
    · right
      refine ⟨h1, ?_⟩
      exact h2
  · rename_i hw
    simp only [hw] at h
    exact h

/-- The one that may come up comes up. -/
theorem xd.one (i : Nat) (hr : Region.ready .any l.toArray listed = [i])
    (h : xo P l n (l[i]?).toList e w (fun e' w' => S w' ∧ xd P n D l S K X R E fuel (listed.setIfInBounds i true) e' w') E) : xd P n D l S K X R E (fuel + 1) listed e w := by
  intro hS a ha
  refine wpAnyH_all hr (by simp) fun j hj => ?_
  obtain rfl : j = i := by simpa using hj
  have hmem : j ∈ Region.ready .any l.toArray listed := by rw [hr]; simp
  obtain ⟨_, o, ho, _⟩ := mem_ready.1 hmem
  have ho' : l[j]? = some o := by simpa using ho
  refine wpOp_of_wpList ho (xo_sound (D := D) ?_ ?_ [o] e w a ha (by rw [ho'] at h; exact h))
  · rintro e' w' a' ⟨h1, h2⟩ ha'
    exact ⟨h1, h2 h1 a' ha'⟩
  · intro ch e' w' a' hk ha'
    exact ⟨e', ha', hk⟩
theorem xd.done (hr : Region.ready .any l.toArray listed = []) (h : K e w) : xd P n D l S K X R E fuel listed e w :=
  fun _ _ ha => wpAnyH_done hr ⟨e, ha, h⟩ _
end
end Go.V
/- What bytes tell of a block of a store. -/
namespace Go.Proofs.YtbajgpadmlnffaaGreat
open Go.V
set_option maxRecDepth 100000
set_option linter.unusedVariables false
set_option linter.unusedSimpArgs false

/-! what bytes tell of a block -/
def pKids (n : Int) : Nat → List UInt8 → Option (List Int × List UInt8)
  | 0, l => some ([], l)
  | m + 1, l =>
    match pNum 4 l with
    | none => none
    | some (k, r) => if (k : Int) < 2 ∨ n ≤ k then none else
      match pKids n m r with
      | none => none
      | some (ks, r') => some ((k : Int) :: ks, r')
def pBlk (n : Int) (l : List UInt8) : Option ((List Int × List UInt8) × List UInt8) :=
  match pNum 1 l with
  | none => none
  | some (m, l1) => if 16 < m then none else
    match pKids n m l1 with
    | none => none
    | some (ks, l2) =>
      match pText 3900 l2 with
      | none => none
      | some (d, l3) => some ((ks, d), l3)
theorem pKids_num {n : Int} {j : Nat} {r : List UInt8} (hj : 0 < j) (h : ¬ 4 ≤ r.length) : pKids n j r = none := by
  cases j with
  | zero => omega
  | succ j => simp only [pKids, pNum, if_neg h]
theorem pKids_bad {n : Int} {j : Nat} {r : List UInt8} (hj : 0 < j) (h : 4 ≤ r.length) (hk : (beNat (r.take 4) : Int) < 2 ∨ n ≤ (beNat (r.take 4) : Int)) : pKids n j r = none := by
  cases j with
  | zero => omega
  | succ j => simp only [pKids, pNum, if_pos h, if_pos hk]
theorem pKids_step {n : Int} {j : Nat} {r : List UInt8} (h : 4 ≤ r.length) (hk : ¬ (beNat (r.take 4) : Int) < 2) (hk2 : (beNat (r.take 4) : Int) < n) :
    pKids n (j + 1) r = (pKids n j (r.drop 4)).map fun p => ((beNat (r.take 4) : Int) :: p.1, p.2) := by
  have : ¬ ((beNat (r.take 4) : Int) < 2 ∨ n ≤ (beNat (r.take 4) : Int)) := by omega
  simp only [pKids, pNum, if_pos h, if_neg this]
  cases pKids n j (r.drop 4) <;> rfl
theorem pBlk_num {n : Int} {l : List UInt8} (h : ¬ 1 ≤ l.length) : pBlk n l = none := by simp only [pBlk, pNum, if_neg h]
theorem pBlk_many {n : Int} {l : List UInt8} (h : 1 ≤ l.length) (hm : 16 < beNat (l.take 1)) : pBlk n l = none := by simp only [pBlk, pNum, if_pos h, if_pos hm]
theorem pBlk_kids {n : Int} {l : List UInt8} (h : 1 ≤ l.length) (hk : pKids n (beNat (l.take 1)) (l.drop 1) = none) : pBlk n l = none := by
  simp only [pBlk, pNum, if_pos h, hk]
  split <;> rfl
theorem pBlk_text {n : Int} {l r : List UInt8} {ks : List Int} (h : 1 ≤ l.length) (hm : ¬ 16 < beNat (l.take 1)) (hk : pKids n (beNat (l.take 1)) (l.drop 1) = some (ks, r)) :
    pBlk n l = (pText 3900 r).map fun p => ((ks, p.1), p.2) := by
  simp only [pBlk, pNum, if_pos h, if_neg hm, hk]
  cases pText 3900 r <;> rfl

/-- What store.get's closure leaves. -/
def GetG (n : Int) (l : List UInt8) (base bx : Nat) (be_ : Nat) (w1 w2 : World) (out : Except Int (List UInt8)) : Prop :=
  (match out with
  | .ok r => ∃ ks d A cap, pBlk n l = some ((ks, d), r) ∧ Blk w2 bx 147 [.slice A ks.length cap, S (bs d)] ∧ Own kInt w2 base A cap ks
  | .error c => pBlk n l = none ∧ c ≠ 0 ∧ ∃ A m cap s, Blk w2 bx 147 [.slice A m cap, S s]) ∧ Ext (fun k => k = bx ∨ k = be_) w1 w2

theorem crc_open (w : World) (s : ByteArray) (hs : s.size ≤ 1099511627776) :
    Ret Tryz.prog 137 [S s] w fun v w' => v = .tuple #[S (if s.size < 8 then ⟨#[]⟩ else s.extract 0 (s.size - 8)), B (decide (8 ≤ s.size ∧ seal_ (s.extract 0 (s.size - 8)) = s))] ∧ Ext No w w' := by
  refine calls_of_XC Tryz.func137 rfl rfl ?_
  refine .seq ?_
  refine .region ?_
  refine xo.done 2 [(0, S s)] (by kernel_rfl) rfl (by kernel_rfl) ?_
  refine .seq ?_
  refine .seq ?_
  refine .region ?_
  by_cases hc1 : ((s.size : Int) : Int) < 8
  · refine xo.val 2 (by kernel_rfl) (c_lss_t hc1) ?_
    refine xo.done 0 [(0, S s), (7, B true)] (by kernel_rfl) rfl (by kernel_rfl) ?_
    refine .condT rfl rfl ?_
    refine .seq ?_
    refine .region ?_
    refine xo.done 2 [(2, S (⟨#[]⟩)), (3, B false)] (by kernel_rfl) rfl (by kernel_rfl) ?_
    refine .ret ?_
    refine ⟨[S (⟨#[]⟩), B false], by kernel_rfl, _, rfl, ?_⟩
    simp only [Ext.refl, and_true]
    have h1 : s.size < 8 := by omega
    have h2 : ¬ (8 ≤ s.size) := by omega
    simp [h1, h2, pack]
  · refine xo.val 2 (by kernel_rfl) (c_lss_f hc1) ?_
    refine xo.done 0 [(0, S s), (7, B false)] (by kernel_rfl) rfl (by kernel_rfl) ?_
    refine .condF rfl rfl ?_
    refine .skip ?_
    refine .seq ?_
    refine .region ?_
    refine xo.val 3 (by kernel_rfl) (a_sub (a := (s.size : Int)) (b := 8) (by omega) (by omega)) ?_
    refine xo.val 0 (by kernel_rfl) (ssl_hi (t := 9) (s := s) (b := (s.size : Int) - 8) (by kernel_rfl) (by omega) (by omega)) ?_
    refine xo.done 1 [(0, S s), (4, S (s.extract 0 ((s.size : Int) - 8).toNat))] (by kernel_rfl) rfl (by kernel_rfl) ?_
    refine .seq ?_
    refine .region ?_
    have hsx : (s.extract 0 ((s.size : Int) - 8).toNat).size ≤ s.size := by rw [ByteArray.size_extract]; omega
    have hsy : ((s.size : Int) - 8).toNat = s.size - 8 := by omega
    refine xo.ret 2 (by kernel_rfl) (cf90 _ _) (crc_seal _ (s.extract 0 ((s.size : Int) - 8).toNat) (by first | omega | (simp only [ba_lit_size, List.length_append, be_length, txt_length, List.length_cons, List.length_nil]; omega))) ?_
    rintro _ w2 ⟨rfl, hx3⟩
    have z2 := hx3.size
    by_cases hc4 : (seal_ (s.extract 0 ((s.size : Int) - 8).toNat)) = s
    · refine xo.val 1 (by kernel_rfl) (s_eql_t hc4) ?_
      refine xo.done 2 [(2, S (s.extract 0 ((s.size : Int) - 8).toNat)), (3, B true)] (by kernel_rfl) rfl (by kernel_rfl) ?_
      refine .ret ?_
      refine ⟨[S (s.extract 0 ((s.size : Int) - 8).toNat), B true], by kernel_rfl, _, rfl, ?_⟩
      have h1 : ¬ s.size < 8 := by omega
      have h2 : 8 ≤ s.size := by omega
      rw [hsy] at *
      refine ⟨?_, hx3⟩
      simp [pack, *]
    · refine xo.val 1 (by kernel_rfl) (s_eql_f hc4) ?_
      refine xo.done 2 [(2, S (s.extract 0 ((s.size : Int) - 8).toNat)), (3, B false)] (by kernel_rfl) rfl (by kernel_rfl) ?_
      refine .ret ?_
      refine ⟨[S (s.extract 0 ((s.size : Int) - 8).toNat), B false], by kernel_rfl, _, rfl, ?_⟩
      have h1 : ¬ s.size < 8 := by omega
      have h2 : 8 ≤ s.size := by omega
      rw [hsy] at *
      refine ⟨?_, hx3⟩
      simp [pack, *]

theorem clone_int (w : World) (lo hi : Nat) (A : Option Addr) (cap : Nat) (xs : List Int) (h : Rd kInt w lo hi A xs) (hl : xs.length ≤ 1099511627776) :
    Ret Tryz.prog 116 [.slice A xs.length cap] w fun v w' => ∃ A' cap', v = .slice A' xs.length cap' ∧ Own kInt w' w.heap.size A' cap' xs ∧ Ext No w w' := by
  refine calls_of_XC Tryz.func116 rfl rfl ?_
  refine .seq ?_
  refine .region ?_
  refine xo.done 1 [(0, .slice A xs.length cap)] (by kernel_rfl) rfl (by kernel_rfl) ?_
  refine .seq ?_
  refine .seq ?_
  refine .region ?_
  refine xo.val 1 (by kernel_rfl) (sn_eql (t := 90) (A := A) (n := xs.length) (c := cap) (by kernel_rfl)) ?_
  refine xo.done 0 [(0, .slice A xs.length cap), (4, B A.isNone)] (by kernel_rfl) rfl (by kernel_rfl) ?_
  refine .condB A.isNone rfl rfl (fun hc1 => ?_) (fun hc1 => ?_)
  · refine .seq ?_
    refine .region ?_
    refine xo.done 1 [(2, .slice none 0 0)] (by kernel_rfl) rfl (by kernel_rfl) ?_
    refine .ret ?_
    refine ⟨[.slice none 0 0], by kernel_rfl, _, rfl, ?_⟩
    obtain rfl : A = none := by cases A <;> simp_all
    obtain rfl := h.none_nil
    exact ⟨_, _, rfl, .nil, .refl _ _⟩
  · refine .skip ?_
    refine .seq ?_
    refine .region ?_
    refine xo.bsl 0 90 0 #[] (et := 3) (cs := []) (by kernel_rfl) (by kernel_rfl) ?_
    intro b2 w3 hb4 hx5 hg6
    have z3 := hx5.size
    have l4 := hb4.lt
    have hs7 := (h.ext hx5 (fun _ _ _ h => h))
    refine xo.app 1 (ty := 90) (k := kInt) (t := 90) (tx := 90) (xs := []) (ys := xs) (x := .slice A xs.length cap) (by exact pInt) (Own.of_blk (k := kInt) (xs := []) hb4 (Nat.le_refl _) rfl rfl) (src_rd (by kernel_rfl) hs7) (by omega) (show (0 + xs.length) * 8 ≤ 140737488355328 from (by first | omega | (simp only [List.length_append, List.length_cons, List.length_nil]; omega))) (show 0 + xs.length ≤ 9223372036854775807 from (by first | omega | (simp only [List.length_append, List.length_cons, List.length_nil]; omega))) (by kernel_rfl) ?_
    intro A8 c9 w10 ho11 hx12
    have z10 := hx12.size
    have ho13 : Own kInt w10 b2 A8 c9 xs := ho11
    refine xo.done 1 [(2, .slice A8 ((xs).length) c9)] (by kernel_rfl) rfl (by kernel_rfl) ?_
    refine .ret ?_
    refine ⟨[.slice A8 ((xs).length) c9], by kernel_rfl, _, rfl, ?_⟩
    exact ⟨_, _, rfl, ho13.base_le (by omega), (hx5.trans' hx12 (fun _ _ h => h) (fun b hb hm => absurd ((Own.of_blk (k := kInt) (xs := []) hb4 (Nat.le_refl _) rfl rfl).lt hm).1 (by omega)))⟩

theorem get_look (w : World) (be_ bx_ bn_ : Nat) (l : List UInt8) (n : Int) (he : Blk w be_ 135 [S (bs l), B true]) (hx : Blk w bx_ 147 [.slice none 0 0, S ⟨#[]⟩]) (hn : Blk w bn_ 3 [I n]) :
    Calls Tryz.prog 138 [Pt be_ 0, Pt bn_ 0, Pt bx_ 0].toArray w fun v w' => ∃ out, LookPost be_ v w' out ∧ GetG n l w.heap.size bx_ be_ w w' out := by
  have nXE : bx_ ≠ be_ := Blk.ne hx he rfl
  have nNE : bn_ ≠ be_ := Blk.ne hn he rfl
  have nNX : bn_ ≠ bx_ := Blk.ne hn hx rfl
  have lE := he.lt
  have lX := hx.lt
  have lN := hn.lt
  refine calls_of_XC Tryz.func138 rfl rfl ?_
  refine .seq ?_
  refine .region ?_
  by_cases hn2 : 1 ≤ l.length
  · refine xo.ret 1 (by kernel_rfl) (cf44 _ _) (eye_num _ be_ l he 1 (by omega) (by omega) hn2) ?_
    rintro _ w3 ⟨rfl, hb1, hx4⟩
    have z3 := hx4.size
    refine xo.done 1 [(0, Pt be_ 0), (1, Pt bn_ 0), (2, Pt bx_ 0), (4, I ((beNat (l.take 1) : Int)))] (by kernel_rfl) rfl (by kernel_rfl) ?_
    refine .seq ?_
    refine .seq ?_
    refine .region ?_
    by_cases hc5 : ((beNat (l.take 1) : Int) : Int) ≤ 16
    · refine xo.val 1 (by kernel_rfl) (c_gtr_t hc5) ?_
      refine xo.done 0 [(0, Pt be_ 0), (1, Pt bn_ 0), (2, Pt bx_ 0), (4, I ((beNat (l.take 1) : Int))), (9, B false)] (by kernel_rfl) rfl (by kernel_rfl) ?_
      refine .condF rfl rfl ?_
      refine .skip ?_
      refine .seq ?_
      refine .seq ?_
      refine .region ?_
      refine xo.done 2 [(0, Pt be_ 0), (1, Pt bn_ 0), (2, Pt bx_ 0), (12, I ((beNat (l.take 1) : Int))), (13, I 0)] (by kernel_rfl) rfl (by kernel_rfl) ?_
      refine .block ?_
      have hb6 := (hx.ext hx4 nXE)
      have hm16 : ¬ 16 < beNat (l.take 1) := by omega
      refine XC.loop (ι := Option Addr × Nat × Nat × List Int × List UInt8) (fun ⟨A, cap, i, ks, r⟩ => [(0, Pt be_ 0), (1, Pt bn_ 0), (2, Pt bx_ 0), (12, I ((beNat (l.take 1) : Int))), (13, I (i : Int))]) (fun ⟨A, cap, i, ks, r⟩ u => Blk u be_ 135 [S (bs r), B true] ∧ Blk u bx_ 147 [.slice A ks.length cap, S ⟨#[]⟩] ∧ Own kInt u w.heap.size A cap ks ∧ Ext (fun k => k = bx_ ∨ k = be_) w u ∧ i ≤ beNat (l.take 1) ∧ ks.length = i ∧ pKids n (beNat (l.take 1)) (l.drop 1) = (pKids n (beNat (l.take 1) - i) r).map (fun p => (ks ++ p.1, p.2))) (fun ⟨A, cap, i, ks, r⟩ => beNat (l.take 1) - i) (none, 0, 0, [], l.drop 1) (cov_of (by kernel_rfl)) ⟨hb1, hb6, .nil, (hx4.weak fun b hb (q : b = be_) => .inr q), by omega, rfl, by cases pKids n (beNat (l.take 1)) (l.drop 1) <;> simp⟩ ?_
      rintro ⟨A, cap, i, ks, r⟩ w7 ⟨hbe, hbx, hown, hE, him, hi, hI⟩
      have z7 := hE.size
      refine .seq ?_
      refine .region ?_
      by_cases hc8 : ((i : Int) : Int) < (beNat (l.take 1) : Int)
      · refine xo.val 0 (by kernel_rfl) (c_lss_t hc8) ?_
        refine xo.done 0 [(0, Pt be_ 0), (1, Pt bn_ 0), (2, Pt bx_ 0), (12, I ((beNat (l.take 1) : Int))), (13, I (i : Int)), (14, B true)] (by kernel_rfl) rfl (by kernel_rfl) ?_
        refine .seq ?_
        refine .condT rfl rfl ?_
        refine .skip ?_
        refine .seq ?_
        refine .block ?_
        refine .seq ?_
        refine .region ?_
        by_cases hn10 : 4 ≤ r.length
        · refine xo.ret 1 (by kernel_rfl) (cf44 _ _) (eye_num _ be_ r hbe 4 (by omega) (by omega) hn10) ?_
          rintro _ w11 ⟨rfl, hb9, hx12⟩
          have z11 := hx12.size
          refine xo.done 1 [(0, Pt be_ 0), (1, Pt bn_ 0), (2, Pt bx_ 0), (5, I ((beNat (r.take 4) : Int))), (12, I ((beNat (l.take 1) : Int))), (13, I (i : Int))] (by kernel_rfl) rfl (by kernel_rfl) ?_
          refine .seq ?_
          refine .seq ?_
          refine .region ?_
          by_cases hc13 : ((beNat (r.take 4) : Int) : Int) < 2
          · refine xo.val 1 (by kernel_rfl) (c_lss_t hc13) ?_
            refine xo.done 5 [(0, Pt be_ 0), (1, Pt bn_ 0), (2, Pt bx_ 0), (5, I ((beNat (r.take 4) : Int))), (12, I ((beNat (l.take 1) : Int))), (13, I (i : Int)), (23, B true)] (by kernel_rfl) rfl (by kernel_rfl) ?_
            refine .condT rfl rfl ?_
            refine .region ?_
            refine xo.cpn 1 (by kernel_rfl) (cf45 _ _) (eye_fail _ be_ _ hb9 201) ?_
            rintro _ _ ⟨rfl, rfl⟩
            have hb14 := (hbx.ext hx12 nXE)
            exact ⟨.error 201, ⟨(by decide), rfl, _, hb9⟩, ⟨⟨pBlk_kids (by omega) (by rw [hI, pKids_bad (by omega) (by omega) (by omega)]; rfl), (by decide), _, _, _, _, hb14⟩, ((hE.weak fun b hb q => q).trans' hx12 (fun _ _ h => h) (fun b hb (q : b = be_) => .inr q))⟩⟩
          · refine xo.val 1 (by kernel_rfl) (c_lss_f hc13) ?_
            have hb15 := ((hn.ext hE (fun h => h.elim nNX nNE)).ext hx12 nNE)
            refine xo.val 2 (by kernel_rfl) (ldB (t := 3) (o := 0) (by kernel_rfl) hb15 rfl) ?_
            by_cases hc16 : ((beNat (r.take 4) : Int) : Int) < n
            · refine xo.val 0 (by kernel_rfl) (c_geq_t hc16) ?_
              refine xo.done 1 [(0, Pt be_ 0), (1, Pt bn_ 0), (2, Pt bx_ 0), (5, I ((beNat (r.take 4) : Int))), (12, I ((beNat (l.take 1) : Int))), (13, I (i : Int)), (23, B false)] (by kernel_rfl) rfl (by kernel_rfl) ?_
              refine .condF rfl rfl ?_
              refine .skip ?_
              refine .region ?_
              have hb17 := (hbx.ext hx12 nXE)
              refine xo.val 1 (by kernel_rfl) (ldB (t := 90) (o := 0) (by kernel_rfl) hb17 rfl) ?_
              refine xo.bsl 1 90 1 #[(0, I ((beNat (r.take 4) : Int)))] (et := 3) (cs := [I ((beNat (r.take 4) : Int))]) (by kernel_rfl) (by kernel_rfl) ?_
              intro b18 w19 hb20 hx21 hg22
              have z19 := hx21.size
              have l20 := hb20.lt
              have hs23 := ((hown.ext hx12 (fun b hb (e : b = be_) => hown.ne hbe rfl (e ▸ hb))).ext hx21 (fun _ _ h => h))
              refine xo.app 0 (ty := 90) (k := kInt) (t := 90) (tx := 90) (xs := ks) (ys := [(beNat (r.take 4) : Int)]) (x := .slice (some ⟨b18, 0, none⟩) 1 1) (by exact pInt) hs23 (src_one (k := kInt) (x := (beNat (r.take 4) : Int)) (by kernel_rfl) hb20 rfl) (by omega) (show (ks.length + 1) * 8 ≤ 140737488355328 from (by first | omega | (simp only [List.length_append, List.length_cons, List.length_nil]; omega))) (show ks.length + 1 ≤ 9223372036854775807 from (by first | omega | (simp only [List.length_append, List.length_cons, List.length_nil]; omega))) (by kernel_rfl) ?_
              intro A24 c25 w26 ho27 hx28
              have z26 := hx28.size
              have hb29 := ((hb17.ext hx21 (fun h => h)).ext hx28 (hs23.ne (hb17.ext hx21 (fun h => h)) rfl))
              refine xo.store 1 90 (o := 0) (.slice A24 ((ks ++ [(beNat (r.take 4) : Int)]).length) c25) [.slice A24 ((ks ++ [(beNat (r.take 4) : Int)]).length) c25, S (⟨#[]⟩)] (by kernel_rfl) hb29 (by kernel_rfl) (by kernel_rfl) (by kernel_rfl) (by kernel_rfl) ?_
              intro w30 hb31 hx32
              have z30 := hx32.size
              refine xo.done 0 [(0, Pt be_ 0), (1, Pt bn_ 0), (2, Pt bx_ 0), (12, I ((beNat (l.take 1) : Int))), (13, I (i : Int))] (by kernel_rfl) rfl (by kernel_rfl) ?_
              refine .region ?_
              refine xo.val 0 (by kernel_rfl) (a_add (a := (i : Int)) (b := 1) (by omega) (by omega)) ?_
              refine xo.fin 1 (by kernel_rfl) rfl ?_
              have hb33 := (((hb9.ext hx21 (fun h => h)).ext hx28 (hs23.ne (hb9.ext hx21 (fun h => h)) rfl)).ext hx32 nXE.symm)
              have hs34 := (ho27.ext hx32 (fun b hb (e : b = bx_) => ho27.ne hb29 rfl (e ▸ hb)))
              refine ⟨(A24, c25, i + 1, ks ++ [(beNat (r.take 4) : Int)], r.drop 4), cov_of (by kernel_rfl), ⟨hb33, hb31, hs34, (((((hE.weak fun b hb q => q).trans' hx12 (fun _ _ h => h) (fun b hb (q : b = be_) => .inr q)).trans' hx21 (fun _ _ h => h) (fun b hb h => h.elim)).trans' hx28 (fun _ _ h => h) (fun b hb hm => absurd (hs23.lt hm).1 (by omega))).trans' hx32 (fun _ _ h => h) (fun b hb (q : b = bx_) => .inl q)), by omega, by simpa using hi, ?_⟩, by show beNat (l.take 1) - (i + 1) < beNat (l.take 1) - i; omega⟩
              rw [hI, show beNat (l.take 1) - i = (beNat (l.take 1) - (i + 1)) + 1 by omega, pKids_step (by omega) (by omega) (by omega)]
              cases pKids n (beNat (l.take 1) - (i + 1)) (r.drop 4) <;> simp
            · refine xo.val 0 (by kernel_rfl) (c_geq_f hc16) ?_
              refine xo.done 1 [(0, Pt be_ 0), (1, Pt bn_ 0), (2, Pt bx_ 0), (5, I ((beNat (r.take 4) : Int))), (12, I ((beNat (l.take 1) : Int))), (13, I (i : Int)), (23, B true)] (by kernel_rfl) rfl (by kernel_rfl) ?_
              refine .condT rfl rfl ?_
              refine .region ?_
              refine xo.cpn 1 (by kernel_rfl) (cf45 _ _) (eye_fail _ be_ _ hb9 201) ?_
              rintro _ _ ⟨rfl, rfl⟩
              have hb35 := (hbx.ext hx12 nXE)
              exact ⟨.error 201, ⟨(by decide), rfl, _, hb9⟩, ⟨⟨pBlk_kids (by omega) (by rw [hI, pKids_bad (by omega) (by omega) (by omega)]; rfl), (by decide), _, _, _, _, hb35⟩, ((hE.weak fun b hb q => q).trans' hx12 (fun _ _ h => h) (fun b hb (q : b = be_) => .inr q))⟩⟩
        · refine xo.cpn 1 (by kernel_rfl) (cf44 _ _) (eye_num_bad _ be_ r hbe 4 (by omega) (by omega) (by omega)) ?_
          rintro _ _ ⟨rfl, rfl⟩
          exact ⟨.error 201, ⟨(by decide), rfl, _, hbe⟩, ⟨⟨pBlk_kids (by omega) (by rw [hI, pKids_num (by omega) hn10]; rfl), (by decide), _, _, _, _, hbx⟩, (hE.weak fun b hb q => q)⟩⟩
      · refine xo.val 0 (by kernel_rfl) (c_lss_f hc8) ?_
        refine xo.done 0 [(0, Pt be_ 0), (1, Pt bn_ 0), (2, Pt bx_ 0), (12, I ((beNat (l.take 1) : Int))), (13, I (i : Int)), (14, B false)] (by kernel_rfl) rfl (by kernel_rfl) ?_
        refine .seq ?_
        refine .condF rfl rfl ?_
        refine .exit ?_
        refine xsetTo ?_
        refine .region ?_
        have hi9 : i = beNat (l.take 1) := by omega
        have hK : pKids n (beNat (l.take 1)) (l.drop 1) = some (ks, r) := by rw [hI, hi9, Nat.sub_self]; simp [pKids]
        rcases hq37 : pText 3900 r with _ | ⟨t38, r39⟩
        · refine xo.cpn 1 (by kernel_rfl) (cf46 _ _) (eye_text_bad _ be_ r hbe 3900 hq37) ?_
          rintro _ w43 ⟨c40, hc41, rfl, ⟨s42, hb36⟩, hx44⟩
          have z43 := hx44.size
          have hb45 := (hbx.ext hx44 nXE)
          exact ⟨.error c40, ⟨hc41, rfl, _, hb36⟩, ⟨⟨by rw [pBlk_text (by omega) hm16 hK, hq37]; rfl, hc41, _, _, _, _, hb45⟩, ((hE.weak fun b hb q => q).trans' hx44 (fun _ _ h => h) (fun b hb (q : b = be_) => .inr q))⟩⟩
        · refine xo.ret 1 (by kernel_rfl) (cf46 _ _) (eye_text _ be_ r hbe 3900 hq37) ?_
          rintro _ w46 ⟨rfl, hb36, hx47⟩
          have z46 := hx47.size
          have hb48 := (hbx.ext hx47 nXE)
          refine xo.store 1 9 (o := 1) (S (bs t38)) [.slice A ks.length cap, S (bs t38)] (by kernel_rfl) hb48 (by kernel_rfl) (by kernel_rfl) (by kernel_rfl) (by kernel_rfl) ?_
          intro w49 hb50 hx51
          have z49 := hx51.size
          refine xo.fin 0 (by kernel_rfl) rfl ?_
          refine ⟨[], by kernel_rfl, ?_⟩
          have hb52 := (hb36.ext hx51 nXE.symm)
          have hs53 := ((hown.ext hx47 (fun b hb (e : b = be_) => hown.ne hbe rfl (e ▸ hb))).ext hx51 (fun b hb (e : b = bx_) => (hown.ext hx47 (fun b hb (e : b = be_) => hown.ne hbe rfl (e ▸ hb))).ne hb48 rfl (e ▸ hb)))
          exact ⟨.ok r39, ⟨rfl, hb52⟩, ⟨⟨ks, t38, A, cap, by rw [pBlk_text (by omega) hm16 hK, hq37]; rfl, hb50, hs53⟩, (((hE.weak fun b hb q => q).trans' hx47 (fun _ _ h => h) (fun b hb (q : b = be_) => .inr q)).trans' hx51 (fun _ _ h => h) (fun b hb (q : b = bx_) => .inl q))⟩⟩
    · refine xo.val 1 (by kernel_rfl) (c_gtr_f hc5) ?_
      refine xo.done 0 [(0, Pt be_ 0), (1, Pt bn_ 0), (2, Pt bx_ 0), (4, I ((beNat (l.take 1) : Int))), (9, B true)] (by kernel_rfl) rfl (by kernel_rfl) ?_
      refine .condT rfl rfl ?_
      refine .region ?_
      refine xo.cpn 1 (by kernel_rfl) (cf45 _ _) (eye_fail _ be_ _ hb1 201) ?_
      rintro _ _ ⟨rfl, rfl⟩
      have hb54 := (hx.ext hx4 nXE)
      exact ⟨.error 201, ⟨(by decide), rfl, _, hb1⟩, ⟨⟨pBlk_many (by omega) (by omega), (by decide), _, _, _, _, hb54⟩, (hx4.weak fun b hb (q : b = be_) => .inr q)⟩⟩
  · refine xo.cpn 1 (by kernel_rfl) (cf44 _ _) (eye_num_bad _ be_ l he 1 (by omega) (by omega) (by omega)) ?_
    rintro _ _ ⟨rfl, rfl⟩
    exact ⟨.error 201, ⟨(by decide), rfl, _, he⟩, ⟨⟨pBlk_num hn2, (by decide), _, _, _, _, hx⟩, (Ext.refl _ _)⟩⟩

theorem get_read (w : World) (lo hi : Nat) (A : Option Addr) (cap : Nat) (l : List UInt8) (h : Rd (kU8 5) w lo hi A l) (hh : hi ≤ w.heap.size) (bx_ bn_ : Nat) (n : Int)
    (hx : Blk w bx_ 147 [.slice none 0 0, S ⟨#[]⟩]) (hn : Blk w bn_ 3 [I n]) :
    Ret Tryz.prog 42 [.slice A l.length cap, .func (.func 138) #[] #[Pt bn_ 0, Pt bx_ 0]] w fun v w' => ∃ c A m cap s, v = I c ∧ Ext (fun k => k = bx_) w w' ∧ Blk w' bx_ 147 [.slice A m cap, S s] ∧
      (c = 0 ↔ ∃ p, pBlk n l = some (p, [])) ∧ ∀ p, pBlk n l = some (p, []) → m = p.1.length ∧ s = bs p.2 ∧ Own kInt w' w.heap.size A cap p.1 := by
  have hr := oct_read w lo hi A cap l h hh 138 [Pt bn_ 0, Pt bx_ 0] (fun w1 w2 out => ∃ e, w.heap.size ≤ e ∧ e < w1.heap.size ∧ GetG n l w1.heap.size bx_ e w1 w2 out) (fun _ _ => cf138 _ _)
    (fun e w1 he hE h1 h2 => Calls.mono (get_look w1 e bx_ bn_ l n he (hx.ext hE (fun h => h)) (hn.ext hE (fun h => h))) fun x w2 ⟨out, p, q⟩ =>
      ⟨out, p, ⟨e, h1, h2, q⟩, q.2.weak (fun b hb hk => hk.elim (fun q => .inl (q ▸ hx.lt)) .inr)⟩)
  refine Ret.mono hr ?_
  rintro v w' ⟨w1, w2, out, hE, ⟨e, he1, he2, hG, hG2⟩, hE2, hz, rfl⟩
  have hbx := hx.lt
  have hz1 := hE.size
  have hz2 := hE2.size
  have hAll : Ext (fun k => k = bx_) w w' := (hE.trans' hG2 (M'' := fun k => k = bx_) (fun _ _ h => h.elim) (fun b hb hk => hk.elim id (fun q => absurd hb (by omega)))).trans' hE2 (fun _ _ h => h) (fun b hb hk => absurd hk.1 (by omega))
  cases out with
  | error c =>
    obtain ⟨hno, hc, A1, m1, c1, s1, hb⟩ := hG
    exact ⟨c, A1, m1, c1, s1, rfl, hAll, hb.ext hE2 (fun h => absurd h.1 (by omega)), ⟨fun h => absurd h hc, fun ⟨p, hp⟩ => by rw [hno] at hp; cases hp⟩, fun p hp => by rw [hno] at hp; cases hp⟩
  | ok r =>
    obtain ⟨ks, d, A2, cap2, hp, hb, hown⟩ := hG
    have hb' := hb.ext hE2 (fun h => absurd h.1 (by omega))
    cases r with
    | cons x r => exact ⟨201, _, _, _, _, rfl, hAll, hb', ⟨fun h => absurd h (by decide), fun ⟨p, hp2⟩ => by rw [hp] at hp2; simp at hp2⟩, fun p hp2 => by rw [hp] at hp2; simp at hp2⟩
    | nil =>
      refine ⟨0, _, _, _, _, rfl, hAll, hb', ⟨fun _ => ⟨_, hp⟩, fun _ => rfl⟩, fun p hp2 => ?_⟩
      rw [hp] at hp2
      simp only [Option.some.injEq, Prod.mk.injEq, and_true] at hp2
      subst hp2
      exact ⟨rfl, rfl, (hown.ext hE2 (fun b hb hk => by have := (hown.lt hb).1; omega)).base_le (by omega)⟩

/-- The block that bytes tell. -/
def blkOf (n : Int) (s : ByteArray) : Option (List Int × List UInt8) :=
  if 8 ≤ s.size ∧ seal_ (s.extract 0 (s.size - 8)) = s then
    match pBlk n (s.extract 0 (s.size - 8)).data.toList with
    | some (p, []) => some p
    | _ => none
  else none
theorem crc_open_ok (w : World) (s : ByteArray) (hs : s.size ≤ 1099511627776) (h : 8 ≤ s.size ∧ seal_ (s.extract 0 (s.size - 8)) = s) :
    Ret Tryz.prog 137 [S s] w fun v w' => v = .tuple #[S (s.extract 0 (s.size - 8)), B true] ∧ Ext No w w' :=
  (crc_open w s hs).mono fun v w' ⟨h1, h2⟩ => ⟨by rw [h1, if_neg (by omega), decide_eq_true h], h2⟩
theorem crc_open_bad (w : World) (s : ByteArray) (hs : s.size ≤ 1099511627776) (h : ¬ (8 ≤ s.size ∧ seal_ (s.extract 0 (s.size - 8)) = s)) :
    Ret Tryz.prog 137 [S s] w fun v w' => ∃ t, v = .tuple #[S t, B false] ∧ Ext No w w' :=
  (crc_open w s hs).mono fun v w' ⟨h1, h2⟩ => ⟨if s.size < 8 then ⟨#[]⟩ else s.extract 0 (s.size - 8), by rw [h1, decide_eq_false h], h2⟩

theorem store_get (w : World) (s : ByteArray) (n : Int) (hs : s.size ≤ 1099511627776) :
    Ret Tryz.prog 123 [S s, I n] w fun v w' => ∃ A m cap t, v = .tuple #[.agg #[.slice A m cap, S t], B (blkOf n s).isSome] ∧ Ext No w w' ∧ ∀ p, blkOf n s = some p → m = p.1.length ∧ t = bs p.2 ∧ Own kInt w' w.heap.size A cap p.1 := by
  refine calls_of_XCr [.cell 4 147, .tmp 5] Tryz.func123 rfl rfl rfl ?_
  refine .seq ?_
  refine .region ?_
  refine xo.box 0 3 (I n) [I n] (by kernel_rfl) (by kernel_rfl) ?_
  intro b1 w2 hb3 hx4 hg5
  have z2 := hx4.size
  have l3 := hb3.lt
  refine xo.alloc 0 147 [.slice none 0 0, S (⟨#[]⟩)] (by kernel_rfl) (by kernel_rfl) ?_
  intro b6 w7 hb8 hx9 hg10
  have z7 := hx9.size
  have l8 := hb8.lt
  refine xo.done 1 [(0, S s), (3, Pt b1 0), (4, Pt b6 0)] (by kernel_rfl) rfl (by kernel_rfl) ?_
  refine .seq ?_
  refine .region ?_
  by_cases hok11 : 8 ≤ s.size ∧ seal_ (s.extract 0 (s.size - 8)) = s
  · refine xo.ret 1 (by kernel_rfl) (cf137 _ _) (crc_open_ok _ s (by omega) hok11) ?_
    rintro _ w12 ⟨rfl, hx13⟩
    have z12 := hx13.size
    refine xo.done 5 [(3, Pt b1 0), (4, Pt b6 0), (6, S (s.extract 0 (s.size - 8))), (7, B true)] (by kernel_rfl) rfl (by kernel_rfl) ?_
    refine .seq ?_
    refine .seq ?_
    refine .region ?_
    refine xo.done 2 [(3, Pt b1 0), (4, Pt b6 0), (6, S (s.extract 0 (s.size - 8))), (16, B false)] (by kernel_rfl) rfl (by kernel_rfl) ?_
    refine .condF rfl rfl ?_
    refine .skip ?_
    refine .seq ?_
    refine .region ?_
    refine xo.alloc 0 147 [.slice none 0 0, S (⟨#[]⟩)] (by kernel_rfl) (by kernel_rfl) ?_
    intro b14 w15 hb16 hx17 hg18
    have z15 := hx17.size
    have l16 := hb16.lt
    refine xo.done 0 [(3, Pt b1 0), (4, Pt b6 0), (6, S (s.extract 0 (s.size - 8))), (8, Pt b14 0)] (by kernel_rfl) rfl (by kernel_rfl) ?_
    refine .seq ?_
    refine .region ?_
    refine xo.s2b 1 9 76 5 (s.extract 0 (s.size - 8)) (by kernel_rfl) (by kernel_rfl) (by kernel_rfl) ?_
    intro A19 c20 w21 hs22 hx23
    have z21 := hx23.size
    have hb24 := (hb16.ext hx23 (fun h => h))
    have hb25 := ((((hb3.ext hx9 (fun h => h)).ext hx13 (fun h => h)).ext hx17 (fun h => h)).ext hx23 (fun h => h))
    refine xo.ret 1 (by kernel_rfl) (cf42 _ _) (get_read _ w15.heap.size w21.heap.size A19 c20 ((s.extract 0 (s.size - 8)).data.toList) hs22 (by omega) b14 b1 n hb24 hb25) ?_
    rintro _ w34 ⟨c26, A27, m28, c29, s30, rfl, hx35, hb31, hc32, hp33⟩
    have z34 := hx35.size
    refine xo.done 1 [(4, Pt b6 0), (8, Pt b14 0), (9, I c26)] (by kernel_rfl) rfl (by kernel_rfl) ?_
    refine .seq ?_
    refine .region ?_
    refine xo.val 0 (by kernel_rfl) (ldBA (t := 147) (o := 0) (vs := [.slice A27 m28 c29, S s30]) (by kernel_rfl) hb31 rfl) ?_
    by_cases hc36 : (c26 : Int) = 0
    · refine xo.val 1 (by kernel_rfl) (c_eql_t hc36) ?_
      have hb37 := ((((hb8.ext hx13 (fun h => h)).ext hx17 (fun h => h)).ext hx23 (fun h => h)).ext hx35 (show b6 ≠ b14 by omega))
      refine xo.store 0 147 (o := 0) (.agg #[.slice A27 m28 c29, S s30]) [.slice A27 m28 c29, S s30] (by kernel_rfl) hb37 (by kernel_rfl) (by kernel_rfl) (by kernel_rfl) (by kernel_rfl) ?_
      intro w38 hb39 hx40
      have z38 := hx40.size
      refine xo.done 1 [(4, Pt b6 0), (5, B true)] (by kernel_rfl) rfl (by kernel_rfl) ?_
      refine .ret ?_
      refine ⟨[.agg #[.slice A27 m28 c29, S s30], B true], ⟨⟨⟨b6, 0, none⟩, by kernel_rfl, lvA (by kernel_rfl) hb39⟩, by kernel_rfl, trivial⟩, _, rfl, ?_⟩
      obtain ⟨p0, hp0⟩ := hc32.1 (by assumption)
      have hB : blkOf n s = some p0 := by rw [blkOf, if_pos hok11, hp0]
      obtain ⟨rfl, rfl, hown⟩ := hp33 p0 hp0
      refine ⟨_, _, _, _, by rw [hB]; rfl, ((((((hx4.trans' hx9 (fun _ _ h => h) (fun b hb h => h)).trans' hx13 (fun _ _ h => h) (fun b hb h => h)).trans' hx17 (fun _ _ h => h) (fun b hb h => h)).trans' hx23 (fun _ _ h => h) (fun b hb h => h)).trans' hx35 (fun _ _ h => h) (fun b hb (e : b = b14) => absurd hb (by omega))).trans' hx40 (fun _ _ h => h) (fun b hb (e : b = b6) => absurd hb (by omega))), fun p hp => ?_⟩
      rw [hB] at hp
      obtain rfl := Option.some.inj hp
      exact ⟨rfl, rfl, (hown.ext hx40 (fun b hb (e : b = b6) => hown.ne hb37 rfl (e ▸ hb))).base_le (by omega)⟩
    · refine xo.val 1 (by kernel_rfl) (c_eql_f hc36) ?_
      have hb41 := ((((hb8.ext hx13 (fun h => h)).ext hx17 (fun h => h)).ext hx23 (fun h => h)).ext hx35 (show b6 ≠ b14 by omega))
      refine xo.store 0 147 (o := 0) (.agg #[.slice A27 m28 c29, S s30]) [.slice A27 m28 c29, S s30] (by kernel_rfl) hb41 (by kernel_rfl) (by kernel_rfl) (by kernel_rfl) (by kernel_rfl) ?_
      intro w42 hb43 hx44
      have z42 := hx44.size
      refine xo.done 1 [(4, Pt b6 0), (5, B false)] (by kernel_rfl) rfl (by kernel_rfl) ?_
      refine .ret ?_
      refine ⟨[.agg #[.slice A27 m28 c29, S s30], B false], ⟨⟨⟨b6, 0, none⟩, by kernel_rfl, lvA (by kernel_rfl) hb43⟩, by kernel_rfl, trivial⟩, _, rfl, ?_⟩
      have hB : blkOf n s = none := by
        rw [blkOf, if_pos hok11]
        split
        · exact absurd (hc32.2 ⟨_, by assumption⟩) (by assumption)
        · rfl
      exact ⟨_, _, _, _, by rw [hB]; rfl, ((((((hx4.trans' hx9 (fun _ _ h => h) (fun b hb h => h)).trans' hx13 (fun _ _ h => h) (fun b hb h => h)).trans' hx17 (fun _ _ h => h) (fun b hb h => h)).trans' hx23 (fun _ _ h => h) (fun b hb h => h)).trans' hx35 (fun _ _ h => h) (fun b hb (e : b = b14) => absurd hb (by omega))).trans' hx44 (fun _ _ h => h) (fun b hb (e : b = b6) => absurd hb (by omega))), fun p hp => by rw [hB] at hp; cases hp⟩
  · refine xo.ret 1 (by kernel_rfl) (cf137 _ _) (crc_open_bad _ s (by omega) hok11) ?_
    rintro _ w46 ⟨t45, rfl, hx47⟩
    have z46 := hx47.size
    refine xo.done 5 [(3, Pt b1 0), (4, Pt b6 0), (6, S t45), (7, B false)] (by kernel_rfl) rfl (by kernel_rfl) ?_
    refine .seq ?_
    refine .seq ?_
    refine .region ?_
    refine xo.done 2 [(3, Pt b1 0), (4, Pt b6 0), (6, S t45), (16, B true)] (by kernel_rfl) rfl (by kernel_rfl) ?_
    refine .condT rfl rfl ?_
    refine .seq ?_
    refine .region ?_
    have hb48 := (hb8.ext hx47 (fun h => h))
    refine xo.store 1 147 (o := 0) (.agg #[.slice none 0 0, S (⟨#[]⟩)]) [.slice none 0 0, S (⟨#[]⟩)] (by kernel_rfl) hb48 (by kernel_rfl) (by kernel_rfl) (by kernel_rfl) (by kernel_rfl) ?_
    intro w49 hb50 hx51
    have z49 := hx51.size
    refine xo.done 1 [(4, Pt b6 0), (5, B false)] (by kernel_rfl) rfl (by kernel_rfl) ?_
    refine .ret ?_
    refine ⟨[.agg #[.slice none 0 0, S (⟨#[]⟩)], B false], ⟨⟨⟨b6, 0, none⟩, by kernel_rfl, lvA (by kernel_rfl) hb50⟩, by kernel_rfl, trivial⟩, _, rfl, ?_⟩
    exact ⟨_, _, _, _, by rw [blkOf, if_neg hok11]; rfl, (((hx4.trans' hx9 (fun _ _ h => h) (fun b hb h => h)).trans' hx47 (fun _ _ h => h) (fun b hb h => h)).trans' hx51 (fun _ _ h => h) (fun b hb (e : b = b6) => absurd hb (by omega))), fun p hp => by rw [blkOf, if_neg hok11] at hp; cases hp⟩

end Go.Proofs.YtbajgpadmlnffaaGreat
/- A store as it lies in memory. -/
namespace Go.V
/-! what turns maps alone turns nothing else -/
def Maps (w : World) (M : Nat → Prop) : Prop := ∀ b, M b → ∃ es c, w.heap[b]? = some (.map es c)
theorem Maps.not_blk {w : World} {M : Nat → Prop} (h : Maps w M) {b : Nat} {t : TypeId} {cs : List Value} (hb : Blk w b t cs) : ¬ M b := fun hm => by
  obtain ⟨es, c, h1⟩ := h b hm
  unfold Blk at hb
  rw [hb] at h1
  cases h1
theorem Blk.extm {w w' : World} {M : Nat → Prop} {b : Nat} {t : TypeId} {cs : List Value} (h : Blk w b t cs) (hx : Ext M w w') (hm : Maps w M) : Blk w' b t cs := h.ext hx (hm.not_blk h)
theorem Cs.extm {w w' : World} {M : Nat → Prop} {b o : Nat} {cs : List Value} (h : Cs w b o cs) (hx : Ext M w w') (hm : Maps w M) : Cs w' b o cs := by
  cases cs with
  | nil => intro j v hv; simp at hv
  | cons v r =>
    refine h.ext hx fun hM => ?_
    obtain ⟨es, c, h1⟩ := hm b hM
    have := h 0 v rfl
    simp [World.cell?, h1] at this
theorem Rd.extm {α : Type} {k : Kd α} {w w' : World} {M : Nat → Prop} {lo hi : Nat} {A : Option Addr} {xs : List α} (h : Rd k w lo hi A xs) (hx : Ext M w w') (hm : Maps w M) : Rd k w' lo hi A xs := by
  rcases h with h | ⟨b, o, h1, h2, h3, h4⟩
  · exact .inl h
  · exact .inr ⟨b, o, h1, h2, h3, Cs.extm h4 hx hm⟩
theorem Own.extm {α : Type} {k : Kd α} {w w' : World} {M : Nat → Prop} {base cap : Nat} {A : Option Addr} {xs : List α} (h : Own k w base A cap xs) (hx : Ext M w w') (hm : Maps w M) : Own k w' base A cap xs := by
  rcases h with h | ⟨g, rest, h1, h2, h3, h4⟩
  · exact .inl h
  · exact .inr ⟨g, rest, h1, h2, Blk.extm h3 hx hm, h4⟩
end Go.V
namespace Go.Proofs.YtbajgpadmlnffaaGreat
open Go.V
set_option linter.unusedVariables false

structure Cl where
  named : Int
  held : Int
  high : Int
  A : Option Addr
  cap : Nat
  kids : List Int
def encC (c : Cl) : Value := .agg #[I c.named, I c.held, I c.high, .slice c.A c.kids.length c.cap]
def Cl.zero : Cl := ⟨0, 0, 0, none, 0, []⟩
abbrev Cells := List (Int × Cl)

structure St where
  gen : Int
  root : Int
  note : ByteArray
  cells : Cells
  kept : List (Int × Bool)
  dev : Dv
structure SAd where
  s : Nat
  d : DAd
  mc : Nat
  mkk : Nat
  lo : Nat
  hi : Nat

/-- A slice of kids: it lies in a block of ints. -/
def Kids (w : World) (A : Option Addr) (ks : List Int) : Prop :=
  ks.length ≤ 16 ∧ (ks = [] ∨ ∃ b o cs, A = some ⟨b, o, none⟩ ∧ Blk w b 3 cs ∧ Cs w b o (kInt.all ks))
theorem Kids.nil {w : World} {A : Option Addr} : Kids w A [] := ⟨by simp, .inl rfl⟩
theorem Kids.rd {w : World} {A : Option Addr} {ks : List Int} (h : Kids w A ks) : Rd kInt w 0 w.heap.size A ks := by
  rcases h.2 with h | ⟨b, o, cs, h1, h2, h3⟩
  · exact .inl h
  · exact .inr ⟨b, o, h1, Nat.zero_le _, h2.lt, h3⟩
theorem Kids.ext {w w' : World} {A : Option Addr} {ks : List Int} {M : Nat → Prop} (h : Kids w A ks) (hx : Ext M w w') (hm : ∀ b cs, Blk w b 3 cs → ¬ M b) : Kids w' A ks := by
  refine ⟨h.1, ?_⟩
  rcases h.2 with h | ⟨b, o, cs, h1, h2, h3⟩
  · exact .inl h
  · exact .inr ⟨b, o, cs, h1, h2.ext hx (hm b cs h2), h3.ext hx (hm b cs h2)⟩
theorem Own.kids {w : World} {base cap : Nat} {A : Option Addr} {ks : List Int} (h : Own kInt w base A cap ks) (hl : ks.length ≤ 16) : Kids w A ks := by
  refine ⟨hl, ?_⟩
  rcases h with ⟨_, _, h⟩ | ⟨g, rest, h1, _, h3, _⟩
  · exact .inl h
  · exact .inr ⟨g, 0, _, h1, h3, h3.cs.mono_w⟩

theorem Kids.extm {w w' : World} {M : Nat → Prop} {A : Option Addr} {ks : List Int} (h : Kids w A ks) (hx : Ext M w w') (hm : Maps w M) : Kids w' A ks := h.ext hx fun _ _ hb => hm.not_blk hb

def SAd.fpp (a : SAd) : Nat → Prop := fun b => b = a.mc ∨ b = a.d.mdt
def SAd.fp (a : SAd) : Nat → Prop := fun b => a.lo ≤ b ∧ b < a.hi
structure StAt (w : World) (a : SAd) (σ : St) : Prop where
  bs : Blk w a.s 99 [I σ.gen, I σ.root, S σ.note, Pt a.d.d 0, .map (some a.mc), .map (some a.mkk)]
  dv : DvAt w a.d σ.dev
  mc : MapAt w a.mc encC σ.cells
  mkt : MapAt w a.mkk B σ.kept
  kids : ∀ id c, mfind σ.cells id = some c → Kids w c.A c.kids
  ns : a.fp a.s
  nd : ∀ b, a.d.fp b → a.fp b
  nc : a.fp a.mc
  ckp : a.mc ≠ a.d.mkp
  cdt : a.mc ≠ a.d.mdt
  cmk : a.mc ≠ a.mkk
  kkp : a.mkk ≠ a.d.mkp
  kdt : a.mkk ≠ a.d.mdt
  hi : a.hi ≤ w.heap.size
  nod : (keys σ.cells).Nodup

theorem StAt.ext {w w' : World} {a : SAd} {σ : St} {M : Nat → Prop} (h : StAt w a σ) (hx : Ext M w w') (h1 : ∀ b, a.lo ≤ b → b < a.hi → ¬ M b) (h2 : ¬ M a.mkk)
    (h3 : ∀ b cs, Blk w b 3 cs → ¬ M b) : StAt w' a σ :=
  { bs := h.bs.ext hx (h1 _ h.ns.1 h.ns.2), dv := h.dv.ext hx (fun b hb => h1 _ (h.nd b hb).1 (h.nd b hb).2), mc := h.mc.ext hx (h1 _ h.nc.1 h.nc.2), mkt := h.mkt.ext hx h2,
    kids := fun id c hc => (h.kids id c hc).ext hx h3, ns := h.ns, nd := h.nd, nc := h.nc, ckp := h.ckp, cdt := h.cdt, cmk := h.cmk, kkp := h.kkp, kdt := h.kdt,
    hi := Nat.le_trans h.hi hx.size, nod := h.nod }
theorem StAt.no {w w' : World} {a : SAd} {σ : St} (h : StAt w a σ) (hx : Ext No w w') : StAt w' a σ := h.ext hx (fun _ _ _ h => h) (fun h => h) (fun _ _ _ h => h)

theorem StAt.maps {w : World} {a : SAd} {σ : St} (h : StAt w a σ) : Maps w a.fpp := by
  rintro b (rfl | rfl)
  · obtain ⟨es, c, h1, _⟩ := h.mc.is; exact ⟨es, c, h1⟩
  · obtain ⟨f, h1, _⟩ := h.dv.dt; obtain ⟨es, c, h2, _⟩ := h1.is; exact ⟨es, c, h2⟩
theorem StAt.mapc {w : World} {a : SAd} {σ : St} (h : StAt w a σ) : Maps w (fun b => b = a.mc) := fun b hb => h.maps b (.inl hb)
theorem StAt.fpp_fp {w : World} {a : SAd} {σ : St} (h : StAt w a σ) {b : Nat} (hb : a.fpp b) : a.lo ≤ b ∧ b < a.hi := by
  rcases hb with rfl | rfl
  · exact h.nc
  · exact h.nd _ (.inr (.inr rfl))

/-- The map of cells has turned. -/
theorem StAt.turn {w w' : World} {a : SAd} {σ : St} (h : StAt w a σ) {f : Cells} (hm : MapAt w' a.mc encC f) (hx : Ext (fun b => b = a.mc) w w') (hn : (keys f).Nodup)
    (hk : ∀ id c, mfind f id = some c → Kids w' c.A c.kids) : StAt w' a { σ with cells := f } :=
  { bs := h.bs.ext hx (fun e => (MapAt.ne h.mc h.bs) e.symm), dv := h.dv.ext hx (fun b hb e => by
      subst e
      rcases hb with hb | hb | hb
      · exact MapAt.ne h.mc h.dv.bd hb
      · exact h.ckp hb
      · exact h.cdt hb), mc := hm, mkt := h.mkt.ext hx (fun e => h.cmk e.symm),
    kids := hk, ns := h.ns, nd := h.nd, nc := h.nc, ckp := h.ckp, cdt := h.cdt, cmk := h.cmk, kkp := h.kkp, kdt := h.kdt, hi := Nat.le_trans h.hi hx.size, nod := hn }
theorem StAt.kids' {w w' : World} {a : SAd} {σ : St} (h : StAt w a σ) (hx : Ext (fun b => b = a.mc) w w') : ∀ id c, mfind σ.cells id = some c → Kids w' c.A c.kids :=
  fun id c hc => (h.kids id c hc).ext hx fun b cs hb e => MapAt.ne h.mc hb e.symm

/-- The device has turned. -/
theorem StAt.dev' {w w' : World} {a : SAd} {σ : St} (h : StAt w a σ) {δ : Dv} (hd : DvAt w' a.d δ) (hx : Ext (fun b => b = a.d.mdt) w w') : StAt w' a { σ with dev := δ } :=
  { bs := h.bs.ext hx (fun e => (MapF.ne h.dv.dt h.bs) e.symm), dv := hd, mc := h.mc.ext hx (fun e => h.cdt e), mkt := h.mkt.ext hx (fun e => h.kdt e),
    kids := fun id c hc => (h.kids id c hc).ext hx (fun b cs hb e => (MapF.ne h.dv.dt hb) e.symm), ns := h.ns, nd := h.nd, nc := h.nc, ckp := h.ckp, cdt := h.cdt, cmk := h.cmk, kkp := h.kkp, kdt := h.kdt,
    hi := Nat.le_trans h.hi hx.size, nod := h.nod }

/-! what the store's inner functions do to its cells -/
def cget (f : Cells) (id : Int) : Cl := (mfind f id).getD Cl.zero
def wr (x : Int) : Int := IntKind.i64.wrap x
def nameC (f : Cells) (id by_ : Int) : Cells := mput f id { cget f id with named := wr ((cget f id).named + by_) }
def holdC (f : Cells) (id by_ : Int) : Cells := mput f id { cget f id with held := wr ((cget f id).held + by_) }
def Cl.loose (c : Cl) : Bool := wr (c.named + c.held) == 0
def goneC : Nat → Cells → Int → Cells
  | 0, f, _ => f
  | m + 1, f, id =>
    match mfind f id with
    | none => f
    | some c => if c.loose then c.kids.foldl (fun f k => goneC m (nameC f k (-1)) k) (mdel f id) else f
def highC (f : Cells) (id : Int) : Int := (cget f id).high
/-- Kids stand lower. -/
def Lower (f : Cells) : Prop := ∀ id c, mfind f id = some c → 0 ≤ c.high ∧ ∀ k ∈ c.kids, highC f k < c.high
theorem cget_of {f : Cells} {id : Int} {c : Cl} (h : mfind f id = some c) : cget f id = c := by simp [cget, h]
theorem cget_no {f : Cells} {id : Int} (h : mfind f id = none) : cget f id = Cl.zero := by simp [cget, h]
theorem Kids.zero {w : World} : Kids w Cl.zero.A Cl.zero.kids := .nil

/-! heights fall -/
theorem highC_of {f : Cells} {id : Int} {c : Cl} (h : mfind f id = some c) : highC f id = c.high := by simp [highC, cget, h]
theorem highC_no {f : Cells} {id : Int} (h : mfind f id = none) : highC f id = 0 := by simp [highC, cget, h, Cl.zero]
theorem Lower.nn {f : Cells} (h : Lower f) (id : Int) : 0 ≤ highC f id := by
  cases hf : mfind f id with
  | none => rw [highC_no hf]; omega
  | some c => rw [highC_of hf]; exact (h id c hf).1
structure Good (f : Cells) : Prop where
  low : Lower f
  nod : (keys f).Nodup
structure Shr (f f' : Cells) : Prop where
  good : Good f'
  le : ∀ k, highC f' k ≤ highC f k
theorem Shr.trans {f g h : Cells} (a : Shr f g) (b : Shr g h) : Shr f h := ⟨b.good, fun k => Int.le_trans (b.le k) (a.le k)⟩
theorem Shr.refl {f : Cells} (h : Good f) : Shr f f := ⟨h, fun _ => Int.le_refl _⟩
theorem shr_del {f : Cells} (h : Good f) (id : Int) : Shr f (mdel f id) := by
  have hk : ∀ k, highC (mdel f id) k ≤ highC f k := fun k => by
    by_cases e : id = k
    · rw [highC_no (by rw [mfind_del h.nod, if_pos e])]; exact h.low.nn k
    · unfold highC cget; rw [mfind_del h.nod, if_neg e]; exact Int.le_refl _
  refine ⟨⟨fun j c hj => ?_, nodup_del h.nod _⟩, hk⟩
  rw [mfind_del h.nod] at hj
  split at hj
  · cases hj
  · exact ⟨(h.low j c hj).1, fun k hkm => Int.lt_of_le_of_lt (hk k) ((h.low j c hj).2 k hkm)⟩
theorem cget_mput (f : Cells) (id k : Int) (c : Cl) : cget (mput f id c) k = if id = k then c else cget f k := by
  unfold cget
  rw [mfind_put]
  split <;> rfl
theorem low_cget {f : Cells} (h : Good f) (id : Int) : 0 ≤ (cget f id).high ∧ ∀ k ∈ (cget f id).kids, highC f k < (cget f id).high := by
  cases hf : mfind f id with
  | none => rw [cget_no hf]; simp [Cl.zero]
  | some c => rw [cget_of hf]; exact h.low id c hf
/-- Counts may turn. -/
theorem shr_put {f : Cells} (h : Good f) (id : Int) (c : Cl) (h1 : c.high = (cget f id).high) (h2 : c.kids = (cget f id).kids) : Shr f (mput f id c) := by
  have hk : ∀ k, highC (mput f id c) k = highC f k := fun k => by
    unfold highC
    rw [cget_mput]
    split
    · rename_i e; subst e; exact h1
    · rfl
  refine ⟨⟨fun j d hj => ?_, nodup_put h.nod _ _⟩, fun k => by rw [hk]; exact Int.le_refl _⟩
  rw [mfind_put] at hj
  split at hj
  · obtain rfl := Option.some.inj hj
    rw [h1, h2]
    exact ⟨(low_cget h id).1, fun k hkm => by rw [hk]; exact (low_cget h id).2 k hkm⟩
  · exact ⟨(h.low j d hj).1, fun k hkm => by rw [hk]; exact (h.low j d hj).2 k hkm⟩
theorem shr_name {f : Cells} (h : Good f) (id by_ : Int) : Shr f (nameC f id by_) := shr_put h _ _ rfl rfl
theorem shr_hold {f : Cells} (h : Good f) (id by_ : Int) : Shr f (holdC f id by_) := shr_put h _ _ rfl rfl
theorem shr_gone : ∀ (m : Nat) (f : Cells) (id : Int), Good f → Shr f (goneC m f id) := by
  intro m
  induction m with
  | zero => intro f id h; exact .refl h
  | succ m ih =>
    intro f id h
    unfold goneC
    split
    · exact .refl h
    · rename_i c hc
      split
      · have key : ∀ (ks : List Int) (g : Cells), Shr f g → Shr f (ks.foldl (fun f k => goneC m (nameC f k (-1)) k) g) := by
          intro ks
          induction ks with
          | nil => intro g hg; exact hg
          | cons k r ihr => intro g hg; exact ihr _ ((hg.trans (shr_name hg.good k (-1))).trans (ih _ _ (shr_name hg.good k (-1)).good))
        exact key _ _ (shr_del h id)
      · exact .refl h
def goneF (m : Nat) (f : Cells) (ks : List Int) : Cells := ks.foldl (fun f k => goneC m (nameC f k (-1)) k) f
theorem goneF_snoc (m : Nat) (f : Cells) (ks : List Int) (i : Nat) (k : Int) (h : ks[i]? = some k) : goneF m f (ks.take (i + 1)) = goneC m (nameC (goneF m f (ks.take i)) k (-1)) k := by
  obtain ⟨hi, h2⟩ := List.getElem?_eq_some_iff.1 h
  unfold goneF
  rw [List.take_succ_eq_append_getElem hi, List.foldl_append, h2]
  rfl
theorem shr_goneF {m : Nat} : ∀ (ks : List Int) (f : Cells), Good f → Shr f (goneF m f ks) := by
  intro ks
  induction ks with
  | nil => intro f h; exact .refl h
  | cons k r ih =>
    intro f h
    have h1 := shr_name h k (-1)
    have h2 := shr_gone m _ k h1.good
    exact (h1.trans h2).trans (ih _ h2.good)
end Go.Proofs.YtbajgpadmlnffaaGreat
/- A store: the walks of its inner functions. -/
namespace Go.Proofs.YtbajgpadmlnffaaGreat
open Go.V
set_option maxRecDepth 100000
set_option linter.unusedVariables false
set_option linter.unusedSimpArgs false

theorem st_dead (w : World) (a : SAd) (σ : St) (hS : StAt w a σ) :
    Ret Tryz.prog 57 [Pt a.s 0] w fun v w' => v = B false ∧ w = w' := by
  have lS := hS.bs.lt
  have lMc := hS.mc.lt
  have lMk := hS.mkt.lt
  have hhi := hS.hi
  have nSC : a.s ≠ a.mc := fun e => MapAt.ne hS.mc hS.bs e.symm
  have nKC : a.mkk ≠ a.mc := fun e => hS.cmk e.symm
  refine calls_of_XC Tryz.func57 rfl rfl ?_
  refine .seq ?_
  refine .region ?_
  refine xo.done 1 [(0, Pt a.s 0)] (by kernel_rfl) rfl (by kernel_rfl) ?_
  refine .seq ?_
  refine .region ?_
  refine xo.val 6 (by kernel_rfl) (ldB (t := 53) (o := 3) (by kernel_rfl) hS.bs rfl) ?_
  refine xo.done 3 [(2, B false)] (by kernel_rfl) rfl (by kernel_rfl) ?_
  refine .ret ?_
  refine ⟨[B false], by kernel_rfl, _, rfl, ?_⟩
  exact ⟨rfl, rfl⟩

theorem st_has_some (w : World) (a : SAd) (σ : St) (hS : StAt w a σ) (id : Int) (c : Cl) (h : mfind σ.cells id = some c) :
    Ret Tryz.prog 59 [Pt a.s 0, I id] w fun v w' => v = B true ∧ Ext No w w' := by
  have lS := hS.bs.lt
  have lMc := hS.mc.lt
  have lMk := hS.mkt.lt
  have hhi := hS.hi
  have nSC : a.s ≠ a.mc := fun e => MapAt.ne hS.mc hS.bs e.symm
  have nKC : a.mkk ≠ a.mc := fun e => hS.cmk e.symm
  refine calls_of_XC Tryz.func59 rfl rfl ?_
  refine .seq ?_
  refine .region ?_
  refine xo.done 1 [(0, Pt a.s 0), (1, I id)] (by kernel_rfl) rfl (by kernel_rfl) ?_
  refine .seq ?_
  refine .region ?_
  refine xo.val 3 (by kernel_rfl) (ldB (t := 96) (o := 4) (by kernel_rfl) hS.bs rfl) ?_
  refine xo.val 1 (by kernel_rfl) (lk_some (t := 96) (z := .agg #[I 0, I 0, I 0, .slice none 0 0]) (by kernel_rfl) hS.mc h true) ?_
  refine xo.alloc 3 92 [I 0, I 0, I 0, .slice none 0 0] (by kernel_rfl) (by kernel_rfl) ?_
  intro b1 w2 hb3 hx4 hg5
  have z2 := hx4.size
  have l3 := hb3.lt
  refine xo.store 0 92 (o := 0) (.agg #[I c.named, I c.held, I c.high, .slice c.A c.kids.length c.cap]) [I c.named, I c.held, I c.high, .slice c.A c.kids.length c.cap] (by kernel_rfl) hb3 (by kernel_rfl) (by kernel_rfl) (by kernel_rfl) (by kernel_rfl) ?_
  intro w6 hb7 hx8
  have z6 := hx8.size
  refine xo.done 1 [(6, B true)] (by kernel_rfl) rfl (by kernel_rfl) ?_
  refine .seq ?_
  refine .region ?_
  refine xo.done 2 [(4, B true)] (by kernel_rfl) rfl (by kernel_rfl) ?_
  refine .ret ?_
  refine ⟨[B true], by kernel_rfl, _, rfl, ?_⟩
  exact ⟨rfl, (hx4.trans' hx8 (fun _ _ h => h) (fun b hb (e : b = b1) => absurd hb (by omega)))⟩

theorem st_has_none (w : World) (a : SAd) (σ : St) (hS : StAt w a σ) (id : Int) (h : mfind σ.cells id = none) :
    Ret Tryz.prog 59 [Pt a.s 0, I id] w fun v w' => v = B false ∧ Ext No w w' := by
  have lS := hS.bs.lt
  have lMc := hS.mc.lt
  have lMk := hS.mkt.lt
  have hhi := hS.hi
  have nSC : a.s ≠ a.mc := fun e => MapAt.ne hS.mc hS.bs e.symm
  have nKC : a.mkk ≠ a.mc := fun e => hS.cmk e.symm
  refine calls_of_XC Tryz.func59 rfl rfl ?_
  refine .seq ?_
  refine .region ?_
  refine xo.done 1 [(0, Pt a.s 0), (1, I id)] (by kernel_rfl) rfl (by kernel_rfl) ?_
  refine .seq ?_
  refine .region ?_
  refine xo.val 3 (by kernel_rfl) (ldB (t := 96) (o := 4) (by kernel_rfl) hS.bs rfl) ?_
  refine xo.val 1 (by kernel_rfl) (lk_none (t := 96) (z := .agg #[I 0, I 0, I 0, .slice none 0 0]) (by kernel_rfl) hS.mc h true) ?_
  refine xo.alloc 3 92 [I 0, I 0, I 0, .slice none 0 0] (by kernel_rfl) (by kernel_rfl) ?_
  intro b1 w2 hb3 hx4 hg5
  have z2 := hx4.size
  have l3 := hb3.lt
  refine xo.store 0 92 (o := 0) (.agg #[I 0, I 0, I 0, .slice none 0 0]) [I 0, I 0, I 0, .slice none 0 0] (by kernel_rfl) hb3 (by kernel_rfl) (by kernel_rfl) (by kernel_rfl) (by kernel_rfl) ?_
  intro w6 hb7 hx8
  have z6 := hx8.size
  refine xo.done 1 [(6, B false)] (by kernel_rfl) rfl (by kernel_rfl) ?_
  refine .seq ?_
  refine .region ?_
  refine xo.done 2 [(4, B false)] (by kernel_rfl) rfl (by kernel_rfl) ?_
  refine .ret ?_
  refine ⟨[B false], by kernel_rfl, _, rfl, ?_⟩
  exact ⟨rfl, (hx4.trans' hx8 (fun _ _ h => h) (fun b hb (e : b = b1) => absurd hb (by omega)))⟩

theorem st_name (w : World) (a : SAd) (σ : St) (hS : StAt w a σ) (id by_ : Int) :
    Ret Tryz.prog 86 [Pt a.s 0, I id, I by_] w fun v w' => StAt w' a { σ with cells := nameC σ.cells id by_ } ∧ Ext (fun b => b = a.mc) w w' := by
  have lS := hS.bs.lt
  have lMc := hS.mc.lt
  have lMk := hS.mkt.lt
  have hhi := hS.hi
  have nSC : a.s ≠ a.mc := fun e => MapAt.ne hS.mc hS.bs e.symm
  have nKC : a.mkk ≠ a.mc := fun e => hS.cmk e.symm
  refine calls_of_XC Tryz.func86 rfl rfl ?_
  refine .seq ?_
  refine .region ?_
  refine xo.val 3 (by kernel_rfl) (ldB (t := 96) (o := 4) (by kernel_rfl) hS.bs rfl) ?_
  rcases hq1 : mfind σ.cells id with _ | x2
  · refine xo.val 1 (by kernel_rfl) (lk_none (t := 96) (z := .agg #[I 0, I 0, I 0, .slice none 0 0]) (by kernel_rfl) hS.mc hq1 false) ?_
    refine xo.alloc 0 92 [I 0, I 0, I 0, .slice none 0 0] (by kernel_rfl) (by kernel_rfl) ?_
    intro b3 w4 hb5 hx6 hg7
    have z4 := hx6.size
    have l5 := hb5.lt
    refine xo.store 0 92 (o := 0) (.agg #[I 0, I 0, I 0, .slice none 0 0]) [I 0, I 0, I 0, .slice none 0 0] (by kernel_rfl) hb5 (by kernel_rfl) (by kernel_rfl) (by kernel_rfl) (by kernel_rfl) ?_
    intro w8 hb9 hx10
    have z8 := hx10.size
    refine xo.done 0 [(0, Pt a.s 0), (1, I id), (2, I by_), (6, Pt b3 0)] (by kernel_rfl) rfl (by kernel_rfl) ?_
    refine .seq ?_
    refine .region ?_
    refine xo.val 1 (by kernel_rfl) (ldB (t := 3) (o := 0) (by kernel_rfl) hb9 rfl) ?_
    refine xo.store 3 3 (o := 0) (I (IntKind.i64.wrap (0 + by_))) [I (IntKind.i64.wrap (0 + by_)), I 0, I 0, .slice none 0 0] (by kernel_rfl) hb9 (by kernel_rfl) (by kernel_rfl) (by kernel_rfl) (by kernel_rfl) ?_
    intro w11 hb12 hx13
    have z11 := hx13.size
    refine xo.done 0 [(0, Pt a.s 0), (1, I id), (6, Pt b3 0)] (by kernel_rfl) rfl (by kernel_rfl) ?_
    refine .regionTail 6 (by kernel_rfl) (by kernel_rfl) ?_
    intro w14 hd15
    have hx15 := Ext.ofDrew (M := No) hd15
    have z14 := hx15.size
    have hb16 := ((((hS.bs.ext hx6 (fun h => h)).ext hx10 (show a.s ≠ b3 by omega)).ext hx13 (show a.s ≠ b3 by omega)).ext hx15 (fun h => h))
    refine Go.V.xs.val 3 (by kernel_rfl) (ldB (t := 96) (o := 4) (by kernel_rfl) hb16 rfl) ?_
    have hb17 := (hb12.ext hx15 (fun h => h))
    refine Go.V.xs.val 1 (by kernel_rfl) (ldBA (t := 92) (o := 0) (vs := [I (IntKind.i64.wrap (0 + by_)), I 0, I 0, .slice none 0 0]) (by kernel_rfl) hb17 rfl) ?_
    refine Go.V.xs.fin 0 (by kernel_rfl) rfl ?_
    have hm18 := ((((hS.mc.ext hx6 (fun h => h)).ext hx10 (show a.mc ≠ b3 by omega)).ext hx13 (show a.mc ≠ b3 by omega)).ext hx15 (fun h => h))
    refine xo.mapPut 0 (t := 96) (z := .agg #[I 0, I 0, I 0, .slice none 0 0]) (k := id) (v := .agg #[I (IntKind.i64.wrap (0 + by_)), I 0, I 0, .slice none 0 0]) ((⟨IntKind.i64.wrap (0 + by_), 0, 0, none, 0, []⟩ : Cl)) (by kernel_rfl) hm18 rfl (by kernel_rfl) ?_
    intro w19 hm20 hx21
    have z19 := hx21.size
    refine xo.fin 0 (by kernel_rfl) rfl ?_
    refine ⟨[], by kernel_rfl, _, rfl, ?_⟩
    have hc : cget σ.cells id = _ := cget_no hq1
    have hE : Ext (fun b => b = a.mc) w w19 := (((((hx6.weak fun b hb h => h.elim).trans' hx10 (fun _ _ h => h) (fun b hb (e : b = b3) => absurd hb (by omega))).trans' hx13 (fun _ _ h => h) (fun b hb (e : b = b3) => absurd hb (by omega))).trans' hx15 (fun _ _ h => h) (fun b hb h => h.elim)).trans' hx21 (fun _ _ h => h) (fun b hb e => e))
    have hf : nameC σ.cells id by_ = mput σ.cells id ((⟨IntKind.i64.wrap (0 + by_), 0, 0, none, 0, []⟩ : Cl)) := by unfold nameC; rw [hc]; rfl
    refine ⟨?_, hE⟩
    rw [hf]
    refine hS.turn hm20 hE (nodup_put hS.nod _ _) fun j c hj => ?_
    rw [mfind_put] at hj
    split at hj
    · obtain rfl := Option.some.inj hj
      exact Kids.nil
    · exact hS.kids' hE j c hj
  · refine xo.val 1 (by kernel_rfl) (lk_some (t := 96) (z := .agg #[I 0, I 0, I 0, .slice none 0 0]) (by kernel_rfl) hS.mc hq1 false) ?_
    refine xo.alloc 0 92 [I 0, I 0, I 0, .slice none 0 0] (by kernel_rfl) (by kernel_rfl) ?_
    intro b22 w23 hb24 hx25 hg26
    have z23 := hx25.size
    have l24 := hb24.lt
    refine xo.store 0 92 (o := 0) (.agg #[I x2.named, I x2.held, I x2.high, .slice x2.A x2.kids.length x2.cap]) [I x2.named, I x2.held, I x2.high, .slice x2.A x2.kids.length x2.cap] (by kernel_rfl) hb24 (by kernel_rfl) (by kernel_rfl) (by kernel_rfl) (by kernel_rfl) ?_
    intro w27 hb28 hx29
    have z27 := hx29.size
    refine xo.done 0 [(0, Pt a.s 0), (1, I id), (2, I by_), (6, Pt b22 0)] (by kernel_rfl) rfl (by kernel_rfl) ?_
    refine .seq ?_
    refine .region ?_
    refine xo.val 1 (by kernel_rfl) (ldB (t := 3) (o := 0) (by kernel_rfl) hb28 rfl) ?_
    refine xo.store 3 3 (o := 0) (I (IntKind.i64.wrap (x2.named + by_))) [I (IntKind.i64.wrap (x2.named + by_)), I x2.held, I x2.high, .slice x2.A x2.kids.length x2.cap] (by kernel_rfl) hb28 (by kernel_rfl) (by kernel_rfl) (by kernel_rfl) (by kernel_rfl) ?_
    intro w30 hb31 hx32
    have z30 := hx32.size
    refine xo.done 0 [(0, Pt a.s 0), (1, I id), (6, Pt b22 0)] (by kernel_rfl) rfl (by kernel_rfl) ?_
    refine .regionTail 6 (by kernel_rfl) (by kernel_rfl) ?_
    intro w33 hd34
    have hx34 := Ext.ofDrew (M := No) hd34
    have z33 := hx34.size
    have hb35 := ((((hS.bs.ext hx25 (fun h => h)).ext hx29 (show a.s ≠ b22 by omega)).ext hx32 (show a.s ≠ b22 by omega)).ext hx34 (fun h => h))
    refine Go.V.xs.val 3 (by kernel_rfl) (ldB (t := 96) (o := 4) (by kernel_rfl) hb35 rfl) ?_
    have hb36 := (hb31.ext hx34 (fun h => h))
    refine Go.V.xs.val 1 (by kernel_rfl) (ldBA (t := 92) (o := 0) (vs := [I (IntKind.i64.wrap (x2.named + by_)), I x2.held, I x2.high, .slice x2.A x2.kids.length x2.cap]) (by kernel_rfl) hb36 rfl) ?_
    refine Go.V.xs.fin 0 (by kernel_rfl) rfl ?_
    have hm37 := ((((hS.mc.ext hx25 (fun h => h)).ext hx29 (show a.mc ≠ b22 by omega)).ext hx32 (show a.mc ≠ b22 by omega)).ext hx34 (fun h => h))
    refine xo.mapPut 0 (t := 96) (z := .agg #[I 0, I 0, I 0, .slice none 0 0]) (k := id) (v := .agg #[I (IntKind.i64.wrap (x2.named + by_)), I x2.held, I x2.high, .slice x2.A x2.kids.length x2.cap]) ((⟨IntKind.i64.wrap (x2.named + by_), x2.held, x2.high, x2.A, x2.cap, x2.kids⟩ : Cl)) (by kernel_rfl) hm37 rfl (by kernel_rfl) ?_
    intro w38 hm39 hx40
    have z38 := hx40.size
    refine xo.fin 0 (by kernel_rfl) rfl ?_
    refine ⟨[], by kernel_rfl, _, rfl, ?_⟩
    have hc : cget σ.cells id = _ := cget_of hq1
    have hE : Ext (fun b => b = a.mc) w w38 := (((((hx25.weak fun b hb h => h.elim).trans' hx29 (fun _ _ h => h) (fun b hb (e : b = b22) => absurd hb (by omega))).trans' hx32 (fun _ _ h => h) (fun b hb (e : b = b22) => absurd hb (by omega))).trans' hx34 (fun _ _ h => h) (fun b hb h => h.elim)).trans' hx40 (fun _ _ h => h) (fun b hb e => e))
    have hf : nameC σ.cells id by_ = mput σ.cells id ((⟨IntKind.i64.wrap (x2.named + by_), x2.held, x2.high, x2.A, x2.cap, x2.kids⟩ : Cl)) := by unfold nameC; rw [hc]; rfl
    refine ⟨?_, hE⟩
    rw [hf]
    refine hS.turn hm39 hE (nodup_put hS.nod _ _) fun j c hj => ?_
    rw [mfind_put] at hj
    split at hj
    · obtain rfl := Option.some.inj hj
      exact hS.kids' hE id x2 hq1
    · exact hS.kids' hE j c hj

theorem st_hold (w : World) (a : SAd) (σ : St) (hS : StAt w a σ) (id by_ : Int) :
    Ret Tryz.prog 63 [Pt a.s 0, I id, I by_] w fun v w' => StAt w' a { σ with cells := holdC σ.cells id by_ } ∧ Ext (fun b => b = a.mc) w w' := by
  have lS := hS.bs.lt
  have lMc := hS.mc.lt
  have lMk := hS.mkt.lt
  have hhi := hS.hi
  have nSC : a.s ≠ a.mc := fun e => MapAt.ne hS.mc hS.bs e.symm
  have nKC : a.mkk ≠ a.mc := fun e => hS.cmk e.symm
  refine calls_of_XC Tryz.func63 rfl rfl ?_
  refine .seq ?_
  refine .region ?_
  refine xo.val 3 (by kernel_rfl) (ldB (t := 96) (o := 4) (by kernel_rfl) hS.bs rfl) ?_
  rcases hq1 : mfind σ.cells id with _ | x2
  · refine xo.val 1 (by kernel_rfl) (lk_none (t := 96) (z := .agg #[I 0, I 0, I 0, .slice none 0 0]) (by kernel_rfl) hS.mc hq1 false) ?_
    refine xo.alloc 0 92 [I 0, I 0, I 0, .slice none 0 0] (by kernel_rfl) (by kernel_rfl) ?_
    intro b3 w4 hb5 hx6 hg7
    have z4 := hx6.size
    have l5 := hb5.lt
    refine xo.store 0 92 (o := 0) (.agg #[I 0, I 0, I 0, .slice none 0 0]) [I 0, I 0, I 0, .slice none 0 0] (by kernel_rfl) hb5 (by kernel_rfl) (by kernel_rfl) (by kernel_rfl) (by kernel_rfl) ?_
    intro w8 hb9 hx10
    have z8 := hx10.size
    refine xo.done 0 [(0, Pt a.s 0), (1, I id), (2, I by_), (6, Pt b3 0)] (by kernel_rfl) rfl (by kernel_rfl) ?_
    refine .seq ?_
    refine .region ?_
    refine xo.val 1 (by kernel_rfl) (ldB (t := 3) (o := 1) (by kernel_rfl) hb9 rfl) ?_
    refine xo.store 3 3 (o := 1) (I (IntKind.i64.wrap (0 + by_))) [I 0, I (IntKind.i64.wrap (0 + by_)), I 0, .slice none 0 0] (by kernel_rfl) hb9 (by kernel_rfl) (by kernel_rfl) (by kernel_rfl) (by kernel_rfl) ?_
    intro w11 hb12 hx13
    have z11 := hx13.size
    refine xo.done 0 [(0, Pt a.s 0), (1, I id), (6, Pt b3 0)] (by kernel_rfl) rfl (by kernel_rfl) ?_
    refine .regionTail 6 (by kernel_rfl) (by kernel_rfl) ?_
    intro w14 hd15
    have hx15 := Ext.ofDrew (M := No) hd15
    have z14 := hx15.size
    have hb16 := ((((hS.bs.ext hx6 (fun h => h)).ext hx10 (show a.s ≠ b3 by omega)).ext hx13 (show a.s ≠ b3 by omega)).ext hx15 (fun h => h))
    refine Go.V.xs.val 3 (by kernel_rfl) (ldB (t := 96) (o := 4) (by kernel_rfl) hb16 rfl) ?_
    have hb17 := (hb12.ext hx15 (fun h => h))
    refine Go.V.xs.val 1 (by kernel_rfl) (ldBA (t := 92) (o := 0) (vs := [I 0, I (IntKind.i64.wrap (0 + by_)), I 0, .slice none 0 0]) (by kernel_rfl) hb17 rfl) ?_
    refine Go.V.xs.fin 0 (by kernel_rfl) rfl ?_
    have hm18 := ((((hS.mc.ext hx6 (fun h => h)).ext hx10 (show a.mc ≠ b3 by omega)).ext hx13 (show a.mc ≠ b3 by omega)).ext hx15 (fun h => h))
    refine xo.mapPut 0 (t := 96) (z := .agg #[I 0, I 0, I 0, .slice none 0 0]) (k := id) (v := .agg #[I 0, I (IntKind.i64.wrap (0 + by_)), I 0, .slice none 0 0]) ((⟨0, IntKind.i64.wrap (0 + by_), 0, none, 0, []⟩ : Cl)) (by kernel_rfl) hm18 rfl (by kernel_rfl) ?_
    intro w19 hm20 hx21
    have z19 := hx21.size
    refine xo.fin 0 (by kernel_rfl) rfl ?_
    refine ⟨[], by kernel_rfl, _, rfl, ?_⟩
    have hc : cget σ.cells id = _ := cget_no hq1
    have hE : Ext (fun b => b = a.mc) w w19 := (((((hx6.weak fun b hb h => h.elim).trans' hx10 (fun _ _ h => h) (fun b hb (e : b = b3) => absurd hb (by omega))).trans' hx13 (fun _ _ h => h) (fun b hb (e : b = b3) => absurd hb (by omega))).trans' hx15 (fun _ _ h => h) (fun b hb h => h.elim)).trans' hx21 (fun _ _ h => h) (fun b hb e => e))
    have hf : holdC σ.cells id by_ = mput σ.cells id ((⟨0, IntKind.i64.wrap (0 + by_), 0, none, 0, []⟩ : Cl)) := by unfold holdC; rw [hc]; rfl
    refine ⟨?_, hE⟩
    rw [hf]
    refine hS.turn hm20 hE (nodup_put hS.nod _ _) fun j c hj => ?_
    rw [mfind_put] at hj
    split at hj
    · obtain rfl := Option.some.inj hj
      exact Kids.nil
    · exact hS.kids' hE j c hj
  · refine xo.val 1 (by kernel_rfl) (lk_some (t := 96) (z := .agg #[I 0, I 0, I 0, .slice none 0 0]) (by kernel_rfl) hS.mc hq1 false) ?_
    refine xo.alloc 0 92 [I 0, I 0, I 0, .slice none 0 0] (by kernel_rfl) (by kernel_rfl) ?_
    intro b22 w23 hb24 hx25 hg26
    have z23 := hx25.size
    have l24 := hb24.lt
    refine xo.store 0 92 (o := 0) (.agg #[I x2.named, I x2.held, I x2.high, .slice x2.A x2.kids.length x2.cap]) [I x2.named, I x2.held, I x2.high, .slice x2.A x2.kids.length x2.cap] (by kernel_rfl) hb24 (by kernel_rfl) (by kernel_rfl) (by kernel_rfl) (by kernel_rfl) ?_
    intro w27 hb28 hx29
    have z27 := hx29.size
    refine xo.done 0 [(0, Pt a.s 0), (1, I id), (2, I by_), (6, Pt b22 0)] (by kernel_rfl) rfl (by kernel_rfl) ?_
    refine .seq ?_
    refine .region ?_
    refine xo.val 1 (by kernel_rfl) (ldB (t := 3) (o := 1) (by kernel_rfl) hb28 rfl) ?_
    refine xo.store 3 3 (o := 1) (I (IntKind.i64.wrap (x2.held + by_))) [I x2.named, I (IntKind.i64.wrap (x2.held + by_)), I x2.high, .slice x2.A x2.kids.length x2.cap] (by kernel_rfl) hb28 (by kernel_rfl) (by kernel_rfl) (by kernel_rfl) (by kernel_rfl) ?_
    intro w30 hb31 hx32
    have z30 := hx32.size
    refine xo.done 0 [(0, Pt a.s 0), (1, I id), (6, Pt b22 0)] (by kernel_rfl) rfl (by kernel_rfl) ?_
    refine .regionTail 6 (by kernel_rfl) (by kernel_rfl) ?_
    intro w33 hd34
    have hx34 := Ext.ofDrew (M := No) hd34
    have z33 := hx34.size
    have hb35 := ((((hS.bs.ext hx25 (fun h => h)).ext hx29 (show a.s ≠ b22 by omega)).ext hx32 (show a.s ≠ b22 by omega)).ext hx34 (fun h => h))
    refine Go.V.xs.val 3 (by kernel_rfl) (ldB (t := 96) (o := 4) (by kernel_rfl) hb35 rfl) ?_
    have hb36 := (hb31.ext hx34 (fun h => h))
    refine Go.V.xs.val 1 (by kernel_rfl) (ldBA (t := 92) (o := 0) (vs := [I x2.named, I (IntKind.i64.wrap (x2.held + by_)), I x2.high, .slice x2.A x2.kids.length x2.cap]) (by kernel_rfl) hb36 rfl) ?_
    refine Go.V.xs.fin 0 (by kernel_rfl) rfl ?_
    have hm37 := ((((hS.mc.ext hx25 (fun h => h)).ext hx29 (show a.mc ≠ b22 by omega)).ext hx32 (show a.mc ≠ b22 by omega)).ext hx34 (fun h => h))
    refine xo.mapPut 0 (t := 96) (z := .agg #[I 0, I 0, I 0, .slice none 0 0]) (k := id) (v := .agg #[I x2.named, I (IntKind.i64.wrap (x2.held + by_)), I x2.high, .slice x2.A x2.kids.length x2.cap]) ((⟨x2.named, IntKind.i64.wrap (x2.held + by_), x2.high, x2.A, x2.cap, x2.kids⟩ : Cl)) (by kernel_rfl) hm37 rfl (by kernel_rfl) ?_
    intro w38 hm39 hx40
    have z38 := hx40.size
    refine xo.fin 0 (by kernel_rfl) rfl ?_
    refine ⟨[], by kernel_rfl, _, rfl, ?_⟩
    have hc : cget σ.cells id = _ := cget_of hq1
    have hE : Ext (fun b => b = a.mc) w w38 := (((((hx25.weak fun b hb h => h.elim).trans' hx29 (fun _ _ h => h) (fun b hb (e : b = b22) => absurd hb (by omega))).trans' hx32 (fun _ _ h => h) (fun b hb (e : b = b22) => absurd hb (by omega))).trans' hx34 (fun _ _ h => h) (fun b hb h => h.elim)).trans' hx40 (fun _ _ h => h) (fun b hb e => e))
    have hf : holdC σ.cells id by_ = mput σ.cells id ((⟨x2.named, IntKind.i64.wrap (x2.held + by_), x2.high, x2.A, x2.cap, x2.kids⟩ : Cl)) := by unfold holdC; rw [hc]; rfl
    refine ⟨?_, hE⟩
    rw [hf]
    refine hS.turn hm39 hE (nodup_put hS.nod _ _) fun j c hj => ?_
    rw [mfind_put] at hj
    split at hj
    · obtain rfl := Option.some.inj hj
      exact hS.kids' hE id x2 hq1
    · exact hS.kids' hE j c hj

theorem st_loose (w : World) (c : Cl) :
    Ret Tryz.prog 85 [.agg #[I c.named, I c.held, I c.high, .slice c.A c.kids.length c.cap]] w fun v w' => v = B c.loose ∧ Ext No w w' := by
  refine calls_of_XC Tryz.func85 rfl rfl ?_
  refine .seq ?_
  refine .region ?_
  refine xo.box 0 92 (.agg #[I c.named, I c.held, I c.high, .slice c.A c.kids.length c.cap]) [I c.named, I c.held, I c.high, .slice c.A c.kids.length c.cap] (by kernel_rfl) (by kernel_rfl) ?_
  intro b1 w2 hb3 hx4 hg5
  have z2 := hx4.size
  have l3 := hb3.lt
  refine xo.done 1 [(1, Pt b1 0)] (by kernel_rfl) rfl (by kernel_rfl) ?_
  refine .seq ?_
  refine .region ?_
  refine xo.val 1 (by kernel_rfl) (ldB (t := 3) (o := 0) (by kernel_rfl) hb3 rfl) ?_
  refine xo.val 1 (by kernel_rfl) (ldB (t := 3) (o := 1) (by kernel_rfl) hb3 rfl) ?_
  refine xo.done 3 [(2, B ((IntKind.i64.wrap (c.named + c.held)) == 0))] (by kernel_rfl) rfl (by kernel_rfl) ?_
  refine .ret ?_
  refine ⟨[B ((IntKind.i64.wrap (c.named + c.held)) == 0)], by kernel_rfl, _, rfl, ?_⟩
  exact ⟨rfl, hx4⟩

theorem st_gone (m : Nat) : ∀ (w : World) (a : SAd) (σ : St) (hS : StAt w a σ) (id : Int) (hG : Good σ.cells) (hm : highC σ.cells id < m),
    Ret Tryz.prog 62 [Pt a.s 0, I id] w fun v w' => StAt w' a { σ with cells := goneC m σ.cells id } ∧ Ext (fun b => b = a.mc) w w' := by
  induction m with
  | zero =>
    intro w a σ hS id hG hm
    have := hG.low.nn id
    exact absurd hm (by omega)
  | succ m ih =>
    intro w a σ hS id hG hm
    have lS := hS.bs.lt
    have lMc := hS.mc.lt
    have lMk := hS.mkt.lt
    have hhi := hS.hi
    have nSC : a.s ≠ a.mc := fun e => MapAt.ne hS.mc hS.bs e.symm
    have nKC : a.mkk ≠ a.mc := fun e => hS.cmk e.symm
    refine calls_of_XC Tryz.func62 rfl rfl ?_
    refine .seq ?_
    refine .region ?_
    refine xo.val 3 (by kernel_rfl) (ldB (t := 96) (o := 4) (by kernel_rfl) hS.bs rfl) ?_
    rcases hq1 : mfind σ.cells id with _ | x2
    · refine xo.val 1 (by kernel_rfl) (lk_none (t := 96) (z := .agg #[I 0, I 0, I 0, .slice none 0 0]) (by kernel_rfl) hS.mc hq1 true) ?_
      refine xo.alloc 3 92 [I 0, I 0, I 0, .slice none 0 0] (by kernel_rfl) (by kernel_rfl) ?_
      intro b3 w4 hb5 hx6 hg7
      have z4 := hx6.size
      have l5 := hb5.lt
      refine xo.store 0 92 (o := 0) (.agg #[I 0, I 0, I 0, .slice none 0 0]) [I 0, I 0, I 0, .slice none 0 0] (by kernel_rfl) hb5 (by kernel_rfl) (by kernel_rfl) (by kernel_rfl) (by kernel_rfl) ?_
      intro w8 hb9 hx10
      have z8 := hx10.size
      refine xo.done 1 [(0, Pt a.s 0), (1, I id), (4, Pt b3 0), (5, B false)] (by kernel_rfl) rfl (by kernel_rfl) ?_
      refine .seq ?_
      refine .seq ?_
      refine .region ?_
      refine xo.done 7 [(0, Pt a.s 0), (1, I id), (4, Pt b3 0), (23, B true)] (by kernel_rfl) rfl (by kernel_rfl) ?_
      refine .condT rfl rfl ?_
      refine .ret ?_
      refine ⟨[], by kernel_rfl, _, rfl, ?_⟩
      have hf11 := ((hS.no hx6).ext hx10 (fun b h1 h2 (e : b = b3) => by omega) (MapAt.ne (hS.no hx6).mkt hb5) (fun b cs hb (e : b = b3) => Blk.ne hb hb5 rfl e))
      have hg : goneC (m + 1) σ.cells id = σ.cells := by simp only [goneC, hq1]
      rw [hg]
      exact ⟨hf11, ((hx6.weak fun b hb h => h.elim).trans' hx10 (fun _ _ h => h) (fun b hb (q : b = b3) => absurd hb (by omega)))⟩
    · refine xo.val 1 (by kernel_rfl) (lk_some (t := 96) (z := .agg #[I 0, I 0, I 0, .slice none 0 0]) (by kernel_rfl) hS.mc hq1 true) ?_
      refine xo.alloc 3 92 [I 0, I 0, I 0, .slice none 0 0] (by kernel_rfl) (by kernel_rfl) ?_
      intro b12 w13 hb14 hx15 hg16
      have z13 := hx15.size
      have l14 := hb14.lt
      refine xo.store 0 92 (o := 0) (.agg #[I x2.named, I x2.held, I x2.high, .slice x2.A x2.kids.length x2.cap]) [I x2.named, I x2.held, I x2.high, .slice x2.A x2.kids.length x2.cap] (by kernel_rfl) hb14 (by kernel_rfl) (by kernel_rfl) (by kernel_rfl) (by kernel_rfl) ?_
      intro w17 hb18 hx19
      have z17 := hx19.size
      refine xo.done 1 [(0, Pt a.s 0), (1, I id), (4, Pt b12 0), (5, B true)] (by kernel_rfl) rfl (by kernel_rfl) ?_
      refine .seq ?_
      refine .seq ?_
      refine .region ?_
      refine xo.val 3 (by kernel_rfl) (ldBA (t := 92) (o := 0) (vs := [I x2.named, I x2.held, I x2.high, .slice x2.A x2.kids.length x2.cap]) (by kernel_rfl) hb18 rfl) ?_
      rcases hl20 : x2.loose with _ | _
      · refine xo.ret 0 (by kernel_rfl) (cf85 _ _) ((st_loose _ x2).mono (Q' := fun v w' => v = B false ∧ Ext No _ w') fun v w' q => ⟨by rw [q.1, hl20], q.2⟩) ?_
        rintro _ w23 ⟨rfl, hx24⟩
        have z23 := hx24.size
        refine xo.done 2 [(0, Pt a.s 0), (1, I id), (4, Pt b12 0), (23, B true)] (by kernel_rfl) rfl (by kernel_rfl) ?_
        refine .condT rfl rfl ?_
        refine .ret ?_
        refine ⟨[], by kernel_rfl, _, rfl, ?_⟩
        have hf25 := (((hS.no hx15).ext hx19 (fun b h1 h2 (e : b = b12) => by omega) (MapAt.ne (hS.no hx15).mkt hb14) (fun b cs hb (e : b = b12) => Blk.ne hb hb14 rfl e)).no hx24)
        have hg : goneC (m + 1) σ.cells id = σ.cells := by simp [goneC, hq1, hl20]
        rw [hg]
        exact ⟨hf25, (((hx15.weak fun b hb h => h.elim).trans' hx19 (fun _ _ h => h) (fun b hb (q : b = b12) => absurd hb (by omega))).trans' hx24 (fun _ _ h => h) (fun b hb h => h.elim))⟩
      · refine xo.ret 0 (by kernel_rfl) (cf85 _ _) ((st_loose _ x2).mono (Q' := fun v w' => v = B true ∧ Ext No _ w') fun v w' q => ⟨by rw [q.1, hl20], q.2⟩) ?_
        rintro _ w26 ⟨rfl, hx27⟩
        have z26 := hx27.size
        refine xo.done 2 [(0, Pt a.s 0), (1, I id), (4, Pt b12 0), (23, B false)] (by kernel_rfl) rfl (by kernel_rfl) ?_
        refine .condF rfl rfl ?_
        refine .skip ?_
        refine .seq ?_
        refine .region ?_
        have hb28 := (((hS.bs.ext hx15 (fun h => h)).ext hx19 (show a.s ≠ b12 by omega)).ext hx27 (fun h => h))
        refine xo.val 3 (by kernel_rfl) (ldB (t := 96) (o := 4) (by kernel_rfl) hb28 rfl) ?_
        have hf29 := (((hS.no hx15).ext hx19 (fun b h1 h2 (e : b = b12) => by omega) (MapAt.ne (hS.no hx15).mkt hb14) (fun b cs hb (e : b = b12) => Blk.ne hb hb14 rfl e)).no hx27)
        have hm30 := (((hS.mc.ext hx15 (fun h => h)).ext hx19 (show a.mc ≠ b12 by omega)).ext hx27 (fun h => h))
        refine xo.mapDel 1 (ty := 0) (z := .agg #[I 0, I 0, I 0, .slice none 0 0]) (t := 96) (kt := 3) (k := id) (by kernel_rfl) hm30 (by kernel_rfl) ?_
        intro w31 hm32 hx33
        have z31 := hx33.size
        refine xo.done 0 [(0, Pt a.s 0), (4, Pt b12 0)] (by kernel_rfl) rfl (by kernel_rfl) ?_
        refine .seq ?_
        refine .region ?_
        have hS9 := hf29.turn hm32 hx33 (nodup_del hG.nod _) (fun j c hj => by
          rw [mfind_del hG.nod] at hj
          split at hj
          · cases hj
          · exact hf29.kids' hx33 j c hj)
        have hx_ : highC σ.cells id = x2.high := highC_of hq1
        have h16 : x2.kids.length ≤ 16 := (hS.kids id x2 hq1).1
        have hlow := (hG.low id x2 hq1).2
        have hb34 := ((hb18.ext hx27 (fun h => h)).ext hx33 (show b12 ≠ a.mc by omega))
        refine xo.val 1 (by kernel_rfl) (ldB (t := 90) (o := 3) (by kernel_rfl) hb34 rfl) ?_
        refine xo.done 2 [(0, Pt a.s 0), (30, .slice x2.A x2.kids.length x2.cap), (31, I (x2.kids.length : Int)), (32, I 0)] (by kernel_rfl) rfl (by kernel_rfl) ?_
        refine .block ?_
        refine XC.loop (ι := Nat) (fun i => [(0, Pt a.s 0), (30, .slice x2.A x2.kids.length x2.cap), (31, I (x2.kids.length : Int)), (32, I (i : Int))]) (fun i u => i ≤ x2.kids.length ∧ StAt u a { σ with cells := goneF m (mdel σ.cells id) (x2.kids.take i) } ∧ Ext (fun b => b = a.mc) w u) (fun i => x2.kids.length - i) 0 (cov_of (by kernel_rfl)) ⟨by omega, hS9, ((((hx15.weak fun b hb h => h.elim).trans' hx19 (fun _ _ h => h) (fun b hb (q : b = b12) => absurd hb (by omega))).trans' hx27 (fun _ _ h => h) (fun b hb h => h.elim)).trans' hx33 (fun _ _ h => h) (fun b hb (q : b = a.mc) => q))⟩ ?_
        rintro i w35 ⟨hi, hSu, hE⟩
        have z35 := hE.size
        have hsh : Shr σ.cells (goneF m (mdel σ.cells id) (x2.kids.take i)) := (shr_del hG id).trans (shr_goneF _ _ (shr_del hG id).good)
        refine .seq ?_
        refine .region ?_
        by_cases hc36 : ((i : Int) : Int) < (x2.kids.length : Int)
        · refine xo.val 0 (by kernel_rfl) (c_lss_t hc36) ?_
          refine xo.done 0 [(0, Pt a.s 0), (30, .slice x2.A x2.kids.length x2.cap), (31, I (x2.kids.length : Int)), (32, I (i : Int)), (33, B true)] (by kernel_rfl) rfl (by kernel_rfl) ?_
          refine .seq ?_
          refine .condT rfl rfl ?_
          refine .skip ?_
          refine .seq ?_
          refine .block ?_
          refine .seq ?_
          refine .region ?_
          have hs37 := ((hS.kids id x2 hq1).extm hE hS.mapc)
          obtain ⟨b38, o39, x40, hi41, hA42, hl43, hh44, hr45⟩ := hs37.rd.at_ i (by omega)
          refine xo.val 0 (by kernel_rfl) (idxN (kk := .i64) (t := 90) (n := x2.kids.length) (cap := x2.cap) (sz := 1) (i := i) (by kernel_rfl) hA42 (by omega)) ?_
          refine xo.val 0 (by kernel_rfl) (ld (t := 3) (by kernel_rfl) (hr45 0 _ rfl)) ?_
          refine xo.done 1 [(0, Pt a.s 0), (7, I x40), (30, .slice x2.A x2.kids.length x2.cap), (31, I (x2.kids.length : Int)), (32, I (i : Int))] (by kernel_rfl) rfl (by kernel_rfl) ?_
          refine .seq ?_
          refine .region ?_
          refine xo.ret 2 (by kernel_rfl) (cf86 _ _) (st_name _ a ({ σ with cells := goneF m (mdel σ.cells id) (x2.kids.take i) }) hSu x40 (-1)) ?_
          rintro _ w47 ⟨hS46, hx48⟩
          have z47 := hx48.size
          refine xo.done 0 [(0, Pt a.s 0), (7, I x40), (30, .slice x2.A x2.kids.length x2.cap), (31, I (x2.kids.length : Int)), (32, I (i : Int))] (by kernel_rfl) rfl (by kernel_rfl) ?_
          refine .region ?_
          have hkm : x40 ∈ x2.kids := List.mem_of_getElem? hi41
          have hsn := hsh.trans (shr_name hsh.good x40 (-1))
          have hhk := hsn.le x40
          have hhl := hlow x40 hkm
          refine xo.ret 2 (by kernel_rfl) (cf62 _ _) (ih _ a _ hS46 x40 hsn.good (Int.lt_of_le_of_lt hhk (by omega))) ?_
          rintro _ w50 ⟨hS49, hx51⟩
          have z50 := hx51.size
          refine xo.done 0 [(0, Pt a.s 0), (30, .slice x2.A x2.kids.length x2.cap), (31, I (x2.kids.length : Int)), (32, I (i : Int))] (by kernel_rfl) rfl (by kernel_rfl) ?_
          refine .region ?_
          refine xo.val 0 (by kernel_rfl) (a_add (a := (i : Int)) (b := 1) (by omega) (by omega)) ?_
          refine xo.fin 1 (by kernel_rfl) rfl ?_
          refine ⟨i + 1, cov_of (by kernel_rfl), ⟨by omega, ?_, (((hE.weak fun b hb q => q).trans' hx48 (fun _ _ h => h) (fun b hb q => q)).trans' hx51 (fun _ _ h => h) (fun b hb q => q))⟩, by show x2.kids.length - (i + 1) < x2.kids.length - i; omega⟩
          rw [goneF_snoc m _ _ i x40 hi41]
          exact hS49
        · refine xo.val 0 (by kernel_rfl) (c_lss_f hc36) ?_
          refine xo.done 0 [(0, Pt a.s 0), (30, .slice x2.A x2.kids.length x2.cap), (31, I (x2.kids.length : Int)), (32, I (i : Int)), (33, B false)] (by kernel_rfl) rfl (by kernel_rfl) ?_
          refine .seq ?_
          refine .condF rfl rfl ?_
          refine .exit ?_
          refine xsetTo ?_
          refine ⟨[], by kernel_rfl, _, rfl, ?_⟩
          have hi2 : i = x2.kids.length := by omega
          have hg : goneC (m + 1) σ.cells id = goneF m (mdel σ.cells id) x2.kids := by simp only [goneC, hq1, hl20, if_true, goneF]
          rw [hg]
          rw [hi2, List.take_length] at hSu
          exact ⟨hSu, hE⟩

end Go.Proofs.YtbajgpadmlnffaaGreat
/- A store: blocks as bytes, the least free one. -/
namespace Go.Proofs.YtbajgpadmlnffaaGreat
open Go.V
set_option maxRecDepth 100000
set_option linter.unusedVariables false
set_option linter.unusedSimpArgs false

/-- A block as bytes. -/
def kidB (ks : List Int) : List UInt8 := ks.flatMap fun k => be 4 k
def putB (ks : List Int) (data : ByteArray) : List UInt8 := (be 1 (ks.length : Int) ++ kidB ks) ++ txt data
theorem kidB_length (ks : List Int) : (kidB ks).length = 4 * ks.length := by
  induction ks with
  | nil => rfl
  | cons k r ih => simp only [kidB, List.flatMap_cons, List.length_append, be_length, List.length_cons] at *; omega
theorem kidB_snoc (ks : List Int) (i : Nat) (k : Int) (h : ks[i]? = some k) : kidB (ks.take (i + 1)) = kidB (ks.take i) ++ be 4 k := by
  obtain ⟨hi, h2⟩ := List.getElem?_eq_some_iff.1 h
  unfold kidB
  rw [List.take_succ_eq_append_getElem hi, List.flatMap_append, h2]
  simp
theorem putB_length (ks : List Int) (data : ByteArray) : (putB ks data).length = 1 + 4 * ks.length + (data.size + 2) := by
  unfold putB; rw [List.length_append, List.length_append, be_length, kidB_length, txt_length]

theorem st_bytes (w : World) (lo hi : Nat) (A : Option Addr) (cap : Nat) (ks : List Int) (hK : Rd kInt w lo hi A ks) (hhi_ : hi ≤ w.heap.size) (h16 : ks.length ≤ 16) (data : ByteArray) (hd : data.size ≤ 3900) :
    Ret Tryz.prog 115 [.slice A ks.length cap, S data] w fun v w' => v = S (seal_ (bs (putB ks data))) ∧ Ext No w w' := by
  refine calls_of_XC Tryz.func115 rfl rfl ?_
  refine .seq ?_
  refine .region ?_
  refine xo.done 1 [(0, .slice A ks.length cap), (1, S data)] (by kernel_rfl) rfl (by kernel_rfl) ?_
  refine .seq ?_
  refine .region ?_
  refine xo.ret 2 (by kernel_rfl) (cf50 _ _) (oct_put _ 0 0 none 0 ([]) (Rd.nil (k := _)) (by omega) (by first | omega | (simp only [List.length_append, be_length, List.length_nil, List.length_cons, bs_size, Array.length_toList] at *; omega)) (ks.length : Int) 1 (by omega) (by omega)) ?_
  rintro _ w4 ⟨A1, c2, rfl, ho3, hx5⟩
  have z4 := hx5.size
  refine xo.done 1 [(0, .slice A ks.length cap), (1, S data), (5, .slice A1 ((([]) ++ be 1 (ks.length : Int)).length) c2)] (by kernel_rfl) rfl (by kernel_rfl) ?_
  refine .seq ?_
  refine .seq ?_
  refine .region ?_
  refine xo.done 3 [(1, S data), (5, .slice A1 ((([]) ++ be 1 (ks.length : Int)).length) c2), (11, .slice A ks.length cap), (12, I (ks.length : Int)), (13, I 0)] (by kernel_rfl) rfl (by kernel_rfl) ?_
  refine .block ?_
  refine XC.loop (ι := Option Addr × Nat × Nat × List UInt8) (fun ⟨B_, cp, i, xs⟩ => [(1, S data), (5, .slice B_ xs.length cp), (11, .slice A ks.length cap), (12, I (ks.length : Int)), (13, I (i : Int))]) (fun ⟨B_, cp, i, xs⟩ u => Own (kU8 5) u w.heap.size B_ cp xs ∧ Ext No w u ∧ i ≤ ks.length ∧ xs = be 1 (ks.length : Int) ++ kidB (ks.take i)) (fun ⟨B_, cp, i, xs⟩ => ks.length - i) (A1, c2, 0, be 1 (ks.length : Int)) (cov_of (by kernel_rfl)) ⟨by simpa using ho3.base_le (by omega), hx5, by omega, by simp [kidB]⟩ ?_
  rintro ⟨B_, cp, i, xs⟩ w6 ⟨hown, hE, hi, hxs⟩
  have z6 := hE.size
  have hlen : xs.length = 1 + 4 * i := by rw [hxs, List.length_append, be_length, kidB_length, List.length_take]; omega
  refine .seq ?_
  refine .region ?_
  by_cases hc7 : ((i : Int) : Int) < (ks.length : Int)
  · refine xo.val 0 (by kernel_rfl) (c_lss_t hc7) ?_
    refine xo.done 0 [(1, S data), (5, .slice B_ xs.length cp), (11, .slice A ks.length cap), (12, I (ks.length : Int)), (13, I (i : Int)), (14, B true)] (by kernel_rfl) rfl (by kernel_rfl) ?_
    refine .seq ?_
    refine .condT rfl rfl ?_
    refine .skip ?_
    refine .seq ?_
    refine .block ?_
    refine .seq ?_
    refine .region ?_
    have hs8 := (hK.ext hE (fun _ _ _ h => h))
    obtain ⟨b9, o10, x11, hi12, hA13, hl14, hh15, hr16⟩ := hs8.at_ i (by omega)
    refine xo.val 0 (by kernel_rfl) (idxN (kk := .i64) (t := 90) (n := ks.length) (cap := cap) (sz := 1) (i := i) (by kernel_rfl) hA13 (by omega)) ?_
    refine xo.val 0 (by kernel_rfl) (ld (t := 3) (by kernel_rfl) (hr16 0 _ rfl)) ?_
    refine xo.done 1 [(1, S data), (5, .slice B_ xs.length cp), (7, I x11), (11, .slice A ks.length cap), (12, I (ks.length : Int)), (13, I (i : Int))] (by kernel_rfl) rfl (by kernel_rfl) ?_
    refine .region ?_
    refine xo.ret 2 (by kernel_rfl) (cf50 _ _) (oct_put _ w.heap.size w6.heap.size B_ cp xs hown.rd (by omega) (by first | omega | (simp only [List.length_append, be_length, List.length_nil, List.length_cons, bs_size, Array.length_toList] at *; omega)) x11 4 (by omega) (by omega)) ?_
    rintro _ w20 ⟨A17, c18, rfl, ho19, hx21⟩
    have z20 := hx21.size
    refine xo.done 1 [(1, S data), (5, .slice A17 ((xs ++ be 4 x11).length) c18), (11, .slice A ks.length cap), (12, I (ks.length : Int)), (13, I (i : Int))] (by kernel_rfl) rfl (by kernel_rfl) ?_
    refine .region ?_
    refine xo.val 0 (by kernel_rfl) (a_add (a := (i : Int)) (b := 1) (by omega) (by omega)) ?_
    refine xo.fin 1 (by kernel_rfl) rfl ?_
    refine ⟨(A17, c18, i + 1, xs ++ be 4 x11), cov_of (by kernel_rfl), ⟨ho19.base_le (by omega), (hE.trans' hx21 (fun _ _ h => h) (fun b hb h => h)), by omega, ?_⟩, by show ks.length - (i + 1) < ks.length - i; omega⟩
    rw [kidB_snoc _ _ _ hi12, ← List.append_assoc, hxs]
  · refine xo.val 0 (by kernel_rfl) (c_lss_f hc7) ?_
    refine xo.done 0 [(1, S data), (5, .slice B_ xs.length cp), (11, .slice A ks.length cap), (12, I (ks.length : Int)), (13, I (i : Int)), (14, B false)] (by kernel_rfl) rfl (by kernel_rfl) ?_
    refine .seq ?_
    refine .condF rfl rfl ?_
    refine .exit ?_
    refine xsetTo ?_
    refine .seq ?_
    refine .region ?_
    have hi2 : i = ks.length := by omega
    rw [hi2, List.take_length] at hxs
    have htl := txt_length data
    have hsz9 : (⟨(xs ++ txt data).toArray⟩ : ByteArray).size = xs.length + (txt data).length := by show (xs ++ txt data).toArray.size = _; simp
    refine xo.ret 2 (by kernel_rfl) (cf51 _ _) (oct_puttext _ w.heap.size w6.heap.size B_ cp xs hown.rd (by omega) (by first | omega | (simp only [List.length_append, be_length, List.length_nil, List.length_cons, bs_size, Array.length_toList] at *; omega)) data (by first | omega | (simp only [List.length_append, be_length, List.length_nil, List.length_cons, bs_size, Array.length_toList] at *; omega))) ?_
    rintro _ w25 ⟨A22, c23, rfl, ho24, hx26⟩
    have z25 := hx26.size
    refine xo.val 0 (by kernel_rfl) (conv_bs (cap := c23) (src := 76) (dst := 9) (by kernel_rfl) (by kernel_rfl) ho24.rd) ?_
    refine xo.ret 0 (by kernel_rfl) (cf90 _ _) (crc_seal _ (⟨(xs ++ txt data).toArray⟩) (by first | omega | (simp only [ba_lit_size, List.length_append, be_length, txt_length, List.length_cons, List.length_nil]; omega))) ?_
    rintro _ w27 ⟨rfl, hx28⟩
    have z27 := hx28.size
    refine xo.done 1 [(4, S (seal_ (⟨(xs ++ txt data).toArray⟩)))] (by kernel_rfl) rfl (by kernel_rfl) ?_
    refine .ret ?_
    refine ⟨[S (seal_ (⟨(xs ++ txt data).toArray⟩))], by kernel_rfl, _, rfl, ?_⟩
    refine ⟨?_, ((hE.trans' hx26 (fun _ _ h => h) (fun b hb h => h)).trans' hx28 (fun _ _ h => h) (fun b hb h => h))⟩
    subst hxs
    rfl

/-- The least block that is free. -/
def isFree (σ : St) (i : Int) : Bool := (mfind σ.cells i).isNone && !((mfind σ.kept i).getD false)
def FreeAt (σ : St) (v : Int) : Prop := (v = 0 ∧ ∀ i, 2 ≤ i → i < σ.dev.n → isFree σ i = false) ∨ (2 ≤ v ∧ v < σ.dev.n ∧ isFree σ v = true ∧ ∀ i, 2 ≤ i → i < v → isFree σ i = false)

theorem st_free (w : World) (a : SAd) (σ : St) (hS : StAt w a σ) (hn1 : 8 ≤ σ.dev.n) (hn2 : σ.dev.n ≤ 4096) :
    Ret Tryz.prog 114 [Pt a.s 0] w fun v w' => ∃ i, v = I i ∧ FreeAt σ i ∧ StAt w' a σ ∧ Ext No w w' := by
  have lS := hS.bs.lt
  have lMc := hS.mc.lt
  have lMk := hS.mkt.lt
  have hhi := hS.hi
  have nSC : a.s ≠ a.mc := fun e => MapAt.ne hS.mc hS.bs e.symm
  have nKC : a.mkk ≠ a.mc := fun e => hS.cmk e.symm
  refine calls_of_XC Tryz.func114 rfl rfl ?_
  refine .seq ?_
  refine .region ?_
  refine xo.done 1 [(0, Pt a.s 0)] (by kernel_rfl) rfl (by kernel_rfl) ?_
  refine .seq ?_
  refine .seq ?_
  refine .region ?_
  refine xo.done 1 [(0, Pt a.s 0), (3, I 2)] (by kernel_rfl) rfl (by kernel_rfl) ?_
  refine .block ?_
  refine XC.loop (ι := Int) (fun i => [(0, Pt a.s 0), (3, I i)]) (fun i u => 2 ≤ i ∧ i ≤ σ.dev.n ∧ StAt u a σ ∧ Ext No w u ∧ ∀ j, 2 ≤ j → j < i → isFree σ j = false) (fun i => (σ.dev.n - i).toNat) 2 (cov_of (by kernel_rfl)) ⟨by omega, by omega, hS, .refl _ _, fun j h1 h2 => by omega⟩ ?_
  rintro i w1 ⟨h2, hin, hSu, hE, hno⟩
  have z1 := hE.size
  refine .seq ?_
  refine .seq ?_
  refine .region ?_
  refine xo.val 4 (by kernel_rfl) (ldB (t := 53) (o := 3) (by kernel_rfl) hSu.bs rfl) ?_
  refine xo.ret 0 (by kernel_rfl) (cf58 _ _) (dev_size _ a.d σ.dev hSu.dv) ?_
  rintro _ _ ⟨rfl, rfl⟩
  by_cases hc2 : (i : Int) < σ.dev.n
  · refine xo.val 0 (by kernel_rfl) (c_lss_t hc2) ?_
    refine xo.done 0 [(0, Pt a.s 0), (3, I i), (10, B true)] (by kernel_rfl) rfl (by kernel_rfl) ?_
    refine .condT rfl rfl ?_
    refine .skip ?_
    refine .seq ?_
    refine .block ?_
    refine .seq ?_
    refine .region ?_
    rcases hq3 : mfind σ.cells i with _ | x4
    · refine xo.ret 2 (by kernel_rfl) (cf59 _ _) (st_has_none _ a σ hSu i hq3) ?_
      rintro _ w5 ⟨rfl, hx6⟩
      have z5 := hx6.size
      have hb7 := (hSu.bs.ext hx6 (fun h => h))
      refine xo.val 5 (by kernel_rfl) (ldB (t := 97) (o := 5) (by kernel_rfl) hb7 rfl) ?_
      have hm8 := (hSu.mkt.ext hx6 (fun h => h))
      rcases hq9 : mfind σ.kept i with _ | x10
      · refine xo.val 1 (by kernel_rfl) (lk_none (t := 97) (z := B false) (by kernel_rfl) hm8 hq9 false) ?_
        refine xo.done 2 [(0, Pt a.s 0), (3, I i), (25, B true)] (by kernel_rfl) rfl (by kernel_rfl) ?_
        refine .condT rfl rfl ?_
        refine .seq ?_
        refine .region ?_
        refine xo.done 2 [(2, I i)] (by kernel_rfl) rfl (by kernel_rfl) ?_
        refine .ret ?_
        refine ⟨[I i], by kernel_rfl, _, rfl, ?_⟩
        have hf11 := (hSu.no hx6)
        exact ⟨_, rfl, .inr ⟨h2, by omega, by simp [isFree, *], hno⟩, hf11, (hE.trans' hx6 (fun _ _ h => h) (fun b hb h => h))⟩
      · refine xo.val 1 (by kernel_rfl) (lk_some (t := 97) (z := B false) (by kernel_rfl) hm8 hq9 false) ?_
        refine xo.done 2 [(0, Pt a.s 0), (3, I i), (25, B (!x10))] (by kernel_rfl) rfl (by kernel_rfl) ?_
        refine .condB (!x10) rfl rfl (fun hc12 => ?_) (fun hc12 => ?_)
        · refine .seq ?_
          refine .region ?_
          refine xo.done 2 [(2, I i)] (by kernel_rfl) rfl (by kernel_rfl) ?_
          refine .ret ?_
          refine ⟨[I i], by kernel_rfl, _, rfl, ?_⟩
          have hf13 := (hSu.no hx6)
          exact ⟨_, rfl, .inr ⟨h2, by omega, by simp [isFree, *], hno⟩, hf13, (hE.trans' hx6 (fun _ _ h => h) (fun b hb h => h))⟩
        · refine .skip ?_
          refine .region ?_
          refine xo.val 1 (by kernel_rfl) (a_add (a := i) (b := 1) (by omega) (by omega)) ?_
          refine xo.fin 1 (by kernel_rfl) rfl ?_
          have hf14 := (hSu.no hx6)
          refine ⟨i + 1, cov_of (by kernel_rfl), ⟨by omega, by omega, hf14, (hE.trans' hx6 (fun _ _ h => h) (fun b hb h => h)), fun j h1 h2 => ?_⟩, by show (σ.dev.n - (i + 1)).toNat < (σ.dev.n - i).toNat; omega⟩
          by_cases hji : j = i
          · subst hji
            simp [isFree, *]
          · exact hno j h1 (by omega)
    · refine xo.ret 2 (by kernel_rfl) (cf59 _ _) (st_has_some _ a σ hSu i x4 hq3) ?_
      rintro _ w15 ⟨rfl, hx16⟩
      have z15 := hx16.size
      refine xo.done 10 [(0, Pt a.s 0), (3, I i), (25, B false)] (by kernel_rfl) rfl (by kernel_rfl) ?_
      refine .condF rfl rfl ?_
      refine .skip ?_
      refine .region ?_
      refine xo.val 1 (by kernel_rfl) (a_add (a := i) (b := 1) (by omega) (by omega)) ?_
      refine xo.fin 1 (by kernel_rfl) rfl ?_
      have hf17 := (hSu.no hx16)
      refine ⟨i + 1, cov_of (by kernel_rfl), ⟨by omega, by omega, hf17, (hE.trans' hx16 (fun _ _ h => h) (fun b hb h => h)), fun j h1 h2 => ?_⟩, by show (σ.dev.n - (i + 1)).toNat < (σ.dev.n - i).toNat; omega⟩
      by_cases hji : j = i
      · subst hji
        simp [isFree, *]
      · exact hno j h1 (by omega)
  · refine xo.val 0 (by kernel_rfl) (c_lss_f hc2) ?_
    refine xo.done 0 [(0, Pt a.s 0), (3, I i), (10, B false)] (by kernel_rfl) rfl (by kernel_rfl) ?_
    refine .condF rfl rfl ?_
    refine .exit ?_
    refine xsetTo ?_
    refine .seq ?_
    refine .region ?_
    refine xo.done 1 [(2, I 0)] (by kernel_rfl) rfl (by kernel_rfl) ?_
    refine .ret ?_
    refine ⟨[I 0], by kernel_rfl, _, rfl, ?_⟩
    exact ⟨_, rfl, .inl ⟨rfl, fun j h1 h2 => hno j h1 (by omega)⟩, hSu, hE⟩

end Go.Proofs.YtbajgpadmlnffaaGreat
/- Searching slices by closures. -/
namespace Go.Proofs.YtbajgpadmlnffaaGreat
open Go.V
set_option maxRecDepth 100000
set_option linter.unusedVariables false
set_option linter.unusedSimpArgs false

theorem index_int (w : World) (lo hi : Nat) (A : Option Addr) (cap : Nat) (xs : List Int) (h : Rd kInt w lo hi A xs) (hl : xs.length ≤ 1099511627776) (fid : FuncId) (caps : List Value) (p : Int → Bool) (J : World → Prop)
    (hcf : ∀ (args : Array Value) (w : World), (callFunc fid args).run Tryz.prog w = .ok (.enter fid args) w) (hJ : J w)
    (hp : ∀ x u, x ∈ xs → J u → Ret Tryz.prog fid ((I x) :: caps) u fun v w' => v = B (p x) ∧ J w' ∧ Ext No u w') :
    Ret Tryz.prog 125 [.slice A xs.length cap, .func (.func fid) #[] caps.toArray] w fun v w' => ∃ i : Int, v = I i ∧ J w' ∧ Ext No w w' ∧ ((i = -1 ∧ ∀ x ∈ xs, p x = false) ∨ ∃ (j : Nat) (x : Int), i = j ∧ xs[j]? = some x ∧ p x = true) := by
  refine calls_of_XC Tryz.func125 rfl rfl ?_
  refine .seq ?_
  refine .region ?_
  refine xo.done 1 [(0, .slice A xs.length cap), (1, .func (.func fid) #[] caps.toArray)] (by kernel_rfl) rfl (by kernel_rfl) ?_
  refine .seq ?_
  refine .seq ?_
  refine .region ?_
  refine xo.done 3 [(0, .slice A xs.length cap), (1, .func (.func fid) #[] caps.toArray), (7, I (xs.length : Int)), (8, I 0)] (by kernel_rfl) rfl (by kernel_rfl) ?_
  refine .block ?_
  refine XC.loop (ι := Nat) (fun i => [(0, .slice A xs.length cap), (1, .func (.func fid) #[] caps.toArray), (7, I (xs.length : Int)), (8, I (i : Int))]) (fun i u => i ≤ xs.length ∧ J u ∧ Ext No w u ∧ ∀ y ∈ xs.take i, p y = false) (fun i => xs.length - i) 0 (cov_of (by kernel_rfl)) ⟨by omega, hJ, .refl _ _, by simp⟩ ?_
  rintro i w1 ⟨hi_, hJu, hE, hno⟩
  have z1 := hE.size
  refine .seq ?_
  refine .region ?_
  by_cases hc2 : ((i : Int) : Int) < (xs.length : Int)
  · refine xo.val 0 (by kernel_rfl) (c_lss_t hc2) ?_
    refine xo.done 0 [(0, .slice A xs.length cap), (1, .func (.func fid) #[] caps.toArray), (7, I (xs.length : Int)), (8, I (i : Int)), (9, B true)] (by kernel_rfl) rfl (by kernel_rfl) ?_
    refine .seq ?_
    refine .condT rfl rfl ?_
    refine .skip ?_
    refine .seq ?_
    refine .block ?_
    refine .seq ?_
    refine .region ?_
    refine xo.done 2 [(0, .slice A xs.length cap), (1, .func (.func fid) #[] caps.toArray), (5, I (i : Int)), (7, I (xs.length : Int)), (8, I (i : Int))] (by kernel_rfl) rfl (by kernel_rfl) ?_
    refine .seq ?_
    refine .region ?_
    have hs3 := (h.ext hE (fun _ _ _ h => h))
    obtain ⟨b4, o5, x6, hi7, hA8, hl9, hh10, hr11⟩ := hs3.at_ i (by omega)
    refine xo.val 3 (by kernel_rfl) (idxN (kk := .i64) (t := 90) (n := xs.length) (cap := cap) (sz := 1) (i := i) (by kernel_rfl) hA8 (by omega)) ?_
    refine xo.val 0 (by kernel_rfl) (ld (t := 3) (by kernel_rfl) (hr11 0 _ rfl)) ?_
    refine xo.ret 0 (S := callFunc fid (#[I x6] ++ caps.toArray)) (args := (I x6) :: caps) (by kernel_rfl) (by rw [show #[I x6] ++ caps.toArray = ((I x6) :: caps).toArray from by simp]; exact hcf _ _) (hp x6 _ (List.mem_of_getElem? hi7) hJu) ?_
    rintro _ w13 ⟨rfl, hJ12, hx14⟩
    have z13 := hx14.size
    refine xo.done 0 [(0, .slice A xs.length cap), (1, .func (.func fid) #[] caps.toArray), (5, I (i : Int)), (7, I (xs.length : Int)), (8, I (i : Int)), (16, B (p x6))] (by kernel_rfl) rfl (by kernel_rfl) ?_
    refine .condB (p x6) rfl rfl (fun hc15 => ?_) (fun hc15 => ?_)
    · refine .seq ?_
      refine .region ?_
      refine xo.done 2 [(4, I (i : Int))] (by kernel_rfl) rfl (by kernel_rfl) ?_
      refine .ret ?_
      refine ⟨[I (i : Int)], by kernel_rfl, _, rfl, ?_⟩
      exact ⟨(i : Int), rfl, hJ12, (hE.trans' hx14 (fun _ _ h => h) (fun b hb h => h)), .inr ⟨i, x6, rfl, hi7, by assumption⟩⟩
    · refine .skip ?_
      refine .region ?_
      refine xo.val 0 (by kernel_rfl) (a_add (a := (i : Int)) (b := 1) (by omega) (by omega)) ?_
      refine xo.fin 1 (by kernel_rfl) rfl ?_
      refine ⟨i + 1, cov_of (by kernel_rfl), ⟨by omega, hJ12, (hE.trans' hx14 (fun _ _ h => h) (fun b hb h => h)), fun y hy => ?_⟩, by show xs.length - (i + 1) < xs.length - i; omega⟩
      obtain ⟨hi5, h5⟩ := List.getElem?_eq_some_iff.1 hi7
      rw [List.take_succ_eq_append_getElem hi5, List.mem_append] at hy
      rcases hy with hy | hy
      · exact hno y hy
      · rw [h5] at hy
        rw [List.mem_singleton.1 hy]
        assumption
  · refine xo.val 0 (by kernel_rfl) (c_lss_f hc2) ?_
    refine xo.done 0 [(0, .slice A xs.length cap), (1, .func (.func fid) #[] caps.toArray), (7, I (xs.length : Int)), (8, I (i : Int)), (9, B false)] (by kernel_rfl) rfl (by kernel_rfl) ?_
    refine .seq ?_
    refine .condF rfl rfl ?_
    refine .exit ?_
    refine xsetTo ?_
    refine .seq ?_
    refine .region ?_
    refine xo.done 1 [(4, I (-1))] (by kernel_rfl) rfl (by kernel_rfl) ?_
    refine .ret ?_
    refine ⟨[I (-1)], by kernel_rfl, _, rfl, ?_⟩
    have hi2 : i = xs.length := by omega
    rw [hi2, List.take_length] at hno
    exact ⟨-1, rfl, hJu, hE, .inl ⟨rfl, hno⟩⟩

theorem contains_int (w : World) (lo hi : Nat) (A : Option Addr) (cap : Nat) (xs : List Int) (h : Rd kInt w lo hi A xs) (hl : xs.length ≤ 1099511627776) (fid : FuncId) (caps : List Value) (p : Int → Bool) (J : World → Prop)
    (hcf : ∀ (args : Array Value) (w : World), (callFunc fid args).run Tryz.prog w = .ok (.enter fid args) w) (hJ : J w)
    (hp : ∀ x u, x ∈ xs → J u → Ret Tryz.prog fid ((I x) :: caps) u fun v w' => v = B (p x) ∧ J w' ∧ Ext No u w') :
    Ret Tryz.prog 112 [.slice A xs.length cap, .func (.func fid) #[] caps.toArray] w fun v w' => v = B (xs.any p) ∧ J w' ∧ Ext No w w' := by
  refine calls_of_XC Tryz.func112 rfl rfl ?_
  refine .seq ?_
  refine .region ?_
  refine xo.done 1 [(0, .slice A xs.length cap), (1, .func (.func fid) #[] caps.toArray)] (by kernel_rfl) rfl (by kernel_rfl) ?_
  refine .seq ?_
  refine .region ?_
  refine xo.ret 2 (by kernel_rfl) (cf125 _ _) (index_int _ lo hi A cap xs h hl fid caps p J hcf hJ hp) ?_
  rintro _ w4 ⟨i1, rfl, hJ2, hx5, hr3⟩
  have z4 := hx5.size
  by_cases hc6 : (i1 : Int) < 0
  · refine xo.val 0 (by kernel_rfl) (c_geq_t hc6) ?_
    refine xo.done 1 [(4, B false)] (by kernel_rfl) rfl (by kernel_rfl) ?_
    refine .ret ?_
    refine ⟨[B false], by kernel_rfl, _, rfl, ?_⟩
    refine ⟨?_, hJ2, hx5⟩
    rcases hr3 with ⟨h1, h2⟩ | ⟨j, x, h1, h2, h3⟩
    · rw [List.any_eq_false.2 (fun x hx => by rw [h2 x hx]; decide)]; rfl
    · omega
  · refine xo.val 0 (by kernel_rfl) (c_geq_f hc6) ?_
    refine xo.done 1 [(4, B true)] (by kernel_rfl) rfl (by kernel_rfl) ?_
    refine .ret ?_
    refine ⟨[B true], by kernel_rfl, _, rfl, ?_⟩
    refine ⟨?_, hJ2, hx5⟩
    rcases hr3 with ⟨h1, _⟩ | ⟨j, x, h1, h2, h3⟩
    · omega
    · rw [List.any_eq_true.2 ⟨x, List.mem_of_getElem? h2, h3⟩]; rfl

theorem index_change (w : World) (lo hi : Nat) (A : Option Addr) (cap : Nat) (xs : List Change) (h : Rd kChange w lo hi A xs) (hl : xs.length ≤ 1099511627776) (fid : FuncId) (caps : List Value) (p : Change → Bool) (J : World → Prop)
    (hcf : ∀ (args : Array Value) (w : World), (callFunc fid args).run Tryz.prog w = .ok (.enter fid args) w) (hJ : J w)
    (hp : ∀ x u, x ∈ xs → J u → Ret Tryz.prog fid ((.agg #[S x.key, S x.val, B x.gone]) :: caps) u fun v w' => v = B (p x) ∧ J w' ∧ Ext No u w') :
    Ret Tryz.prog 60 [.slice A xs.length cap, .func (.func fid) #[] caps.toArray] w fun v w' => ∃ i : Int, v = I i ∧ J w' ∧ Ext No w w' ∧ ((i = -1 ∧ ∀ x ∈ xs, p x = false) ∨ ∃ (j : Nat) (x : Change), i = j ∧ xs[j]? = some x ∧ p x = true) := by
  refine calls_of_XC Tryz.func60 rfl rfl ?_
  refine .seq ?_
  refine .region ?_
  refine xo.done 1 [(0, .slice A xs.length cap), (1, .func (.func fid) #[] caps.toArray)] (by kernel_rfl) rfl (by kernel_rfl) ?_
  refine .seq ?_
  refine .seq ?_
  refine .region ?_
  refine xo.done 3 [(0, .slice A xs.length cap), (1, .func (.func fid) #[] caps.toArray), (7, I (xs.length : Int)), (8, I 0)] (by kernel_rfl) rfl (by kernel_rfl) ?_
  refine .block ?_
  refine XC.loop (ι := Nat) (fun i => [(0, .slice A xs.length cap), (1, .func (.func fid) #[] caps.toArray), (7, I (xs.length : Int)), (8, I (i : Int))]) (fun i u => i ≤ xs.length ∧ J u ∧ Ext No w u ∧ ∀ y ∈ xs.take i, p y = false) (fun i => xs.length - i) 0 (cov_of (by kernel_rfl)) ⟨by omega, hJ, .refl _ _, by simp⟩ ?_
  rintro i w1 ⟨hi_, hJu, hE, hno⟩
  have z1 := hE.size
  refine .seq ?_
  refine .region ?_
  by_cases hc2 : ((i : Int) : Int) < (xs.length : Int)
  · refine xo.val 0 (by kernel_rfl) (c_lss_t hc2) ?_
    refine xo.done 0 [(0, .slice A xs.length cap), (1, .func (.func fid) #[] caps.toArray), (7, I (xs.length : Int)), (8, I (i : Int)), (9, B true)] (by kernel_rfl) rfl (by kernel_rfl) ?_
    refine .seq ?_
    refine .condT rfl rfl ?_
    refine .skip ?_
    refine .seq ?_
    refine .block ?_
    refine .seq ?_
    refine .region ?_
    refine xo.done 2 [(0, .slice A xs.length cap), (1, .func (.func fid) #[] caps.toArray), (5, I (i : Int)), (7, I (xs.length : Int)), (8, I (i : Int))] (by kernel_rfl) rfl (by kernel_rfl) ?_
    refine .seq ?_
    refine .region ?_
    have hs3 := (h.ext hE (fun _ _ _ h => h))
    obtain ⟨b4, o5, x6, hi7, hA8, hl9, hh10, hr11⟩ := hs3.at_ i (by omega)
    refine xo.val 3 (by kernel_rfl) (idxN (kk := .i64) (t := 22) (n := xs.length) (cap := cap) (sz := 3) (i := i) (by kernel_rfl) hA8 (by omega)) ?_
    refine xo.val 0 (by kernel_rfl) (ldA (t := 34) (by kernel_rfl) hr11) ?_
    refine xo.ret 0 (S := callFunc fid (#[.agg #[S x6.key, S x6.val, B x6.gone]] ++ caps.toArray)) (args := (.agg #[S x6.key, S x6.val, B x6.gone]) :: caps) (by kernel_rfl) (by rw [show #[.agg #[S x6.key, S x6.val, B x6.gone]] ++ caps.toArray = ((.agg #[S x6.key, S x6.val, B x6.gone]) :: caps).toArray from by simp]; exact hcf _ _) (hp x6 _ (List.mem_of_getElem? hi7) hJu) ?_
    rintro _ w13 ⟨rfl, hJ12, hx14⟩
    have z13 := hx14.size
    refine xo.done 0 [(0, .slice A xs.length cap), (1, .func (.func fid) #[] caps.toArray), (5, I (i : Int)), (7, I (xs.length : Int)), (8, I (i : Int)), (16, B (p x6))] (by kernel_rfl) rfl (by kernel_rfl) ?_
    refine .condB (p x6) rfl rfl (fun hc15 => ?_) (fun hc15 => ?_)
    · refine .seq ?_
      refine .region ?_
      refine xo.done 2 [(4, I (i : Int))] (by kernel_rfl) rfl (by kernel_rfl) ?_
      refine .ret ?_
      refine ⟨[I (i : Int)], by kernel_rfl, _, rfl, ?_⟩
      exact ⟨(i : Int), rfl, hJ12, (hE.trans' hx14 (fun _ _ h => h) (fun b hb h => h)), .inr ⟨i, x6, rfl, hi7, by assumption⟩⟩
    · refine .skip ?_
      refine .region ?_
      refine xo.val 0 (by kernel_rfl) (a_add (a := (i : Int)) (b := 1) (by omega) (by omega)) ?_
      refine xo.fin 1 (by kernel_rfl) rfl ?_
      refine ⟨i + 1, cov_of (by kernel_rfl), ⟨by omega, hJ12, (hE.trans' hx14 (fun _ _ h => h) (fun b hb h => h)), fun y hy => ?_⟩, by show xs.length - (i + 1) < xs.length - i; omega⟩
      obtain ⟨hi5, h5⟩ := List.getElem?_eq_some_iff.1 hi7
      rw [List.take_succ_eq_append_getElem hi5, List.mem_append] at hy
      rcases hy with hy | hy
      · exact hno y hy
      · rw [h5] at hy
        rw [List.mem_singleton.1 hy]
        assumption
  · refine xo.val 0 (by kernel_rfl) (c_lss_f hc2) ?_
    refine xo.done 0 [(0, .slice A xs.length cap), (1, .func (.func fid) #[] caps.toArray), (7, I (xs.length : Int)), (8, I (i : Int)), (9, B false)] (by kernel_rfl) rfl (by kernel_rfl) ?_
    refine .seq ?_
    refine .condF rfl rfl ?_
    refine .exit ?_
    refine xsetTo ?_
    refine .seq ?_
    refine .region ?_
    refine xo.done 1 [(4, I (-1))] (by kernel_rfl) rfl (by kernel_rfl) ?_
    refine .ret ?_
    refine ⟨[I (-1)], by kernel_rfl, _, rfl, ?_⟩
    have hi2 : i = xs.length := by omega
    rw [hi2, List.take_length] at hno
    exact ⟨-1, rfl, hJu, hE, .inl ⟨rfl, hno⟩⟩

theorem contains_change (w : World) (lo hi : Nat) (A : Option Addr) (cap : Nat) (xs : List Change) (h : Rd kChange w lo hi A xs) (hl : xs.length ≤ 1099511627776) (fid : FuncId) (caps : List Value) (p : Change → Bool) (J : World → Prop)
    (hcf : ∀ (args : Array Value) (w : World), (callFunc fid args).run Tryz.prog w = .ok (.enter fid args) w) (hJ : J w)
    (hp : ∀ x u, x ∈ xs → J u → Ret Tryz.prog fid ((.agg #[S x.key, S x.val, B x.gone]) :: caps) u fun v w' => v = B (p x) ∧ J w' ∧ Ext No u w') :
    Ret Tryz.prog 27 [.slice A xs.length cap, .func (.func fid) #[] caps.toArray] w fun v w' => v = B (xs.any p) ∧ J w' ∧ Ext No w w' := by
  refine calls_of_XC Tryz.func27 rfl rfl ?_
  refine .seq ?_
  refine .region ?_
  refine xo.done 1 [(0, .slice A xs.length cap), (1, .func (.func fid) #[] caps.toArray)] (by kernel_rfl) rfl (by kernel_rfl) ?_
  refine .seq ?_
  refine .region ?_
  refine xo.ret 2 (by kernel_rfl) (cf60 _ _) (index_change _ lo hi A cap xs h hl fid caps p J hcf hJ hp) ?_
  rintro _ w4 ⟨i1, rfl, hJ2, hx5, hr3⟩
  have z4 := hx5.size
  by_cases hc6 : (i1 : Int) < 0
  · refine xo.val 0 (by kernel_rfl) (c_geq_t hc6) ?_
    refine xo.done 1 [(4, B false)] (by kernel_rfl) rfl (by kernel_rfl) ?_
    refine .ret ?_
    refine ⟨[B false], by kernel_rfl, _, rfl, ?_⟩
    refine ⟨?_, hJ2, hx5⟩
    rcases hr3 with ⟨h1, h2⟩ | ⟨j, x, h1, h2, h3⟩
    · rw [List.any_eq_false.2 (fun x hx => by rw [h2 x hx]; decide)]; rfl
    · omega
  · refine xo.val 0 (by kernel_rfl) (c_geq_f hc6) ?_
    refine xo.done 1 [(4, B true)] (by kernel_rfl) rfl (by kernel_rfl) ?_
    refine .ret ?_
    refine ⟨[B true], by kernel_rfl, _, rfl, ?_⟩
    refine ⟨?_, hJ2, hx5⟩
    rcases hr3 with ⟨h1, _⟩ | ⟨j, x, h1, h2, h3⟩
    · omega
    · rw [List.any_eq_true.2 ⟨x, List.mem_of_getElem? h2, h3⟩]; rfl

end Go.Proofs.YtbajgpadmlnffaaGreat
/- A store: the walks of Put and its kin. -/
namespace Go.Proofs.YtbajgpadmlnffaaGreat
open Go.V
set_option maxRecDepth 100000
set_option linter.unusedVariables false
set_option linter.unusedSimpArgs false

def badKid (σ : St) (k : Int) : Bool := (mfind σ.cells k).isNone || decide (64 ≤ highC σ.cells k)
theorem badKid_ok {σ : St} {k : Int} (h : badKid σ k = false) : (mfind σ.cells k).isSome ∧ highC σ.cells k < 64 := by
  unfold badKid at h
  simp only [Bool.or_eq_false_iff, decide_eq_false_iff_not] at h
  exact ⟨by cases hm : mfind σ.cells k <;> simp_all, by omega⟩
def nameF (f : Cells) (ks : List Int) : Cells := ks.foldl (fun f k => nameC f k 1) f
def highs (f : Cells) (ks : List Int) : Int := ks.foldl (fun h k => max h (highC f k)) 0
theorem nameF_snoc (f : Cells) (ks : List Int) (i : Nat) (k : Int) (h : ks[i]? = some k) : nameF f (ks.take (i + 1)) = nameC (nameF f (ks.take i)) k 1 := by
  obtain ⟨hi, h2⟩ := List.getElem?_eq_some_iff.1 h
  unfold nameF
  rw [List.take_succ_eq_append_getElem hi, List.foldl_append, h2]
  rfl
theorem highs_snoc (f : Cells) (ks : List Int) (i : Nat) (k : Int) (h : ks[i]? = some k) : highs f (ks.take (i + 1)) = max (highs f (ks.take i)) (highC f k) := by
  obtain ⟨hi, h2⟩ := List.getElem?_eq_some_iff.1 h
  unfold highs
  rw [List.take_succ_eq_append_getElem hi, List.foldl_append, h2]
  rfl
theorem highC_name (f : Cells) (id b k : Int) : highC (nameC f id b) k = highC f k := by
  unfold highC nameC
  rw [cget_mput]
  split
  · rename_i e; subst e; rfl
  · rfl
theorem highC_nameF (ks : List Int) : ∀ (f : Cells) (k : Int), highC (nameF f ks) k = highC f k := by
  induction ks with
  | nil => intro f k; rfl
  | cons j r ih => intro f k; exact (ih _ k).trans (highC_name f j 1 k)
theorem mfind_name (f : Cells) (k b : Int) : mfind (nameC f k b) k = some { cget f k with named := wr ((cget f k).named + b) } := by unfold nameC; rw [mfind_put, if_pos rfl]
/-- The store behind Put. -/
def putC (σ : St) (id : Int) (ks : List Int) (data : ByteArray) (A : Option Addr) (cap : Nat) : St :=
  { σ with dev := { σ.dev with dirty := upd σ.dev.dirty id (seal_ (bs (putB ks data))) }, cells := mput (nameF σ.cells ks) id ⟨0, 0, highs σ.cells ks + 1, A, cap, ks⟩ }
structure Alive (σ : St) : Prop where
  burns : σ.dev.burns = false
  off : σ.dev.off = false
  n8 : 8 ≤ σ.dev.n
  n4 : σ.dev.n ≤ 4096
theorem seal_size (l : List UInt8) : (seal_ (bs l)).size = l.length + 8 := by
  unfold seal_ sumS sumL
  rw [ByteArray.size_append, bs_size]
  rfl

theorem st_badkid (w : World) (a : SAd) (σ : St) (hS : StAt w a σ) (bx_ : Nat) (hx : Blk w bx_ 25 [Pt a.s 0]) (k : Int) :
    Ret Tryz.prog 113 [I k, Pt bx_ 0] w fun v w' => v = B (badKid σ k) ∧ (StAt w' a σ ∧ Blk w' bx_ 25 [Pt a.s 0]) ∧ Ext No w w' := by
  have lS := hS.bs.lt
  have lMc := hS.mc.lt
  have lMk := hS.mkt.lt
  have hhi := hS.hi
  have nSC : a.s ≠ a.mc := fun e => MapAt.ne hS.mc hS.bs e.symm
  have nKC : a.mkk ≠ a.mc := fun e => hS.cmk e.symm
  have lX := hx.lt
  refine calls_of_XC Tryz.func113 rfl rfl ?_
  refine .seq ?_
  refine .region ?_
  refine xo.done 1 [(0, I k), (1, Pt bx_ 0)] (by kernel_rfl) rfl (by kernel_rfl) ?_
  refine .seq ?_
  refine .region ?_
  refine xo.val 0 (by kernel_rfl) (ldB (t := 25) (o := 0) (by kernel_rfl) hx rfl) ?_
  rcases hq1 : mfind σ.cells k with _ | x2
  · refine xo.ret 1 (by kernel_rfl) (cf59 _ _) (st_has_none _ a σ hS k hq1) ?_
    rintro _ w3 ⟨rfl, hx4⟩
    have z3 := hx4.size
    refine xo.done 12 [(3, B true)] (by kernel_rfl) rfl (by kernel_rfl) ?_
    refine .ret ?_
    refine ⟨[B true], by kernel_rfl, _, rfl, ?_⟩
    have hf5 := (hS.no hx4)
    have hb6 := (hx.ext hx4 (fun h => h))
    exact ⟨by simp [badKid, highC, cget, pack, hq1], ⟨hf5, hb6⟩, hx4⟩
  · refine xo.ret 1 (by kernel_rfl) (cf59 _ _) (st_has_some _ a σ hS k x2 hq1) ?_
    rintro _ w7 ⟨rfl, hx8⟩
    have z7 := hx8.size
    have hb9 := (hx.ext hx8 (fun h => h))
    refine xo.val 2 (by kernel_rfl) (ldB (t := 25) (o := 0) (by kernel_rfl) hb9 rfl) ?_
    have hb10 := (hS.bs.ext hx8 (fun h => h))
    refine xo.val 2 (by kernel_rfl) (ldB (t := 96) (o := 4) (by kernel_rfl) hb10 rfl) ?_
    have hm11 := (hS.mc.ext hx8 (fun h => h))
    refine xo.val 1 (by kernel_rfl) (lk_some (t := 96) (z := .agg #[I 0, I 0, I 0, .slice none 0 0]) (by kernel_rfl) hm11 hq1 false) ?_
    refine xo.done 4 [(3, B (decide (x2.high ≥ 64)))] (by kernel_rfl) rfl (by kernel_rfl) ?_
    refine .ret ?_
    refine ⟨[B (decide (x2.high ≥ 64))], by kernel_rfl, _, rfl, ?_⟩
    have hf12 := (hS.no hx8)
    exact ⟨by simp [badKid, highC, cget, pack, hq1], ⟨hf12, hb9⟩, hx8⟩

theorem st_put (w : World) (a : SAd) (σ : St) (hS : StAt w a σ) (hA : Alive σ) (lo hi : Nat) (A : Option Addr) (cap : Nat) (ks : List Int) (hK : Rd kInt w lo hi A ks) (hhi_ : hi ≤ w.heap.size) (hkl : ks.length ≤ 1099511627776) (data : ByteArray) (hdl : data.size ≤ 1099511627776) :
    Ret Tryz.prog 100 [Pt a.s 0, .slice A ks.length cap, S data] w fun v w' => (¬ (ks.length ≤ 16 ∧ data.size ≤ 3900 ∧ ks.any (badKid σ) = false) ∧ v = .tuple #[I 0, I 22] ∧ StAt w' a σ ∧ Ext a.fpp w w') ∨ ((ks.length ≤ 16 ∧ data.size ≤ 3900 ∧ ks.any (badKid σ) = false) ∧ FreeAt σ 0 ∧ v = .tuple #[I 0, I 28] ∧ StAt w' a σ ∧ Ext a.fpp w w') ∨
    ((ks.length ≤ 16 ∧ data.size ≤ 3900 ∧ ks.any (badKid σ) = false) ∧ ∃ id A' cap', (id ≠ 0 ∧ FreeAt σ id) ∧ v = .tuple #[I id, I 0] ∧ StAt w' a (putC σ id ks data A' cap') ∧ Ext a.fpp w w') := by
  have lS := hS.bs.lt
  have lMc := hS.mc.lt
  have lMk := hS.mkt.lt
  have hhi := hS.hi
  have nSC : a.s ≠ a.mc := fun e => MapAt.ne hS.mc hS.bs e.symm
  have nKC : a.mkk ≠ a.mc := fun e => hS.cmk e.symm
  have hn8 := hA.n8
  have hn4 := hA.n4
  refine calls_of_XC Tryz.func100 rfl rfl ?_
  refine .seq ?_
  refine .region ?_
  refine xo.box 0 25 (Pt a.s 0) [Pt a.s 0] (by kernel_rfl) (by kernel_rfl) ?_
  intro b1 w2 hb3 hx4 hg5
  have z2 := hx4.size
  have l3 := hb3.lt
  refine xo.done 2 [(1, .slice A ks.length cap), (2, S data), (3, Pt b1 0)] (by kernel_rfl) rfl (by kernel_rfl) ?_
  refine .seq ?_
  refine .block ?_
  refine .seq ?_
  refine .region ?_
  refine xo.val 0 (by kernel_rfl) (ldB (t := 25) (o := 0) (by kernel_rfl) hb3 rfl) ?_
  have hf6 := (hS.no hx4)
  refine xo.ret 0 (by kernel_rfl) (cf57 _ _) (st_dead _ a σ hf6) ?_
  rintro _ _ ⟨rfl, rfl⟩
  refine xo.done 1 [(1, .slice A ks.length cap), (2, S data), (3, Pt b1 0), (13, B false)] (by kernel_rfl) rfl (by kernel_rfl) ?_
  refine .condF rfl rfl ?_
  refine .seq ?_
  refine .region ?_
  by_cases hc7 : ((ks.length : Int) : Int) ≤ 16
  · refine xo.val 2 (by kernel_rfl) (c_gtr_t hc7) ?_
    by_cases hc8 : ((data.size : Int) : Int) ≤ 3900
    · refine xo.val 3 (by kernel_rfl) (c_gtr_t hc8) ?_
      have hs9 := (hK.ext hx4 (fun _ _ _ h => h))
      obtain hany | hany : ks.any (badKid σ) = false ∨ ks.any (badKid σ) = true := by cases ks.any (badKid σ) <;> simp
      · refine xo.ret 4 (by kernel_rfl) (cf112 _ _) ((contains_int _ lo hi A cap ks hs9 (by omega) 113 [Pt b1 0] (badKid σ) (fun u => StAt u a σ ∧ Blk u b1 25 [Pt a.s 0]) (fun _ _ => cf113 _ _) ⟨hf6, hb3⟩ (fun x u _ hJ => st_badkid u a σ hJ.1 b1 hJ.2 x)).mono (Q' := fun v w' => v = B false ∧ (StAt w' a σ ∧ Blk w' b1 25 [Pt a.s 0]) ∧ Ext No _ w') fun v w' q => ⟨by rw [q.1, hany], q.2⟩) ?_
        rintro _ w12 ⟨rfl, ⟨hS10, hb11⟩, hx13⟩
        have z12 := hx13.size
        have hgood : ∀ x ∈ ks, badKid σ x = false := fun x hx => by simpa using List.any_eq_false.1 hany x hx
        refine xo.done 2 [(1, .slice A ks.length cap), (2, S data), (3, Pt b1 0), (16, B false)] (by kernel_rfl) rfl (by kernel_rfl) ?_
        refine .condF rfl rfl ?_
        refine .skip ?_
        refine .seq ?_
        refine .region ?_
        refine xo.val 0 (by kernel_rfl) (ldB (t := 25) (o := 0) (by kernel_rfl) hb11 rfl) ?_
        refine xo.ret 0 (by kernel_rfl) (cf114 _ _) (st_free _ a σ hS10 (by omega) (by omega)) ?_
        rintro _ w17 ⟨i14, rfl, hF16, hS15, hx18⟩
        have z17 := hx18.size
        refine xo.done 1 [(1, .slice A ks.length cap), (2, S data), (3, Pt b1 0), (8, I i14)] (by kernel_rfl) rfl (by kernel_rfl) ?_
        refine .seq ?_
        refine .seq ?_
        refine .region ?_
        by_cases hc19 : (i14 : Int) = 0
        · refine xo.val 1 (by kernel_rfl) (c_eql_t hc19) ?_
          refine xo.done 0 [(1, .slice A ks.length cap), (2, S data), (3, Pt b1 0), (8, I i14), (33, B true)] (by kernel_rfl) rfl (by kernel_rfl) ?_
          refine .condT rfl rfl ?_
          refine .seq ?_
          refine .region ?_
          refine xo.done 2 [(6, I 0), (7, I 28)] (by kernel_rfl) rfl (by kernel_rfl) ?_
          refine .ret ?_
          refine ⟨[I 0, I 28], by kernel_rfl, _, rfl, ?_⟩
          exact .inr (.inl ⟨⟨by omega, by omega, hany⟩, by simpa [*] using hF16, rfl, hS15, (((hx4.weak fun b hb h => h.elim).trans' hx13 (fun _ _ h => h) (fun b hb h => h.elim)).trans' hx18 (fun _ _ h => h) (fun b hb h => h.elim))⟩)
        · refine xo.val 1 (by kernel_rfl) (c_eql_f hc19) ?_
          refine xo.done 0 [(1, .slice A ks.length cap), (2, S data), (3, Pt b1 0), (8, I i14), (33, B false)] (by kernel_rfl) rfl (by kernel_rfl) ?_
          refine .condF rfl rfl ?_
          refine .skip ?_
          refine .seq ?_
          refine .seq ?_
          have hb24 := (hb11.ext hx18 (fun h => h))
          refine XC.regionDraw (fun u => Blk u b1 25 [Pt a.s 0] ∧ Blk u a.s 99 [I σ.gen, I σ.root, S σ.note, Pt a.d.d 0, .map (some a.mc), .map (some a.mkk)] ∧ True) (by kernel_rfl) ?_
          intro w22 hd23
          have hx23 := Ext.ofDrew (M := No) hd23
          have z22 := hx23.size
          have hb25 := (hb24.ext hx23 (fun h => h))
          have hb26 := (hS15.bs.ext hx23 (fun h => h))
          refine ⟨⟨hb25, hb26, trivial⟩, ?_⟩
          have hFq : 2 ≤ i14 ∧ i14 < σ.dev.n := by
            rcases hF16 with ⟨h, _⟩ | ⟨h1, h2, _⟩
            · exact absurd h (by assumption)
            · exact ⟨h1, h2⟩
          refine xd.rd (fun _ _ _ _ h => h) 0 (by kernel_rfl) (by kernel_rfl) (by kernel_rfl) (fun u hS => (ldB (t := 25) (o := 0) (by kernel_rfl) hS.1 rfl)) ?_
          refine xd.q (fun _ _ _ _ h => h) 1 (Pt a.s 0) (by kernel_rfl) (by kernel_rfl) (by kernel_rfl) ?_
          refine xd.q (fun _ _ _ _ h => h) 2 (Pt a.s 3) (by kernel_rfl) (by kernel_rfl) (by kernel_rfl) ?_
          refine xd.rd (fun _ _ _ _ h => h) 3 (by kernel_rfl) (by kernel_rfl) (by kernel_rfl) (fun u hS => (ldB (t := 53) (o := 3) (by kernel_rfl) hS.2.1 rfl)) ?_
          refine xd.q (fun _ _ _ _ h => h) 4 (I i14) (by kernel_rfl) (by kernel_rfl) (by kernel_rfl) ?_
          refine xd.q (fun _ _ _ _ h => h) 5 (.slice A ks.length cap) (by kernel_rfl) (by kernel_rfl) (by kernel_rfl) ?_
          refine xd.q (fun _ _ _ _ h => h) 6 (S data) (by kernel_rfl) (by kernel_rfl) (by kernel_rfl) ?_
          refine xd.one 7 (by kernel_rfl) ?_
          have hs27 := (((hs9.ext hx13 (fun _ _ _ h => h)).ext hx18 (fun _ _ _ h => h)).ext hx23 (fun _ _ _ h => h))
          refine xo.ret 0 (by kernel_rfl) (cf115 _ _) (st_bytes _ lo hi A cap ks hs27 (by omega) (by omega) data (by omega)) ?_
          rintro _ w28 ⟨rfl, hx29⟩
          have z28 := hx29.size
          refine xo.fin 0 (by kernel_rfl) rfl ?_
          have hb30 := (hb25.ext hx29 (fun h => h))
          have hb31 := (hb26.ext hx29 (fun h => h))
          refine ⟨⟨hb30, hb31, trivial⟩, ?_⟩
          refine xd.one 8 (by kernel_rfl) ?_
          have hf32 := ((hS15.no hx23).no hx29)
          refine xo.ret 0 (by kernel_rfl) (cf64 _ _) (dev_write _ a.d σ.dev hf32.dv hA.burns hA.off hA.n8 i14 (seal_ (bs (putB ks data))) (by omega) (by omega) (by rw [seal_size, putB_length]; omega)) ?_
          rintro _ w34 ⟨rfl, hD33, hx35⟩
          have z34 := hx35.size
          have hS36 := hf32.dev' hD33 hx35
          refine xo.fin 0 (by kernel_rfl) rfl ?_
          have hb37 := (hb30.extm hx35 (fun b hb => hf32.maps b (.inr hb)))
          refine ⟨⟨hb37, hS36.bs, trivial⟩, ?_⟩
          refine xd.q (fun _ _ _ _ h => h) 9 (I 0) (by kernel_rfl) (by kernel_rfl) (by kernel_rfl) ?_
          refine xd.done (by kernel_rfl) ?_
          refine .cov [(1, .slice A ks.length cap), (3, Pt b1 0), (8, I i14), (9, I 0)] (cov_of (by kernel_rfl)) ?_
          refine .seq ?_
          refine .region ?_
          refine xo.done 2 [(1, .slice A ks.length cap), (3, Pt b1 0), (8, I i14), (9, I 0), (44, B false)] (by kernel_rfl) rfl (by kernel_rfl) ?_
          refine .condF rfl rfl ?_
          refine .skip ?_
          refine .seq ?_
          refine .region ?_
          refine xo.done 1 [(1, .slice A ks.length cap), (3, Pt b1 0), (8, I i14), (10, I 0)] (by kernel_rfl) rfl (by kernel_rfl) ?_
          refine .seq ?_
          refine .seq ?_
          refine .region ?_
          refine xo.done 3 [(1, .slice A ks.length cap), (3, Pt b1 0), (8, I i14), (10, I 0), (46, .slice A ks.length cap), (47, I (ks.length : Int)), (48, I 0)] (by kernel_rfl) rfl (by kernel_rfl) ?_
          refine .block ?_
          refine XC.loop (ι := Nat × Int) (fun ⟨i, hg⟩ => [(1, .slice A ks.length cap), (3, Pt b1 0), (8, I i14), (10, I hg), (46, .slice A ks.length cap), (47, I (ks.length : Int)), (48, I (i : Int))]) (fun ⟨i, hg⟩ u => i ≤ ks.length ∧ StAt u a { σ with dev := { σ.dev with dirty := upd σ.dev.dirty i14 (seal_ (bs (putB ks data))) }, cells := nameF σ.cells (ks.take i) } ∧ Blk u b1 25 [Pt a.s 0] ∧ Ext a.fpp w u ∧ hg = highs σ.cells (ks.take i) ∧ 0 ≤ hg ∧ hg < 64) (fun ⟨i, hg⟩ => ks.length - i) (0, 0) (cov_of (by kernel_rfl)) ⟨by omega, hS36, hb37, ((((((hx4.weak fun b hb h => h.elim).trans' hx13 (fun _ _ h => h) (fun b hb h => h.elim)).trans' hx18 (fun _ _ h => h) (fun b hb h => h.elim)).trans' hx23 (fun _ _ h => h) (fun b hb h => h.elim)).trans' hx29 (fun _ _ h => h) (fun b hb h => h.elim)).trans' hx35 (fun _ _ h => h) (fun b hb q => .inr q)), rfl, by omega, by omega⟩ ?_
          rintro ⟨i, hg⟩ w38 ⟨hi_, hSu, hb1u, hE, hhg, hg0, hg1⟩
          have z38 := hE.size
          have lb1u := hb1u.lt
          refine .seq ?_
          refine .region ?_
          by_cases hc39 : ((i : Int) : Int) < (ks.length : Int)
          · refine xo.val 0 (by kernel_rfl) (c_lss_t hc39) ?_
            refine xo.done 0 [(1, .slice A ks.length cap), (3, Pt b1 0), (8, I i14), (10, I hg), (46, .slice A ks.length cap), (47, I (ks.length : Int)), (48, I (i : Int)), (49, B true)] (by kernel_rfl) rfl (by kernel_rfl) ?_
            refine .seq ?_
            refine .condT rfl rfl ?_
            refine .skip ?_
            refine .seq ?_
            refine .block ?_
            refine .seq ?_
            refine .region ?_
            have hs40 := (hK.extm hE hS.maps)
            obtain ⟨b41, o42, x43, hi44, hA45, hl46, hh47, hr48⟩ := hs40.at_ i (by omega)
            refine xo.val 0 (by kernel_rfl) (idxN (kk := .i64) (t := 90) (n := ks.length) (cap := cap) (sz := 1) (i := i) (by kernel_rfl) hA45 (by omega)) ?_
            have hok := badKid_ok (hgood x43 (List.mem_of_getElem? hi44))
            refine xo.val 0 (by kernel_rfl) (ld (t := 3) (by kernel_rfl) (hr48 0 _ rfl)) ?_
            refine xo.done 1 [(1, .slice A ks.length cap), (3, Pt b1 0), (8, I i14), (10, I hg), (12, I x43), (46, .slice A ks.length cap), (47, I (ks.length : Int)), (48, I (i : Int))] (by kernel_rfl) rfl (by kernel_rfl) ?_
            refine .seq ?_
            refine .region ?_
            refine xo.val 0 (by kernel_rfl) (ldB (t := 25) (o := 0) (by kernel_rfl) hb1u rfl) ?_
            refine xo.ret 1 (by kernel_rfl) (cf86 _ _) (st_name _ a ({ σ with dev := { σ.dev with dirty := upd σ.dev.dirty i14 (seal_ (bs (putB ks data))) }, cells := nameF σ.cells (ks.take i) }) hSu x43 1) ?_
            rintro _ w50 ⟨hS49, hx51⟩
            have z50 := hx51.size
            refine xo.done 0 [(1, .slice A ks.length cap), (3, Pt b1 0), (8, I i14), (10, I hg), (12, I x43), (46, .slice A ks.length cap), (47, I (ks.length : Int)), (48, I (i : Int))] (by kernel_rfl) rfl (by kernel_rfl) ?_
            refine .region ?_
            have hb52 := (hb1u.extm hx51 hSu.mapc)
            refine xo.val 1 (by kernel_rfl) (ldB (t := 25) (o := 0) (by kernel_rfl) hb52 rfl) ?_
            refine xo.val 2 (by kernel_rfl) (ldB (t := 96) (o := 4) (by kernel_rfl) hS49.bs rfl) ?_
            have hf53 := mfind_name (nameF σ.cells (ks.take i)) x43 1
            obtain ⟨c54, hf53q, hh55⟩ : ∃ c, mfind (nameC (nameF σ.cells (ks.take i)) x43 1) x43 = some c ∧ c.high = highC σ.cells x43 := ⟨_, hf53, by rw [← highC_nameF (ks.take i) σ.cells]; rfl⟩
            refine xo.val 1 (by kernel_rfl) (lk_some (t := 96) (z := .agg #[I 0, I 0, I 0, .slice none 0 0]) (by kernel_rfl) hS49.mc hf53q false) ?_
            by_cases hc56 : (hg : Int) < c54.high
            · refine xo.val 1 (by kernel_rfl) (mx_t (x := hg) (y := c54.high) hc56) ?_
              refine xo.done 1 [(1, .slice A ks.length cap), (3, Pt b1 0), (8, I i14), (10, I c54.high), (46, .slice A ks.length cap), (47, I (ks.length : Int)), (48, I (i : Int))] (by kernel_rfl) rfl (by kernel_rfl) ?_
              refine .region ?_
              refine xo.val 0 (by kernel_rfl) (a_add (a := (i : Int)) (b := 1) (by omega) (by omega)) ?_
              refine xo.fin 1 (by kernel_rfl) rfl ?_
              refine ⟨(i + 1, c54.high), cov_of (by kernel_rfl), ⟨by omega, ?_, hb52, ((hE.weak fun b hb q => q).trans' hx51 (fun _ _ h => h) (fun b hb q => .inl q)), ?_, by omega, by omega⟩, by show ks.length - (i + 1) < ks.length - i; omega⟩
              · rw [nameF_snoc _ _ _ _ hi44]
                exact hS49
              · rw [highs_snoc _ _ _ _ hi44, ← hhg]
                omega
            · refine xo.val 1 (by kernel_rfl) (mx_f (x := hg) (y := c54.high) hc56) ?_
              refine xo.done 1 [(1, .slice A ks.length cap), (3, Pt b1 0), (8, I i14), (10, I hg), (46, .slice A ks.length cap), (47, I (ks.length : Int)), (48, I (i : Int))] (by kernel_rfl) rfl (by kernel_rfl) ?_
              refine .region ?_
              refine xo.val 0 (by kernel_rfl) (a_add (a := (i : Int)) (b := 1) (by omega) (by omega)) ?_
              refine xo.fin 1 (by kernel_rfl) rfl ?_
              refine ⟨(i + 1, hg), cov_of (by kernel_rfl), ⟨by omega, ?_, hb52, ((hE.weak fun b hb q => q).trans' hx51 (fun _ _ h => h) (fun b hb q => .inl q)), ?_, by omega, by omega⟩, by show ks.length - (i + 1) < ks.length - i; omega⟩
              · rw [nameF_snoc _ _ _ _ hi44]
                exact hS49
              · rw [highs_snoc _ _ _ _ hi44, ← hhg]
                omega
          · refine xo.val 0 (by kernel_rfl) (c_lss_f hc39) ?_
            refine xo.done 0 [(1, .slice A ks.length cap), (3, Pt b1 0), (8, I i14), (10, I hg), (46, .slice A ks.length cap), (47, I (ks.length : Int)), (48, I (i : Int)), (49, B false)] (by kernel_rfl) rfl (by kernel_rfl) ?_
            refine .seq ?_
            refine .condF rfl rfl ?_
            refine .exit ?_
            refine xsetTo ?_
            refine .seq ?_
            refine XC.regionDraw (fun u => Blk u b1 25 [Pt a.s 0] ∧ Blk u a.s 99 [I ({ σ with dev := { σ.dev with dirty := upd σ.dev.dirty i14 (seal_ (bs (putB ks data))) }, cells := nameF σ.cells (ks.take i) }.gen), I ({ σ with dev := { σ.dev with dirty := upd σ.dev.dirty i14 (seal_ (bs (putB ks data))) }, cells := nameF σ.cells (ks.take i) }.root), S ({ σ with dev := { σ.dev with dirty := upd σ.dev.dirty i14 (seal_ (bs (putB ks data))) }, cells := nameF σ.cells (ks.take i) }.note), Pt a.d.d 0, .map (some a.mc), .map (some a.mkk)] ∧ True) (by kernel_rfl) ?_
            intro w59 hd60
            have hx60 := Ext.ofDrew (M := No) hd60
            have z59 := hx60.size
            have hb61 := (hb1u.ext hx60 (fun h => h))
            have hb62 := (hSu.bs.ext hx60 (fun h => h))
            refine ⟨⟨hb61, hb62, trivial⟩, ?_⟩
            refine xd.rd (fun _ _ _ _ h => h) 0 (by kernel_rfl) (by kernel_rfl) (by kernel_rfl) (fun u hS => (ldB (t := 25) (o := 0) (by kernel_rfl) hS.1 rfl)) ?_
            refine xd.q (fun _ _ _ _ h => h) 1 (Pt a.s 0) (by kernel_rfl) (by kernel_rfl) (by kernel_rfl) ?_
            refine xd.q (fun _ _ _ _ h => h) 2 (Pt a.s 4) (by kernel_rfl) (by kernel_rfl) (by kernel_rfl) ?_
            refine xd.rd (fun _ _ _ _ h => h) 3 (by kernel_rfl) (by kernel_rfl) (by kernel_rfl) (fun u hS => (ldB (t := 96) (o := 4) (by kernel_rfl) hS.2.1 rfl)) ?_
            refine xd.q (fun _ _ _ _ h => h) 4 (I i14) (by kernel_rfl) (by kernel_rfl) (by kernel_rfl) ?_
            refine xd.q (fun _ _ _ _ h => h) 5 (I hg) (by kernel_rfl) (by kernel_rfl) (by kernel_rfl) ?_
            refine xd.rd (fun _ _ _ _ h => h) 6 (by kernel_rfl) (by kernel_rfl) (by kernel_rfl) (fun u hS => (a_add (a := hg) (b := 1) (by omega) (by omega))) ?_
            refine xd.q (fun _ _ _ _ h => h) 7 (.slice A ks.length cap) (by kernel_rfl) (by kernel_rfl) (by kernel_rfl) ?_
            refine xd.one 8 (by kernel_rfl) ?_
            have hs63 := ((hK.extm hE hS.maps).ext hx60 (fun _ _ _ h => h))
            refine xo.ret 0 (by kernel_rfl) (cf116 _ _) (clone_int _ lo hi A cap ks hs63 (by omega)) ?_
            rintro _ w67 ⟨A64, c65, rfl, ho66, hx68⟩
            have z67 := hx68.size
            refine xo.fin 0 (by kernel_rfl) rfl ?_
            have hb69 := (hb61.ext hx68 (fun h => h))
            have hb70 := (hb62.ext hx68 (fun h => h))
            refine ⟨⟨hb69, hb70, trivial⟩, ?_⟩
            refine xd.q (fun _ _ _ _ h => h) 9 (.agg #[I 0, I 0, I (hg + 1), .slice A64 ks.length c65]) (by kernel_rfl) (by kernel_rfl) (by kernel_rfl) ?_
            have hf71 := ((hSu.no hx60).no hx68)
            refine xd.one 10 (by kernel_rfl) ?_
            have hm72 := ((hSu.mc.ext hx60 (fun h => h)).ext hx68 (fun h => h))
            refine xo.mapPut 0 (t := 96) (z := .agg #[I 0, I 0, I 0, .slice none 0 0]) (k := i14) (v := .agg #[I 0, I 0, I (hg + 1), .slice A64 ks.length c65]) (⟨0, 0, hg + 1, A64, c65, ks⟩ : Cl) (by kernel_rfl) hm72 rfl (by kernel_rfl) ?_
            intro w73 hm74 hx75
            have z73 := hx75.size
            refine xo.fin 0 (by kernel_rfl) rfl ?_
            have hb76 := (hb69.ext hx75 (show b1 ≠ a.mc by omega))
            have hb77 := (hb70.ext hx75 nSC)
            refine ⟨⟨hb76, hb77, trivial⟩, ?_⟩
            refine xd.done (by kernel_rfl) ?_
            refine .cov [(8, I i14)] (cov_of (by kernel_rfl)) ?_
            refine .seq ?_
            refine .region ?_
            refine xo.done 3 [(6, I i14), (7, I 0)] (by kernel_rfl) rfl (by kernel_rfl) ?_
            refine .ret ?_
            refine ⟨[I i14, I 0], by kernel_rfl, _, rfl, ?_⟩
            have hi2 : i = ks.length := by omega
            have hSn := hf71.turn hm74 hx75 (nodup_put hf71.nod _ _) (fun j c hj => by
              rw [mfind_put] at hj
              split at hj
              · obtain rfl := Option.some.inj hj
                exact (Own.kids ho66 (by omega)).extm hx75 hf71.mapc
              · exact hf71.kids' hx75 j c hj)
            refine .inr (.inr ⟨⟨by omega, by omega, hany⟩, i14, A64, c65, ⟨by omega, hF16⟩, rfl, ?_, ((((hE.weak fun b hb q => q).trans' hx60 (fun _ _ h => h) (fun b hb h => h.elim)).trans' hx68 (fun _ _ h => h) (fun b hb h => h.elim)).trans' hx75 (fun _ _ h => h) (fun b hb (q : b = a.mc) => .inl q))⟩)
            rw [hi2, List.take_length] at hSn hhg
            rw [hhg] at hSn
            exact hSn
      · refine xo.ret 4 (by kernel_rfl) (cf112 _ _) ((contains_int _ lo hi A cap ks hs9 (by omega) 113 [Pt b1 0] (badKid σ) (fun u => StAt u a σ ∧ Blk u b1 25 [Pt a.s 0]) (fun _ _ => cf113 _ _) ⟨hf6, hb3⟩ (fun x u _ hJ => st_badkid u a σ hJ.1 b1 hJ.2 x)).mono (Q' := fun v w' => v = B true ∧ (StAt w' a σ ∧ Blk w' b1 25 [Pt a.s 0]) ∧ Ext No _ w') fun v w' q => ⟨by rw [q.1, hany], q.2⟩) ?_
        rintro _ w78 ⟨rfl, ⟨hS10, hb11⟩, hx79⟩
        have z78 := hx79.size
        refine xo.done 2 [(1, .slice A ks.length cap), (2, S data), (3, Pt b1 0), (16, B true)] (by kernel_rfl) rfl (by kernel_rfl) ?_
        refine .condT rfl rfl ?_
        refine .seq ?_
        refine .region ?_
        refine xo.done 2 [(6, I 0), (7, I 22)] (by kernel_rfl) rfl (by kernel_rfl) ?_
        refine .ret ?_
        refine ⟨[I 0, I 22], by kernel_rfl, _, rfl, ?_⟩
        exact .inl ⟨fun h => by simp [h.2.2] at hany, rfl, hS10, ((hx4.weak fun b hb h => h.elim).trans' hx79 (fun _ _ h => h) (fun b hb h => h.elim))⟩
    · refine xo.val 3 (by kernel_rfl) (c_gtr_f hc8) ?_
      refine xo.done 7 [(1, .slice A ks.length cap), (2, S data), (3, Pt b1 0), (16, B true)] (by kernel_rfl) rfl (by kernel_rfl) ?_
      refine .condT rfl rfl ?_
      refine .seq ?_
      refine .region ?_
      refine xo.done 2 [(6, I 0), (7, I 22)] (by kernel_rfl) rfl (by kernel_rfl) ?_
      refine .ret ?_
      refine ⟨[I 0, I 22], by kernel_rfl, _, rfl, ?_⟩
      exact .inl ⟨fun h => by have h1 := h.1; have h2 := h.2.1; omega, rfl, hf6, (hx4.weak fun b hb h => h.elim)⟩
  · refine xo.val 2 (by kernel_rfl) (c_gtr_f hc7) ?_
    refine xo.done 11 [(1, .slice A ks.length cap), (2, S data), (3, Pt b1 0), (16, B true)] (by kernel_rfl) rfl (by kernel_rfl) ?_
    refine .condT rfl rfl ?_
    refine .seq ?_
    refine .region ?_
    refine xo.done 2 [(6, I 0), (7, I 22)] (by kernel_rfl) rfl (by kernel_rfl) ?_
    refine .ret ?_
    refine ⟨[I 0, I 22], by kernel_rfl, _, rfl, ?_⟩
    exact .inl ⟨fun h => by have h1 := h.1; have h2 := h.2.1; omega, rfl, hf6, (hx4.weak fun b hb h => h.elim)⟩

end Go.Proofs.YtbajgpadmlnffaaGreat
