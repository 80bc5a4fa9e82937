/-
  A part of the proofs of this seat (Base, Step, Instr, Ops, Mem, Rule, Map, Loop, Fun, Store, Kind, Defer, Bytes, Crc): lemmas on which the last text leans. No condition.
-/
import Derived.WalkKit
import Derived.KernelRfl
import Derived.StillTail
import Derived.Deep.AppendSrc
import GoSem.Instr.MapUpdate
import Derived.LoopN
import Derived.Test.YtbajgpadmlnffaaGreatRows
import Derived.Recover
/- The own layer of these proofs: a frame is told by an association list of its live slots (Env), a region's operations are run by a function (xo), code by rules (XC). Over whatever program. Plain theorems. -/
namespace Go.V

abbrev Env := List (Nat × Value)

def eget : Env → Nat → Option Value
  | [], _ => none
  | (k, v) :: r, t => bif Nat.beq k t then some v else eget r t

def eput (n : Nat) (e : Env) (d : Option Nat) (v : Value) : Env :=
  match d with
  | some d => bif Nat.blt d n then (d, v) :: e else e
  | none => e

def rho (e : Env) : Operand → Value
  | .tmp t => (eget e t).getD undef
  | .const v => v
  | .global g => .pointer (some ⟨g, 0, none⟩)
  | .func f => .func (.func f) #[] #[]

structure Agree (n : Nat) (D : List Deferred) (a : Act) (e : Env) : Prop where
  size : a.tmps.size = n
  defers : a.defers = D
  get : ∀ t v, eget e t = some v → a.tmps[t]? = some v

theorem beq_ne {a b : Nat} (h : a ≠ b) : Nat.beq a b = false := by
  cases hb : Nat.beq a b with
  | false => rfl
  | true => exact absurd (Nat.eq_of_beq_eq_true hb) h

theorem blt_iff {d n : Nat} : Nat.blt d n = true ↔ d < n := by
  unfold Nat.blt
  rw [Nat.ble_eq]
  omega

theorem Agree.put {n : Nat} {D : List Deferred} {a : Act} {e : Env} (h : Agree n D a e) (d : Option Nat) (v : Value) : Agree n D (a.put d v) (eput n e d v) := by
  cases d with
  | none => exact h
  | some d =>
    refine ⟨by simp [Act.put, h.size], by simpa [Act.put] using h.defers, fun t u => ?_⟩
    unfold eput
    by_cases hd : d < n
    · have hb : Nat.blt d n = true := blt_iff.2 hd
      simp only [hb, cond_true, eget]
      by_cases ht : d = t
      · subst ht
        simp only [Nat.beq_refl, cond_true, Act.put]
        intro hu
        injection hu with hu
        subst hu
        simp [h.size, hd]
      · have hb2 : Nat.beq d t = false := beq_ne ht
        simp only [hb2, cond_false, Act.put]
        intro hu
        rw [Array.getElem?_setIfInBounds_ne ht]
        exact h.get t u hu
    · have hb : Nat.blt d n = false := by
        cases hc : Nat.blt d n with
        | false => rfl
        | true => exact absurd (blt_iff.1 hc) hd
      simp only [hb, cond_false]
      intro hu
      have := h.get t u hu
      simp only [Act.put]
      by_cases ht : d = t
      · subst ht
        rw [Array.getElem?_eq_none (by rw [h.size]; omega)] at this
        cases this
      · rw [Array.getElem?_setIfInBounds_ne ht]; exact this

theorem Agree.nil {n : Nat} {D : List Deferred} {a : Act} {e : Env} (h : Agree n D a e) : Agree n D a [] := ⟨h.size, h.defers, fun t v h => by simp [eget] at h⟩

def present (e : Env) : Operand → Bool
  | .tmp t => (eget e t).isSome
  | _ => true

theorem Agree.eval {n : Nat} {D : List Deferred} {a : Act} {e : Env} (h : Agree n D a e) {x : Operand} (hx : present e x = true) : a.eval x = rho e x := by
  cases x with
  | tmp t =>
    simp only [present] at hx
    obtain ⟨v, hv⟩ := Option.isSome_iff_exists.1 hx
    have := h.get t v hv
    simp [Act.eval, rho, hv, this]
  | _ => rfl

def opnds : Op → List Operand
  | .alloc _ | .ready _ | .waits _ => []
  | .move x | .assign x | .box _ x | .load _ x | .nilCheck x | .unOp _ _ x | .convert _ _ x | .sliceToArrayPointer _ x | .makeInterface _ x
  | .makeChan _ x | .fieldAddr _ x _ | .field _ x _ | .range _ x | .next x _ | .entry x | .typeAssert x _ _ _ | .extract x _ | .panic x | .recv _ x _ => [x]
  | .pick c a b => [c, a, b]
  | .build _ ps | .buildSlice _ _ ps => ps.toList.map (·.2)
  | .store _ a v | .binOp _ _ a v _ | .makeSlice _ a v | .indexAddr _ a v | .index _ a v | .lookup _ a v _ | .mapEntry _ a v | .send a v => [a, v]
  | .makeFunc _ first captured => first.toList ++ captured.toList
  | .makeMap _ r => r.toList
  | .slice _ x l h m => [x] ++ l.toList ++ h.toList ++ m.toList
  | .mapUpdate _ m k v | .entryStore _ m k v | .insert _ m k v => [m, k, v]
  | .call c | .go c | .defer c => (match c.callee with | .value f => [f] | .invoke r _ => [r] | .builtin _ => []) ++ c.args.toList
  | .select _ _ => []

theorem mem_opnds {op : Op} (hs : ∀ cs b, op ≠ .select cs b) {x : Operand} (h : x ∈ op.operands) : x ∈ opnds op := by
  cases op <;> simp only [Op.operands, opnds] at * <;> try (simp_all; done)
  case call c => simp only [Call.operands] at h; cases hc : c.callee <;> simp_all
  case go c => simp only [Call.operands] at h; cases hc : c.callee <;> simp_all
  case defer c => simp only [Call.operands] at h; cases hc : c.callee <;> simp_all

def isSelect : Op → Bool
  | .select .. => true
  | _ => false

def okOp (e : Env) (o : Oper) : Bool := !isSelect o.op && (opnds o.op).all (present e)

theorem Agree.exec {n : Nat} {D : List Deferred} {a : Act} {e : Env} (h : Agree n D a e) {o : Oper} (ho : okOp e o = true) : execOp a.eval o = execOp (rho e) o := by
  simp only [okOp, Bool.and_eq_true] at ho
  have hs : ∀ cs b, o.op ≠ .select cs b := fun cs b hc => by simp [hc, isSelect] at ho
  exact execOp_congr o hs fun x hx => h.eval (List.all_eq_true.1 ho.2 x (mem_opnds hs hx))

/-- Is the operation wanted? (none: not known.) -/
def egd (l : List Oper) (e : Env) : Option (Nat × Bool) → Option Bool
  | none => some true
  | some (j, want) =>
    match (l[j]?).bind (·.dst) with
    | none => some false
    | some t =>
      match eget e t with
      | some (.bool b) => some (b == want)
      | some _ => some false
      | none => none

theorem egd_sound {l : List Oper} {n : Nat} {D : List Deferred} {a : Act} {e : Env} (h : Agree n D a e) {o : Oper} {b : Bool} (hb : egd l e o.guard = some b) :
    Region.wanted o (yielded l.toArray a.tmps) = b := by
  unfold Region.wanted
  unfold egd at hb
  split at hb
  · rename_i hg; rw [hg]; exact Option.some.inj hb
  · rename_i j want hg
    rw [hg]
    simp only
    unfold yielded
    have hl : l.toArray[j]? = l[j]? := by simp
    rw [hl]
    split at hb
    · rename_i hn; rw [hn]; injection hb with hb
    · rename_i t ht
      rw [ht]
      simp only [Option.bind_some]
      split at hb
      · rename_i v hv; rw [h.get _ _ hv]; injection hb
      · rename_i v hnb hv
        rw [h.get _ _ hv]
        injection hb with hb
        subst hb
        cases v <;> first | rfl | (rename_i q; exact absurd rfl (hnb q))
      · cases hb

/-- The operations of a region, run in order over an environment. -/
def xo (P : Program) (l : List Oper) (n : Nat) : List Oper → Env → World → (Env → World → Prop) → (List PanicEntry → Env → World → Prop) → Prop
  | [], e, w => fun K _ => K e w
  | o :: r, e, w =>
    match egd l e o.guard with
    | none => fun _ _ => False
    | some false => xo P l n r (eput n e o.dst undef) w
    | some true =>
      bif okOp e o then
        match (execOp (rho e) o).run P w with
        | .ok (.value v) w' => xo P l n r (eput n e o.dst v) w'
        | .ok .skip w' => xo P l n r (eput n e o.dst undef) w'
        | .ok (.enter f args) w' => fun K E => Calls P f args w' fun x w'' =>
            match x with
            | .returned v => xo P l n r (eput n e o.dst v) w'' K E
            | .panicked ch => E ch e w''
            | .outgrown => False
        | .halt (.panic v) w' => fun _ E => E [{ v, recovered := false }] e w'
        | _ => fun _ _ => False
      else fun _ _ => False

theorem xo_sound {P : Program} {l : List Oper} {n : Nat} {D : List Deferred} {Q : Exit → Act → World → Prop} {K : Env → World → Prop} {E : List PanicEntry → Env → World → Prop}
    (hK : ∀ e w a, K e w → Agree n D a e → Q .normal a w) (hE : ∀ ch e w a, E ch e w → Agree n D a e → Q (.panic ch) a w) :
    ∀ (r : List Oper) (e : Env) (w : World) (a : Act), Agree n D a e → xo P l n r e w K E → wpList P l.toArray Q r a w := by
  intro r
  induction r with
  | nil => intro e w a ha h; exact hK _ _ _ h ha
  | cons o r ih =>
    intro e w a ha h
    unfold xo at h
    unfold wpList
    generalize hg : egd l e o.guard = g at h
    match g, h with
    | none, h => exact h.elim
    | some false, h =>
      rw [egd_sound ha hg]
      simp only [Bool.false_eq_true, if_false]
      exact ih _ _ _ (ha.put _ _) h
    | some true, h =>
      rw [egd_sound ha hg]
      simp only [if_true]
      left
      cases hok : okOp e o with
      | false => rw [hok] at h; exact h.elim
      | true =>
        rw [hok] at h
        simp only [cond_true] at h
        unfold Oper.wp
        rw [ha.exec hok]
        generalize (execOp (rho e) o).run P w = res at h ⊢
        cases res with
        | ok nx w' =>
          cases nx with
          | value v => exact ih _ _ _ (ha.put _ _) h
          | skip => exact ih _ _ _ (ha.put _ _) h
          | enter f args =>
            refine Calls.mono h fun x w'' hx => ?_
            cases x with
            | returned v => exact ih _ _ _ (ha.put _ _) hx
            | panicked ch => exact hE _ _ _ _ hx ha
            | outgrown => exact hx.elim
          | _ => exact h.elim
        | halt x w' =>
          cases x with
          | panic v => exact hE _ _ _ _ h ha
          | _ => exact h.elim

/-- Where code may leave to. -/
def post (K : Env → World → Prop) (X : Nat → Env → World → Prop) (R : Env → World → Prop) (E : List PanicEntry → Env → World → Prop) : Exit → Env → World → Prop
  | .normal, e, w => K e w
  | .exit id, e, w => X id e w
  | .ret, e, w => R e w
  | .panic ch, e, w => E ch e w
  | _, _, _ => False

/-- Code over an environment: K behind it, X at the exits of blocks, R at a return, E at a panic. -/
def XC (P : Program) (n : Nat) (D : List Deferred) (c : Code) (K : Env → World → Prop) (X : Nat → Env → World → Prop) (R : Env → World → Prop) (E : List PanicEntry → Env → World → Prop) (e : Env) (w : World) : Prop :=
  ∀ a, Agree n D a e → c.wp P (fun x a' w' => ∃ e', Agree n D a' e' ∧ post K X R E x e' w') a w

def Cov (e : Env) : Env → Prop
  | [] => True
  | (t, v) :: r => eget e t = some v ∧ Cov e r

theorem Cov.get {e e' : Env} (h : Cov e e') : ∀ {t v}, eget e' t = some v → eget e t = some v := by
  induction e' with
  | nil => intro t v hv; simp [eget] at hv
  | cons p r ih =>
    obtain ⟨k, u⟩ := p
    intro t v hv
    simp only [eget] at hv
    by_cases hk : k = t
    · subst hk
      simp only [Nat.beq_refl, cond_true] at hv
      injection hv with hv
      subst hv
      exact h.1
    · have hb : Nat.beq k t = false := beq_ne hk
      simp only [hb, cond_false] at hv
      exact ih h.2 hv

theorem Agree.cov {n : Nat} {D : List Deferred} {a : Act} {e e' : Env} (h : Agree n D a e) (hc : Cov e e') : Agree n D a e' := ⟨h.size, h.defers, fun t v hv => h.get t v (hc.get hv)⟩

section
variable {P : Program} {n : Nat} {D : List Deferred} {K : Env → World → Prop} {X : Nat → Env → World → Prop} {R : Env → World → Prop} {E : List PanicEntry → Env → World → Prop} {e : Env} {w : World}

theorem XC.region {id : Nat} {l : List Oper} (h : xo P l n l e w K E) : XC P n D (.region id l.toArray false) K X R E e w := by
  intro a ha
  exact wp_region_lit (xo_sound (fun e' w' a' hk ha' => ⟨e', ha', hk⟩) (fun ch e' w' a' hk ha' => ⟨e', ha', hk⟩) l e w a ha h)

theorem XC.cov {c : Code} (e' : Env) (hc : Cov e e') (h : XC P n D c K X R E e' w) : XC P n D c K X R E e w := fun a ha => h a (ha.cov hc)

theorem XC.mono {c : Code} {K' : Env → World → Prop} {X' : Nat → Env → World → Prop} {R' : Env → World → Prop} {E' : List PanicEntry → Env → World → Prop} (h : XC P n D c K X R E e w)
    (hK : ∀ e w, K e w → K' e w) (hX : ∀ i e w, X i e w → X' i e w) (hR : ∀ e w, R e w → R' e w) (hE : ∀ c e w, E c e w → E' c e w) : XC P n D c K' X' R' E' e w :=
  fun a ha => wp_mono (h a ha) fun x a' w' ⟨e', h1, h2⟩ => ⟨e', h1, by cases x <;> simp only [post] at h2 ⊢ <;> first | exact hK _ _ h2 | exact hX _ _ _ h2 | exact hR _ _ h2 | exact hE _ _ _ h2 | exact h2⟩

theorem XC.skip (h : K e w) : XC P n D .skip K X R E e w := fun _ ha => wp_skip ⟨e, ha, h⟩
theorem XC.ret (h : R e w) : XC P n D .ret K X R E e w := fun _ ha => wp_ret ⟨e, ha, h⟩
theorem XC.exit {id : Nat} (h : X id e w) : XC P n D (.exit id) K X R E e w := fun _ ha => wp_exit ⟨e, ha, h⟩

theorem XC.seq {x y : Code} (h : XC P n D x (XC P n D y K X R E) X R E e w) : XC P n D (.seq x y) K X R E e w := by
  intro a ha
  refine wp_seq (wp_mono (h a ha) ?_)
  rintro x a' w' ⟨e', h1, h2⟩
  cases x with
  | normal => exact h2 a' h1
  | _ => exact ⟨e', h1, h2⟩

theorem XC.cond {c : Operand} {x y : Code} {t : Bool} (hp : present e c = true) (hc : rho e c = .bool t) (h : XC P n D (if t then x else y) K X R E e w) : XC P n D (.cond c x y) K X R E e w :=
  fun a ha => wp_cond (by rw [ha.eval hp]; exact hc) (by cases t <;> exact h a ha)

theorem XC.condT {c : Operand} {x y : Code} (hp : present e c = true) (hc : rho e c = .bool true) (h : XC P n D x K X R E e w) : XC P n D (.cond c x y) K X R E e w := .cond hp hc h
theorem XC.condF {c : Operand} {x y : Code} (hp : present e c = true) (hc : rho e c = .bool false) (h : XC P n D y K X R E e w) : XC P n D (.cond c x y) K X R E e w := .cond hp hc h
theorem XC.condB {c : Operand} {x y : Code} (t : Bool) (hp : present e c = true) (hc : rho e c = .bool t) (h1 : t = true → XC P n D x K X R E e w) (h2 : t = false → XC P n D y K X R E e w) : XC P n D (.cond c x y) K X R E e w := by
  cases t
  · exact .condF hp hc (h2 rfl)
  · exact .condT hp hc (h1 rfl)

def xset (X : Nat → Env → World → Prop) (id : Nat) (K : Env → World → Prop) : Nat → Env → World → Prop := fun i => bif Nat.beq i id then K else X i

theorem XC.block {id : Nat} {c : Code} (h : XC P n D c K (xset X id K) R E e w) : XC P n D (.block id c) K X R E e w := by
  intro a ha
  refine wp_block (wp_mono (h a ha) ?_)
  rintro x a' w' ⟨e', h1, h2⟩
  cases x with
  | exit i =>
    simp only [Exit.inBlock]
    by_cases hi : i = id
    · subst hi
      simp only [if_true]
      simp only [post, xset, Nat.beq_refl, cond_true] at h2
      exact ⟨e', h1, h2⟩
    · simp only [hi, if_false]
      have hb : Nat.beq i id = false := beq_ne hi
      simp only [post, xset, hb, cond_false] at h2
      exact ⟨e', h1, h2⟩
  | _ => exact ⟨e', h1, h2⟩

theorem xsetTo {id : Nat} {X' : Nat → Env → World → Prop} {K' : Env → World → Prop} (h : K' e w) : xset X' id K' id e w := by simpa [xset] using h
theorem xsetPast {id j : Nat} {X' : Nat → Env → World → Prop} {K' : Env → World → Prop} (hj : Nat.beq id j = false) (h : X' id e w) : xset X' j K' id e w := by
  simpa [xset, hj] using h
theorem XC.exitTo {id : Nat} {X' : Nat → Env → World → Prop} {K' : Env → World → Prop} (h : K' e w) : XC P n D (.exit id) K (xset X' id K') R E e w := .exit (xsetTo h)

/-- A loop: the environments at its head are 'env i', 'I i' holds there, 'μ' falls. -/
theorem XC.loop {ι : Type} {c : Code} (env : ι → Env) (I : ι → World → Prop) (μ : ι → Nat) (i0 : ι) (hc : Cov e (env i0)) (h0 : I i0 w)
    (round : ∀ i w, I i w → XC P n D c (fun e' w' => ∃ j, Cov e' (env j) ∧ I j w' ∧ μ j < μ i) X R E (env i) w) : XC P n D (.loop c) K X R E e w := by
  intro a ha b k cs
  -- the measure is carried by the induction, the index is chosen anew each round
  have key : ∀ m i a w, μ i = m → I i w → Agree n D a (env i) →
      ∃ x a' w', (∃ e', Agree n D a' e' ∧ post K X R E x e' w') ∧ Arrives P (lone (b.at a (.code c :: .inLoop c :: k)) cs w) b k cs x a' w' := by
    intro m
    induction m using Nat.strongRecOn with
    | _ m ih =>
      intro i a w hm hI ha
      obtain ⟨x, a₁, w₁, ⟨e', he', hq⟩, harr⟩ := round i w hI a ha b (.inLoop c :: k) cs
      cases x with
      | normal =>
        obtain ⟨j, hcov, hj, hlt⟩ := hq
        obtain ⟨x₂, a₂, w₂, hq₂, harr₂⟩ := ih (μ j) (hm ▸ hlt) j a₁ w₁ rfl hj (he'.cov hcov)
        exact ⟨x₂, a₂, w₂, hq₂, .of_steps (Steps.trans harr (.one step_inLoop)) harr₂⟩
      | exit id => exact ⟨_, a₁, w₁, ⟨e', he', by exact hq⟩, .pass (x := .inLoop c) rfl (fun _ _ => .inl (by simp)) harr⟩
      | goto l => exact hq.elim
      | ret => exact ⟨_, a₁, w₁, ⟨e', he', by exact hq⟩, .pass (x := .inLoop c) rfl (fun _ _ => .inl (by simp)) harr⟩
      | panic ch => exact ⟨_, a₁, w₁, ⟨e', he', by exact hq⟩, .pass (x := .inLoop c) rfl (fun _ _ => .inl (by simp)) harr⟩
      | outgrown => exact hq.elim
  obtain ⟨x, a', w', hq, harr⟩ := key _ i0 a w rfl h0 (ha.cov hc)
  exact ⟨x, a', w', hq, .of_steps (.one step_loop) harr⟩

/-- Ways that meet again behind x. -/
theorem XC.join {ι : Type} {x y : Code} (env : ι → Env) (I : ι → World → Prop) (h : XC P n D x (fun e' w' => ∃ i, Cov e' (env i) ∧ I i w') X R E e w)
    (hy : ∀ i w', I i w' → XC P n D y K X R E (env i) w') : XC P n D (.seq x y) K X R E e w :=
  .seq (h.mono (fun _ _ ⟨i, hc, hi⟩ => .cov _ hc (hy i _ hi)) (fun _ _ _ h => h) (fun _ _ h => h) (fun _ _ _ h => h))

/-- A region that draws its order and only reads. -/
def xs (P : Program) (l : List Oper) (n : Nat) (w : World) : List Oper → Env → (Env → Prop) → Prop
  | [], e => fun K => K e
  | o :: r, e =>
    match egd l e o.guard with
    | none => fun _ => False
    | some false => xs P l n w r (eput n e o.dst undef)
    | some true =>
      bif okOp e o then fun K => ∃ v, (execOp (rho e) o).run P w = .ok (.value v) w ∧ xs P l n w r (eput n e o.dst v) K
      else fun _ => False

theorem xs_sound {l : List Oper} {Q : Act → Prop} {K : Env → Prop} (hK : ∀ e a, K e → Agree n D a e → Q a) :
    ∀ (r : List Oper) (e : Env) (a : Act), Agree n D a e → xs P l n w r e K → wpStill P l.toArray w Q r a := by
  intro r
  induction r with
  | nil => intro e a ha h; exact hK _ _ h ha
  | cons o r ih =>
    intro e a ha h
    unfold xs at h
    unfold wpStill
    generalize hg : egd l e o.guard = g at h
    match g, h with
    | none, h => exact h.elim
    | some false, h =>
      rw [egd_sound ha hg]
      simp only [Bool.false_eq_true, if_false]
      exact ih _ _ (ha.put _ _) h
    | some true, h =>
      rw [egd_sound ha hg]
      simp only [if_true]
      cases hok : okOp e o with
      | false => rw [hok] at h; exact h.elim
      | true =>
        rw [hok] at h
        simp only [cond_true] at h
        obtain ⟨v, hr, h⟩ := h
        unfold Oper.still
        rw [ha.exec hok, hr, Oper.stillUpon_value]
        exact ih _ _ (ha.put _ _) h

/-- Behind a draw nothing has turned but the count. -/
structure Drew (w w' : World) : Prop where
  heap : w'.heap = w.heap
  os : w'.os = w.os
  tape : w'.tape = w.tape
  output : w'.output = w.output

theorem XC.regionReads {id : Nat} {l : List Oper} (hm : P.follows .mixedOrders = true) (hB : Region.lexB .any l.toArray = true)
    (h : ∀ w', Drew w w' → xs P l n w' l e fun e' => K e' w') : XC P n D (.region id l.toArray true) K X R E e w := by
  intro a ha
  refine wp_region_still_lit hm hB (xs_sound (fun e' a' hk ha' => ⟨e', ha', hk⟩) l e a ha (h _ ⟨rfl, rfl, rfl, rfl⟩))

/-- A region that draws its order: first m operations that only read, then a forced tail. -/
theorem XC.regionTail {id : Nat} {l : List Oper} (m : Nat) (hm : P.follows .mixedOrders = true) (hB : Region.lexTailB .any l.toArray m = true)
    (h : ∀ w', Drew w w' → xs P l n w' (l.take m) e fun e' => xo P l n (l.drop m) e' w' K E) : XC P n D (.region id l.toArray true) K X R E e w := by
  intro a ha
  exact wp_region_still_tail m hm hB (xs_sound (fun e' a' hk ha' => xo_sound (fun e'' w'' a'' hk' ha'' => ⟨e'', ha'', hk'⟩) (fun ch e'' w' a' hk' ha'' => ⟨e'', ha'', hk'⟩) (l.drop m) e' _ a' ha' hk) (l.take m) e a ha (h _ ⟨rfl, rfl, rfl, rfl⟩))

end

/-- The results that a function's slots hold. -/
def eres (rs : List ResultVar) (e : Env) : Option (List Value) :=
  match rs with
  | [] => some []
  | .tmp t :: r => match eget e t, eres r e with
    | some v, some vs => some (v :: vs)
    | _, _ => none
  | .cell _ _ :: _ => none

def pack : List Value → Value
  | [v] => v
  | vs => .tuple vs.toArray

theorem results_mapM {P : Program} {w : World} {n : Nat} {D : List Deferred} {a : Act} {e : Env} (h : Agree n D a e) (F : ResultVar → Sem Value) (hF : ∀ t, F (.tmp t) = pure (a.tmps.getD t undef)) :
    ∀ (rs : List ResultVar) (vs : List Value), eres rs e = some vs → (rs.mapM F).run P w = .ok vs w := by
  intro rs
  induction rs with
  | nil => intro vs hv; simp only [eres] at hv; injection hv with hv; subst hv; simp
  | cons r rs ih =>
    intro vs hv
    cases r with
    | cell c t => simp [eres] at hv
    | tmp t =>
      simp only [eres] at hv
      split at hv
      · rename_i v us h1 h2
        injection hv with hv
        subst hv
        have := h.get t v h1
        have hi := ih us h2
        simp only [List.mapM_cons, Sem.run_bind, Sem.run_pure, Result.andThen_ok, hF, hi]
        simp [this]
      · cases hv

theorem pack_eq (vs : List Value) : (if h : vs.toArray.size = 1 then vs.toArray[0] else .tuple vs.toArray) = pack vs := by
  match vs with
  | [] => rfl
  | [v] => rfl
  | v :: u :: r => simp [pack]

theorem results_env {P : Program} {w : World} {n : Nat} {D : List Deferred} {fn : Func} {a : Act} {e : Env} {vs : List Value} (h : Agree n D a e) (hv : eres fn.results.toList e = some vs) :
    (results fn a.tmps).run P w = .ok (pack vs) w := by
  unfold results
  rw [Array.mapM_eq_mapM_toList]
  simp only [Sem.run_bind, Sem.run_map]
  rw [results_mapM (P := P) (w := w) h _ (fun t => rfl) fn.results.toList vs hv]
  simp only [Result.andThen_ok, Sem.run_pure]
  rw [pack_eq]

def argEnv : Nat → List Value → Env
  | _, [] => []
  | i, v :: r => (i, v) :: argEnv (i + 1) r

theorem argEnv_get : ∀ (l : List Value) (i t : Nat) (v : Value), eget (argEnv i l) t = some v → i ≤ t ∧ l[t - i]? = some v := by
  intro l
  induction l with
  | nil => intro i t v h; simp [argEnv, eget] at h
  | cons x r ih =>
    intro i t v h
    simp only [argEnv, eget] at h
    by_cases hk : i = t
    · subst hk
      simp only [Nat.beq_refl, cond_true] at h
      injection h with h
      simp [h]
    · have hb : Nat.beq i t = false := beq_ne hk
      simp only [hb, cond_false] at h
      obtain ⟨h1, h2⟩ := ih _ _ _ h
      refine ⟨by omega, ?_⟩
      obtain ⟨d, rfl⟩ : ∃ d, t = i + 1 + d := ⟨t - (i + 1), by omega⟩
      rw [show i + 1 + d - i = d + 1 from by omega]
      simpa [show i + 1 + d - (i + 1) = d from by omega] using h2

/-- A function's contract out of its body. -/
theorem calls_of_XC {P : Program} {f : FuncId} {fn : Func} {c : Code} {args : List Value} {w : World} {R : Ending → World → Prop}
    (hf : P.funcs[f]? = some fn) (hb : fn.body = some c) (hn' : Nat.ble args.length fn.ntmps = true)
    (h : XC P fn.ntmps [] c (fun e w => ∃ vs, eres fn.results.toList e = some vs ∧ R (.returned (pack vs)) w) (fun _ _ _ => False)
      (fun e w => ∃ vs, eres fn.results.toList e = some vs ∧ R (.returned (pack vs)) w) (fun ch _ w => R (.panicked ch) w) (argEnv 0 args) w) :
    Calls P f args.toArray w R := by
  have hn := Nat.le_of_ble_eq_true hn'
  refine calls_of_wp hf hb ?_
  have ha : Agree fn.ntmps [] { tmps := args.toArray ++ Array.replicate (fn.ntmps - args.toArray.size) undef, defers := [] } (argEnv 0 args) := by
    refine ⟨by simp; omega, rfl, fun t v hv => ?_⟩
    obtain ⟨_, h2⟩ := argEnv_get _ _ _ _ hv
    simp only [Nat.sub_zero] at h2
    have ht : t < args.length := (List.getElem?_eq_some_iff.1 h2).1
    show (args.toArray ++ Array.replicate (fn.ntmps - args.toArray.size) undef)[t]? = some v
    rw [Array.getElem?_append_left (by simpa using ht)]
    simpa using h2
  refine wp_mono (h _ ha) ?_
  rintro x a' w' ⟨e', h1, h2⟩
  cases x with
  | normal => obtain ⟨vs, hv, hR⟩ := h2; exact ⟨h1.defers, _, results_env h1 hv, hR⟩
  | ret => obtain ⟨vs, hv, hR⟩ := h2; exact ⟨h1.defers, _, results_env h1 hv, hR⟩
  | panic ch => exact ⟨h1.defers, h2⟩
  | exit id => exact h2.elim
  | goto l => exact h2.elim
  | outgrown => exact h2.elim

attribute [irreducible] xo xs
end Go.V
/- Rules for a region's operations: k quiet operations are run by the kernel, the next one by a law. -/
namespace Go.V
section
variable {P : Program} {l : List Oper} {n : Nat}

/-- k operations that give a value and leave the world. -/
def xrun (P : Program) (l : List Oper) (n : Nat) : Nat → List Oper → Env → World → Option (Env × World)
  | 0, _, e, w => some (e, w)
  | _ + 1, [], _, _ => none
  | k + 1, o :: r, e, w =>
    match egd l e o.guard with
    | none => none
    | some false => xrun P l n k r (eput n e o.dst undef) w
    | some true =>
      bif okOp e o then
        match (execOp (rho e) o).run P w with
        | .ok (.value v) w' => xrun P l n k r (eput n e o.dst v) w'
        | .ok .skip w' => xrun P l n k r (eput n e o.dst undef) w'
        | _ => none
      else none

theorem xo_of_run {K : Env → World → Prop} {E : List PanicEntry → Env → World → Prop} : ∀ (k : Nat) (r : List Oper) (e : Env) (w : World) (e' : Env) (w' : World), xrun P l n k r e w = some (e', w') →
    xo P l n (r.drop k) e' w' K E → xo P l n r e w K E := by
  intro k
  induction k with
  | zero => intro r e w e' w' h hk; simp only [xrun] at h; injection h with h; injection h with h1 h2; subst h1; subst h2; simpa using hk
  | succ k ih =>
    intro r e w e' w' h hk
    cases r with
    | nil => simp [xrun] at h
    | cons o r =>
      unfold xrun at h
      unfold xo
      generalize hg : egd l e o.guard = g at h
      match g, h with
      | none, h => cases h
      | some false, h => exact ih _ _ _ _ _ h (by simpa using hk)
      | some true, h =>
        cases hok : okOp e o with
        | false => simp [hok] at h
        | true =>
          simp only [hok, cond_true] at h ⊢
          generalize (execOp (rho e) o).run P w = res at h ⊢
          cases res with
          | ok nx w1 =>
            cases nx <;> simp only at h ⊢ <;> first | (cases h; done) | exact ih _ _ _ _ _ h (by simpa using hk)
          | halt x w1 => simp at h

def xenv (P : Program) (l : List Oper) (n k : Nat) (r : List Oper) (e : Env) (w : World) : Env := ((xrun P l n k r e w).map (·.1)).getD []

/-- What the operation behind k quiet ones comes to. -/
def xat (P : Program) (l : List Oper) (n k : Nat) (r : List Oper) (e : Env) (w : World) : Option (World × Result Next × Option Nat) :=
  match xrun P l n k r e w, r.drop k with
  | some (e', w'), o :: _ =>
    match egd l e' o.guard with
    | some true => bif okOp e' o then some (w', (execOp (rho e') o).run P w', o.dst) else none
    | _ => none
  | _, _ => none

def xdst (k : Nat) (r : List Oper) : Option Nat := (r[k]?).bind (·.dst)

variable {K : Env → World → Prop} {E : List PanicEntry → Env → World → Prop} {r : List Oper} {e : Env} {w : World}

theorem xat_spec {k : Nat} {w1 : World} {R : Result Next} {d : Option Nat} (h : xat P l n k r e w = some (w1, R, d)) :
    ∃ o r' e', xrun P l n k r e w = some (e', w1) ∧ xenv P l n k r e w = e' ∧ r.drop k = o :: r' ∧ r.drop (k + 1) = r' ∧ egd l e' o.guard = some true ∧ okOp e' o = true ∧ (execOp (rho e') o).run P w1 = R ∧ o.dst = d := by
  unfold xat at h
  split at h
  · rename_i e' w' o r' h1 h2
    split at h
    · rename_i hg
      cases hok : okOp e' o with
      | false => simp [hok] at h
      | true =>
        simp only [hok, cond_true] at h
        injection h with h
        injection h with h3 h4
        injection h4 with h4 h5
        subst h3
        refine ⟨o, r', e', h1, by simp [xenv, h1], h2, ?_, hg, hok, h4, h5⟩
        rw [← List.drop_drop, h2]
        rfl
    · cases h
  · cases h

theorem xo.at_ {k : Nat} {w1 : World} {R : Result Next} {d : Option Nat} (h : xat P l n k r e w = some (w1, R, d))
    (hk : ∀ o r', r.drop (k + 1) = r' → o.dst = d → egd l (xenv P l n k r e w) o.guard = some true → okOp (xenv P l n k r e w) o = true → (execOp (rho (xenv P l n k r e w)) o).run P w1 = R →
      xo P l n (o :: r') (xenv P l n k r e w) w1 K E) : xo P l n r e w K E := by
  obtain ⟨o, r', e', h1, h2, h3, h4, h5, h6, h7, h8⟩ := xat_spec h
  subst h2
  exact xo_of_run k r e w _ _ h1 (by rw [h3]; exact hk o r' h4 h8 h5 h6 h7)

theorem xo.val (k : Nat) {S : Sem Next} {v : Value} {w' : World} (h : xat P l n k r e w = some (w, S.run P w, xdst k r)) (hr : S.run P w = .ok (.value v) w')
    (hk : xo P l n (r.drop (k + 1)) (eput n (xenv P l n k r e w) (xdst k r) v) w' K E) : xo P l n r e w K E := by
  refine xo.at_ h fun o r' h1 h2 h3 h4 h5 => ?_
  unfold xo
  rw [h3]
  simp only [h4, cond_true, h5, hr]
  subst h1; rw [h2]
  exact hk

theorem xo.skp (k : Nat) {S : Sem Next} {w' : World} (h : xat P l n k r e w = some (w, S.run P w, xdst k r)) (hr : S.run P w = .ok .skip w')
    (hk : xo P l n (r.drop (k + 1)) (eput n (xenv P l n k r e w) (xdst k r) undef) w' K E) : xo P l n r e w K E := by
  refine xo.at_ h fun o r' h1 h2 h3 h4 h5 => ?_
  unfold xo
  rw [h3]
  simp only [h4, cond_true, h5, hr]
  subst h1; rw [h2]
  exact hk

theorem xo.pnc (k : Nat) {S : Sem Next} {v : Value} {w' : World} (h : xat P l n k r e w = some (w, S.run P w, xdst k r)) (hr : S.run P w = .halt (.panic v) w')
    (hk : E [{ v, recovered := false }] (xenv P l n k r e w) w') : xo P l n r e w K E := by
  refine xo.at_ h fun o r' h1 h2 h3 h4 h5 => ?_
  unfold xo
  rw [h3]
  simp only [h4, cond_true, h5, hr]
  exact hk

/-- The function returns, with Q. -/
def Ret (P : Program) (f : FuncId) (args : List Value) (w : World) (Q : Value → World → Prop) : Prop :=
  Calls P f args.toArray w fun x w' => ∃ v, x = .returned v ∧ Q v w'
/-- The function panics, with Q. -/
def Pnc (P : Program) (f : FuncId) (args : List Value) (w : World) (Q : List PanicEntry → World → Prop) : Prop :=
  Calls P f args.toArray w fun x w' => ∃ c, x = .panicked c ∧ Q c w'

theorem Ret.mono {f : FuncId} {args : List Value} {Q Q' : Value → World → Prop} (h : Ret P f args w Q) (hq : ∀ v w', Q v w' → Q' v w') : Ret P f args w Q' :=
  Calls.mono h fun _ _ ⟨v, hv, hQ⟩ => ⟨v, hv, hq _ _ hQ⟩
theorem Pnc.mono {f : FuncId} {args : List Value} {Q Q' : List PanicEntry → World → Prop} (h : Pnc P f args w Q) (hq : ∀ v w', Q v w' → Q' v w') : Pnc P f args w Q' :=
  Calls.mono h fun _ _ ⟨v, hv, hQ⟩ => ⟨v, hv, hq _ _ hQ⟩

theorem xo.ret (k : Nat) {S : Sem Next} {f : FuncId} {args : List Value} {Q : Value → World → Prop} (h : xat P l n k r e w = some (w, S.run P w, xdst k r)) (hr : S.run P w = .ok (.enter f args.toArray) w)
    (hc : Ret P f args w Q) (hk : ∀ v w', Q v w' → xo P l n (r.drop (k + 1)) (eput n (xenv P l n k r e w) (xdst k r) v) w' K E) : xo P l n r e w K E := by
  refine xo.at_ h fun o r' h1 h2 h3 h4 h5 => ?_
  unfold xo
  rw [h3]
  simp only [h4, cond_true, h5, hr]
  subst h1; rw [h2]
  exact Calls.mono hc fun x w' ⟨v, hv, hQ⟩ => by subst hv; exact hk _ _ hQ

theorem xo.any (k : Nat) {S : Sem Next} {f : FuncId} {args : List Value} {Q : Ending → World → Prop} (h : xat P l n k r e w = some (w, S.run P w, xdst k r)) (hr : S.run P w = .ok (.enter f args.toArray) w)
    (hc : Calls P f args.toArray w Q) (hk1 : ∀ v w', Q (.returned v) w' → xo P l n (r.drop (k + 1)) (eput n (xenv P l n k r e w) (xdst k r) v) w' K E)
    (hk2 : ∀ c w', Q (.panicked c) w' → E c (xenv P l n k r e w) w') (hk3 : ∀ w', ¬ Q .outgrown w') : xo P l n r e w K E := by
  refine xo.at_ h fun o r' h1 h2 h3 h4 h5 => ?_
  unfold xo
  rw [h3]
  simp only [h4, cond_true, h5, hr]
  subst h1; rw [h2]
  refine Calls.mono hc fun x w' hQ => ?_
  cases x with
  | returned v => exact hk1 _ _ hQ
  | panicked c => exact hk2 _ _ hQ
  | outgrown => exact hk3 _ hQ

theorem xo.cpn (k : Nat) {S : Sem Next} {f : FuncId} {args : List Value} {Q : List PanicEntry → World → Prop} (h : xat P l n k r e w = some (w, S.run P w, xdst k r)) (hr : S.run P w = .ok (.enter f args.toArray) w)
    (hc : Pnc P f args w Q) (hk : ∀ c w', Q c w' → E c (xenv P l n k r e w) w') : xo P l n r e w K E := by
  refine xo.at_ h fun o r' h1 h2 h3 h4 h5 => ?_
  unfold xo
  rw [h3]
  simp only [h4, cond_true, h5, hr]
  exact Calls.mono hc fun x w' ⟨v, hv, hQ⟩ => by subst hv; exact hk _ _ hQ

/-- The region's end: what stands in the slots that still matter. -/
theorem cov_of {e e' : Env} (h : e'.map (fun p => eget e p.1) = e'.map (fun p => some p.2)) : Cov e e' := by
  induction e' with
  | nil => trivial
  | cons p r ih =>
    simp only [List.map_cons, List.cons.injEq] at h
    exact ⟨h.1, ih h.2⟩

theorem xo.fin (k : Nat) (h : xrun P l n k r e w = some (xenv P l n k r e w, w)) (hr : r.drop k = []) (hk : K (xenv P l n k r e w) w) : xo P l n r e w K E := by
  refine xo_of_run k r e w _ _ h ?_
  rw [hr]
  unfold xo
  exact hk

theorem xo.done (k : Nat) {D : List Deferred} {y : Code} {X : Nat → Env → World → Prop} {Rr : Env → World → Prop} {E' : List PanicEntry → Env → World → Prop} (e' : Env)
    (h : xrun P l n k r e w = some (xenv P l n k r e w, w)) (hr : r.drop k = []) (hc : e'.map (fun p => eget (xenv P l n k r e w) p.1) = e'.map (fun p => some p.2))
    (hk : XC P n D y K X Rr E' e' w) : xo P l n r e w (XC P n D y K X Rr E') E :=
  xo.fin k h hr (.cov e' (cov_of hc) hk)

/-- For regions that draw: the same over 'xs'. -/
theorem xs_cons {o : Oper} {Ke : Env → Prop} {v : Value} (hg : egd l e o.guard = some true) (hok : okOp e o = true) (hr : (execOp (rho e) o).run P w = .ok (.value v) w)
    (hk : xs P l n w r (eput n e o.dst v) Ke) : xs P l n w (o :: r) e Ke := by
  unfold xs
  rw [hg]
  simp only [hok, cond_true]
  exact ⟨v, hr, hk⟩
theorem xs_past {o : Oper} {Ke : Env → Prop} (hg : egd l e o.guard = some false) (hk : xs P l n w r (eput n e o.dst undef) Ke) : xs P l n w (o :: r) e Ke := by
  unfold xs
  rw [hg]
  exact hk

/-- 'xrun' for xs: the operations leave the very world: their worlds are listed. -/
def xsr (P : Program) (l : List Oper) (n : Nat) (w : World) : Nat → List Oper → Env → Option (Env × List World)
  | 0, _, e => some (e, [])
  | _ + 1, [], _ => none
  | k + 1, o :: r, e =>
    match egd l e o.guard with
    | none => none
    | some false => (xsr P l n w k r (eput n e o.dst undef)).map fun p => (p.1, w :: p.2)
    | some true =>
      bif okOp e o then
        match (execOp (rho e) o).run P w with
        | .ok (.value v) w' => (xsr P l n w k r (eput n e o.dst v)).map fun p => (p.1, w' :: p.2)
        | _ => none
      else none

theorem xs_of_run {Ke : Env → Prop} : ∀ (k : Nat) (r : List Oper) (e e' : Env), xsr P l n w k r e = some (e', List.replicate k w) → xs P l n w (r.drop k) e' Ke → xs P l n w r e Ke := by
  intro k
  induction k with
  | zero => intro r e e' h hk; simp only [xsr] at h; injection h with h; injection h with h1 h2; subst h1; simpa using hk
  | succ k ih =>
    intro r e e' h hk
    cases r with
    | nil => simp [xsr] at h
    | cons o r =>
      unfold xsr at h
      unfold xs
      generalize hg : egd l e o.guard = g at h
      match g, h with
      | none, h => cases h
      | some false, h =>
        simp only [Option.map_eq_some_iff] at h
        obtain ⟨⟨e1, ws⟩, h1, h2⟩ := h
        simp only [List.replicate_succ, Prod.mk.injEq, List.cons.injEq, true_and] at h2
        obtain ⟨rfl, rfl⟩ := h2
        exact ih _ _ _ h1 (by simpa using hk)
      | some true, h =>
        cases hok : okOp e o with
        | false => simp [hok] at h
        | true =>
          simp only [hok, cond_true] at h ⊢
          generalize hres : (execOp (rho e) o).run P w = res at h ⊢
          cases res with
          | ok nx w1 =>
            cases nx <;> simp only at h ⊢ <;> try (cases h; done)
            simp only [Option.map_eq_some_iff] at h
            obtain ⟨⟨e1, ws⟩, h1, h2⟩ := h
            simp only [List.replicate_succ, Prod.mk.injEq, List.cons.injEq] at h2
            obtain ⟨rfl, rfl, rfl⟩ := h2
            exact ⟨_, rfl, ih _ _ _ h1 (by simpa using hk)⟩
          | halt x w1 => simp at h

def xsenv (P : Program) (l : List Oper) (n : Nat) (w : World) (k : Nat) (r : List Oper) (e : Env) : Env := ((xsr P l n w k r e).map (·.1)).getD []

def xsat (P : Program) (l : List Oper) (n : Nat) (w : World) (k : Nat) (r : List Oper) (e : Env) : Option (List World × Result Next × Option Nat) :=
  match xsr P l n w k r e, r.drop k with
  | some (e', ws), o :: _ =>
    match egd l e' o.guard with
    | some true => bif okOp e' o then some (ws, (execOp (rho e') o).run P w, o.dst) else none
    | _ => none
  | _, _ => none

theorem xs.val (k : Nat) {S : Sem Next} {v : Value} {Ke : Env → Prop} (h : xsat P l n w k r e = some (List.replicate k w, S.run P w, xdst k r)) (hr : S.run P w = .ok (.value v) w)
    (hk : xs P l n w (r.drop (k + 1)) (eput n (xsenv P l n w k r e) (xdst k r) v) Ke) : xs P l n w r e Ke := by
  unfold xsat at h
  split at h
  · rename_i e' ws o r' h1 h2
    split at h
    · rename_i hg
      cases hok : okOp e' o with
      | false => simp [hok] at h
      | true =>
        simp only [hok, cond_true] at h
        injection h with h
        injection h with h3 h4
        injection h4 with h4 h5
        subst h3
        have hx : xsenv P l n w k r e = e' := by simp [xsenv, h1]
        refine xs_of_run k r e e' h1 ?_
        rw [hx] at hk
        rw [h2]
        have h6 : r.drop (k + 1) = r' := by rw [← List.drop_drop, h2]; rfl
        rw [h6, ← h5] at hk
        exact xs_cons hg hok (h4.trans hr) hk
    · cases h
  · cases h

theorem xs.fin (k : Nat) {Ke : Env → Prop} (h : xsr P l n w k r e = some (xsenv P l n w k r e, List.replicate k w)) (hr : r.drop k = []) (hk : Ke (xsenv P l n w k r e)) : xs P l n w r e Ke := by
  refine xs_of_run k r e _ h ?_
  rw [hr]
  unfold xs
  exact hk

end
end Go.V
/- Laws for single operations over blocks: loads, stores, new variables, comparisons, sums. -/
namespace Go.V

abbrev I (n : Int) : Value := .int .i64 n
abbrev B (b : Bool) : Value := .bool b
abbrev S (s : ByteArray) : Value := .string s
abbrev Pt (b o : Nat) : Value := .pointer (some ⟨b, o, none⟩)

def vS (s : Sem Value) : Sem Next := do pure (.value (← s))
def uS (s : Sem Unit) : Sem Next := do s; pure .skip

section
variable {P : Program} {w w' : World}
theorem vrun {s : Sem Value} {v : Value} (h : s.run P w = .ok v w') : (vS s).run P w = .ok (.value v) w' := by
  simp only [vS, Sem.run_bind, h, Result.andThen_ok, Sem.run_pure]
theorem urun {s : Sem Unit} (h : s.run P w = .ok () w') : (uS s).run P w = .ok .skip w' := by
  simp only [uS, Sem.run_bind, h, Result.andThen_ok, Sem.run_pure]

/-- A block of cells, none frozen. -/
def Blk (w : World) (b : Nat) (t : TypeId) (cs : List Value) : Prop := w.heap[b]? = some (.cells cs.toArray t (0, 0))
/-- Cells that stand in a row. -/
def Cs (w : World) (b o : Nat) (cs : List Value) : Prop := ∀ j v, cs[j]? = some v → w.cell? ⟨b, o + j, none⟩ = some v

/-- Blocks of w but those of M are as they were. -/
structure Ext (M : Nat → Prop) (w w' : World) : Prop where
  os : w'.os = w.os
  tape : w'.tape = w.tape
  output : w'.output = w.output
  size : w.heap.size ≤ w'.heap.size
  block : ∀ b, b < w.heap.size → ¬ M b → w'.heap[b]? = w.heap[b]?
abbrev No : Nat → Prop := fun _ => False

theorem Ext.refl (M : Nat → Prop) (w : World) : Ext M w w := ⟨rfl, rfl, rfl, Nat.le_refl _, fun _ _ _ => rfl⟩
theorem Ext.trans {M : Nat → Prop} {a b c : World} (h : Ext M a b) (k : Ext M b c) : Ext M a c :=
  ⟨k.os.trans h.os, k.tape.trans h.tape, k.output.trans h.output, Nat.le_trans h.size k.size, fun i hi hm => (k.block i (Nat.lt_of_lt_of_le hi h.size) hm).trans (h.block i hi hm)⟩
theorem Ext.weak {M M' : Nat → Prop} {a b : World} (h : Ext M a b) (hM : ∀ i, i < a.heap.size → M i → M' i) : Ext M' a b :=
  ⟨h.os, h.tape, h.output, h.size, fun i hi hm => h.block i hi fun hm' => hm (hM i hi hm')⟩
/-- What turned later lay in M', or is newer than a. -/
theorem Ext.trans' {M M' M'' : Nat → Prop} {a b c : World} (h : Ext M a b) (k : Ext M' b c) (h1 : ∀ i, i < a.heap.size → M i → M'' i) (h2 : ∀ i, i < a.heap.size → M' i → M'' i) : Ext M'' a c :=
  ⟨k.os.trans h.os, k.tape.trans h.tape, k.output.trans h.output, Nat.le_trans h.size k.size, fun i hi hm =>
    (k.block i (Nat.lt_of_lt_of_le hi h.size) fun hm' => hm (h2 i hi hm')).trans (h.block i hi fun hm' => hm (h1 i hi hm'))⟩
theorem Ext.ofDrew {M : Nat → Prop} {a b : World} (h : Drew a b) : Ext M a b := ⟨h.os, h.tape, h.output, by rw [h.heap]; exact Nat.le_refl _, fun i _ _ => by rw [h.heap]⟩

theorem Blk.lt {b : Nat} {t : TypeId} {cs : List Value} (h : Blk w b t cs) : b < w.heap.size := by
  rcases Nat.lt_or_ge b w.heap.size with hlt | hge
  · exact hlt
  · unfold Blk at h; rw [Array.getElem?_eq_none hge] at h; cases h
theorem Blk.ext {b : Nat} {t : TypeId} {cs : List Value} {M : Nat → Prop} (h : Blk w b t cs) (hx : Ext M w w') (hm : ¬ M b) : Blk w' b t cs := (hx.block b h.lt hm).trans h
theorem Blk.cs {b : Nat} {t : TypeId} {cs : List Value} (h : Blk w b t cs) : Cs w b 0 cs := fun j v hv => by
  unfold Blk at h
  simp [World.cell?, h, hv]
theorem Cs.lt {b o : Nat} {cs : List Value} (h : Cs w b o cs) (hne : cs ≠ []) : b < w.heap.size := by
  cases cs with
  | nil => exact absurd rfl hne
  | cons v r =>
    have := h 0 v rfl
    rcases Nat.lt_or_ge b w.heap.size with hlt | hge
    · exact hlt
    · simp [World.cell?, Array.getElem?_eq_none hge] at this
theorem Cs.ext {b o : Nat} {cs : List Value} {M : Nat → Prop} (h : Cs w b o cs) (hx : Ext M w w') (hm : ¬ M b) : Cs w' b o cs := fun j v hv => by
  have h1 := h j v hv
  have hlt : b < w.heap.size := h.lt (by rintro rfl; simp at hv)
  rw [← h1]
  exact World.cell?_of_block (w := w) (hx.block b hlt hm)
theorem Cs.drop {b o : Nat} {cs : List Value} (h : Cs w b o cs) (i : Nat) : Cs w b (o + i) (cs.drop i) := fun j v hv => by
  rw [Nat.add_assoc]
  exact h (i + j) v (by simpa using hv)
theorem Cs.take {b o : Nat} {cs : List Value} (h : Cs w b o cs) (i : Nat) : Cs w b o (cs.take i) := fun j v hv => by
  refine h j v ?_
  rw [List.getElem?_take] at hv
  split at hv
  · exact hv
  · cases hv

/-! loads -/
def plainT (P : Program) (t : TypeId) : Bool :=
  match P.underlying t with
  | some (.struct _) | some (.array _ _) | none => false
  | some _ => true
def aggT (P : Program) (t : TypeId) : Option Nat :=
  match P.underlying t with
  | some (.struct _) | some (.array _ _) => (P.info? t).map (·.size)
  | _ => none

theorem run_isAgg_plain {t : TypeId} (h : plainT P t = true) : (isAgg t).run P w = .ok false w := by
  unfold plainT at h
  cases hu : P.underlying t with
  | none => simp [hu] at h
  | some d => cases d <;> simp [hu] at h <;> simp [isAgg, run_underlying hu]
theorem run_isAgg_agg {t : TypeId} {k : Nat} (h : aggT P t = some k) : (isAgg t).run P w = .ok true w ∧ (sizeOf t).run P w = .ok k w := by
  unfold aggT at h
  cases hu : P.underlying t with
  | none => simp [hu] at h
  | some d =>
    cases hi : P.info? t with
    | none => cases d <;> simp [hu, hi] at h
    | some i => cases d <;> simp [hu, hi] at h <;> simp [isAgg, run_underlying hu, sizeOf, typeInfo, hi, h]

theorem run_load_cell {a : Addr} {v : Value} (h : w.cell? a = some v) : (load a).run P w = .ok v w := by
  simp [load, Sem.run, h]

theorem ld {t : TypeId} {a : Addr} {v : Value} (ht : plainT P t = true) (h : w.cell? a = some v) : (vS (Instr.loadAt t (.pointer (some a)))).run P w = .ok (.value v) w := by
  refine vrun ?_
  simp only [Instr.loadAt, Instr.sureAddr, loadVar, Sem.run_bind, Sem.run_pure, Result.andThen_ok, run_isAgg_plain ht, Bool.false_eq_true, if_false]
  exact run_load_cell h

theorem run_loadCellsFrom {a : Addr} : ∀ (cs : List Value) (i : Nat) (acc : Array Value), (∀ j v, cs[j]? = some v → w.cell? (a.add (i + j)) = some v) →
    (loadCellsFrom a i cs.length acc).run P w = .ok (acc ++ cs.toArray) w := by
  intro cs
  induction cs with
  | nil => intro i acc _; simp [loadCellsFrom]
  | cons c cs ih =>
    intro i acc h
    have h0 : w.cell? (a.add i) = some c := h 0 c rfl
    simp only [List.length_cons, loadCellsFrom, Sem.run_bind]
    rw [run_load_cell (P := P) h0]
    simp only [Result.andThen_ok]
    rw [ih (i + 1) (acc.push c) fun j v hv => by rw [Nat.add_assoc, Nat.add_comm 1 j]; exact h (j + 1) v (by simpa using hv)]
    simp

theorem add_none (b o i : Nat) : (⟨b, o, none⟩ : Addr).add i = ⟨b, o + i, none⟩ := by
  unfold Addr.add
  by_cases h : i = 0
  · subst h; simp
  · simp [h]

theorem ldA {t : TypeId} {b o : Nat} {cs : List Value} (ht : aggT P t = some cs.length) (h : Cs w b o cs) : (vS (Instr.loadAt t (Pt b o))).run P w = .ok (.value (.agg cs.toArray)) w := by
  refine vrun ?_
  obtain ⟨h1, h2⟩ := run_isAgg_agg (w := w) ht
  simp only [Instr.loadAt, Instr.sureAddr, loadVar, Sem.run_bind, Sem.run_pure, Result.andThen_ok, h1, h2, if_true, loadCells]
  rw [run_loadCellsFrom cs 0 #[] fun j v hv => by rw [Nat.zero_add, add_none]; exact h j v hv]
  simp

/-- a field of a block -/
theorem ldB {t : TypeId} {b o : Nat} {T : TypeId} {cs : List Value} {v : Value} (ht : plainT P t = true) (h : Blk w b T cs) (hv : cs[o]? = some v) : (vS (Instr.loadAt t (Pt b o))).run P w = .ok (.value v) w :=
  ld ht (by simpa using h.cs o v hv)
/-- a part of a block -/
theorem ldBA {t : TypeId} {b o : Nat} {T : TypeId} {cs vs : List Value} (ht : aggT P t = some vs.length) (h : Blk w b T cs) (hv : (cs.drop o).take vs.length = vs) : (vS (Instr.loadAt t (Pt b o))).run P w = .ok (.value (.agg vs.toArray)) w :=
  ldA ht (by have := (h.cs.drop o).take vs.length; rw [hv] at this; simpa using this)

/-! stores -/
theorem run_store_blk {b i : Nat} {t : TypeId} {cs : List Value} {v : Value} (h : Blk w b t cs) (hi : i < cs.length) (h1 : v.oneCell' = true) :
    (store ⟨b, i, none⟩ v).run P w = .ok () (w.setCell ⟨b, i, none⟩ v) := by
  have hc : w.cell? ⟨b, i, none⟩ = some cs[i] := by
    have := h.cs i cs[i] (List.getElem?_eq_getElem hi)
    simpa using this
  have hf : w.frozen? ⟨b, i, none⟩ = false := by unfold Blk at h; simp [World.frozen?, h]
  cases v <;> simp [Value.oneCell'] at h1 <;> simp [store, Sem.run, hc, hf]

theorem setCell_spec {b i : Nat} {t : TypeId} {cs : List Value} {v : Value} (h : Blk w b t cs) :
    Blk (w.setCell ⟨b, i, none⟩ v) b t (cs.set i v) ∧ Ext (fun k => k = b) w (w.setCell ⟨b, i, none⟩ v) := by
  constructor
  · unfold Blk at h ⊢
    simp [World.setCell, Array.getElem?_modify, h]
  · refine ⟨rfl, rfl, rfl, by simp [World.setCell], fun k hk hm => ?_⟩
    simp only [World.setCell, Array.getElem?_modify]
    rw [if_neg (fun e => hm e.symm)]

def putAll (cs : List Value) (i : Nat) : List Value → List Value
  | [] => cs
  | v :: r => putAll (cs.set i v) (i + 1) r

theorem putAll_length : ∀ (vs cs : List Value) (i : Nat), (putAll cs i vs).length = cs.length := by
  intro vs
  induction vs with
  | nil => intro cs i; rfl
  | cons v r ih => intro cs i; simp [putAll, ih]

theorem run_storeCells_blk {b : Nat} {t : TypeId} {o : Nat} : ∀ (vs : List Value) (i : Nat) (cs : List Value) (w : World), Blk w b t cs → o + i + vs.length ≤ cs.length → (∀ v ∈ vs, v.oneCell' = true) →
    ∃ w', (storeCells ⟨b, o, none⟩ vs i).run P w = .ok () w' ∧ Blk w' b t (putAll cs (o + i) vs) ∧ Ext (fun k => k = b) w w' := by
  intro vs
  induction vs with
  | nil => intro i cs w h _ _; exact ⟨w, by simp [storeCells], h, .refl _ _⟩
  | cons v r ih =>
    intro i cs w h hl h1
    simp only [List.length_cons] at hl
    obtain ⟨h2, h3⟩ := setCell_spec (i := o + i) (v := v) h
    obtain ⟨w', h4, h5, h6⟩ := ih (i + 1) (cs.set (o + i) v) (w.setCell ⟨b, o + i, none⟩ v) h2 (by simp; omega) (fun u hu => h1 u (by simp [hu]))
    refine ⟨w', ?_, ?_, h3.trans h6⟩
    · simp only [storeCells, Sem.run_bind, add_none, run_store_blk (P := P) (i := o + i) h (by omega) (h1 v (by simp)), Result.andThen_ok, h4]
    · rw [← Nat.add_assoc] at h5; exact h5

theorem run_storeAt {t : TypeId} {b o : Nat} {T : TypeId} {cs : List Value} {v : Value} {k : Nat} (hs : (P.info? t).map (·.size) = some k) (hk : v.cells.size = k) (h : Blk w b T cs) (hl : o + k ≤ cs.length)
    (h1 : ∀ u ∈ v.cells.toList, u.oneCell' = true) :
    ∃ w', (uS (Instr.storeAt t (Pt b o) v)).run P w = .ok .skip w' ∧ Blk w' b T (putAll cs o v.cells.toList) ∧ Ext (fun k => k = b) w w' := by
  obtain ⟨w', h2, h3, h4⟩ := run_storeCells_blk (P := P) (o := o) v.cells.toList 0 cs w h (by simp; omega) h1
  refine ⟨w', urun ?_, h3, h4⟩
  cases hi : P.info? t with
  | none => simp [hi] at hs
  | some i =>
    simp only [hi, Option.map_some, Option.some.injEq] at hs
    simp [Instr.storeAt, Instr.sureAddr, storeVar, sizeOf, typeInfo, hi, hs, hk, h2]

/-! new blocks -/
theorem push_spec (w : World) (t : TypeId) (cs : List Value) : Blk { w with heap := w.heap.push (.cells cs.toArray t) } w.heap.size t cs ∧ Ext No w { w with heap := w.heap.push (.cells cs.toArray t) } := by
  constructor
  · simp [Blk]
  · refine ⟨rfl, rfl, rfl, by simp, fun b hb _ => ?_⟩
    show (w.heap.push _)[b]? = _
    rw [Array.getElem?_push, if_neg (by omega)]

theorem run_allocAt {t : TypeId} {z : Value} {cs : List Value} (hz : (P.info? t).bind (·.zero) = some z) (hc : z.cells.toList = cs) :
    (vS (Instr.alloc t true (.tuple #[]))).run P w = .ok (.value (Pt w.heap.size 0)) { w with heap := w.heap.push (.cells cs.toArray t) } := by
  refine vrun ?_
  cases hi : P.info? t with
  | none => simp [hi] at hz
  | some i =>
    simp only [hi, Option.bind_some] at hz
    subst hc
    simp [Instr.alloc, zeroValue, typeInfo, hi, hz, newVar, newRow, newObj, Sem.run, Sem.run_bind]

theorem run_boxAt {t : TypeId} {v : Value} {cs : List Value} (hc : v.cells.toList = cs) :
    (vS (Instr.box t v)).run P w = .ok (.value (Pt w.heap.size 0)) { w with heap := w.heap.push (.cells cs.toArray t) } := by
  refine vrun ?_
  subst hc
  simp [Instr.box, newVar, newRow, newObj, Sem.run]
end

section
variable {P : Program} {l : List Oper} {n : Nat} {K : Env → World → Prop} {E : List PanicEntry → Env → World → Prop} {r : List Oper} {e : Env} {w : World}

/-- a new variable -/
theorem xo.alloc (k : Nat) (t : TypeId) (cs : List Value) (h : xat P l n k r e w = some (w, (vS (Instr.alloc t true (.tuple #[]))).run P w, xdst k r))
    (hz : ((P.info? t).bind (·.zero)).map (·.cells.toList) = some cs)
    (hk : ∀ b w', Blk w' b t cs → Ext No w w' → w.heap.size ≤ b → xo P l n (r.drop (k + 1)) (eput n (xenv P l n k r e w) (xdst k r) (Pt b 0)) w' K E) : xo P l n r e w K E := by
  cases hz' : (P.info? t).bind (·.zero) with
  | none => simp [hz'] at hz
  | some z =>
    simp only [hz', Option.map_some, Option.some.injEq] at hz
    obtain ⟨h1, h2⟩ := push_spec w t cs
    exact xo.val k h (run_allocAt hz' hz) (hk _ _ h1 h2 (Nat.le_refl _))

theorem xo.box (k : Nat) (t : TypeId) (v : Value) (cs : List Value) (h : xat P l n k r e w = some (w, (vS (Instr.box t v)).run P w, xdst k r)) (hz : v.cells.toList = cs)
    (hk : ∀ b w', Blk w' b t cs → Ext No w w' → w.heap.size ≤ b → xo P l n (r.drop (k + 1)) (eput n (xenv P l n k r e w) (xdst k r) (Pt b 0)) w' K E) : xo P l n r e w K E := by
  obtain ⟨h1, h2⟩ := push_spec w t cs
  exact xo.val k h (run_boxAt hz) (hk _ _ h1 h2 (Nat.le_refl _))

/-- a store into a block -/
theorem xo.store (k : Nat) (t : TypeId) {b o : Nat} {T : TypeId} {cs : List Value} (v : Value) (cs' : List Value) (h : xat P l n k r e w = some (w, (uS (Instr.storeAt t (Pt b o) v)).run P w, xdst k r))
    (hb : Blk w b T cs) (hs : (P.info? t).map (·.size) = some v.cells.size) (hl : Nat.ble (o + v.cells.size) cs.length = true) (h1 : v.cells.toList.all Value.oneCell' = true) (hcs : putAll cs o v.cells.toList = cs')
    (hk : ∀ w', Blk w' b T cs' → Ext (fun k => k = b) w w' → xo P l n (r.drop (k + 1)) (eput n (xenv P l n k r e w) (xdst k r) undef) w' K E) : xo P l n r e w K E := by
  obtain ⟨w', h2, h3, h4⟩ := run_storeAt (P := P) (t := t) (o := o) (v := v) hs rfl hb (Nat.le_of_ble_eq_true hl) (fun u hu => List.all_eq_true.1 h1 u hu)
  subst hcs
  exact xo.skp k h h2 (hk _ h3 h4)
end
end Go.V
/- Laws for comparisons and sums: each tells what the operation gives where the outcome is known. -/
namespace Go.V
section
variable {P : Program} {w : World}

theorem pv {v u : Value} (h : v = u) : (Sem.pure (.value v) : Sem Next).run P w = .ok (.value u) w := by subst h; rfl

theorem c_eql_t {a b : Int} (h : a = b) : (Sem.pure (.value (B (a == b))) : Sem Next).run P w = .ok (.value (B true)) w := pv (by simp [h])
theorem c_eql_f {a b : Int} (h : ¬ a = b) : (Sem.pure (.value (B (a == b))) : Sem Next).run P w = .ok (.value (B false)) w := pv (by simp [h])
theorem c_neq_t {a b : Int} (h : a = b) : (Sem.pure (.value (B (a != b))) : Sem Next).run P w = .ok (.value (B false)) w := pv (by simp [h])
theorem c_neq_f {a b : Int} (h : ¬ a = b) : (Sem.pure (.value (B (a != b))) : Sem Next).run P w = .ok (.value (B true)) w := pv (by simp [h])
theorem c_lss_t {a b : Int} (h : a < b) : (Sem.pure (.value (B (decide (a < b)))) : Sem Next).run P w = .ok (.value (B true)) w := pv (by simp [h])
theorem c_lss_f {a b : Int} (h : ¬ a < b) : (Sem.pure (.value (B (decide (a < b)))) : Sem Next).run P w = .ok (.value (B false)) w := pv (by simp [h])
theorem c_leq_t {a b : Int} (h : a ≤ b) : (Sem.pure (.value (B (decide (a ≤ b)))) : Sem Next).run P w = .ok (.value (B true)) w := pv (by simp [h])
theorem c_leq_f {a b : Int} (h : ¬ a ≤ b) : (Sem.pure (.value (B (decide (a ≤ b)))) : Sem Next).run P w = .ok (.value (B false)) w := pv (by simp [h])
theorem c_geq_t {a b : Int} (h : a < b) : (Sem.pure (.value (B (decide (a ≥ b)))) : Sem Next).run P w = .ok (.value (B false)) w := pv (by simp; omega)
theorem c_geq_f {a b : Int} (h : ¬ a < b) : (Sem.pure (.value (B (decide (a ≥ b)))) : Sem Next).run P w = .ok (.value (B true)) w := pv (by simp; omega)
theorem c_gtr_t {a b : Int} (h : a ≤ b) : (Sem.pure (.value (B (decide (a > b)))) : Sem Next).run P w = .ok (.value (B false)) w := pv (by simp; omega)
theorem c_gtr_f {a b : Int} (h : ¬ a ≤ b) : (Sem.pure (.value (B (decide (a > b)))) : Sem Next).run P w = .ok (.value (B true)) w := pv (by simp; omega)

theorem wrap_ok {a : Int} (h1 : -9223372036854775808 ≤ a) (h2 : a ≤ 9223372036854775807) : IntKind.i64.wrap a = a := by
  rw [IntKind.wrap_i64]; omega

theorem a_add {a b : Int} (h1 : -9223372036854775808 ≤ a + b) (h2 : a + b ≤ 9223372036854775807) : (Sem.pure (.value (I (IntKind.i64.wrap (a + b)))) : Sem Next).run P w = .ok (.value (I (a + b))) w := pv (by rw [wrap_ok h1 h2])
theorem a_sub {a b : Int} (h1 : -9223372036854775808 ≤ a - b) (h2 : a - b ≤ 9223372036854775807) : (Sem.pure (.value (I (IntKind.i64.wrap (a - b)))) : Sem Next).run P w = .ok (.value (I (a - b))) w := pv (by rw [wrap_ok h1 h2])
theorem a_mul {a b : Int} (h1 : -9223372036854775808 ≤ a * b) (h2 : a * b ≤ 9223372036854775807) : (Sem.pure (.value (I (IntKind.i64.wrap (a * b)))) : Sem Next).run P w = .ok (.value (I (a * b))) w := pv (by rw [wrap_ok h1 h2])

/-! strings -/
theorem ba_ext {x y : ByteArray} (h : x.toList = y.toList) : x = y := by
  rw [ByteArray.toList_eq, ByteArray.toList_eq] at h
  have h1 : x.data = y.data := Array.toList_inj.1 h
  cases x; cases y
  simp only at h1
  rw [h1]

def Lt (x y : ByteArray) : Prop := Op.bytesLess x.toList y.toList = true
instance (x y : ByteArray) : Decidable (Lt x y) := inferInstanceAs (Decidable (_ = true))

theorem bytesLess_irrefl : ∀ l, Op.bytesLess l l = false := by
  intro l
  induction l with
  | nil => rfl
  | cons a l ih => simp [Op.bytesLess, ih]
theorem bytesLess_total : ∀ l m, (Op.bytesLess l m || l == m) = !Op.bytesLess m l := by
  intro l
  induction l with
  | nil => intro m; cases m <;> simp [Op.bytesLess]
  | cons a l ih =>
    intro m
    cases m with
    | nil => simp [Op.bytesLess]
    | cons b m =>
      have h := ih m
      simp only [Op.bytesLess]
      rcases Nat.lt_trichotomy a.toNat b.toNat with hlt | heq | hgt
      · have h1 : a < b := UInt8.lt_iff_toNat_lt.2 hlt
        have h2 : ¬ b < a := fun h => by have := UInt8.lt_iff_toNat_lt.1 h; omega
        have h3 : (b == a) = false := by simp; rintro rfl; omega
        simp [h1, h2, h3]
      · have h1 : a = b := UInt8.toNat_inj.1 heq
        subst h1
        have h2 : ¬ a < a := fun h => by have := UInt8.lt_iff_toNat_lt.1 h; omega
        simp [h2, ← h]
      · have h1 : b < a := UInt8.lt_iff_toNat_lt.2 hgt
        have h2 : ¬ a < b := fun h => by have := UInt8.lt_iff_toNat_lt.1 h; omega
        have h3 : (a == b) = false := by simp; rintro rfl; omega
        simp [h1, h2, h3]

theorem s_eql_t {x y : ByteArray} (h : x = y) : (Sem.pure (.value (B (x.toList == y.toList))) : Sem Next).run P w = .ok (.value (B true)) w := pv (by simp [h])
theorem s_eql_f {x y : ByteArray} (h : ¬ x = y) : (Sem.pure (.value (B (x.toList == y.toList))) : Sem Next).run P w = .ok (.value (B false)) w := pv (by simp; exact fun e => h (ba_ext (by simpa using e)))
theorem s_neq_t {x y : ByteArray} (h : x = y) : (Sem.pure (.value (B (!(x.toList == y.toList)))) : Sem Next).run P w = .ok (.value (B false)) w := pv (by simp [h])
theorem s_neq_f {x y : ByteArray} (h : ¬ x = y) : (Sem.pure (.value (B (!(x.toList == y.toList)))) : Sem Next).run P w = .ok (.value (B true)) w := pv (by simp; exact fun e => h (ba_ext (by simpa using e)))
theorem s_lss_t {x y : ByteArray} (h : Lt x y) : (Sem.pure (.value (B (Op.bytesLess x.toList y.toList))) : Sem Next).run P w = .ok (.value (B true)) w := pv (by unfold Lt at h; rw [h])
theorem s_lss_f {x y : ByteArray} (h : ¬ Lt x y) : (Sem.pure (.value (B (Op.bytesLess x.toList y.toList))) : Sem Next).run P w = .ok (.value (B false)) w := pv (by unfold Lt at h; simpa using h)
theorem s_geq_t {x y : ByteArray} (h : Lt x y) : (Sem.pure (.value (B (!Op.bytesLess x.toList y.toList))) : Sem Next).run P w = .ok (.value (B false)) w := pv (by unfold Lt at h; rw [h]; rfl)
theorem s_geq_f {x y : ByteArray} (h : ¬ Lt x y) : (Sem.pure (.value (B (!Op.bytesLess x.toList y.toList))) : Sem Next).run P w = .ok (.value (B true)) w := pv (by unfold Lt at h; simpa using h)
theorem s_leq_t {x y : ByteArray} (h : Lt y x) : (Sem.pure (.value (B (Op.bytesLess x.toList y.toList || x.toList == y.toList))) : Sem Next).run P w = .ok (.value (B false)) w := pv (by unfold Lt at h; rw [bytesLess_total, h]; rfl)
theorem s_leq_f {x y : ByteArray} (h : ¬ Lt y x) : (Sem.pure (.value (B (Op.bytesLess x.toList y.toList || x.toList == y.toList))) : Sem Next).run P w = .ok (.value (B true)) w := pv (by unfold Lt at h; rw [bytesLess_total]; simpa using h)
theorem s_gtr_t {x y : ByteArray} (h : Lt y x) : (Sem.pure (.value (B (!(Op.bytesLess x.toList y.toList || x.toList == y.toList)))) : Sem Next).run P w = .ok (.value (B true)) w := pv (by unfold Lt at h; rw [bytesLess_total, h]; rfl)
theorem s_gtr_f {x y : ByteArray} (h : ¬ Lt y x) : (Sem.pure (.value (B (!(Op.bytesLess x.toList y.toList || x.toList == y.toList)))) : Sem Next).run P w = .ok (.value (B false)) w := pv (by unfold Lt at h; rw [bytesLess_total]; simpa using h)

end
end Go.V
/- Slices: one that reads as a list (Rd), one that the call itself owns (Own); the operations on them. -/
namespace Go.V

theorem hao (w : World) (o : Obj) {r : Nat} (h : r < w.heap.size) : (w.alloc o).heap[r]? = w.heap[r]? := heap_alloc_old w o h
theorem ba_toList (s : ByteArray) : s.toList = s.data.toList := ByteArray.toList_eq s

/-- How elements of a type lie in cells. -/
structure Kd (α : Type) where
  ty : TypeId
  sz : Nat
  bytes : Nat
  enc : α → List Value
  len : ∀ x, (enc x).length = sz
  pos : 0 < sz
  cell : ∀ x, ∀ v ∈ enc x, v.oneCell' = true

def Kd.all {α : Type} (k : Kd α) (xs : List α) : List Value := xs.flatMap k.enc

section
variable {α : Type} {k : Kd α} {P : Program} {w w' : World}

theorem Kd.all_length (k : Kd α) (xs : List α) : (k.all xs).length = xs.length * k.sz := by
  induction xs with
  | nil => simp [Kd.all]
  | cons x r ih => simp only [Kd.all, List.flatMap_cons, List.length_append, k.len, List.length_cons] at *; rw [ih, Nat.add_mul]; omega
theorem Kd.all_append (k : Kd α) (xs ys : List α) : k.all (xs ++ ys) = k.all xs ++ k.all ys := by simp [Kd.all]
theorem Kd.all_one (k : Kd α) (x : α) : k.all [x] = k.enc x := by simp [Kd.all]
theorem Kd.all_drop (k : Kd α) : ∀ (xs : List α) (i : Nat), (k.all xs).drop (i * k.sz) = k.all (xs.drop i) := by
  intro xs
  induction xs with
  | nil => intro i; simp [Kd.all]
  | cons x r ih =>
    intro i
    cases i with
    | zero => simp
    | succ i =>
      simp only [List.drop_succ_cons, ← ih i]
      simp only [Kd.all, List.flatMap_cons]
      rw [Nat.add_mul, Nat.one_mul, Nat.add_comm, ← List.drop_drop]
      congr 1
      rw [List.drop_append_of_le_length (by rw [k.len]; exact Nat.le_refl _), ← k.len x, List.drop_length, List.nil_append]
theorem Kd.all_take (k : Kd α) : ∀ (xs : List α) (i : Nat), (k.all xs).take (i * k.sz) = k.all (xs.take i) := by
  intro xs
  induction xs with
  | nil => intro i; simp [Kd.all]
  | cons x r ih =>
    intro i
    cases i with
    | zero => simp [Kd.all]
    | succ i =>
      simp only [List.take_succ_cons]
      simp only [Kd.all, List.flatMap_cons] at *
      rw [Nat.add_mul, Nat.one_mul, Nat.add_comm, List.take_append, k.len, show k.sz + i * k.sz - k.sz = i * k.sz from by omega, ih,
        List.take_of_length_le (by rw [k.len]; omega)]
theorem Kd.cells (k : Kd α) (xs : List α) : ∀ v ∈ k.all xs, v.oneCell' = true := by
  intro v hv
  obtain ⟨x, _, hx⟩ := List.mem_flatMap.1 hv
  exact k.cell x v hx

/-- The address A reads as xs; its block is one of lo .. hi. -/
def Rd (k : Kd α) (w : World) (lo hi : Nat) (A : Option Addr) (xs : List α) : Prop :=
  xs = [] ∨ ∃ b o, A = some ⟨b, o, none⟩ ∧ lo ≤ b ∧ b < hi ∧ Cs w b o (k.all xs)

theorem Rd.nil {lo hi : Nat} {A : Option Addr} : Rd k w lo hi A [] := .inl rfl
theorem Rd.ext {lo hi : Nat} {A : Option Addr} {xs : List α} {M : Nat → Prop} (h : Rd k w lo hi A xs) (hx : Ext M w w') (hm : ∀ b, lo ≤ b → b < hi → ¬ M b) : Rd k w' lo hi A xs := by
  rcases h with h | ⟨b, o, h1, h2, h3, h4⟩
  · exact .inl h
  · exact .inr ⟨b, o, h1, h2, h3, h4.ext hx (hm b h2 h3)⟩
theorem Rd.wide {lo hi lo' hi' : Nat} {A : Option Addr} {xs : List α} (h : Rd k w lo hi A xs) (h1 : lo' ≤ lo) (h2 : hi ≤ hi') : Rd k w lo' hi' A xs := by
  rcases h with h | ⟨b, o, ha, hl, hh, hc⟩
  · exact .inl h
  · exact .inr ⟨b, o, ha, by omega, by omega, hc⟩
theorem Rd.at_ {lo hi : Nat} {A : Option Addr} {xs : List α} (h : Rd k w lo hi A xs) (i : Nat) (hi' : i < xs.length) :
    ∃ b o x, xs[i]? = some x ∧ A = some ⟨b, o, none⟩ ∧ lo ≤ b ∧ b < hi ∧ Cs w b (o + i * k.sz) (k.enc x) := by
  rcases h with rfl | ⟨b, o, h1, h2, h3, h4⟩
  · simp at hi'
  · refine ⟨b, o, xs[i], List.getElem?_eq_getElem hi', h1, h2, h3, ?_⟩
    have h5 := h4.drop (i * k.sz)
    rw [k.all_drop] at h5
    have h6 : xs.drop i = xs[i] :: xs.drop (i + 1) := by rw [List.drop_eq_getElem_cons hi']
    rw [h6] at h5
    have h7 := h5.take k.sz
    have h8 : (k.all (xs[i] :: xs.drop (i + 1))).take k.sz = k.enc xs[i] := by
      simp only [Kd.all, List.flatMap_cons]
      rw [List.take_append_of_le_length (by rw [k.len]; exact Nat.le_refl _), List.take_of_length_le (by rw [k.len]; exact Nat.le_refl _)]
    rw [h8] at h7
    exact h7

theorem Cs.mono_w {b o : Nat} {cs cs' : List Value} (h : Cs w b o (cs ++ cs')) : Cs w b o cs := fun j v hv => h j v (by
  rw [List.getElem?_append_left (List.getElem?_eq_some_iff.1 hv).1]; exact hv)

/-- A slice of the call's own: exclusively so. -/
def Own (k : Kd α) (w : World) (base : Nat) (A : Option Addr) (cap : Nat) (xs : List α) : Prop :=
  (A = none ∧ cap = 0 ∧ xs = []) ∨
  ∃ g rest, A = some ⟨g, 0, none⟩ ∧ base ≤ g ∧ Blk w g k.ty (k.all xs ++ rest) ∧ (k.all xs ++ rest).length = cap * k.sz ∧ xs.length ≤ cap

/-- Its block. -/
def OwnB (A : Option Addr) : Nat → Prop := fun b => ∃ o, A = some ⟨b, o, none⟩

theorem Own.nil {base : Nat} : Own k w base none 0 [] := .inl ⟨rfl, rfl, rfl⟩
theorem Own.lt {base cap : Nat} {A : Option Addr} {xs : List α} (h : Own k w base A cap xs) {b : Nat} (hb : OwnB A b) : base ≤ b ∧ b < w.heap.size := by
  obtain ⟨o, rfl⟩ := hb
  rcases h with ⟨h, _⟩ | ⟨g, rest, h1, h2, h3, _⟩
  · cases h
  · injection h1 with h1; injection h1 with h1; subst h1; exact ⟨h2, h3.lt⟩
theorem Own.base_le {base base' cap : Nat} {A : Option Addr} {xs : List α} (h : Own k w base A cap xs) (hb : base' ≤ base) : Own k w base' A cap xs := by
  rcases h with h | ⟨g, rest, h1, h2, h3⟩
  · exact .inl h
  · exact .inr ⟨g, rest, h1, by omega, h3⟩
theorem Own.ext {base cap : Nat} {A : Option Addr} {xs : List α} {M : Nat → Prop} (h : Own k w base A cap xs) (hx : Ext M w w') (hm : ∀ b, OwnB A b → ¬ M b) : Own k w' base A cap xs := by
  rcases h with h | ⟨g, rest, h1, h2, h3, h4⟩
  · exact .inl h
  · exact .inr ⟨g, rest, h1, h2, h3.ext hx (hm g ⟨0, h1⟩), h4⟩
/-- A block of another type is none of it. -/
theorem Own.ne {base cap : Nat} {A : Option Addr} {xs : List α} (h : Own k w base A cap xs) {b : Nat} {t : TypeId} {cs : List Value} (hb : Blk w b t cs) (ht : Nat.beq t k.ty = false) : ¬ OwnB A b := by
  rintro ⟨o, rfl⟩
  rcases h with ⟨h, _⟩ | ⟨g, rest, h1, _, h3, _⟩
  · cases h
  · injection h1 with h1; injection h1 with h1; subst h1
    unfold Blk at hb h3
    rw [hb] at h3
    injection h3 with h3
    injection h3 with _ h3
    subst h3
    simp at ht
theorem Own.rd {base cap : Nat} {A : Option Addr} {xs : List α} (h : Own k w base A cap xs) : Rd k w base w.heap.size A xs := by
  rcases h with ⟨_, _, h⟩ | ⟨g, rest, h1, h2, h3, _⟩
  · exact .inl h
  · exact .inr ⟨g, 0, h1, h2, h3.lt, h3.cs.mono_w⟩
theorem Own.cap_le {base cap : Nat} {A : Option Addr} {xs : List α} (h : Own k w base A cap xs) : xs.length ≤ cap := by
  rcases h with ⟨_, rfl, rfl⟩ | ⟨_, _, _, _, _, _, h⟩
  · simp
  · exact h

/-- What a program knows of an element type and its slice type. -/
structure KdP (P : Program) (k : Kd α) (t : TypeId) : Prop where
  sl : P.underlying t = some (.slice k.ty)
  info : ∃ i z, P.info? k.ty = some i ∧ i.zero = some z ∧ i.size = k.sz ∧ i.bytes = k.bytes ∧ z.cells.size = k.sz

theorem putAll_append : ∀ (news pre rest : List Value), news.length ≤ rest.length → putAll (pre ++ rest) pre.length news = pre ++ news ++ rest.drop news.length := by
  intro news
  induction news with
  | nil => intro pre rest _; simp [putAll]
  | cons v r ih =>
    intro pre rest h
    cases rest with
    | nil => simp at h
    | cons c rest =>
      simp only [List.length_cons, Nat.add_le_add_iff_right] at h
      have h1 : (pre ++ c :: rest).set pre.length v = (pre ++ [v]) ++ rest := by simp
      have h2 := ih (pre ++ [v]) rest h
      simp only [putAll, h1]
      rw [show pre.length + 1 = (pre ++ [v]).length from by simp, h2]
      simp

/-- Where it lies behind an append: where it lay, or anew. -/
def Grow (w : World) (A A' : Option Addr) : Prop := ∀ b, OwnB A' b → OwnB A b ∨ w.heap.size ≤ b
theorem run_append {t tx ty : TypeId} (hk : KdP P k t) {base cap : Nat} {A : Option Addr} {xs ys : List α} (h : Own k w base A cap xs) (hbase : base ≤ w.heap.size) {x : Value}
    (hs : Src P k.sz tx x ys.length (k.all ys) w) (hbytes : (xs.length + ys.length) * k.bytes ≤ 140737488355328) (hn : xs.length + ys.length ≤ 9223372036854775807) :
    ∃ A' cap' w', (Builtin.append_ #[t, tx] ty #[.slice A xs.length cap, x]).run P w = .ok (.slice A' (xs ++ ys).length cap') w' ∧ Own k w' base A' cap' (xs ++ ys) ∧ Ext (OwnB A) w w' ∧ Grow w A A' := by
  obtain ⟨hsl, i, z, hi, hz, hsz, hby, hzs⟩ := hk
  have hlen : (xs ++ ys).length = xs.length + ys.length := by simp
  have h48 : xs.length + ys.length > cap → Builtin.nextslicecap (xs.length + ys.length) cap * i.bytes ≤ 281474976710656 := fun hc => by
    rw [hby]; exact growslice_fits hc hbytes
  have grow : ∀ (hg : cap < xs.length + ys.length) (hold : (Builtin.firstCells i.size xs.length (.slice A xs.length cap)).run P w.drew = .ok (k.all xs).toArray w.drew),
      ∃ A' cap' w', (Builtin.append_ #[t, tx] ty #[.slice A xs.length cap, x]).run P w = .ok (.slice A' (xs ++ ys).length cap') w' ∧ Own k w' base A' cap' (xs ++ ys) ∧ Ext (OwnB A) w w' ∧ Grow w A A' := by
    intro hg hold
    have hr := run_append_grow_src (P := P) w t tx ty k.ty i z hsl hi hz A xs.length cap (k.all xs) hold x ys.length (k.all ys) (by rw [hsz]; exact hs) hg (by omega) (h48 hg)
    have hge := grownCap_ge w (xs.length + ys.length) cap k.ty
    rw [← hlen] at hr
    refine ⟨_, _, _, hr, .inr ⟨w.heap.size, (Builtin.zeroCells z.cells (grownCap w (xs ++ ys).length cap k.ty - (xs ++ ys).length)).toList, rfl, hbase, ?_, ?_, by rw [hlen]; exact hge⟩, ⟨rfl, rfl, rfl, by simp, fun b hb _ => ?_⟩, fun b hb => .inr ?_⟩
    · unfold Blk
      rw [show (w.drew.alloc _).heap[w.heap.size]? = some _ from heap_alloc_new w.drew _]
      rw [k.all_append]
      congr 2
      simp
    · have hz2 : ∀ n, (Builtin.zeroCells z.cells n).toList.length = n * k.sz := fun n => by rw [Array.length_toList, size_zeroCells, hzs]
      rw [List.length_append, k.all_length, hz2, ← Nat.add_mul, hlen]
      congr 1
      omega
    · exact hao w.drew _ hb
    · obtain ⟨o, ho⟩ := hb
      injection ho with ho
      injection ho with ho
      omega
  rcases h with ⟨rfl, rfl, rfl⟩ | ⟨g, rest, rfl, hbg, hblk, hcl, hle⟩
  · by_cases h0 : ys.length = 0
    · have : ys = [] := List.eq_nil_of_length_eq_zero h0
      subst this
      refine ⟨none, 0, w, ?_, .nil, .refl _ _, fun b hb => .inl hb⟩
      have hs' := hs.cells
      simp only [List.length_nil] at hs'
      rcases hs.kind with ⟨e', hk⟩ | hk <;> simp [Builtin.append_, run_underlying hsl, run_underlying hk, sizeOf, typeInfo, hi, hs.len, hsz, hs']
    · exact grow (by simp only [List.length_nil]; omega) (by simp [Builtin.firstCells, Kd.all])
  · by_cases hroom : xs.length + ys.length ≤ cap
    · have hrl : rest.length = (cap - xs.length) * k.sz := by
        rw [List.length_append, k.all_length] at hcl
        rw [Nat.sub_mul]; omega
      have hfit : (k.all ys).length ≤ rest.length := by
        rw [k.all_length, hrl]
        exact Nat.mul_le_mul_right _ (by omega)
      obtain ⟨w', h2, h3, h4⟩ := run_storeCells_blk (P := P) (o := xs.length * k.sz) (k.all ys) 0 _ w hblk (by
        simp only [List.length_append, k.all_length] at *; omega) (k.cells ys)
      rw [Nat.add_zero, ← k.all_length xs, putAll_append _ _ _ hfit, ← k.all_append] at h3
      refine ⟨_, _, w', ?_, .inr ⟨g, _, rfl, hbg, h3, ?_, by rw [hlen]; exact hroom⟩, ⟨h4.os, h4.tape, h4.output, h4.size, fun b hb hm => h4.block b hb fun e => hm ⟨0, by rw [e]⟩⟩, fun b hb => .inl hb⟩
      · rw [hlen]
        have hadd : (⟨g, 0, none⟩ : Addr).add (xs.length * k.sz) = ⟨g, xs.length * k.sz, none⟩ := by rw [add_none, Nat.zero_add]
        have hs' := hs.cells
        rcases hs.kind with ⟨e', hk⟩ | hk <;> simp [Builtin.append_, run_underlying hsl, run_underlying hk, sizeOf, typeInfo, hi, hs.len, hsz, hs', hroom, hadd, h2]
      · rw [List.length_append, List.length_drop, k.all_append, List.length_append, k.all_length, k.all_length, hrl, Nat.sub_mul]
        have h5 : (xs.length + ys.length) * k.sz ≤ cap * k.sz := Nat.mul_le_mul_right _ hroom
        rw [Nat.add_mul] at h5
        omega
    · refine grow (by omega) ?_
      have h5 : Cs w.drew g 0 (k.all xs) := (show Cs w g 0 (k.all xs) from hblk.cs.mono_w)
      simp only [Builtin.firstCells, loadCells, hsz]
      have h6 := run_loadCellsFrom (P := P) (w := w.drew) (a := ⟨g, 0, none⟩) (k.all xs) 0 #[] fun j v hv => by rw [Nat.zero_add, add_none]; exact h5 j v hv
      rw [k.all_length] at h6
      rw [h6]
      simp
end
end Go.V
/- Rules over slices, strings and bytes, as the printer of walks uses them. -/
namespace Go.V

def slT (P : Program) (t : TypeId) : Option Nat :=
  match P.underlying t with
  | some (.slice e) => (P.info? e).map (·.size)
  | _ => none

section
variable {P : Program} {w : World}

theorem slT_spec {t : TypeId} {sz : Nat} (h : slT P t = some sz) : ∃ e i, P.underlying t = some (.slice e) ∧ P.info? e = some i ∧ i.size = sz := by
  unfold slT at h
  split at h
  · rename_i e he
    cases hi : P.info? e with
    | none => simp [hi] at h
    | some i => simp only [hi, Option.map_some, Option.some.injEq] at h; exact ⟨e, i, he, hi, h⟩
  · cases h

theorem idxZ {t : TypeId} {A : Option Addr} {n cap b o sz : Nat} {i : Int} {kk : IntKind} (hT : slT P t = some sz) (hA : A = some ⟨b, o, none⟩) (h0 : 0 ≤ i) (h1 : i < n) :
    (vS (Instr.indexAt t (.slice A n cap) (.int kk i))).run P w = .ok (.value (Pt b (o + i.toNat * sz))) w := by
  refine vrun ?_
  obtain ⟨e, inf, h2, h3, h4⟩ := slT_spec hT
  subst hA
  simp only [Instr.indexAt, asIntOf, Sem.run_bind, Sem.run_pure, Result.andThen_ok, run_underlying h2]
  have h5 : (0 ≤ i ∧ i < (n : Int)) := ⟨h0, h1⟩
  simp [h5, sizeOf, typeInfo, h3, h4, add_none]

theorem idxN {t : TypeId} {A : Option Addr} {n cap b o sz i : Nat} {kk : IntKind} (hT : slT P t = some sz) (hA : A = some ⟨b, o, none⟩) (h1 : i < n) :
    (vS (Instr.indexAt t (.slice A n cap) (.int kk (i : Int)))).run P w = .ok (.value (Pt b (o + i * sz))) w := by
  have := idxZ (P := P) (w := w) (t := t) (A := A) (n := n) (cap := cap) (b := b) (o := o) (sz := sz) (i := (i : Int)) (kk := kk) hT hA (by omega) (by omega)
  simpa using this

/-! literals of slices -/
def bsl (P : Program) (t : TypeId) (n : Nat) (parts : Array (Nat × Value)) : Option (TypeId × List Value) :=
  match P.underlying t with
  | some (.slice e) =>
    match P.info? e with
    | some i =>
      bif Nat.ble (n * i.size) 16777216 then
        match (if n * i.size = 0 then some #[] else i.zero.map (·.cells)) with
        | some z => (Instr.fill (fun j => some (j * i.size, i.size)) ((Array.range (n * i.size)).map (z[· % z.size]!)) parts.toList).map fun cs => (e, cs.toList)
        | none => none
      else none
    | none => none
  | _ => none

theorem run_buildSlice {t e : TypeId} {n : Nat} {parts : Array (Nat × Value)} {cs : List Value} (h : bsl P t n parts = some (e, cs)) :
    (vS (Instr.buildSlice t n parts)).run P w = .ok (.value (.slice (some ⟨w.heap.size, 0, none⟩) n n)) { w with heap := w.heap.push (.cells cs.toArray e) } := by
  refine vrun ?_
  unfold bsl at h
  split at h
  · rename_i e' he
    split at h
    · rename_i i hi
      cases hb : Nat.ble (n * i.size) 16777216 with
      | false => simp [hb] at h
      | true =>
        have hle : ¬ n * i.size > 16777216 := by have := Nat.le_of_ble_eq_true hb; omega
        simp only [hb, cond_true] at h
        split at h
        · rename_i z hz
          cases hf : Instr.fill (fun j => some (j * i.size, i.size)) ((Array.range (n * i.size)).map (z[· % z.size]!)) parts.toList with
          | none => simp [hf] at h
          | some cs' =>
            simp only [hf, Option.map_some, Option.some.injEq, Prod.mk.injEq] at h
            obtain ⟨rfl, rfl⟩ := h
            by_cases h0 : n * i.size = 0
            · simp only [h0, if_true, Option.some.injEq] at hz
              subst hz
              have hm : ∀ f : Nat → Value, (Array.range 0).map f = #[] := fun f => by simp
              rw [h0, hm] at hf
              simp [Instr.buildSlice, run_underlying he, sizeOf, typeInfo, hi, h0]
              rw [hm, hf]
              simp [newRow, newObj, Sem.run]
            · simp only [h0, if_false] at hz
              cases hz0 : i.zero with
              | none => simp [hz0] at hz
              | some zv =>
                simp only [hz0, Option.map_some, Option.some.injEq] at hz
                subst hz
                simp [Instr.buildSlice, run_underlying he, sizeOf, typeInfo, hi, h0, hle, zeroValue, hz0, hf, newRow, newObj, Sem.run]
        · cases h
    · cases h
  · cases h

/-! bytes and strings -/
def kU8 (e : TypeId) : Kd UInt8 := { ty := e, sz := 1, bytes := 1, enc := fun b => [.int .u8 b.toNat], len := fun _ => rfl, pos := by decide, cell := fun _ v hv => by simp at hv; subst hv; rfl }

theorem kU8_all (e : TypeId) (l : List UInt8) : (kU8 e).all l = l.map fun b => .int .u8 b.toNat := by
  induction l with
  | nil => rfl
  | cons b l ih => simp only [Kd.all, List.flatMap_cons, List.map_cons] at *; rw [ih]; rfl

def strT (P : Program) (t : TypeId) : Bool := match P.underlying t with | some .string => true | _ => false
def bytesT (P : Program) (t : TypeId) : Option TypeId :=
  match P.underlying t with
  | some (.slice e) => match P.underlying e with | some (.int .u8) => some e | _ => none
  | _ => none
theorem strT_spec {t : TypeId} (h : strT P t = true) : P.underlying t = some .string := by
  unfold strT at h; split at h
  · assumption
  · cases h
theorem bytesT_spec {t e : TypeId} (h : bytesT P t = some e) : P.underlying t = some (.slice e) ∧ P.underlying e = some (.int .u8) := by
  unfold bytesT at h; split at h
  · rename_i e' he
    split at h
    · rename_i h2; injection h with h; subst h; exact ⟨he, h2⟩
    · cases h
  · cases h

/-- string(b) -/
theorem conv_bs {src dst e : TypeId} {lo hi cap : Nat} {A : Option Addr} {l : List UInt8} (hs : bytesT P src = some e) (hd : strT P dst = true) (h : Rd (kU8 e) w lo hi A l) :
    (vS (convert src dst (.slice A l.length cap))).run P w = .ok (.value (S ⟨l.toArray⟩)) w := by
  refine vrun ?_
  obtain ⟨h1, h2⟩ := bytesT_spec hs
  have h3 := strT_spec hd
  rcases h with rfl | ⟨b, o, rfl, _, _, hc⟩
  · cases A with
    | none => rw [run_convert_bytes_nil (P := P) w src e h1 h2 _ _ dst h3]; rfl
    | some a => exact run_convert_bytes_back w src dst e a cap [] h1 h2 h3 (by simp)
  · refine run_convert_bytes_back w src dst e ⟨b, o, none⟩ cap l h1 h2 h3 fun j hj => ?_
    rw [add_none]
    refine hc j _ ?_
    rw [kU8_all]
    simp [hj]

/-- []byte(s): what it makes reads as the string's bytes -/
theorem conv_sb {src dst e : TypeId} {s : ByteArray} (hs : strT P src = true) (hd : bytesT P dst = some e) :
    ∃ cap w', (vS (convert src dst (S s))).run P w = .ok (.value (.slice (some ⟨w.heap.size, 0, none⟩) s.data.toList.length cap)) w' ∧ Rd (kU8 e) w' w.heap.size w'.heap.size (some ⟨w.heap.size, 0, none⟩) s.data.toList ∧ Ext No w w' := by
  obtain ⟨h1, h2⟩ := bytesT_spec hd
  have h3 := strT_spec hs
  have hr := run_bytes_of_string (P := P) w src dst e s h3 h1 h2
  have hl : s.data.toList.length = s.size := Array.length_toList
  let W : World := w.drew.alloc (.cells (bytesRow s (grownCap w s.size 0 e)) e ((bytesRow s (grownCap w s.size 0 e)).size, (bytesRow s (grownCap w s.size 0 e)).size + 1))
  have hn : W.heap[w.heap.size]? = some (.cells (bytesRow s (grownCap w s.size 0 e)) e ((bytesRow s (grownCap w s.size 0 e)).size, (bytesRow s (grownCap w s.size 0 e)).size + 1)) := heap_alloc_new w.drew _
  refine ⟨_, W, vrun (by rw [hl]; exact hr), .inr ⟨w.heap.size, 0, rfl, Nat.le_refl _, (show w.heap.size < (w.heap.push _).size by simp), fun j v hv => ?_⟩,
    ⟨rfl, rfl, rfl, (show w.heap.size ≤ (w.heap.push _).size by simp), fun b hb _ => hao w.drew _ hb⟩⟩
  rw [kU8_all] at hv
  have hj : j < s.data.toList.length := by have := (List.getElem?_eq_some_iff.1 hv).1; simpa using this
  have hj' : j < s.data.size := by simpa using hj
  simp only [World.cell?, hn, Nat.zero_add, bytesRow]
  rw [Array.getElem?_append_left (by simpa using hj')]
  simp at hv ⊢
  exact hv


/-- s[i] -/
theorem sidx {t : TypeId} {s : ByteArray} {i : Int} {kk : IntKind} (hT : strT P t = true) (h0 : 0 ≤ i) (h1 : i < (s.size : Int)) :
    (vS (Instr.index t (S s) (.int kk i))).run P w = .ok (.value (.int .u8 ((s.data.toList.getD i.toNat 0).toNat : Int))) w := by
  refine vrun ?_
  have h2 : i.toNat < s.size := by omega
  have h3 : s[i.toNat]? = some (s[i.toNat]'h2) := by simp [h2]
  have h4 : (s[i.toNat]'h2) = s.data.toList.getD i.toNat 0 := by
    have h5 : i.toNat < s.data.size := h2
    simp only [List.getD, Array.getElem?_toList]
    rw [Array.getElem?_eq_getElem h5]
    rfl
  simp [Instr.index, asIntOf, run_underlying (strT_spec hT), h0, h3, h4]

theorem run_sliceBound {kk : IntKind} {i : Int} {y : Nat} {c : BoundsCode} (h0 : 0 ≤ i) (h1 : i ≤ y) : (Instr.sliceBound (.int kk i) y c).run P w = .ok i.toNat w := by
  simp [Instr.sliceBound, asIntOf, h0, h1]

/-- s[a:b], s[a:], s[:b] -/
theorem ssl {t : TypeId} {s : ByteArray} {a b : Int} (hT : strT P t = true) (h0 : 0 ≤ a) (h1 : a ≤ b) (h2 : b ≤ (s.size : Int)) :
    (vS (Instr.sliceAt t (S s) (some (I a)) (some (I b)) none)).run P w = .ok (.value (S (s.extract a.toNat b.toNat))) w := by
  refine vrun ?_
  have hb : (0 : Int) ≤ b := by omega
  have hab : a ≤ ((b.toNat : Nat) : Int) := by omega
  simp [Instr.sliceAt, Instr.slice, Instr.sliceBounds, run_underlying (strT_spec hT), run_sliceBound (P := P) hb h2, run_sliceBound (P := P) h0 hab]
theorem ssl_lo {t : TypeId} {s : ByteArray} {a : Int} (hT : strT P t = true) (h0 : 0 ≤ a) (h2 : a ≤ (s.size : Int)) :
    (vS (Instr.sliceAt t (S s) (some (I a)) none none)).run P w = .ok (.value (S (s.extract a.toNat s.size))) w := by
  refine vrun ?_
  simp [Instr.sliceAt, Instr.slice, Instr.sliceBounds, run_underlying (strT_spec hT), run_sliceBound (P := P) h0 h2]
theorem ssl_hi {t : TypeId} {s : ByteArray} {b : Int} (hT : strT P t = true) (h0 : 0 ≤ b) (h2 : b ≤ (s.size : Int)) :
    (vS (Instr.sliceAt t (S s) none (some (I b)) none)).run P w = .ok (.value (S (s.extract 0 b.toNat))) w := by
  refine vrun ?_
  simp [Instr.sliceAt, Instr.slice, Instr.sliceBounds, run_underlying (strT_spec hT), run_sliceBound (P := P) h0 h2]

theorem s_add {x y : ByteArray} (h : ((x.size + y.size : Nat) : Int) ≤ 9223372036854775807) : (vS (Op.stringOp .add x y)).run P w = .ok (.value (S (x ++ y))) w := by
  refine vrun ?_
  have h1 : ¬ ((x.size + y.size : Nat) : Int) > IntKind.i64.max := by simp only [IntKind.max, IntKind.signed, IntKind.bits]; simp; omega
  simp only [Op.stringOp, h1, if_false, Sem.run_pure]

/-- slices of slices -/
theorem vsl {t : TypeId} {A : Option Addr} {n cap sz : Nat} {a b : Int} (hT : slT P t = some sz) (h0 : 0 ≤ a) (h1 : a ≤ b) (h2 : b ≤ (cap : Int)) :
    (vS (Instr.sliceAt t (.slice A n cap) (some (I a)) (some (I b)) none)).run P w =
      .ok (.value (.slice (if cap = a.toNat then A else A.map (·.add (a.toNat * sz))) (b.toNat - a.toNat) (cap - a.toNat))) w := by
  refine vrun ?_
  obtain ⟨e, i, h3, h4, h5⟩ := slT_spec hT
  have hb : (0 : Int) ≤ b := by omega
  have hab : a ≤ ((b.toNat : Nat) : Int) := by omega
  simp [Instr.sliceAt, Instr.slice, Instr.sliceBounds, run_underlying h3, run_sliceBound (P := P) hb h2, run_sliceBound (P := P) h0 hab, sizeOf, typeInfo, h4, h5]
theorem vsl_lo {t : TypeId} {A : Option Addr} {n cap sz : Nat} {a : Int} (hT : slT P t = some sz) (h0 : 0 ≤ a) (h1 : a ≤ (n : Int)) :
    (vS (Instr.sliceAt t (.slice A n cap) (some (I a)) none none)).run P w =
      .ok (.value (.slice (if cap = a.toNat then A else A.map (·.add (a.toNat * sz))) (n - a.toNat) (cap - a.toNat))) w := by
  refine vrun ?_
  obtain ⟨e, i, h3, h4, h5⟩ := slT_spec hT
  simp [Instr.sliceAt, Instr.slice, Instr.sliceBounds, run_underlying h3, run_sliceBound (P := P) h0 h1, sizeOf, typeInfo, h4, h5]
theorem vsl_hi {t : TypeId} {A : Option Addr} {n cap sz : Nat} {b : Int} (hT : slT P t = some sz) (h0 : 0 ≤ b) (h1 : b ≤ (cap : Int)) :
    (vS (Instr.sliceAt t (.slice A n cap) none (some (I b)) none)).run P w = .ok (.value (.slice A b.toNat cap)) w := by
  refine vrun ?_
  obtain ⟨e, i, h3, h4, h5⟩ := slT_spec hT
  have h6 : A.map (fun x => x.add (0 * sz)) = A := by
    cases A with
    | none => rfl
    | some x => simp [Addr.add]
  simp [Instr.sliceAt, Instr.slice, Instr.sliceBounds, run_underlying h3, run_sliceBound (P := P) h0 h1, sizeOf, typeInfo, h4]
  intro _
  simpa using h6

theorem Rd.drop {α : Type} {k : Kd α} {lo hi cap : Nat} {A : Option Addr} {xs : List α} (h : Rd k w lo hi A xs) (i : Nat) (hc : xs.length ≤ cap) :
    Rd k w lo hi (if cap = i then A else A.map (·.add (i * k.sz))) (xs.drop i) := by
  rcases h with rfl | ⟨b, o, rfl, h2, h3, h4⟩
  · exact .inl (by simp)
  · by_cases hi' : xs.length ≤ i
    · exact .inl (List.drop_eq_nil_of_le hi')
    · rw [if_neg (by omega)]
      refine .inr ⟨b, o + i * k.sz, by simp [add_none], h2, h3, ?_⟩
      rw [← k.all_drop]
      exact h4.drop _
theorem Rd.take {α : Type} {k : Kd α} {lo hi : Nat} {A : Option Addr} {xs : List α} (h : Rd k w lo hi A xs) (i : Nat) : Rd k w lo hi A (xs.take i) := by
  rcases h with rfl | ⟨b, o, rfl, h2, h3, h4⟩
  · exact .inl (by simp)
  · refine .inr ⟨b, o, rfl, h2, h3, ?_⟩
    rw [← k.all_take]
    exact h4.take _

theorem slT_some {t : TypeId} (h : (slT P t).isSome = true) : ∃ e, P.underlying t = some (.slice e) := by
  obtain ⟨sz, h⟩ := Option.isSome_iff_exists.1 h
  obtain ⟨e, _, h1, _⟩ := slT_spec h
  exact ⟨e, h1⟩

/-! what append takes -/
theorem src_rd {α : Type} {k : Kd α} {tx : TypeId} {lo hi cap : Nat} {A : Option Addr} {ys : List α} (hk' : (slT P tx).isSome = true) (h : Rd k w lo hi A ys) :
    Src P k.sz tx (.slice A ys.length cap) ys.length (k.all ys) w := by
  obtain ⟨e', hk⟩ := slT_some hk'
  rcases h with rfl | ⟨b, o, rfl, _, _, h4⟩
  · cases A with
    | none => exact Src.ofNil w hk cap
    | some a => exact Src.ofSlice w hk a 0 cap [] (by simp) (by simp) (by simp)
  · exact Src.ofSlice w hk _ _ cap _ (k.all_length ys) (fun j u hu => by rw [add_none]; exact h4 j u hu) (k.cells ys)
theorem src_one {α : Type} {k : Kd α} {tx : TypeId} {b : Nat} {t : TypeId} {x : α} {cs : List Value} {cap : Nat} (hk' : (slT P tx).isSome = true) (h : Blk w b t cs) (hcs : cs = k.enc x) :
    Src P k.sz tx (.slice (some ⟨b, 0, none⟩) 1 cap) [x].length (k.all [x]) w := by
  obtain ⟨e', hk⟩ := slT_some hk'
  subst hcs
  have : k.all [x] = k.enc x := k.all_one x
  rw [this]
  exact Src.ofSlice w hk _ _ cap _ (by rw [k.len]; simp) (fun j u hu => by rw [add_none]; exact h.cs j u hu) (fun u hu => k.cell x u hu)
theorem src_str {e : TypeId} {tx : TypeId} (s : ByteArray) (hk' : strT P tx = true) : Src P (kU8 e).sz tx (S s) s.data.toList.length ((kU8 e).all s.data.toList) w := by
  have h := Src.ofString w (strT_spec hk') s
  rw [kU8_all, Array.length_toList]
  exact h
end

section
variable {P : Program} {l : List Oper} {n : Nat} {K : Env → World → Prop} {E : List PanicEntry → Env → World → Prop} {r : List Oper} {e : Env} {w : World}

theorem xo.app (m : Nat) {α : Type} {k : Kd α} {t tx ty : TypeId} {base cap : Nat} {A : Option Addr} {xs ys : List α} {x : Value} (hk : KdP P k t) (hown : Own k w base A cap xs)
    (hs : Src P k.sz tx x ys.length (k.all ys) w) (hbase : base ≤ w.heap.size) (hbytes : (xs.length + ys.length) * k.bytes ≤ 140737488355328) (hn : xs.length + ys.length ≤ 9223372036854775807)
    (h : xat P l n m r e w = some (w, (vS (Builtin.append_ #[t, tx] ty #[.slice A xs.length cap, x])).run P w, xdst m r))
    (hk' : ∀ A' cap' w', Own k w' base A' cap' (xs ++ ys) → Ext (OwnB A) w w' → xo P l n (r.drop (m + 1)) (eput n (xenv P l n m r e w) (xdst m r) (.slice A' (xs ++ ys).length cap')) w' K E) : xo P l n r e w K E := by
  obtain ⟨A', cap', w', h1, h2, h3, _⟩ := run_append (tx := tx) (ty := ty) hk hown hbase hs hbytes hn
  exact xo.val m h (vrun h1) (hk' A' cap' w' h2 h3)

theorem xo.appG (m : Nat) {α : Type} {k : Kd α} {t tx ty : TypeId} {base cap : Nat} {A : Option Addr} {xs ys : List α} {x : Value} (hk : KdP P k t) (hown : Own k w base A cap xs)
    (hs : Src P k.sz tx x ys.length (k.all ys) w) (hbase : base ≤ w.heap.size) (hbytes : (xs.length + ys.length) * k.bytes ≤ 140737488355328) (hn : xs.length + ys.length ≤ 9223372036854775807)
    (h : xat P l n m r e w = some (w, (vS (Builtin.append_ #[t, tx] ty #[.slice A xs.length cap, x])).run P w, xdst m r))
    (hk' : ∀ A' cap' w', Own k w' base A' cap' (xs ++ ys) → Ext (OwnB A) w w' → Grow w A A' → xo P l n (r.drop (m + 1)) (eput n (xenv P l n m r e w) (xdst m r) (.slice A' (xs ++ ys).length cap')) w' K E) : xo P l n r e w K E := by
  obtain ⟨A', cap', w', h1, h2, h3, h4⟩ := run_append (tx := tx) (ty := ty) hk hown hbase hs hbytes hn
  exact xo.val m h (vrun h1) (hk' A' cap' w' h2 h3 h4)

theorem xo.bsl (m : Nat) (t : TypeId) (c : Nat) (parts : Array (Nat × Value)) {et : TypeId} {cs : List Value} (hb : bsl P t c parts = some (et, cs))
    (h : xat P l n m r e w = some (w, (vS (Instr.buildSlice t c parts)).run P w, xdst m r))
    (hk : ∀ b w', Blk w' b et cs → Ext No w w' → w.heap.size ≤ b → xo P l n (r.drop (m + 1)) (eput n (xenv P l n m r e w) (xdst m r) (.slice (some ⟨b, 0, none⟩) c c)) w' K E) : xo P l n r e w K E := by
  obtain ⟨h1, h2⟩ := push_spec w et cs
  exact xo.val m h (run_buildSlice hb) (hk _ _ h1 h2 (Nat.le_refl _))

theorem xo.s2b (m : Nat) (src dst : TypeId) (et : TypeId) (s : ByteArray) (hs : strT P src = true) (hd : bytesT P dst = some et)
    (h : xat P l n m r e w = some (w, (vS (convert src dst (S s))).run P w, xdst m r))
    (hk : ∀ A cap w', Rd (kU8 et) w' w.heap.size w'.heap.size A s.data.toList → Ext No w w' → xo P l n (r.drop (m + 1)) (eput n (xenv P l n m r e w) (xdst m r) (.slice A s.data.toList.length cap)) w' K E) : xo P l n r e w K E := by
  obtain ⟨cap, w', h1, h2, h3⟩ := conv_sb (w := w) (s := s) hs hd
  exact xo.val m h h1 (hk _ _ _ h2 h3)

theorem Own.of_blk {α : Type} {k : Kd α} {base b c : Nat} {xs : List α} {cs : List Value} (h : Blk w b k.ty cs) (hb : base ≤ b) (hcs : cs = k.all xs) (hc : c = xs.length) : Own k w base (some ⟨b, 0, none⟩) c xs := by
  subst hcs
  subst hc
  exact .inr ⟨b, [], rfl, hb, by simpa using h, by simp [k.all_length], Nat.le_refl _⟩
end
end Go.V
/- Maps with keys of the kind int, told by the list of their entries. -/
namespace Go.V

section
variable {α : Type}
def mfind : List (Int × α) → Int → Option α
  | [], _ => none
  | p :: r, k => if p.1 = k then some p.2 else mfind r k
def mput : List (Int × α) → Int → α → List (Int × α)
  | [], k, x => [(k, x)]
  | p :: r, k, x => if p.1 = k then (k, x) :: r else p :: mput r k x
def mdel : List (Int × α) → Int → List (Int × α)
  | [], _ => []
  | p :: r, k => if p.1 = k then r else p :: mdel r k

theorem mfind_put (f : List (Int × α)) (k j : Int) (x : α) : mfind (mput f k x) j = if k = j then some x else mfind f j := by
  induction f with
  | nil => simp [mput, mfind]
  | cons p r ih =>
    simp only [mput]
    by_cases h : p.1 = k
    · simp only [h, if_true, mfind]
      by_cases hj : k = j
      · simp [hj]
      · simp [hj]
    · simp only [h, if_false, mfind, ih]
      by_cases hp : p.1 = j
      · have : ¬ k = j := fun e => h (hp.trans e.symm)
        simp [hp, this]
      · simp [hp]

def keys (f : List (Int × α)) : List Int := f.map (·.1)

theorem mfind_none_iff (f : List (Int × α)) (k : Int) : mfind f k = none ↔ k ∉ keys f := by
  induction f with
  | nil => simp [mfind, keys]
  | cons p r ih =>
    simp only [mfind, keys, List.map_cons, List.mem_cons, not_or]
    by_cases h : p.1 = k
    · simp [h]
    · simp only [h, if_false, ih, keys]
      exact ⟨fun h2 => ⟨fun e => h e.symm, h2⟩, fun h2 => h2.2⟩
theorem mfind_some_mem {f : List (Int × α)} {k : Int} {x : α} (h : mfind f k = some x) : (k, x) ∈ f := by
  induction f with
  | nil => simp [mfind] at h
  | cons p r ih =>
    simp only [mfind] at h
    by_cases hp : p.1 = k
    · simp only [hp, if_true, Option.some.injEq] at h
      subst h; subst hp
      simp
    · simp only [hp, if_false] at h
      exact List.mem_cons_of_mem _ (ih h)
theorem keys_put (f : List (Int × α)) (k : Int) (x : α) : keys (mput f k x) = if k ∈ keys f then keys f else keys f ++ [k] := by
  induction f with
  | nil => simp [mput, keys]
  | cons p r ih =>
    simp only [mput]
    by_cases h : p.1 = k
    · simp [h, keys]
    · have h' : ¬ k = p.1 := fun e => h e.symm
      simp only [h, if_false]
      simp only [keys, List.map_cons, List.mem_cons, h', false_or] at ih ⊢
      rw [ih]
      by_cases hh : k ∈ r.map (·.1) <;> simp [hh]
theorem keys_del_sub (f : List (Int × α)) (k : Int) : ∀ j ∈ keys (mdel f k), j ∈ keys f := by
  induction f with
  | nil => simp [mdel, keys]
  | cons p r ih =>
    intro j hj
    simp only [mdel] at hj
    by_cases h : p.1 = k
    · simp only [h, if_true] at hj
      simp only [keys, List.map_cons, List.mem_cons]
      exact .inr hj
    · simp only [h, if_false, keys, List.map_cons, List.mem_cons] at hj ⊢
      exact hj.imp id (ih j)
theorem nodup_put {f : List (Int × α)} (h : (keys f).Nodup) (k : Int) (x : α) : (keys (mput f k x)).Nodup := by
  rw [keys_put]
  split
  · exact h
  · rename_i hn
    exact List.nodup_append.2 ⟨h, by simp, fun a ha b hb => by simp at hb; subst hb; rintro rfl; exact hn ha⟩
theorem nodup_del {f : List (Int × α)} (h : (keys f).Nodup) (k : Int) : (keys (mdel f k)).Nodup := by
  induction f with
  | nil => simp [mdel, keys]
  | cons p r ih =>
    simp only [keys, List.map_cons, List.nodup_cons] at h
    simp only [mdel]
    by_cases hp : p.1 = k
    · simp only [hp, if_true]; exact h.2
    · simp only [hp, if_false, keys, List.map_cons, List.nodup_cons]
      exact ⟨fun hm => h.1 (keys_del_sub r k _ hm), ih h.2⟩
theorem mfind_del {f : List (Int × α)} (h : (keys f).Nodup) (k j : Int) : mfind (mdel f k) j = if k = j then none else mfind f j := by
  induction f with
  | nil => simp [mdel, mfind]
  | cons p r ih =>
    simp only [keys, List.map_cons, List.nodup_cons] at h
    simp only [mdel]
    by_cases hp : p.1 = k
    · simp only [hp, if_true, mfind]
      by_cases hj : k = j
      · simp only [hj, if_true]
        rw [mfind_none_iff, ← hj, ← hp]
        exact h.1
      · simp [hj]
    · simp only [hp, if_false, mfind, ih h.2]
      by_cases hpj : p.1 = j
      · have : ¬ k = j := fun e => hp (hpj.trans e.symm)
        simp [hpj, this]
      · simp [hpj]
theorem length_put (f : List (Int × α)) (k : Int) (x : α) : (mput f k x).length = if (mfind f k).isSome then f.length else f.length + 1 := by
  induction f with
  | nil => simp [mput, mfind]
  | cons p r ih =>
    simp only [mput, mfind]
    by_cases h : p.1 = k
    · simp [h]
    · simp only [h, if_false, List.length_cons, ih]; split <;> rfl
theorem length_del (f : List (Int × α)) (k : Int) : (mdel f k).length = if (mfind f k).isSome then f.length - 1 else f.length := by
  induction f with
  | nil => simp [mdel, mfind]
  | cons p r ih =>
    simp only [mdel, mfind]
    by_cases h : p.1 = k
    · simp [h]
    · simp only [h, if_false, List.length_cons, ih]
      split
      · rename_i hs
        cases r with
        | nil => simp [mfind] at hs
        | cons q r => simp
      · rfl
end

def entryOf (e : MapEntry) : Value × Value := (e.key, e.val)
def pairOf {α : Type} (enc : α → Value) (p : Int × α) : Value × Value := (I p.1, enc p.2)

/-- Block m is a map that reads as f. -/
structure MapAt {α : Type} (w : World) (m : Nat) (enc : α → Value) (f : List (Int × α)) : Prop where
  is : ∃ es c, w.heap[m]? = some (.map es c) ∧ es.toList.map entryOf = f.map (pairOf enc) ∧ (es.toList.map (·.born)).Nodup ∧ ∀ e ∈ es.toList, e.born < c
  nodup : (keys f).Nodup

section
variable {α : Type} {P : Program} {w w' : World} {enc : α → Value} {m : Nat} {f : List (Int × α)}

theorem MapAt.lt (h : MapAt w m enc f) : m < w.heap.size := by
  obtain ⟨es, c, h1, _⟩ := h.is
  rcases Nat.lt_or_ge m w.heap.size with hlt | hge
  · exact hlt
  · rw [Array.getElem?_eq_none hge] at h1; cases h1
theorem MapAt.ext {M : Nat → Prop} (h : MapAt w m enc f) (hx : Ext M w w') (hm : ¬ M m) : MapAt w' m enc f := by
  obtain ⟨es, c, h1, h2⟩ := h.is
  exact ⟨⟨es, c, (hx.block m h.lt hm).trans h1, h2⟩, h.nodup⟩

/-- The program knows map type t as one from int to elements whose zero is z. -/
def mapT (P : Program) (t : TypeId) : Option Value :=
  match P.underlying t with
  | some (.map k e) => match P.underlying k with
    | some (.int .i64) => (P.info? e).bind (·.zero)
    | _ => none
  | _ => none
theorem mapT_spec {t : TypeId} {z : Value} (h : mapT P t = some z) : ∃ k e i, P.underlying t = some (.map k e) ∧ P.underlying k = some (.int .i64) ∧ P.info? e = some i ∧ i.zero = some z := by
  unfold mapT at h
  split at h
  · rename_i k e he
    split at h
    · rename_i hk
      cases hi : P.info? e with
      | none => simp [hi] at h
      | some i => exact ⟨k, e, i, he, hk, hi, by simpa [hi] using h⟩
    · cases h
  · cases h

theorem findNow_spec (enc : α → Value) (k : Int) : ∀ (es : List MapEntry) (f : List (Int × α)) (i0 : Nat), es.map entryOf = f.map (pairOf enc) →
    (mfind f k = none ∧ Instr.findNow (.int .i64) (I k) es i0 = some none) ∨
    ∃ j x, mfind f k = some x ∧ Instr.findNow (.int .i64) (I k) es i0 = some (some (i0 + j, enc x)) ∧ (es[j]?).map (·.key) = some (I k) ∧ j < es.length ∧
      (∀ y, (es.modify j fun e => { e with key := I k, val := enc y }).map entryOf = (mput f k y).map (pairOf enc)) ∧ (es.eraseIdx j).map entryOf = (mdel f k).map (pairOf enc) := by
  intro es
  induction es with
  | nil =>
    intro f i0 h
    have : f = [] := by simpa using h.symm
    subst this
    exact .inl ⟨rfl, rfl⟩
  | cons e es ih =>
    intro f i0 h
    cases f with
    | nil => simp at h
    | cons p f =>
      simp only [List.map_cons, List.cons.injEq] at h
      obtain ⟨h1, h2⟩ := h
      simp only [entryOf, pairOf, Prod.mk.injEq] at h1
      by_cases hp : p.1 = k
      · refine .inr ⟨0, p.2, by simp [mfind, hp], ?_, by simp [h1.1, hp], by simp, fun y => ?_, by simp [mdel, hp, h2]⟩
        · simp [Instr.findNow, Instr.sameNow, h1.1, h1.2, hp]
        · simp [mput, hp, h2, entryOf, pairOf]
      · have hb : (k == p.1) = false := by simp; exact fun e => hp e.symm
        have hstep : Instr.findNow (.int .i64) (I k) (e :: es) i0 = Instr.findNow (.int .i64) (I k) es (i0 + 1) := by
          simp [Instr.findNow, Instr.sameNow, h1.1, hb]
        rcases ih f (i0 + 1) h2 with ⟨h3, h4⟩ | ⟨j, x, h3, h4, h5, h6, h7, h8⟩
        · exact .inl ⟨by simp [mfind, hp, h3], by rw [hstep]; exact h4⟩
        · refine .inr ⟨j + 1, x, by simp [mfind, hp, h3], by rw [hstep, h4]; simp; omega, by simpa using h5, by simpa using h6, fun y => ?_, ?_⟩
          · simp only [List.modify_succ_cons, List.map_cons, mput, hp, if_false, h7 y]
            simp [entryOf, pairOf, h1.1, h1.2]
          · simp only [List.eraseIdx_cons_succ, List.map_cons, mdel, hp, if_false, h8]
            simp [entryOf, pairOf, h1.1, h1.2]

theorem run_checkKey_int {t : TypeId} {k : IntKind} {x : Int} {b : Bool} (h : P.underlying t = some (.int k)) : (Instr.checkKey b 10000 t (.int k x)).run P w = .ok () w := by
  rw [show (10000 : Nat) = 9999 + 1 from rfl, Instr.checkKey]
  generalize (9999 : Nat) = d
  simp [run_underlying h]

theorem run_getObj_map {es : Array MapEntry} {c : Nat} (h : w.heap[m]? = some (.map es c)) : (getObj m).run P w = .ok (.map es c) w := by
  simp [getObj, Sem.run, h]
theorem run_setObj_map {es : Array MapEntry} {c : Nat} {o : Obj} (h : w.heap[m]? = some (.map es c)) : (setObj m o).run P w = .ok () { w with heap := w.heap.setIfInBounds m o } := by
  simp [setObj, Sem.run, h]

theorem lk_some {t : TypeId} {z : Value} {k : Int} {x : α} (ht : mapT P t = some z) (h : MapAt w m enc f) (hf : mfind f k = some x) (ok : Bool) :
    (vS (Instr.lookup t (.map (some m)) (I k) ok)).run P w = .ok (.value (if ok then .tuple #[enc x, .bool true] else enc x)) w := by
  refine vrun ?_
  obtain ⟨kt, et, i, h1, h2, h3, h4⟩ := mapT_spec ht
  obtain ⟨es, c, h5, h6, _⟩ := h.is
  rcases findNow_spec enc k es.toList f 0 h6 with ⟨h7, _⟩ | ⟨j, y, h7, h8, _⟩
  · rw [hf] at h7; cases h7
  · rw [hf] at h7
    injection h7 with h7
    subst h7
    simp [Instr.lookup, run_underlying h1, run_getObj_map h5, run_checkKey_int h2, Instr.findKey, run_underlying h2, h8]
theorem lk_none {t : TypeId} {z : Value} {k : Int} (ht : mapT P t = some z) (h : MapAt w m enc f) (hf : mfind f k = none) (ok : Bool) :
    (vS (Instr.lookup t (.map (some m)) (I k) ok)).run P w = .ok (.value (if ok then .tuple #[z, .bool false] else z)) w := by
  refine vrun ?_
  obtain ⟨kt, et, i, h1, h2, h3, h4⟩ := mapT_spec ht
  obtain ⟨es, c, h5, h6, _⟩ := h.is
  rcases findNow_spec enc k es.toList f 0 h6 with ⟨_, h8⟩ | ⟨j, y, h7, _⟩
  · simp [Instr.lookup, run_underlying h1, run_getObj_map h5, run_checkKey_int h2, Instr.findKey, run_underlying h2, h8, zeroValue, typeInfo, h3, h4]
  · rw [hf] at h7; cases h7

theorem ext_setObj (w : World) (m : Nat) (o : Obj) : Ext (fun b => b = m) w { w with heap := w.heap.setIfInBounds m o } := by
  refine ⟨rfl, rfl, rfl, by simp, fun b _ hm => ?_⟩
  show (w.heap.setIfInBounds m o)[b]? = _
  rw [Array.getElem?_setIfInBounds_ne (fun e => hm e.symm)]

theorem modify_born {l : List MapEntry} {j : Nat} {g : MapEntry → MapEntry} (hg : ∀ e, (g e).born = e.born) : (l.modify j g).map (·.born) = l.map (·.born) := by
  induction l generalizing j with
  | nil => simp
  | cons e l ih => cases j <;> simp [hg, ih]

theorem run_mapUpdate {t : TypeId} {z : Value} {k : Int} {y : α} (ht : mapT P t = some z) (h : MapAt w m enc f) :
    ∃ w', (uS (Instr.mapUpdate t (.map (some m)) (I k) (enc y))).run P w = .ok .skip w' ∧ MapAt w' m enc (mput f k y) ∧ Ext (fun b => b = m) w w' := by
  obtain ⟨kt, et, i, h1, h2, h3, h4⟩ := mapT_spec ht
  obtain ⟨es, c, h5, h6, hb, hc⟩ := h.is
  have hm := h.lt
  rcases findNow_spec enc k es.toList f 0 h6 with ⟨h7, h8⟩ | ⟨j, x, h7, h8, h9, h10, h11, _⟩
  · refine ⟨{ w with heap := w.heap.setIfInBounds m (.map (es.push { key := I k, val := enc y, born := c }) (c + 1)) }, urun ?_, ⟨⟨es.push { key := I k, val := enc y, born := c }, c + 1, ?_, ?_, ?_, ?_⟩, nodup_put h.nodup k y⟩, ext_setObj w m _⟩
    · simp [Instr.mapUpdate, run_underlying h1, run_getObj_map h5, run_checkKey_int h2, Instr.findKey, run_underlying h2, h8, run_setObj_map h5]
    · show (w.heap.setIfInBounds m _)[m]? = _
      rw [Array.getElem?_setIfInBounds_self_of_lt hm]
    · have hp : ∀ (f : List (Int × α)), mfind f k = none → mput f k y = f ++ [(k, y)] := by
        intro f
        induction f with
        | nil => intro _; rfl
        | cons p f ih =>
          intro hf
          simp only [mfind] at hf
          by_cases hp : p.1 = k
          · simp [hp] at hf
          · simp only [hp, if_false] at hf
            simp [mput, hp, ih hf]
      rw [hp f h7]
      simp [h6, entryOf, pairOf]
    · simp only [Array.toList_push, List.map_append, List.map_cons, List.map_nil]
      refine List.nodup_append.2 ⟨hb, by simp, ?_⟩
      intro a ha b hb' e
      simp only [List.mem_singleton] at hb'
      obtain ⟨q, hq, rfl⟩ := List.mem_map.1 ha
      have := hc q hq
      omega
    · intro q hq
      simp only [Array.toList_push, List.mem_append, List.mem_singleton] at hq
      rcases hq with hq | rfl
      · have := hc q hq; omega
      · simp
  · simp only [Nat.zero_add] at h8
    have hk' : ((es[j]?).map (·.key)) = some (I k) := by simpa using h9
    refine ⟨{ w with heap := w.heap.setIfInBounds m (.map (es.modify j fun e => { e with key := I k, val := enc y }) c) }, urun ?_, ⟨⟨es.modify j fun e => { e with key := I k, val := enc y }, c, ?_, ?_, ?_, ?_⟩, nodup_put h.nodup k y⟩, ext_setObj w m _⟩
    · have hks : (Instr.keyThatStays (I k) (I k)).run P w = .ok (I k) w := by
        simp [Instr.keyThatStays, Instr.sameBits]
      simp [Instr.mapUpdate, run_underlying h1, run_getObj_map h5, run_checkKey_int h2, Instr.findKey, run_underlying h2, h8, hk', hks, run_setObj_map h5]
    · show (w.heap.setIfInBounds m _)[m]? = _
      rw [Array.getElem?_setIfInBounds_self_of_lt hm]
    · rw [Array.toList_modify]; exact h11 y
    · rw [Array.toList_modify, modify_born (g := fun e => { e with key := I k, val := enc y }) (fun _ => rfl)]; exact hb
    · intro q hq
      rw [Array.toList_modify] at hq
      have : q.born ∈ (es.toList.modify j fun e => { e with key := I k, val := enc y }).map (·.born) := List.mem_map_of_mem hq
      rw [modify_born (g := fun e => { e with key := I k, val := enc y }) (fun _ => rfl)] at this
      obtain ⟨q', hq', he⟩ := List.mem_map.1 this
      have := hc q' hq'
      omega

theorem run_mapDelete {t ty : TypeId} {kt' : TypeId} {z : Value} {k : Int} (ht : mapT P t = some z) (h : MapAt w m enc f) :
    ∃ w', (vS (Builtin.delete_ #[t, kt'] ty #[.map (some m), I k])).run P w = .ok (.value (.tuple #[])) w' ∧ MapAt w' m enc (mdel f k) ∧ Ext (fun b => b = m) w w' := by
  obtain ⟨kt, et, i, h1, h2, h3, h4⟩ := mapT_spec ht
  obtain ⟨es, c, h5, h6, hb, hc⟩ := h.is
  have hm := h.lt
  rcases findNow_spec enc k es.toList f 0 h6 with ⟨h7, h8⟩ | ⟨j, x, h7, h8, h9, h10, _, h11⟩
  · have hd : ∀ (f : List (Int × α)), mfind f k = none → mdel f k = f := by
      intro f
      induction f with
      | nil => intro _; rfl
      | cons p f ih =>
        intro hf
        simp only [mfind] at hf
        by_cases hp : p.1 = k
        · simp [hp] at hf
        · simp only [hp, if_false] at hf
          simp [mdel, hp, ih hf]
    refine ⟨{ w with heap := w.heap.setIfInBounds m (.map es c) }, vrun ?_, ⟨⟨es, c, ?_, ?_, hb, hc⟩, nodup_del h.nodup k⟩, ext_setObj w m _⟩
    · simp [Builtin.delete_, run_underlying h1, run_getObj_map h5, run_checkKey_int h2, Instr.findKey, run_underlying h2, h8, run_setObj_map h5]
    · show (w.heap.setIfInBounds m _)[m]? = _
      rw [Array.getElem?_setIfInBounds_self_of_lt hm]
    · rw [hd f h7]; exact h6
  · simp only [Nat.zero_add] at h8
    have he : (es.eraseIdxIfInBounds j).toList = es.toList.eraseIdx j := by simp [Array.toList_eraseIdxIfInBounds]
    refine ⟨{ w with heap := w.heap.setIfInBounds m (.map (es.eraseIdxIfInBounds j) c) }, vrun ?_, ⟨⟨es.eraseIdxIfInBounds j, c, ?_, ?_, ?_, ?_⟩, nodup_del h.nodup k⟩, ext_setObj w m _⟩
    · simp [Builtin.delete_, run_underlying h1, run_getObj_map h5, run_checkKey_int h2, Instr.findKey, run_underlying h2, h8, run_setObj_map h5]
    · show (w.heap.setIfInBounds m _)[m]? = _
      rw [Array.getElem?_setIfInBounds_self_of_lt hm]
    · rw [he]; exact h11
    · rw [he]; exact hb.sublist ((List.eraseIdx_sublist _ _).map _)
    · intro q hq
      rw [he] at hq
      exact hc q ((List.eraseIdx_sublist _ _).subset hq)

theorem run_mapLen {t ty : TypeId} {z : Value} (ht : mapT P t = some z) (h : MapAt w m enc f) : (vS (Builtin.len_ #[t] ty #[.map (some m)])).run P w = .ok (.value (I (f.length : Int))) w := by
  refine vrun ?_
  obtain ⟨kt, et, i, h1, h2, h3, h4⟩ := mapT_spec ht
  obtain ⟨es, c, h5, h6, _⟩ := h.is
  have h7 : es.size = f.length := by have := congrArg List.length h6; simpa using this
  simp [Builtin.len_, run_underlying h1, run_getObj_map h5, h7, goInt]

theorem run_mapMake {t : TypeId} (enc : α → Value) : ∃ w', (vS (Instr.makeMap t none)).run P w = .ok (.value (.map (some w.heap.size))) w' ∧ MapAt w' w.heap.size enc [] ∧ Ext No w w' := by
  refine ⟨{ w with heap := w.heap.push (.map #[] 0) }, vrun (by simp [Instr.makeMap, newObj, Sem.run]), ⟨⟨#[], 0, by simp, by simp, by simp, by simp⟩, by simp [keys]⟩, ⟨rfl, rfl, rfl, by simp, fun b hb _ => ?_⟩⟩
  show (w.heap.push _)[b]? = _
  rw [Array.getElem?_push, if_neg (by omega)]

theorem run_mapClear {t ty : TypeId} {z : Value} (ht : mapT P t = some z) (h : MapAt w m enc f) :
    ∃ w', (vS (Builtin.clear_ #[t] ty #[.map (some m)])).run P w = .ok (.value (.tuple #[])) w' ∧ MapAt w' m enc [] ∧ Ext (fun b => b = m) w w' := by
  obtain ⟨kt, et, i, h1, h2, h3, h4⟩ := mapT_spec ht
  obtain ⟨es, c, h5, h6, hb, hc⟩ := h.is
  have hm := h.lt
  refine ⟨{ w with heap := w.heap.setIfInBounds m (.map #[] c) }, vrun ?_, ⟨⟨#[], c, ?_, by simp, by simp, by simp⟩, by simp [keys]⟩, ext_setObj w m _⟩
  · simp [Builtin.clear_, run_underlying h1, run_getObj_map h5, run_setObj_map h5]
  · show (w.heap.setIfInBounds m _)[m]? = _
    rw [Array.getElem?_setIfInBounds_self_of_lt hm]
end

/-- a map is no block of cells -/
theorem MapAt.ne {α : Type} {w : World} {m b : Nat} {enc : α → Value} {f : List (Int × α)} {t : TypeId} {cs : List Value} (h : MapAt w m enc f) (hb : Blk w b t cs) : m ≠ b := by
  rintro rfl
  obtain ⟨es, c, h1, _⟩ := h.is
  unfold Blk at hb
  rw [hb] at h1
  cases h1
theorem Blk.ne {w : World} {b b' : Nat} {t t' : TypeId} {cs cs' : List Value} (h : Blk w b t cs) (h' : Blk w b' t' cs') (hne : Nat.beq t t' = false) : b ≠ b' := by
  rintro rfl
  unfold Blk at h h'
  rw [h] at h'
  injection h' with h'
  injection h' with _ ht
  subst ht
  simp at hne


theorem Own.disj {α β : Type} {k1 : Kd α} {k2 : Kd β} {w : World} {b1 b2 c1 c2 : Nat} {A1 A2 : Option Addr} {xs : List α} {ys : List β} (h1 : Own k1 w b1 A1 c1 xs) (h2 : Own k2 w b2 A2 c2 ys) (hne : Nat.beq k1.ty k2.ty = false) : ∀ b, OwnB A1 b → ¬ OwnB A2 b := by
  rintro b ⟨o1, rfl⟩ ⟨o2, rfl⟩
  rcases h1 with ⟨h, _⟩ | ⟨g1, r1, e1, _, k1', _⟩
  · cases h
  · rcases h2 with ⟨h, _⟩ | ⟨g2, r2, e2, _, k2', _⟩
    · cases h
    · injection e1 with e1; injection e1 with e1
      injection e2 with e2; injection e2 with e2
      subst e1; subst e2
      exact Blk.ne k1' k2' hne rfl
section
variable {α : Type} {P : Program} {l : List Oper} {n : Nat} {K : Env → World → Prop} {E : List PanicEntry → Env → World → Prop} {r : List Oper} {e : Env} {w : World}

theorem xo.mapPut (q : Nat) {t : TypeId} {z : Value} {m : Nat} {enc : α → Value} {f : List (Int × α)} {k : Int} (y : α) {v : Value} (ht : mapT P t = some z) (hm : MapAt w m enc f) (hv : v = enc y)
    (h : xat P l n q r e w = some (w, (uS (Instr.mapUpdate t (.map (some m)) (I k) v)).run P w, xdst q r))
    (hk : ∀ w', MapAt w' m enc (mput f k y) → Ext (fun b => b = m) w w' → xo P l n (r.drop (q + 1)) (eput n (xenv P l n q r e w) (xdst q r) undef) w' K E) : xo P l n r e w K E := by
  subst hv
  obtain ⟨w', h1, h2, h3⟩ := run_mapUpdate (P := P) (k := k) (y := y) ht hm
  exact xo.skp q h h1 (hk w' h2 h3)
theorem xo.mapDel (q : Nat) {t kt ty : TypeId} {z : Value} {m : Nat} {enc : α → Value} {f : List (Int × α)} {k : Int} (ht : mapT P t = some z) (hm : MapAt w m enc f)
    (h : xat P l n q r e w = some (w, (vS (Builtin.delete_ #[t, kt] ty #[.map (some m), I k])).run P w, xdst q r))
    (hk : ∀ w', MapAt w' m enc (mdel f k) → Ext (fun b => b = m) w w' → xo P l n (r.drop (q + 1)) (eput n (xenv P l n q r e w) (xdst q r) (.tuple #[])) w' K E) : xo P l n r e w K E := by
  obtain ⟨w', h1, h2, h3⟩ := run_mapDelete (P := P) (ty := ty) (kt' := kt) (k := k) ht hm
  exact xo.val q h h1 (hk w' h2 h3)
theorem xo.mapMk (q : Nat) {t : TypeId} (enc : α → Value)
    (h : xat P l n q r e w = some (w, (vS (Instr.makeMap t none)).run P w, xdst q r))
    (hk : ∀ m w', MapAt w' m enc [] → Ext No w w' → w.heap.size ≤ m → xo P l n (r.drop (q + 1)) (eput n (xenv P l n q r e w) (xdst q r) (.map (some m))) w' K E) : xo P l n r e w K E := by
  obtain ⟨w', h1, h2, h3⟩ := run_mapMake (P := P) (w := w) (t := t) enc
  exact xo.val q h h1 (hk _ w' h2 h3 (Nat.le_refl _))
theorem xo.mapClr (q : Nat) {t ty : TypeId} {z : Value} {m : Nat} {enc : α → Value} {f : List (Int × α)} (ht : mapT P t = some z) (hm : MapAt w m enc f)
    (h : xat P l n q r e w = some (w, (vS (Builtin.clear_ #[t] ty #[.map (some m)])).run P w, xdst q r))
    (hk : ∀ w', MapAt w' m enc [] → Ext (fun b => b = m) w w' → xo P l n (r.drop (q + 1)) (eput n (xenv P l n q r e w) (xdst q r) (.tuple #[])) w' K E) : xo P l n r e w K E := by
  obtain ⟨w', h1, h2, h3⟩ := run_mapClear (P := P) (ty := ty) ht hm
  exact xo.val q h h1 (hk w' h2 h3)
end
end Go.V
/- Loops unrolled; words for arithmetic on uint64 and bytes. -/
namespace Go.V
section
variable {P : Program} {n : Nat} {D : List Deferred} {K : Env → World → Prop} {X : Nat → Env → World → Prop} {R : Env → World → Prop} {E : List PanicEntry → Env → World → Prop} {e : Env} {w : World}

/-- so many rounds -/
def rnd (P : Program) (n : Nat) (D : List Deferred) (c : Code) (X : Nat → Env → World → Prop) (R : Env → World → Prop) (E : List PanicEntry → Env → World → Prop) : Nat → Env → World → Prop
  | 0 => fun _ _ => False
  | k + 1 => XC P n D c (rnd P n D c X R E k) X R E

theorem XC.unroll {c : Code} (k : Nat) (h : rnd P n D c X R E k e w) : XC P n D (.loop c) K X R E e w := by
  intro a ha b kk cs
  have key : ∀ k e a w, rnd P n D c X R E k e w → Agree n D a e →
      ∃ x a' w', (∃ e', Agree n D a' e' ∧ post K X R E x e' w') ∧ Arrives P (lone (b.at a (.code c :: .inLoop c :: kk)) cs w) b kk cs x a' w' := by
    intro k
    induction k with
    | zero => intro e a w h _; exact h.elim
    | succ k ih =>
      intro e a w h ha
      obtain ⟨x, a₁, w₁, ⟨e', he', hq⟩, harr⟩ := h a ha b (.inLoop c :: kk) cs
      cases x with
      | normal =>
        obtain ⟨x₂, a₂, w₂, hq₂, harr₂⟩ := ih e' a₁ w₁ hq he'
        exact ⟨x₂, a₂, w₂, hq₂, .of_steps (Steps.trans harr (.one step_inLoop)) harr₂⟩
      | exit id => exact ⟨_, a₁, w₁, ⟨e', he', by exact hq⟩, .pass (x := .inLoop c) rfl (fun _ _ => .inl (by simp)) harr⟩
      | goto l => exact hq.elim
      | ret => exact ⟨_, a₁, w₁, ⟨e', he', by exact hq⟩, .pass (x := .inLoop c) rfl (fun _ _ => .inl (by simp)) harr⟩
      | panic ch => exact ⟨_, a₁, w₁, ⟨e', he', by exact hq⟩, .pass (x := .inLoop c) rfl (fun _ _ => .inl (by simp)) harr⟩
      | outgrown => exact hq.elim
  obtain ⟨x, a', w', hq, harr⟩ := key k e a w h ha
  exact ⟨x, a', w', hq, .of_steps (.one step_loop) harr⟩

theorem rnd.next {c : Code} {k : Nat} (h : XC P n D c (rnd P n D c X R E k) X R E e w) : rnd P n D c X R E (k + 1) e w := h
theorem rnd.cov {c : Code} {k : Nat} (e' : Env) (hc : e'.map (fun p => eget e p.1) = e'.map (fun p => some p.2)) (h : rnd P n D c X R E k e' w) : rnd P n D c X R E k e w := by
  cases k with
  | zero => exact h
  | succ k => exact XC.cov e' (cov_of hc) h
end

/-! arithmetic on uint64 and bytes, as the model has it -/
def uxor (x y : Int) : Int := IntKind.u64.wrap ((BitVec.ofInt IntKind.u64.bits x ^^^ BitVec.ofInt IntKind.u64.bits y).toNat : Int)
def uand (x y : Int) : Int := IntKind.u64.wrap ((BitVec.ofInt IntKind.u64.bits x &&& BitVec.ofInt IntKind.u64.bits y).toNat : Int)
def ushr (x y : Int) : Int := x.fdiv (2 ^ (min y.toNat IntKind.u64.bits))
def uneg (x : Int) : Int := IntKind.u64.wrap (0 - x)
def unot (x : Int) : Int := uxor IntKind.u64.max x
def uw (k : IntKind) (x : Int) : Int := k.wrap x

theorem cv_ok {P : Program} {w : World} {x : Int} (h0 : 0 ≤ x) (h1 : x ≤ 9223372036854775807) : (Sem.pure (.value (I (uw .i64 x))) : Sem Next).run P w = .ok (.value (I x)) w := pv (by unfold uw; rw [wrap_ok (by omega) h1])
theorem uw8_lt (x : Int) : 0 ≤ uw .u8 x ∧ uw .u8 x < 256 := by
  unfold uw
  have h : IntKind.u8.wrap x = x % 256 := by simp [IntKind.wrap, IntKind.bits, IntKind.signed]
  rw [h]
  omega
def sByte (x : Int) : UInt8 := UInt8.ofNat (uw .u8 x).toNat
theorem sByte_val (x : Int) : ((sByte x).toNat : Int) = uw .u8 x := by
  have h := uw8_lt x
  unfold sByte
  rw [UInt8.toNat_ofNat']
  omega
end Go.V
/- Each function of the program is entered when it is called. -/
namespace Go.V
theorem callFunc_enter {P : Program} {f : FuncId} {fn : Func} (hf : P.funcs[f]? = some fn) (hn : (fn.name == "runtime.NumGoroutine") = false) (hb : fn.body.isNone = false) (args : Array Value) (w : World) :
    (callFunc f args).run P w = .ok (.enter f args) w := by
  have h1 : ¬ fn.name = "runtime.NumGoroutine" := fun e => by rw [e] at hn; simp at hn
  have h2 : ¬ fn.body = none := fun e => by rw [e] at hb; simp at hb
  simp [callFunc, hf, h1, h2]
end Go.V
namespace Go.Proofs.YtbajgpadmlnffaaGreat
open Go.V
theorem cf3 (args : Array Value) (w : World) : (callFunc 3 args).run Tryz.prog w = .ok (.enter 3 args) w := callFunc_enter Tryz.func3 (by kernel_rfl) (by kernel_rfl) args w
theorem cf4 (args : Array Value) (w : World) : (callFunc 4 args).run Tryz.prog w = .ok (.enter 4 args) w := callFunc_enter Tryz.func4 (by kernel_rfl) (by kernel_rfl) args w
theorem cf5 (args : Array Value) (w : World) : (callFunc 5 args).run Tryz.prog w = .ok (.enter 5 args) w := callFunc_enter Tryz.func5 (by kernel_rfl) (by kernel_rfl) args w
theorem cf6 (args : Array Value) (w : World) : (callFunc 6 args).run Tryz.prog w = .ok (.enter 6 args) w := callFunc_enter Tryz.func6 (by kernel_rfl) (by kernel_rfl) args w
theorem cf7 (args : Array Value) (w : World) : (callFunc 7 args).run Tryz.prog w = .ok (.enter 7 args) w := callFunc_enter Tryz.func7 (by kernel_rfl) (by kernel_rfl) args w
theorem cf8 (args : Array Value) (w : World) : (callFunc 8 args).run Tryz.prog w = .ok (.enter 8 args) w := callFunc_enter Tryz.func8 (by kernel_rfl) (by kernel_rfl) args w
theorem cf9 (args : Array Value) (w : World) : (callFunc 9 args).run Tryz.prog w = .ok (.enter 9 args) w := callFunc_enter Tryz.func9 (by kernel_rfl) (by kernel_rfl) args w
theorem cf10 (args : Array Value) (w : World) : (callFunc 10 args).run Tryz.prog w = .ok (.enter 10 args) w := callFunc_enter Tryz.func10 (by kernel_rfl) (by kernel_rfl) args w
theorem cf11 (args : Array Value) (w : World) : (callFunc 11 args).run Tryz.prog w = .ok (.enter 11 args) w := callFunc_enter Tryz.func11 (by kernel_rfl) (by kernel_rfl) args w
theorem cf12 (args : Array Value) (w : World) : (callFunc 12 args).run Tryz.prog w = .ok (.enter 12 args) w := callFunc_enter Tryz.func12 (by kernel_rfl) (by kernel_rfl) args w
theorem cf13 (args : Array Value) (w : World) : (callFunc 13 args).run Tryz.prog w = .ok (.enter 13 args) w := callFunc_enter Tryz.func13 (by kernel_rfl) (by kernel_rfl) args w
theorem cf14 (args : Array Value) (w : World) : (callFunc 14 args).run Tryz.prog w = .ok (.enter 14 args) w := callFunc_enter Tryz.func14 (by kernel_rfl) (by kernel_rfl) args w
theorem cf15 (args : Array Value) (w : World) : (callFunc 15 args).run Tryz.prog w = .ok (.enter 15 args) w := callFunc_enter Tryz.func15 (by kernel_rfl) (by kernel_rfl) args w
theorem cf16 (args : Array Value) (w : World) : (callFunc 16 args).run Tryz.prog w = .ok (.enter 16 args) w := callFunc_enter Tryz.func16 (by kernel_rfl) (by kernel_rfl) args w
theorem cf17 (args : Array Value) (w : World) : (callFunc 17 args).run Tryz.prog w = .ok (.enter 17 args) w := callFunc_enter Tryz.func17 (by kernel_rfl) (by kernel_rfl) args w
theorem cf18 (args : Array Value) (w : World) : (callFunc 18 args).run Tryz.prog w = .ok (.enter 18 args) w := callFunc_enter Tryz.func18 (by kernel_rfl) (by kernel_rfl) args w
theorem cf19 (args : Array Value) (w : World) : (callFunc 19 args).run Tryz.prog w = .ok (.enter 19 args) w := callFunc_enter Tryz.func19 (by kernel_rfl) (by kernel_rfl) args w
theorem cf20 (args : Array Value) (w : World) : (callFunc 20 args).run Tryz.prog w = .ok (.enter 20 args) w := callFunc_enter Tryz.func20 (by kernel_rfl) (by kernel_rfl) args w
theorem cf21 (args : Array Value) (w : World) : (callFunc 21 args).run Tryz.prog w = .ok (.enter 21 args) w := callFunc_enter Tryz.func21 (by kernel_rfl) (by kernel_rfl) args w
theorem cf22 (args : Array Value) (w : World) : (callFunc 22 args).run Tryz.prog w = .ok (.enter 22 args) w := callFunc_enter Tryz.func22 (by kernel_rfl) (by kernel_rfl) args w
theorem cf23 (args : Array Value) (w : World) : (callFunc 23 args).run Tryz.prog w = .ok (.enter 23 args) w := callFunc_enter Tryz.func23 (by kernel_rfl) (by kernel_rfl) args w
theorem cf24 (args : Array Value) (w : World) : (callFunc 24 args).run Tryz.prog w = .ok (.enter 24 args) w := callFunc_enter Tryz.func24 (by kernel_rfl) (by kernel_rfl) args w
theorem cf25 (args : Array Value) (w : World) : (callFunc 25 args).run Tryz.prog w = .ok (.enter 25 args) w := callFunc_enter Tryz.func25 (by kernel_rfl) (by kernel_rfl) args w
theorem cf26 (args : Array Value) (w : World) : (callFunc 26 args).run Tryz.prog w = .ok (.enter 26 args) w := callFunc_enter Tryz.func26 (by kernel_rfl) (by kernel_rfl) args w
theorem cf27 (args : Array Value) (w : World) : (callFunc 27 args).run Tryz.prog w = .ok (.enter 27 args) w := callFunc_enter Tryz.func27 (by kernel_rfl) (by kernel_rfl) args w
theorem cf28 (args : Array Value) (w : World) : (callFunc 28 args).run Tryz.prog w = .ok (.enter 28 args) w := callFunc_enter Tryz.func28 (by kernel_rfl) (by kernel_rfl) args w
theorem cf29 (args : Array Value) (w : World) : (callFunc 29 args).run Tryz.prog w = .ok (.enter 29 args) w := callFunc_enter Tryz.func29 (by kernel_rfl) (by kernel_rfl) args w
theorem cf30 (args : Array Value) (w : World) : (callFunc 30 args).run Tryz.prog w = .ok (.enter 30 args) w := callFunc_enter Tryz.func30 (by kernel_rfl) (by kernel_rfl) args w
theorem cf31 (args : Array Value) (w : World) : (callFunc 31 args).run Tryz.prog w = .ok (.enter 31 args) w := callFunc_enter Tryz.func31 (by kernel_rfl) (by kernel_rfl) args w
theorem cf32 (args : Array Value) (w : World) : (callFunc 32 args).run Tryz.prog w = .ok (.enter 32 args) w := callFunc_enter Tryz.func32 (by kernel_rfl) (by kernel_rfl) args w
theorem cf33 (args : Array Value) (w : World) : (callFunc 33 args).run Tryz.prog w = .ok (.enter 33 args) w := callFunc_enter Tryz.func33 (by kernel_rfl) (by kernel_rfl) args w
theorem cf34 (args : Array Value) (w : World) : (callFunc 34 args).run Tryz.prog w = .ok (.enter 34 args) w := callFunc_enter Tryz.func34 (by kernel_rfl) (by kernel_rfl) args w
theorem cf35 (args : Array Value) (w : World) : (callFunc 35 args).run Tryz.prog w = .ok (.enter 35 args) w := callFunc_enter Tryz.func35 (by kernel_rfl) (by kernel_rfl) args w
theorem cf36 (args : Array Value) (w : World) : (callFunc 36 args).run Tryz.prog w = .ok (.enter 36 args) w := callFunc_enter Tryz.func36 (by kernel_rfl) (by kernel_rfl) args w
theorem cf37 (args : Array Value) (w : World) : (callFunc 37 args).run Tryz.prog w = .ok (.enter 37 args) w := callFunc_enter Tryz.func37 (by kernel_rfl) (by kernel_rfl) args w
theorem cf38 (args : Array Value) (w : World) : (callFunc 38 args).run Tryz.prog w = .ok (.enter 38 args) w := callFunc_enter Tryz.func38 (by kernel_rfl) (by kernel_rfl) args w
theorem cf39 (args : Array Value) (w : World) : (callFunc 39 args).run Tryz.prog w = .ok (.enter 39 args) w := callFunc_enter Tryz.func39 (by kernel_rfl) (by kernel_rfl) args w
theorem cf40 (args : Array Value) (w : World) : (callFunc 40 args).run Tryz.prog w = .ok (.enter 40 args) w := callFunc_enter Tryz.func40 (by kernel_rfl) (by kernel_rfl) args w
theorem cf41 (args : Array Value) (w : World) : (callFunc 41 args).run Tryz.prog w = .ok (.enter 41 args) w := callFunc_enter Tryz.func41 (by kernel_rfl) (by kernel_rfl) args w
theorem cf42 (args : Array Value) (w : World) : (callFunc 42 args).run Tryz.prog w = .ok (.enter 42 args) w := callFunc_enter Tryz.func42 (by kernel_rfl) (by kernel_rfl) args w
theorem cf43 (args : Array Value) (w : World) : (callFunc 43 args).run Tryz.prog w = .ok (.enter 43 args) w := callFunc_enter Tryz.func43 (by kernel_rfl) (by kernel_rfl) args w
theorem cf44 (args : Array Value) (w : World) : (callFunc 44 args).run Tryz.prog w = .ok (.enter 44 args) w := callFunc_enter Tryz.func44 (by kernel_rfl) (by kernel_rfl) args w
theorem cf45 (args : Array Value) (w : World) : (callFunc 45 args).run Tryz.prog w = .ok (.enter 45 args) w := callFunc_enter Tryz.func45 (by kernel_rfl) (by kernel_rfl) args w
theorem cf46 (args : Array Value) (w : World) : (callFunc 46 args).run Tryz.prog w = .ok (.enter 46 args) w := callFunc_enter Tryz.func46 (by kernel_rfl) (by kernel_rfl) args w
theorem cf47 (args : Array Value) (w : World) : (callFunc 47 args).run Tryz.prog w = .ok (.enter 47 args) w := callFunc_enter Tryz.func47 (by kernel_rfl) (by kernel_rfl) args w
theorem cf48 (args : Array Value) (w : World) : (callFunc 48 args).run Tryz.prog w = .ok (.enter 48 args) w := callFunc_enter Tryz.func48 (by kernel_rfl) (by kernel_rfl) args w
theorem cf49 (args : Array Value) (w : World) : (callFunc 49 args).run Tryz.prog w = .ok (.enter 49 args) w := callFunc_enter Tryz.func49 (by kernel_rfl) (by kernel_rfl) args w
theorem cf50 (args : Array Value) (w : World) : (callFunc 50 args).run Tryz.prog w = .ok (.enter 50 args) w := callFunc_enter Tryz.func50 (by kernel_rfl) (by kernel_rfl) args w
theorem cf51 (args : Array Value) (w : World) : (callFunc 51 args).run Tryz.prog w = .ok (.enter 51 args) w := callFunc_enter Tryz.func51 (by kernel_rfl) (by kernel_rfl) args w
theorem cf52 (args : Array Value) (w : World) : (callFunc 52 args).run Tryz.prog w = .ok (.enter 52 args) w := callFunc_enter Tryz.func52 (by kernel_rfl) (by kernel_rfl) args w
theorem cf53 (args : Array Value) (w : World) : (callFunc 53 args).run Tryz.prog w = .ok (.enter 53 args) w := callFunc_enter Tryz.func53 (by kernel_rfl) (by kernel_rfl) args w
theorem cf54 (args : Array Value) (w : World) : (callFunc 54 args).run Tryz.prog w = .ok (.enter 54 args) w := callFunc_enter Tryz.func54 (by kernel_rfl) (by kernel_rfl) args w
theorem cf55 (args : Array Value) (w : World) : (callFunc 55 args).run Tryz.prog w = .ok (.enter 55 args) w := callFunc_enter Tryz.func55 (by kernel_rfl) (by kernel_rfl) args w
theorem cf56 (args : Array Value) (w : World) : (callFunc 56 args).run Tryz.prog w = .ok (.enter 56 args) w := callFunc_enter Tryz.func56 (by kernel_rfl) (by kernel_rfl) args w
theorem cf57 (args : Array Value) (w : World) : (callFunc 57 args).run Tryz.prog w = .ok (.enter 57 args) w := callFunc_enter Tryz.func57 (by kernel_rfl) (by kernel_rfl) args w
theorem cf58 (args : Array Value) (w : World) : (callFunc 58 args).run Tryz.prog w = .ok (.enter 58 args) w := callFunc_enter Tryz.func58 (by kernel_rfl) (by kernel_rfl) args w
theorem cf59 (args : Array Value) (w : World) : (callFunc 59 args).run Tryz.prog w = .ok (.enter 59 args) w := callFunc_enter Tryz.func59 (by kernel_rfl) (by kernel_rfl) args w
theorem cf60 (args : Array Value) (w : World) : (callFunc 60 args).run Tryz.prog w = .ok (.enter 60 args) w := callFunc_enter Tryz.func60 (by kernel_rfl) (by kernel_rfl) args w
theorem cf61 (args : Array Value) (w : World) : (callFunc 61 args).run Tryz.prog w = .ok (.enter 61 args) w := callFunc_enter Tryz.func61 (by kernel_rfl) (by kernel_rfl) args w
theorem cf62 (args : Array Value) (w : World) : (callFunc 62 args).run Tryz.prog w = .ok (.enter 62 args) w := callFunc_enter Tryz.func62 (by kernel_rfl) (by kernel_rfl) args w
theorem cf63 (args : Array Value) (w : World) : (callFunc 63 args).run Tryz.prog w = .ok (.enter 63 args) w := callFunc_enter Tryz.func63 (by kernel_rfl) (by kernel_rfl) args w
theorem cf64 (args : Array Value) (w : World) : (callFunc 64 args).run Tryz.prog w = .ok (.enter 64 args) w := callFunc_enter Tryz.func64 (by kernel_rfl) (by kernel_rfl) args w
theorem cf65 (args : Array Value) (w : World) : (callFunc 65 args).run Tryz.prog w = .ok (.enter 65 args) w := callFunc_enter Tryz.func65 (by kernel_rfl) (by kernel_rfl) args w
theorem cf66 (args : Array Value) (w : World) : (callFunc 66 args).run Tryz.prog w = .ok (.enter 66 args) w := callFunc_enter Tryz.func66 (by kernel_rfl) (by kernel_rfl) args w
theorem cf67 (args : Array Value) (w : World) : (callFunc 67 args).run Tryz.prog w = .ok (.enter 67 args) w := callFunc_enter Tryz.func67 (by kernel_rfl) (by kernel_rfl) args w
theorem cf68 (args : Array Value) (w : World) : (callFunc 68 args).run Tryz.prog w = .ok (.enter 68 args) w := callFunc_enter Tryz.func68 (by kernel_rfl) (by kernel_rfl) args w
theorem cf69 (args : Array Value) (w : World) : (callFunc 69 args).run Tryz.prog w = .ok (.enter 69 args) w := callFunc_enter Tryz.func69 (by kernel_rfl) (by kernel_rfl) args w
theorem cf70 (args : Array Value) (w : World) : (callFunc 70 args).run Tryz.prog w = .ok (.enter 70 args) w := callFunc_enter Tryz.func70 (by kernel_rfl) (by kernel_rfl) args w
theorem cf71 (args : Array Value) (w : World) : (callFunc 71 args).run Tryz.prog w = .ok (.enter 71 args) w := callFunc_enter Tryz.func71 (by kernel_rfl) (by kernel_rfl) args w
theorem cf72 (args : Array Value) (w : World) : (callFunc 72 args).run Tryz.prog w = .ok (.enter 72 args) w := callFunc_enter Tryz.func72 (by kernel_rfl) (by kernel_rfl) args w
theorem cf73 (args : Array Value) (w : World) : (callFunc 73 args).run Tryz.prog w = .ok (.enter 73 args) w := callFunc_enter Tryz.func73 (by kernel_rfl) (by kernel_rfl) args w
theorem cf74 (args : Array Value) (w : World) : (callFunc 74 args).run Tryz.prog w = .ok (.enter 74 args) w := callFunc_enter Tryz.func74 (by kernel_rfl) (by kernel_rfl) args w
theorem cf75 (args : Array Value) (w : World) : (callFunc 75 args).run Tryz.prog w = .ok (.enter 75 args) w := callFunc_enter Tryz.func75 (by kernel_rfl) (by kernel_rfl) args w
theorem cf76 (args : Array Value) (w : World) : (callFunc 76 args).run Tryz.prog w = .ok (.enter 76 args) w := callFunc_enter Tryz.func76 (by kernel_rfl) (by kernel_rfl) args w
theorem cf77 (args : Array Value) (w : World) : (callFunc 77 args).run Tryz.prog w = .ok (.enter 77 args) w := callFunc_enter Tryz.func77 (by kernel_rfl) (by kernel_rfl) args w
theorem cf78 (args : Array Value) (w : World) : (callFunc 78 args).run Tryz.prog w = .ok (.enter 78 args) w := callFunc_enter Tryz.func78 (by kernel_rfl) (by kernel_rfl) args w
theorem cf79 (args : Array Value) (w : World) : (callFunc 79 args).run Tryz.prog w = .ok (.enter 79 args) w := callFunc_enter Tryz.func79 (by kernel_rfl) (by kernel_rfl) args w
theorem cf80 (args : Array Value) (w : World) : (callFunc 80 args).run Tryz.prog w = .ok (.enter 80 args) w := callFunc_enter Tryz.func80 (by kernel_rfl) (by kernel_rfl) args w
theorem cf81 (args : Array Value) (w : World) : (callFunc 81 args).run Tryz.prog w = .ok (.enter 81 args) w := callFunc_enter Tryz.func81 (by kernel_rfl) (by kernel_rfl) args w
theorem cf82 (args : Array Value) (w : World) : (callFunc 82 args).run Tryz.prog w = .ok (.enter 82 args) w := callFunc_enter Tryz.func82 (by kernel_rfl) (by kernel_rfl) args w
theorem cf83 (args : Array Value) (w : World) : (callFunc 83 args).run Tryz.prog w = .ok (.enter 83 args) w := callFunc_enter Tryz.func83 (by kernel_rfl) (by kernel_rfl) args w
theorem cf84 (args : Array Value) (w : World) : (callFunc 84 args).run Tryz.prog w = .ok (.enter 84 args) w := callFunc_enter Tryz.func84 (by kernel_rfl) (by kernel_rfl) args w
theorem cf85 (args : Array Value) (w : World) : (callFunc 85 args).run Tryz.prog w = .ok (.enter 85 args) w := callFunc_enter Tryz.func85 (by kernel_rfl) (by kernel_rfl) args w
theorem cf86 (args : Array Value) (w : World) : (callFunc 86 args).run Tryz.prog w = .ok (.enter 86 args) w := callFunc_enter Tryz.func86 (by kernel_rfl) (by kernel_rfl) args w
theorem cf87 (args : Array Value) (w : World) : (callFunc 87 args).run Tryz.prog w = .ok (.enter 87 args) w := callFunc_enter Tryz.func87 (by kernel_rfl) (by kernel_rfl) args w
theorem cf88 (args : Array Value) (w : World) : (callFunc 88 args).run Tryz.prog w = .ok (.enter 88 args) w := callFunc_enter Tryz.func88 (by kernel_rfl) (by kernel_rfl) args w
theorem cf89 (args : Array Value) (w : World) : (callFunc 89 args).run Tryz.prog w = .ok (.enter 89 args) w := callFunc_enter Tryz.func89 (by kernel_rfl) (by kernel_rfl) args w
theorem cf90 (args : Array Value) (w : World) : (callFunc 90 args).run Tryz.prog w = .ok (.enter 90 args) w := callFunc_enter Tryz.func90 (by kernel_rfl) (by kernel_rfl) args w
theorem cf91 (args : Array Value) (w : World) : (callFunc 91 args).run Tryz.prog w = .ok (.enter 91 args) w := callFunc_enter Tryz.func91 (by kernel_rfl) (by kernel_rfl) args w
theorem cf92 (args : Array Value) (w : World) : (callFunc 92 args).run Tryz.prog w = .ok (.enter 92 args) w := callFunc_enter Tryz.func92 (by kernel_rfl) (by kernel_rfl) args w
theorem cf93 (args : Array Value) (w : World) : (callFunc 93 args).run Tryz.prog w = .ok (.enter 93 args) w := callFunc_enter Tryz.func93 (by kernel_rfl) (by kernel_rfl) args w
theorem cf94 (args : Array Value) (w : World) : (callFunc 94 args).run Tryz.prog w = .ok (.enter 94 args) w := callFunc_enter Tryz.func94 (by kernel_rfl) (by kernel_rfl) args w
theorem cf95 (args : Array Value) (w : World) : (callFunc 95 args).run Tryz.prog w = .ok (.enter 95 args) w := callFunc_enter Tryz.func95 (by kernel_rfl) (by kernel_rfl) args w
theorem cf96 (args : Array Value) (w : World) : (callFunc 96 args).run Tryz.prog w = .ok (.enter 96 args) w := callFunc_enter Tryz.func96 (by kernel_rfl) (by kernel_rfl) args w
theorem cf97 (args : Array Value) (w : World) : (callFunc 97 args).run Tryz.prog w = .ok (.enter 97 args) w := callFunc_enter Tryz.func97 (by kernel_rfl) (by kernel_rfl) args w
theorem cf98 (args : Array Value) (w : World) : (callFunc 98 args).run Tryz.prog w = .ok (.enter 98 args) w := callFunc_enter Tryz.func98 (by kernel_rfl) (by kernel_rfl) args w
theorem cf99 (args : Array Value) (w : World) : (callFunc 99 args).run Tryz.prog w = .ok (.enter 99 args) w := callFunc_enter Tryz.func99 (by kernel_rfl) (by kernel_rfl) args w
theorem cf100 (args : Array Value) (w : World) : (callFunc 100 args).run Tryz.prog w = .ok (.enter 100 args) w := callFunc_enter Tryz.func100 (by kernel_rfl) (by kernel_rfl) args w
theorem cf101 (args : Array Value) (w : World) : (callFunc 101 args).run Tryz.prog w = .ok (.enter 101 args) w := callFunc_enter Tryz.func101 (by kernel_rfl) (by kernel_rfl) args w
theorem cf102 (args : Array Value) (w : World) : (callFunc 102 args).run Tryz.prog w = .ok (.enter 102 args) w := callFunc_enter Tryz.func102 (by kernel_rfl) (by kernel_rfl) args w
theorem cf103 (args : Array Value) (w : World) : (callFunc 103 args).run Tryz.prog w = .ok (.enter 103 args) w := callFunc_enter Tryz.func103 (by kernel_rfl) (by kernel_rfl) args w
theorem cf104 (args : Array Value) (w : World) : (callFunc 104 args).run Tryz.prog w = .ok (.enter 104 args) w := callFunc_enter Tryz.func104 (by kernel_rfl) (by kernel_rfl) args w
theorem cf105 (args : Array Value) (w : World) : (callFunc 105 args).run Tryz.prog w = .ok (.enter 105 args) w := callFunc_enter Tryz.func105 (by kernel_rfl) (by kernel_rfl) args w
theorem cf106 (args : Array Value) (w : World) : (callFunc 106 args).run Tryz.prog w = .ok (.enter 106 args) w := callFunc_enter Tryz.func106 (by kernel_rfl) (by kernel_rfl) args w
theorem cf107 (args : Array Value) (w : World) : (callFunc 107 args).run Tryz.prog w = .ok (.enter 107 args) w := callFunc_enter Tryz.func107 (by kernel_rfl) (by kernel_rfl) args w
theorem cf108 (args : Array Value) (w : World) : (callFunc 108 args).run Tryz.prog w = .ok (.enter 108 args) w := callFunc_enter Tryz.func108 (by kernel_rfl) (by kernel_rfl) args w
theorem cf109 (args : Array Value) (w : World) : (callFunc 109 args).run Tryz.prog w = .ok (.enter 109 args) w := callFunc_enter Tryz.func109 (by kernel_rfl) (by kernel_rfl) args w
theorem cf110 (args : Array Value) (w : World) : (callFunc 110 args).run Tryz.prog w = .ok (.enter 110 args) w := callFunc_enter Tryz.func110 (by kernel_rfl) (by kernel_rfl) args w
theorem cf111 (args : Array Value) (w : World) : (callFunc 111 args).run Tryz.prog w = .ok (.enter 111 args) w := callFunc_enter Tryz.func111 (by kernel_rfl) (by kernel_rfl) args w
theorem cf112 (args : Array Value) (w : World) : (callFunc 112 args).run Tryz.prog w = .ok (.enter 112 args) w := callFunc_enter Tryz.func112 (by kernel_rfl) (by kernel_rfl) args w
theorem cf113 (args : Array Value) (w : World) : (callFunc 113 args).run Tryz.prog w = .ok (.enter 113 args) w := callFunc_enter Tryz.func113 (by kernel_rfl) (by kernel_rfl) args w
theorem cf114 (args : Array Value) (w : World) : (callFunc 114 args).run Tryz.prog w = .ok (.enter 114 args) w := callFunc_enter Tryz.func114 (by kernel_rfl) (by kernel_rfl) args w
theorem cf115 (args : Array Value) (w : World) : (callFunc 115 args).run Tryz.prog w = .ok (.enter 115 args) w := callFunc_enter Tryz.func115 (by kernel_rfl) (by kernel_rfl) args w
theorem cf116 (args : Array Value) (w : World) : (callFunc 116 args).run Tryz.prog w = .ok (.enter 116 args) w := callFunc_enter Tryz.func116 (by kernel_rfl) (by kernel_rfl) args w
theorem cf117 (args : Array Value) (w : World) : (callFunc 117 args).run Tryz.prog w = .ok (.enter 117 args) w := callFunc_enter Tryz.func117 (by kernel_rfl) (by kernel_rfl) args w
theorem cf118 (args : Array Value) (w : World) : (callFunc 118 args).run Tryz.prog w = .ok (.enter 118 args) w := callFunc_enter Tryz.func118 (by kernel_rfl) (by kernel_rfl) args w
theorem cf119 (args : Array Value) (w : World) : (callFunc 119 args).run Tryz.prog w = .ok (.enter 119 args) w := callFunc_enter Tryz.func119 (by kernel_rfl) (by kernel_rfl) args w
theorem cf120 (args : Array Value) (w : World) : (callFunc 120 args).run Tryz.prog w = .ok (.enter 120 args) w := callFunc_enter Tryz.func120 (by kernel_rfl) (by kernel_rfl) args w
theorem cf121 (args : Array Value) (w : World) : (callFunc 121 args).run Tryz.prog w = .ok (.enter 121 args) w := callFunc_enter Tryz.func121 (by kernel_rfl) (by kernel_rfl) args w
theorem cf122 (args : Array Value) (w : World) : (callFunc 122 args).run Tryz.prog w = .ok (.enter 122 args) w := callFunc_enter Tryz.func122 (by kernel_rfl) (by kernel_rfl) args w
theorem cf123 (args : Array Value) (w : World) : (callFunc 123 args).run Tryz.prog w = .ok (.enter 123 args) w := callFunc_enter Tryz.func123 (by kernel_rfl) (by kernel_rfl) args w
theorem cf124 (args : Array Value) (w : World) : (callFunc 124 args).run Tryz.prog w = .ok (.enter 124 args) w := callFunc_enter Tryz.func124 (by kernel_rfl) (by kernel_rfl) args w
theorem cf125 (args : Array Value) (w : World) : (callFunc 125 args).run Tryz.prog w = .ok (.enter 125 args) w := callFunc_enter Tryz.func125 (by kernel_rfl) (by kernel_rfl) args w
theorem cf126 (args : Array Value) (w : World) : (callFunc 126 args).run Tryz.prog w = .ok (.enter 126 args) w := callFunc_enter Tryz.func126 (by kernel_rfl) (by kernel_rfl) args w
theorem cf127 (args : Array Value) (w : World) : (callFunc 127 args).run Tryz.prog w = .ok (.enter 127 args) w := callFunc_enter Tryz.func127 (by kernel_rfl) (by kernel_rfl) args w
theorem cf128 (args : Array Value) (w : World) : (callFunc 128 args).run Tryz.prog w = .ok (.enter 128 args) w := callFunc_enter Tryz.func128 (by kernel_rfl) (by kernel_rfl) args w
theorem cf129 (args : Array Value) (w : World) : (callFunc 129 args).run Tryz.prog w = .ok (.enter 129 args) w := callFunc_enter Tryz.func129 (by kernel_rfl) (by kernel_rfl) args w
theorem cf130 (args : Array Value) (w : World) : (callFunc 130 args).run Tryz.prog w = .ok (.enter 130 args) w := callFunc_enter Tryz.func130 (by kernel_rfl) (by kernel_rfl) args w
theorem cf131 (args : Array Value) (w : World) : (callFunc 131 args).run Tryz.prog w = .ok (.enter 131 args) w := callFunc_enter Tryz.func131 (by kernel_rfl) (by kernel_rfl) args w
theorem cf132 (args : Array Value) (w : World) : (callFunc 132 args).run Tryz.prog w = .ok (.enter 132 args) w := callFunc_enter Tryz.func132 (by kernel_rfl) (by kernel_rfl) args w
theorem cf133 (args : Array Value) (w : World) : (callFunc 133 args).run Tryz.prog w = .ok (.enter 133 args) w := callFunc_enter Tryz.func133 (by kernel_rfl) (by kernel_rfl) args w
theorem cf134 (args : Array Value) (w : World) : (callFunc 134 args).run Tryz.prog w = .ok (.enter 134 args) w := callFunc_enter Tryz.func134 (by kernel_rfl) (by kernel_rfl) args w
theorem cf135 (args : Array Value) (w : World) : (callFunc 135 args).run Tryz.prog w = .ok (.enter 135 args) w := callFunc_enter Tryz.func135 (by kernel_rfl) (by kernel_rfl) args w
theorem cf136 (args : Array Value) (w : World) : (callFunc 136 args).run Tryz.prog w = .ok (.enter 136 args) w := callFunc_enter Tryz.func136 (by kernel_rfl) (by kernel_rfl) args w
theorem cf137 (args : Array Value) (w : World) : (callFunc 137 args).run Tryz.prog w = .ok (.enter 137 args) w := callFunc_enter Tryz.func137 (by kernel_rfl) (by kernel_rfl) args w
theorem cf138 (args : Array Value) (w : World) : (callFunc 138 args).run Tryz.prog w = .ok (.enter 138 args) w := callFunc_enter Tryz.func138 (by kernel_rfl) (by kernel_rfl) args w
theorem cf139 (args : Array Value) (w : World) : (callFunc 139 args).run Tryz.prog w = .ok (.enter 139 args) w := callFunc_enter Tryz.func139 (by kernel_rfl) (by kernel_rfl) args w
theorem cf140 (args : Array Value) (w : World) : (callFunc 140 args).run Tryz.prog w = .ok (.enter 140 args) w := callFunc_enter Tryz.func140 (by kernel_rfl) (by kernel_rfl) args w
theorem cf141 (args : Array Value) (w : World) : (callFunc 141 args).run Tryz.prog w = .ok (.enter 141 args) w := callFunc_enter Tryz.func141 (by kernel_rfl) (by kernel_rfl) args w
theorem cf142 (args : Array Value) (w : World) : (callFunc 142 args).run Tryz.prog w = .ok (.enter 142 args) w := callFunc_enter Tryz.func142 (by kernel_rfl) (by kernel_rfl) args w
theorem cf143 (args : Array Value) (w : World) : (callFunc 143 args).run Tryz.prog w = .ok (.enter 143 args) w := callFunc_enter Tryz.func143 (by kernel_rfl) (by kernel_rfl) args w
theorem cf144 (args : Array Value) (w : World) : (callFunc 144 args).run Tryz.prog w = .ok (.enter 144 args) w := callFunc_enter Tryz.func144 (by kernel_rfl) (by kernel_rfl) args w
theorem cf145 (args : Array Value) (w : World) : (callFunc 145 args).run Tryz.prog w = .ok (.enter 145 args) w := callFunc_enter Tryz.func145 (by kernel_rfl) (by kernel_rfl) args w
end Go.Proofs.YtbajgpadmlnffaaGreat
/- A device and a store as they lie in memory. -/
namespace Go.Proofs.YtbajgpadmlnffaaGreat
open Go.V

/-- What a device holds. -/
structure Dv where
  left : Int
  burns : Bool
  off : Bool
  n : Int
  kept : Int → Option ByteArray
  dirty : Int → Option ByteArray

def upd {α : Type} (f : Int → Option α) (k : Int) (x : α) : Int → Option α := fun j => if k = j then some x else f j

/-- A map told by what it gives. -/
def MapF {α : Type} (w : World) (m : Nat) (enc : α → Value) (g : Int → Option α) : Prop := ∃ f, MapAt w m enc f ∧ ∀ k, mfind f k = g k

structure DAd where
  d : Nat
  mkp : Nat
  mdt : Nat

structure DvAt (w : World) (a : DAd) (δ : Dv) : Prop where
  bd : Blk w a.d 109 [I δ.left, B δ.burns, B δ.off, I δ.n, .map (some a.mkp), .map (some a.mdt)]
  kp : MapF w a.mkp S δ.kept
  dt : MapF w a.mdt S δ.dirty
  ne : a.mkp ≠ a.mdt

theorem MapF.ext {α : Type} {w w' : World} {m : Nat} {enc : α → Value} {g : Int → Option α} {M : Nat → Prop} (h : MapF w m enc g) (hx : Ext M w w') (hm : ¬ M m) : MapF w' m enc g :=
  let ⟨f, h1, h2⟩ := h; ⟨f, h1.ext hx hm, h2⟩
theorem MapF.lt {α : Type} {w : World} {m : Nat} {enc : α → Value} {g : Int → Option α} (h : MapF w m enc g) : m < w.heap.size := let ⟨_, h1, _⟩ := h; h1.lt

theorem MapF.ne {α : Type} {w : World} {m b : Nat} {enc : α → Value} {g : Int → Option α} {t : TypeId} {cs : List Value} (h : MapF w m enc g) (hb : Blk w b t cs) : m ≠ b := let ⟨_, h1, _⟩ := h; MapAt.ne h1 hb
theorem MapF.put {α : Type} {w : World} {m : Nat} {enc : α → Value} {f : List (Int × α)} {g : Int → Option α} (h : ∀ k, mfind f k = g k) {k : Int} {x : α} (h2 : MapAt w m enc (mput f k x)) : MapF w m enc (upd g k x) :=
  ⟨_, h2, fun j => by rw [mfind_put, upd, h]⟩

def DAd.fp (a : DAd) : Nat → Prop := fun b => b = a.d ∨ b = a.mkp ∨ b = a.mdt

theorem DvAt.ext {w w' : World} {a : DAd} {δ : Dv} {M : Nat → Prop} (h : DvAt w a δ) (hx : Ext M w w') (hm : ∀ b, a.fp b → ¬ M b) : DvAt w' a δ :=
  ⟨h.bd.ext hx (hm _ (.inl rfl)), h.kp.ext hx (hm _ (.inr (.inl rfl))), h.dt.ext hx (hm _ (.inr (.inr rfl))), h.ne⟩
theorem DvAt.lt {w : World} {a : DAd} {δ : Dv} (h : DvAt w a δ) {b : Nat} (hb : a.fp b) : b < w.heap.size := by
  rcases hb with rfl | rfl | rfl
  · exact h.bd.lt
  · exact h.kp.lt
  · exact h.dt.lt

end Go.Proofs.YtbajgpadmlnffaaGreat
/- The elements of this program's slices; the sums of bytes. -/
namespace Go.V
theorem Own.ne_map {α β : Type} {k : Kd α} {w : World} {base cap m : Nat} {A : Option Addr} {xs : List α} (h : Own k w base A cap xs) {enc : β → Value} {f : List (Int × β)} (hb : MapAt w m enc f) : ¬ OwnB A m := by
  rintro ⟨o, rfl⟩
  rcases h with ⟨h, _⟩ | ⟨g, rest, h1, _, h3, _⟩
  · cases h
  · injection h1 with h1; injection h1 with h1; subst h1
    obtain ⟨es, c, h4, _⟩ := hb.is
    unfold Blk at h3
    rw [h3] at h4
    cases h4
end Go.V
namespace Go.Proofs.YtbajgpadmlnffaaGreat
open Go.V

structure Change where
  key : ByteArray
  val : ByteArray
  gone : Bool
structure Entry where
  key : ByteArray
  val : ByteArray
structure Item where
  key : ByteArray
  val : ByteArray
  kid : Int
structure Top where
  key : ByteArray
  val : ByteArray
  id : Int
  level : Int
structure Kid where
  key : ByteArray
  id : Int

def kInt : Kd Int := { ty := 3, sz := 1, bytes := 8, enc := fun x => [I x], len := fun _ => rfl, pos := by decide, cell := fun _ v hv => by simp at hv; subst hv; rfl }
def kChange : Kd Change := { ty := 34, sz := 3, bytes := 40, enc := fun x => [S x.key, S x.val, B x.gone], len := fun _ => rfl, pos := by decide, cell := fun _ v hv => by simp at hv; rcases hv with rfl | rfl | rfl <;> rfl }
def kEntry : Kd Entry := { ty := 38, sz := 2, bytes := 32, enc := fun x => [S x.key, S x.val], len := fun _ => rfl, pos := by decide, cell := fun _ v hv => by simp at hv; rcases hv with rfl | rfl <;> rfl }
def kItem : Kd Item := { ty := 119, sz := 3, bytes := 40, enc := fun x => [S x.key, S x.val, I x.kid], len := fun _ => rfl, pos := by decide, cell := fun _ v hv => by simp at hv; rcases hv with rfl | rfl | rfl <;> rfl }
def kTop : Kd Top := { ty := 127, sz := 4, bytes := 48, enc := fun x => [S x.key, S x.val, I x.id, I x.level], len := fun _ => rfl, pos := by decide, cell := fun _ v hv => by simp at hv; rcases hv with rfl | rfl | rfl | rfl <;> rfl }
def kKid : Kd Kid := { ty := 176, sz := 2, bytes := 24, enc := fun x => [S x.key, I x.id], len := fun _ => rfl, pos := by decide, cell := fun _ v hv => by simp at hv; rcases hv with rfl | rfl <;> rfl }

theorem pU8 : KdP Tryz.prog (kU8 5) 76 := ⟨by kernel_rfl, ((Tryz.prog.info? 5).getD default), ((((Tryz.prog.info? 5).getD default).zero).getD default), by kernel_rfl, by kernel_rfl, by kernel_rfl, by kernel_rfl, by kernel_rfl⟩
theorem pInt : KdP Tryz.prog kInt 90 := ⟨by kernel_rfl, ((Tryz.prog.info? 3).getD default), ((((Tryz.prog.info? 3).getD default).zero).getD default), by kernel_rfl, by kernel_rfl, by kernel_rfl, by kernel_rfl, by kernel_rfl⟩
theorem pChange : KdP Tryz.prog kChange 22 := ⟨by kernel_rfl, ((Tryz.prog.info? 34).getD default), ((((Tryz.prog.info? 34).getD default).zero).getD default), by kernel_rfl, by kernel_rfl, by kernel_rfl, by kernel_rfl, by kernel_rfl⟩
theorem pEntry : KdP Tryz.prog kEntry 36 := ⟨by kernel_rfl, ((Tryz.prog.info? 38).getD default), ((((Tryz.prog.info? 38).getD default).zero).getD default), by kernel_rfl, by kernel_rfl, by kernel_rfl, by kernel_rfl, by kernel_rfl⟩
theorem pItem : KdP Tryz.prog kItem 111 := ⟨by kernel_rfl, ((Tryz.prog.info? 119).getD default), ((((Tryz.prog.info? 119).getD default).zero).getD default), by kernel_rfl, by kernel_rfl, by kernel_rfl, by kernel_rfl, by kernel_rfl⟩
theorem pTop : KdP Tryz.prog kTop 68 := ⟨by kernel_rfl, ((Tryz.prog.info? 127).getD default), ((((Tryz.prog.info? 127).getD default).zero).getD default), by kernel_rfl, by kernel_rfl, by kernel_rfl, by kernel_rfl, by kernel_rfl⟩
theorem pKid : KdP Tryz.prog kKid 172 := ⟨by kernel_rfl, ((Tryz.prog.info? 176).getD default), ((((Tryz.prog.info? 176).getD default).zero).getD default), by kernel_rfl, by kernel_rfl, by kernel_rfl, by kernel_rfl, by kernel_rfl⟩

/-! the sum of bytes -/
def cbit (c : Int) : Int := uxor (ushr c 1) (uand 14514072000185962306 (uneg (uand c 1)))
def cbits : Nat → Int → Int
  | 0, c => c
  | k + 1, c => cbit (cbits k c)
def cbyte (c : Int) (b : UInt8) : Int := cbits 8 (uxor c (uw .u64 (b.toNat : Int)))
def crcM (s : Int) (l : List UInt8) : Int := unot (l.foldl cbyte (unot s))
def sumL (c : Int) : List UInt8 := [sByte (ushr c 0), sByte (ushr c 8), sByte (ushr c 16), sByte (ushr c 24), sByte (ushr c 32), sByte (ushr c 40), sByte (ushr c 48), sByte (ushr c 56)]
def sumS (s : ByteArray) : ByteArray := ⟨(sumL (crcM 0 s.data.toList)).toArray⟩
def seal_ (s : ByteArray) : ByteArray := s ++ sumS s

theorem rd_sum {w : World} {b e : Nat} {T : TypeId} {c : Int} (h : Blk w b T [.int .u8 (uw .u8 (ushr c 0)), .int .u8 (uw .u8 (ushr c 8)), .int .u8 (uw .u8 (ushr c 16)), .int .u8 (uw .u8 (ushr c 24)), .int .u8 (uw .u8 (ushr c 32)), .int .u8 (uw .u8 (ushr c 40)), .int .u8 (uw .u8 (ushr c 48)), .int .u8 (uw .u8 (ushr c 56))]) :
    Rd (kU8 e) w b (b + 1) (some ⟨b, 0, none⟩) (sumL c) := by
  refine .inr ⟨b, 0, rfl, Nat.le_refl _, Nat.lt_succ_self _, ?_⟩
  have h2 := h.cs
  rw [kU8_all]
  simp only [sumL, List.map_cons, List.map_nil, sByte_val]
  exact h2
end Go.Proofs.YtbajgpadmlnffaaGreat
/- A function that defers one closure; a deferred closure that recovers. -/
namespace Go.V
section
variable {P : Program} {n : Nat} {D : List Deferred} {e : Env} {w : World}

theorem agree_args {args : List Value} (hn' : Nat.ble args.length n = true) : Agree n [] { tmps := args.toArray ++ Array.replicate (n - args.toArray.size) undef, defers := [] } (argEnv 0 args) := by
  have hn := Nat.le_of_ble_eq_true hn'
  refine ⟨by simp; omega, rfl, fun t v hv => ?_⟩
  obtain ⟨_, h2⟩ := argEnv_get _ _ _ _ hv
  simp only [Nat.sub_zero] at h2
  have ht : t < args.length := (List.getElem?_eq_some_iff.1 h2).1
  show (args.toArray ++ Array.replicate (n - args.toArray.size) undef)[t]? = some v
  rw [Array.getElem?_append_left (by simpa using ht)]
  simpa using h2

/-- From code over an environment to the machine's own. -/
theorem wp_of_XC {x y : Code} {Q : Exit → Act → World → Prop} {a : Act} (ha : Agree n D a e) (E : List PanicEntry → Env → World → Prop)
    (hE : ∀ ch e a w, E ch e w → Agree n D a e → Q (.panic ch) a w)
    (h : XC P n D x (fun e w => ∀ a, Agree n D a e → y.wp P Q a w) (fun _ _ _ => False) (fun _ _ => False) E e w) : (Code.seq x y).wp P Q a w := by
  refine wp_seq (wp_mono (h a ha) ?_)
  rintro x a' w' ⟨e', h1, h2⟩
  cases x with
  | normal => exact h2 a' h1
  | panic ch => exact hE ch e' a' w' h2 h1
  | exit id => exact h2.elim
  | ret => exact h2.elim
  | goto l => exact h2.elim
  | outgrown => exact h2.elim

theorem wpList_of_run {l : List Oper} {Q : Exit → Act → World → Prop} : ∀ (k : Nat) (r : List Oper) (e : Env) (w : World) (e' : Env) (w' : World) (a : Act), Agree n D a e → xrun P l n k r e w = some (e', w') →
    (∀ a', Agree n D a' e' → wpList P l.toArray Q (r.drop k) a' w') → wpList P l.toArray Q r a w := by
  intro k r e w e' w' a ha h hk
  have hx := xo_of_run (P := P) (l := l) (n := n) (K := fun _ _ => False) (E := fun _ _ _ => False) k r e w e' w' h
  induction k generalizing r e w a with
  | zero => simp only [xrun] at h; injection h with h; injection h with h1 h2; subst h1; subst h2; simpa using hk a ha
  | succ k ih =>
    cases r with
    | nil => simp [xrun] at h
    | cons o r =>
      unfold xrun at h
      unfold wpList
      generalize hg : egd l e o.guard = g at h
      match g, h with
      | none, h => cases h
      | some false, h =>
        rw [egd_sound ha hg]
        simp only [Bool.false_eq_true, if_false]
        exact ih r _ _ _ (ha.put _ _) h (by simpa using hk) (xo_of_run k r _ _ _ _ h)
      | some true, h =>
        cases hok : okOp e o with
        | false => simp [hok] at h
        | true =>
          simp only [hok, cond_true] at h
          rw [egd_sound ha hg]
          simp only [if_true]
          left
          unfold Oper.wp
          rw [ha.exec hok]
          generalize (execOp (rho e) o).run P w = res at h ⊢
          cases res with
          | ok nx w1 =>
            cases nx <;> simp only at h <;> first | (cases h; done) | exact ih r _ _ _ (ha.put _ _) h (by simpa using hk) (xo_of_run k r _ _ _ _ h)
          | halt x w1 => simp at h

/-- A region whose last operation defers a call. -/
theorem wp_regionDefer {id : Nat} {l : List Oper} {y : Code} {Q : Exit → Act → World → Prop} {a : Act} (ha : Agree n D a e) (k : Nat) (d : Deferred) (e' : Env) (o : Oper)
    (hx : xrun P l n k l e w = some (e', w)) (hl : l.drop k = [o]) (hg : o.guard = none) (hd : o.dst = none) (hok : okOp e' o = true) (ho : (execOp (rho e') o).run P w = .ok (.defer d) w)
    (h : ∀ a', Agree n (d :: D) a' e' → y.wp P Q a' w) : (Code.seq (.region id l.toArray false) y).wp P Q a w := by
  refine wp_seq (wp_region_lit (wpList_of_run k l e w e' w a ha hx fun a' ha' => ?_))
  rw [hl]
  refine wpList_plain hg fun K hK => ?_
  unfold Oper.wp
  rw [ha'.exec hok, ho, Oper.upon_defer]
  refine hK _ _ ?_
  rw [hd]
  exact h _ ⟨ha'.size, by show _ = _; simp [Act.put, ha'.defers], ha'.get⟩

/-- What recover finds, and leaves, in a frame's mode. -/
def Rec (u : FrameMode) (v : Value) (u' : FrameMode) : Prop :=
  (∃ x older, u = .panicking ({ v := x, recovered := false, goexit := false } :: older) ∧ v = x ∧ u' = .panicking ({ v := x, recovered := true } :: older)) ∨
  (u = .returning ∧ v = .nilIface ∧ u' = .returning)

theorem recoverD_of {u : FrameMode} {v : Value} {u' : FrameMode} (h : Rec u v u') {c₀ : Frame} {cs : List Frame} (hu : c₀.mode = u) :
    (recoverD (c₀ :: cs) = some (v, { c₀ with mode := u' } :: cs)) ∨ (recoverD (c₀ :: cs) = none ∧ v = .nilIface ∧ c₀ = { c₀ with mode := u' }) := by
  rcases h with ⟨x, older, rfl, rfl, rfl⟩ | ⟨rfl, rfl, rfl⟩
  · left; simp [recoverD, hu]
  · right
    refine ⟨by simp [recoverD, hu], rfl, ?_⟩
    rw [← hu]

/-- A deferred closure 'first x; then t := recover(); then y'. -/
theorem callsD_rec {f : FuncId} {fn : Func} {x y : Code} {id : Nat} {o : Oper} {args : List Value} {u u' : FrameMode} {v : Value} {w : World} {R : World → Prop} {e1 : Env}
    (hf : P.funcs[f]? = some fn) (hb : fn.body = some (.seq x (.seq (.region id [o].toArray false) y))) (hn : Nat.ble args.length fn.ntmps = true) (hres : fn.results = #[])
    (hg : o.guard = none) (ho : ∀ ρ w, (execOp ρ o).run P w = .ok .recover w) (hrec : Rec u v u')
    (h : XC P fn.ntmps [] x (fun e w => Cov e e1 ∧ XC P fn.ntmps [] y (fun _ w => R w) (fun _ _ _ => False) (fun _ w => R w) (fun _ _ _ => False) (eput fn.ntmps e1 o.dst v) w) (fun _ _ _ => False) (fun _ _ => False) (fun _ _ _ => False) (argEnv 0 args) w) :
    CallsD P f args.toArray u w fun e' u'' w' => e' = .returned (.tuple #[]) ∧ u'' = u' ∧ R w' := by
  have hn' := Nat.le_of_ble_eq_true hn
  refine callsD_of_wpS hf hb fun c₀ cs hu => ?_
  have ha : Agree fn.ntmps [] { tmps := args.toArray ++ Array.replicate (fn.ntmps - args.toArray.size) undef, defers := [] } (argEnv 0 args) := by
    refine ⟨by simp; omega, rfl, fun t v hv => ?_⟩
    obtain ⟨_, h2⟩ := argEnv_get _ _ _ _ hv
    simp only [Nat.sub_zero] at h2
    have ht : t < args.length := (List.getElem?_eq_some_iff.1 h2).1
    show (args.toArray ++ Array.replicate (fn.ntmps - args.toArray.size) undef)[t]? = some v
    rw [Array.getElem?_append_left (by simpa using ht)]
    simpa using h2
  refine wpS_seq (wpS_of_wp (wp_mono (h _ ha) ?_))
  rintro x' a' w' ⟨e', h1, h2⟩
  cases x' with
  | normal =>
    obtain ⟨hcov, h2⟩ := h2
    have h1' := h1.cov hcov
    show Code.wpS P _ _ a' (c₀ :: cs) w'
    refine wpS_seq (wpS_region ?_)
    have key : ∀ cs', (cs' = { c₀ with mode := u' } :: cs) → Code.wpS P y (bodyPostS P fn c₀ cs fun e' u'' w' => e' = .returned (.tuple #[]) ∧ u'' = u' ∧ R w') (a'.put o.dst v) cs' w' := by
      intro cs' hcs
      refine wpS_of_wp (wp_mono (h2 _ (h1'.put _ _)) ?_)
      rintro x2 a2 w2 ⟨e2, h3, h4⟩
      have hr : (results fn a2.tmps).run P w2 = .ok (.tuple #[]) w2 := results_none hres _ _ _
      cases x2 with
      | normal => exact ⟨h3.defers, u', hcs, _, hr, rfl, rfl, h4⟩
      | ret => exact ⟨h3.defers, u', hcs, _, hr, rfl, rfl, h4⟩
      | panic ch => exact h4.elim
      | exit id => exact h4.elim
      | goto l => exact h4.elim
      | outgrown => exact h4.elim
    have hw : Region.wanted o (yielded [o].toArray a'.tmps) = true := by simp [Region.wanted, hg]
    simp only [List.size_toArray, List.length_cons, List.length_nil, Nat.zero_add, List.range_one, wpOpsS]
    simp only [List.getElem?_toArray, List.getElem?_cons_zero, hw, if_true, ho]
    rcases recoverD_of hrec hu (cs := cs) with h5 | ⟨h5, rfl, h6⟩
    · rw [h5]
      exact key _ rfl
    · rw [h5]
      exact key _ (by rw [← h6])
  | panic ch => exact h2.elim
  | exit id => exact h2.elim
  | ret => exact h2.elim
  | goto l => exact h2.elim
  | outgrown => exact h2.elim
end
end Go.V
/- Bytes as lists; numbers as bytes, and back. -/
namespace Go.V
section
variable {P : Program} {w : World}
theorem mn_t {x y : Int} (h : y < x) : (Sem.pure (.value (I (if y < x then y else x))) : Sem Next).run P w = .ok (.value (I y)) w := pv (by rw [if_pos h])
theorem mn_f {x y : Int} (h : ¬ y < x) : (Sem.pure (.value (I (if y < x then y else x))) : Sem Next).run P w = .ok (.value (I x)) w := pv (by rw [if_neg h])
theorem mx_t {x y : Int} (h : x < y) : (Sem.pure (.value (I (if x < y then y else x))) : Sem Next).run P w = .ok (.value (I y)) w := pv (by rw [if_pos h])
theorem mx_f {x y : Int} (h : ¬ x < y) : (Sem.pure (.value (I (if x < y then y else x))) : Sem Next).run P w = .ok (.value (I x)) w := pv (by rw [if_neg h])
def ishr (x y : Int) : Int := x.fdiv (2 ^ (min y.toNat 64))
theorem sh_r {x y : Int} (h : 0 ≤ y) : (vS (Op.shift .shr .i64 x .i64 y)).run P w = .ok (.value (I (ishr x y))) w := by
  refine vrun ?_
  have h1 : ¬ y < 0 := by omega
  simp only [Op.shift, h1, if_false, Sem.run_pure]
  rfl
end

def bs (l : List UInt8) : ByteArray := ⟨l.toArray⟩
@[simp] theorem bs_data (l : List UInt8) : (bs l).data.toList = l := rfl
@[simp] theorem bs_size (l : List UInt8) : (bs l).size = l.length := by simp [bs, ByteArray.size]
theorem ba_lit_size (l : List UInt8) : (⟨l.toArray⟩ : ByteArray).size = l.length := by show l.toArray.size = _; simp
theorem bs_of (s : ByteArray) : bs s.data.toList = s := by cases s; simp [bs]
theorem bs_inj {l m : List UInt8} (h : bs l = bs m) : l = m := by have := congrArg (fun s => s.data.toList) h; simpa using this
theorem bs_add (l m : List UInt8) : bs l ++ bs m = bs (l ++ m) := by
  apply ba_ext
  rw [ba_toList, ba_toList]
  simp [bs]
theorem extract_list (s : ByteArray) (a b : Nat) : (s.extract a b).data.toList = (s.data.toList.take b).drop a := by
  simp [List.drop_take]
theorem extract_full (s : ByteArray) : s.extract 0 s.size = s := by
  apply ba_ext
  rw [ba_toList, ba_toList, extract_list, List.drop_zero, List.take_of_length_le (by rw [Array.length_toList]; exact Nat.le_refl _)]
theorem ssl_full {P : Program} {w : World} {t : TypeId} {s : ByteArray} (hT : strT P t = true) :
    (vS (Instr.sliceAt t (S s) none (some (I (s.size : Int))) none)).run P w = .ok (.value (S s)) w := by
  have h := ssl_hi (P := P) (w := w) (t := t) (s := s) (b := (s.size : Int)) hT (by omega) (by omega)
  rw [Int.toNat_natCast, extract_full] at h
  exact h

theorem bs_extract (l : List UInt8) (a b : Nat) : (bs l).extract a b = bs ((l.take b).drop a) := by
  apply ba_ext
  rw [ba_toList, ba_toList, extract_list]
  simp [bs]
theorem bs_take (l : List UInt8) (b : Nat) : (bs l).extract 0 b = bs (l.take b) := by rw [bs_extract]; simp
theorem bs_drop (l : List UInt8) (a : Nat) : (bs l).extract a (bs l).size = bs (l.drop a) := by rw [bs_extract, bs_size, List.take_length]

/-- A number in so many bytes, the highest first. -/
def be (w : Nat) (n : Int) : List UInt8 := (List.range w).map fun (j : Nat) => sByte (ishr n (8 * ((w : Int) - 1 - (j : Int))))
@[simp] theorem be_length (w : Nat) (n : Int) : (be w n).length = w := by simp [be]
theorem be_get (w : Nat) (n : Int) (j : Nat) (h : j < w) : (be w n).take (j + 1) = (be w n).take j ++ [sByte (ishr n (8 * ((w : Int) - 1 - j)))] := by
  rw [List.take_succ_eq_append_getElem (by simpa using h)]
  simp [be]
def beNat (l : List UInt8) : Nat := l.foldl (fun n b => n * 256 + b.toNat) 0
theorem beNat_snoc (l : List UInt8) (b : UInt8) : beNat (l ++ [b]) = beNat l * 256 + b.toNat := by simp [beNat]
theorem beNat_lt (l : List UInt8) : beNat l < 256 ^ l.length := by
  have h : ∀ (l : List UInt8) (a : Nat), l.foldl (fun n b => n * 256 + b.toNat) a < (a + 1) * 256 ^ l.length := by
    intro l
    induction l with
    | nil => intro a; simp
    | cons b l ih =>
      intro a
      have h1 := ih (a * 256 + b.toNat)
      have h2 := b.toNat_lt
      simp only [List.foldl_cons, List.length_cons]
      refine Nat.lt_of_lt_of_le h1 ?_
      rw [Nat.pow_succ, Nat.mul_comm (256 ^ l.length), ← Nat.mul_assoc]
      exact Nat.mul_le_mul_right _ (by omega)
  simpa [beNat] using h l 0
theorem sByte_nat (z : Int) (h : 0 ≤ z) : (sByte z).toNat = z.toNat % 256 := by
  have h1 := sByte_val z
  have h2 : uw .u8 z = z % 256 := by unfold uw; simp [IntKind.wrap, IntKind.bits, IntKind.signed]
  omega
theorem ishr_nat (n k : Nat) (hk : k ≤ 64) : ishr (n : Int) (k : Int) = ((n / 2 ^ k : Nat) : Int) := by
  unfold ishr
  rw [show min (k : Int).toNat 64 = k from by omega]
  have h2 : ((2 : Int) ^ k) = ((2 ^ k : Nat) : Int) := by rw [Int.natCast_pow]; rfl
  rw [h2, Int.fdiv_eq_ediv_of_nonneg _ (Int.natCast_nonneg _)]
  rfl
theorem beNat_be (w n : Nat) (hw : w ≤ 8) (h : n < 256 ^ w) : beNat (be w n) = n := by
  have key : ∀ j, j ≤ w → beNat ((be w (n : Int)).take j) = n / 2 ^ (8 * (w - j)) := by
    intro j
    induction j with
    | zero => intro _; simp [beNat]; rw [Nat.div_eq_of_lt]; rw [Nat.pow_mul]; simpa using h
    | succ j ih =>
      intro hj
      rw [be_get w _ j (by omega), beNat_snoc, ih (by omega)]
      rw [show (8 * ((w : Int) - 1 - (j : Int))) = ((8 * (w - 1 - j) : Nat) : Int) from by omega, ishr_nat _ _ (by omega), sByte_nat _ (Int.natCast_nonneg _)]
      rw [Int.toNat_natCast, show 8 * (w - j) = 8 * (w - 1 - j) + 8 from by omega, show w - (j + 1) = w - 1 - j from by omega, Nat.pow_add]
      rw [← Nat.div_div_eq_div_mul]
      omega
  have := key w (Nat.le_refl _)
  rw [List.take_of_length_le (by simp)] at this
  simpa using this

section
variable {P : Program} {w : World}
theorem pnc_iface {t : TypeId} {v : Value} : (vS (Instr.panic (.iface t v))).run P w = .halt (.panic (.iface t v)) w := rfl
theorem shl8 {x : Nat} (h : x < 36028797018963968) : (vS (Op.shift .shl .i64 (x : Int) .u64 8)).run P w = .ok (.value (I ((x * 256 : Nat) : Int))) w := by
  refine vrun ?_
  have h1 : ¬ (8 : Int) < 0 := by omega
  have h2 : (x : Int) * 2 ^ (min (8 : Int).toNat IntKind.i64.bits) = ((x * 256 : Nat) : Int) := by
    have : (2 : Int) ^ (min (8 : Int).toNat IntKind.i64.bits) = 256 := by decide
    rw [this]; simp
  simp only [Op.shift, h1, if_false, Sem.run_pure, h2]
  rw [wrap_ok (by omega) (by omega)]
theorem ofInt_i64 (a : Nat) (ha : a < 9223372036854775808) : (BitVec.ofInt 64 (a : Int)).toNat = a := by
  rw [BitVec.ofInt_natCast, BitVec.toNat_ofNat]; exact Nat.mod_eq_of_lt (by omega)
theorem or8 {x c : Nat} (hx : x < 36028797018963968) (hc : c < 256) : (vS (Op.intBits .or .i64 ((x * 256 : Nat) : Int) (c : Int))).run P w = .ok (.value (I ((x * 256 + c : Nat) : Int))) w := by
  refine vrun ?_
  have h1 : (x * 256 ||| c) = x * 256 + c := by
    have h2 := Nat.shiftLeft_add_eq_or_of_lt (b := c) (i := 8) (by omega) x
    rw [Nat.shiftLeft_eq] at h2
    exact h2.symm
  show Result.ok (Value.int .i64 (IntKind.i64.wrap ((BitVec.ofInt 64 ((x * 256 : Nat) : Int) ||| BitVec.ofInt 64 (c : Int)).toNat : Int))) w = _
  rw [BitVec.toNat_or, ofInt_i64 _ (by omega), ofInt_i64 _ (by omega), h1, wrap_ok (by omega) (by omega)]
end

/-- The next number, the next text; what is left. -/
def pNum (w : Nat) (l : List UInt8) : Option (Nat × List UInt8) := if w ≤ l.length then some (beNat (l.take w), l.drop w) else none
def pText (most : Nat) (l : List UInt8) : Option (List UInt8 × List UInt8) :=
  match pNum 2 l with
  | none => none
  | some (n, r) => if n ≤ most ∧ n ≤ r.length then some (r.take n, r.drop n) else none
end Go.V
/- Sums of bytes. -/
namespace Go.Proofs.YtbajgpadmlnffaaGreat
open Go.V
set_option maxRecDepth 100000
set_option linter.unusedVariables false
set_option linter.unusedSimpArgs false

theorem foldl_take_succ (s : ByteArray) (i : Nat) (c : Int) (h : i < s.size) : (s.data.toList.take (i + 1)).foldl cbyte c = cbyte ((s.data.toList.take i).foldl cbyte c) (s.data.toList.getD i 0) := by
  have h' : i < s.data.toList.length := by simpa using h
  rw [List.take_succ_eq_append_getElem h', List.foldl_append]
  simp only [List.foldl_cons, List.foldl_nil, List.getD_eq_getElem?_getD, List.getElem?_eq_getElem h', Option.getD_some]

theorem crc_more (w : World) (c : Int) (s : ByteArray) (hs : s.size ≤ 1099511627776) :
    Ret Tryz.prog 121 [.int .u64 c, S s] w fun v w' => v = .int .u64 (crcM c s.data.toList) ∧ w = w' := by
  refine calls_of_XC Tryz.func121 rfl rfl ?_
  refine .seq ?_
  refine .region ?_
  refine xo.done 1 [(0, .int .u64 c), (1, S s)] (by kernel_rfl) rfl (by kernel_rfl) ?_
  refine .seq ?_
  refine .region ?_
  refine xo.done 3 [(1, S s), (5, .int .u64 (unot c))] (by kernel_rfl) rfl (by kernel_rfl) ?_
  refine .seq ?_
  refine .seq ?_
  refine .region ?_
  refine xo.done 3 [(1, S s), (5, .int .u64 (unot c)), (11, I (s.size : Int)), (12, I 0)] (by kernel_rfl) rfl (by kernel_rfl) ?_
  refine .block ?_
  refine XC.loop (ι := Nat) (fun i => [(1, S s), (5, .int .u64 ((s.data.toList.take i).foldl cbyte (unot c))), (11, I (s.size : Int)), (12, I (i : Int))]) (fun i u => i ≤ s.size ∧ w = u) (fun i => s.size - i) 0 (cov_of (by kernel_rfl)) ⟨by omega, rfl⟩ ?_
  rintro i w1 ⟨hi, rfl⟩
  refine .seq ?_
  refine .region ?_
  by_cases hc2 : ((i : Int) : Int) < (s.size : Int)
  · refine xo.val 0 (by kernel_rfl) (c_lss_t hc2) ?_
    refine xo.done 0 [(1, S s), (5, .int .u64 ((s.data.toList.take i).foldl cbyte (unot c))), (11, I (s.size : Int)), (12, I (i : Int)), (13, B true)] (by kernel_rfl) rfl (by kernel_rfl) ?_
    refine .seq ?_
    refine .condT rfl rfl ?_
    refine .skip ?_
    refine .seq ?_
    refine .block ?_
    refine .seq ?_
    refine .region ?_
    refine xo.done 2 [(1, S s), (5, .int .u64 ((s.data.toList.take i).foldl cbyte (unot c))), (6, I (i : Int)), (11, I (s.size : Int)), (12, I (i : Int))] (by kernel_rfl) rfl (by kernel_rfl) ?_
    refine .seq ?_
    refine .region ?_
    have hb := (s.data.toList.getD i 0).toNat_lt
    refine xo.val 3 (by kernel_rfl) (sidx (kk := .i64) (t := 9) (s := s) (i := (i : Int)) (by kernel_rfl) (by omega) (by omega)) ?_
    refine xo.done 3 [(1, S s), (5, .int .u64 (uxor ((s.data.toList.take i).foldl cbyte (unot c)) (uw .u64 (((s.data.toList.getD i 0).toNat : Int))))), (11, I (s.size : Int)), (12, I (i : Int))] (by kernel_rfl) rfl (by kernel_rfl) ?_
    refine .seq ?_
    refine .region ?_
    refine xo.done 1 [(1, S s), (5, .int .u64 (uxor ((s.data.toList.take i).foldl cbyte (unot c)) (uw .u64 (((s.data.toList.getD i 0).toNat : Int))))), (11, I (s.size : Int)), (12, I (i : Int)), (21, I 0)] (by kernel_rfl) rfl (by kernel_rfl) ?_
    refine .block ?_
    refine XC.loop (ι := Nat) (fun j => [(1, S s), (5, .int .u64 (cbits j (uxor ((s.data.toList.take i).foldl cbyte (unot c)) (uw .u64 (((s.data.toList.getD i 0).toNat : Int)))))), (11, I (s.size : Int)), (12, I (i : Int)), (21, I (j : Int))]) (fun j u => j ≤ 8 ∧ w = u) (fun j => 8 - j) 0 (cov_of (by kernel_rfl)) ⟨by omega, rfl⟩ ?_
    rintro j w3 ⟨hj, rfl⟩
    refine .seq ?_
    refine .region ?_
    by_cases hc4 : ((j : Int) : Int) < 8
    · refine xo.val 0 (by kernel_rfl) (c_lss_t hc4) ?_
      refine xo.done 0 [(1, S s), (5, .int .u64 (cbits j (uxor ((s.data.toList.take i).foldl cbyte (unot c)) (uw .u64 (((s.data.toList.getD i 0).toNat : Int)))))), (11, I (s.size : Int)), (12, I (i : Int)), (21, I (j : Int)), (22, B true)] (by kernel_rfl) rfl (by kernel_rfl) ?_
      refine .seq ?_
      refine .condT rfl rfl ?_
      refine .skip ?_
      refine .seq ?_
      refine .block ?_
      refine .seq ?_
      refine .region ?_
      refine xo.done 3 [(1, S s), (5, .int .u64 (cbits j (uxor ((s.data.toList.take i).foldl cbyte (unot c)) (uw .u64 (((s.data.toList.getD i 0).toNat : Int)))))), (7, .int .u64 (uand (cbits j (uxor ((s.data.toList.take i).foldl cbyte (unot c)) (uw .u64 (((s.data.toList.getD i 0).toNat : Int))))) 1)), (11, I (s.size : Int)), (12, I (i : Int)), (21, I (j : Int))] (by kernel_rfl) rfl (by kernel_rfl) ?_
      refine .region ?_
      refine xo.done 7 [(1, S s), (5, .int .u64 (uxor (ushr (cbits j (uxor ((s.data.toList.take i).foldl cbyte (unot c)) (uw .u64 (((s.data.toList.getD i 0).toNat : Int))))) 1) (uand 14514072000185962306 (uneg (uand (cbits j (uxor ((s.data.toList.take i).foldl cbyte (unot c)) (uw .u64 (((s.data.toList.getD i 0).toNat : Int))))) 1))))), (11, I (s.size : Int)), (12, I (i : Int)), (21, I (j : Int))] (by kernel_rfl) rfl (by kernel_rfl) ?_
      refine .region ?_
      refine xo.val 0 (by kernel_rfl) (a_add (a := (j : Int)) (b := 1) (by omega) (by omega)) ?_
      refine xo.fin 1 (by kernel_rfl) rfl ?_
      exact ⟨j + 1, cov_of (by kernel_rfl), ⟨by omega, rfl⟩, by omega⟩
    · refine xo.val 0 (by kernel_rfl) (c_lss_f hc4) ?_
      refine xo.done 0 [(1, S s), (5, .int .u64 (cbits j (uxor ((s.data.toList.take i).foldl cbyte (unot c)) (uw .u64 (((s.data.toList.getD i 0).toNat : Int)))))), (11, I (s.size : Int)), (12, I (i : Int)), (21, I (j : Int)), (22, B false)] (by kernel_rfl) rfl (by kernel_rfl) ?_
      refine .seq ?_
      refine .condF rfl rfl ?_
      refine .exit ?_
      refine xsetTo ?_
      refine .region ?_
      obtain rfl : j = 8 := by omega
      refine xo.val 0 (by kernel_rfl) (a_add (a := (i : Int)) (b := 1) (by omega) (by omega)) ?_
      refine xo.fin 1 (by kernel_rfl) rfl ?_
      exact ⟨i + 1, cov_of (by rw [foldl_take_succ s i _ (by omega)]; kernel_rfl), ⟨by omega, rfl⟩, by omega⟩
  · refine xo.val 0 (by kernel_rfl) (c_lss_f hc2) ?_
    refine xo.done 0 [(1, S s), (5, .int .u64 ((s.data.toList.take i).foldl cbyte (unot c))), (11, I (s.size : Int)), (12, I (i : Int)), (13, B false)] (by kernel_rfl) rfl (by kernel_rfl) ?_
    refine .seq ?_
    refine .condF rfl rfl ?_
    refine .exit ?_
    refine xsetTo ?_
    refine .seq ?_
    refine .region ?_
    refine xo.done 3 [(4, .int .u64 (unot ((s.data.toList.take i).foldl cbyte (unot c))))] (by kernel_rfl) rfl (by kernel_rfl) ?_
    refine .ret ?_
    refine ⟨[.int .u64 (unot ((s.data.toList.take i).foldl cbyte (unot c)))], by kernel_rfl, _, rfl, ?_⟩
    have hi2 : i = s.size := by omega
    subst hi2
    refine ⟨?_, rfl⟩
    rw [show s.size = s.data.toList.length from Array.length_toList.symm, List.take_length]
    rfl

theorem crc_of (w : World) (s : ByteArray) (hs : s.size ≤ 1099511627776) :
    Ret Tryz.prog 107 [S s] w fun v w' => v = .int .u64 (crcM 0 s.data.toList) ∧ w = w' := by
  refine calls_of_XC Tryz.func107 rfl rfl ?_
  refine .seq ?_
  refine .region ?_
  refine xo.done 1 [(0, S s)] (by kernel_rfl) rfl (by kernel_rfl) ?_
  refine .seq ?_
  refine .region ?_
  refine xo.ret 1 (by kernel_rfl) (cf121 _ _) (crc_more _ 0 s (by omega)) ?_
  rintro _ _ ⟨rfl, rfl⟩
  refine xo.done 1 [(2, .int .u64 (crcM 0 s.data.toList))] (by kernel_rfl) rfl (by kernel_rfl) ?_
  refine .ret ?_
  refine ⟨[.int .u64 (crcM 0 s.data.toList)], by kernel_rfl, _, rfl, ?_⟩
  exact ⟨rfl, rfl⟩

theorem crc_seal (w : World) (s : ByteArray) (hs : s.size ≤ 1099511627776) :
    Ret Tryz.prog 90 [S s] w fun v w' => v = S (seal_ s) ∧ Ext No w w' := by
  refine calls_of_XC Tryz.func90 rfl rfl ?_
  refine .seq ?_
  refine .region ?_
  refine xo.done 1 [(0, S s)] (by kernel_rfl) rfl (by kernel_rfl) ?_
  refine .seq ?_
  refine .region ?_
  refine xo.ret 1 (by kernel_rfl) (cf107 _ _) (crc_of _ s (by omega)) ?_
  rintro _ _ ⟨rfl, rfl⟩
  refine xo.done 1 [(0, S s), (3, .int .u64 (crcM 0 s.data.toList))] (by kernel_rfl) rfl (by kernel_rfl) ?_
  refine .seq ?_
  refine .region ?_
  refine xo.alloc 0 165 [.int .u8 0, .int .u8 0, .int .u8 0, .int .u8 0, .int .u8 0, .int .u8 0, .int .u8 0, .int .u8 0] (by kernel_rfl) (by kernel_rfl) ?_
  intro b1 w2 hb3 hx4 hg5
  have z2 := hx4.size
  have l3 := hb3.lt
  refine xo.done 0 [(0, S s), (3, .int .u64 (crcM 0 s.data.toList)), (4, Pt b1 0)] (by kernel_rfl) rfl (by kernel_rfl) ?_
  refine .seq ?_
  refine .seq ?_
  refine .region ?_
  refine xo.done 1 [(0, S s), (3, .int .u64 (crcM 0 s.data.toList)), (4, Pt b1 0), (8, I 0)] (by kernel_rfl) rfl (by kernel_rfl) ?_
  refine .block ?_
  refine XC.unroll 9 ?_
  refine rnd.next ?_
  refine .seq ?_
  refine .region ?_
  refine xo.done 1 [(0, S s), (3, .int .u64 (crcM 0 s.data.toList)), (4, Pt b1 0), (8, I 0), (9, B true)] (by kernel_rfl) rfl (by kernel_rfl) ?_
  refine .seq ?_
  refine .condT rfl rfl ?_
  refine .skip ?_
  refine .seq ?_
  refine .block ?_
  refine .seq ?_
  refine .region ?_
  refine xo.done 2 [(0, S s), (3, .int .u64 (crcM 0 s.data.toList)), (4, Pt b1 0), (5, I 0), (8, I 0)] (by kernel_rfl) rfl (by kernel_rfl) ?_
  refine .region ?_
  refine xo.store 7 5 (o := 0) (.int .u8 (uw .u8 (ushr (crcM 0 s.data.toList) 0))) [.int .u8 (uw .u8 (ushr (crcM 0 s.data.toList) 0)), .int .u8 0, .int .u8 0, .int .u8 0, .int .u8 0, .int .u8 0, .int .u8 0, .int .u8 0] (by kernel_rfl) hb3 (by kernel_rfl) (by kernel_rfl) (by kernel_rfl) (by kernel_rfl) ?_
  intro w6 hb7 hx8
  have z6 := hx8.size
  refine xo.done 0 [(0, S s), (3, .int .u64 (crcM 0 s.data.toList)), (4, Pt b1 0), (8, I 0)] (by kernel_rfl) rfl (by kernel_rfl) ?_
  refine .region ?_
  refine xo.fin 2 (by kernel_rfl) rfl ?_
  refine rnd.cov [(0, S s), (3, .int .u64 (crcM 0 s.data.toList)), (4, Pt b1 0), (8, I 1)] (by kernel_rfl) ?_
  refine rnd.next ?_
  refine .seq ?_
  refine .region ?_
  refine xo.done 1 [(0, S s), (3, .int .u64 (crcM 0 s.data.toList)), (4, Pt b1 0), (8, I 1), (9, B true)] (by kernel_rfl) rfl (by kernel_rfl) ?_
  refine .seq ?_
  refine .condT rfl rfl ?_
  refine .skip ?_
  refine .seq ?_
  refine .block ?_
  refine .seq ?_
  refine .region ?_
  refine xo.done 2 [(0, S s), (3, .int .u64 (crcM 0 s.data.toList)), (4, Pt b1 0), (5, I 1), (8, I 1)] (by kernel_rfl) rfl (by kernel_rfl) ?_
  refine .region ?_
  refine xo.store 7 5 (o := 1) (.int .u8 (uw .u8 (ushr (crcM 0 s.data.toList) 8))) [.int .u8 (uw .u8 (ushr (crcM 0 s.data.toList) 0)), .int .u8 (uw .u8 (ushr (crcM 0 s.data.toList) 8)), .int .u8 0, .int .u8 0, .int .u8 0, .int .u8 0, .int .u8 0, .int .u8 0] (by kernel_rfl) hb7 (by kernel_rfl) (by kernel_rfl) (by kernel_rfl) (by kernel_rfl) ?_
  intro w9 hb10 hx11
  have z9 := hx11.size
  refine xo.done 0 [(0, S s), (3, .int .u64 (crcM 0 s.data.toList)), (4, Pt b1 0), (8, I 1)] (by kernel_rfl) rfl (by kernel_rfl) ?_
  refine .region ?_
  refine xo.fin 2 (by kernel_rfl) rfl ?_
  refine rnd.cov [(0, S s), (3, .int .u64 (crcM 0 s.data.toList)), (4, Pt b1 0), (8, I 2)] (by kernel_rfl) ?_
  refine rnd.next ?_
  refine .seq ?_
  refine .region ?_
  refine xo.done 1 [(0, S s), (3, .int .u64 (crcM 0 s.data.toList)), (4, Pt b1 0), (8, I 2), (9, B true)] (by kernel_rfl) rfl (by kernel_rfl) ?_
  refine .seq ?_
  refine .condT rfl rfl ?_
  refine .skip ?_
  refine .seq ?_
  refine .block ?_
  refine .seq ?_
  refine .region ?_
  refine xo.done 2 [(0, S s), (3, .int .u64 (crcM 0 s.data.toList)), (4, Pt b1 0), (5, I 2), (8, I 2)] (by kernel_rfl) rfl (by kernel_rfl) ?_
  refine .region ?_
  refine xo.store 7 5 (o := 2) (.int .u8 (uw .u8 (ushr (crcM 0 s.data.toList) 16))) [.int .u8 (uw .u8 (ushr (crcM 0 s.data.toList) 0)), .int .u8 (uw .u8 (ushr (crcM 0 s.data.toList) 8)), .int .u8 (uw .u8 (ushr (crcM 0 s.data.toList) 16)), .int .u8 0, .int .u8 0, .int .u8 0, .int .u8 0, .int .u8 0] (by kernel_rfl) hb10 (by kernel_rfl) (by kernel_rfl) (by kernel_rfl) (by kernel_rfl) ?_
  intro w12 hb13 hx14
  have z12 := hx14.size
  refine xo.done 0 [(0, S s), (3, .int .u64 (crcM 0 s.data.toList)), (4, Pt b1 0), (8, I 2)] (by kernel_rfl) rfl (by kernel_rfl) ?_
  refine .region ?_
  refine xo.fin 2 (by kernel_rfl) rfl ?_
  refine rnd.cov [(0, S s), (3, .int .u64 (crcM 0 s.data.toList)), (4, Pt b1 0), (8, I 3)] (by kernel_rfl) ?_
  refine rnd.next ?_
  refine .seq ?_
  refine .region ?_
  refine xo.done 1 [(0, S s), (3, .int .u64 (crcM 0 s.data.toList)), (4, Pt b1 0), (8, I 3), (9, B true)] (by kernel_rfl) rfl (by kernel_rfl) ?_
  refine .seq ?_
  refine .condT rfl rfl ?_
  refine .skip ?_
  refine .seq ?_
  refine .block ?_
  refine .seq ?_
  refine .region ?_
  refine xo.done 2 [(0, S s), (3, .int .u64 (crcM 0 s.data.toList)), (4, Pt b1 0), (5, I 3), (8, I 3)] (by kernel_rfl) rfl (by kernel_rfl) ?_
  refine .region ?_
  refine xo.store 7 5 (o := 3) (.int .u8 (uw .u8 (ushr (crcM 0 s.data.toList) 24))) [.int .u8 (uw .u8 (ushr (crcM 0 s.data.toList) 0)), .int .u8 (uw .u8 (ushr (crcM 0 s.data.toList) 8)), .int .u8 (uw .u8 (ushr (crcM 0 s.data.toList) 16)), .int .u8 (uw .u8 (ushr (crcM 0 s.data.toList) 24)), .int .u8 0, .int .u8 0, .int .u8 0, .int .u8 0] (by kernel_rfl) hb13 (by kernel_rfl) (by kernel_rfl) (by kernel_rfl) (by kernel_rfl) ?_
  intro w15 hb16 hx17
  have z15 := hx17.size
  refine xo.done 0 [(0, S s), (3, .int .u64 (crcM 0 s.data.toList)), (4, Pt b1 0), (8, I 3)] (by kernel_rfl) rfl (by kernel_rfl) ?_
  refine .region ?_
  refine xo.fin 2 (by kernel_rfl) rfl ?_
  refine rnd.cov [(0, S s), (3, .int .u64 (crcM 0 s.data.toList)), (4, Pt b1 0), (8, I 4)] (by kernel_rfl) ?_
  refine rnd.next ?_
  refine .seq ?_
  refine .region ?_
  refine xo.done 1 [(0, S s), (3, .int .u64 (crcM 0 s.data.toList)), (4, Pt b1 0), (8, I 4), (9, B true)] (by kernel_rfl) rfl (by kernel_rfl) ?_
  refine .seq ?_
  refine .condT rfl rfl ?_
  refine .skip ?_
  refine .seq ?_
  refine .block ?_
  refine .seq ?_
  refine .region ?_
  refine xo.done 2 [(0, S s), (3, .int .u64 (crcM 0 s.data.toList)), (4, Pt b1 0), (5, I 4), (8, I 4)] (by kernel_rfl) rfl (by kernel_rfl) ?_
  refine .region ?_
  refine xo.store 7 5 (o := 4) (.int .u8 (uw .u8 (ushr (crcM 0 s.data.toList) 32))) [.int .u8 (uw .u8 (ushr (crcM 0 s.data.toList) 0)), .int .u8 (uw .u8 (ushr (crcM 0 s.data.toList) 8)), .int .u8 (uw .u8 (ushr (crcM 0 s.data.toList) 16)), .int .u8 (uw .u8 (ushr (crcM 0 s.data.toList) 24)), .int .u8 (uw .u8 (ushr (crcM 0 s.data.toList) 32)), .int .u8 0, .int .u8 0, .int .u8 0] (by kernel_rfl) hb16 (by kernel_rfl) (by kernel_rfl) (by kernel_rfl) (by kernel_rfl) ?_
  intro w18 hb19 hx20
  have z18 := hx20.size
  refine xo.done 0 [(0, S s), (3, .int .u64 (crcM 0 s.data.toList)), (4, Pt b1 0), (8, I 4)] (by kernel_rfl) rfl (by kernel_rfl) ?_
  refine .region ?_
  refine xo.fin 2 (by kernel_rfl) rfl ?_
  refine rnd.cov [(0, S s), (3, .int .u64 (crcM 0 s.data.toList)), (4, Pt b1 0), (8, I 5)] (by kernel_rfl) ?_
  refine rnd.next ?_
  refine .seq ?_
  refine .region ?_
  refine xo.done 1 [(0, S s), (3, .int .u64 (crcM 0 s.data.toList)), (4, Pt b1 0), (8, I 5), (9, B true)] (by kernel_rfl) rfl (by kernel_rfl) ?_
  refine .seq ?_
  refine .condT rfl rfl ?_
  refine .skip ?_
  refine .seq ?_
  refine .block ?_
  refine .seq ?_
  refine .region ?_
  refine xo.done 2 [(0, S s), (3, .int .u64 (crcM 0 s.data.toList)), (4, Pt b1 0), (5, I 5), (8, I 5)] (by kernel_rfl) rfl (by kernel_rfl) ?_
  refine .region ?_
  refine xo.store 7 5 (o := 5) (.int .u8 (uw .u8 (ushr (crcM 0 s.data.toList) 40))) [.int .u8 (uw .u8 (ushr (crcM 0 s.data.toList) 0)), .int .u8 (uw .u8 (ushr (crcM 0 s.data.toList) 8)), .int .u8 (uw .u8 (ushr (crcM 0 s.data.toList) 16)), .int .u8 (uw .u8 (ushr (crcM 0 s.data.toList) 24)), .int .u8 (uw .u8 (ushr (crcM 0 s.data.toList) 32)), .int .u8 (uw .u8 (ushr (crcM 0 s.data.toList) 40)), .int .u8 0, .int .u8 0] (by kernel_rfl) hb19 (by kernel_rfl) (by kernel_rfl) (by kernel_rfl) (by kernel_rfl) ?_
  intro w21 hb22 hx23
  have z21 := hx23.size
  refine xo.done 0 [(0, S s), (3, .int .u64 (crcM 0 s.data.toList)), (4, Pt b1 0), (8, I 5)] (by kernel_rfl) rfl (by kernel_rfl) ?_
  refine .region ?_
  refine xo.fin 2 (by kernel_rfl) rfl ?_
  refine rnd.cov [(0, S s), (3, .int .u64 (crcM 0 s.data.toList)), (4, Pt b1 0), (8, I 6)] (by kernel_rfl) ?_
  refine rnd.next ?_
  refine .seq ?_
  refine .region ?_
  refine xo.done 1 [(0, S s), (3, .int .u64 (crcM 0 s.data.toList)), (4, Pt b1 0), (8, I 6), (9, B true)] (by kernel_rfl) rfl (by kernel_rfl) ?_
  refine .seq ?_
  refine .condT rfl rfl ?_
  refine .skip ?_
  refine .seq ?_
  refine .block ?_
  refine .seq ?_
  refine .region ?_
  refine xo.done 2 [(0, S s), (3, .int .u64 (crcM 0 s.data.toList)), (4, Pt b1 0), (5, I 6), (8, I 6)] (by kernel_rfl) rfl (by kernel_rfl) ?_
  refine .region ?_
  refine xo.store 7 5 (o := 6) (.int .u8 (uw .u8 (ushr (crcM 0 s.data.toList) 48))) [.int .u8 (uw .u8 (ushr (crcM 0 s.data.toList) 0)), .int .u8 (uw .u8 (ushr (crcM 0 s.data.toList) 8)), .int .u8 (uw .u8 (ushr (crcM 0 s.data.toList) 16)), .int .u8 (uw .u8 (ushr (crcM 0 s.data.toList) 24)), .int .u8 (uw .u8 (ushr (crcM 0 s.data.toList) 32)), .int .u8 (uw .u8 (ushr (crcM 0 s.data.toList) 40)), .int .u8 (uw .u8 (ushr (crcM 0 s.data.toList) 48)), .int .u8 0] (by kernel_rfl) hb22 (by kernel_rfl) (by kernel_rfl) (by kernel_rfl) (by kernel_rfl) ?_
  intro w24 hb25 hx26
  have z24 := hx26.size
  refine xo.done 0 [(0, S s), (3, .int .u64 (crcM 0 s.data.toList)), (4, Pt b1 0), (8, I 6)] (by kernel_rfl) rfl (by kernel_rfl) ?_
  refine .region ?_
  refine xo.fin 2 (by kernel_rfl) rfl ?_
  refine rnd.cov [(0, S s), (3, .int .u64 (crcM 0 s.data.toList)), (4, Pt b1 0), (8, I 7)] (by kernel_rfl) ?_
  refine rnd.next ?_
  refine .seq ?_
  refine .region ?_
  refine xo.done 1 [(0, S s), (3, .int .u64 (crcM 0 s.data.toList)), (4, Pt b1 0), (8, I 7), (9, B true)] (by kernel_rfl) rfl (by kernel_rfl) ?_
  refine .seq ?_
  refine .condT rfl rfl ?_
  refine .skip ?_
  refine .seq ?_
  refine .block ?_
  refine .seq ?_
  refine .region ?_
  refine xo.done 2 [(0, S s), (3, .int .u64 (crcM 0 s.data.toList)), (4, Pt b1 0), (5, I 7), (8, I 7)] (by kernel_rfl) rfl (by kernel_rfl) ?_
  refine .region ?_
  refine xo.store 7 5 (o := 7) (.int .u8 (uw .u8 (ushr (crcM 0 s.data.toList) 56))) [.int .u8 (uw .u8 (ushr (crcM 0 s.data.toList) 0)), .int .u8 (uw .u8 (ushr (crcM 0 s.data.toList) 8)), .int .u8 (uw .u8 (ushr (crcM 0 s.data.toList) 16)), .int .u8 (uw .u8 (ushr (crcM 0 s.data.toList) 24)), .int .u8 (uw .u8 (ushr (crcM 0 s.data.toList) 32)), .int .u8 (uw .u8 (ushr (crcM 0 s.data.toList) 40)), .int .u8 (uw .u8 (ushr (crcM 0 s.data.toList) 48)), .int .u8 (uw .u8 (ushr (crcM 0 s.data.toList) 56))] (by kernel_rfl) hb25 (by kernel_rfl) (by kernel_rfl) (by kernel_rfl) (by kernel_rfl) ?_
  intro w27 hb28 hx29
  have z27 := hx29.size
  refine xo.done 0 [(0, S s), (3, .int .u64 (crcM 0 s.data.toList)), (4, Pt b1 0), (8, I 7)] (by kernel_rfl) rfl (by kernel_rfl) ?_
  refine .region ?_
  refine xo.fin 2 (by kernel_rfl) rfl ?_
  refine rnd.cov [(0, S s), (3, .int .u64 (crcM 0 s.data.toList)), (4, Pt b1 0), (8, I 8)] (by kernel_rfl) ?_
  refine rnd.next ?_
  refine .seq ?_
  refine .region ?_
  refine xo.done 1 [(0, S s), (3, .int .u64 (crcM 0 s.data.toList)), (4, Pt b1 0), (8, I 8), (9, B false)] (by kernel_rfl) rfl (by kernel_rfl) ?_
  refine .seq ?_
  refine .condF rfl rfl ?_
  refine .exit ?_
  refine xsetTo ?_
  refine .seq ?_
  refine .region ?_
  have hsum := rd_sum (e := 5) (c := crcM 0 s.data.toList) hb28
  refine xo.val 2 (by kernel_rfl) (conv_bs (cap := 8) (src := 76) (dst := 9) (l := sumL (crcM 0 s.data.toList)) (by kernel_rfl) (by kernel_rfl) hsum) ?_
  refine xo.val 0 (by kernel_rfl) (s_add (x := s) (y := sumS s) (by have h8 : (sumS s).size = 8 := rfl; omega)) ?_
  refine xo.done 1 [(2, S (s ++ (sumS s)))] (by kernel_rfl) rfl (by kernel_rfl) ?_
  refine .ret ?_
  refine ⟨[S (s ++ (sumS s))], by kernel_rfl, _, rfl, ?_⟩
  exact ⟨rfl, ((((((((hx4.trans' hx8 (fun _ _ h => h) (fun b hb (e : b = b1) => absurd hb (by omega))).trans' hx11 (fun _ _ h => h) (fun b hb (e : b = b1) => absurd hb (by omega))).trans' hx14 (fun _ _ h => h) (fun b hb (e : b = b1) => absurd hb (by omega))).trans' hx17 (fun _ _ h => h) (fun b hb (e : b = b1) => absurd hb (by omega))).trans' hx20 (fun _ _ h => h) (fun b hb (e : b = b1) => absurd hb (by omega))).trans' hx23 (fun _ _ h => h) (fun b hb (e : b = b1) => absurd hb (by omega))).trans' hx26 (fun _ _ h => h) (fun b hb (e : b = b1) => absurd hb (by omega))).trans' hx29 (fun _ _ h => h) (fun b hb (e : b = b1) => absurd hb (by omega)))⟩

end Go.Proofs.YtbajgpadmlnffaaGreat
