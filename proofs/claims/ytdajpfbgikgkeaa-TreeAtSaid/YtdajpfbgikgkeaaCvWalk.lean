/-
  My own library for walks, a text of it (CvWalk): separation logic over the kit's Calls; no statement of this seat stands here.
-/
import Derived.Test.YtdajpfbgikgkeaaCvCore
import Derived.Deep.QuietTactic
set_option linter.unusedVariables false
set_option linter.unusedSimpArgs false
set_option linter.unusedSectionVars false
namespace Cv
open Go

abbrev Env := List (Nat × Value)
def get : Env → Nat → Option Value
  | [], _ => none
  | (s, v) :: K, t => cond (Nat.beq s t) (some v) (get K t)
def ev (K : Env) : Operand → Option Value
  | .tmp t => get K t
  | .const v => some v
  | .global g => some (.pointer (some ⟨g, 0, none⟩))
  | .func f => some (.func (.func f) #[] #[])
/-- `evs K xs vs`: the operands xs have the values vs -/
def evs (K : Env) : List Operand → List Value → Prop
  | [], [] => True
  | x :: xs, v :: vs => ev K x = some v ∧ evs K xs vs
  | _, _ => False
theorem evs.nil {K : Env} : evs K [] [] := trivial
theorem evs.cons {K : Env} {x : Operand} {xs : List Operand} {v : Value} {vs : List Value} (h : ev K x = some v) (k : evs K xs vs) : evs K (x :: xs) (v :: vs) := ⟨h, k⟩

structure Slots (n : Nat) (K : Env) (a : Act) : Prop where
  defers : a.defers = []
  size : a.tmps.size = n
  val : ∀ t v, get K t = some v → a.tmps.getD t undef = v

theorem Slots.eval {n : Nat} {K : Env} {a : Act} (h : Slots n K a) {x : Operand} {v : Value} (e : ev K x = some v) : a.eval x = v := by
  cases x with
  | tmp t => exact h.val t v e
  | const u => cases e; rfl
  | global g => cases e; rfl
  | func f => cases e; rfl
theorem Slots.evals {n : Nat} {K : Env} {a : Act} (h : Slots n K a) : ∀ {xs : List Operand} {vs : List Value}, evs K xs vs → xs.map a.eval = vs
  | [], [], _ => rfl
  | _ :: _, _ :: _, ⟨e, k⟩ => by rw [List.map_cons, h.eval e, h.evals k]
  | [], _ :: _, k => k.elim
  | _ :: _, [], k => k.elim

theorem Slots.put {n d : Nat} {K : Env} {a : Act} (h : Slots n K a) (v : Value) (hd : Nat.blt d n = true) : Slots n ((d, v) :: K) (a.put (some d) v) := by
  have hd' : d < n := by
    have := Nat.le_of_ble_eq_true hd
    omega
  refine ⟨h.defers, ?_, fun t u e => ?_⟩
  · simp [Act.put, h.size]
  · simp only [get] at e
    simp only [Act.put, Array.getD_eq_getD_getElem?, Array.getElem?_setIfInBounds]
    by_cases ht : d = t
    · subst ht
      simp only [Nat.beq_refl, cond_true, Option.some.injEq] at e
      subst e
      simp [h.size, hd']
    · have : Nat.beq d t = false := by
        cases hb : Nat.beq d t with
        | false => rfl
        | true => exact absurd (Nat.eq_of_beq_eq_true hb) ht
      rw [this, cond_false] at e
      have := h.val t u e
      rw [Array.getD_eq_getD_getElem?] at this
      simp [ht, this]
theorem Slots.put' {n : Nat} {K : Env} {a : Act} (h : Slots n K a) (v : Value) : Slots n K (a.put none v) := h

def SubK (X K : Env) : Prop := ∀ t v, get X t = some v → get K t = some v
theorem SubK.refl (K : Env) : SubK K K := fun _ _ h => h
theorem SubK.nil (K : Env) : SubK [] K := fun _ _ h => by cases h
theorem SubK.cons {X K : Env} {t : Nat} {v : Value} (h : get K t = some v) (k : SubK X K) : SubK ((t, v) :: X) K := fun s u e => by
  simp only [get] at e
  cases hb : Nat.beq t s with
  | true =>
    rw [hb, cond_true] at e
    cases e
    rw [← Nat.eq_of_beq_eq_true hb]
    exact h
  | false =>
    rw [hb, cond_false] at e
    exact k s u e
theorem get_append (X Y : Env) (t : Nat) : get (X ++ Y) t = match get X t with | some v => some v | none => get Y t := by
  induction X with
  | nil => rfl
  | cons x X ih =>
    obtain ⟨s, v⟩ := x
    show cond (Nat.beq s t) (some v) (get (X ++ Y) t) = _
    simp only [get]
    cases Nat.beq s t with
    | true => rfl
    | false => simpa using ih
theorem SubK.append {X Y K : Env} (h : SubK X K) (k : SubK Y K) : SubK (X ++ Y) K := fun t v e => by
  rw [get_append] at e
  cases hx : get X t with
  | some u => rw [hx] at e; cases e; exact h t _ hx
  | none => rw [hx] at e; exact k t v e
theorem Slots.sub {n : Nat} {X K : Env} {a : Act} (h : Slots n K a) (e : SubK X K) : Slots n X a := ⟨h.defers, h.size, fun t v g => h.val t v (e t v g)⟩

/-- THE JUDGEMENT: wherever the slots hold what K says, and the world what D and M say, G holds. -/
def T (σ : World) (n : Nat) (G : Act → World → Prop) (K : Env) (D M : List Asn) : Prop := ∀ a w, Slots n K a → Sat σ D M w → G a w
abbrev Post := Exit → Act → World → Prop

section
variable {P : Program} {σ : World} {n : Nat} {G : Act → World → Prop} {Q : Post} {K : Env} {D M : List Asn}

theorem T.weak {K' : Env} {D' M' : List Asn} (h : T σ n G K' D' M') (hK : SubK K' K) (hD : SubD D' D) (hM : Ent M M') : T σ n G K D M :=
  fun a w s t => h a w (s.sub hK) ((t.facts hD).ent hM)
theorem T.keep {K' : Env} (hK : SubK K' K) (h : T σ n G K' D M) : T σ n G K D M := h.weak hK (.refl _) (.refl _)
theorem T.drop {M' : List Asn} (hM : Ent M M') (h : T σ n G K D M') : T σ n G K D M := h.weak (.refl _) (.refl _) hM
theorem T.freeze {A : Asn} {N : List Asn} (hM : Pull A M N) (h : T σ n G K (A :: D) N) : T σ n G K D M := fun a w s t => h a w s (t.ent hM).freeze
theorem T.derive {φ ψ : Asn} (e : φ ∈ D) (i : ∀ z, φ z → ψ z) (h : T σ n G K (ψ :: D) M) : T σ n G K D M := fun a w s t => h a w s (t.derive e i)
theorem T.deriveEx {α : Sort _} {φ : Asn} {ψ : α → Asn} (e : φ ∈ D) (i : ∀ z, φ z → ∃ x, ψ x z) (h : ∀ x, T σ n G K (ψ x :: D) M) : T σ n G K D M := fun a w s t => by
  obtain ⟨z, k, h1, h2, h3, h4, h5⟩ := t.heap
  obtain ⟨y, l, hy⟩ := h4 φ e
  obtain ⟨x, hx⟩ := i y hy
  refine h x a w s ⟨t.os, t.tape, t.output, z, k, h1, h2, h3, fun χ hχ => ?_, h5⟩
  cases hχ with
  | head => exact ⟨y, l, hx⟩
  | tail _ h' => exact h4 χ h'
theorem T.fact {p : Prop} {φ : Asn} (e : φ ∈ D) (i : ∀ z, φ z → p) (h : p → T σ n G K D M) : T σ n G K D M := fun a w s t => by
  obtain ⟨y, _, hy⟩ := t.fact e
  exact h (i y hy) a w s t
theorem T.pure {p : Prop} {A : Asn} (e : A ∈ M) (i : ∀ z, A z → p) (h : p → T σ n G K D M) : T σ n G K D M := fun a w s t => by
  obtain ⟨y, _, hy⟩ := t.own e
  exact h (i y hy) a w s t
/-- an assertion that is 'there is an x ..' is opened: the rest of M follows behind -/
theorem T.openEx {α : Sort _} {A : Asn} {L : α → List Asn} {N : List Asn} (hM : Pull A M N) (i : ∀ z, A z → ∃ x, Holds (L x) z) (h : ∀ x, T σ n G K D (L x ++ N)) : T σ n G K D M := fun a w s t => by
  have t1 := (t.ent hM).ent (Ent.imp (B := fun z => ∃ x, Holds (L x) z) i)
  obtain ⟨x, t2⟩ := t1.ex (A := fun x z => Holds (L x) z)
  exact h x a w s (t2.ent Ent.unfold)
/-- .. and shut again -/
theorem T.shut {A : Asn} {L N : List Asn} (hM : Sel L M N) (i : ∀ z, Holds L z → A z) (h : T σ n G K D (A :: N)) : T σ n G K D M := fun a w s t =>
  h a w s (((t.ent hM).ent Ent.fold).ent (Ent.imp i))

def AppL {α : Type _} (X Y Z : List α) : Prop := X ++ Y = Z
theorem AppL.nil {α : Type _} {Y : List α} : AppL [] Y Y := rfl
theorem AppL.cons {α : Type _} {A : α} {X Y Z : List α} (h : AppL X Y Z) : AppL (A :: X) Y (A :: Z) := congrArg (A :: ·) h
theorem AppL.refl {α : Type _} {X Y : List α} : AppL X Y (X ++ Y) := rfl
theorem T.norm {X Y D2 M2 : List Asn} (h1 : AppL X D D2) (h2 : AppL Y M M2) (h : T σ n G K D2 M2) : T σ n G K (X ++ D) (Y ++ M) := by subst h1; subst h2; exact h
theorem T.norm3 {X Y D2 M2 : List Asn} {Z K2 : Env} (h0 : AppL Z K K2) (h1 : AppL X D D2) (h2 : AppL Y M M2) (h : T σ n G K2 D2 M2) : T σ n G (Z ++ K) (X ++ D) (Y ++ M) := by subst h0; subst h1; subst h2; exact h
/-! ### code -/
theorem T.seq {x y : Code} (h : T σ n (x.wp P (Exit.then (y.wp P Q) Q)) K D M) : T σ n ((Code.seq x y).wp P Q) K D M := fun a w s t => wp_seq (h a w s t)
theorem T.skip (h : T σ n (Q .normal) K D M) : T σ n (Code.skip.wp P Q) K D M := fun a w s t => wp_skip (h a w s t)
theorem T.cond {c : Operand} {x y : Code} {b : Bool} (hc : ev K c = some (.bool b)) (h1 : b = true → T σ n (x.wp P Q) K D M) (h2 : b = false → T σ n (y.wp P Q) K D M) :
    T σ n ((Code.cond c x y).wp P Q) K D M := fun a w s t => by
  cases b with
  | true => exact wp_cond_true (s.eval hc) (h1 rfl a w s t)
  | false => exact wp_cond_false (s.eval hc) (h2 rfl a w s t)
theorem T.condT {c : Operand} {x y : Code} {b : Bool} (hc : ev K c = some (.bool b)) (hb : b = true) (h : T σ n (x.wp P Q) K D M) :
    T σ n ((Code.cond c x y).wp P Q) K D M := by subst hb; exact T.cond hc (fun _ => h) (fun e => by cases e)
theorem T.condF {c : Operand} {x y : Code} {b : Bool} (hc : ev K c = some (.bool b)) (hb : b = false) (h : T σ n (y.wp P Q) K D M) :
    T σ n ((Code.cond c x y).wp P Q) K D M := by subst hb; exact T.cond hc (fun e => by cases e) (fun _ => h)
theorem T.block {id : Nat} {c : Code} (h : T σ n (c.wp P (Exit.inBlock id Q)) K D M) : T σ n ((Code.block id c).wp P Q) K D M := fun a w s t => wp_block (h a w s t)
theorem T.exit {id : Nat} (h : T σ n (Q (.exit id)) K D M) : T σ n ((Code.exit id).wp P Q) K D M := fun a w s t => wp_exit (h a w s t)
theorem T.ret (h : T σ n (Q .ret) K D M) : T σ n (Code.ret.wp P Q) K D M := fun a w s t => wp_ret (h a w s t)
theorem T.label {l : Nat} (h : T σ n (Q .normal) K D M) : T σ n ((Code.label l).wp P Q) K D M := fun a w s t => wp_label (h a w s t)
theorem T.thenN {nx : Act → World → Prop} (h : T σ n nx K D M) : T σ n (Exit.then nx Q .normal) K D M := h
theorem T.thenX {nx : Act → World → Prop} {id : Nat} (h : T σ n (Q (.exit id)) K D M) : T σ n (Exit.then nx Q (.exit id)) K D M := h
theorem T.thenR {nx : Act → World → Prop} (h : T σ n (Q .ret) K D M) : T σ n (Exit.then nx Q .ret) K D M := h
theorem T.blkN {id : Nat} (h : T σ n (Q .normal) K D M) : T σ n (Exit.inBlock id Q .normal) K D M := h
theorem T.blkX {id : Nat} (h : T σ n (Q .normal) K D M) : T σ n (Exit.inBlock id Q (.exit id)) K D M := fun a w s t => by
  show if id = id then _ else _
  rw [if_pos rfl]; exact h a w s t
theorem T.blkY {id j : Nat} (e : Nat.beq j id = false) (h : T σ n (Q (.exit j)) K D M) : T σ n (Exit.inBlock id Q (.exit j)) K D M := fun a w s t => by
  show if j = id then _ else _
  rw [if_neg (fun h => by subst h; simp at e)]; exact h a w s t
theorem T.blkR {id : Nat} (h : T σ n (Q .ret) K D M) : T σ n (Exit.inBlock id Q .ret) K D M := h
/-- the operations of a region, one behind the other (mode none), or quiet ones (mode some (D, M): no operation turns what D and M say) -/
def TL (m : Option (List Asn × List Asn)) (P : Program) (σ : World) (n : Nat) (ops : Array Oper) (Q : Post) (l : List Oper) (K : Env) (D M : List Asn) : Prop :=
  match m with
  | none => T σ n (wpList P ops Q l) K D M
  | some (D0, M0) => (SubD D0 D ∧ M = M0 ∧ ∀ w, Sat σ D0 M0 w → Sat σ D M w) → ∀ a, Slots n K a → wpQuiet P ops (fun w => Sat σ D0 M0 w) (fun a' => ∀ w, Sat σ D0 M0 w → Q .normal a' w) l a
theorem T.region {id : Nat} {l : List Oper} (h : TL none P σ n l.toArray Q l K D M) : T σ n ((Code.region id l.toArray false).wp P Q) K D M := fun a w s t => wp_region_lit (h a w s t)
theorem T.regionQ {id : Nat} {l : List Oper} (hm : P.follows .mixedOrders = true) (hB : Region.lexB .any l.toArray = true) (h : TL (some (D, M)) P σ n l.toArray Q l K D M) : T σ n ((Code.region id l.toArray true).wp P Q) K D M := fun a w s t =>
  wp_region_quiet (C := fun w => Sat σ D M w) hm hB (t.drew _) (by simpa using h ⟨.refl _, rfl, fun _ t => t⟩ a s)
theorem L.nil {ops : Array Oper} (h : T σ n (Q .normal) K D M) : TL none P σ n ops Q [] K D M := h
theorem L.nilQ {ops : Array Oper} {p : List Asn × List Asn} (h : T σ n (Q .normal) K D M) : TL (some p) P σ n ops Q [] K D M := fun hp a s w t => h a w s (hp.2.2 w t)

/-! ### loops -/
def Back (σ : World) (n : Nat) (I : Env → List Asn → List Asn → Nat → Prop) (Kk : Env) (D F : List Asn) (m : Nat) : Act → World → Prop := fun a w =>
  ∃ K' D' M' m', I K' D' M' m' ∧ m' < m ∧ Slots n (K' ++ Kk) a ∧ Sat σ (D' ++ D) (M' ++ F) w
theorem T.loop {c : Code} (I : Env → List Asn → List Asn → Nat → Prop) {Kk K0 : Env} {D0 M0 F : List Asn} {m0 : Nat} (hk : SubK Kk K) (h0 : I K0 D0 M0 m0) (hK : SubK K0 K) (hD : SubD D0 D) (hM : Sel M0 M F)
    (round : ∀ K' D' M' m, I K' D' M' m → T σ n (c.wp P (Exit.then (Back σ n I Kk D F m) Q)) (K' ++ Kk) (D' ++ D) (M' ++ F)) :
    T σ n ((Code.loop c).wp P Q) K D M := fun a w s t => by
  -- the measure of the least instance
  let J : Nat → Act → World → Prop := fun m a w => ∃ K' D' M', I K' D' M' m ∧ Slots n (K' ++ Kk) a ∧ Sat σ (D' ++ D) (M' ++ F) w
  have key : ∀ m, ∀ a w, J m a w → ∀ (b : Frame) (k : List Item) (cs : List Frame), ∃ e a' w', Q e a' w' ∧ Arrives P (lone (b.at a (.code c :: .inLoop c :: k)) cs w) b k cs e a' w' := by
    intro m
    induction m using Nat.strongRecOn with
    | _ m ih =>
      intro a w ⟨K', D', M', hI, hs, ht⟩ b k cs
      obtain ⟨e, a₁, w₁, hq, harr⟩ := round K' D' M' m hI a w hs ht b (.inLoop c :: k) cs
      cases e with
      | normal =>
        obtain ⟨K2, D2, M2, m2, hI2, hlt, hs2, ht2⟩ := hq
        obtain ⟨e₂, a₂, w₂, hq₂, harr₂⟩ := ih m2 hlt a₁ w₁ ⟨K2, D2, M2, hI2, hs2, ht2⟩ b k cs
        exact ⟨e₂, a₂, w₂, hq₂, .of_steps (Steps.trans harr (.one step_inLoop)) harr₂⟩
      | exit id => exact ⟨_, a₁, w₁, hq, .pass (x := .inLoop c) rfl (fun _ _ => .inl (by simp)) harr⟩
      | goto l => exact ⟨_, a₁, w₁, hq, .pass (x := .inLoop c) rfl (fun _ _ => .inl (by simp)) harr⟩
      | ret => exact ⟨_, a₁, w₁, hq, .pass (x := .inLoop c) rfl (fun _ _ => .inl (by simp)) harr⟩
      | panic ch => exact ⟨_, a₁, w₁, hq, .pass (x := .inLoop c) rfl (fun _ _ => .inl (by simp)) harr⟩
      | outgrown => exact ⟨_, a₁, w₁, hq, .pass (x := .inLoop c) rfl (fun _ _ => .inl (by simp)) harr⟩
  intro b k cs
  obtain ⟨e, a', w', hq, harr⟩ := key m0 a w ⟨K0, D0, M0, h0, s.sub (hK.append hk), (t.facts (SubD.append hD (.refl _))).ent hM⟩ b k cs
  exact ⟨e, a', w', hq, .of_steps (.one step_loop) harr⟩
theorem T.back {I : Env → List Asn → List Asn → Nat → Prop} {Kk : Env} {D0 F : List Asn} {m m' : Nat} {K' : Env} {D' M' : List Asn} (hI : I K' D' M' m') (hm : m' < m)
    (hK : SubK K' K) (hk : SubK Kk K) (hD : SubD D' D) (hd : SubD D0 D) (hM : Ent M (M' ++ F)) : T σ n (Back σ n I Kk D0 F m) K D M := fun _ _ s t =>
  ⟨K', D', M', m', hI, hm, s.sub (hK.append hk), (t.facts (SubD.append hD hd)).ent hM⟩

/-! ### functions -/
def IsFn (P : Program) (f : FuncId) : Prop := ∀ args w, (callFunc f args).run P w = .ok (.enter f args) w
theorem IsFn.of {P : Program} {f : FuncId} {fn : Func} (h : P.funcs[f]? = some fn) (hb : fn.body.isNone = false) (hn : (fn.name == "runtime.NumGoroutine") = false) : IsFn P f := fun args w => by
  simp only [callFunc, program, bind, Sem.bind, Sem.run, h, hn, hb]
  rfl

def RetPost (σ : World) (R : Value → List Asn → List Asn → Prop) (D M : List Asn) (e : Ending) (w : World) : Prop :=
  ∃ v D' M', e = .returned v ∧ R v D' M' ∧ Sat σ (D' ++ D) (M' ++ M) w
structure Spec (P : Program) (f : FuncId) (args : List Value) (D0 M0 : List Asn) (R : Value → List Asn → List Asn → Prop) : Prop where
  fn : IsFn P f
  run : ∀ σ D M w, Sat σ (D0 ++ D) (M0 ++ M) w → Calls P f args.toArray w (RetPost σ R D M)

def argK : Nat → List Value → Env
  | _, [] => []
  | i, v :: vs => (i, v) :: argK (i + 1) vs
theorem get_argK : ∀ (l : List Value) (i t : Nat) (v : Value), get (argK i l) t = some v → i ≤ t ∧ l[t - i]? = some v
  | [], _, _, _, h => by cases h
  | u :: l, i, t, v, h => by
    simp only [argK, get] at h
    cases hb : Nat.beq i t with
    | true =>
      rw [hb, cond_true] at h
      cases h
      have := Nat.eq_of_beq_eq_true hb
      subst this
      simp
    | false =>
      rw [hb, cond_false] at h
      obtain ⟨h1, h2⟩ := get_argK l (i + 1) t v h
      refine ⟨by omega, ?_⟩
      rw [show t - i = (t - (i + 1)) + 1 from by omega, List.getElem?_cons_succ]
      exact h2
theorem Spec.intro {f : FuncId} {fn : Func} {c : Code} {n : Nat} {args : List Value} {D0 M0 : List Asn} {R : Value → List Asn → List Asn → Prop} (hf : P.funcs[f]? = some fn) (hb : fn.body = some c) (hn : fn.ntmps = n)
    (hnm : (fn.name == "runtime.NumGoroutine") = false) (hl : args.length ≤ n)
    {K0 : Env} (hK0 : argK 0 args = K0) {D2 M2 : List Asn → List Asn} (hD2 : ∀ D, AppL D0 D (D2 D)) (hM2 : ∀ M, AppL M0 M (M2 M))
    (h : ∀ σ D M, T σ n (c.wp P (bodyPost P fn (RetPost σ R D M))) K0 (D2 D) (M2 M)) : Spec P f args D0 M0 R where
  fn := IsFn.of hf (by rw [hb]; rfl) hnm
  run σ D M w t := by
    subst hn
    subst hK0
    rw [hD2 D, hM2 M] at t
    refine calls_of_wp hf hb (h σ D M _ w ⟨rfl, ?_, fun t v e => ?_⟩ t)
    · simp; omega
    · obtain ⟨_, h2⟩ := get_argK _ _ _ _ e
      have hlt : t < args.length := by
        have := (List.getElem?_eq_some_iff.1 h2).1
        simpa using this
      simp only [Nat.sub_zero] at h2
      simp only [Array.getD_eq_getD_getElem?]
      rw [Array.getElem?_append_left (by simpa using hlt)]
      simp [h2]

theorem T.ret0 {fn : Func} {R : Value → List Asn → List Asn → Prop} {D0 M0 D' M' : List Asn} {v : Value} {e : Exit} (he : e = .ret ∨ e = .normal) (hv : ∀ a w, Slots n K a → Sat σ D M w → (results fn a.tmps).run P w = .ok v w)
    (hR : R v D' M') (hD : SubD (D' ++ D0) D) (hM : Ent M (M' ++ M0)) : T σ n (bodyPost P fn (RetPost σ R D0 M0) e) K D M := fun a w s t => by
  have : a.defers = [] ∧ ∃ v, (results fn a.tmps).run P w = .ok v w ∧ RetPost σ R D0 M0 (.returned v) w := ⟨s.defers, v, hv a w s t, v, D', M', rfl, hR, (t.facts hD).ent hM⟩
  rcases he with rfl | rfl <;> exact this
theorem T.ret1 {fn : Func} {t : Nat} {R : Value → List Asn → List Asn → Prop} {D0 M0 D' M' : List Asn} {v : Value} (hr : fn.results = #[.tmp t]) (hv : get K t = some v)
    (hR : R v D' M') (hD : SubD (D' ++ D0) D) (hM : Ent M (M' ++ M0)) : T σ n (bodyPost P fn (RetPost σ R D0 M0) .ret) K D M :=
  T.ret0 (.inl rfl) (fun a w s _ => by rw [results_tmp hr, s.val t v hv]) hR hD hM
theorem T.ret2 {fn : Func} {t u : Nat} {R : Value → List Asn → List Asn → Prop} {D0 M0 D' M' : List Asn} {v x : Value} (hr : fn.results = #[.tmp t, .tmp u]) (hv : get K t = some v) (hx : get K u = some x)
    (hR : R (.tuple #[v, x]) D' M') (hD : SubD (D' ++ D0) D) (hM : Ent M (M' ++ M0)) : T σ n (bodyPost P fn (RetPost σ R D0 M0) .ret) K D M :=
  T.ret0 (.inl rfl) (fun a w s _ => by rw [results_tmp2 hr, s.val t v hv, s.val u x hx]) hR hD hM
theorem T.retN {fn : Func} {R : Value → List Asn → List Asn → Prop} {D0 M0 D' M' : List Asn} {e : Exit} (he : e = .ret ∨ e = .normal) (hr : fn.results = #[])
    (hR : R (.tuple #[]) D' M') (hD : SubD (D' ++ D0) D) (hM : Ent M (M' ++ M0)) : T σ n (bodyPost P fn (RetPost σ R D0 M0) e) K D M :=
  T.ret0 he (fun a w _ _ => results_none hr _ _ _) hR hD hM

/-! ### operations -/
variable {m : Option (List Asn × List Asn)} {ops : Array Oper} {l rest : List Oper} {d : Nat} {ty : TypeId} {pos : String} {aft : Array Edge}

theorem L.keep {K' : Env} (hK : SubK K' K) (h : TL m P σ n ops Q l K' D M) : TL m P σ n ops Q l K D M := by
  cases m with
  | none => exact T.keep hK h
  | some p => exact fun hp a s => h hp a (s.sub hK)
theorem L.norm {X Y D2 M2 : List Asn} (h1 : AppL X D D2) (h2 : AppL Y M M2) (h : TL m P σ n ops Q l K D2 M2) : TL m P σ n ops Q l K (X ++ D) (Y ++ M) := by subst h1; subst h2; exact h
theorem L.drop {M' : List Asn} (hM : Ent M M') (h : TL none P σ n ops Q l K D M') : TL none P σ n ops Q l K D M := T.drop hM h
theorem L.freeze {A : Asn} {N : List Asn} (hM : Pull A M N) (h : TL none P σ n ops Q l K (A :: D) N) : TL none P σ n ops Q l K D M := T.freeze hM h
theorem L.derive {φ ψ : Asn} (e : φ ∈ D) (i : ∀ z, φ z → ψ z) (h : TL m P σ n ops Q l K (ψ :: D) M) : TL m P σ n ops Q l K D M := by
  cases m with
  | none => exact T.derive e i h
  | some p => exact fun hp a s => h ⟨.skip hp.1, hp.2.1, fun w t => (hp.2.2 w t).derive e i⟩ a s
theorem L.deriveEx {α : Sort _} {φ : Asn} {ψ : α → Asn} (e : φ ∈ D) (i : ∀ z, φ z → ∃ x, ψ x z) (h : ∀ x, TL none P σ n ops Q l K (ψ x :: D) M) : TL none P σ n ops Q l K D M := T.deriveEx e i h
theorem L.fact {p : Prop} {φ : Asn} (e : φ ∈ D) (i : ∀ z, φ z → p) (h : p → TL none P σ n ops Q l K D M) : TL none P σ n ops Q l K D M := T.fact e i h
theorem L.pure {p : Prop} {A : Asn} (e : A ∈ M) (i : ∀ z, A z → p) (h : p → TL none P σ n ops Q l K D M) : TL none P σ n ops Q l K D M := T.pure e i h
theorem L.openEx {α : Sort _} {A : Asn} {L : α → List Asn} {N : List Asn} (hM : Pull A M N) (i : ∀ z, A z → ∃ x, Holds (L x) z) (h : ∀ x, TL none P σ n ops Q l K D (L x ++ N)) : TL none P σ n ops Q l K D M := T.openEx hM i h
theorem L.shut {A : Asn} {L N : List Asn} (hM : Sel L M N) (i : ∀ z, Holds L z → A z) (h : TL none P σ n ops Q l K D (A :: N)) : TL none P σ n ops Q l K D M := T.shut hM i h

theorem L.op {o : Oper} (hg : o.guard = none) (h : ∀ a w, Slots n K a → Sat σ D M w → ∀ K' : Act → World → Prop, (∀ a w, wpList P ops Q rest a w → K' a w) → o.wp P a w K' Q) : TL none P σ n ops Q (o :: rest) K D M :=
  fun a w s t => wpList_plain hg (fun K' hK' => h a w s t K' hK')
/-- an operation that gives a value; nothing turns -/
theorem L.quiet {op : Op} {v : Value} (hd : Nat.blt d n = true)
    (h : ∀ a w, Slots n K a → Sat σ D M w → (execOp a.eval ⟨some d, op, ty, pos, aft, none⟩).run P w = .ok (.value v) w)
    (next : TL m P σ n ops Q rest ((d, v) :: K) D M) : TL m P σ n ops Q (⟨some d, op, ty, pos, aft, none⟩ :: rest) K D M := by
  cases m with
  | none =>
    exact L.op rfl fun a w s t K' hK' => by
      unfold Oper.wp
      rw [h a w s t]
      exact hK' _ _ (next _ _ (s.put v hd) t)
  | some p =>
    refine fun hp a s => ?_
    have hw : Region.wanted ⟨some d, op, ty, pos, aft, none⟩ (yielded ops a.tmps) = true := rfl
    unfold wpQuiet
    rw [hw, if_pos rfl]
    refine ⟨v, fun w t => ?_, next hp _ (s.put v hd)⟩
    unfold Oper.quietAt
    rw [h a w s (hp.2.2 w t)]
    exact ⟨rfl, rfl⟩
/-- an operation that gives a value; the world may turn -/
theorem L.val {op : Op} {v : Value} {D' M' : List Asn} (hd : Nat.blt d n = true)
    (h : ∀ a w, Slots n K a → Sat σ D M w → ∃ w', (execOp a.eval ⟨some d, op, ty, pos, aft, none⟩).run P w = .ok (.value v) w' ∧ Sat σ D' M' w')
    (next : TL none P σ n ops Q rest ((d, v) :: K) D' M') : TL none P σ n ops Q (⟨some d, op, ty, pos, aft, none⟩ :: rest) K D M :=
  L.op rfl fun a w s t K' hK' => by
    obtain ⟨w', hr, hs⟩ := h a w s t
    unfold Oper.wp
    rw [hr]
    exact hK' _ _ (next _ _ (s.put v hd) hs)
theorem L.valEx {op : Op} (hd : Nat.blt d n = true) (R : Value → List Asn → List Asn → Prop)
    (h : ∀ a w, Slots n K a → Sat σ D M w → ∃ v D' M' w', (execOp a.eval ⟨some d, op, ty, pos, aft, none⟩).run P w = .ok (.value v) w' ∧ R v D' M' ∧ Sat σ D' M' w')
    (next : ∀ v D' M', R v D' M' → TL none P σ n ops Q rest ((d, v) :: K) D' M') : TL none P σ n ops Q (⟨some d, op, ty, pos, aft, none⟩ :: rest) K D M :=
  L.op rfl fun a w s t K' hK' => by
    obtain ⟨v, D', M', w', hr, hR, hs⟩ := h a w s t
    unfold Oper.wp
    rw [hr]
    exact hK' _ _ (next v D' M' hR _ _ (s.put v hd) hs)
/-- an operation that gives nothing (a store) -/
theorem L.eff {op : Op} {D' M' : List Asn}
    (h : ∀ a w, Slots n K a → Sat σ D M w → ∃ w', (execOp a.eval ⟨none, op, ty, pos, aft, none⟩).run P w = .ok .skip w' ∧ Sat σ D' M' w')
    (next : TL none P σ n ops Q rest K D' M') : TL none P σ n ops Q (⟨none, op, ty, pos, aft, none⟩ :: rest) K D M :=
  L.op rfl fun a w s t K' hK' => by
    obtain ⟨w', hr, hs⟩ := h a w s t
    unfold Oper.wp
    rw [hr]
    exact hK' _ _ (next _ _ (s.put' _) hs)

theorem call_run {f : FuncId} {xs : List Operand} {ats : Array TypeId} {args : List Value} {g : Option (Nat × Bool)} {dst : Option Nat} {D0 M0 : List Asn} {R : Value → List Asn → List Asn → Prop} {a : Act} {w : World} (s : Slots n K a) (hx : evs K xs args) (hS : Spec P f args D0 M0 R) :
    (execOp a.eval ⟨dst, .call { callee := .value (.func f), args := xs.toArray, argTypes := ats }, ty, pos, aft, g⟩).run P w = .ok (.enter f args.toArray) w := by
  have h1 := hS.fn args.toArray w
  have h2 : xs.map a.eval = args := s.evals hx
  simp only [execOp, resolve, Deferred.ofValue, Act.eval, bind, pure, Sem.bind, invoke, List.map_toArray, h2, Array.empty_append, Array.append_empty]
  exact h1
theorem L.call {f : FuncId} {xs : List Operand} {ats : Array TypeId} {args : List Value} {D0 M0 F : List Asn} {R : Value → List Asn → List Asn → Prop} (hd : Nat.blt d n = true) (hx : evs K xs args) (hD : SubD D0 D) (hM : Sel M0 M F)
    (hS : Spec P f args D0 M0 R) (next : ∀ v D' M', R v D' M' → TL none P σ n ops Q rest ((d, v) :: K) (D' ++ D) (M' ++ F)) :
    TL none P σ n ops Q (⟨some d, .call { callee := .value (.func f), args := xs.toArray, argTypes := ats }, ty, pos, aft, none⟩ :: rest) K D M :=
  L.op rfl fun a w s t K' hK' => by
    unfold Oper.wp
    rw [call_run s hx hS]
    refine (hS.run σ D F w ((t.facts (SubD.append hD (.refl _))).ent hM)).mono ?_
    rintro e w' ⟨v, D', M', rfl, hR, hs⟩
    exact hK' _ _ (next v D' M' hR _ _ (s.put v hd) hs)
/-- a call that gives one value and leaves what was: it may stand in a quiet region -/
theorem L.callQ {f : FuncId} {xs : List Operand} {ats : Array TypeId} {args : List Value} {D0 M0 F : List Asn} {R : Value → List Asn → List Asn → Prop} {v : Value} (hd : Nat.blt d n = true) (hx : evs K xs args) (hD : SubD D0 D) (hM : Sel M0 M F)
    (hS : Spec P f args D0 M0 R) (hR : ∀ u D' M', R u D' M' → u = v ∧ Ent (M' ++ F) M) (next : TL m P σ n ops Q rest ((d, v) :: K) D M) :
    TL m P σ n ops Q (⟨some d, .call { callee := .value (.func f), args := xs.toArray, argTypes := ats }, ty, pos, aft, none⟩ :: rest) K D M := by
  cases m with
  | none =>
    refine L.call hd hx hD hM hS fun u D' M' hu => ?_
    obtain ⟨rfl, e⟩ := hR u D' M' hu
    exact fun a w s t => next a w s ((t.facts (fun φ h => List.mem_append.2 (.inr h))).ent e)
  | some p =>
    refine fun hp a s => ?_
    have hw : Region.wanted ⟨some d, .call { callee := .value (.func f), args := xs.toArray, argTypes := ats }, ty, pos, aft, none⟩ (yielded ops a.tmps) = true := rfl
    unfold wpQuiet
    rw [hw, if_pos rfl]
    refine ⟨v, fun w t => ?_, next hp _ (s.put v hd)⟩
    unfold Oper.quietAt
    rw [call_run s hx hS]
    refine ⟨rfl, (hS.run σ D F w (((hp.2.2 w t).facts (SubD.append hD (.refl _))).ent hM)).mono ?_⟩
    rintro e w' ⟨u, D', M', rfl, hu, hs⟩
    obtain ⟨rfl, e⟩ := hR u D' M' hu
    obtain ⟨h1, rfl, _⟩ := hp
    exact ⟨rfl, (hs.facts (fun φ h => List.mem_append.2 (.inr (h1 φ h)))).ent e⟩
theorem L.callF {f : FuncId} {xs : List Operand} {ats : Array TypeId} {args : List Value} {D0 M0 F : List Asn} {R : Value → List Asn → List Asn → Prop} {v : Value} (hd : Nat.blt d n = true) (hx : evs K xs args) (hD : SubD D0 D) (hM : Sel M0 M F)
    (hS : Spec P f args D0 M0 R) (hR : ∀ u D' M', R u D' M' → u = v ∧ ∃ M2, AppL M' F M2 ∧ Ent M2 M) (next : TL m P σ n ops Q rest ((d, v) :: K) D M) :
    TL m P σ n ops Q (⟨some d, .call { callee := .value (.func f), args := xs.toArray, argTypes := ats }, ty, pos, aft, none⟩ :: rest) K D M :=
  L.callQ hd hx hD hM hS (fun u D' M' h => by obtain ⟨e, _, rfl, k⟩ := hR u D' M' h; exact ⟨e, k⟩) next

end
end Cv
