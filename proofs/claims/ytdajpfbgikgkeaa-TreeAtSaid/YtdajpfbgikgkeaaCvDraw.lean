/-
  My own library for walks, a text of it (CvDraw): separation logic over the kit's Calls; no statement of this seat stands here.
-/
import Derived.Test.YtdajpfbgikgkeaaCvWalk
import Derived.OrdersHeld
import Derived.Deep.RegionHeld3
set_option linter.unusedVariables false
set_option linter.unusedSimpArgs false
set_option linter.unusedSectionVars false
namespace Cv
open Go
section
variable {P : Program} {ops : Array Oper} {Q : Post} {S0 S : World → Prop} {hd : Nat → Nat}
/-- whatever order is picked; behind each of the first hd operations S holds -/
def wpG (P : Program) (ops : Array Oper) (Q : Post) (S0 S : World → Prop) (hd : Nat → Nat) : Nat → Array Bool → Act → World → Prop
  | 0, listed, a, w => Region.ready .any ops listed = [] ∧ Q .normal a w
  | fuel + 1, listed, a, w =>
    (Region.ready .any ops listed = [] → Q .normal a w) ∧
    ∀ i ∈ Region.ready .any ops listed, wpOp P ops Q i (fun a' w' => S0 w' ∧ (hd i = 0 → S w') ∧ (hd i = 1 → S w → S w') ∧ wpG P ops Q S0 S hd fuel (listed.setIfInBounds i true) a' w') a w
theorem wpG.any : ∀ (fuel : Nat) (listed : Array Bool) (a : Act) (w : World), wpG P ops Q S0 S hd fuel listed a w → wpAny P .any ops Q fuel listed a w
  | 0, _, _, _, h => h
  | fuel + 1, _, _, _, h => ⟨h.1, fun i hi => wpOp_mono (fun a' w' h' => wpG.any fuel _ a' w' h'.2.2.2) (h.2 i hi)⟩
def addE : List Edge → Array Bool → Array Bool
  | [], S => S
  | e :: es, S => addE es (if Region.binds .any e then S.setIfInBounds e.on true else S)
def sweep (ops : Array Oper) : List Nat → Array Bool → Array Bool
  | [], S => S
  | j :: js, S => sweep ops js (if S.getD j false then (match ops[j]? with | some o => addE o.after.toList S | none => S) else S)
/-- what operation t waits for, if through others too -/
def waits (ops : Array Oper) (t : Nat) : Array Bool :=
  match ops[t]? with
  | some o => let r := (List.range ops.size).reverse; sweep ops r (sweep ops r (addE o.after.toList (Array.replicate ops.size false)))
  | none => Array.replicate ops.size false
def clsL (l : List Nat) (i : Nat) : Nat := l.getD i 0
/-- 0: the head (what D0 and M0 say is kept); 1: looks at the slots alone; 2: the tail, that waits for all of the head -/
def tailB (ops : Array Oper) (hd : Nat → Nat) (listed : Array Bool) : Bool := (List.range ops.size).all fun t => Nat.ble (hd t) 1 || listed.getD t true || (let S := waits ops t; (List.range ops.size).all fun i => Nat.ble 1 (hd i) || listed.getD i false || S.getD i false)
def closedB (ops : Array Oper) (listed : Array Bool) : Bool := (List.range ops.size).all fun j => !listed.getD j false || match ops[j]? with | some o => o.after.all (fun e => !Region.binds .any e || listed.getD e.on false) | none => true
def Closed (ops : Array Oper) (listed : Array Bool) : Prop := ∀ (j : Nat) (o : Oper), ops[j]? = some o → listed.getD j false = true → ∀ e ∈ o.after, Region.binds .any e = true → listed.getD e.on false = true
theorem closedB_spec {listed : Array Bool} (h : closedB ops listed = true) : Closed ops listed := fun j o ho hl e he hb => by
  have hlt : j < ops.size := (Array.getElem?_eq_some_iff.1 ho).1
  have h1 := List.all_eq_true.1 h j (List.mem_range.2 hlt)
  simp only [hl, ho, Bool.not_true, Bool.false_or] at h1
  have h2 := (Array.all_eq_true_iff_forall_mem.1 h1) e he
  simpa [hb] using h2
theorem Closed.set {listed : Array Bool} {j : Nat} (h : Closed ops listed) (hj : j ∈ Region.ready .any ops listed) : Closed ops (listed.setIfInBounds j true) := fun k o ho hl e he hb => by
  by_cases e1 : j = k
  · subst e1
    obtain ⟨_, o', ho', hall⟩ := mem_ready.1 hj
    rw [ho] at ho'; cases ho'
    exact getD_set_true (hall e he hb)
  · rw [getD_set_ne false e1] at hl
    exact getD_set_true (h k o ho hl e he hb)
def Within (S listed : Array Bool) : Prop := ∀ i, S.getD i false = true → listed.getD i false = true
theorem addE_within {listed : Array Bool} : ∀ (es : List Edge) (S : Array Bool), Within S listed → (∀ e ∈ es, Region.binds .any e = true → listed.getD e.on false = true) → Within (addE es S) listed
  | [], S, h, _ => h
  | e :: es, S, h, k => by
    refine addE_within es _ ?_ (fun e' he' => k e' (by simp [he']))
    split
    · rename_i hb
      intro i hi
      by_cases e1 : e.on = i
      · subst e1; exact k e (by simp) hb
      · rw [getD_set_ne false e1] at hi; exact h i hi
    · exact h
theorem sweep_within {listed : Array Bool} (hc : Closed ops listed) : ∀ (js : List Nat) (S : Array Bool), Within S listed → Within (sweep ops js S) listed
  | [], S, h => h
  | j :: js, S, h => by
    refine sweep_within hc js _ ?_
    split
    · rename_i hj
      split
      · rename_i o ho
        exact addE_within _ _ h (fun e he hb => hc j o ho (h j hj) e (Array.mem_toList_iff.1 he) hb)
      · exact h
    · exact h
theorem waits_listed {listed : Array Bool} (hc : Closed ops listed) {t : Nat} (hd : ∀ o, ops[t]? = some o → ∀ e ∈ o.after, Region.binds .any e = true → listed.getD e.on false = true) : Within (waits ops t) listed := by
  have h0 : Within (Array.replicate ops.size false) listed := fun i hi => by
    exfalso
    simp only [Array.getD_eq_getD_getElem?, Array.getElem?_replicate] at hi
    split at hi <;> simp at hi
  unfold waits
  cases ho : ops[t]? with
  | none => exact h0
  | some o => exact sweep_within hc _ _ (sweep_within hc _ _ (addE_within _ _ h0 (fun e he hb => hd o ho e (Array.mem_toList_iff.1 he) hb)))
theorem getD_set_up {listed : Array Bool} {j i : Nat} (h : listed.getD i false = true) : (listed.setIfInBounds j true).getD i false = true := getD_set_true h
theorem tailB_set {listed : Array Bool} {j : Nat} (h : tailB ops hd listed = true) : tailB ops hd (listed.setIfInBounds j true) = true := by
  unfold tailB at *
  rw [List.all_eq_true] at *
  intro t ht
  have := h t ht
  simp only [Bool.or_eq_true] at this ⊢
  rcases this with (h1 | h1) | h1
  · exact .inl (.inl h1)
  · left; right
    by_cases e : j = t
    · subst e
      by_cases hl : j < listed.size
      · simp [hl]
      · simp [hl]
    · rw [getD_set_ne true e]; exact h1
  · right
    rw [List.all_eq_true] at *
    intro i hi
    have h2 := h1 i hi
    simp only [Bool.or_eq_true] at h2 ⊢
    rcases h2 with (h3 | h3) | h3
    · exact .inl (.inl h3)
    · exact .inl (.inr (getD_set_true h3))
    · exact .inr h3
theorem tailB_spec {listed : Array Bool} (h : tailB ops hd listed = true) {t i : Nat} (ht : 2 ≤ hd t) (hi : hd i = 0) (hlt' : i < ops.size) (hc : Closed ops listed) (hun : listed.getD i false = false) : t ∉ Region.ready .any ops listed := fun hr => by
  obtain ⟨hu, o, ho, hall⟩ := mem_ready.1 hr
  have hlt : t < ops.size := (Array.getElem?_eq_some_iff.1 ho).1
  have h1 := List.all_eq_true.1 h t (List.mem_range.2 hlt)
  simp only [Bool.or_eq_true] at h1
  rcases h1 with (h1 | h1) | h1
  · have := Nat.le_of_ble_eq_true h1; omega
  · rw [hu] at h1; cases h1
  have h2 := List.all_eq_true.1 h1 i (List.mem_range.2 hlt')
  simp only [Bool.or_eq_true] at h2
  rcases h2 with (h2 | h2) | h2
  · have := Nat.le_of_ble_eq_true h2; omega
  · rw [hun] at h2; cases h2
  have := waits_listed hc (t := t) (fun o' ho' e he hb => by rw [ho] at ho'; cases ho'; exact hall e he hb) i h2
  rw [hun] at this; cases this
theorem unl {listed : Array Bool} {i : Nat} (h : listed.getD i true = false) : listed.getD i false = false := by
  simp only [Array.getD_eq_getD_getElem?] at *
  cases e : listed[i]? with
  | none => rfl
  | some b => rw [e] at h; simpa using h
/-- an operation that yields one value in all worlds of a class Y may be taken first, if no other one that may come up leads out of Y -/
theorem wpG.first {i : Nat} {oi : Oper} {v : Value} {Y : World → Prop} (hi : ops[i]? = some oi) (hsel : Region.noSelect ops = true)
    (hQ : ∀ c a w, Q (.panic c) (a.put oi.dst v) w → Q (.panic c) a w) (OK : Array Bool → Prop) (hset : ∀ listed j, OK listed → j ∈ Region.ready .any ops listed → OK (listed.setIfInBounds j true))
    (hY : ∀ listed j w w', OK listed → i ∈ Region.ready .any ops listed → j ∈ Region.ready .any ops listed → Y w → S0 w' → (hd j = 0 → S w') → (hd j = 1 → S w → S w') → Y w') (hY0 : ∀ w, Y w → S0 w) (hYS : hd i = 0 → ∀ w, Y w → S w) :
    ∀ (fuel : Nat) (listed : Array Bool) (a : Act) (w : World), OK listed →
      (∀ j oj, ops[j]? = some oj → j ≠ i → listed.getD j true = false → (∀ e ∈ oj.after, Region.binds .any e = true → e.on ≠ i) → oi.apart ops oj = true) →
      i ∈ Region.ready .any ops listed → YieldsIf P ops Y oi v a → Y w →
      wpG P ops Q S0 S hd fuel (listed.setIfInBounds i true) (a.put oi.dst v) w → wpG P ops Q S0 S hd (fuel + 1) listed a w := by
  have none : ∀ {listed : Array Bool}, i ∈ Region.ready .any ops listed → Region.ready .any ops listed ≠ [] := fun hr h => by rw [h] at hr; cases hr
  intro fuel
  induction fuel with
  | zero =>
    intro listed a w _ _ hr hy hS H
    refine ⟨fun h => absurd h (none hr), fun j hj => ?_⟩
    by_cases e : j = i
    · subst e; exact hy.wpOp hi hS ⟨hY0 w hS, fun h => hYS h w hS, fun _ h => h, H⟩
    · have := ready_mono hj e
      rw [H.1] at this; cases this
  | succ f ih =>
    intro listed a w hok hfree hr hy hS H
    have hun := (mem_ready.1 hr).1
    refine ⟨fun h => absurd h (none hr), fun j hj => ?_⟩
    by_cases e : j = i
    · subst e; exact hy.wpOp hi hS ⟨hY0 w hS, fun h => hYS h w hS, fun _ h => h, H⟩
    obtain ⟨hjun, oj, hoj, hall⟩ := mem_ready.1 hj
    have hnot : ∀ e ∈ oj.after, Region.binds .any e = true → e.on ≠ i := fun e he hb heq => by
      have h1 := hall e he hb
      rw [heq, unl hun] at h1; cases h1
    refine wpOp_mono (fun a' w' h3 => ?_) (wpOp_putIf hoj (hfree j oj hoj e hjun hnot) (fun cs b => Region.noSelect_spec hsel i oi cs b hi) (fun cs b => Region.noSelect_spec hsel j oj cs b hoj) hQ hy (H.2 j (ready_mono hj e)))
    have hS' : Y w' := hY listed j w w' hok hr hj hS h3.2.1 h3.2.2.1 h3.2.2.2.1
    refine ⟨h3.2.1, h3.2.2.1, h3.2.2.2.1, ih (listed.setIfInBounds j true) a' w' (hset listed j hok hj) (fun k ok hk hki hu hno => hfree k ok hk hki ?_ hno) (ready_mono hr (Ne.symm e)) h3.1 hS' ?_⟩
    · by_cases e2 : j = k
      · subst e2; exact hjun
      · rw [getD_set_ne true e2] at hu; exact hu
    · rw [Array.setIfInBounds_comm _ _ e]; exact h3.2.2.2.2
/-- an operation of the head that reads -/
theorem wpG.head {i : Nat} {oi : Oper} {v : Value} (hi : ops[i]? = some oi) (hsel : Region.noSelect ops = true) (hih : hd i = 0) (hQ : ∀ c a w, Q (.panic c) (a.put oi.dst v) w → Q (.panic c) a w) (h0 : ∀ w, S w → S0 w)
    {fuel : Nat} {listed : Array Bool} {a : Act} {w : World} (hcl : Closed ops listed) (ht : tailB ops hd listed = true) (hf : Region.free .any ops listed i = true)
    (hr : i ∈ Region.ready .any ops listed) (hy : YieldsIf P ops S oi v a) (hS : S w) (H : wpG P ops Q S0 S hd fuel (listed.setIfInBounds i true) (a.put oi.dst v) w) : wpG P ops Q S0 S hd (fuel + 1) listed a w :=
  wpG.first (Y := S) hi hsel hQ (fun l => Closed ops l ∧ tailB ops hd l = true) (fun l j h hj => ⟨h.1.set hj, tailB_set h.2⟩)
    (fun l j w w' hok hri hrj hw _ h2 h3 => by
      rcases Nat.lt_or_ge (hd j) 2 with h | h
      · rcases Nat.lt_or_ge (hd j) 1 with h' | h'
        · exact h2 (by omega)
        · exact h3 (by omega) hw
      · exact absurd hrj (tailB_spec hok.2 h hih (Array.getElem?_eq_some_iff.1 hi).1 hok.1 (unl (mem_ready.1 hri).1))) h0 (fun _ _ h => h) fuel listed a w ⟨hcl, ht⟩ (Region.free_spec hi hf) hr hy hS H
/-- an operation that looks at the slots alone -/
theorem wpG.slots {i : Nat} {oi : Oper} {v : Value} (hi : ops[i]? = some oi) (hsel : Region.noSelect ops = true) (hih : hd i ≠ 0) (hQ : ∀ c a w, Q (.panic c) (a.put oi.dst v) w → Q (.panic c) a w)
    {fuel : Nat} {listed : Array Bool} {a : Act} {w : World} (hf : Region.free .any ops listed i = true)
    (hr : i ∈ Region.ready .any ops listed) (hy : YieldsIf P ops S0 oi v a) (hS : S0 w) (H : wpG P ops Q S0 S hd fuel (listed.setIfInBounds i true) (a.put oi.dst v) w) : wpG P ops Q S0 S hd (fuel + 1) listed a w :=
  wpG.first (Y := S0) hi hsel hQ (fun _ => True) (fun _ _ _ _ => trivial) (fun _ _ _ _ _ _ _ _ h _ _ => h) (fun _ h => h) (fun h => absurd h hih) fuel listed a w trivial (Region.free_spec hi hf) hr hy hS H
end
section
variable {P : Program} {σ : World} {n : Nat} {Q : Post} {K : Env} {D M D0 M0 : List Asn} {ops : Array Oper} {fuel : Nat} {hd : Nat → Nat} {listed : Array Bool}
theorem Sat.none {w : World} (t : Sat σ D M w) : Sat σ [] [] w := (t.facts (SubD.nil _)).ent (fun _ _ => trivial)
theorem Sat.noM {w : World} (t : Sat σ D M w) : Sat σ D [] w := t.ent (fun _ _ => trivial)
/-- a region that draws its order: those of `listed` are done; the first hd operations leave D0 and M0 true -/
def A (P : Program) (σ : World) (n : Nat) (ops : Array Oper) (Q : Post) (hd : Nat → Nat) (D0 M0 : List Asn) (fuel : Nat) (listed : Array Bool) (K : Env) (D M : List Asn) : Prop := T σ n (wpG P ops (NoPanic Q) (fun w => Sat σ D0 [] w) (fun w => Sat σ D0 M0 w) hd fuel listed) K D M
theorem T.regionA {id : Nat} {l : List Oper} (hd : Nat → Nat) (hm : P.follows .mixedOrders = true) (h : A P σ n l.toArray Q hd D M l.toArray.size (Array.replicate l.toArray.size false) K D M) : T σ n ((Code.region id l.toArray true).wp P Q) K D M := fun a w s t =>
  wp_region_noPanic (wp_region_any hm (wpG.any _ _ _ _ (h a _ s (t.drew _))))
theorem A.done (hr : Region.ready .any ops listed = []) (h : T σ n (Q .normal) K D M) : A P σ n ops Q hd D0 M0 fuel listed K D M := fun a w s t => by
  cases fuel with
  | zero => exact ⟨hr, NoPanic.normal (h a w s t)⟩
  | succ f => exact ⟨fun _ => NoPanic.normal (h a w s t), fun i hi => (by rw [hr] at hi; cases hi)⟩
/-- the post of one operation -/
def Step1 (P : Program) (σ : World) (ops : Array Oper) (Q : Post) (hd : Nat → Nat) (D0 M0 : List Asn) (fuel : Nat) (listed : Array Bool) (i : Nat) : Post := fun e a w => e = .normal ∧ Sat σ D0 [] w ∧ (hd i = 0 → Sat σ D0 M0 w) ∧ hd i ≠ 1 ∧ wpG P ops (NoPanic Q) (fun w => Sat σ D0 [] w) (fun w => Sat σ D0 M0 w) hd fuel listed a w
theorem A.back {i : Nat} (hi : Nat.beq (hd i) 1 = false) (hD : SubD D0 D) (hM : Ent M M0) (h : A P σ n ops Q hd D0 M0 fuel listed K D M) : TL none P σ n ops (Step1 P σ ops Q hd D0 M0 fuel listed i) [] K D M := fun a w s t => ⟨rfl, (t.facts hD).noM, fun _ => (t.facts hD).ent hM, fun e => (by rw [e] at hi; cases hi), h a w s t⟩
/-- of the tail -/
theorem A.backT {i : Nat} (hi : hd i = 2) (hD : SubD D0 D) (h : A P σ n ops Q hd D0 M0 fuel listed K D M) : TL none P σ n ops (Step1 P σ ops Q hd D0 M0 fuel listed i) [] K D M := fun a w s t => ⟨rfl, (t.facts hD).noM, fun h => absurd h (by omega), by omega, h a w s t⟩
def Each (P : Program) (σ : World) (n : Nat) (ops : Array Oper) (Q : Post) (hd : Nat → Nat) (D0 M0 : List Asn) (fuel : Nat) (listed : Array Bool) (K : Env) (D M : List Asn) : List Nat → Prop
  | [] => True
  | i :: is => (∃ o, ops[i]? = some o ∧ TL none P σ n ops (Step1 P σ ops Q hd D0 M0 fuel (listed.setIfInBounds i true) i) [o] K D M) ∧ Each P σ n ops Q hd D0 M0 fuel listed K D M is
theorem upon_mono {o : Oper} {a : Act} {K1 K2 : Act → World → Prop} {Q1 Q2 : Post} {r : Result Next} (hK : ∀ a w, K1 a w → K2 a w) (hp : ∀ c a w, Q1 (.panic c) a w → Q2 (.panic c) a w) (hl : LetsOut Q1 → LetsOut Q2)
    (h : o.upon P a K1 Q1 r) : o.upon P a K2 Q2 r := by
  cases r with
  | ok n w' =>
    cases n <;> simp only [Oper.upon] at h ⊢ <;>
      first
        | exact hK _ _ h
        | exact Calls.mono h (fun e w'' he => by cases e <;> first | exact hK _ _ he | exact hp _ _ _ he | exact hl he)
        | exact Rows.mono h (fun _ _ he => hK _ _ he)
  | halt x w' => cases x <;> simp only [Oper.upon] at h ⊢ <;> exact hp _ _ _ h
theorem Each.mem {is : List Nat} (h : Each P σ n ops Q hd D0 M0 fuel listed K D M is) : ∀ i ∈ is, ∃ o, ops[i]? = some o ∧ TL none P σ n ops (Step1 P σ ops Q hd D0 M0 fuel (listed.setIfInBounds i true) i) [o] K D M := by
  induction is with
  | nil => intro i hi; cases hi
  | cons j is ih =>
    intro i hi
    cases hi with
    | head => exact h.1
    | tail _ hi => exact ih h.2 i hi
theorem A.branch {is : List Nat} (hr : Region.ready .any ops listed = is) (hne : is ≠ []) (h : Each P σ n ops Q hd D0 M0 fuel listed K D M is) : A P σ n ops Q hd D0 M0 (fuel + 1) listed K D M := fun a w s t => by
  refine ⟨fun h0 => absurd (hr.symm.trans h0) hne, fun i hi => ?_⟩
  rw [hr] at hi
  obtain ⟨o, ho, hT⟩ := h.mem i hi
  have h1 := hT a w s t
  have hlets : LetsOut (Step1 P σ ops Q hd D0 M0 fuel (listed.setIfInBounds i true) i) → False := fun ⟨_, _, h, _⟩ => by cases h
  unfold wpOp
  simp only [ho]
  simp only [wpList] at h1
  split
  · rename_i hw
    simp only [hw, if_true] at h1
    rcases h1 with h1 | ⟨_, h1⟩
    · exact .inl (upon_mono (fun a w hh => ⟨hh.2.1, hh.2.2.1, fun e => absurd e hh.2.2.2.1, hh.2.2.2.2⟩) (fun c a w hh => by cases hh.1) (fun hh => (hlets hh).elim) h1)
    · exact (hlets h1).elim
  · rename_i hw
    simp only [hw] at h1
    exact ⟨h1.2.1, h1.2.2.1, fun e => absurd e h1.2.2.2.1, h1.2.2.2.2⟩
/-- an operation that looks at the slots alone -/
def Plain : Op → Bool
  | .move _ | .assign _ | .pick .. | .binOp .. | .unOp .. | .convert .. | .extract .. | .fieldAddr .. | .indexAddr .. | .index .. | .field .. | .load .. | .lookup .. | .build .. | .slice .. => true
  | .call ⟨.builtin .len, _, _⟩ | .call ⟨.builtin .min, _, _⟩ | .call ⟨.builtin .max, _, _⟩ | .call ⟨.builtin .cap, _, _⟩ => true
  | _ => false
theorem plain_value {o : Oper} (h : Plain o.op = true) {ρ : Operand → Value} {w w' : World} {x : Next} (e : (execOp ρ o).run P w = .ok x w') : ∃ v, x = .value v := by
  obtain ⟨dst, op, ty, pos, aft, g⟩ := o
  have key : ∀ (s : Sem Value), (Next.value <$> s).run P w = .ok x w' → ∃ v, x = .value v := fun s e => by
    rw [map_eq_pure_bind, Sem.run_bind] at e
    cases hs : s.run P w with
    | ok v w1 =>
      rw [hs] at e
      simp [Result.andThen, Sem.run_pure] at e
      exact ⟨v, e.1.symm⟩
    | halt y w1 => rw [hs] at e; simp [Result.andThen] at e
  have key2 : ∀ (s : Sem Bool) (f : Bool → Value), (do let b ← s; pure (Next.value (f b))).run P w = .ok x w' → ∃ v, x = .value v := fun s f e => by
    rw [Sem.run_bind] at e
    cases hs : s.run P w with
    | ok v w1 =>
      rw [hs] at e
      simp [Result.andThen, Sem.run_pure] at e
      exact ⟨_, e.1.symm⟩
    | halt y w1 => rw [hs] at e; simp [Result.andThen] at e
  have key3 : ∀ (s : Sem Value), (do let b ← s; pure (Next.value b)).run P w = .ok x w' → ∃ v, x = .value v := fun s e => by
    rw [Sem.run_bind] at e
    cases hs : s.run P w with
    | ok v w1 =>
      rw [hs] at e
      simp [Result.andThen, Sem.run_pure] at e
      exact ⟨_, e.1.symm⟩
    | halt y w1 => rw [hs] at e; simp [Result.andThen] at e
  cases op <;> simp only [Plain, Bool.false_eq_true] at h
  all_goals simp only [execOp] at e
  case call c =>
    obtain ⟨cal, args, ats⟩ := c
    cases cal with
    | builtin b =>
      simp only [resolve, Sem.run_bind, Sem.run_pure, Result.andThen, invoke, builtin] at e
      cases b <;> simp only [Bool.false_eq_true] at h
      all_goals exact key3 _ e
    | _ => simp at h
  case pick c a b => exact key2 _ (fun d => if d = true then ρ a else ρ b) e
  all_goals first | exact key _ e | (simp at e; exact ⟨_, e.1.symm⟩)
/-- an operation that looks at the slots alone may be done first -/
theorem put_getD {n d : Nat} {K : Env} {a : Act} {v : Value} (s : Slots n K a) (hd : Nat.blt d n = true) : (a.put (some d) v).tmps.getD d undef = v := by
  have h1 : d < a.tmps.size := by rw [s.size]; exact Nat.le_of_ble_eq_true hd
  simp [Act.put, h1]
/-- the post of an operation that is done first: what is to be shown of its value -/
def PV (d : Nat) (Φ : Value → Prop) : Post := fun e a w => e = .normal ∧ Φ (a.tmps.getD d undef)
theorem A.took {p : List Asn × List Asn} {d : Nat} {v : Value} {Φ : Value → Prop} (h : Φ v) : TL (some p) P σ n ops (PV d Φ) [] ((d, v) :: K) D M := fun hp a s w t => ⟨rfl, by rw [s.val d v (by simp [get])]; exact h⟩
/-- an operation that looks at the slots, or at what D0 and M0 say, may be done first -/
theorem A.take {i d : Nat} {o : Oper} (ho : ops[i]? = some o) (hdst : o.dst = some d) (hdn : Nat.blt d n = true) (hpl : Plain o.op = true) (hns : Region.noSelect ops = true) (hf : Region.free .any ops listed i = true)
    (hr : (Region.ready .any ops listed).contains i = true) (htl : (tailB ops hd listed && closedB ops listed) = true) (hih : hd i = 0) (hD : SubD D0 D) (hM : Ent M M0)
    (hp : TL (some (D0, M0)) P σ n ops (PV d fun v => A P σ n ops Q hd D0 M0 fuel (listed.setIfInBounds i true) ((d, v) :: K) D M) [o] K D0 M0) : A P σ n ops Q hd D0 M0 (fuel + 1) listed K D M := fun a w s t => by
  have key := hp ⟨.refl _, rfl, fun _ t => t⟩ a s
  have hS : Sat σ D0 M0 w := (t.facts hD).ent hM
  have hy : ∃ v, YieldsIf P ops (fun w => Sat σ D0 M0 w) o v a ∧ A P σ n ops Q hd D0 M0 fuel (listed.setIfInBounds i true) ((d, v) :: K) D M := by
    cases hw : Region.wanted o (yielded ops a.tmps) with
    | true =>
      unfold wpQuiet at key
      rw [hw, if_pos rfl] at key
      obtain ⟨v', h1, h2⟩ := key
      have h4 := (h2 w hS).2
      rw [hdst, put_getD s hdn] at h4
      refine ⟨v', .inl ⟨hw, fun w1 t1 => ?_⟩, h4⟩
      have h3 := h1 w1 t1
      unfold Oper.quietAt at h3
      cases hx : (execOp a.eval o).run P w1 with
      | ok x w' =>
        obtain ⟨u, rfl⟩ := plain_value hpl hx
        rw [hx] at h3
        obtain ⟨rfl, rfl⟩ := h3
        rfl
      | halt x w' => rw [hx] at h3; cases h3
    | false =>
      unfold wpQuiet at key
      rw [hw, if_neg (by simp)] at key
      have h4 := (key w hS).2
      rw [hdst, put_getD s hdn] at h4
      exact ⟨undef, .inr ⟨hw, rfl⟩, h4⟩
  obtain ⟨v, hy, hA⟩ := hy
  refine wpG.head ho hns hih (fun c a w h => by cases h) (fun _ h => Sat.noM h) (closedB_spec (by simp only [Bool.and_eq_true] at htl; exact htl.2)) (by simp only [Bool.and_eq_true] at htl; exact htl.1) hf (by simpa using hr) hy hS ?_
  rw [hdst]
  exact hA _ _ (s.put v hdn) t
/-- .. of the tail, that looks at the slots alone -/
theorem A.takeP {i d : Nat} {o : Oper} (ho : ops[i]? = some o) (hdst : o.dst = some d) (hdn : Nat.blt d n = true) (hpl : Plain o.op = true) (hns : Region.noSelect ops = true) (hf : Region.free .any ops listed i = true)
    (hr : (Region.ready .any ops listed).contains i = true) (hih : Nat.beq (hd i) 0 = false) (hD : SubD D0 D)
    (hp : TL (some (D0, [])) P σ n ops (PV d fun v => A P σ n ops Q hd D0 M0 fuel (listed.setIfInBounds i true) ((d, v) :: K) D M) [o] K D0 []) : A P σ n ops Q hd D0 M0 (fuel + 1) listed K D M := fun a w s t => by
  have key := hp ⟨.refl _, rfl, fun _ t => t⟩ a s
  have hS : Sat σ D0 [] w := (t.facts hD).noM
  have hy : ∃ v, YieldsIf P ops (fun w => Sat σ D0 [] w) o v a ∧ A P σ n ops Q hd D0 M0 fuel (listed.setIfInBounds i true) ((d, v) :: K) D M := by
    cases hw : Region.wanted o (yielded ops a.tmps) with
    | true =>
      unfold wpQuiet at key
      rw [hw, if_pos rfl] at key
      obtain ⟨v', h1, h2⟩ := key
      have h4 := (h2 w hS).2
      rw [hdst, put_getD s hdn] at h4
      refine ⟨v', .inl ⟨hw, fun w1 t1 => ?_⟩, h4⟩
      have h3 := h1 w1 t1
      unfold Oper.quietAt at h3
      cases hx : (execOp a.eval o).run P w1 with
      | ok x w' =>
        obtain ⟨u, rfl⟩ := plain_value hpl hx
        rw [hx] at h3
        obtain ⟨rfl, rfl⟩ := h3
        rfl
      | halt x w' => rw [hx] at h3; cases h3
    | false =>
      unfold wpQuiet at key
      rw [hw, if_neg (by simp)] at key
      have h4 := (key w hS).2
      rw [hdst, put_getD s hdn] at h4
      exact ⟨undef, .inr ⟨hw, rfl⟩, h4⟩
  obtain ⟨v, hy, hA⟩ := hy
  refine wpG.slots ho hns (fun h => by rw [h] at hih; cases hih) (fun c a w h => by cases h) hf (by simpa using hr) hy hS ?_
  rw [hdst]
  exact hA _ _ (s.put v hdn) t
theorem Each.nil : Each P σ n ops Q hd D0 M0 fuel listed K D M [] := trivial
theorem Each.cons {i : Nat} {is : List Nat} {o : Oper} (ho : ops[i]? = some o) (h : TL none P σ n ops (Step1 P σ ops Q hd D0 M0 fuel (listed.setIfInBounds i true) i) [o] K D M) (k : Each P σ n ops Q hd D0 M0 fuel listed K D M is) : Each P σ n ops Q hd D0 M0 fuel listed K D M (i :: is) := ⟨⟨o, ho, h⟩, k⟩
theorem A.nilCheck {i d : Nat} {x : Operand} {p : Addr} {ty : TypeId} {pos : String} {aft : Array Edge} (ho : ops[i]? = some ⟨some d, .nilCheck x, ty, pos, aft, none⟩) (hdn : Nat.blt d n = true) (hns : Region.noSelect ops = true) (hf : Region.free .any ops listed i = true)
    (hr : (Region.ready .any ops listed).contains i = true) (htl : (tailB ops hd listed && closedB ops listed) = true) (hih : hd i = 0) (hD : SubD D0 D) (hM : Ent M M0) (hx : ev K x = some (.pointer (some p)))
    (next : A P σ n ops Q hd D0 M0 fuel (listed.setIfInBounds i true) ((d, .pointer (some p)) :: K) D M) : A P σ n ops Q hd D0 M0 (fuel + 1) listed K D M := fun a w s t => by
  have hy : YieldsIf P ops (fun w => Sat σ D0 M0 w) ⟨some d, .nilCheck x, ty, pos, aft, none⟩ (.pointer (some p)) a := .inl ⟨rfl, fun w1 t1 => by
    have e : a.eval x = _ := s.eval hx
    simp only [execOp, e]
    simp⟩
  exact wpG.head ho hns hih (fun c a w h => by cases h) (fun _ h => Sat.noM h) (closedB_spec (by simp only [Bool.and_eq_true] at htl; exact htl.2)) (by simp only [Bool.and_eq_true] at htl; exact htl.1) hf (by simpa using hr) hy ((t.facts hD).ent hM) (next _ _ (s.put _ hdn) t)
theorem A.nilCheckP {i d : Nat} {x : Operand} {p : Addr} {ty : TypeId} {pos : String} {aft : Array Edge} (ho : ops[i]? = some ⟨some d, .nilCheck x, ty, pos, aft, none⟩) (hdn : Nat.blt d n = true) (hns : Region.noSelect ops = true) (hf : Region.free .any ops listed i = true)
    (hr : (Region.ready .any ops listed).contains i = true) (hih : Nat.beq (hd i) 0 = false) (hD : SubD D0 D) (hx : ev K x = some (.pointer (some p)))
    (next : A P σ n ops Q hd D0 M0 fuel (listed.setIfInBounds i true) ((d, .pointer (some p)) :: K) D M) : A P σ n ops Q hd D0 M0 (fuel + 1) listed K D M := fun a w s t => by
  have hy : YieldsIf P ops (fun w => Sat σ D0 [] w) ⟨some d, .nilCheck x, ty, pos, aft, none⟩ (.pointer (some p)) a := .inl ⟨rfl, fun w1 t1 => by
    have e : a.eval x = _ := s.eval hx
    simp only [execOp, e]
    simp⟩
  exact wpG.slots ho hns (fun h => by rw [h] at hih; cases hih) (fun c a w h => by cases h) hf (by simpa using hr) hy (t.facts hD).noM (next _ _ (s.put _ hdn) t)
/-- a slot's value, said otherwise -/
theorem A.known {t : Nat} {v v' : Value} (h : get K t = some v) (e : v = v') (next : A P σ n ops Q hd D0 M0 fuel listed ((t, v') :: K) D M) : A P σ n ops Q hd D0 M0 fuel listed K D M := by
  subst e
  exact T.keep (fun u x hx => by
    simp only [get] at hx
    cases hb : Nat.beq t u with
    | true => rw [hb, cond_true] at hx; rw [← Nat.eq_of_beq_eq_true hb, h]; exact hx
    | false => rw [hb, cond_false] at hx; exact hx) next
end
end Cv
