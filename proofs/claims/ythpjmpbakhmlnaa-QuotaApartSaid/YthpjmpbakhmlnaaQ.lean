/-
  The walks of quota and of the laws over it.
-/
import Derived.Test.YthpjmpbakhmlnaaCvMap
import Derived.Test.YthpjmpbakhmlnaaCvArith
import Derived.Test.YthpjmpbakhmlnaaCvArg
import Derived.Test.YthpjmpbakhmlnaaProg
import Derived.KernelRfl
set_option maxRecDepth 10000
set_option linter.unusedSimpArgs false
set_option linter.unusedVariables false
namespace Cv
open Go Go.Proofs
theorem zv24 : ∀ w, (zeroValue 24).run Try.prog w = .ok (Value.agg #[Value.int .i64 0, Value.int .i64 0]) w := fun w => by kernel_rfl
theorem ze24 : Ze Try.prog 24 [Value.int .i64 0, Value.int .i64 0] := ⟨_, rfl, zv24⟩
theorem bu24 : Bu Try.prog 24 [Value.int .i64 0, Value.int .i64 0] (fun (i : Nat) => ([(0, 1), (1, 1)] : List (Nat × Nat))[i]?) := bu_of Try.underlying24 zv24 rfl (fun w => by kernel_rfl)
theorem ag24 : Ag Try.prog 24 2 := fun w => ⟨by kernel_rfl, by kernel_rfl⟩
theorem kt3 : KeyT Try.prog 3 iK := keyT_int Try.underlying3
theorem zv48 : ∀ w, (zeroValue 48).run Try.prog w = .ok (Value.agg #[Value.int .i64 0, Value.int .i64 0]) w := fun w => by kernel_rfl
theorem fo46_1 : Fo Try.prog 46 1 2 := fun a w => by kernel_rfl
theorem sc44 : Sc Try.prog 44 := fun w => ⟨by kernel_rfl, by kernel_rfl⟩
theorem ze48 : Ze Try.prog 48 [Value.int .i64 0, Value.int .i64 0] := ⟨_, rfl, zv48⟩
theorem ag48 : Ag Try.prog 48 2 := fun w => ⟨by kernel_rfl, by kernel_rfl⟩
theorem fo46_0 : Fo Try.prog 46 0 0 := fun a w => by kernel_rfl
theorem fo24_1 : Fo Try.prog 24 1 1 := fun a w => by kernel_rfl
theorem sc3 : Sc Try.prog 3 := fun w => ⟨by kernel_rfl, by kernel_rfl⟩
theorem fo48_1 : Fo Try.prog 48 1 1 := fun a w => by kernel_rfl
theorem fo48_0 : Fo Try.prog 48 0 0 := fun a w => by kernel_rfl
theorem fo24_0 : Fo Try.prog 24 0 0 := fun a w => by kernel_rfl
theorem bu48 : Bu Try.prog 48 [Value.int .i64 0, Value.int .i64 0] (fun (i : Nat) => ([(0, 1), (1, 1)] : List (Nat × Nat))[i]?) := bu_of Try.underlying48 zv48 rfl (fun w => by kernel_rfl)
theorem zv46 : ∀ w, (zeroValue 46).run Try.prog w = .ok (Value.agg #[Value.int .i64 0, Value.int .i64 0, Value.map none]) w := fun w => by kernel_rfl
theorem bu46 : Bu Try.prog 46 [Value.int .i64 0, Value.int .i64 0, Value.map none] (fun (i : Nat) => ([(0, 2), (2, 1)] : List (Nat × Nat))[i]?) := bu_of Try.underlying46 zv46 rfl (fun w => by kernel_rfl)
def e3 : Int → List Value | a => [.int .i64 a]
def g3 : Int → Prop | a => (-9223372036854775808 ≤ a ∧ a ≤ 9223372036854775807)
theorem el3z {H : Type} {enc : TypeId × Value → H} {W : World} {base : Nat} {sp : Nat → Bool} {held : Bool} {n : Nat} {cs : List Value} {y : DataW H × List MemPlace} (h : DataW.trod enc Try.prog W base sp held n 3 cs = some y) : ∃ z, cs = e3 z ∧ g3 z := by
  obtain ⟨n, rfl, -, hw⟩ := DataW.trod_int Try.underlying3 h
  exact ⟨n, rfl, Cv.wf64 hw⟩
theorem sz3 : Sz Try.prog 3 1 := fun w => by kernel_rfl
def e33 : Int × Int × Int → List Value | (a_0, a_1, a_2) => [.int .i64 a_0, .int .i64 a_1, .int .i64 a_2]
def g33 : Int × Int × Int → Prop | (a_0, a_1, a_2) => (-9223372036854775808 ≤ a_0 ∧ a_0 ≤ 9223372036854775807) ∧ (-9223372036854775808 ≤ a_1 ∧ a_1 ≤ 9223372036854775807) ∧ (-9223372036854775808 ≤ a_2 ∧ a_2 ≤ 9223372036854775807)
theorem el33z {H : Type} {enc : TypeId × Value → H} {W : World} {base : Nat} {sp : Nat → Bool} {held : Bool} {n : Nat} {cs : List Value} {y : DataW H × List MemPlace} (h : DataW.trod enc Try.prog W base sp held n 33 cs = some y) : ∃ z, cs = e33 z ∧ g33 z := by
  obtain ⟨xs, m, -, -, hl, hx, hf⟩ := DataW.trod_struct Try.underlying33 h
  rw [show Try.prog.cellsOf 33 = 3 from by kernel_rfl] at hl
  match cs, hl with
  | [c0, c1, c2], _ =>
    obtain ⟨y0, h0⟩ := Cv.el_field (o := 0) hx hf 0 _ rfl rfl (show Try.prog.cellsOf 3 = 1 from by kernel_rfl)
    obtain ⟨a_0, e0, w0⟩ := el3z h0
    simp only [e3, List.drop, List.take, List.cons.injEq, and_true] at e0
    obtain rfl := e0
    simp only [g3] at w0
    obtain ⟨y1, h1⟩ := Cv.el_field (o := 1) hx hf 1 _ rfl rfl (show Try.prog.cellsOf 3 = 1 from by kernel_rfl)
    obtain ⟨a_1, e1, w1⟩ := el3z h1
    simp only [e3, List.drop, List.take, List.cons.injEq, and_true] at e1
    obtain rfl := e1
    simp only [g3] at w1
    obtain ⟨y2, h2⟩ := Cv.el_field (o := 2) hx hf 2 _ rfl rfl (show Try.prog.cellsOf 3 = 1 from by kernel_rfl)
    obtain ⟨a_2, e2, w2⟩ := el3z h2
    simp only [e3, List.drop, List.take, List.cons.injEq, and_true] at e2
    obtain rfl := e2
    simp only [g3] at w2
    exact ⟨(a_0, a_1, a_2), rfl, w0, w1, w2⟩
theorem sz51 : Sz Try.prog 51 3 := fun w => by kernel_rfl
theorem ag51 : Ag Try.prog 51 3 := fun w => ⟨by kernel_rfl, by kernel_rfl⟩
theorem zv51 : ∀ w, (zeroValue 51).run Try.prog w = .ok (Value.agg #[Value.int .i64 0, Value.int .i64 0, Value.int .i64 0]) w := fun w => by kernel_rfl
theorem ze51 : Ze Try.prog 51 [Value.int .i64 0, Value.int .i64 0, Value.int .i64 0] := ⟨_, rfl, zv51⟩
theorem fo51_0 : Fo Try.prog 51 0 0 := fun a w => by kernel_rfl
theorem fo51_1 : Fo Try.prog 51 1 1 := fun a w => by kernel_rfl
theorem fo51_2 : Fo Try.prog 51 2 2 := fun a w => by kernel_rfl
theorem bs31 : Bs Try.prog 31 51 3 [Value.int .i64 0, Value.int .i64 0, Value.int .i64 0] := bs_of Try.underlying31 (fun w => by kernel_rfl) zv51 rfl rfl (by decide)
theorem el51 : El Try.prog 51 3 24 := ⟨_, _, rfl, rfl, by kernel_rfl, by kernel_rfl, by kernel_rfl⟩
theorem bu51 : Bu Try.prog 51 [Value.int .i64 0, Value.int .i64 0, Value.int .i64 0] (fun (i : Nat) => ([(0, 1), (1, 1), (2, 1)] : List (Nat × Nat))[i]?) := bu_of Try.underlying51 zv51 rfl (fun w => by kernel_rfl)
theorem sz33 : Sz Try.prog 33 3 := fun w => by kernel_rfl
theorem ag33 : Ag Try.prog 33 3 := fun w => ⟨by kernel_rfl, by kernel_rfl⟩
theorem zv33 : ∀ w, (zeroValue 33).run Try.prog w = .ok (Value.agg #[Value.int .i64 0, Value.int .i64 0, Value.int .i64 0]) w := fun w => by kernel_rfl
theorem ze33 : Ze Try.prog 33 [Value.int .i64 0, Value.int .i64 0, Value.int .i64 0] := ⟨_, rfl, zv33⟩
theorem fo33_0 : Fo Try.prog 33 0 0 := fun a w => by kernel_rfl
theorem fo33_2 : Fo Try.prog 33 2 2 := fun a w => by kernel_rfl
theorem fo33_1 : Fo Try.prog 33 1 1 := fun a w => by kernel_rfl
theorem tmod_bd (x : Int) : -100000 < x.tmod 100000 ∧ x.tmod 100000 < 100000 := by
  have h1 := Int.tmod_lt_of_pos x (b := 100000) (by decide)
  have h2 := Int.lt_tmod_of_pos x (b := 100000) (by decide)
  omega
theorem tick_eq (x : Int) : (x.tmod 100000 + 100000) % 100000 = x % 100000 := by
  have := Int.tmod_eq_emod (a := x) (b := 100000)
  split at this <;> omega
theorem mul_bd {x y : Int} (h1 : 0 ≤ x) (h2 : x ≤ 1048576) (h3 : 0 ≤ y) (h4 : y ≤ 1048576) : 0 ≤ x * y ∧ x * y ≤ 1099511627776 :=
  ⟨Int.mul_nonneg h1 h3, by have := Int.mul_le_mul h2 h4 h3 (by decide : (0:Int) ≤ 1048576); omega⟩
def shV : Int × Int → Value | (h, a) => .agg #[.int .i64 h, .int .i64 a]
def QInv (each most : Int) (l : List (Int × Int × Int)) : Prop := (1 ≤ each ∧ each ≤ most ∧ most ≤ 1048576) ∧ ∀ n h a, look l n = some (h, a) → 0 ≤ h ∧ h ≤ most ∧ 0 ≤ a ∧ a ≤ 2199023255552
def hasF (each most : Int) (l : List (Int × Int × Int)) (n now : Int) : Int :=
  match look l n with
  | none => most
  | some (h, a) => min (h + min (max (now - a) 0) most * each) most
theorem qinv_nil {E Mo : Int} (h : 1 ≤ E ∧ E ≤ Mo ∧ Mo ≤ 1048576) : QInv E Mo [] := ⟨h, fun _ _ _ e => by cases e⟩
theorem qinv_one {E Mo t : Int} (h : 1 ≤ E ∧ E ≤ Mo ∧ Mo ≤ 1048576) (ht : 0 ≤ t ∧ t ≤ 2199023255552) : QInv E Mo [(1, (0, t))] := ⟨h, fun n hv a e => by
  simp only [look] at e
  split at e
  · simp at e; omega
  · cases e⟩
def takeB (each most : Int) (l : List (Int × Int × Int)) (n cost now : Int) : Bool := !(decide (cost < 0) || decide (hasF each most l n now < cost))
def takeL (each most : Int) (l : List (Int × Int × Int)) (n cost now : Int) : List (Int × Int × Int) :=
  if takeB each most l n cost now then put l n (hasF each most l n now - cost, match look l n with | none => now | some (_, a) => max now a) else l
section
variable {each most n cost now : Int} {l : List (Int × Int × Int)}
theorem takeB_no (h : cost < 0 ∨ hasF each most l n now < cost) : takeB each most l n cost now = false := by
  unfold takeB; rcases h with h | h <;> simp [h]
theorem takeB_yes (h : 0 ≤ cost) (k : cost ≤ hasF each most l n now) : takeB each most l n cost now = true := by
  unfold takeB; simp; omega
theorem takeL_no (h : cost < 0 ∨ hasF each most l n now < cost) : takeL each most l n cost now = l := by
  unfold takeL; rw [takeB_no h]; rfl
theorem takeL_N (h : 0 ≤ cost) (k : cost ≤ hasF each most l n now) (e : look l n = none) : takeL each most l n cost now = put l n (hasF each most l n now - cost, now) := by
  unfold takeL; rw [takeB_yes h k, e]; rfl
theorem takeL_S {hv a : Int} (h : 0 ≤ cost) (k : cost ≤ hasF each most l n now) (e : look l n = some (hv, a)) : takeL each most l n cost now = put l n (hasF each most l n now - cost, max now a) := by
  unfold takeL; rw [takeB_yes h k, e]; rfl
theorem hasF_bd (h : QInv each most l) (h1 : 0 ≤ now) : 0 ≤ hasF each most l n now ∧ hasF each most l n now ≤ most := by
  have q1 := h.1
  unfold hasF
  cases e : look l n with
  | none => simp; omega
  | some p =>
    obtain ⟨hv, a⟩ := p
    have q2 := h.2 n hv a e
    have hm := mul_bd (x := min (max (now - a) 0) most) (y := each) (by omega) (by omega) (by omega) (by omega)
    simp only
    omega
theorem qinv_take (h : QInv each most l) (h1 : 0 ≤ now) (h2 : now ≤ 2199023255552) : QInv each most (takeL each most l n cost now) := by
  have q3 := hasF_bd (n := n) (now := now) h h1
  unfold takeL
  split
  · rename_i hb
    have hc : 0 ≤ cost ∧ cost ≤ hasF each most l n now := by unfold takeB at hb; simp at hb; omega
    refine ⟨h.1, fun n' hv a e => ?_⟩
    rw [look_put] at e
    split at e
    · simp only [Option.some.injEq, Prod.mk.injEq] at e
      obtain ⟨e1, e2⟩ := e
      cases e3 : look l n with
      | none => simp only [e3] at e2; omega
      | some p =>
        obtain ⟨hv2, a2⟩ := p
        have := h.2 n hv2 a2 e3
        simp only [e3] at e2; omega
    · exact h.2 n' hv a e
  · exact h
end
section
variable {E Mo t k : Int}
theorem full1b (h : 1 ≤ E) (k : E ≤ Mo) : takeB E Mo [] 1 Mo t = true := takeB_yes (by omega) (by simp [hasF, look])
theorem full1 (h : 1 ≤ E) (k : E ≤ Mo) : takeL E Mo [] 1 Mo t = [(1, (0, t))] := by rw [takeL_N (by omega) (by simp [hasF, look]) rfl]; simp [put, hasF, look]
theorem has1 (u : Int) : hasF E Mo [(1, (0, t))] 1 u = min (0 + min (max (u - t) 0) Mo * E) Mo := by simp [hasF, look]
theorem has1_0 (h : 0 ≤ Mo) : hasF E Mo [(1, (0, t))] 1 t = 0 := by
  rw [has1, show min (max (t - t) 0) Mo = 0 from by omega]; omega
theorem full2b (h : 1 ≤ E) (k : E ≤ Mo) : takeB E Mo [(1, (0, t))] 1 1 t = false := takeB_no (.inr (by rw [has1_0 (by omega)]; decide))
theorem full2 (h : 1 ≤ E) (k : E ≤ Mo) : takeL E Mo [(1, (0, t))] 1 1 t = [(1, (0, t))] := takeL_no (.inr (by rw [has1_0 (by omega)]; decide))
theorem full3 (h : 0 ≤ Mo) : decide (hasF E Mo [(1, (0, t))] 1 t ≠ 0) = false := by rw [has1_0 h]; rfl
def FullK (E Mo t k : Int) : Prop := 1 ≤ k ∧ k ≤ Mo ∧ (0 ≤ (k - 1) * E ∧ (k - 1) * E ≤ 275) ∧ Mo ≤ k * E ∧ 1 ≤ E ∧ E ≤ Mo ∧ 0 ≤ t
theorem full_k (h1 : 1 ≤ E) (h2 : E ≤ Mo) (h3 : Mo ≤ 275) (h4 : 0 ≤ t) : FullK E Mo t ((Mo + E - 1) / E) := by
  have e1 := Int.mul_ediv_add_emod (Mo + E - 1) E
  have e2 := Int.emod_nonneg (Mo + E - 1) (show E ≠ 0 by omega)
  have e3 := Int.emod_lt_of_pos (Mo + E - 1) (show 0 < E by omega)
  generalize (Mo + E - 1) / E = k at *
  have hk : 1 ≤ k := by
    rcases Int.lt_or_le k 1 with h | h
    · have := Int.mul_le_mul_of_nonneg_left (show k ≤ 0 by omega) (show 0 ≤ E by omega)
      omega
    · exact h
  have e4 : (k - 1) * E = E * k - E := by rw [Int.sub_mul, Int.mul_comm]; omega
  have e5 : k * E = E * k := Int.mul_comm _ _
  have e6 : 0 ≤ (k - 1) * (E - 1) := Int.mul_nonneg (by omega) (by omega)
  have e7 : (k - 1) * (E - 1) = (k - 1) * E - (k - 1) := by rw [Int.mul_sub]; omega
  refine ⟨hk, ?_, ⟨?_, ?_⟩, ?_, h1, h2, h4⟩ <;> omega
theorem full4 (h : FullK E Mo t k) : decide (hasF E Mo [(1, (0, t))] 1 (t + k) = Mo) = true := by
  obtain ⟨a, b, c, d, e, f, g⟩ := h
  rw [has1, show min (max (t + k - t) 0) Mo = k from by omega]
  exact decide_eq_true (by omega)
theorem full5 (h : FullK E Mo t k) : decide (hasF E Mo [(1, (0, t))] 1 (t + k - 1) = min ((k - 1) * E) Mo) = true := by
  obtain ⟨a, b, c, d, e, f, g⟩ := h
  rw [has1, show min (max (t + k - 1 - t) 0) Mo = k - 1 from by omega]
  exact decide_eq_true (by omega)
theorem full6 (h : FullK E Mo t k) : decide (hasF E Mo [(1, (0, t))] 1 (t + 9 * k) = Mo) = true := by
  obtain ⟨a, b, c, d, e, f, g⟩ := h
  rw [has1]
  refine decide_eq_true ?_
  have h1 : k ≤ min (max (t + 9 * k - t) 0) Mo := by omega
  have := Int.mul_le_mul_of_nonneg_right h1 (show 0 ≤ E by omega)
  omega
theorem full7 (h : FullK E Mo t k) : decide (hasF E Mo [(1, (0, t))] 1 (max (t - 1) 0) = 0) = true := by
  obtain ⟨a, b, c, d, e, f, g⟩ := h
  rw [has1, show min (max (max (t - 1) 0 - t) 0) Mo = 0 from by omega]
  exact decide_eq_true (by omega)
end

theorem ex_get {α} {l : List α} {k : Nat} (h : k < l.length) : ∃ x, l[k]? = some x := ⟨_, List.getElem?_eq_getElem h⟩
theorem map_get {α β} {f : α → β} {l : List α} {k : Nat} {x : α} (h : l[k]? = some x) : (l.map f)[k]? = some (f x) := by simp [h]
structure BInv (E Mo : Int) (l : List (Int × Int × Int)) (B now got : Int) : Prop where
  q : QInv E Mo l
  n0 : 0 ≤ now
  nB : now ≤ B ∧ B ≤ 1000
  at_ : ∀ h a, look l 5 = some (h, a) → a ≤ now
  six : look l 6 = none
  g0 : 0 ≤ got
  sum : got + hasF E Mo l 5 now ≤ Mo + now * E
namespace BInv
variable {E Mo B now got nw c B' : Int} {l : List (Int × Int × Int)}
theorem big (h : BInv E Mo l B now got) : now ≤ 2199023255552 := by have := h.nB; omega
theorem mulb (h : BInv E Mo l B now got) : 0 ≤ now * E ∧ now * E ≤ 1099511627776 := by
  have := h.nB; have := h.q.1; have := h.n0
  exact mul_bd (by omega) (by omega) (by omega) (by omega)
theorem gB (h : BInv E Mo l B now got) : 0 ≤ got ∧ got ≤ 1099511627776 + 1048576 := by
  have := h.mulb; have := h.q.1; have := h.sum; have := hasF_bd (n := 5) h.q h.n0; have := h.g0; omega
theorem up (h : BInv E Mo l B now got) (h1 : B ≤ B' ∧ B' ≤ 1000) : BInv E Mo l B' now got :=
  ⟨h.q, h.n0, ⟨by have := h.nB; omega, h1.2⟩, h.at_, h.six, h.g0, h.sum⟩
end BInv
theorem binv_0 {E Mo : Int} (h : 1 ≤ E ∧ E ≤ Mo ∧ Mo ≤ 1048576) : BInv E Mo [] 0 0 0 :=
  ⟨qinv_nil h, by decide, by decide, fun _ _ e => by simp [look] at e, rfl, by decide, by simp [hasF, look]⟩
theorem binv_step {E Mo B now got nw : Int} {l : List (Int × Int × Int)} (h : BInv E Mo l B now got) (h1 : now ≤ nw ∧ nw ≤ now + 7) (h2 : B + 7 ≤ 1000) : BInv E Mo l (B + 7) nw got := by
  have hb := h.nB; have h0 := h.n0; have hq := h.q.1
  refine ⟨h.q, by omega, by omega, fun a b e => by have := h.at_ a b e; omega, h.six, h.g0, ?_⟩
  have hs := h.sum
  have hm : nw * E = now * E + (nw - now) * E := by rw [Int.sub_mul]; omega
  have hp : 0 ≤ (nw - now) * E := Int.mul_nonneg (by omega) (by omega)
  have key : hasF E Mo l 5 nw ≤ hasF E Mo l 5 now + (nw - now) * E := by
    unfold hasF
    cases e : look l 5 with
    | none => simp only; omega
    | some p =>
      obtain ⟨hv, a⟩ := p
      have ha := h.at_ hv a e
      have : min (max (nw - a) 0) Mo ≤ min (max (now - a) 0) Mo + (nw - now) := by omega
      have := Int.mul_le_mul_of_nonneg_right this (show 0 ≤ E by omega)
      rw [Int.add_mul] at this
      simp only
      omega
  omega
theorem binv_yes {E Mo B now got c : Int} {l : List (Int × Int × Int)} (h : BInv E Mo l B now got) (hc : 0 ≤ c) (hb : takeB E Mo l 5 c now = true) : BInv E Mo (takeL E Mo l 5 c now) B now (got + c) := by
  have h0 := h.n0; have hq := h.q.1
  have hk : c ≤ hasF E Mo l 5 now := by unfold takeB at hb; simp at hb; omega
  have hbd := hasF_bd (n := 5) h.q h.n0
  have e1 : takeL E Mo l 5 c now = put l 5 (hasF E Mo l 5 now - c, now) := by
    cases e : look l 5 with
    | none => exact takeL_N hc hk e
    | some p =>
      obtain ⟨hv, a⟩ := p
      rw [takeL_S hc hk e, show max now a = now from by have := h.at_ hv a e; omega]
  refine ⟨qinv_take h.q h.n0 h.big, h.n0, h.nB, ?_, ?_, by have := h.g0; omega, ?_⟩
  · intro hv a e
    rw [e1, look_put] at e
    simp at e; omega
  · rw [e1, look_put]; simp [h.six]
  · have e2 : hasF E Mo (takeL E Mo l 5 c now) 5 now = hasF E Mo l 5 now - c := by
      rw [e1]
      generalize hasF E Mo l 5 now = F at *
      unfold hasF
      rw [look_put]
      simp only [if_true]
      rw [show min (max (now - now) 0) Mo = 0 from by omega]
      omega
    rw [e2]; have := h.sum; omega
theorem binv_no {E Mo B now got c : Int} {l : List (Int × Int × Int)} (h : BInv E Mo l B now got) (hb : takeB E Mo l 5 c now = false) : BInv E Mo (takeL E Mo l 5 c now) B now got := by
  have : takeL E Mo l 5 c now = l := by unfold takeL; rw [hb]; rfl
  rw [this]; exact h
-- the reference
def sr : Int × Int × Int → List Value | (n, h, a) => [.int .i64 n, .int .i64 h, .int .i64 a]
def SGood (most : Int) (l : List (Int × Int × Int)) : Prop := ∀ p ∈ l, 0 ≤ p.2.1 ∧ p.2.1 ≤ most ∧ 0 ≤ p.2.2 ∧ p.2.2 ≤ 2199023255552
def Dist (l : List (Int × Int × Int)) : Prop := (l.map Prod.fst).Nodup
theorem drop_get {α} {l : List α} {k : Nat} {x : α} (h : l[k]? = some x) : l.drop k = x :: l.drop (k + 1) := by
  obtain ⟨h1, rfl⟩ := List.getElem?_eq_some_iff.1 h
  exact List.drop_eq_getElem_cons h1
theorem take_get {α} {l : List α} {k : Nat} {x : α} (h : l[k]? = some x) : l.take (k + 1) = l.take k ++ [x] := by
  rw [List.take_add_one, h]; rfl
theorem look_app {xs ys : List (Int × Int × Int)} {n : Int} : look (xs ++ ys) n = (match look xs n with | some v => some v | none => look ys n) := by
  induction xs with
  | nil => rfl
  | cons p xs ih =>
    obtain ⟨k, v⟩ := p
    simp only [List.cons_append, look]
    split
    · rfl
    · exact ih
theorem look_filt {l : List (Int × Int × Int)} {n m : Int} : look (l.filter (fun p => decide (p.1 ≠ n))) m = if m = n then none else look l m := by
  induction l with
  | nil => simp [look]
  | cons p l ih =>
    obtain ⟨k, v⟩ := p
    by_cases h : k = n
    · subst h
      rw [List.filter_cons_of_neg (by simp), ih]
      by_cases e : m = k
      · simp [e]
      · simp [e, look, show ¬ k = m from fun e' => e e'.symm]
    · rw [List.filter_cons_of_pos (by simp [h])]
      simp only [look, ih]
      by_cases e : k = m
      · subst e; simp [h]
      · simp [e]
def atF (l : List (Int × Int × Int)) (n now : Int) : Int := match look l n with | none => now | some (_, a) => max now a
def refL (each most : Int) (l : List (Int × Int × Int)) (n cost now : Int) : List (Int × Int × Int) :=
  if takeB each most l n cost now then l.filter (fun p => decide (p.1 ≠ n)) ++ [(n, hasF each most l n now - cost, atF l n now)] else l
theorem rhas_eq {each most n now pa ph i hv : Int} {l : List (Int × Int × Int)} (hl : look l n = some (ph, pa)) (hq : 1 ≤ each ∧ each ≤ most ∧ most ≤ 1048576) (h0 : 0 ≤ ph) (h1 : pa ≤ i) (h2 : i ≤ now ∨ i = pa)
    (e : hv = min (ph + (i - pa) * each) most) (hx : most ≤ hv ∨ now ≤ i) : hv = hasF each most l n now := by
  simp only [hasF, hl]
  have m1 : 0 ≤ (i - pa) * each := Int.mul_nonneg (by omega) (by omega)
  by_cases hc : max (now - pa) 0 ≤ most
  · rw [show min (max (now - pa) 0) most = max (now - pa) 0 from by omega]
    have m2 : (i - pa) * each ≤ max (now - pa) 0 * each := Int.mul_le_mul_of_nonneg_right (by omega) (by omega)
    rcases hx with hx | hx
    · omega
    · rw [show max (now - pa) 0 = i - pa from by omega]; exact e
  · rw [show min (max (now - pa) 0) most = most from by omega]
    have m3 : most * 1 ≤ most * each := Int.mul_le_mul_of_nonneg_left (by omega) (by omega)
    rcases hx with hx | hx
    · omega
    · have : i = now := by omega
      subst this
      have m4 : most * each ≤ (i - pa) * each := Int.mul_le_mul_of_nonneg_right (by omega) (by omega)
      omega
theorem rstep_eq {each most pa ph i hv : Int} (e : hv = min (ph + (i - pa) * each) most) (h : hv < most) : min (hv + each) most = min (ph + (i + 1 - pa) * each) most := by
  have : (i + 1 - pa) * each = (i - pa) * each + each := by rw [show i + 1 - pa = (i - pa) + 1 from by omega, Int.add_mul]; omega
  omega
theorem at_yes {l : List (Int × Int × Int)} {k : Nat} {n h a now : Int} (hd : Dist l) (hk : l[k]? = some (n, h, a)) : atF (l.take (k + 1)) n now = max now a := by
  have hno : look (l.take k) n = none := by
    rw [look_none_iff]
    intro hm
    obtain ⟨p, hp, e⟩ := List.mem_map.1 hm
    unfold Dist at hd
    have e2 : l = l.take k ++ ((n, h, a) :: l.drop (k + 1)) := by rw [← drop_get hk]; exact (List.take_append_drop k l).symm
    rw [e2, List.map_append, List.nodup_append] at hd
    exact hd.2.2 p.1 (List.mem_map.2 ⟨p, hp, rfl⟩) n (by simp) e
  rw [take_get hk]
  unfold atF
  rw [look_app, hno]
  simp [look]
theorem at_no {l : List (Int × Int × Int)} {k : Nat} {n m h a now : Int} (hk : l[k]? = some (m, h, a)) (hm : ¬ m = n) : atF (l.take (k + 1)) n now = atF (l.take k) n now := by
  rw [take_get hk]
  unfold atF
  rw [look_app]
  cases look (l.take k) n with
  | none => simp [look, hm]
  | some v => rfl
theorem fil_yes {l : List (Int × Int × Int)} {k : Nat} {n h a : Int} (hk : l[k]? = some (n, h, a)) : (l.take (k + 1)).filter (fun p => decide (p.1 ≠ n)) = (l.take k).filter (fun p => decide (p.1 ≠ n)) := by
  rw [take_get hk, List.filter_append]; simp
theorem fil_no {l : List (Int × Int × Int)} {k : Nat} {n m h a : Int} (hk : l[k]? = some (m, h, a)) (hm : ¬ m = n) : (l.take (k + 1)).filter (fun p => decide (p.1 ≠ n)) = (l.take k).filter (fun p => decide (p.1 ≠ n)) ++ [(m, h, a)] := by
  rw [take_get hk, List.filter_append]; simp [hm]
section
variable {each most n cost now : Int} {l la lb lr : List (Int × Int × Int)}
theorem hasF_congr (h : look la n = look lb n) : hasF each most la n now = hasF each most lb n now := by unfold hasF; rw [h]
theorem takeB_congr (h : look la n = look lb n) : takeB each most la n cost now = takeB each most lb n cost now := by unfold takeB; rw [hasF_congr h]
theorem takeL_other {m : Int} (h : ¬ m = n) : look (takeL each most l n cost now) m = look l m := by
  unfold takeL; split
  · rw [look_put, if_neg h]
  · rfl
theorem takeL_same (h : look la n = look lb n) : look (takeL each most la n cost now) n = look (takeL each most lb n cost now) n := by
  unfold takeL; rw [takeB_congr h]
  split
  · rw [look_put, look_put, if_pos rfl, if_pos rfl, hasF_congr h, h]
  · exact h
end
theorem hasF_bd_ok {each most n now : Int} {l : List (Int × Int × Int)} (hq : 1 ≤ each ∧ each ≤ most ∧ most ≤ 1048576) (hl : SGood most l) (h1 : 0 ≤ now) : 0 ≤ hasF each most l n now ∧ hasF each most l n now ≤ most :=
  hasF_bd ⟨hq, fun m h a e => hl _ (mem_of_look e)⟩ h1
theorem refL_yes {each most n cost now at1 : Int} {k : Nat} {l : List (Int × Int × Int)} {rows : List (List Value)} (h : 0 ≤ cost) (h' : cost ≤ hasF each most l n now) (hr : rows = ((l.take k).filter (fun p => decide (p.1 ≠ n))).map sr) (ha : at1 = atF (l.take k) n now)
    (hk : l.length ≤ k) : (refL each most l n cost now).map sr = rows ++ [[.int .i64 n, .int .i64 (hasF each most l n now - cost), .int .i64 at1]] := by
  rw [List.take_of_length_le hk] at hr ha
  rw [refL, takeB_yes h h', hr, ha]; simp [sr]
/-- two quotas: key 3 alike -/
structure AInv (E Mo : Int) (la lb : List (Int × Int × Int)) : Prop where
  qa : QInv E Mo la
  qb : QInv E Mo lb
  same : look la 3 = look lb 3
  four : look lb 4 = none
theorem ainv_0 {E Mo : Int} (h : 1 ≤ E ∧ E ≤ Mo ∧ Mo ≤ 1048576) : AInv E Mo [] [] := ⟨qinv_nil h, qinv_nil h, rfl, rfl⟩
theorem ainv_3 {E Mo c now n : Int} {la lb : List (Int × Int × Int)} (h : AInv E Mo la lb) (hn : n = 3) (h1 : 0 ≤ now) (h2 : now ≤ 2199023255552) : AInv E Mo (takeL E Mo la n c now) (takeL E Mo lb n c now) :=
  ⟨qinv_take h.qa h1 h2, qinv_take h.qb h1 h2, by subst hn; exact takeL_same h.same, by rw [takeL_other (by omega)]; exact h.four⟩
theorem ainv_x {E Mo c now n : Int} {la lb : List (Int × Int × Int)} (h : AInv E Mo la lb) (hn : ¬ n = 3) (h1 : 0 ≤ now) (h2 : now ≤ 2199023255552) : AInv E Mo (takeL E Mo la n c now) lb :=
  ⟨qinv_take h.qa h1 h2, h.qb, by rw [takeL_other (by omega)]; exact h.same, h.four⟩
/-- the quota and its reference -/
structure PInv (E Mo : Int) (l lr : List (Int × Int × Int)) (k : Int) : Prop where
  q : QInv E Mo l
  s : SGood Mo lr
  d : Dist lr
  same : ∀ m, look lr m = look l m
  len : (lr.length : Int) ≤ k
  far : look l 99 = none
theorem pinv_0 {E Mo : Int} (h : 1 ≤ E ∧ E ≤ Mo ∧ Mo ≤ 1048576) : PInv E Mo [] [] 0 :=
  ⟨qinv_nil h, fun _ h => (by cases h), List.nodup_nil, fun _ => rfl, by decide, rfl⟩
theorem sgood_dist {Mo : Int} {l : List (Int × Int × Int)} (hd : Dist l) (h : ∀ n hv a, look l n = some (hv, a) → 0 ≤ hv ∧ hv ≤ Mo ∧ 0 ≤ a ∧ a ≤ 2199023255552) : SGood Mo l := by
  rintro ⟨n, hv, a⟩ hp
  refine h n hv a ?_
  induction l with
  | nil => cases hp
  | cons p l ih =>
    obtain ⟨k, v⟩ := p
    unfold Dist at hd
    rw [List.map_cons, List.nodup_cons] at hd
    simp only [look]
    rcases List.mem_cons.1 hp with e | e
    · cases e; simp
    · have hne : ¬ k = n := fun e' => hd.1 (List.mem_map.2 ⟨_, e, e'.symm⟩)
      rw [if_neg hne]
      refine ih hd.2 (fun n' hv' a' e' => h n' hv' a' ?_) e
      simp only [look]
      rw [if_neg]
      · exact e'
      · intro e''; subst e''
        exact hd.1 (List.mem_map.2 ⟨_, mem_of_look e', rfl⟩)
theorem pinv_step {E Mo c now n k : Int} {l lr : List (Int × Int × Int)} (h : PInv E Mo l lr k) (hn : 0 ≤ n ∧ n ≤ 7) (h1 : 0 ≤ now) (h2 : now ≤ 2199023255552) : PInv E Mo (takeL E Mo l n c now) (refL E Mo lr n c now) (k + 1) := by
  have hq := qinv_take (n := n) (cost := c) h.q h1 h2
  have hs : ∀ m, look (refL E Mo lr n c now) m = look (takeL E Mo l n c now) m := by
    intro m
    unfold refL takeL
    rw [takeB_congr (h.same n)]
    split
    · rw [look_app, look_filt, look_put]
      by_cases e : m = n
      · subst e
        simp only [if_true, look]
        rw [hasF_congr (h.same m)]
        unfold atF; rw [h.same m]
      · rw [if_neg e, if_neg e, h.same m]
        cases look l m with
        | none => simp [look, show ¬ n = m from fun e' => e e'.symm]
        | some v => rfl
    · exact h.same m
  have hd : Dist (refL E Mo lr n c now) := by
    unfold refL
    split
    · unfold Dist
      rw [List.map_append, List.nodup_append]
      refine ⟨List.Nodup.sublist ((List.filter_sublist).map _) h.d, by simp, ?_⟩
      rintro a ha b hb
      simp at hb; subst hb
      obtain ⟨p, hp, e⟩ := List.mem_map.1 ha
      have := (List.mem_filter.1 hp).2
      simp at this
      rw [← e]; exact this
    · exact h.d
  refine ⟨hq, sgood_dist hd (fun m hv a e => hq.2 m hv a (by rw [← hs m]; exact e)), hd, hs, ?_, ?_⟩
  · unfold refL
    split
    · have := List.length_filter_le (fun p : Int × Int × Int => decide (p.1 ≠ n)) lr
      have := h.len
      simp only [List.length_append, List.length_singleton]
      omega
    · have := h.len; omega
  · rw [takeL_other (by omega)]; exact h.far
theorem qinv_awake (l : List (Int × Int × Int)) (h : l.all (fun p => decide (0 ≤ p.2.1 ∧ p.2.1 ≤ 5 ∧ 0 ≤ p.2.2 ∧ p.2.2 ≤ 2199023255552)) = true) : QInv 2 5 l := by
  refine ⟨by decide, fun n hv a e => ?_⟩
  have := List.all_eq_true.1 h _ (mem_of_look e)
  simpa using this
theorem rate_spec (each most : Int) : Spec Try.prog 8 [.int .i64 each, .int .i64 most] [] [] (fun v D' M' => ∃ E Mo : Int, 1 ≤ E ∧ E ≤ 20 ∧ E ≤ Mo ∧ Mo ≤ 275 ∧ v = .agg #[.int .i64 E, .int .i64 Mo] ∧ D' = [] ∧ M' = []) := by
  refine Spec.intro (n := 15) Try.func8 rfl rfl (by decide) (Nat.le_of_ble_eq_true rfl) rfl (fun _ => (by repeat (first | with_reducible exact AppL.nil | apply AppL.cons))) (fun _ => (by repeat (first | with_reducible exact AppL.nil | apply AppL.cons))) ?_
  intro σ D M
  refine T.seq ?_
  refine T.region ?_
  refine L.alloc rfl ze24 (fun b1 => ?_)
  refine L.nil ?_
  refine T.thenN ?_
  refine T.seq ?_
  refine T.region ?_
  refine L.move rfl rfl ?_
  refine L.andM rfl rfl rfl (k := 8) (by decide) (by decide) ?_
  refine L.remN rfl rfl rfl (by omega) ?_
  refine L.addN rfl rfl rfl (by omega) ?_
  refine L.assign rfl rfl ?_
  refine L.nil ?_
  refine T.thenN ?_
  refine T.seq ?_
  refine T.region ?_
  refine L.move rfl rfl ?_
  refine L.move rfl rfl ?_
  refine L.move rfl rfl ?_
  refine L.andM rfl rfl rfl (k := 8) (by decide) (by decide) ?_
  refine L.addN rfl rfl rfl (by omega) ?_
  refine L.build rfl bu24 (BP.one rfl rfl rfl <| BP.one rfl rfl rfl <| BP.doneE (out := []) rfl) ?_
  refine L.storeA ag24 rfl rfl rfl (by repeat (first | exact One.nil | refine One.cons rfl ?_ | assumption)) (by repeat (first | with_reducible exact Upd.here | apply Upd.there)) (by repeat (first | exact SetAt.here | exact SetAt.none | exact SetAt.whole rfl | apply SetAt.more | apply SetAt.there)) ?_
  refine L.nil ?_
  refine T.thenN ?_
  refine T.ret ?_
  exact T.retA rfl ag24 rfl (by first | exact CellsN.ofM (by repeat (first | with_reducible exact mem_head | apply mem_tail)) (by repeat (first | exact AtN.nil | apply AtN.take | apply AtN.skip)) | exact CellsN.ofD (by repeat (first | with_reducible exact mem_head | apply mem_tail)) rfl | exact CellsN.ofF (by repeat (first | with_reducible exact mem_head | apply mem_tail)) (by repeat (first | exact AtN.nil | apply AtN.take | apply AtN.skip)) | exact CellsN.ofDs (by repeat (first | with_reducible exact mem_head | apply mem_tail)) (by repeat (first | exact AtN.nil | apply AtN.take | apply AtN.skip))) ⟨_, _, by omega, by omega, by omega, by omega, rfl, rfl, rfl⟩ (by repeat (first | exact SubD.refl _ | exact SubD.nil _ | refine SubD.cons (by repeat (first | with_reducible exact mem_head | apply mem_tail)) ?_ | apply SubD.skip)) (by repeat (first | exact Ent.refl _ | refine Fit.cons (by repeat (first | with_reducible exact Pull.here | apply Pull.there)) ?_ | apply Ent.skip))
theorem tick_spec (x : Int) : Spec Try.prog 11 [.int .i64 x] [] [] (fun v D' M' => v = .int .i64 (x % 100000) ∧ D' = [] ∧ M' = []) := by
  refine Spec.intro (n := 7) Try.func11 rfl rfl (by decide) (Nat.le_of_ble_eq_true rfl) rfl (fun _ => (by repeat (first | with_reducible exact AppL.nil | apply AppL.cons))) (fun _ => (by repeat (first | with_reducible exact AppL.nil | apply AppL.cons))) ?_
  intro σ D M
  have q1 := tmod_bd x
  refine T.seq ?_
  refine T.region ?_
  refine L.assign rfl rfl ?_
  refine L.nil ?_
  refine T.thenN ?_
  refine T.seq ?_
  refine T.region ?_
  refine L.move rfl rfl ?_
  refine L.remI rfl rfl rfl (by decide) ?_
  refine L.addN rfl rfl rfl (by omega) ?_
  refine L.remN rfl rfl rfl (by omega) ?_
  refine L.assign rfl rfl ?_
  refine L.nil ?_
  refine T.thenN ?_
  refine T.ret ?_
  exact T.ret1 rfl rfl ⟨by rw [← tick_eq x], rfl, rfl⟩ (by repeat (first | exact SubD.refl _ | exact SubD.nil _ | refine SubD.cons (by repeat (first | with_reducible exact mem_head | apply mem_tail)) ?_ | apply SubD.skip)) (by repeat (first | exact Ent.refl _ | refine Fit.cons (by repeat (first | with_reducible exact Pull.here | apply Pull.there)) ?_ | apply Ent.skip))
theorem has_spec {q mb : Nat} {each most n now : Int} {l : List (Int × Int × Int)} (hq : QInv each most l) (h1 : 0 ≤ now) (h2 : now ≤ 2199023255552) : Spec Try.prog 14 [.pointer (some ⟨q, 0, none⟩), .int .i64 n, .int .i64 now] [] [cl q 46 [.int .i64 each, .int .i64 most, .map (some mb)], mp mb iK shV l] (fun v D' M' => v = .int .i64 (hasF each most l n now) ∧ D' = [] ∧ M' = [cl q 46 [.int .i64 each, .int .i64 most, .map (some mb)], mp mb iK shV l]) := by
  refine Spec.intro (n := 53) Try.func14 rfl rfl (by decide) (Nat.le_of_ble_eq_true rfl) rfl (fun _ => (by repeat (first | with_reducible exact AppL.nil | apply AppL.cons))) (fun _ => (by repeat (first | with_reducible exact AppL.nil | apply AppL.cons))) ?_
  intro σ D M
  have q1 := hq.1
  refine T.seq ?_
  refine T.region ?_
  refine L.assign rfl rfl ?_
  refine L.nil ?_
  refine T.thenN ?_
  refine T.seq ?_
  refine T.region ?_
  refine L.move rfl rfl ?_
  refine L.nilCheck rfl rfl ?_
  first | refine L.field0 rfl fo46_1 rfl ?_ | refine L.field rfl fo46_1 rfl ?_
  refine L.load rfl sc44 rfl (by first | exact Cells.ofM (by repeat (first | with_reducible exact mem_head | apply mem_tail)) (by repeat (first | exact AtN.nil | apply AtN.take | apply AtN.skip)) | exact Cells.ofD (by repeat (first | with_reducible exact mem_head | apply mem_tail)) | exact Cells.ofF (by repeat (first | with_reducible exact mem_head | apply mem_tail)) (by repeat (first | exact AtN.nil | apply AtN.take | apply AtN.skip)) | exact Cells.ofDs (by repeat (first | with_reducible exact mem_head | apply mem_tail)) (by repeat (first | exact AtN.nil | apply AtN.take | apply AtN.skip))) ?_
  refine L.move rfl rfl ?_
  rcases hl : look l n with _ | ⟨hv, at_⟩
  · skip
    refine L.lookupN rfl Try.underlying44 kt3 zv48 rfl rfl (by repeat (first | with_reducible exact mem_head | apply mem_tail)) hl ?_
    refine L.move rfl rfl ?_
    refine L.extract rfl rfl rfl ?_
    refine L.extract rfl rfl rfl ?_
    refine L.alloc rfl ze48 (fun b1 => ?_)
    refine L.storeA ag48 rfl rfl rfl (by repeat (first | exact One.nil | refine One.cons rfl ?_ | assumption)) (by repeat (first | with_reducible exact Upd.here | apply Upd.there)) (by repeat (first | exact SetAt.here | exact SetAt.none | exact SetAt.whole rfl | apply SetAt.more | apply SetAt.there)) ?_
    refine L.assign rfl rfl ?_
    refine L.nil ?_
    refine T.thenN ?_
    refine T.seq ?_
    refine T.seq ?_
    refine T.region ?_
    refine L.move rfl rfl ?_
    refine L.notB rfl rfl ?_
    refine L.nil ?_
    refine T.thenN ?_
    refine T.condT rfl rfl ?_
    refine T.seq ?_
    refine T.region ?_
    refine L.move rfl rfl ?_
    refine L.nilCheck rfl rfl ?_
    first | refine L.field0 rfl fo46_0 rfl ?_ | refine L.field rfl fo46_0 rfl ?_
    first | refine L.field0 rfl fo24_1 rfl ?_ | refine L.field rfl fo24_1 rfl ?_
    refine L.load rfl sc3 rfl (by first | exact Cells.ofM (by repeat (first | with_reducible exact mem_head | apply mem_tail)) (by repeat (first | exact AtN.nil | apply AtN.take | apply AtN.skip)) | exact Cells.ofD (by repeat (first | with_reducible exact mem_head | apply mem_tail)) | exact Cells.ofF (by repeat (first | with_reducible exact mem_head | apply mem_tail)) (by repeat (first | exact AtN.nil | apply AtN.take | apply AtN.skip)) | exact Cells.ofDs (by repeat (first | with_reducible exact mem_head | apply mem_tail)) (by repeat (first | exact AtN.nil | apply AtN.take | apply AtN.skip))) ?_
    refine L.assign rfl rfl ?_
    refine L.nil ?_
    refine T.thenN ?_
    refine T.ret ?_
    refine T.thenR ?_
    exact T.ret1 rfl rfl ⟨by simp only [hasF, hl], rfl, rfl⟩ (by repeat (first | exact SubD.refl _ | exact SubD.nil _ | refine SubD.cons (by repeat (first | with_reducible exact mem_head | apply mem_tail)) ?_ | apply SubD.skip)) (by repeat (first | exact Ent.refl _ | refine Fit.cons (by repeat (first | with_reducible exact Pull.here | apply Pull.there)) ?_ | apply Ent.skip))
  · have q2 := hq.2 n hv at_ hl
    refine L.lookupS rfl Try.underlying44 kt3 zv48 rfl rfl (by repeat (first | with_reducible exact mem_head | apply mem_tail)) hl ?_
    refine L.move rfl rfl ?_
    refine L.extract rfl rfl rfl ?_
    refine L.extract rfl rfl rfl ?_
    refine L.alloc rfl ze48 (fun b2 => ?_)
    refine L.storeA ag48 rfl rfl rfl (by repeat (first | exact One.nil | refine One.cons rfl ?_ | assumption)) (by repeat (first | with_reducible exact Upd.here | apply Upd.there)) (by repeat (first | exact SetAt.here | exact SetAt.none | exact SetAt.whole rfl | apply SetAt.more | apply SetAt.there)) ?_
    refine L.assign rfl rfl ?_
    refine L.nil ?_
    refine T.thenN ?_
    refine T.seq ?_
    refine T.seq ?_
    refine T.region ?_
    refine L.move rfl rfl ?_
    refine L.notB rfl rfl ?_
    refine L.nil ?_
    refine T.thenN ?_
    refine T.condF rfl rfl ?_
    refine T.skip ?_
    refine T.thenN ?_
    refine T.seq ?_
    refine T.regionQ (by kernel_rfl) (by kernel_rfl) ?_
    refine L.move rfl rfl ?_
    first | refine L.field0 rfl fo48_1 rfl ?_ | refine L.field rfl fo48_1 rfl ?_
    refine L.load rfl sc3 rfl (by first | exact Cells.ofM (by repeat (first | with_reducible exact mem_head | apply mem_tail)) (by repeat (first | exact AtN.nil | apply AtN.take | apply AtN.skip)) | exact Cells.ofD (by repeat (first | with_reducible exact mem_head | apply mem_tail)) | exact Cells.ofF (by repeat (first | with_reducible exact mem_head | apply mem_tail)) (by repeat (first | exact AtN.nil | apply AtN.take | apply AtN.skip)) | exact Cells.ofDs (by repeat (first | with_reducible exact mem_head | apply mem_tail)) (by repeat (first | exact AtN.nil | apply AtN.take | apply AtN.skip))) ?_
    refine L.subN rfl rfl rfl (by omega) ?_
    refine L.maxI rfl rfl rfl ?_
    refine L.move rfl rfl ?_
    refine L.nilCheck rfl rfl ?_
    first | refine L.field0 rfl fo46_0 rfl ?_ | refine L.field rfl fo46_0 rfl ?_
    first | refine L.field0 rfl fo24_1 rfl ?_ | refine L.field rfl fo24_1 rfl ?_
    refine L.load rfl sc3 rfl (by first | exact Cells.ofM (by repeat (first | with_reducible exact mem_head | apply mem_tail)) (by repeat (first | exact AtN.nil | apply AtN.take | apply AtN.skip)) | exact Cells.ofD (by repeat (first | with_reducible exact mem_head | apply mem_tail)) | exact Cells.ofF (by repeat (first | with_reducible exact mem_head | apply mem_tail)) (by repeat (first | exact AtN.nil | apply AtN.take | apply AtN.skip)) | exact Cells.ofDs (by repeat (first | with_reducible exact mem_head | apply mem_tail)) (by repeat (first | exact AtN.nil | apply AtN.take | apply AtN.skip))) ?_
    refine L.minI rfl rfl rfl ?_
    refine L.assign rfl rfl ?_
    refine L.nilQ ?_
    refine T.thenN ?_
    refine T.seq ?_
    refine T.regionQ (by kernel_rfl) (by kernel_rfl) ?_
    first | refine L.field0 rfl fo48_0 rfl ?_ | refine L.field rfl fo48_0 rfl ?_
    refine L.load rfl sc3 rfl (by first | exact Cells.ofM (by repeat (first | with_reducible exact mem_head | apply mem_tail)) (by repeat (first | exact AtN.nil | apply AtN.take | apply AtN.skip)) | exact Cells.ofD (by repeat (first | with_reducible exact mem_head | apply mem_tail)) | exact Cells.ofF (by repeat (first | with_reducible exact mem_head | apply mem_tail)) (by repeat (first | exact AtN.nil | apply AtN.take | apply AtN.skip)) | exact Cells.ofDs (by repeat (first | with_reducible exact mem_head | apply mem_tail)) (by repeat (first | exact AtN.nil | apply AtN.take | apply AtN.skip))) ?_
    refine L.move rfl rfl ?_
    refine L.move rfl rfl ?_
    refine L.nilCheck rfl rfl ?_
    first | refine L.field0 rfl fo46_0 rfl ?_ | refine L.field rfl fo46_0 rfl ?_
    first | refine L.field0 rfl fo24_0 rfl ?_ | refine L.field rfl fo24_0 rfl ?_
    refine L.load rfl sc3 rfl (by first | exact Cells.ofM (by repeat (first | with_reducible exact mem_head | apply mem_tail)) (by repeat (first | exact AtN.nil | apply AtN.take | apply AtN.skip)) | exact Cells.ofD (by repeat (first | with_reducible exact mem_head | apply mem_tail)) | exact Cells.ofF (by repeat (first | with_reducible exact mem_head | apply mem_tail)) (by repeat (first | exact AtN.nil | apply AtN.take | apply AtN.skip)) | exact Cells.ofDs (by repeat (first | with_reducible exact mem_head | apply mem_tail)) (by repeat (first | exact AtN.nil | apply AtN.take | apply AtN.skip))) ?_
    have hm := mul_bd (x := min (max (now - at_) 0) most) (y := each) (by omega) (by omega) (by omega) (by omega)
    refine L.mulN rfl rfl rfl (by omega) ?_
    refine L.addN rfl rfl rfl (by omega) ?_
    refine L.move rfl rfl ?_
    refine L.nilCheck rfl rfl ?_
    first | refine L.field0 rfl fo46_0 rfl ?_ | refine L.field rfl fo46_0 rfl ?_
    first | refine L.field0 rfl fo24_1 rfl ?_ | refine L.field rfl fo24_1 rfl ?_
    refine L.load rfl sc3 rfl (by first | exact Cells.ofM (by repeat (first | with_reducible exact mem_head | apply mem_tail)) (by repeat (first | exact AtN.nil | apply AtN.take | apply AtN.skip)) | exact Cells.ofD (by repeat (first | with_reducible exact mem_head | apply mem_tail)) | exact Cells.ofF (by repeat (first | with_reducible exact mem_head | apply mem_tail)) (by repeat (first | exact AtN.nil | apply AtN.take | apply AtN.skip)) | exact Cells.ofDs (by repeat (first | with_reducible exact mem_head | apply mem_tail)) (by repeat (first | exact AtN.nil | apply AtN.take | apply AtN.skip))) ?_
    refine L.minI rfl rfl rfl ?_
    refine L.assign rfl rfl ?_
    refine L.nilQ ?_
    refine T.thenN ?_
    refine T.ret ?_
    exact T.ret1 rfl rfl ⟨by simp only [hasF, hl], rfl, rfl⟩ (by repeat (first | exact SubD.refl _ | exact SubD.nil _ | refine SubD.cons (by repeat (first | with_reducible exact mem_head | apply mem_tail)) ?_ | apply SubD.skip)) (by repeat (first | exact Ent.refl _ | refine Fit.cons (by repeat (first | with_reducible exact Pull.here | apply Pull.there)) ?_ | apply Ent.skip))
theorem take_spec {q mb : Nat} {each most n cost now : Int} {l : List (Int × Int × Int)} (hq : QInv each most l) (h1 : 0 ≤ now) (h2 : now ≤ 2199023255552) : Spec Try.prog 12 [.pointer (some ⟨q, 0, none⟩), .int .i64 n, .int .i64 cost, .int .i64 now] [] [cl q 46 [.int .i64 each, .int .i64 most, .map (some mb)], mp mb iK shV l] (fun v D' M' => v = .bool (takeB each most l n cost now) ∧ D' = [] ∧ M' = [cl q 46 [.int .i64 each, .int .i64 most, .map (some mb)], mp mb iK shV (takeL each most l n cost now)]) := by
  refine Spec.intro (n := 47) Try.func12 rfl rfl (by decide) (Nat.le_of_ble_eq_true rfl) rfl (fun _ => (by repeat (first | with_reducible exact AppL.nil | apply AppL.cons))) (fun _ => (by repeat (first | with_reducible exact AppL.nil | apply AppL.cons))) ?_
  intro σ D M
  have q1 := hq.1
  have q3 := hasF_bd (n := n) (now := now) hq h1
  refine T.seq ?_
  refine T.region ?_
  refine L.assign rfl rfl ?_
  refine L.nil ?_
  refine T.thenN ?_
  refine T.seq ?_
  refine T.region ?_
  refine L.move rfl rfl ?_
  refine L.move rfl rfl ?_
  refine L.move rfl rfl ?_
  refine L.call rfl (evs.cons rfl <| evs.cons rfl <| evs.cons rfl <| evs.nil) (by repeat (first | exact SubD.refl _ | exact SubD.nil _ | refine SubD.cons (by repeat (first | with_reducible exact mem_head | apply mem_tail)) ?_ | apply SubD.skip)) (by repeat (first | exact Sel.nil | (apply Sel.cons; focus (repeat (first | with_reducible exact Pull.here | apply Pull.there))))) (has_spec hq h1 h2) ?_
  rintro _ _ _ ⟨rfl, rfl, rfl⟩
  refine L.norm (by repeat (first | with_reducible exact AppL.nil | apply AppL.cons)) (by repeat (first | with_reducible exact AppL.nil | apply AppL.cons)) ?_
  refine L.assign rfl rfl ?_
  refine L.nil ?_
  refine T.thenN ?_
  refine T.seq ?_
  refine T.seq ?_
  refine T.region ?_
  refine L.move rfl rfl ?_
  refine L.ltI rfl rfl rfl ?_
  refine L.move rfl rfl ?_
  refine L.part (t := 18) rfl (fun h1 => ?_) (fun h1 => ?_)
  · try simp only [decide_eq_true_eq, decide_eq_false_iff_not, Bool.not_eq_true', Bool.not_eq_false', Bool.and_eq_true, Bool.or_eq_true] at h1
    refine L.guardF (dj := 18) (c := true) rfl rfl rfl rfl rfl (by decide) ?_
    refine L.guardF (dj := 18) (c := true) rfl rfl rfl rfl rfl (by decide) ?_
    refine L.guardF (dj := 18) (c := true) rfl rfl rfl rfl rfl (by decide) ?_
    refine L.pickT rfl rfl rfl ?_
    refine L.nil ?_
    refine T.thenN ?_
    refine T.condT rfl rfl ?_
    refine T.seq ?_
    refine T.region ?_
    refine L.assign rfl rfl ?_
    refine L.nil ?_
    refine T.thenN ?_
    refine T.ret ?_
    refine T.thenR ?_
    exact T.ret1 rfl rfl ⟨by rw [takeB_no (.inl (by omega))], rfl, by rw [takeL_no (.inl (by omega))]⟩ (by repeat (first | exact SubD.refl _ | exact SubD.nil _ | refine SubD.cons (by repeat (first | with_reducible exact mem_head | apply mem_tail)) ?_ | apply SubD.skip)) (by repeat (first | exact Ent.refl _ | refine Fit.cons (by repeat (first | with_reducible exact Pull.here | apply Pull.there)) ?_ | apply Ent.skip))
  · try simp only [decide_eq_true_eq, decide_eq_false_iff_not, Bool.not_eq_true', Bool.not_eq_false', Bool.and_eq_true, Bool.or_eq_true] at h1
    refine L.guardT (dj := 18) rfl rfl rfl ?_
    refine L.move rfl rfl ?_
    refine L.guardT (dj := 18) rfl rfl rfl ?_
    refine L.move rfl rfl ?_
    refine L.guardT (dj := 18) rfl rfl rfl ?_
    refine L.gtI rfl rfl rfl ?_
    refine L.pickF rfl rfl rfl ?_
    refine L.nil ?_
    refine T.thenN ?_
    refine T.cond rfl (fun h2 => ?_) (fun h2 => ?_)
    · try simp only [decide_eq_true_eq, decide_eq_false_iff_not, Bool.not_eq_true', Bool.not_eq_false', Bool.and_eq_true, Bool.or_eq_true] at h2
      refine T.seq ?_
      refine T.region ?_
      refine L.assign rfl rfl ?_
      refine L.nil ?_
      refine T.thenN ?_
      refine T.ret ?_
      refine T.thenR ?_
      exact T.ret1 rfl rfl ⟨by rw [takeB_no (.inr (by omega))], rfl, by rw [takeL_no (.inr (by omega))]⟩ (by repeat (first | exact SubD.refl _ | exact SubD.nil _ | refine SubD.cons (by repeat (first | with_reducible exact mem_head | apply mem_tail)) ?_ | apply SubD.skip)) (by repeat (first | exact Ent.refl _ | refine Fit.cons (by repeat (first | with_reducible exact Pull.here | apply Pull.there)) ?_ | apply Ent.skip))
    · try simp only [decide_eq_true_eq, decide_eq_false_iff_not, Bool.not_eq_true', Bool.not_eq_false', Bool.and_eq_true, Bool.or_eq_true] at h2
      refine T.skip ?_
      refine T.thenN ?_
      refine T.seq ?_
      refine T.seq ?_
      refine T.region ?_
      refine L.move rfl rfl ?_
      refine L.nilCheck rfl rfl ?_
      first | refine L.field0 rfl fo46_1 rfl ?_ | refine L.field rfl fo46_1 rfl ?_
      refine L.load rfl sc44 rfl (by first | exact Cells.ofM (by repeat (first | with_reducible exact mem_head | apply mem_tail)) (by repeat (first | exact AtN.nil | apply AtN.take | apply AtN.skip)) | exact Cells.ofD (by repeat (first | with_reducible exact mem_head | apply mem_tail)) | exact Cells.ofF (by repeat (first | with_reducible exact mem_head | apply mem_tail)) (by repeat (first | exact AtN.nil | apply AtN.take | apply AtN.skip)) | exact Cells.ofDs (by repeat (first | with_reducible exact mem_head | apply mem_tail)) (by repeat (first | exact AtN.nil | apply AtN.take | apply AtN.skip))) ?_
      refine L.move rfl rfl ?_
      rcases hl : look l n with _ | ⟨hv, at_⟩
      · skip
        refine L.lookupN rfl Try.underlying44 kt3 zv48 rfl rfl (by repeat (first | with_reducible exact mem_head | apply mem_tail)) hl ?_
        refine L.move rfl rfl ?_
        refine L.extract rfl rfl rfl ?_
        refine L.extract rfl rfl rfl ?_
        refine L.alloc rfl ze48 (fun b3 => ?_)
        refine L.storeA ag48 rfl rfl rfl (by repeat (first | exact One.nil | refine One.cons rfl ?_ | assumption)) (by repeat (first | with_reducible exact Upd.here | apply Upd.there)) (by repeat (first | exact SetAt.here | exact SetAt.none | exact SetAt.whole rfl | apply SetAt.more | apply SetAt.there)) ?_
        refine L.assign rfl rfl ?_
        refine L.nil ?_
        refine T.thenN ?_
        refine T.seq ?_
        refine T.region ?_
        refine L.move rfl rfl ?_
        refine L.nil ?_
        refine T.thenN ?_
        refine T.condF rfl rfl ?_
        refine T.skip ?_
        refine T.thenN ?_
        refine T.seq ?_
        refine T.region ?_
        refine L.move rfl rfl ?_
        refine L.nilCheck rfl rfl ?_
        first | refine L.field0 rfl fo46_1 rfl ?_ | refine L.field rfl fo46_1 rfl ?_
        refine L.load rfl sc44 rfl (by first | exact Cells.ofM (by repeat (first | with_reducible exact mem_head | apply mem_tail)) (by repeat (first | exact AtN.nil | apply AtN.take | apply AtN.skip)) | exact Cells.ofD (by repeat (first | with_reducible exact mem_head | apply mem_tail)) | exact Cells.ofF (by repeat (first | with_reducible exact mem_head | apply mem_tail)) (by repeat (first | exact AtN.nil | apply AtN.take | apply AtN.skip)) | exact Cells.ofDs (by repeat (first | with_reducible exact mem_head | apply mem_tail)) (by repeat (first | exact AtN.nil | apply AtN.take | apply AtN.skip))) ?_
        refine L.move rfl rfl ?_
        refine L.move rfl rfl ?_
        refine L.move rfl rfl ?_
        refine L.subN rfl rfl rfl (by omega) ?_
        refine L.move rfl rfl ?_
        refine L.build rfl bu48 (BP.one rfl rfl rfl <| BP.one rfl rfl rfl <| BP.doneE (out := []) rfl) ?_
        refine L.mapUpdate (v := (_, _)) Try.underlying44 kt3 rfl rfl rfl rfl (by repeat (first | with_reducible exact Pull.here | apply Pull.there)) ?_
        refine L.nil ?_
        refine T.thenN ?_
        refine T.seq ?_
        refine T.region ?_
        refine L.assign rfl rfl ?_
        refine L.nil ?_
        refine T.thenN ?_
        refine T.ret ?_
        exact T.ret1 rfl rfl ⟨by rw [takeB_yes (by omega) (by omega)], rfl, by rw [takeL_N (by omega) (by omega) hl]⟩ (by repeat (first | exact SubD.refl _ | exact SubD.nil _ | refine SubD.cons (by repeat (first | with_reducible exact mem_head | apply mem_tail)) ?_ | apply SubD.skip)) (by repeat (first | exact Ent.refl _ | refine Fit.cons (by repeat (first | with_reducible exact Pull.here | apply Pull.there)) ?_ | apply Ent.skip))
      · have q2 := hq.2 n hv at_ hl
        refine L.lookupS rfl Try.underlying44 kt3 zv48 rfl rfl (by repeat (first | with_reducible exact mem_head | apply mem_tail)) hl ?_
        refine L.move rfl rfl ?_
        refine L.extract rfl rfl rfl ?_
        refine L.extract rfl rfl rfl ?_
        refine L.alloc rfl ze48 (fun b4 => ?_)
        refine L.storeA ag48 rfl rfl rfl (by repeat (first | exact One.nil | refine One.cons rfl ?_ | assumption)) (by repeat (first | with_reducible exact Upd.here | apply Upd.there)) (by repeat (first | exact SetAt.here | exact SetAt.none | exact SetAt.whole rfl | apply SetAt.more | apply SetAt.there)) ?_
        refine L.assign rfl rfl ?_
        refine L.nil ?_
        refine T.thenN ?_
        refine T.seq ?_
        refine T.region ?_
        refine L.move rfl rfl ?_
        refine L.nil ?_
        refine T.thenN ?_
        refine T.condT rfl rfl ?_
        refine T.region ?_
        refine L.move rfl rfl ?_
        first | refine L.field0 rfl fo48_1 rfl ?_ | refine L.field rfl fo48_1 rfl ?_
        refine L.load rfl sc3 rfl (by first | exact Cells.ofM (by repeat (first | with_reducible exact mem_head | apply mem_tail)) (by repeat (first | exact AtN.nil | apply AtN.take | apply AtN.skip)) | exact Cells.ofD (by repeat (first | with_reducible exact mem_head | apply mem_tail)) | exact Cells.ofF (by repeat (first | with_reducible exact mem_head | apply mem_tail)) (by repeat (first | exact AtN.nil | apply AtN.take | apply AtN.skip)) | exact Cells.ofDs (by repeat (first | with_reducible exact mem_head | apply mem_tail)) (by repeat (first | exact AtN.nil | apply AtN.take | apply AtN.skip))) ?_
        refine L.maxI rfl rfl rfl ?_
        refine L.assign rfl rfl ?_
        refine L.nil ?_
        refine T.thenN ?_
        refine T.seq ?_
        refine T.region ?_
        refine L.move rfl rfl ?_
        refine L.nilCheck rfl rfl ?_
        first | refine L.field0 rfl fo46_1 rfl ?_ | refine L.field rfl fo46_1 rfl ?_
        refine L.load rfl sc44 rfl (by first | exact Cells.ofM (by repeat (first | with_reducible exact mem_head | apply mem_tail)) (by repeat (first | exact AtN.nil | apply AtN.take | apply AtN.skip)) | exact Cells.ofD (by repeat (first | with_reducible exact mem_head | apply mem_tail)) | exact Cells.ofF (by repeat (first | with_reducible exact mem_head | apply mem_tail)) (by repeat (first | exact AtN.nil | apply AtN.take | apply AtN.skip)) | exact Cells.ofDs (by repeat (first | with_reducible exact mem_head | apply mem_tail)) (by repeat (first | exact AtN.nil | apply AtN.take | apply AtN.skip))) ?_
        refine L.move rfl rfl ?_
        refine L.move rfl rfl ?_
        refine L.move rfl rfl ?_
        refine L.subN rfl rfl rfl (by omega) ?_
        refine L.move rfl rfl ?_
        refine L.build rfl bu48 (BP.one rfl rfl rfl <| BP.one rfl rfl rfl <| BP.doneE (out := []) rfl) ?_
        refine L.mapUpdate (v := (_, _)) Try.underlying44 kt3 rfl rfl rfl rfl (by repeat (first | with_reducible exact Pull.here | apply Pull.there)) ?_
        refine L.nil ?_
        refine T.thenN ?_
        refine T.seq ?_
        refine T.region ?_
        refine L.assign rfl rfl ?_
        refine L.nil ?_
        refine T.thenN ?_
        refine T.ret ?_
        exact T.ret1 rfl rfl ⟨by rw [takeB_yes (by omega) (by omega)], rfl, by rw [takeL_S (by omega) (by omega) hl]⟩ (by repeat (first | exact SubD.refl _ | exact SubD.nil _ | refine SubD.cons (by repeat (first | with_reducible exact mem_head | apply mem_tail)) ?_ | apply SubD.skip)) (by repeat (first | exact Ent.refl _ | refine Fit.cons (by repeat (first | with_reducible exact Pull.here | apply Pull.there)) ?_ | apply Ent.skip))
theorem new_spec (each most : Int) (h1 : 1 ≤ each) (h2 : each ≤ most) (h3 : most ≤ 1048576) : Spec Try.prog 9 [.agg #[.int .i64 each, .int .i64 most]] [] [] (fun v D' M' => ∃ q mb, v = .tuple #[.pointer (some ⟨q, 0, none⟩), .int .i64 0] ∧ D' = [] ∧ M' = [cl q 46 [.int .i64 each, .int .i64 most, .map (some mb)], mp mb iK shV []]) := by
  refine Spec.intro (n := 23) Try.func9 rfl rfl (by decide) (Nat.le_of_ble_eq_true rfl) rfl (fun _ => (by repeat (first | with_reducible exact AppL.nil | apply AppL.cons))) (fun _ => (by repeat (first | with_reducible exact AppL.nil | apply AppL.cons))) ?_
  intro σ D M
  refine T.seq ?_
  refine T.region ?_
  refine L.box rfl rfl rfl (fun b1 => ?_)
  refine L.assign rfl rfl ?_
  refine L.assign rfl rfl ?_
  refine L.nil ?_
  refine T.thenN ?_
  refine T.seq ?_
  refine T.seq ?_
  refine T.region ?_
  first | refine L.field0 rfl fo24_0 rfl ?_ | refine L.field rfl fo24_0 rfl ?_
  refine L.load rfl sc3 rfl (by first | exact Cells.ofM (by repeat (first | with_reducible exact mem_head | apply mem_tail)) (by repeat (first | exact AtN.nil | apply AtN.take | apply AtN.skip)) | exact Cells.ofD (by repeat (first | with_reducible exact mem_head | apply mem_tail)) | exact Cells.ofF (by repeat (first | with_reducible exact mem_head | apply mem_tail)) (by repeat (first | exact AtN.nil | apply AtN.take | apply AtN.skip)) | exact Cells.ofDs (by repeat (first | with_reducible exact mem_head | apply mem_tail)) (by repeat (first | exact AtN.nil | apply AtN.take | apply AtN.skip))) ?_
  refine L.ltI rfl rfl rfl ?_
  refine L.move rfl rfl ?_
  refine L.known (t := 7) rfl (show _ = Value.bool false from congrArg Value.bool (decide_eq_false (by omega))) ?_
  refine L.guardT (dj := 7) rfl rfl rfl ?_
  first | refine L.field0 rfl fo24_1 rfl ?_ | refine L.field rfl fo24_1 rfl ?_
  refine L.guardT (dj := 7) rfl rfl rfl ?_
  refine L.load rfl sc3 rfl (by first | exact Cells.ofM (by repeat (first | with_reducible exact mem_head | apply mem_tail)) (by repeat (first | exact AtN.nil | apply AtN.take | apply AtN.skip)) | exact Cells.ofD (by repeat (first | with_reducible exact mem_head | apply mem_tail)) | exact Cells.ofF (by repeat (first | with_reducible exact mem_head | apply mem_tail)) (by repeat (first | exact AtN.nil | apply AtN.take | apply AtN.skip)) | exact Cells.ofDs (by repeat (first | with_reducible exact mem_head | apply mem_tail)) (by repeat (first | exact AtN.nil | apply AtN.take | apply AtN.skip))) ?_
  refine L.guardT (dj := 7) rfl rfl rfl ?_
  first | refine L.field0 rfl fo24_0 rfl ?_ | refine L.field rfl fo24_0 rfl ?_
  refine L.guardT (dj := 7) rfl rfl rfl ?_
  refine L.load rfl sc3 rfl (by first | exact Cells.ofM (by repeat (first | with_reducible exact mem_head | apply mem_tail)) (by repeat (first | exact AtN.nil | apply AtN.take | apply AtN.skip)) | exact Cells.ofD (by repeat (first | with_reducible exact mem_head | apply mem_tail)) | exact Cells.ofF (by repeat (first | with_reducible exact mem_head | apply mem_tail)) (by repeat (first | exact AtN.nil | apply AtN.take | apply AtN.skip)) | exact Cells.ofDs (by repeat (first | with_reducible exact mem_head | apply mem_tail)) (by repeat (first | exact AtN.nil | apply AtN.take | apply AtN.skip))) ?_
  refine L.guardT (dj := 7) rfl rfl rfl ?_
  refine L.ltI rfl rfl rfl ?_
  refine L.pickF rfl rfl rfl ?_
  refine L.move rfl rfl ?_
  refine L.known (t := 14) rfl (show _ = Value.bool false from congrArg Value.bool (decide_eq_false (by omega))) ?_
  refine L.guardT (dj := 14) rfl rfl rfl ?_
  first | refine L.field0 rfl fo24_1 rfl ?_ | refine L.field rfl fo24_1 rfl ?_
  refine L.guardT (dj := 14) rfl rfl rfl ?_
  refine L.load rfl sc3 rfl (by first | exact Cells.ofM (by repeat (first | with_reducible exact mem_head | apply mem_tail)) (by repeat (first | exact AtN.nil | apply AtN.take | apply AtN.skip)) | exact Cells.ofD (by repeat (first | with_reducible exact mem_head | apply mem_tail)) | exact Cells.ofF (by repeat (first | with_reducible exact mem_head | apply mem_tail)) (by repeat (first | exact AtN.nil | apply AtN.take | apply AtN.skip)) | exact Cells.ofDs (by repeat (first | with_reducible exact mem_head | apply mem_tail)) (by repeat (first | exact AtN.nil | apply AtN.take | apply AtN.skip))) ?_
  refine L.guardT (dj := 14) rfl rfl rfl ?_
  refine L.gtI rfl rfl rfl ?_
  refine L.pickF rfl rfl rfl ?_
  refine L.nil ?_
  refine T.thenN ?_
  refine T.condF rfl (decide_eq_false (by omega)) ?_
  refine T.skip ?_
  refine T.thenN ?_
  refine T.seq ?_
  refine T.region ?_
  refine L.loadA rfl ag24 rfl (by first | exact CellsN.ofM (by repeat (first | with_reducible exact mem_head | apply mem_tail)) (by repeat (first | exact AtN.nil | apply AtN.take | apply AtN.skip)) | exact CellsN.ofD (by repeat (first | with_reducible exact mem_head | apply mem_tail)) rfl | exact CellsN.ofF (by repeat (first | with_reducible exact mem_head | apply mem_tail)) (by repeat (first | exact AtN.nil | apply AtN.take | apply AtN.skip)) | exact CellsN.ofDs (by repeat (first | with_reducible exact mem_head | apply mem_tail)) (by repeat (first | exact AtN.nil | apply AtN.take | apply AtN.skip))) ?_
  refine L.makeMap iK shV rfl (fun mb => ?_)
  refine L.build rfl bu46 (BP.agg rfl rfl rfl (Nat.le_of_ble_eq_true rfl) (by repeat (first | with_reducible exact AppL.nil | apply AppL.cons | with_reducible exact AppL.refl)) <| BP.one rfl rfl rfl <| BP.doneE (out := []) rfl) ?_
  refine L.box rfl rfl rfl (fun b2 => ?_)
  refine L.assign rfl rfl ?_
  refine L.assign rfl rfl ?_
  refine L.nil ?_
  refine T.thenN ?_
  refine T.ret ?_
  exact T.ret2 rfl rfl rfl ⟨_, _, rfl, rfl, rfl⟩ (by repeat (first | exact SubD.refl _ | exact SubD.nil _ | refine SubD.cons (by repeat (first | with_reducible exact mem_head | apply mem_tail)) ?_ | apply SubD.skip)) (by repeat (first | exact Ent.refl _ | refine Fit.cons (by repeat (first | with_reducible exact Pull.here | apply Pull.there)) ?_ | apply Ent.skip))
theorem new_bad (each most : Int) (h : ¬ (1 ≤ each ∧ each ≤ most ∧ most ≤ 1048576)) : Spec Try.prog 9 [.agg #[.int .i64 each, .int .i64 most]] [] [] (fun v D' M' => v = .tuple #[.pointer none, .int .i64 10] ∧ D' = [] ∧ M' = []) := by
  refine Spec.intro (n := 23) Try.func9 rfl rfl (by decide) (Nat.le_of_ble_eq_true rfl) rfl (fun _ => (by repeat (first | with_reducible exact AppL.nil | apply AppL.cons))) (fun _ => (by repeat (first | with_reducible exact AppL.nil | apply AppL.cons))) ?_
  intro σ D M
  refine T.seq ?_
  refine T.region ?_
  refine L.box rfl rfl rfl (fun b1 => ?_)
  refine L.assign rfl rfl ?_
  refine L.assign rfl rfl ?_
  refine L.nil ?_
  refine T.thenN ?_
  refine T.seq ?_
  refine T.seq ?_
  refine T.region ?_
  first | refine L.field0 rfl fo24_0 rfl ?_ | refine L.field rfl fo24_0 rfl ?_
  refine L.load rfl sc3 rfl (by first | exact Cells.ofM (by repeat (first | with_reducible exact mem_head | apply mem_tail)) (by repeat (first | exact AtN.nil | apply AtN.take | apply AtN.skip)) | exact Cells.ofD (by repeat (first | with_reducible exact mem_head | apply mem_tail)) | exact Cells.ofF (by repeat (first | with_reducible exact mem_head | apply mem_tail)) (by repeat (first | exact AtN.nil | apply AtN.take | apply AtN.skip)) | exact Cells.ofDs (by repeat (first | with_reducible exact mem_head | apply mem_tail)) (by repeat (first | exact AtN.nil | apply AtN.take | apply AtN.skip))) ?_
  refine L.ltI rfl rfl rfl ?_
  refine L.move rfl rfl ?_
  refine L.part (t := 7) rfl (fun h2 => ?_) (fun h2 => ?_)
  · try simp only [decide_eq_true_eq, decide_eq_false_iff_not, Bool.not_eq_true', Bool.not_eq_false', Bool.and_eq_true, Bool.or_eq_true] at h2
    refine L.guardF (dj := 7) (c := true) rfl rfl rfl rfl rfl (by decide) ?_
    refine L.guardF (dj := 7) (c := true) rfl rfl rfl rfl rfl (by decide) ?_
    refine L.guardF (dj := 7) (c := true) rfl rfl rfl rfl rfl (by decide) ?_
    refine L.guardF (dj := 7) (c := true) rfl rfl rfl rfl rfl (by decide) ?_
    refine L.guardF (dj := 7) (c := true) rfl rfl rfl rfl rfl (by decide) ?_
    refine L.pickT rfl rfl rfl ?_
    refine L.move rfl rfl ?_
    refine L.guardF (dj := 14) (c := true) rfl rfl rfl rfl rfl (by decide) ?_
    refine L.guardF (dj := 14) (c := true) rfl rfl rfl rfl rfl (by decide) ?_
    refine L.guardF (dj := 14) (c := true) rfl rfl rfl rfl rfl (by decide) ?_
    refine L.pickT rfl rfl rfl ?_
    refine L.nil ?_
    refine T.thenN ?_
    refine T.condT rfl rfl ?_
    refine T.seq ?_
    refine T.region ?_
    refine L.assign rfl rfl ?_
    refine L.assign rfl rfl ?_
    refine L.nil ?_
    refine T.thenN ?_
    refine T.ret ?_
    refine T.thenR ?_
    exact T.ret2 rfl rfl rfl ⟨rfl, rfl, rfl⟩ (by repeat (first | exact SubD.refl _ | exact SubD.nil _ | refine SubD.cons (by repeat (first | with_reducible exact mem_head | apply mem_tail)) ?_ | apply SubD.skip)) (by repeat (first | exact Ent.refl _ | refine Fit.cons (by repeat (first | with_reducible exact Pull.here | apply Pull.there)) ?_ | apply Ent.skip))
  · try simp only [decide_eq_true_eq, decide_eq_false_iff_not, Bool.not_eq_true', Bool.not_eq_false', Bool.and_eq_true, Bool.or_eq_true] at h2
    refine L.guardT (dj := 7) rfl rfl rfl ?_
    first | refine L.field0 rfl fo24_1 rfl ?_ | refine L.field rfl fo24_1 rfl ?_
    refine L.guardT (dj := 7) rfl rfl rfl ?_
    refine L.load rfl sc3 rfl (by first | exact Cells.ofM (by repeat (first | with_reducible exact mem_head | apply mem_tail)) (by repeat (first | exact AtN.nil | apply AtN.take | apply AtN.skip)) | exact Cells.ofD (by repeat (first | with_reducible exact mem_head | apply mem_tail)) | exact Cells.ofF (by repeat (first | with_reducible exact mem_head | apply mem_tail)) (by repeat (first | exact AtN.nil | apply AtN.take | apply AtN.skip)) | exact Cells.ofDs (by repeat (first | with_reducible exact mem_head | apply mem_tail)) (by repeat (first | exact AtN.nil | apply AtN.take | apply AtN.skip))) ?_
    refine L.guardT (dj := 7) rfl rfl rfl ?_
    first | refine L.field0 rfl fo24_0 rfl ?_ | refine L.field rfl fo24_0 rfl ?_
    refine L.guardT (dj := 7) rfl rfl rfl ?_
    refine L.load rfl sc3 rfl (by first | exact Cells.ofM (by repeat (first | with_reducible exact mem_head | apply mem_tail)) (by repeat (first | exact AtN.nil | apply AtN.take | apply AtN.skip)) | exact Cells.ofD (by repeat (first | with_reducible exact mem_head | apply mem_tail)) | exact Cells.ofF (by repeat (first | with_reducible exact mem_head | apply mem_tail)) (by repeat (first | exact AtN.nil | apply AtN.take | apply AtN.skip)) | exact Cells.ofDs (by repeat (first | with_reducible exact mem_head | apply mem_tail)) (by repeat (first | exact AtN.nil | apply AtN.take | apply AtN.skip))) ?_
    refine L.guardT (dj := 7) rfl rfl rfl ?_
    refine L.ltI rfl rfl rfl ?_
    refine L.pickF rfl rfl rfl ?_
    refine L.move rfl rfl ?_
    refine L.part (t := 14) rfl (fun h3 => ?_) (fun h3 => ?_)
    · try simp only [decide_eq_true_eq, decide_eq_false_iff_not, Bool.not_eq_true', Bool.not_eq_false', Bool.and_eq_true, Bool.or_eq_true] at h3
      refine L.guardF (dj := 14) (c := true) rfl rfl rfl rfl rfl (by decide) ?_
      refine L.guardF (dj := 14) (c := true) rfl rfl rfl rfl rfl (by decide) ?_
      refine L.guardF (dj := 14) (c := true) rfl rfl rfl rfl rfl (by decide) ?_
      refine L.pickT rfl rfl rfl ?_
      refine L.nil ?_
      refine T.thenN ?_
      refine T.condT rfl rfl ?_
      refine T.seq ?_
      refine T.region ?_
      refine L.assign rfl rfl ?_
      refine L.assign rfl rfl ?_
      refine L.nil ?_
      refine T.thenN ?_
      refine T.ret ?_
      refine T.thenR ?_
      exact T.ret2 rfl rfl rfl ⟨rfl, rfl, rfl⟩ (by repeat (first | exact SubD.refl _ | exact SubD.nil _ | refine SubD.cons (by repeat (first | with_reducible exact mem_head | apply mem_tail)) ?_ | apply SubD.skip)) (by repeat (first | exact Ent.refl _ | refine Fit.cons (by repeat (first | with_reducible exact Pull.here | apply Pull.there)) ?_ | apply Ent.skip))
    · try simp only [decide_eq_true_eq, decide_eq_false_iff_not, Bool.not_eq_true', Bool.not_eq_false', Bool.and_eq_true, Bool.or_eq_true] at h3
      refine L.guardT (dj := 14) rfl rfl rfl ?_
      first | refine L.field0 rfl fo24_1 rfl ?_ | refine L.field rfl fo24_1 rfl ?_
      refine L.guardT (dj := 14) rfl rfl rfl ?_
      refine L.load rfl sc3 rfl (by first | exact Cells.ofM (by repeat (first | with_reducible exact mem_head | apply mem_tail)) (by repeat (first | exact AtN.nil | apply AtN.take | apply AtN.skip)) | exact Cells.ofD (by repeat (first | with_reducible exact mem_head | apply mem_tail)) | exact Cells.ofF (by repeat (first | with_reducible exact mem_head | apply mem_tail)) (by repeat (first | exact AtN.nil | apply AtN.take | apply AtN.skip)) | exact Cells.ofDs (by repeat (first | with_reducible exact mem_head | apply mem_tail)) (by repeat (first | exact AtN.nil | apply AtN.take | apply AtN.skip))) ?_
      refine L.guardT (dj := 14) rfl rfl rfl ?_
      refine L.gtI rfl rfl rfl ?_
      refine L.pickF rfl rfl rfl ?_
      refine L.nil ?_
      refine T.thenN ?_
      refine T.cond rfl (fun h4 => ?_) (fun h4 => ?_)
      · try simp only [decide_eq_true_eq, decide_eq_false_iff_not, Bool.not_eq_true', Bool.not_eq_false', Bool.and_eq_true, Bool.or_eq_true] at h4
        refine T.seq ?_
        refine T.region ?_
        refine L.assign rfl rfl ?_
        refine L.assign rfl rfl ?_
        refine L.nil ?_
        refine T.thenN ?_
        refine T.ret ?_
        refine T.thenR ?_
        exact T.ret2 rfl rfl rfl ⟨rfl, rfl, rfl⟩ (by repeat (first | exact SubD.refl _ | exact SubD.nil _ | refine SubD.cons (by repeat (first | with_reducible exact mem_head | apply mem_tail)) ?_ | apply SubD.skip)) (by repeat (first | exact Ent.refl _ | refine Fit.cons (by repeat (first | with_reducible exact Pull.here | apply Pull.there)) ?_ | apply Ent.skip))
      · try simp only [decide_eq_true_eq, decide_eq_false_iff_not, Bool.not_eq_true', Bool.not_eq_false', Bool.and_eq_true, Bool.or_eq_true] at h4
        omega
theorem awake_spec  : Spec Try.prog 10 [] [] [] (fun v D' M' => v = .bool true ∧ D' = [] ∧ M' = []) := by
  refine Spec.intro (n := 33) Try.func10 rfl rfl (by decide) (Nat.le_of_ble_eq_true rfl) rfl (fun _ => (by repeat (first | with_reducible exact AppL.nil | apply AppL.cons))) (fun _ => (by repeat (first | with_reducible exact AppL.nil | apply AppL.cons))) ?_
  intro σ D M
  refine T.seq ?_
  refine T.region ?_
  refine L.assign rfl rfl ?_
  refine L.nil ?_
  refine T.thenN ?_
  refine T.seq ?_
  refine T.region ?_
  refine L.build rfl bu24 (BP.one rfl rfl rfl <| BP.one rfl rfl rfl <| BP.doneE (out := []) rfl) ?_
  refine L.call rfl (evs.cons rfl <| evs.nil) (by repeat (first | exact SubD.refl _ | exact SubD.nil _ | refine SubD.cons (by repeat (first | with_reducible exact mem_head | apply mem_tail)) ?_ | apply SubD.skip)) (by repeat (first | exact Sel.nil | (apply Sel.cons; focus (repeat (first | with_reducible exact Pull.here | apply Pull.there))))) (new_spec _ _ (by omega) (by omega) (by omega)) ?_
  rintro _ _ _ ⟨q, mb, rfl, rfl, rfl⟩
  refine L.norm (by repeat (first | with_reducible exact AppL.nil | apply AppL.cons)) (by repeat (first | with_reducible exact AppL.nil | apply AppL.cons)) ?_
  refine L.move rfl rfl ?_
  refine L.extract rfl rfl rfl ?_
  refine L.extract rfl rfl rfl ?_
  refine L.assign rfl rfl ?_
  refine L.assign rfl rfl ?_
  refine L.nil ?_
  refine T.thenN ?_
  refine T.seq ?_
  refine T.region ?_
  refine L.move rfl rfl ?_
  refine L.eqI rfl rfl rfl ?_
  refine L.move rfl rfl ?_
  refine L.known (t := 10) rfl (show _ = Value.bool true from congrArg Value.bool (by first | rfl | decide)) ?_
  refine L.guardT (dj := 10) rfl rfl rfl ?_
  refine L.move rfl rfl ?_
  refine L.guardT (dj := 10) rfl rfl rfl ?_
  refine L.neqPtr rfl Try.underlying26 rfl rfl ?_
  refine L.pickT rfl rfl rfl ?_
  refine L.move rfl rfl ?_
  refine L.known (t := 14) rfl (show _ = Value.bool true from congrArg Value.bool (by first | rfl | decide)) ?_
  refine L.guardT (dj := 14) rfl rfl rfl ?_
  refine L.move rfl rfl ?_
  refine L.guardT (dj := 14) rfl rfl rfl ?_
  refine L.call rfl (evs.cons rfl <| evs.cons rfl <| evs.cons rfl <| evs.cons rfl <| evs.nil) (by repeat (first | exact SubD.refl _ | exact SubD.nil _ | refine SubD.cons (by repeat (first | with_reducible exact mem_head | apply mem_tail)) ?_ | apply SubD.skip)) (by repeat (first | exact Sel.nil | (apply Sel.cons; focus (repeat (first | with_reducible exact Pull.here | apply Pull.there))))) (take_spec (qinv_awake _ (by decide)) (by omega) (by omega)) ?_
  rintro _ _ _ ⟨rfl, rfl, rfl⟩
  refine L.norm (by repeat (first | with_reducible exact AppL.nil | apply AppL.cons)) (by repeat (first | with_reducible exact AppL.nil | apply AppL.cons)) ?_
  refine L.pickT rfl rfl rfl ?_
  refine L.move rfl rfl ?_
  refine L.known (t := 18) rfl (show _ = Value.bool true from congrArg Value.bool (by first | rfl | decide)) ?_
  refine L.guardT (dj := 18) rfl rfl rfl ?_
  refine L.move rfl rfl ?_
  refine L.guardT (dj := 18) rfl rfl rfl ?_
  refine L.call rfl (evs.cons rfl <| evs.cons rfl <| evs.cons rfl <| evs.nil) (by repeat (first | exact SubD.refl _ | exact SubD.nil _ | refine SubD.cons (by repeat (first | with_reducible exact mem_head | apply mem_tail)) ?_ | apply SubD.skip)) (by repeat (first | exact Sel.nil | (apply Sel.cons; focus (repeat (first | with_reducible exact Pull.here | apply Pull.there))))) (has_spec (qinv_awake _ (by decide)) (by omega) (by omega)) ?_
  rintro _ _ _ ⟨rfl, rfl, rfl⟩
  refine L.norm (by repeat (first | with_reducible exact AppL.nil | apply AppL.cons)) (by repeat (first | with_reducible exact AppL.nil | apply AppL.cons)) ?_
  refine L.guardT (dj := 18) rfl rfl rfl ?_
  refine L.eqI rfl rfl rfl ?_
  refine L.pickT rfl rfl rfl ?_
  refine L.move rfl rfl ?_
  refine L.known (t := 23) rfl (show _ = Value.bool true from congrArg Value.bool (by first | rfl | decide)) ?_
  refine L.guardT (dj := 23) rfl rfl rfl ?_
  refine L.move rfl rfl ?_
  refine L.guardT (dj := 23) rfl rfl rfl ?_
  refine L.call rfl (evs.cons rfl <| evs.cons rfl <| evs.cons rfl <| evs.nil) (by repeat (first | exact SubD.refl _ | exact SubD.nil _ | refine SubD.cons (by repeat (first | with_reducible exact mem_head | apply mem_tail)) ?_ | apply SubD.skip)) (by repeat (first | exact Sel.nil | (apply Sel.cons; focus (repeat (first | with_reducible exact Pull.here | apply Pull.there))))) (has_spec (qinv_awake _ (by decide)) (by omega) (by omega)) ?_
  rintro _ _ _ ⟨rfl, rfl, rfl⟩
  refine L.norm (by repeat (first | with_reducible exact AppL.nil | apply AppL.cons)) (by repeat (first | with_reducible exact AppL.nil | apply AppL.cons)) ?_
  refine L.guardT (dj := 23) rfl rfl rfl ?_
  refine L.eqI rfl rfl rfl ?_
  refine L.pickT rfl rfl rfl ?_
  refine L.move rfl rfl ?_
  refine L.known (t := 28) rfl (show _ = Value.bool true from congrArg Value.bool (by first | rfl | decide)) ?_
  refine L.guardT (dj := 28) rfl rfl rfl ?_
  refine L.move rfl rfl ?_
  refine L.guardT (dj := 28) rfl rfl rfl ?_
  refine L.call rfl (evs.cons rfl <| evs.cons rfl <| evs.cons rfl <| evs.cons rfl <| evs.nil) (by repeat (first | exact SubD.refl _ | exact SubD.nil _ | refine SubD.cons (by repeat (first | with_reducible exact mem_head | apply mem_tail)) ?_ | apply SubD.skip)) (by repeat (first | exact Sel.nil | (apply Sel.cons; focus (repeat (first | with_reducible exact Pull.here | apply Pull.there))))) (take_spec (qinv_awake _ (by decide)) (by omega) (by omega)) ?_
  rintro _ _ _ ⟨rfl, rfl, rfl⟩
  refine L.norm (by repeat (first | with_reducible exact AppL.nil | apply AppL.cons)) (by repeat (first | with_reducible exact AppL.nil | apply AppL.cons)) ?_
  refine L.guardT (dj := 28) rfl rfl rfl ?_
  refine L.notB rfl rfl ?_
  refine L.pickT rfl rfl rfl ?_
  refine L.assign rfl rfl ?_
  refine L.nil ?_
  refine T.thenN ?_
  refine T.ret ?_
  exact T.ret1 rfl rfl ⟨congrArg Value.bool (by first | rfl | decide), rfl, rfl⟩ (by repeat (first | exact SubD.refl _ | exact SubD.nil _ | refine SubD.cons (by repeat (first | with_reducible exact mem_head | apply mem_tail)) ?_ | apply SubD.skip)) (by repeat (first | exact Ent.refl _ | refine Fit.cons (by repeat (first | with_reducible exact Pull.here | apply Pull.there)) ?_ | apply Ent.skip))
theorem full_law (each most now : Int) : Spec Try.prog 7 [.int .i64 each, .int .i64 most, .int .i64 now] [] [] (fun v D' M' => v = .bool true ∧ D' = [] ∧ M' = []) := by
  refine Spec.intro (n := 97) Try.func7 rfl rfl (by decide) (Nat.le_of_ble_eq_true rfl) rfl (fun _ => (by repeat (first | with_reducible exact AppL.nil | apply AppL.cons))) (fun _ => (by repeat (first | with_reducible exact AppL.nil | apply AppL.cons))) ?_
  intro σ D M
  refine T.seq ?_
  refine T.region ?_
  refine L.assign rfl rfl ?_
  refine L.nil ?_
  refine T.thenN ?_
  refine T.seq ?_
  refine T.region ?_
  refine L.move rfl rfl ?_
  refine L.move rfl rfl ?_
  refine L.call rfl (evs.cons rfl <| evs.cons rfl <| evs.nil) (by repeat (first | exact SubD.refl _ | exact SubD.nil _ | refine SubD.cons (by repeat (first | with_reducible exact mem_head | apply mem_tail)) ?_ | apply SubD.skip)) (by repeat (first | exact Sel.nil | (apply Sel.cons; focus (repeat (first | with_reducible exact Pull.here | apply Pull.there))))) (rate_spec _ _) ?_
  rintro _ _ _ ⟨E, Mo, hE1, hE2, hE3, hE4, rfl, rfl, rfl⟩
  refine L.norm (by repeat (first | with_reducible exact AppL.nil | apply AppL.cons)) (by repeat (first | with_reducible exact AppL.nil | apply AppL.cons)) ?_
  refine L.alloc rfl ze24 (fun b1 => ?_)
  refine L.storeA ag24 rfl rfl rfl (by repeat (first | exact One.nil | refine One.cons rfl ?_ | assumption)) (by repeat (first | with_reducible exact Upd.here | apply Upd.there)) (by repeat (first | exact SetAt.here | exact SetAt.none | exact SetAt.whole rfl | apply SetAt.more | apply SetAt.there)) ?_
  refine L.nil ?_
  refine T.thenN ?_
  refine T.seq ?_
  refine T.region ?_
  refine L.loadA rfl ag24 rfl (by first | exact CellsN.ofM (by repeat (first | with_reducible exact mem_head | apply mem_tail)) (by repeat (first | exact AtN.nil | apply AtN.take | apply AtN.skip)) | exact CellsN.ofD (by repeat (first | with_reducible exact mem_head | apply mem_tail)) rfl | exact CellsN.ofF (by repeat (first | with_reducible exact mem_head | apply mem_tail)) (by repeat (first | exact AtN.nil | apply AtN.take | apply AtN.skip)) | exact CellsN.ofDs (by repeat (first | with_reducible exact mem_head | apply mem_tail)) (by repeat (first | exact AtN.nil | apply AtN.take | apply AtN.skip))) ?_
  refine L.call rfl (evs.cons rfl <| evs.nil) (by repeat (first | exact SubD.refl _ | exact SubD.nil _ | refine SubD.cons (by repeat (first | with_reducible exact mem_head | apply mem_tail)) ?_ | apply SubD.skip)) (by repeat (first | exact Sel.nil | (apply Sel.cons; focus (repeat (first | with_reducible exact Pull.here | apply Pull.there))))) (new_spec _ _ (by omega) (by omega) (by omega)) ?_
  rintro _ _ _ ⟨q, mb, rfl, rfl, rfl⟩
  refine L.norm (by repeat (first | with_reducible exact AppL.nil | apply AppL.cons)) (by repeat (first | with_reducible exact AppL.nil | apply AppL.cons)) ?_
  refine L.move rfl rfl ?_
  refine L.extract rfl rfl rfl ?_
  refine L.extract rfl rfl rfl ?_
  refine L.assign rfl rfl ?_
  refine L.assign rfl rfl ?_
  refine L.nil ?_
  refine T.thenN ?_
  refine T.seq ?_
  refine T.seq ?_
  refine T.region ?_
  refine L.call rfl (evs.nil) (by repeat (first | exact SubD.refl _ | exact SubD.nil _ | refine SubD.cons (by repeat (first | with_reducible exact mem_head | apply mem_tail)) ?_ | apply SubD.skip)) (by repeat (first | exact Sel.nil | (apply Sel.cons; focus (repeat (first | with_reducible exact Pull.here | apply Pull.there))))) (awake_spec) ?_
  rintro _ _ _ ⟨rfl, rfl, rfl⟩
  refine L.norm (by repeat (first | with_reducible exact AppL.nil | apply AppL.cons)) (by repeat (first | with_reducible exact AppL.nil | apply AppL.cons)) ?_
  refine L.notB rfl rfl ?_
  refine L.move rfl rfl ?_
  refine L.guardT (dj := 21) rfl rfl rfl ?_
  refine L.move rfl rfl ?_
  refine L.guardT (dj := 21) rfl rfl rfl ?_
  refine L.neI rfl rfl rfl ?_
  refine L.pickF rfl rfl rfl ?_
  refine L.nil ?_
  refine T.thenN ?_
  refine T.condF rfl rfl ?_
  refine T.skip ?_
  refine T.thenN ?_
  refine T.seq ?_
  refine T.region ?_
  refine L.move rfl rfl ?_
  refine L.call rfl (evs.cons rfl <| evs.nil) (by repeat (first | exact SubD.refl _ | exact SubD.nil _ | refine SubD.cons (by repeat (first | with_reducible exact mem_head | apply mem_tail)) ?_ | apply SubD.skip)) (by repeat (first | exact Sel.nil | (apply Sel.cons; focus (repeat (first | with_reducible exact Pull.here | apply Pull.there))))) (tick_spec _) ?_
  rintro _ _ _ ⟨rfl, rfl, rfl⟩
  refine L.norm (by repeat (first | with_reducible exact AppL.nil | apply AppL.cons)) (by repeat (first | with_reducible exact AppL.nil | apply AppL.cons)) ?_
  obtain ⟨t, ht, ht1, ht2⟩ : ∃ t : Int, t = now % 100000 ∧ 0 ≤ t ∧ t < 100000 := ⟨_, rfl, by omega, by omega⟩
  rw [← ht]
  refine L.assign rfl rfl ?_
  refine L.nil ?_
  refine T.thenN ?_
  refine T.seq ?_
  refine T.seq ?_
  refine T.region ?_
  refine L.move rfl rfl ?_
  first | refine L.field0 rfl fo24_1 rfl ?_ | refine L.field rfl fo24_1 rfl ?_
  refine L.load rfl sc3 rfl (by first | exact Cells.ofM (by repeat (first | with_reducible exact mem_head | apply mem_tail)) (by repeat (first | exact AtN.nil | apply AtN.take | apply AtN.skip)) | exact Cells.ofD (by repeat (first | with_reducible exact mem_head | apply mem_tail)) | exact Cells.ofF (by repeat (first | with_reducible exact mem_head | apply mem_tail)) (by repeat (first | exact AtN.nil | apply AtN.take | apply AtN.skip)) | exact Cells.ofDs (by repeat (first | with_reducible exact mem_head | apply mem_tail)) (by repeat (first | exact AtN.nil | apply AtN.take | apply AtN.skip))) ?_
  refine L.move rfl rfl ?_
  refine L.call rfl (evs.cons rfl <| evs.cons rfl <| evs.cons rfl <| evs.cons rfl <| evs.nil) (by repeat (first | exact SubD.refl _ | exact SubD.nil _ | refine SubD.cons (by repeat (first | with_reducible exact mem_head | apply mem_tail)) ?_ | apply SubD.skip)) (by repeat (first | exact Sel.nil | (apply Sel.cons; focus (repeat (first | with_reducible exact Pull.here | apply Pull.there))))) (take_spec (qinv_nil (by omega)) (by omega) (by omega)) ?_
  rintro _ _ _ ⟨rfl, rfl, rfl⟩
  refine L.norm (by repeat (first | with_reducible exact AppL.nil | apply AppL.cons)) (by repeat (first | with_reducible exact AppL.nil | apply AppL.cons)) ?_
  rw [full1 (by omega) (by omega), full1b (by omega) (by omega)]
  refine L.notB rfl rfl ?_
  refine L.move rfl rfl ?_
  refine L.guardT (dj := 33) rfl rfl rfl ?_
  refine L.move rfl rfl ?_
  refine L.guardT (dj := 33) rfl rfl rfl ?_
  refine L.move rfl rfl ?_
  refine L.guardT (dj := 33) rfl rfl rfl ?_
  refine L.call rfl (evs.cons rfl <| evs.cons rfl <| evs.cons rfl <| evs.nil) (by repeat (first | exact SubD.refl _ | exact SubD.nil _ | refine SubD.cons (by repeat (first | with_reducible exact mem_head | apply mem_tail)) ?_ | apply SubD.skip)) (by repeat (first | exact Sel.nil | (apply Sel.cons; focus (repeat (first | with_reducible exact Pull.here | apply Pull.there))))) (has_spec (qinv_one (by omega) (by omega)) (by omega) (by omega)) ?_
  rintro _ _ _ ⟨rfl, rfl, rfl⟩
  refine L.norm (by repeat (first | with_reducible exact AppL.nil | apply AppL.cons)) (by repeat (first | with_reducible exact AppL.nil | apply AppL.cons)) ?_
  refine L.guardT (dj := 33) rfl rfl rfl ?_
  refine L.neI rfl rfl rfl ?_
  refine L.pickF rfl rfl rfl ?_
  refine L.move rfl rfl ?_
  refine L.known (t := 39) rfl (show _ = Value.bool false from congrArg Value.bool (full3 (by omega))) ?_
  refine L.guardT (dj := 39) rfl rfl rfl ?_
  refine L.move rfl rfl ?_
  refine L.guardT (dj := 39) rfl rfl rfl ?_
  refine L.move rfl rfl ?_
  refine L.guardT (dj := 39) rfl rfl rfl ?_
  refine L.call rfl (evs.cons rfl <| evs.cons rfl <| evs.cons rfl <| evs.cons rfl <| evs.nil) (by repeat (first | exact SubD.refl _ | exact SubD.nil _ | refine SubD.cons (by repeat (first | with_reducible exact mem_head | apply mem_tail)) ?_ | apply SubD.skip)) (by repeat (first | exact Sel.nil | (apply Sel.cons; focus (repeat (first | with_reducible exact Pull.here | apply Pull.there))))) (take_spec (qinv_one (by omega) (by omega)) (by omega) (by omega)) ?_
  rintro _ _ _ ⟨rfl, rfl, rfl⟩
  refine L.norm (by repeat (first | with_reducible exact AppL.nil | apply AppL.cons)) (by repeat (first | with_reducible exact AppL.nil | apply AppL.cons)) ?_
  rw [full2 (by omega) (by omega), full2b (by omega) (by omega)]
  refine L.pickF rfl rfl rfl ?_
  refine L.nil ?_
  refine T.thenN ?_
  refine T.condF rfl rfl ?_
  refine T.skip ?_
  refine T.thenN ?_
  refine T.seq ?_
  refine T.region ?_
  first | refine L.field0 rfl fo24_1 rfl ?_ | refine L.field rfl fo24_1 rfl ?_
  refine L.load rfl sc3 rfl (by first | exact Cells.ofM (by repeat (first | with_reducible exact mem_head | apply mem_tail)) (by repeat (first | exact AtN.nil | apply AtN.take | apply AtN.skip)) | exact Cells.ofD (by repeat (first | with_reducible exact mem_head | apply mem_tail)) | exact Cells.ofF (by repeat (first | with_reducible exact mem_head | apply mem_tail)) (by repeat (first | exact AtN.nil | apply AtN.take | apply AtN.skip)) | exact Cells.ofDs (by repeat (first | with_reducible exact mem_head | apply mem_tail)) (by repeat (first | exact AtN.nil | apply AtN.take | apply AtN.skip))) ?_
  first | refine L.field0 rfl fo24_0 rfl ?_ | refine L.field rfl fo24_0 rfl ?_
  refine L.load rfl sc3 rfl (by first | exact Cells.ofM (by repeat (first | with_reducible exact mem_head | apply mem_tail)) (by repeat (first | exact AtN.nil | apply AtN.take | apply AtN.skip)) | exact Cells.ofD (by repeat (first | with_reducible exact mem_head | apply mem_tail)) | exact Cells.ofF (by repeat (first | with_reducible exact mem_head | apply mem_tail)) (by repeat (first | exact AtN.nil | apply AtN.take | apply AtN.skip)) | exact Cells.ofDs (by repeat (first | with_reducible exact mem_head | apply mem_tail)) (by repeat (first | exact AtN.nil | apply AtN.take | apply AtN.skip))) ?_
  refine L.addN rfl rfl rfl (by omega) ?_
  refine L.subN rfl rfl rfl (by omega) ?_
  first | refine L.field0 rfl fo24_0 rfl ?_ | refine L.field rfl fo24_0 rfl ?_
  refine L.load rfl sc3 rfl (by first | exact Cells.ofM (by repeat (first | with_reducible exact mem_head | apply mem_tail)) (by repeat (first | exact AtN.nil | apply AtN.take | apply AtN.skip)) | exact Cells.ofD (by repeat (first | with_reducible exact mem_head | apply mem_tail)) | exact Cells.ofF (by repeat (first | with_reducible exact mem_head | apply mem_tail)) (by repeat (first | exact AtN.nil | apply AtN.take | apply AtN.skip)) | exact Cells.ofDs (by repeat (first | with_reducible exact mem_head | apply mem_tail)) (by repeat (first | exact AtN.nil | apply AtN.take | apply AtN.skip))) ?_
  refine L.quoN rfl rfl rfl (by omega) ?_
  refine L.assign rfl rfl ?_
  refine L.nil ?_
  refine T.thenN ?_
  refine T.seq ?_
  have hk := full_k (E := E) (Mo := Mo) (t := t) (by omega) (by omega) (by omega) (by omega)
  generalize (Mo + E - 1) / E = k at hk ⊢
  have hk1 := hk.1
  have hk2 := hk.2.1
  have hk3 := hk.2.2.1
  refine T.regionQ (by kernel_rfl) (by kernel_rfl) ?_
  refine L.move rfl rfl ?_
  refine L.move rfl rfl ?_
  refine L.move rfl rfl ?_
  refine L.addN rfl rfl rfl (by omega) ?_
  refine L.callF rfl (evs.cons rfl <| evs.cons rfl <| evs.cons rfl <| evs.nil) (by repeat (first | exact SubD.refl _ | exact SubD.nil _ | refine SubD.cons (by repeat (first | with_reducible exact mem_head | apply mem_tail)) ?_ | apply SubD.skip)) (by repeat (first | exact Sel.nil | (apply Sel.cons; focus (repeat (first | with_reducible exact Pull.here | apply Pull.there))))) (has_spec (qinv_one (by omega) (by omega)) (by omega) (by omega)) (by rintro u D1 M1 ⟨rfl, rfl, rfl⟩; exact ⟨rfl, _, (by repeat (first | with_reducible exact AppL.nil | apply AppL.cons)), (by repeat (first | exact Ent.refl _ | refine Fit.cons (by repeat (first | with_reducible exact Pull.here | apply Pull.there)) ?_ | apply Ent.skip))⟩) ?_
  first | refine L.field0 rfl fo24_1 rfl ?_ | refine L.field rfl fo24_1 rfl ?_
  refine L.load rfl sc3 rfl (by first | exact Cells.ofM (by repeat (first | with_reducible exact mem_head | apply mem_tail)) (by repeat (first | exact AtN.nil | apply AtN.take | apply AtN.skip)) | exact Cells.ofD (by repeat (first | with_reducible exact mem_head | apply mem_tail)) | exact Cells.ofF (by repeat (first | with_reducible exact mem_head | apply mem_tail)) (by repeat (first | exact AtN.nil | apply AtN.take | apply AtN.skip)) | exact Cells.ofDs (by repeat (first | with_reducible exact mem_head | apply mem_tail)) (by repeat (first | exact AtN.nil | apply AtN.take | apply AtN.skip))) ?_
  refine L.eqI rfl rfl rfl ?_
  refine L.move rfl rfl ?_
  refine L.known (t := 61) rfl (show _ = Value.bool true from congrArg Value.bool (full4 hk)) ?_
  refine L.guardT (dj := 61) rfl rfl rfl ?_
  refine L.move rfl rfl ?_
  refine L.guardT (dj := 61) rfl rfl rfl ?_
  refine L.move rfl rfl ?_
  refine L.guardT (dj := 61) rfl rfl rfl ?_
  refine L.move rfl rfl ?_
  refine L.guardT (dj := 61) rfl rfl rfl ?_
  refine L.addN rfl rfl rfl (by omega) ?_
  refine L.guardT (dj := 61) rfl rfl rfl ?_
  refine L.subN rfl rfl rfl (by omega) ?_
  refine L.guardT (dj := 61) rfl rfl rfl ?_
  refine L.callF rfl (evs.cons rfl <| evs.cons rfl <| evs.cons rfl <| evs.nil) (by repeat (first | exact SubD.refl _ | exact SubD.nil _ | refine SubD.cons (by repeat (first | with_reducible exact mem_head | apply mem_tail)) ?_ | apply SubD.skip)) (by repeat (first | exact Sel.nil | (apply Sel.cons; focus (repeat (first | with_reducible exact Pull.here | apply Pull.there))))) (has_spec (qinv_one (by omega) (by omega)) (by omega) (by omega)) (by rintro u D1 M1 ⟨rfl, rfl, rfl⟩; exact ⟨rfl, _, (by repeat (first | with_reducible exact AppL.nil | apply AppL.cons)), (by repeat (first | exact Ent.refl _ | refine Fit.cons (by repeat (first | with_reducible exact Pull.here | apply Pull.there)) ?_ | apply Ent.skip))⟩) ?_
  refine L.guardT (dj := 61) rfl rfl rfl ?_
  refine L.move rfl rfl ?_
  refine L.guardT (dj := 61) rfl rfl rfl ?_
  refine L.subN rfl rfl rfl (by omega) ?_
  refine L.guardT (dj := 61) rfl rfl rfl ?_
  first | refine L.field0 rfl fo24_0 rfl ?_ | refine L.field rfl fo24_0 rfl ?_
  refine L.guardT (dj := 61) rfl rfl rfl ?_
  refine L.load rfl sc3 rfl (by first | exact Cells.ofM (by repeat (first | with_reducible exact mem_head | apply mem_tail)) (by repeat (first | exact AtN.nil | apply AtN.take | apply AtN.skip)) | exact Cells.ofD (by repeat (first | with_reducible exact mem_head | apply mem_tail)) | exact Cells.ofF (by repeat (first | with_reducible exact mem_head | apply mem_tail)) (by repeat (first | exact AtN.nil | apply AtN.take | apply AtN.skip)) | exact Cells.ofDs (by repeat (first | with_reducible exact mem_head | apply mem_tail)) (by repeat (first | exact AtN.nil | apply AtN.take | apply AtN.skip))) ?_
  refine L.guardT (dj := 61) rfl rfl rfl ?_
  refine L.mulN rfl rfl rfl (by omega) ?_
  refine L.guardT (dj := 61) rfl rfl rfl ?_
  first | refine L.field0 rfl fo24_1 rfl ?_ | refine L.field rfl fo24_1 rfl ?_
  refine L.guardT (dj := 61) rfl rfl rfl ?_
  refine L.load rfl sc3 rfl (by first | exact Cells.ofM (by repeat (first | with_reducible exact mem_head | apply mem_tail)) (by repeat (first | exact AtN.nil | apply AtN.take | apply AtN.skip)) | exact Cells.ofD (by repeat (first | with_reducible exact mem_head | apply mem_tail)) | exact Cells.ofF (by repeat (first | with_reducible exact mem_head | apply mem_tail)) (by repeat (first | exact AtN.nil | apply AtN.take | apply AtN.skip)) | exact Cells.ofDs (by repeat (first | with_reducible exact mem_head | apply mem_tail)) (by repeat (first | exact AtN.nil | apply AtN.take | apply AtN.skip))) ?_
  refine L.guardT (dj := 61) rfl rfl rfl ?_
  refine L.minI rfl rfl rfl ?_
  refine L.guardT (dj := 61) rfl rfl rfl ?_
  refine L.eqI rfl rfl rfl ?_
  refine L.pickT rfl rfl rfl ?_
  refine L.move rfl rfl ?_
  refine L.known (t := 78) rfl (show _ = Value.bool true from congrArg Value.bool (full5 hk)) ?_
  refine L.guardT (dj := 78) rfl rfl rfl ?_
  refine L.move rfl rfl ?_
  refine L.guardT (dj := 78) rfl rfl rfl ?_
  refine L.move rfl rfl ?_
  refine L.guardT (dj := 78) rfl rfl rfl ?_
  refine L.move rfl rfl ?_
  refine L.guardT (dj := 78) rfl rfl rfl ?_
  refine L.mulN rfl rfl rfl (by omega) ?_
  refine L.guardT (dj := 78) rfl rfl rfl ?_
  refine L.addN rfl rfl rfl (by omega) ?_
  refine L.guardT (dj := 78) rfl rfl rfl ?_
  refine L.callF rfl (evs.cons rfl <| evs.cons rfl <| evs.cons rfl <| evs.nil) (by repeat (first | exact SubD.refl _ | exact SubD.nil _ | refine SubD.cons (by repeat (first | with_reducible exact mem_head | apply mem_tail)) ?_ | apply SubD.skip)) (by repeat (first | exact Sel.nil | (apply Sel.cons; focus (repeat (first | with_reducible exact Pull.here | apply Pull.there))))) (has_spec (qinv_one (by omega) (by omega)) (by omega) (by omega)) (by rintro u D1 M1 ⟨rfl, rfl, rfl⟩; exact ⟨rfl, _, (by repeat (first | with_reducible exact AppL.nil | apply AppL.cons)), (by repeat (first | exact Ent.refl _ | refine Fit.cons (by repeat (first | with_reducible exact Pull.here | apply Pull.there)) ?_ | apply Ent.skip))⟩) ?_
  refine L.guardT (dj := 78) rfl rfl rfl ?_
  first | refine L.field0 rfl fo24_1 rfl ?_ | refine L.field rfl fo24_1 rfl ?_
  refine L.guardT (dj := 78) rfl rfl rfl ?_
  refine L.load rfl sc3 rfl (by first | exact Cells.ofM (by repeat (first | with_reducible exact mem_head | apply mem_tail)) (by repeat (first | exact AtN.nil | apply AtN.take | apply AtN.skip)) | exact Cells.ofD (by repeat (first | with_reducible exact mem_head | apply mem_tail)) | exact Cells.ofF (by repeat (first | with_reducible exact mem_head | apply mem_tail)) (by repeat (first | exact AtN.nil | apply AtN.take | apply AtN.skip)) | exact Cells.ofDs (by repeat (first | with_reducible exact mem_head | apply mem_tail)) (by repeat (first | exact AtN.nil | apply AtN.take | apply AtN.skip))) ?_
  refine L.guardT (dj := 78) rfl rfl rfl ?_
  refine L.eqI rfl rfl rfl ?_
  refine L.pickT rfl rfl rfl ?_
  refine L.move rfl rfl ?_
  refine L.known (t := 89) rfl (show _ = Value.bool true from congrArg Value.bool (full6 hk)) ?_
  refine L.guardT (dj := 89) rfl rfl rfl ?_
  refine L.move rfl rfl ?_
  refine L.guardT (dj := 89) rfl rfl rfl ?_
  refine L.move rfl rfl ?_
  refine L.guardT (dj := 89) rfl rfl rfl ?_
  refine L.subN rfl rfl rfl (by omega) ?_
  refine L.guardT (dj := 89) rfl rfl rfl ?_
  refine L.maxI rfl rfl rfl ?_
  refine L.guardT (dj := 89) rfl rfl rfl ?_
  refine L.callF rfl (evs.cons rfl <| evs.cons rfl <| evs.cons rfl <| evs.nil) (by repeat (first | exact SubD.refl _ | exact SubD.nil _ | refine SubD.cons (by repeat (first | with_reducible exact mem_head | apply mem_tail)) ?_ | apply SubD.skip)) (by repeat (first | exact Sel.nil | (apply Sel.cons; focus (repeat (first | with_reducible exact Pull.here | apply Pull.there))))) (has_spec (qinv_one (by omega) (by omega)) (by omega) (by omega)) (by rintro u D1 M1 ⟨rfl, rfl, rfl⟩; exact ⟨rfl, _, (by repeat (first | with_reducible exact AppL.nil | apply AppL.cons)), (by repeat (first | exact Ent.refl _ | refine Fit.cons (by repeat (first | with_reducible exact Pull.here | apply Pull.there)) ?_ | apply Ent.skip))⟩) ?_
  refine L.guardT (dj := 89) rfl rfl rfl ?_
  refine L.eqI rfl rfl rfl ?_
  refine L.pickT rfl rfl rfl ?_
  refine L.assign rfl rfl ?_
  refine L.nilQ ?_
  refine T.thenN ?_
  refine T.ret ?_
  exact T.ret1 rfl rfl ⟨congrArg Value.bool (full7 hk), rfl, rfl⟩ (by repeat (first | exact SubD.refl _ | exact SubD.nil _ | refine SubD.cons (by repeat (first | with_reducible exact mem_head | apply mem_tail)) ?_ | apply SubD.skip)) (by repeat (first | exact Ent.refl _ | refine Fit.cons (by repeat (first | with_reducible exact Pull.here | apply Pull.there)) ?_ | apply Ent.skip))
theorem rates_ok (each most : Int) (h1 : 1 ≤ each) (h2 : each ≤ most) (h3 : most ≤ 1048576) : Spec Try.prog 5 [.int .i64 each, .int .i64 most] [] [] (fun v D' M' => v = .bool true ∧ D' = [] ∧ M' = []) := by
  refine Spec.intro (n := 46) Try.func5 rfl rfl (by decide) (Nat.le_of_ble_eq_true rfl) rfl (fun _ => (by repeat (first | with_reducible exact AppL.nil | apply AppL.cons))) (fun _ => (by repeat (first | with_reducible exact AppL.nil | apply AppL.cons))) ?_
  intro σ D M
  refine T.seq ?_
  refine T.region ?_
  refine L.assign rfl rfl ?_
  refine L.nil ?_
  refine T.thenN ?_
  refine T.seq ?_
  refine T.region ?_
  refine L.move rfl rfl ?_
  refine L.move rfl rfl ?_
  refine L.build rfl bu24 (BP.one rfl rfl rfl <| BP.one rfl rfl rfl <| BP.doneE (out := []) rfl) ?_
  refine L.call rfl (evs.cons rfl <| evs.nil) (by repeat (first | exact SubD.refl _ | exact SubD.nil _ | refine SubD.cons (by repeat (first | with_reducible exact mem_head | apply mem_tail)) ?_ | apply SubD.skip)) (by repeat (first | exact Sel.nil | (apply Sel.cons; focus (repeat (first | with_reducible exact Pull.here | apply Pull.there))))) (new_spec _ _ h1 h2 h3) ?_
  rintro _ _ _ ⟨q, mb, rfl, rfl, rfl⟩
  refine L.norm (by repeat (first | with_reducible exact AppL.nil | apply AppL.cons)) (by repeat (first | with_reducible exact AppL.nil | apply AppL.cons)) ?_
  refine L.move rfl rfl ?_
  refine L.extract rfl rfl rfl ?_
  refine L.extract rfl rfl rfl ?_
  refine L.assign rfl rfl ?_
  refine L.assign rfl rfl ?_
  refine L.nil ?_
  refine T.thenN ?_
  refine T.seq ?_
  refine T.region ?_
  refine L.move rfl rfl ?_
  refine L.geI rfl rfl rfl ?_
  refine L.move rfl rfl ?_
  refine L.known (t := 17) rfl (show _ = Value.bool true from congrArg Value.bool (decide_eq_true h1)) ?_
  refine L.guardT (dj := 17) rfl rfl rfl ?_
  refine L.move rfl rfl ?_
  refine L.guardT (dj := 17) rfl rfl rfl ?_
  refine L.move rfl rfl ?_
  refine L.guardT (dj := 17) rfl rfl rfl ?_
  refine L.geI rfl rfl rfl ?_
  refine L.pickT rfl rfl rfl ?_
  refine L.move rfl rfl ?_
  refine L.known (t := 22) rfl (show _ = Value.bool true from congrArg Value.bool (decide_eq_true h2)) ?_
  refine L.guardT (dj := 22) rfl rfl rfl ?_
  refine L.move rfl rfl ?_
  refine L.guardT (dj := 22) rfl rfl rfl ?_
  refine L.leI rfl rfl rfl ?_
  refine L.pickT rfl rfl rfl ?_
  refine L.assign rfl rfl ?_
  refine L.nil ?_
  refine T.thenN ?_
  refine T.seq ?_
  refine T.region ?_
  refine L.call rfl (evs.nil) (by repeat (first | exact SubD.refl _ | exact SubD.nil _ | refine SubD.cons (by repeat (first | with_reducible exact mem_head | apply mem_tail)) ?_ | apply SubD.skip)) (by repeat (first | exact Sel.nil | (apply Sel.cons; focus (repeat (first | with_reducible exact Pull.here | apply Pull.there))))) (awake_spec) ?_
  rintro _ _ _ ⟨rfl, rfl, rfl⟩
  refine L.norm (by repeat (first | with_reducible exact AppL.nil | apply AppL.cons)) (by repeat (first | with_reducible exact AppL.nil | apply AppL.cons)) ?_
  refine L.move rfl rfl ?_
  refine L.guardT (dj := 27) rfl rfl rfl ?_
  refine L.move rfl rfl ?_
  refine L.guardT (dj := 27) rfl rfl rfl ?_
  refine L.eqI rfl rfl rfl ?_
  refine L.guardT (dj := 27) rfl rfl rfl ?_
  refine L.move rfl rfl ?_
  refine L.guardT (dj := 27) rfl rfl rfl ?_
  refine L.eqlB Try.underlying4 rfl rfl rfl ?_
  refine L.pickT rfl rfl rfl ?_
  refine L.move rfl rfl ?_
  refine L.known (t := 33) rfl (show _ = Value.bool true from congrArg Value.bool (by rw [decide_eq_true h3]; rfl)) ?_
  refine L.guardT (dj := 33) rfl rfl rfl ?_
  refine L.move rfl rfl ?_
  refine L.guardT (dj := 33) rfl rfl rfl ?_
  refine L.neqPtr rfl Try.underlying26 rfl rfl ?_
  refine L.guardT (dj := 33) rfl rfl rfl ?_
  refine L.move rfl rfl ?_
  refine L.guardT (dj := 33) rfl rfl rfl ?_
  refine L.eqlB Try.underlying4 rfl rfl rfl ?_
  refine L.pickT rfl rfl rfl ?_
  refine L.move rfl rfl ?_
  refine L.known (t := 39) rfl (show _ = Value.bool true from congrArg Value.bool (by rw [decide_eq_true h3]; rfl)) ?_
  refine L.guardT (dj := 39) rfl rfl rfl ?_
  refine L.move rfl rfl ?_
  refine L.guardT (dj := 39) rfl rfl rfl ?_
  refine L.move rfl rfl ?_
  refine L.known (t := 41) rfl (show _ = Value.bool true from congrArg Value.bool (decide_eq_true h3)) ?_
  refine L.guardF (dj := 41) (c := true) rfl rfl rfl rfl rfl (by decide) ?_
  refine L.guardF (dj := 41) (c := true) rfl rfl rfl rfl rfl (by decide) ?_
  refine L.guardT (dj := 39) rfl rfl rfl ?_
  refine L.pickT rfl rfl rfl ?_
  refine L.pickT rfl rfl rfl ?_
  refine L.assign rfl rfl ?_
  refine L.nil ?_
  refine T.thenN ?_
  refine T.ret ?_
  exact T.ret1 rfl rfl ⟨by first | rfl | exact congrArg Value.bool (by first | rfl | decide), rfl, rfl⟩ (by repeat (first | exact SubD.refl _ | exact SubD.nil _ | refine SubD.cons (by repeat (first | with_reducible exact mem_head | apply mem_tail)) ?_ | apply SubD.skip)) (by repeat (first | exact Ent.refl _ | refine Fit.cons (by repeat (first | with_reducible exact Pull.here | apply Pull.there)) ?_ | apply Ent.skip))
theorem rates_bad (each most : Int) (h : ¬ (1 ≤ each ∧ each ≤ most ∧ most ≤ 1048576)) : Spec Try.prog 5 [.int .i64 each, .int .i64 most] [] [] (fun v D' M' => v = .bool true ∧ D' = [] ∧ M' = []) := by
  refine Spec.intro (n := 46) Try.func5 rfl rfl (by decide) (Nat.le_of_ble_eq_true rfl) rfl (fun _ => (by repeat (first | with_reducible exact AppL.nil | apply AppL.cons))) (fun _ => (by repeat (first | with_reducible exact AppL.nil | apply AppL.cons))) ?_
  intro σ D M
  refine T.seq ?_
  refine T.region ?_
  refine L.assign rfl rfl ?_
  refine L.nil ?_
  refine T.thenN ?_
  refine T.seq ?_
  refine T.region ?_
  refine L.move rfl rfl ?_
  refine L.move rfl rfl ?_
  refine L.build rfl bu24 (BP.one rfl rfl rfl <| BP.one rfl rfl rfl <| BP.doneE (out := []) rfl) ?_
  refine L.call rfl (evs.cons rfl <| evs.nil) (by repeat (first | exact SubD.refl _ | exact SubD.nil _ | refine SubD.cons (by repeat (first | with_reducible exact mem_head | apply mem_tail)) ?_ | apply SubD.skip)) (by repeat (first | exact Sel.nil | (apply Sel.cons; focus (repeat (first | with_reducible exact Pull.here | apply Pull.there))))) (new_bad _ _ h) ?_
  rintro _ _ _ ⟨rfl, rfl, rfl⟩
  refine L.norm (by repeat (first | with_reducible exact AppL.nil | apply AppL.cons)) (by repeat (first | with_reducible exact AppL.nil | apply AppL.cons)) ?_
  refine L.move rfl rfl ?_
  refine L.extract rfl rfl rfl ?_
  refine L.extract rfl rfl rfl ?_
  refine L.assign rfl rfl ?_
  refine L.assign rfl rfl ?_
  refine L.nil ?_
  refine T.thenN ?_
  refine T.seq ?_
  refine T.region ?_
  refine L.move rfl rfl ?_
  refine L.geI rfl rfl rfl ?_
  refine L.move rfl rfl ?_
  refine L.part (t := 17) rfl (fun h1 => ?_) (fun h1 => ?_)
  · try simp only [decide_eq_true_eq, decide_eq_false_iff_not, Bool.not_eq_true', Bool.not_eq_false', Bool.and_eq_true, Bool.or_eq_true] at h1
    refine L.guardT (dj := 17) rfl rfl rfl ?_
    refine L.move rfl rfl ?_
    refine L.guardT (dj := 17) rfl rfl rfl ?_
    refine L.move rfl rfl ?_
    refine L.guardT (dj := 17) rfl rfl rfl ?_
    refine L.geI rfl rfl rfl ?_
    refine L.pickT rfl rfl rfl ?_
    refine L.move rfl rfl ?_
    refine L.part (t := 22) rfl (fun h2 => ?_) (fun h2 => ?_)
    · try simp only [decide_eq_true_eq, decide_eq_false_iff_not, Bool.not_eq_true', Bool.not_eq_false', Bool.and_eq_true, Bool.or_eq_true] at h2
      refine L.guardT (dj := 22) rfl rfl rfl ?_
      refine L.move rfl rfl ?_
      refine L.guardT (dj := 22) rfl rfl rfl ?_
      refine L.leI rfl rfl rfl ?_
      refine L.pickT rfl rfl rfl ?_
      refine L.assign rfl rfl ?_
      refine L.nil ?_
      refine T.thenN ?_
      refine T.seq ?_
      refine T.region ?_
      refine L.call rfl (evs.nil) (by repeat (first | exact SubD.refl _ | exact SubD.nil _ | refine SubD.cons (by repeat (first | with_reducible exact mem_head | apply mem_tail)) ?_ | apply SubD.skip)) (by repeat (first | exact Sel.nil | (apply Sel.cons; focus (repeat (first | with_reducible exact Pull.here | apply Pull.there))))) (awake_spec) ?_
      rintro _ _ _ ⟨rfl, rfl, rfl⟩
      refine L.norm (by repeat (first | with_reducible exact AppL.nil | apply AppL.cons)) (by repeat (first | with_reducible exact AppL.nil | apply AppL.cons)) ?_
      refine L.move rfl rfl ?_
      refine L.guardT (dj := 27) rfl rfl rfl ?_
      refine L.move rfl rfl ?_
      refine L.guardT (dj := 27) rfl rfl rfl ?_
      refine L.eqI rfl rfl rfl ?_
      refine L.guardT (dj := 27) rfl rfl rfl ?_
      refine L.move rfl rfl ?_
      refine L.guardT (dj := 27) rfl rfl rfl ?_
      refine L.eqlB Try.underlying4 rfl rfl rfl ?_
      refine L.pickT rfl rfl rfl ?_
      refine L.move rfl rfl ?_
      refine L.known (t := 33) rfl (show _ = Value.bool true from congrArg Value.bool (by first | rfl | decide | (rw [show decide (most ≤ 1048576) = false from decide_eq_false (by omega)]; done) | (rw [show decide (most ≤ 1048576) = false from decide_eq_false (by omega)]; rfl))) ?_
      refine L.guardT (dj := 33) rfl rfl rfl ?_
      refine L.move rfl rfl ?_
      refine L.guardT (dj := 33) rfl rfl rfl ?_
      refine L.neqPtr rfl Try.underlying26 rfl rfl ?_
      refine L.guardT (dj := 33) rfl rfl rfl ?_
      refine L.move rfl rfl ?_
      refine L.guardT (dj := 33) rfl rfl rfl ?_
      refine L.eqlB Try.underlying4 rfl rfl rfl ?_
      refine L.pickT rfl rfl rfl ?_
      refine L.move rfl rfl ?_
      refine L.known (t := 39) rfl (show _ = Value.bool true from congrArg Value.bool (by first | rfl | decide | (rw [show decide (most ≤ 1048576) = false from decide_eq_false (by omega)]; done) | (rw [show decide (most ≤ 1048576) = false from decide_eq_false (by omega)]; rfl))) ?_
      refine L.guardT (dj := 39) rfl rfl rfl ?_
      refine L.move rfl rfl ?_
      refine L.guardT (dj := 39) rfl rfl rfl ?_
      refine L.move rfl rfl ?_
      refine L.known (t := 41) rfl (show _ = Value.bool false from congrArg Value.bool (by first | rfl | decide | (rw [show decide (most ≤ 1048576) = false from decide_eq_false (by omega)]; done) | (rw [show decide (most ≤ 1048576) = false from decide_eq_false (by omega)]; rfl))) ?_
      refine L.guardT (dj := 41) rfl rfl rfl ?_
      refine L.move rfl rfl ?_
      refine L.guardT (dj := 41) rfl rfl rfl ?_
      refine L.eqI rfl rfl rfl ?_
      refine L.guardT (dj := 39) rfl rfl rfl ?_
      refine L.pickF rfl rfl rfl ?_
      refine L.pickT rfl rfl rfl ?_
      refine L.assign rfl rfl ?_
      refine L.nil ?_
      refine T.thenN ?_
      refine T.ret ?_
      exact T.ret1 rfl rfl ⟨by first | rfl | exact congrArg Value.bool (by first | rfl | decide), rfl, rfl⟩ (by repeat (first | exact SubD.refl _ | exact SubD.nil _ | refine SubD.cons (by repeat (first | with_reducible exact mem_head | apply mem_tail)) ?_ | apply SubD.skip)) (by repeat (first | exact Ent.refl _ | refine Fit.cons (by repeat (first | with_reducible exact Pull.here | apply Pull.there)) ?_ | apply Ent.skip))
    · try simp only [decide_eq_true_eq, decide_eq_false_iff_not, Bool.not_eq_true', Bool.not_eq_false', Bool.and_eq_true, Bool.or_eq_true] at h2
      refine L.guardF (dj := 22) (c := false) rfl rfl rfl rfl rfl (by decide) ?_
      refine L.guardF (dj := 22) (c := false) rfl rfl rfl rfl rfl (by decide) ?_
      refine L.pickF rfl rfl rfl ?_
      refine L.assign rfl rfl ?_
      refine L.nil ?_
      refine T.thenN ?_
      refine T.seq ?_
      refine T.region ?_
      refine L.call rfl (evs.nil) (by repeat (first | exact SubD.refl _ | exact SubD.nil _ | refine SubD.cons (by repeat (first | with_reducible exact mem_head | apply mem_tail)) ?_ | apply SubD.skip)) (by repeat (first | exact Sel.nil | (apply Sel.cons; focus (repeat (first | with_reducible exact Pull.here | apply Pull.there))))) (awake_spec) ?_
      rintro _ _ _ ⟨rfl, rfl, rfl⟩
      refine L.norm (by repeat (first | with_reducible exact AppL.nil | apply AppL.cons)) (by repeat (first | with_reducible exact AppL.nil | apply AppL.cons)) ?_
      refine L.move rfl rfl ?_
      refine L.guardT (dj := 27) rfl rfl rfl ?_
      refine L.move rfl rfl ?_
      refine L.guardT (dj := 27) rfl rfl rfl ?_
      refine L.eqI rfl rfl rfl ?_
      refine L.guardT (dj := 27) rfl rfl rfl ?_
      refine L.move rfl rfl ?_
      refine L.guardT (dj := 27) rfl rfl rfl ?_
      refine L.eqlB Try.underlying4 rfl rfl rfl ?_
      refine L.pickT rfl rfl rfl ?_
      refine L.move rfl rfl ?_
      refine L.known (t := 33) rfl (show _ = Value.bool true from congrArg Value.bool (by first | rfl | decide | (rw [show decide (most ≤ 1048576) = false from decide_eq_false (by omega)]; done) | (rw [show decide (most ≤ 1048576) = false from decide_eq_false (by omega)]; rfl))) ?_
      refine L.guardT (dj := 33) rfl rfl rfl ?_
      refine L.move rfl rfl ?_
      refine L.guardT (dj := 33) rfl rfl rfl ?_
      refine L.neqPtr rfl Try.underlying26 rfl rfl ?_
      refine L.guardT (dj := 33) rfl rfl rfl ?_
      refine L.move rfl rfl ?_
      refine L.guardT (dj := 33) rfl rfl rfl ?_
      refine L.eqlB Try.underlying4 rfl rfl rfl ?_
      refine L.pickT rfl rfl rfl ?_
      refine L.move rfl rfl ?_
      refine L.known (t := 39) rfl (show _ = Value.bool true from congrArg Value.bool (by first | rfl | decide | (rw [show decide (most ≤ 1048576) = false from decide_eq_false (by omega)]; done) | (rw [show decide (most ≤ 1048576) = false from decide_eq_false (by omega)]; rfl))) ?_
      refine L.guardT (dj := 39) rfl rfl rfl ?_
      refine L.move rfl rfl ?_
      refine L.guardT (dj := 39) rfl rfl rfl ?_
      refine L.move rfl rfl ?_
      refine L.guardT (dj := 41) rfl rfl rfl ?_
      refine L.move rfl rfl ?_
      refine L.guardT (dj := 41) rfl rfl rfl ?_
      refine L.eqI rfl rfl rfl ?_
      refine L.guardT (dj := 39) rfl rfl rfl ?_
      refine L.pickF rfl rfl rfl ?_
      refine L.pickT rfl rfl rfl ?_
      refine L.assign rfl rfl ?_
      refine L.nil ?_
      refine T.thenN ?_
      refine T.ret ?_
      exact T.ret1 rfl rfl ⟨by first | rfl | exact congrArg Value.bool (by first | rfl | decide), rfl, rfl⟩ (by repeat (first | exact SubD.refl _ | exact SubD.nil _ | refine SubD.cons (by repeat (first | with_reducible exact mem_head | apply mem_tail)) ?_ | apply SubD.skip)) (by repeat (first | exact Ent.refl _ | refine Fit.cons (by repeat (first | with_reducible exact Pull.here | apply Pull.there)) ?_ | apply Ent.skip))
  · try simp only [decide_eq_true_eq, decide_eq_false_iff_not, Bool.not_eq_true', Bool.not_eq_false', Bool.and_eq_true, Bool.or_eq_true] at h1
    refine L.guardF (dj := 17) (c := false) rfl rfl rfl rfl rfl (by decide) ?_
    refine L.guardF (dj := 17) (c := false) rfl rfl rfl rfl rfl (by decide) ?_
    refine L.guardF (dj := 17) (c := false) rfl rfl rfl rfl rfl (by decide) ?_
    refine L.pickF rfl rfl rfl ?_
    refine L.move rfl rfl ?_
    refine L.guardF (dj := 22) (c := false) rfl rfl rfl rfl rfl (by decide) ?_
    refine L.guardF (dj := 22) (c := false) rfl rfl rfl rfl rfl (by decide) ?_
    refine L.pickF rfl rfl rfl ?_
    refine L.assign rfl rfl ?_
    refine L.nil ?_
    refine T.thenN ?_
    refine T.seq ?_
    refine T.region ?_
    refine L.call rfl (evs.nil) (by repeat (first | exact SubD.refl _ | exact SubD.nil _ | refine SubD.cons (by repeat (first | with_reducible exact mem_head | apply mem_tail)) ?_ | apply SubD.skip)) (by repeat (first | exact Sel.nil | (apply Sel.cons; focus (repeat (first | with_reducible exact Pull.here | apply Pull.there))))) (awake_spec) ?_
    rintro _ _ _ ⟨rfl, rfl, rfl⟩
    refine L.norm (by repeat (first | with_reducible exact AppL.nil | apply AppL.cons)) (by repeat (first | with_reducible exact AppL.nil | apply AppL.cons)) ?_
    refine L.move rfl rfl ?_
    refine L.guardT (dj := 27) rfl rfl rfl ?_
    refine L.move rfl rfl ?_
    refine L.guardT (dj := 27) rfl rfl rfl ?_
    refine L.eqI rfl rfl rfl ?_
    refine L.guardT (dj := 27) rfl rfl rfl ?_
    refine L.move rfl rfl ?_
    refine L.guardT (dj := 27) rfl rfl rfl ?_
    refine L.eqlB Try.underlying4 rfl rfl rfl ?_
    refine L.pickT rfl rfl rfl ?_
    refine L.move rfl rfl ?_
    refine L.known (t := 33) rfl (show _ = Value.bool true from congrArg Value.bool (by first | rfl | decide | (rw [show decide (most ≤ 1048576) = false from decide_eq_false (by omega)]; done) | (rw [show decide (most ≤ 1048576) = false from decide_eq_false (by omega)]; rfl))) ?_
    refine L.guardT (dj := 33) rfl rfl rfl ?_
    refine L.move rfl rfl ?_
    refine L.guardT (dj := 33) rfl rfl rfl ?_
    refine L.neqPtr rfl Try.underlying26 rfl rfl ?_
    refine L.guardT (dj := 33) rfl rfl rfl ?_
    refine L.move rfl rfl ?_
    refine L.guardT (dj := 33) rfl rfl rfl ?_
    refine L.eqlB Try.underlying4 rfl rfl rfl ?_
    refine L.pickT rfl rfl rfl ?_
    refine L.move rfl rfl ?_
    refine L.known (t := 39) rfl (show _ = Value.bool true from congrArg Value.bool (by first | rfl | decide | (rw [show decide (most ≤ 1048576) = false from decide_eq_false (by omega)]; done) | (rw [show decide (most ≤ 1048576) = false from decide_eq_false (by omega)]; rfl))) ?_
    refine L.guardT (dj := 39) rfl rfl rfl ?_
    refine L.move rfl rfl ?_
    refine L.guardT (dj := 39) rfl rfl rfl ?_
    refine L.move rfl rfl ?_
    refine L.guardT (dj := 41) rfl rfl rfl ?_
    refine L.move rfl rfl ?_
    refine L.guardT (dj := 41) rfl rfl rfl ?_
    refine L.eqI rfl rfl rfl ?_
    refine L.guardT (dj := 39) rfl rfl rfl ?_
    refine L.pickF rfl rfl rfl ?_
    refine L.pickT rfl rfl rfl ?_
    refine L.assign rfl rfl ?_
    refine L.nil ?_
    refine T.thenN ?_
    refine T.ret ?_
    exact T.ret1 rfl rfl ⟨by first | rfl | exact congrArg Value.bool (by first | rfl | decide), rfl, rfl⟩ (by repeat (first | exact SubD.refl _ | exact SubD.nil _ | refine SubD.cons (by repeat (first | with_reducible exact mem_head | apply mem_tail)) ?_ | apply SubD.skip)) (by repeat (first | exact Ent.refl _ | refine Fit.cons (by repeat (first | with_reducible exact Pull.here | apply Pull.there)) ?_ | apply Ent.skip))
theorem bound_law (each most : Int) (a a' : Option Addr) (len cap len' cap' : Nat) (xs ys : List Int) (hx : xs.length = len) (hy : ys.length = len') (hb : len ≤ 4611686018427387904) (hb' : len' ≤ 4611686018427387904) : Spec Try.prog 4 [.int .i64 each, .int .i64 most, .slice a len cap, .slice a' len' cap'] [rsl 1 a len cap (xs.map e3), rsl 1 a' len' cap' (ys.map e3)] [] (fun v D' M' => v = .bool true ∧ D' = [] ∧ M' = []) := by
  refine Spec.intro (n := 92) Try.func4 rfl rfl (by decide) (Nat.le_of_ble_eq_true rfl) rfl (fun _ => (by repeat (first | with_reducible exact AppL.nil | apply AppL.cons))) (fun _ => (by repeat (first | with_reducible exact AppL.nil | apply AppL.cons))) ?_
  intro σ D M
  refine T.seq ?_
  refine T.region ?_
  refine L.assign rfl rfl ?_
  refine L.nil ?_
  refine T.thenN ?_
  refine T.seq ?_
  refine T.region ?_
  refine L.move rfl rfl ?_
  refine L.move rfl rfl ?_
  refine L.call rfl (evs.cons rfl <| evs.cons rfl <| evs.nil) (by repeat (first | exact SubD.refl _ | exact SubD.nil _ | refine SubD.cons (by repeat (first | with_reducible exact mem_head | apply mem_tail)) ?_ | apply SubD.skip)) (by repeat (first | exact Sel.nil | (apply Sel.cons; focus (repeat (first | with_reducible exact Pull.here | apply Pull.there))))) (rate_spec _ _) ?_
  rintro _ _ _ ⟨E, Mo, hE1, hE2, hE3, hE4, rfl, rfl, rfl⟩
  refine L.norm (by repeat (first | with_reducible exact AppL.nil | apply AppL.cons)) (by repeat (first | with_reducible exact AppL.nil | apply AppL.cons)) ?_
  refine L.alloc rfl ze24 (fun b1 => ?_)
  refine L.storeA ag24 rfl rfl rfl (by repeat (first | exact One.nil | refine One.cons rfl ?_ | assumption)) (by repeat (first | with_reducible exact Upd.here | apply Upd.there)) (by repeat (first | exact SetAt.here | exact SetAt.none | exact SetAt.whole rfl | apply SetAt.more | apply SetAt.there)) ?_
  refine L.nil ?_
  refine T.thenN ?_
  refine T.seq ?_
  refine T.region ?_
  refine L.loadA rfl ag24 rfl (by first | exact CellsN.ofM (by repeat (first | with_reducible exact mem_head | apply mem_tail)) (by repeat (first | exact AtN.nil | apply AtN.take | apply AtN.skip)) | exact CellsN.ofD (by repeat (first | with_reducible exact mem_head | apply mem_tail)) rfl | exact CellsN.ofF (by repeat (first | with_reducible exact mem_head | apply mem_tail)) (by repeat (first | exact AtN.nil | apply AtN.take | apply AtN.skip)) | exact CellsN.ofDs (by repeat (first | with_reducible exact mem_head | apply mem_tail)) (by repeat (first | exact AtN.nil | apply AtN.take | apply AtN.skip))) ?_
  refine L.call rfl (evs.cons rfl <| evs.nil) (by repeat (first | exact SubD.refl _ | exact SubD.nil _ | refine SubD.cons (by repeat (first | with_reducible exact mem_head | apply mem_tail)) ?_ | apply SubD.skip)) (by repeat (first | exact Sel.nil | (apply Sel.cons; focus (repeat (first | with_reducible exact Pull.here | apply Pull.there))))) (new_spec _ _ (by omega) (by omega) (by omega)) ?_
  rintro _ _ _ ⟨q, mb, rfl, rfl, rfl⟩
  refine L.norm (by repeat (first | with_reducible exact AppL.nil | apply AppL.cons)) (by repeat (first | with_reducible exact AppL.nil | apply AppL.cons)) ?_
  refine L.move rfl rfl ?_
  refine L.extract rfl rfl rfl ?_
  refine L.extract rfl rfl rfl ?_
  refine L.assign rfl rfl ?_
  refine L.assign rfl rfl ?_
  refine L.nil ?_
  refine T.thenN ?_
  refine T.seq ?_
  refine T.seq ?_
  refine T.region ?_
  refine L.call rfl (evs.nil) (by repeat (first | exact SubD.refl _ | exact SubD.nil _ | refine SubD.cons (by repeat (first | with_reducible exact mem_head | apply mem_tail)) ?_ | apply SubD.skip)) (by repeat (first | exact Sel.nil | (apply Sel.cons; focus (repeat (first | with_reducible exact Pull.here | apply Pull.there))))) (awake_spec) ?_
  rintro _ _ _ ⟨rfl, rfl, rfl⟩
  refine L.norm (by repeat (first | with_reducible exact AppL.nil | apply AppL.cons)) (by repeat (first | with_reducible exact AppL.nil | apply AppL.cons)) ?_
  refine L.notB rfl rfl ?_
  refine L.move rfl rfl ?_
  refine L.guardT (dj := 26) rfl rfl rfl ?_
  refine L.move rfl rfl ?_
  refine L.guardT (dj := 26) rfl rfl rfl ?_
  refine L.neI rfl rfl rfl ?_
  refine L.pickF rfl rfl rfl ?_
  refine L.nil ?_
  refine T.thenN ?_
  refine T.condF rfl rfl ?_
  refine T.skip ?_
  refine T.thenN ?_
  refine T.seq ?_
  refine T.region ?_
  refine L.assign rfl rfl ?_
  refine L.assign rfl rfl ?_
  refine L.nil ?_
  refine T.thenN ?_
  refine T.seq ?_
  refine T.seq ?_
  refine T.region ?_
  refine L.assign rfl rfl ?_
  refine L.nil ?_
  refine T.thenN ?_
  refine T.block ?_
  refine T.loop (fun K' D' M' m => ∃ (k : Nat) (l : List (Int × Int × Int)) (now got : Int), (k ≤ 60 ∧ BInv E Mo l (7 * k) now got) ∧ K' = [(14, .int .i64 k), (12, .int .i64 now), (13, .int .i64 got)] ∧ D' = [] ∧ M' = [cl q 46 [.int .i64 E, .int .i64 Mo, .map (some mb)], mp mb iK shV l] ∧ m = 60 - k) (.cons (t := 2) rfl <| .cons (t := 3) rfl <| .cons (t := 9) rfl <| .cons (t := 10) rfl <| SubK.nil _) (⟨0, [], 0, 0, ⟨by omega, binv_0 (by omega)⟩, rfl, rfl, rfl, rfl⟩) (.cons (t := 14) rfl <| .cons (t := 12) rfl <| .cons (t := 13) rfl <| SubK.nil _) (by repeat (first | exact SubD.refl _ | exact SubD.nil _ | refine SubD.cons (by repeat (first | with_reducible exact mem_head | apply mem_tail)) ?_ | apply SubD.skip)) (by repeat (first | exact Sel.nil | (apply Sel.cons; focus (repeat (first | with_reducible exact Pull.here | apply Pull.there))))) ?_
  rintro K1 D1 M1 m1 ⟨k, l, now, got, ⟨hk, hI⟩, rfl, rfl, rfl, rfl⟩
  refine T.norm3 (by repeat (first | with_reducible exact AppL.nil | apply AppL.cons)) (by repeat (first | with_reducible exact AppL.nil | apply AppL.cons)) (by repeat (first | with_reducible exact AppL.nil | apply AppL.cons)) ?_
  refine T.seq ?_
  refine T.seq ?_
  refine T.region ?_
  refine L.move rfl rfl ?_
  refine L.move rfl rfl ?_
  refine L.lenSl rfl Try.underlying41 rfl ?_
  refine L.ltI rfl rfl rfl ?_
  refine L.move rfl rfl ?_
  refine L.part (t := 34) rfl (fun h2 => ?_) (fun h2 => ?_)
  · try simp only [decide_eq_true_eq, decide_eq_false_iff_not, Bool.not_eq_true', Bool.not_eq_false', Bool.and_eq_true, Bool.or_eq_true] at h2
    refine L.guardT (dj := 34) rfl rfl rfl ?_
    refine L.move rfl rfl ?_
    refine L.guardT (dj := 34) rfl rfl rfl ?_
    refine L.ltI rfl rfl rfl ?_
    refine L.pickT rfl rfl rfl ?_
    refine L.nil ?_
    refine T.thenN ?_
    refine T.cond rfl (fun h3 => ?_) (fun h3 => ?_)
    · try simp only [decide_eq_true_eq, decide_eq_false_iff_not, Bool.not_eq_true', Bool.not_eq_false', Bool.and_eq_true, Bool.or_eq_true] at h3
      refine T.skip ?_
      refine T.thenN ?_
      refine T.seq ?_
      refine T.block ?_
      refine T.seq ?_
      refine T.seq ?_
      refine T.region ?_
      refine L.move rfl rfl ?_
      refine L.move rfl rfl ?_
      refine L.lenSl rfl Try.underlying41 rfl ?_
      refine L.ltI rfl rfl rfl ?_
      refine L.nil ?_
      refine T.thenN ?_
      refine T.cond rfl (fun h4 => ?_) (fun h4 => ?_)
      · try simp only [decide_eq_true_eq, decide_eq_false_iff_not, Bool.not_eq_true', Bool.not_eq_false', Bool.and_eq_true, Bool.or_eq_true] at h4
        refine T.region ?_
        refine L.move rfl rfl ?_
        refine L.move rfl rfl ?_
        refine L.move rfl rfl ?_
        obtain ⟨y, hyk⟩ := ex_get (l := ys) (k := k) (by omega)
        refine L.idx (i := k) rfl Try.underlying41 sz3 rfl rfl (by repeat (first | with_reducible exact mem_head | apply mem_tail)) rfl (show (ys.map e3)[k]? = some [Value.int .i64 y] from map_get hyk) (fun b o => ?_)
        refine L.load rfl sc3 rfl (by first | exact Cells.ofM (by repeat (first | with_reducible exact mem_head | apply mem_tail)) (by repeat (first | exact AtN.nil | apply AtN.take | apply AtN.skip)) | exact Cells.ofD (by repeat (first | with_reducible exact mem_head | apply mem_tail)) | exact Cells.ofF (by repeat (first | with_reducible exact mem_head | apply mem_tail)) (by repeat (first | exact AtN.nil | apply AtN.take | apply AtN.skip)) | exact Cells.ofDs (by repeat (first | with_reducible exact mem_head | apply mem_tail)) (by repeat (first | exact AtN.nil | apply AtN.take | apply AtN.skip))) ?_
        refine L.andM rfl rfl rfl (k := 3) (by decide) (by decide) ?_
        have hn1 := hI.nB
        have hn2 := hI.n0
        refine L.addN rfl rfl rfl (by omega) ?_
        refine L.assign rfl rfl ?_
        refine L.nil ?_
        obtain ⟨nw, hnw, hI2⟩ : ∃ nw, nw = now + y % (7 + 1) ∧ BInv E Mo l (7 * k + 7) nw got := ⟨_, rfl, binv_step hI (by omega) (by omega)⟩
        rw [← hnw]
        refine T.thenN ?_
        refine T.seq ?_
        refine T.region ?_
        refine L.move rfl rfl ?_
        refine L.move rfl rfl ?_
        obtain ⟨x, hxk⟩ := ex_get (l := xs) (k := k) (by omega)
        refine L.idx (i := k) rfl Try.underlying41 sz3 rfl rfl (by repeat (first | with_reducible exact mem_head | apply mem_tail)) rfl (show (xs.map e3)[k]? = some [Value.int .i64 x] from map_get hxk) (fun b o => ?_)
        refine L.load rfl sc3 rfl (by first | exact Cells.ofM (by repeat (first | with_reducible exact mem_head | apply mem_tail)) (by repeat (first | exact AtN.nil | apply AtN.take | apply AtN.skip)) | exact Cells.ofD (by repeat (first | with_reducible exact mem_head | apply mem_tail)) | exact Cells.ofF (by repeat (first | with_reducible exact mem_head | apply mem_tail)) (by repeat (first | exact AtN.nil | apply AtN.take | apply AtN.skip)) | exact Cells.ofDs (by repeat (first | with_reducible exact mem_head | apply mem_tail)) (by repeat (first | exact AtN.nil | apply AtN.take | apply AtN.skip))) ?_
        refine L.andM rfl rfl rfl (k := 8) (by decide) (by decide) ?_
        refine L.assign rfl rfl ?_
        refine L.nil ?_
        obtain ⟨c, hc1, hc2, hc3⟩ : ∃ c : Int, c = x % (255 + 1) ∧ 0 ≤ c ∧ c ≤ 255 := ⟨_, rfl, by omega, by omega⟩
        rw [← hc1]
        have hg := hI2.gB
        refine T.thenN ?_
        refine T.seq ?_
        refine T.seq ?_
        refine T.region ?_
        refine L.move rfl rfl ?_
        refine L.move rfl rfl ?_
        refine L.move rfl rfl ?_
        refine L.call rfl (evs.cons rfl <| evs.cons rfl <| evs.cons rfl <| evs.cons rfl <| evs.nil) (by repeat (first | exact SubD.refl _ | exact SubD.nil _ | refine SubD.cons (by repeat (first | with_reducible exact mem_head | apply mem_tail)) ?_ | apply SubD.skip)) (by repeat (first | exact Sel.nil | (apply Sel.cons; focus (repeat (first | with_reducible exact Pull.here | apply Pull.there))))) (take_spec hI2.q hI2.n0 hI2.big) ?_
        rintro _ _ _ ⟨rfl, rfl, rfl⟩
        refine L.norm (by repeat (first | with_reducible exact AppL.nil | apply AppL.cons)) (by repeat (first | with_reducible exact AppL.nil | apply AppL.cons)) ?_
        refine L.nil ?_
        refine T.thenN ?_
        refine T.cond rfl (fun h5 => ?_) (fun h5 => ?_)
        · try simp only [decide_eq_true_eq, decide_eq_false_iff_not, Bool.not_eq_true', Bool.not_eq_false', Bool.and_eq_true, Bool.or_eq_true] at h5
          have hJ := binv_yes hI2 hc2 h5
          refine T.region ?_
          refine L.move rfl rfl ?_
          refine L.move rfl rfl ?_
          refine L.addN rfl rfl rfl (by omega) ?_
          refine L.assign rfl rfl ?_
          refine L.nil ?_
          refine T.thenN ?_
          refine T.seq ?_
          have hJ1 := hJ.sum
          have hJ2 := hasF_bd (n := 5) hJ.q hJ.n0
          have hJ3 := hJ.mulb
          have hJ4 := hJ.nB
          refine T.regionQ (by kernel_rfl) (by kernel_rfl) ?_
          refine L.move rfl rfl ?_
          first | refine L.field0 rfl fo24_1 rfl ?_ | refine L.field rfl fo24_1 rfl ?_
          refine L.load rfl sc3 rfl (by first | exact Cells.ofM (by repeat (first | with_reducible exact mem_head | apply mem_tail)) (by repeat (first | exact AtN.nil | apply AtN.take | apply AtN.skip)) | exact Cells.ofD (by repeat (first | with_reducible exact mem_head | apply mem_tail)) | exact Cells.ofF (by repeat (first | with_reducible exact mem_head | apply mem_tail)) (by repeat (first | exact AtN.nil | apply AtN.take | apply AtN.skip)) | exact Cells.ofDs (by repeat (first | with_reducible exact mem_head | apply mem_tail)) (by repeat (first | exact AtN.nil | apply AtN.take | apply AtN.skip))) ?_
          refine L.move rfl rfl ?_
          first | refine L.field0 rfl fo24_0 rfl ?_ | refine L.field rfl fo24_0 rfl ?_
          refine L.load rfl sc3 rfl (by first | exact Cells.ofM (by repeat (first | with_reducible exact mem_head | apply mem_tail)) (by repeat (first | exact AtN.nil | apply AtN.take | apply AtN.skip)) | exact Cells.ofD (by repeat (first | with_reducible exact mem_head | apply mem_tail)) | exact Cells.ofF (by repeat (first | with_reducible exact mem_head | apply mem_tail)) (by repeat (first | exact AtN.nil | apply AtN.take | apply AtN.skip)) | exact Cells.ofDs (by repeat (first | with_reducible exact mem_head | apply mem_tail)) (by repeat (first | exact AtN.nil | apply AtN.take | apply AtN.skip))) ?_
          refine L.mulN rfl rfl rfl (by omega) ?_
          refine L.addN rfl rfl rfl (by omega) ?_
          refine L.gtI rfl rfl rfl ?_
          refine L.move rfl rfl ?_
          refine L.known (t := 72) rfl (show _ = Value.bool false from congrArg Value.bool (decide_eq_false (by omega))) ?_
          refine L.guardT (dj := 72) rfl rfl rfl ?_
          refine L.move rfl rfl ?_
          refine L.guardT (dj := 72) rfl rfl rfl ?_
          refine L.move rfl rfl ?_
          refine L.guardT (dj := 72) rfl rfl rfl ?_
          refine L.callF rfl (evs.cons rfl <| evs.cons rfl <| evs.cons rfl <| evs.nil) (by repeat (first | exact SubD.refl _ | exact SubD.nil _ | refine SubD.cons (by repeat (first | with_reducible exact mem_head | apply mem_tail)) ?_ | apply SubD.skip)) (by repeat (first | exact Sel.nil | (apply Sel.cons; focus (repeat (first | with_reducible exact Pull.here | apply Pull.there))))) (has_spec hJ.q hJ.n0 hJ.big) (by rintro u D1 M1 ⟨rfl, rfl, rfl⟩; exact ⟨rfl, _, (by repeat (first | with_reducible exact AppL.nil | apply AppL.cons)), (by repeat (first | exact Ent.refl _ | refine Fit.cons (by repeat (first | with_reducible exact Pull.here | apply Pull.there)) ?_ | apply Ent.skip))⟩) ?_
          refine L.guardT (dj := 72) rfl rfl rfl ?_
          refine L.ltI rfl rfl rfl ?_
          refine L.pickF rfl rfl rfl ?_
          refine L.move rfl rfl ?_
          refine L.known (t := 78) rfl (show _ = Value.bool false from congrArg Value.bool (decide_eq_false (by omega))) ?_
          refine L.guardT (dj := 78) rfl rfl rfl ?_
          refine L.move rfl rfl ?_
          refine L.guardT (dj := 78) rfl rfl rfl ?_
          refine L.move rfl rfl ?_
          refine L.guardT (dj := 78) rfl rfl rfl ?_
          refine L.callF rfl (evs.cons rfl <| evs.cons rfl <| evs.cons rfl <| evs.nil) (by repeat (first | exact SubD.refl _ | exact SubD.nil _ | refine SubD.cons (by repeat (first | with_reducible exact mem_head | apply mem_tail)) ?_ | apply SubD.skip)) (by repeat (first | exact Sel.nil | (apply Sel.cons; focus (repeat (first | with_reducible exact Pull.here | apply Pull.there))))) (has_spec hJ.q hJ.n0 hJ.big) (by rintro u D1 M1 ⟨rfl, rfl, rfl⟩; exact ⟨rfl, _, (by repeat (first | with_reducible exact AppL.nil | apply AppL.cons)), (by repeat (first | exact Ent.refl _ | refine Fit.cons (by repeat (first | with_reducible exact Pull.here | apply Pull.there)) ?_ | apply Ent.skip))⟩) ?_
          refine L.guardT (dj := 78) rfl rfl rfl ?_
          first | refine L.field0 rfl fo24_1 rfl ?_ | refine L.field rfl fo24_1 rfl ?_
          refine L.guardT (dj := 78) rfl rfl rfl ?_
          refine L.load rfl sc3 rfl (by first | exact Cells.ofM (by repeat (first | with_reducible exact mem_head | apply mem_tail)) (by repeat (first | exact AtN.nil | apply AtN.take | apply AtN.skip)) | exact Cells.ofD (by repeat (first | with_reducible exact mem_head | apply mem_tail)) | exact Cells.ofF (by repeat (first | with_reducible exact mem_head | apply mem_tail)) (by repeat (first | exact AtN.nil | apply AtN.take | apply AtN.skip)) | exact Cells.ofDs (by repeat (first | with_reducible exact mem_head | apply mem_tail)) (by repeat (first | exact AtN.nil | apply AtN.take | apply AtN.skip))) ?_
          refine L.guardT (dj := 78) rfl rfl rfl ?_
          refine L.gtI rfl rfl rfl ?_
          refine L.pickF rfl rfl rfl ?_
          refine L.nilQ ?_
          refine T.thenN ?_
          refine T.condF rfl (decide_eq_false (by omega)) ?_
          refine T.skip ?_
          refine T.blkN ?_
          refine T.thenN ?_
          refine T.region ?_
          refine L.move rfl rfl ?_
          refine L.addN rfl rfl rfl (by omega) ?_
          refine L.assign rfl rfl ?_
          refine L.nil ?_
          refine T.thenN ?_
          exact T.back ⟨k + 1, _, _, _, ⟨by omega, hJ.up (by omega)⟩, rfl, rfl, rfl, rfl⟩ (by omega) (.cons (t := 14) rfl <| .cons (t := 12) rfl <| .cons (t := 13) rfl <| SubK.nil _) (.cons (t := 2) rfl <| .cons (t := 3) rfl <| .cons (t := 9) rfl <| .cons (t := 10) rfl <| SubK.nil _) (by repeat (first | exact SubD.refl _ | exact SubD.nil _ | refine SubD.cons (by repeat (first | with_reducible exact mem_head | apply mem_tail)) ?_ | apply SubD.skip)) (by repeat (first | exact SubD.refl _ | exact SubD.nil _ | refine SubD.cons (by repeat (first | with_reducible exact mem_head | apply mem_tail)) ?_ | apply SubD.skip)) (by repeat (first | exact Ent.refl _ | refine Fit.cons (by repeat (first | with_reducible exact Pull.here | apply Pull.there)) ?_ | apply Ent.skip))
        · try simp only [decide_eq_true_eq, decide_eq_false_iff_not, Bool.not_eq_true', Bool.not_eq_false', Bool.and_eq_true, Bool.or_eq_true] at h5
          have hJ := binv_no hI2 h5
          refine T.skip ?_
          refine T.thenN ?_
          refine T.seq ?_
          have hJ1 := hJ.sum
          have hJ2 := hasF_bd (n := 5) hJ.q hJ.n0
          have hJ3 := hJ.mulb
          have hJ4 := hJ.nB
          refine T.regionQ (by kernel_rfl) (by kernel_rfl) ?_
          refine L.move rfl rfl ?_
          first | refine L.field0 rfl fo24_1 rfl ?_ | refine L.field rfl fo24_1 rfl ?_
          refine L.load rfl sc3 rfl (by first | exact Cells.ofM (by repeat (first | with_reducible exact mem_head | apply mem_tail)) (by repeat (first | exact AtN.nil | apply AtN.take | apply AtN.skip)) | exact Cells.ofD (by repeat (first | with_reducible exact mem_head | apply mem_tail)) | exact Cells.ofF (by repeat (first | with_reducible exact mem_head | apply mem_tail)) (by repeat (first | exact AtN.nil | apply AtN.take | apply AtN.skip)) | exact Cells.ofDs (by repeat (first | with_reducible exact mem_head | apply mem_tail)) (by repeat (first | exact AtN.nil | apply AtN.take | apply AtN.skip))) ?_
          refine L.move rfl rfl ?_
          first | refine L.field0 rfl fo24_0 rfl ?_ | refine L.field rfl fo24_0 rfl ?_
          refine L.load rfl sc3 rfl (by first | exact Cells.ofM (by repeat (first | with_reducible exact mem_head | apply mem_tail)) (by repeat (first | exact AtN.nil | apply AtN.take | apply AtN.skip)) | exact Cells.ofD (by repeat (first | with_reducible exact mem_head | apply mem_tail)) | exact Cells.ofF (by repeat (first | with_reducible exact mem_head | apply mem_tail)) (by repeat (first | exact AtN.nil | apply AtN.take | apply AtN.skip)) | exact Cells.ofDs (by repeat (first | with_reducible exact mem_head | apply mem_tail)) (by repeat (first | exact AtN.nil | apply AtN.take | apply AtN.skip))) ?_
          refine L.mulN rfl rfl rfl (by omega) ?_
          refine L.addN rfl rfl rfl (by omega) ?_
          refine L.gtI rfl rfl rfl ?_
          refine L.move rfl rfl ?_
          refine L.known (t := 72) rfl (show _ = Value.bool false from congrArg Value.bool (decide_eq_false (by omega))) ?_
          refine L.guardT (dj := 72) rfl rfl rfl ?_
          refine L.move rfl rfl ?_
          refine L.guardT (dj := 72) rfl rfl rfl ?_
          refine L.move rfl rfl ?_
          refine L.guardT (dj := 72) rfl rfl rfl ?_
          refine L.callF rfl (evs.cons rfl <| evs.cons rfl <| evs.cons rfl <| evs.nil) (by repeat (first | exact SubD.refl _ | exact SubD.nil _ | refine SubD.cons (by repeat (first | with_reducible exact mem_head | apply mem_tail)) ?_ | apply SubD.skip)) (by repeat (first | exact Sel.nil | (apply Sel.cons; focus (repeat (first | with_reducible exact Pull.here | apply Pull.there))))) (has_spec hJ.q hJ.n0 hJ.big) (by rintro u D1 M1 ⟨rfl, rfl, rfl⟩; exact ⟨rfl, _, (by repeat (first | with_reducible exact AppL.nil | apply AppL.cons)), (by repeat (first | exact Ent.refl _ | refine Fit.cons (by repeat (first | with_reducible exact Pull.here | apply Pull.there)) ?_ | apply Ent.skip))⟩) ?_
          refine L.guardT (dj := 72) rfl rfl rfl ?_
          refine L.ltI rfl rfl rfl ?_
          refine L.pickF rfl rfl rfl ?_
          refine L.move rfl rfl ?_
          refine L.known (t := 78) rfl (show _ = Value.bool false from congrArg Value.bool (decide_eq_false (by omega))) ?_
          refine L.guardT (dj := 78) rfl rfl rfl ?_
          refine L.move rfl rfl ?_
          refine L.guardT (dj := 78) rfl rfl rfl ?_
          refine L.move rfl rfl ?_
          refine L.guardT (dj := 78) rfl rfl rfl ?_
          refine L.callF rfl (evs.cons rfl <| evs.cons rfl <| evs.cons rfl <| evs.nil) (by repeat (first | exact SubD.refl _ | exact SubD.nil _ | refine SubD.cons (by repeat (first | with_reducible exact mem_head | apply mem_tail)) ?_ | apply SubD.skip)) (by repeat (first | exact Sel.nil | (apply Sel.cons; focus (repeat (first | with_reducible exact Pull.here | apply Pull.there))))) (has_spec hJ.q hJ.n0 hJ.big) (by rintro u D1 M1 ⟨rfl, rfl, rfl⟩; exact ⟨rfl, _, (by repeat (first | with_reducible exact AppL.nil | apply AppL.cons)), (by repeat (first | exact Ent.refl _ | refine Fit.cons (by repeat (first | with_reducible exact Pull.here | apply Pull.there)) ?_ | apply Ent.skip))⟩) ?_
          refine L.guardT (dj := 78) rfl rfl rfl ?_
          first | refine L.field0 rfl fo24_1 rfl ?_ | refine L.field rfl fo24_1 rfl ?_
          refine L.guardT (dj := 78) rfl rfl rfl ?_
          refine L.load rfl sc3 rfl (by first | exact Cells.ofM (by repeat (first | with_reducible exact mem_head | apply mem_tail)) (by repeat (first | exact AtN.nil | apply AtN.take | apply AtN.skip)) | exact Cells.ofD (by repeat (first | with_reducible exact mem_head | apply mem_tail)) | exact Cells.ofF (by repeat (first | with_reducible exact mem_head | apply mem_tail)) (by repeat (first | exact AtN.nil | apply AtN.take | apply AtN.skip)) | exact Cells.ofDs (by repeat (first | with_reducible exact mem_head | apply mem_tail)) (by repeat (first | exact AtN.nil | apply AtN.take | apply AtN.skip))) ?_
          refine L.guardT (dj := 78) rfl rfl rfl ?_
          refine L.gtI rfl rfl rfl ?_
          refine L.pickF rfl rfl rfl ?_
          refine L.nilQ ?_
          refine T.thenN ?_
          refine T.condF rfl (decide_eq_false (by omega)) ?_
          refine T.skip ?_
          refine T.blkN ?_
          refine T.thenN ?_
          refine T.region ?_
          refine L.move rfl rfl ?_
          refine L.addN rfl rfl rfl (by omega) ?_
          refine L.assign rfl rfl ?_
          refine L.nil ?_
          refine T.thenN ?_
          exact T.back ⟨k + 1, _, _, _, ⟨by omega, hJ.up (by omega)⟩, rfl, rfl, rfl, rfl⟩ (by omega) (.cons (t := 14) rfl <| .cons (t := 12) rfl <| .cons (t := 13) rfl <| SubK.nil _) (.cons (t := 2) rfl <| .cons (t := 3) rfl <| .cons (t := 9) rfl <| .cons (t := 10) rfl <| SubK.nil _) (by repeat (first | exact SubD.refl _ | exact SubD.nil _ | refine SubD.cons (by repeat (first | with_reducible exact mem_head | apply mem_tail)) ?_ | apply SubD.skip)) (by repeat (first | exact SubD.refl _ | exact SubD.nil _ | refine SubD.cons (by repeat (first | with_reducible exact mem_head | apply mem_tail)) ?_ | apply SubD.skip)) (by repeat (first | exact Ent.refl _ | refine Fit.cons (by repeat (first | with_reducible exact Pull.here | apply Pull.there)) ?_ | apply Ent.skip))
      · try simp only [decide_eq_true_eq, decide_eq_false_iff_not, Bool.not_eq_true', Bool.not_eq_false', Bool.and_eq_true, Bool.or_eq_true] at h4
        obtain ⟨nw, hnw, hI2⟩ : ∃ nw, nw = now ∧ BInv E Mo l (7 * k + 7) nw got := ⟨_, rfl, binv_step hI (by omega) (by omega)⟩
        rw [← hnw]
        refine T.skip ?_
        refine T.thenN ?_
        refine T.seq ?_
        refine T.region ?_
        refine L.move rfl rfl ?_
        refine L.move rfl rfl ?_
        obtain ⟨x, hxk⟩ := ex_get (l := xs) (k := k) (by omega)
        refine L.idx (i := k) rfl Try.underlying41 sz3 rfl rfl (by repeat (first | with_reducible exact mem_head | apply mem_tail)) rfl (show (xs.map e3)[k]? = some [Value.int .i64 x] from map_get hxk) (fun b o => ?_)
        refine L.load rfl sc3 rfl (by first | exact Cells.ofM (by repeat (first | with_reducible exact mem_head | apply mem_tail)) (by repeat (first | exact AtN.nil | apply AtN.take | apply AtN.skip)) | exact Cells.ofD (by repeat (first | with_reducible exact mem_head | apply mem_tail)) | exact Cells.ofF (by repeat (first | with_reducible exact mem_head | apply mem_tail)) (by repeat (first | exact AtN.nil | apply AtN.take | apply AtN.skip)) | exact Cells.ofDs (by repeat (first | with_reducible exact mem_head | apply mem_tail)) (by repeat (first | exact AtN.nil | apply AtN.take | apply AtN.skip))) ?_
        refine L.andM rfl rfl rfl (k := 8) (by decide) (by decide) ?_
        refine L.assign rfl rfl ?_
        refine L.nil ?_
        obtain ⟨c, hc1, hc2, hc3⟩ : ∃ c : Int, c = x % (255 + 1) ∧ 0 ≤ c ∧ c ≤ 255 := ⟨_, rfl, by omega, by omega⟩
        rw [← hc1]
        have hg := hI2.gB
        refine T.thenN ?_
        refine T.seq ?_
        refine T.seq ?_
        refine T.region ?_
        refine L.move rfl rfl ?_
        refine L.move rfl rfl ?_
        refine L.move rfl rfl ?_
        refine L.call rfl (evs.cons rfl <| evs.cons rfl <| evs.cons rfl <| evs.cons rfl <| evs.nil) (by repeat (first | exact SubD.refl _ | exact SubD.nil _ | refine SubD.cons (by repeat (first | with_reducible exact mem_head | apply mem_tail)) ?_ | apply SubD.skip)) (by repeat (first | exact Sel.nil | (apply Sel.cons; focus (repeat (first | with_reducible exact Pull.here | apply Pull.there))))) (take_spec hI2.q hI2.n0 hI2.big) ?_
        rintro _ _ _ ⟨rfl, rfl, rfl⟩
        refine L.norm (by repeat (first | with_reducible exact AppL.nil | apply AppL.cons)) (by repeat (first | with_reducible exact AppL.nil | apply AppL.cons)) ?_
        refine L.nil ?_
        refine T.thenN ?_
        refine T.cond rfl (fun h6 => ?_) (fun h6 => ?_)
        · try simp only [decide_eq_true_eq, decide_eq_false_iff_not, Bool.not_eq_true', Bool.not_eq_false', Bool.and_eq_true, Bool.or_eq_true] at h6
          have hJ := binv_yes hI2 hc2 h6
          refine T.region ?_
          refine L.move rfl rfl ?_
          refine L.move rfl rfl ?_
          refine L.addN rfl rfl rfl (by omega) ?_
          refine L.assign rfl rfl ?_
          refine L.nil ?_
          refine T.thenN ?_
          refine T.seq ?_
          have hJ1 := hJ.sum
          have hJ2 := hasF_bd (n := 5) hJ.q hJ.n0
          have hJ3 := hJ.mulb
          have hJ4 := hJ.nB
          refine T.regionQ (by kernel_rfl) (by kernel_rfl) ?_
          refine L.move rfl rfl ?_
          first | refine L.field0 rfl fo24_1 rfl ?_ | refine L.field rfl fo24_1 rfl ?_
          refine L.load rfl sc3 rfl (by first | exact Cells.ofM (by repeat (first | with_reducible exact mem_head | apply mem_tail)) (by repeat (first | exact AtN.nil | apply AtN.take | apply AtN.skip)) | exact Cells.ofD (by repeat (first | with_reducible exact mem_head | apply mem_tail)) | exact Cells.ofF (by repeat (first | with_reducible exact mem_head | apply mem_tail)) (by repeat (first | exact AtN.nil | apply AtN.take | apply AtN.skip)) | exact Cells.ofDs (by repeat (first | with_reducible exact mem_head | apply mem_tail)) (by repeat (first | exact AtN.nil | apply AtN.take | apply AtN.skip))) ?_
          refine L.move rfl rfl ?_
          first | refine L.field0 rfl fo24_0 rfl ?_ | refine L.field rfl fo24_0 rfl ?_
          refine L.load rfl sc3 rfl (by first | exact Cells.ofM (by repeat (first | with_reducible exact mem_head | apply mem_tail)) (by repeat (first | exact AtN.nil | apply AtN.take | apply AtN.skip)) | exact Cells.ofD (by repeat (first | with_reducible exact mem_head | apply mem_tail)) | exact Cells.ofF (by repeat (first | with_reducible exact mem_head | apply mem_tail)) (by repeat (first | exact AtN.nil | apply AtN.take | apply AtN.skip)) | exact Cells.ofDs (by repeat (first | with_reducible exact mem_head | apply mem_tail)) (by repeat (first | exact AtN.nil | apply AtN.take | apply AtN.skip))) ?_
          refine L.mulN rfl rfl rfl (by omega) ?_
          refine L.addN rfl rfl rfl (by omega) ?_
          refine L.gtI rfl rfl rfl ?_
          refine L.move rfl rfl ?_
          refine L.known (t := 72) rfl (show _ = Value.bool false from congrArg Value.bool (decide_eq_false (by omega))) ?_
          refine L.guardT (dj := 72) rfl rfl rfl ?_
          refine L.move rfl rfl ?_
          refine L.guardT (dj := 72) rfl rfl rfl ?_
          refine L.move rfl rfl ?_
          refine L.guardT (dj := 72) rfl rfl rfl ?_
          refine L.callF rfl (evs.cons rfl <| evs.cons rfl <| evs.cons rfl <| evs.nil) (by repeat (first | exact SubD.refl _ | exact SubD.nil _ | refine SubD.cons (by repeat (first | with_reducible exact mem_head | apply mem_tail)) ?_ | apply SubD.skip)) (by repeat (first | exact Sel.nil | (apply Sel.cons; focus (repeat (first | with_reducible exact Pull.here | apply Pull.there))))) (has_spec hJ.q hJ.n0 hJ.big) (by rintro u D1 M1 ⟨rfl, rfl, rfl⟩; exact ⟨rfl, _, (by repeat (first | with_reducible exact AppL.nil | apply AppL.cons)), (by repeat (first | exact Ent.refl _ | refine Fit.cons (by repeat (first | with_reducible exact Pull.here | apply Pull.there)) ?_ | apply Ent.skip))⟩) ?_
          refine L.guardT (dj := 72) rfl rfl rfl ?_
          refine L.ltI rfl rfl rfl ?_
          refine L.pickF rfl rfl rfl ?_
          refine L.move rfl rfl ?_
          refine L.known (t := 78) rfl (show _ = Value.bool false from congrArg Value.bool (decide_eq_false (by omega))) ?_
          refine L.guardT (dj := 78) rfl rfl rfl ?_
          refine L.move rfl rfl ?_
          refine L.guardT (dj := 78) rfl rfl rfl ?_
          refine L.move rfl rfl ?_
          refine L.guardT (dj := 78) rfl rfl rfl ?_
          refine L.callF rfl (evs.cons rfl <| evs.cons rfl <| evs.cons rfl <| evs.nil) (by repeat (first | exact SubD.refl _ | exact SubD.nil _ | refine SubD.cons (by repeat (first | with_reducible exact mem_head | apply mem_tail)) ?_ | apply SubD.skip)) (by repeat (first | exact Sel.nil | (apply Sel.cons; focus (repeat (first | with_reducible exact Pull.here | apply Pull.there))))) (has_spec hJ.q hJ.n0 hJ.big) (by rintro u D1 M1 ⟨rfl, rfl, rfl⟩; exact ⟨rfl, _, (by repeat (first | with_reducible exact AppL.nil | apply AppL.cons)), (by repeat (first | exact Ent.refl _ | refine Fit.cons (by repeat (first | with_reducible exact Pull.here | apply Pull.there)) ?_ | apply Ent.skip))⟩) ?_
          refine L.guardT (dj := 78) rfl rfl rfl ?_
          first | refine L.field0 rfl fo24_1 rfl ?_ | refine L.field rfl fo24_1 rfl ?_
          refine L.guardT (dj := 78) rfl rfl rfl ?_
          refine L.load rfl sc3 rfl (by first | exact Cells.ofM (by repeat (first | with_reducible exact mem_head | apply mem_tail)) (by repeat (first | exact AtN.nil | apply AtN.take | apply AtN.skip)) | exact Cells.ofD (by repeat (first | with_reducible exact mem_head | apply mem_tail)) | exact Cells.ofF (by repeat (first | with_reducible exact mem_head | apply mem_tail)) (by repeat (first | exact AtN.nil | apply AtN.take | apply AtN.skip)) | exact Cells.ofDs (by repeat (first | with_reducible exact mem_head | apply mem_tail)) (by repeat (first | exact AtN.nil | apply AtN.take | apply AtN.skip))) ?_
          refine L.guardT (dj := 78) rfl rfl rfl ?_
          refine L.gtI rfl rfl rfl ?_
          refine L.pickF rfl rfl rfl ?_
          refine L.nilQ ?_
          refine T.thenN ?_
          refine T.condF rfl (decide_eq_false (by omega)) ?_
          refine T.skip ?_
          refine T.blkN ?_
          refine T.thenN ?_
          refine T.region ?_
          refine L.move rfl rfl ?_
          refine L.addN rfl rfl rfl (by omega) ?_
          refine L.assign rfl rfl ?_
          refine L.nil ?_
          refine T.thenN ?_
          exact T.back ⟨k + 1, _, _, _, ⟨by omega, hJ.up (by omega)⟩, rfl, rfl, rfl, rfl⟩ (by omega) (.cons (t := 14) rfl <| .cons (t := 12) rfl <| .cons (t := 13) rfl <| SubK.nil _) (.cons (t := 2) rfl <| .cons (t := 3) rfl <| .cons (t := 9) rfl <| .cons (t := 10) rfl <| SubK.nil _) (by repeat (first | exact SubD.refl _ | exact SubD.nil _ | refine SubD.cons (by repeat (first | with_reducible exact mem_head | apply mem_tail)) ?_ | apply SubD.skip)) (by repeat (first | exact SubD.refl _ | exact SubD.nil _ | refine SubD.cons (by repeat (first | with_reducible exact mem_head | apply mem_tail)) ?_ | apply SubD.skip)) (by repeat (first | exact Ent.refl _ | refine Fit.cons (by repeat (first | with_reducible exact Pull.here | apply Pull.there)) ?_ | apply Ent.skip))
        · try simp only [decide_eq_true_eq, decide_eq_false_iff_not, Bool.not_eq_true', Bool.not_eq_false', Bool.and_eq_true, Bool.or_eq_true] at h6
          have hJ := binv_no hI2 h6
          refine T.skip ?_
          refine T.thenN ?_
          refine T.seq ?_
          have hJ1 := hJ.sum
          have hJ2 := hasF_bd (n := 5) hJ.q hJ.n0
          have hJ3 := hJ.mulb
          have hJ4 := hJ.nB
          refine T.regionQ (by kernel_rfl) (by kernel_rfl) ?_
          refine L.move rfl rfl ?_
          first | refine L.field0 rfl fo24_1 rfl ?_ | refine L.field rfl fo24_1 rfl ?_
          refine L.load rfl sc3 rfl (by first | exact Cells.ofM (by repeat (first | with_reducible exact mem_head | apply mem_tail)) (by repeat (first | exact AtN.nil | apply AtN.take | apply AtN.skip)) | exact Cells.ofD (by repeat (first | with_reducible exact mem_head | apply mem_tail)) | exact Cells.ofF (by repeat (first | with_reducible exact mem_head | apply mem_tail)) (by repeat (first | exact AtN.nil | apply AtN.take | apply AtN.skip)) | exact Cells.ofDs (by repeat (first | with_reducible exact mem_head | apply mem_tail)) (by repeat (first | exact AtN.nil | apply AtN.take | apply AtN.skip))) ?_
          refine L.move rfl rfl ?_
          first | refine L.field0 rfl fo24_0 rfl ?_ | refine L.field rfl fo24_0 rfl ?_
          refine L.load rfl sc3 rfl (by first | exact Cells.ofM (by repeat (first | with_reducible exact mem_head | apply mem_tail)) (by repeat (first | exact AtN.nil | apply AtN.take | apply AtN.skip)) | exact Cells.ofD (by repeat (first | with_reducible exact mem_head | apply mem_tail)) | exact Cells.ofF (by repeat (first | with_reducible exact mem_head | apply mem_tail)) (by repeat (first | exact AtN.nil | apply AtN.take | apply AtN.skip)) | exact Cells.ofDs (by repeat (first | with_reducible exact mem_head | apply mem_tail)) (by repeat (first | exact AtN.nil | apply AtN.take | apply AtN.skip))) ?_
          refine L.mulN rfl rfl rfl (by omega) ?_
          refine L.addN rfl rfl rfl (by omega) ?_
          refine L.gtI rfl rfl rfl ?_
          refine L.move rfl rfl ?_
          refine L.known (t := 72) rfl (show _ = Value.bool false from congrArg Value.bool (decide_eq_false (by omega))) ?_
          refine L.guardT (dj := 72) rfl rfl rfl ?_
          refine L.move rfl rfl ?_
          refine L.guardT (dj := 72) rfl rfl rfl ?_
          refine L.move rfl rfl ?_
          refine L.guardT (dj := 72) rfl rfl rfl ?_
          refine L.callF rfl (evs.cons rfl <| evs.cons rfl <| evs.cons rfl <| evs.nil) (by repeat (first | exact SubD.refl _ | exact SubD.nil _ | refine SubD.cons (by repeat (first | with_reducible exact mem_head | apply mem_tail)) ?_ | apply SubD.skip)) (by repeat (first | exact Sel.nil | (apply Sel.cons; focus (repeat (first | with_reducible exact Pull.here | apply Pull.there))))) (has_spec hJ.q hJ.n0 hJ.big) (by rintro u D1 M1 ⟨rfl, rfl, rfl⟩; exact ⟨rfl, _, (by repeat (first | with_reducible exact AppL.nil | apply AppL.cons)), (by repeat (first | exact Ent.refl _ | refine Fit.cons (by repeat (first | with_reducible exact Pull.here | apply Pull.there)) ?_ | apply Ent.skip))⟩) ?_
          refine L.guardT (dj := 72) rfl rfl rfl ?_
          refine L.ltI rfl rfl rfl ?_
          refine L.pickF rfl rfl rfl ?_
          refine L.move rfl rfl ?_
          refine L.known (t := 78) rfl (show _ = Value.bool false from congrArg Value.bool (decide_eq_false (by omega))) ?_
          refine L.guardT (dj := 78) rfl rfl rfl ?_
          refine L.move rfl rfl ?_
          refine L.guardT (dj := 78) rfl rfl rfl ?_
          refine L.move rfl rfl ?_
          refine L.guardT (dj := 78) rfl rfl rfl ?_
          refine L.callF rfl (evs.cons rfl <| evs.cons rfl <| evs.cons rfl <| evs.nil) (by repeat (first | exact SubD.refl _ | exact SubD.nil _ | refine SubD.cons (by repeat (first | with_reducible exact mem_head | apply mem_tail)) ?_ | apply SubD.skip)) (by repeat (first | exact Sel.nil | (apply Sel.cons; focus (repeat (first | with_reducible exact Pull.here | apply Pull.there))))) (has_spec hJ.q hJ.n0 hJ.big) (by rintro u D1 M1 ⟨rfl, rfl, rfl⟩; exact ⟨rfl, _, (by repeat (first | with_reducible exact AppL.nil | apply AppL.cons)), (by repeat (first | exact Ent.refl _ | refine Fit.cons (by repeat (first | with_reducible exact Pull.here | apply Pull.there)) ?_ | apply Ent.skip))⟩) ?_
          refine L.guardT (dj := 78) rfl rfl rfl ?_
          first | refine L.field0 rfl fo24_1 rfl ?_ | refine L.field rfl fo24_1 rfl ?_
          refine L.guardT (dj := 78) rfl rfl rfl ?_
          refine L.load rfl sc3 rfl (by first | exact Cells.ofM (by repeat (first | with_reducible exact mem_head | apply mem_tail)) (by repeat (first | exact AtN.nil | apply AtN.take | apply AtN.skip)) | exact Cells.ofD (by repeat (first | with_reducible exact mem_head | apply mem_tail)) | exact Cells.ofF (by repeat (first | with_reducible exact mem_head | apply mem_tail)) (by repeat (first | exact AtN.nil | apply AtN.take | apply AtN.skip)) | exact Cells.ofDs (by repeat (first | with_reducible exact mem_head | apply mem_tail)) (by repeat (first | exact AtN.nil | apply AtN.take | apply AtN.skip))) ?_
          refine L.guardT (dj := 78) rfl rfl rfl ?_
          refine L.gtI rfl rfl rfl ?_
          refine L.pickF rfl rfl rfl ?_
          refine L.nilQ ?_
          refine T.thenN ?_
          refine T.condF rfl (decide_eq_false (by omega)) ?_
          refine T.skip ?_
          refine T.blkN ?_
          refine T.thenN ?_
          refine T.region ?_
          refine L.move rfl rfl ?_
          refine L.addN rfl rfl rfl (by omega) ?_
          refine L.assign rfl rfl ?_
          refine L.nil ?_
          refine T.thenN ?_
          exact T.back ⟨k + 1, _, _, _, ⟨by omega, hJ.up (by omega)⟩, rfl, rfl, rfl, rfl⟩ (by omega) (.cons (t := 14) rfl <| .cons (t := 12) rfl <| .cons (t := 13) rfl <| SubK.nil _) (.cons (t := 2) rfl <| .cons (t := 3) rfl <| .cons (t := 9) rfl <| .cons (t := 10) rfl <| SubK.nil _) (by repeat (first | exact SubD.refl _ | exact SubD.nil _ | refine SubD.cons (by repeat (first | with_reducible exact mem_head | apply mem_tail)) ?_ | apply SubD.skip)) (by repeat (first | exact SubD.refl _ | exact SubD.nil _ | refine SubD.cons (by repeat (first | with_reducible exact mem_head | apply mem_tail)) ?_ | apply SubD.skip)) (by repeat (first | exact Ent.refl _ | refine Fit.cons (by repeat (first | with_reducible exact Pull.here | apply Pull.there)) ?_ | apply Ent.skip))
    · try simp only [decide_eq_true_eq, decide_eq_false_iff_not, Bool.not_eq_true', Bool.not_eq_false', Bool.and_eq_true, Bool.or_eq_true] at h3
      refine T.exit ?_
      refine T.thenX ?_
      refine T.thenX ?_
      refine T.blkX ?_
      refine T.thenN ?_
      refine T.seq ?_
      refine T.regionQ (by kernel_rfl) (by kernel_rfl) ?_
      refine L.move rfl rfl ?_
      refine L.move rfl rfl ?_
      refine L.callF rfl (evs.cons rfl <| evs.cons rfl <| evs.cons rfl <| evs.nil) (by repeat (first | exact SubD.refl _ | exact SubD.nil _ | refine SubD.cons (by repeat (first | with_reducible exact mem_head | apply mem_tail)) ?_ | apply SubD.skip)) (by repeat (first | exact Sel.nil | (apply Sel.cons; focus (repeat (first | with_reducible exact Pull.here | apply Pull.there))))) (has_spec hI.q hI.n0 hI.big) (by rintro u D1 M1 ⟨rfl, rfl, rfl⟩; exact ⟨rfl, _, (by repeat (first | with_reducible exact AppL.nil | apply AppL.cons)), (by repeat (first | exact Ent.refl _ | refine Fit.cons (by repeat (first | with_reducible exact Pull.here | apply Pull.there)) ?_ | apply Ent.skip))⟩) ?_
      first | refine L.field0 rfl fo24_1 rfl ?_ | refine L.field rfl fo24_1 rfl ?_
      refine L.load rfl sc3 rfl (by first | exact Cells.ofM (by repeat (first | with_reducible exact mem_head | apply mem_tail)) (by repeat (first | exact AtN.nil | apply AtN.take | apply AtN.skip)) | exact Cells.ofD (by repeat (first | with_reducible exact mem_head | apply mem_tail)) | exact Cells.ofF (by repeat (first | with_reducible exact mem_head | apply mem_tail)) (by repeat (first | exact AtN.nil | apply AtN.take | apply AtN.skip)) | exact Cells.ofDs (by repeat (first | with_reducible exact mem_head | apply mem_tail)) (by repeat (first | exact AtN.nil | apply AtN.take | apply AtN.skip))) ?_
      refine L.eqI rfl rfl rfl ?_
      refine L.assign rfl rfl ?_
      refine L.nilQ ?_
      refine T.thenN ?_
      refine T.ret ?_
      exact T.ret1 rfl rfl ⟨congrArg Value.bool (decide_eq_true (by simp [hasF, hI.six])), rfl, rfl⟩ (by repeat (first | exact SubD.refl _ | exact SubD.nil _ | refine SubD.cons (by repeat (first | with_reducible exact mem_head | apply mem_tail)) ?_ | apply SubD.skip)) (by repeat (first | exact Ent.refl _ | refine Fit.cons (by repeat (first | with_reducible exact Pull.here | apply Pull.there)) ?_ | apply Ent.skip))
  · try simp only [decide_eq_true_eq, decide_eq_false_iff_not, Bool.not_eq_true', Bool.not_eq_false', Bool.and_eq_true, Bool.or_eq_true] at h2
    refine L.guardF (dj := 34) (c := false) rfl rfl rfl rfl rfl (by decide) ?_
    refine L.guardF (dj := 34) (c := false) rfl rfl rfl rfl rfl (by decide) ?_
    refine L.pickF rfl rfl rfl ?_
    refine L.nil ?_
    refine T.thenN ?_
    refine T.condF rfl rfl ?_
    refine T.exit ?_
    refine T.thenX ?_
    refine T.thenX ?_
    refine T.blkX ?_
    refine T.thenN ?_
    refine T.seq ?_
    refine T.regionQ (by kernel_rfl) (by kernel_rfl) ?_
    refine L.move rfl rfl ?_
    refine L.move rfl rfl ?_
    refine L.callF rfl (evs.cons rfl <| evs.cons rfl <| evs.cons rfl <| evs.nil) (by repeat (first | exact SubD.refl _ | exact SubD.nil _ | refine SubD.cons (by repeat (first | with_reducible exact mem_head | apply mem_tail)) ?_ | apply SubD.skip)) (by repeat (first | exact Sel.nil | (apply Sel.cons; focus (repeat (first | with_reducible exact Pull.here | apply Pull.there))))) (has_spec hI.q hI.n0 hI.big) (by rintro u D1 M1 ⟨rfl, rfl, rfl⟩; exact ⟨rfl, _, (by repeat (first | with_reducible exact AppL.nil | apply AppL.cons)), (by repeat (first | exact Ent.refl _ | refine Fit.cons (by repeat (first | with_reducible exact Pull.here | apply Pull.there)) ?_ | apply Ent.skip))⟩) ?_
    first | refine L.field0 rfl fo24_1 rfl ?_ | refine L.field rfl fo24_1 rfl ?_
    refine L.load rfl sc3 rfl (by first | exact Cells.ofM (by repeat (first | with_reducible exact mem_head | apply mem_tail)) (by repeat (first | exact AtN.nil | apply AtN.take | apply AtN.skip)) | exact Cells.ofD (by repeat (first | with_reducible exact mem_head | apply mem_tail)) | exact Cells.ofF (by repeat (first | with_reducible exact mem_head | apply mem_tail)) (by repeat (first | exact AtN.nil | apply AtN.take | apply AtN.skip)) | exact Cells.ofDs (by repeat (first | with_reducible exact mem_head | apply mem_tail)) (by repeat (first | exact AtN.nil | apply AtN.take | apply AtN.skip))) ?_
    refine L.eqI rfl rfl rfl ?_
    refine L.assign rfl rfl ?_
    refine L.nilQ ?_
    refine T.thenN ?_
    refine T.ret ?_
    exact T.ret1 rfl rfl ⟨congrArg Value.bool (decide_eq_true (by simp [hasF, hI.six])), rfl, rfl⟩ (by repeat (first | exact SubD.refl _ | exact SubD.nil _ | refine SubD.cons (by repeat (first | with_reducible exact mem_head | apply mem_tail)) ?_ | apply SubD.skip)) (by repeat (first | exact Ent.refl _ | refine Fit.cons (by repeat (first | with_reducible exact Pull.here | apply Pull.there)) ?_ | apply Ent.skip))
theorem rhas_spec {a : Option Addr} {len cap : Nat} {each most n now : Int} {l : List (Int × Int × Int)} (hq : 1 ≤ each ∧ each ≤ most ∧ most ≤ 1048576) (hl : SGood most l) (hz1 : 0 ≤ now) (hz2 : now ≤ 2199023255552) (hlen9 : l.length ≤ 1000) : Spec Try.prog 15 [.slice a len cap, .int .i64 each, .int .i64 most, .int .i64 n, .int .i64 now] [rsl 3 a len cap (l.map sr)] [] (fun v D' M' => v = .int .i64 (hasF each most l n now) ∧ D' = [] ∧ M' = []) := by
  refine Spec.intro (n := 47) Try.func15 rfl rfl (by decide) (Nat.le_of_ble_eq_true rfl) rfl (fun _ => (by repeat (first | with_reducible exact AppL.nil | apply AppL.cons))) (fun _ => (by repeat (first | with_reducible exact AppL.nil | apply AppL.cons))) ?_
  intro σ D M
  refine T.rslLen (by repeat (first | with_reducible exact mem_head | apply mem_tail)) (fun hlen => ?_)
  rw [List.length_map] at hlen
  refine T.seq ?_
  refine T.region ?_
  refine L.assign rfl rfl ?_
  refine L.nil ?_
  refine T.thenN ?_
  refine T.seq ?_
  refine T.seq ?_
  refine T.region ?_
  refine L.move rfl rfl ?_
  refine L.lenSl rfl Try.underlying31 rfl ?_
  refine L.move rfl rfl ?_
  refine L.nil ?_
  refine T.thenN ?_
  refine T.block ?_
  refine T.loop (fun K' D' M' m => ∃ k : Nat, (k ≤ len ∧ look l n = look (l.drop k) n) ∧ K' = [(17, .int .i64 k)] ∧ D' = [] ∧ M' = [] ∧ m = len - k) (.cons (t := 1) rfl <| .cons (t := 2) rfl <| .cons (t := 3) rfl <| .cons (t := 4) rfl <| .cons (t := 15) rfl <| .cons (t := 16) rfl <| SubK.nil _) (⟨0, ⟨by omega, rfl⟩, rfl, rfl, rfl, rfl⟩) (.cons (t := 17) rfl <| SubK.nil _) (by repeat (first | exact SubD.refl _ | exact SubD.nil _ | refine SubD.cons (by repeat (first | with_reducible exact mem_head | apply mem_tail)) ?_ | apply SubD.skip)) (by repeat (first | exact Sel.nil | (apply Sel.cons; focus (repeat (first | with_reducible exact Pull.here | apply Pull.there))))) ?_
  rintro K1 D1 M1 m1 ⟨k, ⟨hk, hlk⟩, rfl, rfl, rfl, rfl⟩
  refine T.norm3 (by repeat (first | with_reducible exact AppL.nil | apply AppL.cons)) (by repeat (first | with_reducible exact AppL.nil | apply AppL.cons)) (by repeat (first | with_reducible exact AppL.nil | apply AppL.cons)) ?_
  refine T.seq ?_
  refine T.region ?_
  refine L.ltI rfl rfl rfl ?_
  refine L.nil ?_
  refine T.thenN ?_
  refine T.seq ?_
  refine T.cond rfl (fun h1 => ?_) (fun h1 => ?_)
  · try simp only [decide_eq_true_eq, decide_eq_false_iff_not, Bool.not_eq_true', Bool.not_eq_false', Bool.and_eq_true, Bool.or_eq_true] at h1
    refine T.skip ?_
    refine T.thenN ?_
    refine T.seq ?_
    refine T.block ?_
    refine T.seq ?_
    refine T.region ?_
    obtain ⟨⟨pn, ph, pa⟩, hpk⟩ := ex_get (l := l) (k := k) (by omega)
    have hpg := hl _ (List.mem_of_getElem? hpk)
    refine L.idx (i := k) rfl Try.underlying31 sz51 rfl rfl (by repeat (first | with_reducible exact mem_head | apply mem_tail)) rfl (show (l.map sr)[k]? = some [Value.int .i64 pn, Value.int .i64 ph, Value.int .i64 pa] from map_get hpk) (fun b o => ?_)
    refine L.loadA rfl ag51 rfl (by first | exact CellsN.ofM (by repeat (first | with_reducible exact mem_head | apply mem_tail)) (by repeat (first | exact AtN.nil | apply AtN.take | apply AtN.skip)) | exact CellsN.ofD (by repeat (first | with_reducible exact mem_head | apply mem_tail)) rfl | exact CellsN.ofF (by repeat (first | with_reducible exact mem_head | apply mem_tail)) (by repeat (first | exact AtN.nil | apply AtN.take | apply AtN.skip)) | exact CellsN.ofDs (by repeat (first | with_reducible exact mem_head | apply mem_tail)) (by repeat (first | exact AtN.nil | apply AtN.take | apply AtN.skip))) ?_
    refine L.alloc rfl ze51 (fun b2 => ?_)
    refine L.storeA ag51 rfl rfl rfl (by repeat (first | exact One.nil | refine One.cons rfl ?_ | assumption)) (by repeat (first | with_reducible exact Upd.here | apply Upd.there)) (by repeat (first | exact SetAt.here | exact SetAt.none | exact SetAt.whole rfl | apply SetAt.more | apply SetAt.there)) ?_
    refine L.nil ?_
    refine T.thenN ?_
    refine T.seq ?_
    refine T.region ?_
    first | refine L.field0 rfl fo51_0 rfl ?_ | refine L.field rfl fo51_0 rfl ?_
    refine L.load rfl sc3 rfl (by first | exact Cells.ofM (by repeat (first | with_reducible exact mem_head | apply mem_tail)) (by repeat (first | exact AtN.nil | apply AtN.take | apply AtN.skip)) | exact Cells.ofD (by repeat (first | with_reducible exact mem_head | apply mem_tail)) | exact Cells.ofF (by repeat (first | with_reducible exact mem_head | apply mem_tail)) (by repeat (first | exact AtN.nil | apply AtN.take | apply AtN.skip)) | exact Cells.ofDs (by repeat (first | with_reducible exact mem_head | apply mem_tail)) (by repeat (first | exact AtN.nil | apply AtN.take | apply AtN.skip))) ?_
    refine L.move rfl rfl ?_
    refine L.eqI rfl rfl rfl ?_
    refine L.nil ?_
    refine T.thenN ?_
    refine T.cond rfl (fun h3 => ?_) (fun h3 => ?_)
    · try simp only [decide_eq_true_eq, decide_eq_false_iff_not, Bool.not_eq_true', Bool.not_eq_false', Bool.and_eq_true, Bool.or_eq_true] at h3
      have hls : look l n = some (ph, pa) := by rw [hlk, drop_get hpk]; simp [look, h3]
      simp only at hpg
      refine T.seq ?_
      refine T.region ?_
      first | refine L.field0 rfl fo51_1 rfl ?_ | refine L.field rfl fo51_1 rfl ?_
      refine L.load rfl sc3 rfl (by first | exact Cells.ofM (by repeat (first | with_reducible exact mem_head | apply mem_tail)) (by repeat (first | exact AtN.nil | apply AtN.take | apply AtN.skip)) | exact Cells.ofD (by repeat (first | with_reducible exact mem_head | apply mem_tail)) | exact Cells.ofF (by repeat (first | with_reducible exact mem_head | apply mem_tail)) (by repeat (first | exact AtN.nil | apply AtN.take | apply AtN.skip)) | exact Cells.ofDs (by repeat (first | with_reducible exact mem_head | apply mem_tail)) (by repeat (first | exact AtN.nil | apply AtN.take | apply AtN.skip))) ?_
      refine L.assign rfl rfl ?_
      refine L.nil ?_
      refine T.thenN ?_
      refine T.seq ?_
      refine T.seq ?_
      refine T.region ?_
      first | refine L.field0 rfl fo51_2 rfl ?_ | refine L.field rfl fo51_2 rfl ?_
      refine L.load rfl sc3 rfl (by first | exact Cells.ofM (by repeat (first | with_reducible exact mem_head | apply mem_tail)) (by repeat (first | exact AtN.nil | apply AtN.take | apply AtN.skip)) | exact Cells.ofD (by repeat (first | with_reducible exact mem_head | apply mem_tail)) | exact Cells.ofF (by repeat (first | with_reducible exact mem_head | apply mem_tail)) (by repeat (first | exact AtN.nil | apply AtN.take | apply AtN.skip)) | exact Cells.ofDs (by repeat (first | with_reducible exact mem_head | apply mem_tail)) (by repeat (first | exact AtN.nil | apply AtN.take | apply AtN.skip))) ?_
      refine L.assign rfl rfl ?_
      refine L.nil ?_
      refine T.thenN ?_
      refine T.block ?_
      refine T.loop (fun K' D' M' m => ∃ i hv : Int, (pa ≤ i ∧ (i ≤ now ∨ i = pa) ∧ hv = min (ph + (i - pa) * each) most ∧ 0 ≤ hv) ∧ K' = [(13, .int .i64 hv), (14, .int .i64 i)] ∧ D' = [] ∧ M' = [] ∧ m = (now - i).toNat) (.cons (t := 1) rfl <| .cons (t := 2) rfl <| .cons (t := 3) rfl <| .cons (t := 4) rfl <| .cons (t := 12) rfl <| .cons (t := 15) rfl <| .cons (t := 16) rfl <| .cons (t := 17) rfl <| .cons (t := 18) rfl <| .cons (t := 19) rfl <| .cons (t := 20) rfl <| .cons (t := 21) rfl <| .cons (t := 22) rfl <| .cons (t := 23) rfl <| .cons (t := 24) rfl <| .cons (t := 25) rfl <| .cons (t := 26) rfl <| .cons (t := 27) rfl <| .cons (t := 28) rfl <| SubK.nil _) (⟨pa, ph, ⟨by omega, .inr rfl, by simp only [Int.sub_self, Int.zero_mul]; omega, hpg.1⟩, rfl, rfl, rfl, rfl⟩) (.cons (t := 13) rfl <| .cons (t := 14) rfl <| SubK.nil _) (by repeat (first | exact SubD.refl _ | exact SubD.nil _ | refine SubD.cons (by repeat (first | with_reducible exact mem_head | apply mem_tail)) ?_ | apply SubD.skip)) (by repeat (first | exact Sel.nil | (apply Sel.cons; focus (repeat (first | with_reducible exact Pull.here | apply Pull.there))))) ?_
      rintro K1 D1 M1 m1 ⟨i, hv, ⟨hi1, hi2, hi3, hi4⟩, rfl, rfl, rfl, rfl⟩
      refine T.norm3 (by repeat (first | with_reducible exact AppL.nil | apply AppL.cons)) (by repeat (first | with_reducible exact AppL.nil | apply AppL.cons)) (by repeat (first | with_reducible exact AppL.nil | apply AppL.cons)) ?_
      have hi5 : hv ≤ most := by omega
      refine T.seq ?_
      refine T.seq ?_
      refine T.region ?_
      refine L.move rfl rfl ?_
      refine L.move rfl rfl ?_
      refine L.ltI rfl rfl rfl ?_
      refine L.move rfl rfl ?_
      refine L.part (t := 32) rfl (fun h4 => ?_) (fun h4 => ?_)
      · try simp only [decide_eq_true_eq, decide_eq_false_iff_not, Bool.not_eq_true', Bool.not_eq_false', Bool.and_eq_true, Bool.or_eq_true] at h4
        refine L.guardT (dj := 32) rfl rfl rfl ?_
        refine L.move rfl rfl ?_
        refine L.guardT (dj := 32) rfl rfl rfl ?_
        refine L.move rfl rfl ?_
        refine L.guardT (dj := 32) rfl rfl rfl ?_
        refine L.ltI rfl rfl rfl ?_
        refine L.pickT rfl rfl rfl ?_
        refine L.nil ?_
        refine T.thenN ?_
        refine T.cond rfl (fun h5 => ?_) (fun h5 => ?_)
        · try simp only [decide_eq_true_eq, decide_eq_false_iff_not, Bool.not_eq_true', Bool.not_eq_false', Bool.and_eq_true, Bool.or_eq_true] at h5
          refine T.skip ?_
          refine T.thenN ?_
          refine T.seq ?_
          refine T.block ?_
          refine T.region ?_
          refine L.move rfl rfl ?_
          refine L.move rfl rfl ?_
          refine L.addN rfl rfl rfl (by omega) ?_
          refine L.move rfl rfl ?_
          refine L.minI rfl rfl rfl ?_
          refine L.assign rfl rfl ?_
          refine L.nil ?_
          refine T.blkN ?_
          refine T.thenN ?_
          refine T.region ?_
          refine L.move rfl rfl ?_
          refine L.addN rfl rfl rfl (by omega) ?_
          refine L.assign rfl rfl ?_
          refine L.nil ?_
          refine T.thenN ?_
          exact T.back ⟨i + 1, _, ⟨by omega, .inl (by omega), rstep_eq hi3 (by omega), by omega⟩, rfl, rfl, rfl, rfl⟩ (by omega) (.cons (t := 13) rfl <| .cons (t := 14) rfl <| SubK.nil _) (.cons (t := 1) rfl <| .cons (t := 2) rfl <| .cons (t := 3) rfl <| .cons (t := 4) rfl <| .cons (t := 12) rfl <| .cons (t := 15) rfl <| .cons (t := 16) rfl <| .cons (t := 17) rfl <| .cons (t := 18) rfl <| .cons (t := 19) rfl <| .cons (t := 20) rfl <| .cons (t := 21) rfl <| .cons (t := 22) rfl <| .cons (t := 23) rfl <| .cons (t := 24) rfl <| .cons (t := 25) rfl <| .cons (t := 26) rfl <| .cons (t := 27) rfl <| .cons (t := 28) rfl <| SubK.nil _) (by repeat (first | exact SubD.refl _ | exact SubD.nil _ | refine SubD.cons (by repeat (first | with_reducible exact mem_head | apply mem_tail)) ?_ | apply SubD.skip)) (by repeat (first | exact SubD.refl _ | exact SubD.nil _ | refine SubD.cons (by repeat (first | with_reducible exact mem_head | apply mem_tail)) ?_ | apply SubD.skip)) (by repeat (first | exact Ent.refl _ | refine Fit.cons (by repeat (first | with_reducible exact Pull.here | apply Pull.there)) ?_ | apply Ent.skip))
        · try simp only [decide_eq_true_eq, decide_eq_false_iff_not, Bool.not_eq_true', Bool.not_eq_false', Bool.and_eq_true, Bool.or_eq_true] at h5
          refine T.exit ?_
          refine T.thenX ?_
          refine T.thenX ?_
          refine T.blkX ?_
          refine T.thenN ?_
          refine T.seq ?_
          refine T.region ?_
          refine L.move rfl rfl ?_
          refine L.assign rfl rfl ?_
          refine L.nil ?_
          refine T.thenN ?_
          refine T.ret ?_
          refine T.blkR ?_
          refine T.thenR ?_
          refine T.thenR ?_
          refine T.blkR ?_
          refine T.thenR ?_
          exact T.ret1 rfl rfl ⟨by rw [rhas_eq hls hq hpg.1 hi1 hi2 hi3 (.inl (by omega))], rfl, rfl⟩ (by repeat (first | exact SubD.refl _ | exact SubD.nil _ | refine SubD.cons (by repeat (first | with_reducible exact mem_head | apply mem_tail)) ?_ | apply SubD.skip)) (by repeat (first | exact Ent.refl _ | refine Fit.cons (by repeat (first | with_reducible exact Pull.here | apply Pull.there)) ?_ | apply Ent.skip))
      · try simp only [decide_eq_true_eq, decide_eq_false_iff_not, Bool.not_eq_true', Bool.not_eq_false', Bool.and_eq_true, Bool.or_eq_true] at h4
        refine L.guardF (dj := 32) (c := false) rfl rfl rfl rfl rfl (by decide) ?_
        refine L.guardF (dj := 32) (c := false) rfl rfl rfl rfl rfl (by decide) ?_
        refine L.guardF (dj := 32) (c := false) rfl rfl rfl rfl rfl (by decide) ?_
        refine L.pickF rfl rfl rfl ?_
        refine L.nil ?_
        refine T.thenN ?_
        refine T.condF rfl rfl ?_
        refine T.exit ?_
        refine T.thenX ?_
        refine T.thenX ?_
        refine T.blkX ?_
        refine T.thenN ?_
        refine T.seq ?_
        refine T.region ?_
        refine L.move rfl rfl ?_
        refine L.assign rfl rfl ?_
        refine L.nil ?_
        refine T.thenN ?_
        refine T.ret ?_
        refine T.blkR ?_
        refine T.thenR ?_
        refine T.thenR ?_
        refine T.blkR ?_
        refine T.thenR ?_
        exact T.ret1 rfl rfl ⟨by rw [rhas_eq hls hq hpg.1 hi1 hi2 hi3 (.inr (by omega))], rfl, rfl⟩ (by repeat (first | exact SubD.refl _ | exact SubD.nil _ | refine SubD.cons (by repeat (first | with_reducible exact mem_head | apply mem_tail)) ?_ | apply SubD.skip)) (by repeat (first | exact Ent.refl _ | refine Fit.cons (by repeat (first | with_reducible exact Pull.here | apply Pull.there)) ?_ | apply Ent.skip))
    · try simp only [decide_eq_true_eq, decide_eq_false_iff_not, Bool.not_eq_true', Bool.not_eq_false', Bool.and_eq_true, Bool.or_eq_true] at h3
      have hne := h3
      refine T.skip ?_
      refine T.blkN ?_
      refine T.thenN ?_
      refine T.region ?_
      refine L.addN rfl rfl rfl (by omega) ?_
      refine L.move rfl rfl ?_
      refine L.nil ?_
      refine T.thenN ?_
      exact T.back ⟨k + 1, ⟨by omega, by rw [hlk, drop_get hpk]; simp [look, hne]⟩, rfl, rfl, rfl, rfl⟩ (by omega) (.cons (t := 17) rfl <| SubK.nil _) (.cons (t := 1) rfl <| .cons (t := 2) rfl <| .cons (t := 3) rfl <| .cons (t := 4) rfl <| .cons (t := 15) rfl <| .cons (t := 16) rfl <| SubK.nil _) (by repeat (first | exact SubD.refl _ | exact SubD.nil _ | refine SubD.cons (by repeat (first | with_reducible exact mem_head | apply mem_tail)) ?_ | apply SubD.skip)) (by repeat (first | exact SubD.refl _ | exact SubD.nil _ | refine SubD.cons (by repeat (first | with_reducible exact mem_head | apply mem_tail)) ?_ | apply SubD.skip)) (by repeat (first | exact Ent.refl _ | refine Fit.cons (by repeat (first | with_reducible exact Pull.here | apply Pull.there)) ?_ | apply Ent.skip))
  · try simp only [decide_eq_true_eq, decide_eq_false_iff_not, Bool.not_eq_true', Bool.not_eq_false', Bool.and_eq_true, Bool.or_eq_true] at h1
    refine T.exit ?_
    refine T.thenX ?_
    refine T.thenX ?_
    refine T.blkX ?_
    refine T.thenN ?_
    refine T.seq ?_
    refine T.region ?_
    refine L.move rfl rfl ?_
    refine L.assign rfl rfl ?_
    refine L.nil ?_
    refine T.thenN ?_
    refine T.ret ?_
    exact T.ret1 rfl rfl ⟨by simp [hasF, hlk, show l.drop k = [] from List.drop_eq_nil_of_le (by omega), look], rfl, rfl⟩ (by repeat (first | exact SubD.refl _ | exact SubD.nil _ | refine SubD.cons (by repeat (first | with_reducible exact mem_head | apply mem_tail)) ?_ | apply SubD.skip)) (by repeat (first | exact Ent.refl _ | refine Fit.cons (by repeat (first | with_reducible exact Pull.here | apply Pull.there)) ?_ | apply Ent.skip))
theorem rtake_spec {a : Option Addr} {len cap : Nat} {each most n cost now : Int} {l : List (Int × Int × Int)} (hq : 1 ≤ each ∧ each ≤ most ∧ most ≤ 1048576) (hl : SGood most l) (hd : Dist l) (hz1 : 0 ≤ now) (hz2 : now ≤ 2199023255552) (hlen9 : l.length ≤ 1000) : Spec Try.prog 13 [.slice a len cap, .int .i64 each, .int .i64 most, .int .i64 n, .int .i64 cost, .int .i64 now] [rsl 3 a len cap (l.map sr)] [] (fun v D' M' => ∃ a' len' cap', v = .tuple #[.slice a' len' cap', .bool (takeB each most l n cost now)] ∧ D' = [rsl 3 a' len' cap' ((refL each most l n cost now).map sr)] ∧ M' = []) := by
  refine Spec.intro (n := 63) Try.func13 rfl rfl (by decide) (Nat.le_of_ble_eq_true rfl) rfl (fun _ => (by repeat (first | with_reducible exact AppL.nil | apply AppL.cons))) (fun _ => (by repeat (first | with_reducible exact AppL.nil | apply AppL.cons))) ?_
  intro σ D M
  refine T.rslLen (by repeat (first | with_reducible exact mem_head | apply mem_tail)) (fun hlen => ?_)
  rw [List.length_map] at hlen
  refine T.seq ?_
  refine T.region ?_
  refine L.assign rfl rfl ?_
  refine L.assign rfl rfl ?_
  refine L.nil ?_
  refine T.thenN ?_
  refine T.seq ?_
  refine T.region ?_
  refine L.move rfl rfl ?_
  refine L.move rfl rfl ?_
  refine L.move rfl rfl ?_
  refine L.move rfl rfl ?_
  refine L.move rfl rfl ?_
  refine L.call rfl (evs.cons rfl <| evs.cons rfl <| evs.cons rfl <| evs.cons rfl <| evs.cons rfl <| evs.nil) (by repeat (first | exact SubD.refl _ | exact SubD.nil _ | refine SubD.cons (by repeat (first | with_reducible exact mem_head | apply mem_tail)) ?_ | apply SubD.skip)) (by repeat (first | exact Sel.nil | (apply Sel.cons; focus (repeat (first | with_reducible exact Pull.here | apply Pull.there))))) (rhas_spec hq hl hz1 hz2 hlen9) ?_
  rintro _ _ _ ⟨rfl, rfl, rfl⟩
  refine L.norm (by repeat (first | with_reducible exact AppL.nil | apply AppL.cons)) (by repeat (first | with_reducible exact AppL.nil | apply AppL.cons)) ?_
  refine L.assign rfl rfl ?_
  refine L.nil ?_
  refine T.thenN ?_
  refine T.seq ?_
  refine T.seq ?_
  refine T.region ?_
  refine L.move rfl rfl ?_
  refine L.ltI rfl rfl rfl ?_
  refine L.move rfl rfl ?_
  refine L.part (t := 27) rfl (fun h1 => ?_) (fun h1 => ?_)
  · try simp only [decide_eq_true_eq, decide_eq_false_iff_not, Bool.not_eq_true', Bool.not_eq_false', Bool.and_eq_true, Bool.or_eq_true] at h1
    refine L.guardF (dj := 27) (c := true) rfl rfl rfl rfl rfl (by decide) ?_
    refine L.guardF (dj := 27) (c := true) rfl rfl rfl rfl rfl (by decide) ?_
    refine L.guardF (dj := 27) (c := true) rfl rfl rfl rfl rfl (by decide) ?_
    refine L.pickT rfl rfl rfl ?_
    refine L.nil ?_
    refine T.thenN ?_
    refine T.condT rfl rfl ?_
    refine T.seq ?_
    refine T.region ?_
    refine L.move rfl rfl ?_
    refine L.assign rfl rfl ?_
    refine L.assign rfl rfl ?_
    refine L.nil ?_
    refine T.thenN ?_
    refine T.ret ?_
    refine T.thenR ?_
    exact T.ret2 rfl rfl rfl ⟨_, _, _, by rw [takeB_no (by omega)], by rw [refL, takeB_no (by omega)]; try rfl, rfl⟩ (by repeat (first | exact SubD.refl _ | exact SubD.nil _ | refine SubD.cons (by repeat (first | with_reducible exact mem_head | apply mem_tail)) ?_ | apply SubD.skip)) (by repeat (first | exact Ent.refl _ | refine Fit.cons (by repeat (first | with_reducible exact Pull.here | apply Pull.there)) ?_ | apply Ent.skip))
  · try simp only [decide_eq_true_eq, decide_eq_false_iff_not, Bool.not_eq_true', Bool.not_eq_false', Bool.and_eq_true, Bool.or_eq_true] at h1
    refine L.guardT (dj := 27) rfl rfl rfl ?_
    refine L.move rfl rfl ?_
    refine L.guardT (dj := 27) rfl rfl rfl ?_
    refine L.move rfl rfl ?_
    refine L.guardT (dj := 27) rfl rfl rfl ?_
    refine L.gtI rfl rfl rfl ?_
    refine L.pickF rfl rfl rfl ?_
    refine L.nil ?_
    refine T.thenN ?_
    refine T.cond rfl (fun h2 => ?_) (fun h2 => ?_)
    · try simp only [decide_eq_true_eq, decide_eq_false_iff_not, Bool.not_eq_true', Bool.not_eq_false', Bool.and_eq_true, Bool.or_eq_true] at h2
      refine T.seq ?_
      refine T.region ?_
      refine L.move rfl rfl ?_
      refine L.assign rfl rfl ?_
      refine L.assign rfl rfl ?_
      refine L.nil ?_
      refine T.thenN ?_
      refine T.ret ?_
      refine T.thenR ?_
      exact T.ret2 rfl rfl rfl ⟨_, _, _, by rw [takeB_no (by omega)], by rw [refL, takeB_no (by omega)]; try rfl, rfl⟩ (by repeat (first | exact SubD.refl _ | exact SubD.nil _ | refine SubD.cons (by repeat (first | with_reducible exact mem_head | apply mem_tail)) ?_ | apply SubD.skip)) (by repeat (first | exact Ent.refl _ | refine Fit.cons (by repeat (first | with_reducible exact Pull.here | apply Pull.there)) ?_ | apply Ent.skip))
    · try simp only [decide_eq_true_eq, decide_eq_false_iff_not, Bool.not_eq_true', Bool.not_eq_false', Bool.and_eq_true, Bool.or_eq_true] at h2
      refine T.skip ?_
      refine T.thenN ?_
      refine T.seq ?_
      refine T.region ?_
      refine L.buildSlice rfl bs31 (by decide) (BP.doneE (out := []) rfl) (fun b3 => ?_)
      refine L.assign rfl rfl ?_
      refine L.nil ?_
      refine T.toOwn (len := 0) (by repeat (first | with_reducible exact Pull.here | apply Pull.there)) (rows := []) (sz := 3) (by rfl) rfl (by simp) ?_
      refine T.thenN ?_
      refine T.seq ?_
      refine T.region ?_
      refine L.move rfl rfl ?_
      refine L.assign rfl rfl ?_
      refine L.nil ?_
      refine T.thenN ?_
      refine T.seq ?_
      refine T.seq ?_
      refine T.region ?_
      refine L.move rfl rfl ?_
      refine L.lenSl rfl Try.underlying31 rfl ?_
      refine L.move rfl rfl ?_
      refine L.nil ?_
      refine T.thenN ?_
      refine T.block ?_
      refine T.loop (fun K' D' M' m => ∃ (k : Nat) (a1 : Option Addr) (c1 len1 : Nat) (rows : List (List Value)) (at1 : Int), (k ≤ len ∧ rows = ((l.take k).filter (fun p => decide (p.1 ≠ n))).map sr ∧ len1 = rows.length ∧ at1 = atF (l.take k) n now) ∧ K' = [(37, .int .i64 k), (15, .slice a1 len1 c1), (16, .int .i64 at1)] ∧ D' = [] ∧ M' = [own 3 51 a1 len1 c1 rows] ∧ m = len - k) (.cons (t := 3) rfl <| .cons (t := 4) rfl <| .cons (t := 5) rfl <| .cons (t := 12) rfl <| .cons (t := 13) rfl <| .cons (t := 14) rfl <| .cons (t := 35) rfl <| .cons (t := 36) rfl <| SubK.nil _) (⟨0, _, _, _, [], _, ⟨by omega, rfl, rfl, rfl⟩, rfl, rfl, rfl, rfl⟩) (.cons (t := 37) rfl <| .cons (t := 15) rfl <| .cons (t := 16) rfl <| SubK.nil _) (by repeat (first | exact SubD.refl _ | exact SubD.nil _ | refine SubD.cons (by repeat (first | with_reducible exact mem_head | apply mem_tail)) ?_ | apply SubD.skip)) (by repeat (first | exact Sel.nil | (apply Sel.cons; focus (repeat (first | with_reducible exact Pull.here | apply Pull.there))))) ?_
      rintro K1 D1 M1 m1 ⟨k, a1, c1, len1, rows, at1, ⟨hk, hrows, hlen1, hat⟩, rfl, rfl, rfl, rfl⟩
      refine T.norm3 (by repeat (first | with_reducible exact AppL.nil | apply AppL.cons)) (by repeat (first | with_reducible exact AppL.nil | apply AppL.cons)) (by repeat (first | with_reducible exact AppL.nil | apply AppL.cons)) ?_
      have hl1 : len1 ≤ k := by rw [hlen1, hrows, List.length_map]; exact Nat.le_trans (List.length_filter_le _ _) (by rw [List.length_take]; omega)
      refine T.seq ?_
      refine T.region ?_
      refine L.ltI rfl rfl rfl ?_
      refine L.nil ?_
      refine T.thenN ?_
      refine T.seq ?_
      refine T.cond rfl (fun h4 => ?_) (fun h4 => ?_)
      · try simp only [decide_eq_true_eq, decide_eq_false_iff_not, Bool.not_eq_true', Bool.not_eq_false', Bool.and_eq_true, Bool.or_eq_true] at h4
        refine T.skip ?_
        refine T.thenN ?_
        refine T.seq ?_
        refine T.block ?_
        refine T.seq ?_
        refine T.region ?_
        obtain ⟨⟨pn, ph, pa⟩, hpk⟩ := ex_get (l := l) (k := k) (by omega)
        have hpg := hl _ (List.mem_of_getElem? hpk)
        refine L.idx (i := k) rfl Try.underlying31 sz51 rfl rfl (by repeat (first | with_reducible exact mem_head | apply mem_tail)) rfl (show (l.map sr)[k]? = some [Value.int .i64 pn, Value.int .i64 ph, Value.int .i64 pa] from map_get hpk) (fun b o => ?_)
        refine L.loadA rfl ag51 rfl (by first | exact CellsN.ofM (by repeat (first | with_reducible exact mem_head | apply mem_tail)) (by repeat (first | exact AtN.nil | apply AtN.take | apply AtN.skip)) | exact CellsN.ofD (by repeat (first | with_reducible exact mem_head | apply mem_tail)) rfl | exact CellsN.ofF (by repeat (first | with_reducible exact mem_head | apply mem_tail)) (by repeat (first | exact AtN.nil | apply AtN.take | apply AtN.skip)) | exact CellsN.ofDs (by repeat (first | with_reducible exact mem_head | apply mem_tail)) (by repeat (first | exact AtN.nil | apply AtN.take | apply AtN.skip))) ?_
        refine L.alloc rfl ze51 (fun b5 => ?_)
        refine L.storeA ag51 rfl rfl rfl (by repeat (first | exact One.nil | refine One.cons rfl ?_ | assumption)) (by repeat (first | with_reducible exact Upd.here | apply Upd.there)) (by repeat (first | exact SetAt.here | exact SetAt.none | exact SetAt.whole rfl | apply SetAt.more | apply SetAt.there)) ?_
        refine L.nil ?_
        refine T.thenN ?_
        refine T.seq ?_
        refine T.region ?_
        first | refine L.field0 rfl fo51_0 rfl ?_ | refine L.field rfl fo51_0 rfl ?_
        refine L.load rfl sc3 rfl (by first | exact Cells.ofM (by repeat (first | with_reducible exact mem_head | apply mem_tail)) (by repeat (first | exact AtN.nil | apply AtN.take | apply AtN.skip)) | exact Cells.ofD (by repeat (first | with_reducible exact mem_head | apply mem_tail)) | exact Cells.ofF (by repeat (first | with_reducible exact mem_head | apply mem_tail)) (by repeat (first | exact AtN.nil | apply AtN.take | apply AtN.skip)) | exact Cells.ofDs (by repeat (first | with_reducible exact mem_head | apply mem_tail)) (by repeat (first | exact AtN.nil | apply AtN.take | apply AtN.skip))) ?_
        refine L.move rfl rfl ?_
        refine L.eqI rfl rfl rfl ?_
        refine L.nil ?_
        refine T.thenN ?_
        refine T.cond rfl (fun h6 => ?_) (fun h6 => ?_)
        · try simp only [decide_eq_true_eq, decide_eq_false_iff_not, Bool.not_eq_true', Bool.not_eq_false', Bool.and_eq_true, Bool.or_eq_true] at h6
          have he := h6
          subst he
          refine T.region ?_
          refine L.move rfl rfl ?_
          first | refine L.field0 rfl fo51_2 rfl ?_ | refine L.field rfl fo51_2 rfl ?_
          refine L.load rfl sc3 rfl (by first | exact Cells.ofM (by repeat (first | with_reducible exact mem_head | apply mem_tail)) (by repeat (first | exact AtN.nil | apply AtN.take | apply AtN.skip)) | exact Cells.ofD (by repeat (first | with_reducible exact mem_head | apply mem_tail)) | exact Cells.ofF (by repeat (first | with_reducible exact mem_head | apply mem_tail)) (by repeat (first | exact AtN.nil | apply AtN.take | apply AtN.skip)) | exact Cells.ofDs (by repeat (first | with_reducible exact mem_head | apply mem_tail)) (by repeat (first | exact AtN.nil | apply AtN.take | apply AtN.skip))) ?_
          refine L.maxI rfl rfl rfl ?_
          refine L.assign rfl rfl ?_
          refine L.nil ?_
          refine T.blkN ?_
          refine T.thenN ?_
          refine T.region ?_
          refine L.addN rfl rfl rfl (by omega) ?_
          refine L.move rfl rfl ?_
          refine L.nil ?_
          refine T.thenN ?_
          exact T.back ⟨k + 1, _, _, _, _, _, ⟨by omega, by rw [fil_yes hpk]; exact hrows, hlen1, by rw [at_yes hd hpk]⟩, rfl, rfl, rfl, rfl⟩ (by omega) (.cons (t := 37) rfl <| .cons (t := 15) rfl <| .cons (t := 16) rfl <| SubK.nil _) (.cons (t := 3) rfl <| .cons (t := 4) rfl <| .cons (t := 5) rfl <| .cons (t := 12) rfl <| .cons (t := 13) rfl <| .cons (t := 14) rfl <| .cons (t := 35) rfl <| .cons (t := 36) rfl <| SubK.nil _) (by repeat (first | exact SubD.refl _ | exact SubD.nil _ | refine SubD.cons (by repeat (first | with_reducible exact mem_head | apply mem_tail)) ?_ | apply SubD.skip)) (by repeat (first | exact SubD.refl _ | exact SubD.nil _ | refine SubD.cons (by repeat (first | with_reducible exact mem_head | apply mem_tail)) ?_ | apply SubD.skip)) (by repeat (first | exact Ent.refl _ | refine Fit.cons (by repeat (first | with_reducible exact Pull.here | apply Pull.there)) ?_ | apply Ent.skip))
        · try simp only [decide_eq_true_eq, decide_eq_false_iff_not, Bool.not_eq_true', Bool.not_eq_false', Bool.and_eq_true, Bool.or_eq_true] at h6
          have hne := h6
          refine T.region ?_
          refine L.move rfl rfl ?_
          refine L.loadA rfl ag51 rfl (by first | exact CellsN.ofM (by repeat (first | with_reducible exact mem_head | apply mem_tail)) (by repeat (first | exact AtN.nil | apply AtN.take | apply AtN.skip)) | exact CellsN.ofD (by repeat (first | with_reducible exact mem_head | apply mem_tail)) rfl | exact CellsN.ofF (by repeat (first | with_reducible exact mem_head | apply mem_tail)) (by repeat (first | exact AtN.nil | apply AtN.take | apply AtN.skip)) | exact CellsN.ofDs (by repeat (first | with_reducible exact mem_head | apply mem_tail)) (by repeat (first | exact AtN.nil | apply AtN.take | apply AtN.skip))) ?_
          refine L.buildSlice rfl bs31 (by decide) (BP.agg rfl rfl rfl (Nat.le_of_ble_eq_true rfl) (by repeat (first | with_reducible exact AppL.nil | apply AppL.cons | with_reducible exact AppL.refl)) <| BP.doneE (out := []) rfl) (fun b7 => ?_)
          refine L.append1 rfl Try.underlying31 el51 rfl rfl (by repeat (first | with_reducible exact Pull.here | apply Pull.there)) (by repeat (first | with_reducible exact mem_head | apply mem_tail)) rfl (by repeat (first | exact One.nil | refine One.cons rfl ?_ | assumption)) (by omega) (by omega) (fun a8 c9 => ?_)
          refine L.assign rfl rfl ?_
          refine L.nil ?_
          refine T.blkN ?_
          refine T.thenN ?_
          refine T.region ?_
          refine L.addN rfl rfl rfl (by omega) ?_
          refine L.move rfl rfl ?_
          refine L.nil ?_
          refine T.thenN ?_
          exact T.back ⟨k + 1, _, _, _, rows ++ [[.int .i64 pn, .int .i64 ph, .int .i64 pa]], _, ⟨by omega, by rw [fil_no hpk hne, List.map_append, hrows]; try rfl, by simp [hlen1], by rw [at_no hpk hne]; exact hat⟩, rfl, rfl, rfl, rfl⟩ (by omega) (.cons (t := 37) rfl <| .cons (t := 15) rfl <| .cons (t := 16) rfl <| SubK.nil _) (.cons (t := 3) rfl <| .cons (t := 4) rfl <| .cons (t := 5) rfl <| .cons (t := 12) rfl <| .cons (t := 13) rfl <| .cons (t := 14) rfl <| .cons (t := 35) rfl <| .cons (t := 36) rfl <| SubK.nil _) (by repeat (first | exact SubD.refl _ | exact SubD.nil _ | refine SubD.cons (by repeat (first | with_reducible exact mem_head | apply mem_tail)) ?_ | apply SubD.skip)) (by repeat (first | exact SubD.refl _ | exact SubD.nil _ | refine SubD.cons (by repeat (first | with_reducible exact mem_head | apply mem_tail)) ?_ | apply SubD.skip)) (by repeat (first | exact Ent.refl _ | refine Fit.cons (by repeat (first | with_reducible exact Pull.here | apply Pull.there)) ?_ | apply Ent.skip))
      · try simp only [decide_eq_true_eq, decide_eq_false_iff_not, Bool.not_eq_true', Bool.not_eq_false', Bool.and_eq_true, Bool.or_eq_true] at h4
        refine T.exit ?_
        refine T.thenX ?_
        refine T.thenX ?_
        refine T.blkX ?_
        refine T.thenN ?_
        refine T.seq ?_
        have hF := hasF_bd_ok hq hl hz1 (n := n)
        refine T.region ?_
        refine L.move rfl rfl ?_
        refine L.move rfl rfl ?_
        refine L.move rfl rfl ?_
        refine L.move rfl rfl ?_
        refine L.subN rfl rfl rfl (by omega) ?_
        refine L.move rfl rfl ?_
        refine L.build rfl bu51 (BP.one rfl rfl rfl <| BP.one rfl rfl rfl <| BP.one rfl rfl rfl <| BP.doneE (out := []) rfl) ?_
        refine L.buildSlice rfl bs31 (by decide) (BP.agg rfl rfl rfl (Nat.le_of_ble_eq_true rfl) (by repeat (first | with_reducible exact AppL.nil | apply AppL.cons | with_reducible exact AppL.refl)) <| BP.doneE (out := []) rfl) (fun b10 => ?_)
        refine L.append1 rfl Try.underlying31 el51 rfl rfl (by repeat (first | with_reducible exact Pull.here | apply Pull.there)) (by repeat (first | with_reducible exact mem_head | apply mem_tail)) rfl (by repeat (first | exact One.nil | refine One.cons rfl ?_ | assumption)) (by omega) (by omega) (fun a11 c12 => ?_)
        refine L.assign rfl rfl ?_
        refine L.assign rfl rfl ?_
        refine L.nil ?_
        refine T.ownRsl (by repeat (first | with_reducible exact Pull.here | apply Pull.there)) ?_
        refine T.thenN ?_
        refine T.ret ?_
        exact T.ret2 rfl rfl rfl ⟨_, _, _, by rw [takeB_yes (by omega) (by omega)], by rw [refL_yes (by omega) (by omega) hrows hat (by omega)], rfl⟩ (by repeat (first | exact SubD.refl _ | exact SubD.nil _ | refine SubD.cons (by repeat (first | with_reducible exact mem_head | apply mem_tail)) ?_ | apply SubD.skip)) (by repeat (first | exact Ent.refl _ | refine Fit.cons (by repeat (first | with_reducible exact Pull.here | apply Pull.there)) ?_ | apply Ent.skip))
theorem apart_law (each most : Int) (a : Option Addr) (len cap : Nat) (xs : List (Int × Int × Int)) (hx : xs.length = len) (hg : ∀ x ∈ xs, g33 x) (hb : len ≤ 4611686018427387904) : Spec Try.prog 6 [.int .i64 each, .int .i64 most, .slice a len cap] [rsl 3 a len cap (xs.map e33)] [] (fun v D' M' => v = .bool true ∧ D' = [] ∧ M' = []) := by
  refine Spec.intro (n := 90) Try.func6 rfl rfl (by decide) (Nat.le_of_ble_eq_true rfl) rfl (fun _ => (by repeat (first | with_reducible exact AppL.nil | apply AppL.cons))) (fun _ => (by repeat (first | with_reducible exact AppL.nil | apply AppL.cons))) ?_
  intro σ D M
  refine T.seq ?_
  refine T.region ?_
  refine L.assign rfl rfl ?_
  refine L.nil ?_
  refine T.thenN ?_
  refine T.seq ?_
  refine T.region ?_
  refine L.move rfl rfl ?_
  refine L.move rfl rfl ?_
  refine L.call rfl (evs.cons rfl <| evs.cons rfl <| evs.nil) (by repeat (first | exact SubD.refl _ | exact SubD.nil _ | refine SubD.cons (by repeat (first | with_reducible exact mem_head | apply mem_tail)) ?_ | apply SubD.skip)) (by repeat (first | exact Sel.nil | (apply Sel.cons; focus (repeat (first | with_reducible exact Pull.here | apply Pull.there))))) (rate_spec _ _) ?_
  rintro _ _ _ ⟨E, Mo, hE1, hE2, hE3, hE4, rfl, rfl, rfl⟩
  refine L.norm (by repeat (first | with_reducible exact AppL.nil | apply AppL.cons)) (by repeat (first | with_reducible exact AppL.nil | apply AppL.cons)) ?_
  refine L.alloc rfl ze24 (fun b1 => ?_)
  refine L.storeA ag24 rfl rfl rfl (by repeat (first | exact One.nil | refine One.cons rfl ?_ | assumption)) (by repeat (first | with_reducible exact Upd.here | apply Upd.there)) (by repeat (first | exact SetAt.here | exact SetAt.none | exact SetAt.whole rfl | apply SetAt.more | apply SetAt.there)) ?_
  refine L.nil ?_
  refine T.thenN ?_
  refine T.seq ?_
  refine T.region ?_
  refine L.loadA rfl ag24 rfl (by first | exact CellsN.ofM (by repeat (first | with_reducible exact mem_head | apply mem_tail)) (by repeat (first | exact AtN.nil | apply AtN.take | apply AtN.skip)) | exact CellsN.ofD (by repeat (first | with_reducible exact mem_head | apply mem_tail)) rfl | exact CellsN.ofF (by repeat (first | with_reducible exact mem_head | apply mem_tail)) (by repeat (first | exact AtN.nil | apply AtN.take | apply AtN.skip)) | exact CellsN.ofDs (by repeat (first | with_reducible exact mem_head | apply mem_tail)) (by repeat (first | exact AtN.nil | apply AtN.take | apply AtN.skip))) ?_
  refine L.call rfl (evs.cons rfl <| evs.nil) (by repeat (first | exact SubD.refl _ | exact SubD.nil _ | refine SubD.cons (by repeat (first | with_reducible exact mem_head | apply mem_tail)) ?_ | apply SubD.skip)) (by repeat (first | exact Sel.nil | (apply Sel.cons; focus (repeat (first | with_reducible exact Pull.here | apply Pull.there))))) (new_spec _ _ (by omega) (by omega) (by omega)) ?_
  rintro _ _ _ ⟨q, mb, rfl, rfl, rfl⟩
  refine L.norm (by repeat (first | with_reducible exact AppL.nil | apply AppL.cons)) (by repeat (first | with_reducible exact AppL.nil | apply AppL.cons)) ?_
  refine L.move rfl rfl ?_
  refine L.extract rfl rfl rfl ?_
  refine L.extract rfl rfl rfl ?_
  refine L.assign rfl rfl ?_
  refine L.assign rfl rfl ?_
  refine L.nil ?_
  refine T.thenN ?_
  refine T.seq ?_
  refine T.region ?_
  refine L.loadA rfl ag24 rfl (by first | exact CellsN.ofM (by repeat (first | with_reducible exact mem_head | apply mem_tail)) (by repeat (first | exact AtN.nil | apply AtN.take | apply AtN.skip)) | exact CellsN.ofD (by repeat (first | with_reducible exact mem_head | apply mem_tail)) rfl | exact CellsN.ofF (by repeat (first | with_reducible exact mem_head | apply mem_tail)) (by repeat (first | exact AtN.nil | apply AtN.take | apply AtN.skip)) | exact CellsN.ofDs (by repeat (first | with_reducible exact mem_head | apply mem_tail)) (by repeat (first | exact AtN.nil | apply AtN.take | apply AtN.skip))) ?_
  refine L.call rfl (evs.cons rfl <| evs.nil) (by repeat (first | exact SubD.refl _ | exact SubD.nil _ | refine SubD.cons (by repeat (first | with_reducible exact mem_head | apply mem_tail)) ?_ | apply SubD.skip)) (by repeat (first | exact Sel.nil | (apply Sel.cons; focus (repeat (first | with_reducible exact Pull.here | apply Pull.there))))) (new_spec _ _ (by omega) (by omega) (by omega)) ?_
  rintro _ _ _ ⟨q2, mb2, rfl, rfl, rfl⟩
  refine L.norm (by repeat (first | with_reducible exact AppL.nil | apply AppL.cons)) (by repeat (first | with_reducible exact AppL.nil | apply AppL.cons)) ?_
  refine L.move rfl rfl ?_
  refine L.extract rfl rfl rfl ?_
  refine L.extract rfl rfl rfl ?_
  refine L.assign rfl rfl ?_
  refine L.assign rfl rfl ?_
  refine L.nil ?_
  refine T.thenN ?_
  refine T.seq ?_
  refine T.seq ?_
  refine T.region ?_
  refine L.call rfl (evs.nil) (by repeat (first | exact SubD.refl _ | exact SubD.nil _ | refine SubD.cons (by repeat (first | with_reducible exact mem_head | apply mem_tail)) ?_ | apply SubD.skip)) (by repeat (first | exact Sel.nil | (apply Sel.cons; focus (repeat (first | with_reducible exact Pull.here | apply Pull.there))))) (awake_spec) ?_
  rintro _ _ _ ⟨rfl, rfl, rfl⟩
  refine L.norm (by repeat (first | with_reducible exact AppL.nil | apply AppL.cons)) (by repeat (first | with_reducible exact AppL.nil | apply AppL.cons)) ?_
  refine L.notB rfl rfl ?_
  refine L.move rfl rfl ?_
  refine L.guardT (dj := 32) rfl rfl rfl ?_
  refine L.move rfl rfl ?_
  refine L.guardT (dj := 32) rfl rfl rfl ?_
  refine L.neI rfl rfl rfl ?_
  refine L.pickF rfl rfl rfl ?_
  refine L.move rfl rfl ?_
  refine L.known (t := 36) rfl (show _ = Value.bool false from rfl) ?_
  refine L.guardT (dj := 36) rfl rfl rfl ?_
  refine L.move rfl rfl ?_
  refine L.guardT (dj := 36) rfl rfl rfl ?_
  refine L.neI rfl rfl rfl ?_
  refine L.pickF rfl rfl rfl ?_
  refine L.nil ?_
  refine T.thenN ?_
  refine T.condF rfl rfl ?_
  refine T.skip ?_
  refine T.thenN ?_
  refine T.seq ?_
  refine T.seq ?_
  refine T.region ?_
  refine L.assign rfl rfl ?_
  refine L.nil ?_
  refine T.thenN ?_
  refine T.block ?_
  refine T.loop (fun K' D' M' m => ∃ (k : Nat) (la lb : List (Int × Int × Int)), (k ≤ 50 ∧ AInv E Mo la lb) ∧ K' = [(12, .int .i64 k)] ∧ D' = [] ∧ M' = [cl q 46 [.int .i64 E, .int .i64 Mo, .map (some mb)], mp mb iK shV la, cl q2 46 [.int .i64 E, .int .i64 Mo, .map (some mb2)], mp mb2 iK shV lb] ∧ m = 50 - k) (.cons (t := 2) rfl <| .cons (t := 7) rfl <| .cons (t := 8) rfl <| .cons (t := 10) rfl <| SubK.nil _) (⟨0, [], [], ⟨by omega, ainv_0 (by omega)⟩, rfl, rfl, rfl, rfl⟩) (.cons (t := 12) rfl <| SubK.nil _) (by repeat (first | exact SubD.refl _ | exact SubD.nil _ | refine SubD.cons (by repeat (first | with_reducible exact mem_head | apply mem_tail)) ?_ | apply SubD.skip)) (by repeat (first | exact Sel.nil | (apply Sel.cons; focus (repeat (first | with_reducible exact Pull.here | apply Pull.there))))) ?_
  rintro K1 D1 M1 m1 ⟨k, la, lb, ⟨hk, hI⟩, rfl, rfl, rfl, rfl⟩
  refine T.norm3 (by repeat (first | with_reducible exact AppL.nil | apply AppL.cons)) (by repeat (first | with_reducible exact AppL.nil | apply AppL.cons)) (by repeat (first | with_reducible exact AppL.nil | apply AppL.cons)) ?_
  refine T.seq ?_
  refine T.seq ?_
  refine T.region ?_
  refine L.move rfl rfl ?_
  refine L.move rfl rfl ?_
  refine L.lenSl rfl Try.underlying22 rfl ?_
  refine L.ltI rfl rfl rfl ?_
  refine L.move rfl rfl ?_
  refine L.part (t := 44) rfl (fun h2 => ?_) (fun h2 => ?_)
  · try simp only [decide_eq_true_eq, decide_eq_false_iff_not, Bool.not_eq_true', Bool.not_eq_false', Bool.and_eq_true, Bool.or_eq_true] at h2
    refine L.guardT (dj := 44) rfl rfl rfl ?_
    refine L.move rfl rfl ?_
    refine L.guardT (dj := 44) rfl rfl rfl ?_
    refine L.ltI rfl rfl rfl ?_
    refine L.pickT rfl rfl rfl ?_
    refine L.nil ?_
    refine T.thenN ?_
    refine T.cond rfl (fun h3 => ?_) (fun h3 => ?_)
    · try simp only [decide_eq_true_eq, decide_eq_false_iff_not, Bool.not_eq_true', Bool.not_eq_false', Bool.and_eq_true, Bool.or_eq_true] at h3
      refine T.skip ?_
      refine T.thenN ?_
      refine T.seq ?_
      refine T.block ?_
      refine T.seq ?_
      refine T.region ?_
      refine L.move rfl rfl ?_
      refine L.move rfl rfl ?_
      obtain ⟨⟨xn, xc, xt⟩, hxk⟩ := ex_get (l := xs) (k := k) (by omega)
      refine L.idx (i := k) rfl Try.underlying22 sz33 rfl rfl (by repeat (first | with_reducible exact mem_head | apply mem_tail)) rfl (show (xs.map e33)[k]? = some [Value.int .i64 xn, Value.int .i64 xc, Value.int .i64 xt] from map_get hxk) (fun b o => ?_)
      refine L.loadA rfl ag33 rfl (by first | exact CellsN.ofM (by repeat (first | with_reducible exact mem_head | apply mem_tail)) (by repeat (first | exact AtN.nil | apply AtN.take | apply AtN.skip)) | exact CellsN.ofD (by repeat (first | with_reducible exact mem_head | apply mem_tail)) rfl | exact CellsN.ofF (by repeat (first | with_reducible exact mem_head | apply mem_tail)) (by repeat (first | exact AtN.nil | apply AtN.take | apply AtN.skip)) | exact CellsN.ofDs (by repeat (first | with_reducible exact mem_head | apply mem_tail)) (by repeat (first | exact AtN.nil | apply AtN.take | apply AtN.skip))) ?_
      refine L.alloc rfl ze33 (fun b4 => ?_)
      refine L.storeA ag33 rfl rfl rfl (by repeat (first | exact One.nil | refine One.cons rfl ?_ | assumption)) (by repeat (first | with_reducible exact Upd.here | apply Upd.there)) (by repeat (first | exact SetAt.here | exact SetAt.none | exact SetAt.whole rfl | apply SetAt.more | apply SetAt.there)) ?_
      refine L.nil ?_
      refine T.thenN ?_
      refine T.seq ?_
      refine T.regionQ (by kernel_rfl) (by kernel_rfl) ?_
      first | refine L.field0 rfl fo33_0 rfl ?_ | refine L.field rfl fo33_0 rfl ?_
      refine L.load rfl sc3 rfl (by first | exact Cells.ofM (by repeat (first | with_reducible exact mem_head | apply mem_tail)) (by repeat (first | exact AtN.nil | apply AtN.take | apply AtN.skip)) | exact Cells.ofD (by repeat (first | with_reducible exact mem_head | apply mem_tail)) | exact Cells.ofF (by repeat (first | with_reducible exact mem_head | apply mem_tail)) (by repeat (first | exact AtN.nil | apply AtN.take | apply AtN.skip)) | exact Cells.ofDs (by repeat (first | with_reducible exact mem_head | apply mem_tail)) (by repeat (first | exact AtN.nil | apply AtN.take | apply AtN.skip))) ?_
      refine L.andM rfl rfl rfl (k := 3) (by decide) (by decide) ?_
      first | refine L.field0 rfl fo33_2 rfl ?_ | refine L.field rfl fo33_2 rfl ?_
      refine L.load rfl sc3 rfl (by first | exact Cells.ofM (by repeat (first | with_reducible exact mem_head | apply mem_tail)) (by repeat (first | exact AtN.nil | apply AtN.take | apply AtN.skip)) | exact Cells.ofD (by repeat (first | with_reducible exact mem_head | apply mem_tail)) | exact Cells.ofF (by repeat (first | with_reducible exact mem_head | apply mem_tail)) (by repeat (first | exact AtN.nil | apply AtN.take | apply AtN.skip)) | exact Cells.ofDs (by repeat (first | with_reducible exact mem_head | apply mem_tail)) (by repeat (first | exact AtN.nil | apply AtN.take | apply AtN.skip))) ?_
      refine L.callF rfl (evs.cons rfl <| evs.nil) (by repeat (first | exact SubD.refl _ | exact SubD.nil _ | refine SubD.cons (by repeat (first | with_reducible exact mem_head | apply mem_tail)) ?_ | apply SubD.skip)) (by repeat (first | exact Sel.nil | (apply Sel.cons; focus (repeat (first | with_reducible exact Pull.here | apply Pull.there))))) (tick_spec _) (by rintro u D1 M1 ⟨rfl, rfl, rfl⟩; exact ⟨rfl, _, (by repeat (first | with_reducible exact AppL.nil | apply AppL.cons)), (by repeat (first | exact Ent.refl _ | refine Fit.cons (by repeat (first | with_reducible exact Pull.here | apply Pull.there)) ?_ | apply Ent.skip))⟩) ?_
      refine L.assign rfl rfl ?_
      refine L.assign rfl rfl ?_
      refine L.nilQ ?_
      obtain ⟨xm, hxm, hxm1, hxm2⟩ : ∃ m : Int, m = xn % (7 + 1) ∧ 0 ≤ m ∧ m ≤ 7 := ⟨_, rfl, by omega, by omega⟩
      rw [← hxm]
      obtain ⟨t, ht, ht1, ht2⟩ : ∃ t : Int, t = xt % 100000 ∧ 0 ≤ t ∧ t < 100000 := ⟨_, rfl, by omega, by omega⟩
      rw [← ht]
      refine T.thenN ?_
      refine T.seq ?_
      refine T.region ?_
      refine L.move rfl rfl ?_
      refine L.move rfl rfl ?_
      first | refine L.field0 rfl fo33_1 rfl ?_ | refine L.field rfl fo33_1 rfl ?_
      refine L.load rfl sc3 rfl (by first | exact Cells.ofM (by repeat (first | with_reducible exact mem_head | apply mem_tail)) (by repeat (first | exact AtN.nil | apply AtN.take | apply AtN.skip)) | exact Cells.ofD (by repeat (first | with_reducible exact mem_head | apply mem_tail)) | exact Cells.ofF (by repeat (first | with_reducible exact mem_head | apply mem_tail)) (by repeat (first | exact AtN.nil | apply AtN.take | apply AtN.skip)) | exact Cells.ofDs (by repeat (first | with_reducible exact mem_head | apply mem_tail)) (by repeat (first | exact AtN.nil | apply AtN.take | apply AtN.skip))) ?_
      refine L.move rfl rfl ?_
      refine L.call rfl (evs.cons rfl <| evs.cons rfl <| evs.cons rfl <| evs.cons rfl <| evs.nil) (by repeat (first | exact SubD.refl _ | exact SubD.nil _ | refine SubD.cons (by repeat (first | with_reducible exact mem_head | apply mem_tail)) ?_ | apply SubD.skip)) (by repeat (first | exact Sel.nil | (apply Sel.cons; focus (repeat (first | with_reducible exact Pull.here | apply Pull.there))))) (take_spec (mb := mb) hI.qa (by omega) (by omega)) ?_
      rintro _ _ _ ⟨rfl, rfl, rfl⟩
      refine L.norm (by repeat (first | with_reducible exact AppL.nil | apply AppL.cons)) (by repeat (first | with_reducible exact AppL.nil | apply AppL.cons)) ?_
      refine L.assign rfl rfl ?_
      refine L.nil ?_
      refine T.thenN ?_
      refine T.seq ?_
      refine T.region ?_
      refine L.move rfl rfl ?_
      refine L.eqI rfl rfl rfl ?_
      refine L.move rfl rfl ?_
      refine L.part (t := 68) rfl (fun h5 => ?_) (fun h5 => ?_)
      · try simp only [decide_eq_true_eq, decide_eq_false_iff_not, Bool.not_eq_true', Bool.not_eq_false', Bool.and_eq_true, Bool.or_eq_true] at h5
        have hn3 := h5
        refine L.guardT (dj := 68) rfl rfl rfl ?_
        refine L.move rfl rfl ?_
        refine L.guardT (dj := 68) rfl rfl rfl ?_
        refine L.move rfl rfl ?_
        refine L.guardT (dj := 68) rfl rfl rfl ?_
        first | refine L.field0 rfl fo33_1 rfl ?_ | refine L.field rfl fo33_1 rfl ?_
        refine L.guardT (dj := 68) rfl rfl rfl ?_
        refine L.load rfl sc3 rfl (by first | exact Cells.ofM (by repeat (first | with_reducible exact mem_head | apply mem_tail)) (by repeat (first | exact AtN.nil | apply AtN.take | apply AtN.skip)) | exact Cells.ofD (by repeat (first | with_reducible exact mem_head | apply mem_tail)) | exact Cells.ofF (by repeat (first | with_reducible exact mem_head | apply mem_tail)) (by repeat (first | exact AtN.nil | apply AtN.take | apply AtN.skip)) | exact Cells.ofDs (by repeat (first | with_reducible exact mem_head | apply mem_tail)) (by repeat (first | exact AtN.nil | apply AtN.take | apply AtN.skip))) ?_
        refine L.guardT (dj := 68) rfl rfl rfl ?_
        refine L.move rfl rfl ?_
        refine L.guardT (dj := 68) rfl rfl rfl ?_
        refine L.call rfl (evs.cons rfl <| evs.cons rfl <| evs.cons rfl <| evs.cons rfl <| evs.nil) (by repeat (first | exact SubD.refl _ | exact SubD.nil _ | refine SubD.cons (by repeat (first | with_reducible exact mem_head | apply mem_tail)) ?_ | apply SubD.skip)) (by repeat (first | exact Sel.nil | (apply Sel.cons; focus (repeat (first | with_reducible exact Pull.here | apply Pull.there))))) (take_spec (mb := mb2) hI.qb (by omega) (by omega)) ?_
        rintro _ _ _ ⟨rfl, rfl, rfl⟩
        refine L.norm (by repeat (first | with_reducible exact AppL.nil | apply AppL.cons)) (by repeat (first | with_reducible exact AppL.nil | apply AppL.cons)) ?_
        refine L.guardT (dj := 68) rfl rfl rfl ?_
        refine L.move rfl rfl ?_
        refine L.guardT (dj := 68) rfl rfl rfl ?_
        refine L.neqB Try.underlying4 rfl rfl rfl ?_
        refine L.pickT rfl rfl rfl ?_
        refine L.nil ?_
        refine T.thenN ?_
        refine T.cond rfl (fun h6 => ?_) (fun h6 => ?_)
        · try simp only [decide_eq_true_eq, decide_eq_false_iff_not, Bool.not_eq_true', Bool.not_eq_false', Bool.and_eq_true, Bool.or_eq_true] at h6
          subst hn3; rw [takeB_congr hI.same] at *; simp_all
        · try simp only [decide_eq_true_eq, decide_eq_false_iff_not, Bool.not_eq_true', Bool.not_eq_false', Bool.and_eq_true, Bool.or_eq_true] at h6
          refine T.skip ?_
          refine T.blkN ?_
          refine T.thenN ?_
          refine T.region ?_
          refine L.move rfl rfl ?_
          refine L.addN rfl rfl rfl (by omega) ?_
          refine L.assign rfl rfl ?_
          refine L.nil ?_
          refine T.thenN ?_
          exact T.back ⟨k + 1, _, _, ⟨by omega, ainv_3 hI hn3 (by omega) (by omega)⟩, rfl, rfl, rfl, rfl⟩ (by omega) (.cons (t := 12) rfl <| SubK.nil _) (.cons (t := 2) rfl <| .cons (t := 7) rfl <| .cons (t := 8) rfl <| .cons (t := 10) rfl <| SubK.nil _) (by repeat (first | exact SubD.refl _ | exact SubD.nil _ | refine SubD.cons (by repeat (first | with_reducible exact mem_head | apply mem_tail)) ?_ | apply SubD.skip)) (by repeat (first | exact SubD.refl _ | exact SubD.nil _ | refine SubD.cons (by repeat (first | with_reducible exact mem_head | apply mem_tail)) ?_ | apply SubD.skip)) (by repeat (first | exact Ent.refl _ | refine Fit.cons (by repeat (first | with_reducible exact Pull.here | apply Pull.there)) ?_ | apply Ent.skip))
      · try simp only [decide_eq_true_eq, decide_eq_false_iff_not, Bool.not_eq_true', Bool.not_eq_false', Bool.and_eq_true, Bool.or_eq_true] at h5
        have hn3 := h5
        refine L.guardF (dj := 68) (c := false) rfl rfl rfl rfl rfl (by decide) ?_
        refine L.guardF (dj := 68) (c := false) rfl rfl rfl rfl rfl (by decide) ?_
        refine L.guardF (dj := 68) (c := false) rfl rfl rfl rfl rfl (by decide) ?_
        refine L.guardF (dj := 68) (c := false) rfl rfl rfl rfl rfl (by decide) ?_
        refine L.guardF (dj := 68) (c := false) rfl rfl rfl rfl rfl (by decide) ?_
        refine L.guardF (dj := 68) (c := false) rfl rfl rfl rfl rfl (by decide) ?_
        refine L.guardF (dj := 68) (c := false) rfl rfl rfl rfl rfl (by decide) ?_
        refine L.guardF (dj := 68) (c := false) rfl rfl rfl rfl rfl (by decide) ?_
        refine L.pickF rfl rfl rfl ?_
        refine L.nil ?_
        refine T.thenN ?_
        refine T.condF rfl rfl ?_
        refine T.skip ?_
        refine T.blkN ?_
        refine T.thenN ?_
        refine T.region ?_
        refine L.move rfl rfl ?_
        refine L.addN rfl rfl rfl (by omega) ?_
        refine L.assign rfl rfl ?_
        refine L.nil ?_
        refine T.thenN ?_
        exact T.back ⟨k + 1, _, _, ⟨by omega, ainv_x hI hn3 (by omega) (by omega)⟩, rfl, rfl, rfl, rfl⟩ (by omega) (.cons (t := 12) rfl <| SubK.nil _) (.cons (t := 2) rfl <| .cons (t := 7) rfl <| .cons (t := 8) rfl <| .cons (t := 10) rfl <| SubK.nil _) (by repeat (first | exact SubD.refl _ | exact SubD.nil _ | refine SubD.cons (by repeat (first | with_reducible exact mem_head | apply mem_tail)) ?_ | apply SubD.skip)) (by repeat (first | exact SubD.refl _ | exact SubD.nil _ | refine SubD.cons (by repeat (first | with_reducible exact mem_head | apply mem_tail)) ?_ | apply SubD.skip)) (by repeat (first | exact Ent.refl _ | refine Fit.cons (by repeat (first | with_reducible exact Pull.here | apply Pull.there)) ?_ | apply Ent.skip))
    · try simp only [decide_eq_true_eq, decide_eq_false_iff_not, Bool.not_eq_true', Bool.not_eq_false', Bool.and_eq_true, Bool.or_eq_true] at h3
      refine T.exit ?_
      refine T.thenX ?_
      refine T.thenX ?_
      refine T.blkX ?_
      refine T.thenN ?_
      refine T.seq ?_
      refine T.regionQ (by kernel_rfl) (by kernel_rfl) ?_
      refine L.move rfl rfl ?_
      refine L.callF rfl (evs.cons rfl <| evs.cons rfl <| evs.cons rfl <| evs.nil) (by repeat (first | exact SubD.refl _ | exact SubD.nil _ | refine SubD.cons (by repeat (first | with_reducible exact mem_head | apply mem_tail)) ?_ | apply SubD.skip)) (by repeat (first | exact Sel.nil | (apply Sel.cons; focus (repeat (first | with_reducible exact Pull.here | apply Pull.there))))) (has_spec (mb := mb) hI.qa (by omega) (by omega)) (by rintro u D1 M1 ⟨rfl, rfl, rfl⟩; exact ⟨rfl, _, (by repeat (first | with_reducible exact AppL.nil | apply AppL.cons)), (by repeat (first | exact Ent.refl _ | refine Fit.cons (by repeat (first | with_reducible exact Pull.here | apply Pull.there)) ?_ | apply Ent.skip))⟩) ?_
      refine L.move rfl rfl ?_
      refine L.callF rfl (evs.cons rfl <| evs.cons rfl <| evs.cons rfl <| evs.nil) (by repeat (first | exact SubD.refl _ | exact SubD.nil _ | refine SubD.cons (by repeat (first | with_reducible exact mem_head | apply mem_tail)) ?_ | apply SubD.skip)) (by repeat (first | exact Sel.nil | (apply Sel.cons; focus (repeat (first | with_reducible exact Pull.here | apply Pull.there))))) (has_spec (mb := mb2) hI.qb (by omega) (by omega)) (by rintro u D1 M1 ⟨rfl, rfl, rfl⟩; exact ⟨rfl, _, (by repeat (first | with_reducible exact AppL.nil | apply AppL.cons)), (by repeat (first | exact Ent.refl _ | refine Fit.cons (by repeat (first | with_reducible exact Pull.here | apply Pull.there)) ?_ | apply Ent.skip))⟩) ?_
      refine L.eqI rfl rfl rfl ?_
      refine L.move rfl rfl ?_
      refine L.known (t := 83) rfl (show _ = Value.bool true from congrArg Value.bool (decide_eq_true (hasF_congr hI.same))) ?_
      refine L.guardT (dj := 83) rfl rfl rfl ?_
      refine L.move rfl rfl ?_
      refine L.guardT (dj := 83) rfl rfl rfl ?_
      refine L.callF rfl (evs.cons rfl <| evs.cons rfl <| evs.cons rfl <| evs.nil) (by repeat (first | exact SubD.refl _ | exact SubD.nil _ | refine SubD.cons (by repeat (first | with_reducible exact mem_head | apply mem_tail)) ?_ | apply SubD.skip)) (by repeat (first | exact Sel.nil | (apply Sel.cons; focus (repeat (first | with_reducible exact Pull.here | apply Pull.there))))) (has_spec (mb := mb2) hI.qb (by omega) (by omega)) (by rintro u D1 M1 ⟨rfl, rfl, rfl⟩; exact ⟨rfl, _, (by repeat (first | with_reducible exact AppL.nil | apply AppL.cons)), (by repeat (first | exact Ent.refl _ | refine Fit.cons (by repeat (first | with_reducible exact Pull.here | apply Pull.there)) ?_ | apply Ent.skip))⟩) ?_
      refine L.guardT (dj := 83) rfl rfl rfl ?_
      first | refine L.field0 rfl fo24_1 rfl ?_ | refine L.field rfl fo24_1 rfl ?_
      refine L.guardT (dj := 83) rfl rfl rfl ?_
      refine L.load rfl sc3 rfl (by first | exact Cells.ofM (by repeat (first | with_reducible exact mem_head | apply mem_tail)) (by repeat (first | exact AtN.nil | apply AtN.take | apply AtN.skip)) | exact Cells.ofD (by repeat (first | with_reducible exact mem_head | apply mem_tail)) | exact Cells.ofF (by repeat (first | with_reducible exact mem_head | apply mem_tail)) (by repeat (first | exact AtN.nil | apply AtN.take | apply AtN.skip)) | exact Cells.ofDs (by repeat (first | with_reducible exact mem_head | apply mem_tail)) (by repeat (first | exact AtN.nil | apply AtN.take | apply AtN.skip))) ?_
      refine L.guardT (dj := 83) rfl rfl rfl ?_
      refine L.eqI rfl rfl rfl ?_
      refine L.pickT rfl rfl rfl ?_
      refine L.assign rfl rfl ?_
      refine L.nilQ ?_
      refine T.thenN ?_
      refine T.ret ?_
      exact T.ret1 rfl rfl ⟨congrArg Value.bool (decide_eq_true (by simp [hasF, hI.four])), rfl, rfl⟩ (by repeat (first | exact SubD.refl _ | exact SubD.nil _ | refine SubD.cons (by repeat (first | with_reducible exact mem_head | apply mem_tail)) ?_ | apply SubD.skip)) (by repeat (first | exact Ent.refl _ | refine Fit.cons (by repeat (first | with_reducible exact Pull.here | apply Pull.there)) ?_ | apply Ent.skip))
  · try simp only [decide_eq_true_eq, decide_eq_false_iff_not, Bool.not_eq_true', Bool.not_eq_false', Bool.and_eq_true, Bool.or_eq_true] at h2
    refine L.guardF (dj := 44) (c := false) rfl rfl rfl rfl rfl (by decide) ?_
    refine L.guardF (dj := 44) (c := false) rfl rfl rfl rfl rfl (by decide) ?_
    refine L.pickF rfl rfl rfl ?_
    refine L.nil ?_
    refine T.thenN ?_
    refine T.condF rfl rfl ?_
    refine T.exit ?_
    refine T.thenX ?_
    refine T.thenX ?_
    refine T.blkX ?_
    refine T.thenN ?_
    refine T.seq ?_
    refine T.regionQ (by kernel_rfl) (by kernel_rfl) ?_
    refine L.move rfl rfl ?_
    refine L.callF rfl (evs.cons rfl <| evs.cons rfl <| evs.cons rfl <| evs.nil) (by repeat (first | exact SubD.refl _ | exact SubD.nil _ | refine SubD.cons (by repeat (first | with_reducible exact mem_head | apply mem_tail)) ?_ | apply SubD.skip)) (by repeat (first | exact Sel.nil | (apply Sel.cons; focus (repeat (first | with_reducible exact Pull.here | apply Pull.there))))) (has_spec (mb := mb) hI.qa (by omega) (by omega)) (by rintro u D1 M1 ⟨rfl, rfl, rfl⟩; exact ⟨rfl, _, (by repeat (first | with_reducible exact AppL.nil | apply AppL.cons)), (by repeat (first | exact Ent.refl _ | refine Fit.cons (by repeat (first | with_reducible exact Pull.here | apply Pull.there)) ?_ | apply Ent.skip))⟩) ?_
    refine L.move rfl rfl ?_
    refine L.callF rfl (evs.cons rfl <| evs.cons rfl <| evs.cons rfl <| evs.nil) (by repeat (first | exact SubD.refl _ | exact SubD.nil _ | refine SubD.cons (by repeat (first | with_reducible exact mem_head | apply mem_tail)) ?_ | apply SubD.skip)) (by repeat (first | exact Sel.nil | (apply Sel.cons; focus (repeat (first | with_reducible exact Pull.here | apply Pull.there))))) (has_spec (mb := mb2) hI.qb (by omega) (by omega)) (by rintro u D1 M1 ⟨rfl, rfl, rfl⟩; exact ⟨rfl, _, (by repeat (first | with_reducible exact AppL.nil | apply AppL.cons)), (by repeat (first | exact Ent.refl _ | refine Fit.cons (by repeat (first | with_reducible exact Pull.here | apply Pull.there)) ?_ | apply Ent.skip))⟩) ?_
    refine L.eqI rfl rfl rfl ?_
    refine L.move rfl rfl ?_
    refine L.known (t := 83) rfl (show _ = Value.bool true from congrArg Value.bool (decide_eq_true (hasF_congr hI.same))) ?_
    refine L.guardT (dj := 83) rfl rfl rfl ?_
    refine L.move rfl rfl ?_
    refine L.guardT (dj := 83) rfl rfl rfl ?_
    refine L.callF rfl (evs.cons rfl <| evs.cons rfl <| evs.cons rfl <| evs.nil) (by repeat (first | exact SubD.refl _ | exact SubD.nil _ | refine SubD.cons (by repeat (first | with_reducible exact mem_head | apply mem_tail)) ?_ | apply SubD.skip)) (by repeat (first | exact Sel.nil | (apply Sel.cons; focus (repeat (first | with_reducible exact Pull.here | apply Pull.there))))) (has_spec (mb := mb2) hI.qb (by omega) (by omega)) (by rintro u D1 M1 ⟨rfl, rfl, rfl⟩; exact ⟨rfl, _, (by repeat (first | with_reducible exact AppL.nil | apply AppL.cons)), (by repeat (first | exact Ent.refl _ | refine Fit.cons (by repeat (first | with_reducible exact Pull.here | apply Pull.there)) ?_ | apply Ent.skip))⟩) ?_
    refine L.guardT (dj := 83) rfl rfl rfl ?_
    first | refine L.field0 rfl fo24_1 rfl ?_ | refine L.field rfl fo24_1 rfl ?_
    refine L.guardT (dj := 83) rfl rfl rfl ?_
    refine L.load rfl sc3 rfl (by first | exact Cells.ofM (by repeat (first | with_reducible exact mem_head | apply mem_tail)) (by repeat (first | exact AtN.nil | apply AtN.take | apply AtN.skip)) | exact Cells.ofD (by repeat (first | with_reducible exact mem_head | apply mem_tail)) | exact Cells.ofF (by repeat (first | with_reducible exact mem_head | apply mem_tail)) (by repeat (first | exact AtN.nil | apply AtN.take | apply AtN.skip)) | exact Cells.ofDs (by repeat (first | with_reducible exact mem_head | apply mem_tail)) (by repeat (first | exact AtN.nil | apply AtN.take | apply AtN.skip))) ?_
    refine L.guardT (dj := 83) rfl rfl rfl ?_
    refine L.eqI rfl rfl rfl ?_
    refine L.pickT rfl rfl rfl ?_
    refine L.assign rfl rfl ?_
    refine L.nilQ ?_
    refine T.thenN ?_
    refine T.ret ?_
    exact T.ret1 rfl rfl ⟨congrArg Value.bool (decide_eq_true (by simp [hasF, hI.four])), rfl, rfl⟩ (by repeat (first | exact SubD.refl _ | exact SubD.nil _ | refine SubD.cons (by repeat (first | with_reducible exact mem_head | apply mem_tail)) ?_ | apply SubD.skip)) (by repeat (first | exact Ent.refl _ | refine Fit.cons (by repeat (first | with_reducible exact Pull.here | apply Pull.there)) ?_ | apply Ent.skip))
theorem plays_law (each most : Int) (a : Option Addr) (len cap : Nat) (xs : List (Int × Int × Int)) (hx : xs.length = len) (hg : ∀ x ∈ xs, g33 x) (hb : len ≤ 4611686018427387904) : Spec Try.prog 3 [.int .i64 each, .int .i64 most, .slice a len cap] [rsl 3 a len cap (xs.map e33)] [] (fun v D' M' => v = .bool true ∧ D' = [] ∧ M' = []) := by
  refine Spec.intro (n := 98) Try.func3 rfl rfl (by decide) (Nat.le_of_ble_eq_true rfl) rfl (fun _ => (by repeat (first | with_reducible exact AppL.nil | apply AppL.cons))) (fun _ => (by repeat (first | with_reducible exact AppL.nil | apply AppL.cons))) ?_
  intro σ D M
  refine T.seq ?_
  refine T.region ?_
  refine L.assign rfl rfl ?_
  refine L.nil ?_
  refine T.thenN ?_
  refine T.seq ?_
  refine T.region ?_
  refine L.move rfl rfl ?_
  refine L.move rfl rfl ?_
  refine L.call rfl (evs.cons rfl <| evs.cons rfl <| evs.nil) (by repeat (first | exact SubD.refl _ | exact SubD.nil _ | refine SubD.cons (by repeat (first | with_reducible exact mem_head | apply mem_tail)) ?_ | apply SubD.skip)) (by repeat (first | exact Sel.nil | (apply Sel.cons; focus (repeat (first | with_reducible exact Pull.here | apply Pull.there))))) (rate_spec _ _) ?_
  rintro _ _ _ ⟨E, Mo, hE1, hE2, hE3, hE4, rfl, rfl, rfl⟩
  refine L.norm (by repeat (first | with_reducible exact AppL.nil | apply AppL.cons)) (by repeat (first | with_reducible exact AppL.nil | apply AppL.cons)) ?_
  refine L.alloc rfl ze24 (fun b1 => ?_)
  refine L.storeA ag24 rfl rfl rfl (by repeat (first | exact One.nil | refine One.cons rfl ?_ | assumption)) (by repeat (first | with_reducible exact Upd.here | apply Upd.there)) (by repeat (first | exact SetAt.here | exact SetAt.none | exact SetAt.whole rfl | apply SetAt.more | apply SetAt.there)) ?_
  refine L.nil ?_
  refine T.thenN ?_
  refine T.seq ?_
  refine T.region ?_
  refine L.loadA rfl ag24 rfl (by first | exact CellsN.ofM (by repeat (first | with_reducible exact mem_head | apply mem_tail)) (by repeat (first | exact AtN.nil | apply AtN.take | apply AtN.skip)) | exact CellsN.ofD (by repeat (first | with_reducible exact mem_head | apply mem_tail)) rfl | exact CellsN.ofF (by repeat (first | with_reducible exact mem_head | apply mem_tail)) (by repeat (first | exact AtN.nil | apply AtN.take | apply AtN.skip)) | exact CellsN.ofDs (by repeat (first | with_reducible exact mem_head | apply mem_tail)) (by repeat (first | exact AtN.nil | apply AtN.take | apply AtN.skip))) ?_
  refine L.call rfl (evs.cons rfl <| evs.nil) (by repeat (first | exact SubD.refl _ | exact SubD.nil _ | refine SubD.cons (by repeat (first | with_reducible exact mem_head | apply mem_tail)) ?_ | apply SubD.skip)) (by repeat (first | exact Sel.nil | (apply Sel.cons; focus (repeat (first | with_reducible exact Pull.here | apply Pull.there))))) (new_spec _ _ (by omega) (by omega) (by omega)) ?_
  rintro _ _ _ ⟨q, mb, rfl, rfl, rfl⟩
  refine L.norm (by repeat (first | with_reducible exact AppL.nil | apply AppL.cons)) (by repeat (first | with_reducible exact AppL.nil | apply AppL.cons)) ?_
  refine L.move rfl rfl ?_
  refine L.extract rfl rfl rfl ?_
  refine L.extract rfl rfl rfl ?_
  refine L.assign rfl rfl ?_
  refine L.assign rfl rfl ?_
  refine L.nil ?_
  refine T.thenN ?_
  refine T.seq ?_
  refine T.seq ?_
  refine T.region ?_
  refine L.call rfl (evs.nil) (by repeat (first | exact SubD.refl _ | exact SubD.nil _ | refine SubD.cons (by repeat (first | with_reducible exact mem_head | apply mem_tail)) ?_ | apply SubD.skip)) (by repeat (first | exact Sel.nil | (apply Sel.cons; focus (repeat (first | with_reducible exact Pull.here | apply Pull.there))))) (awake_spec) ?_
  rintro _ _ _ ⟨rfl, rfl, rfl⟩
  refine L.norm (by repeat (first | with_reducible exact AppL.nil | apply AppL.cons)) (by repeat (first | with_reducible exact AppL.nil | apply AppL.cons)) ?_
  refine L.notB rfl rfl ?_
  refine L.move rfl rfl ?_
  refine L.guardT (dj := 28) rfl rfl rfl ?_
  refine L.move rfl rfl ?_
  refine L.guardT (dj := 28) rfl rfl rfl ?_
  refine L.neI rfl rfl rfl ?_
  refine L.pickF rfl rfl rfl ?_
  refine L.nil ?_
  refine T.thenN ?_
  refine T.condF rfl rfl ?_
  refine T.skip ?_
  refine T.thenN ?_
  refine T.seq ?_
  refine T.region ?_
  refine L.buildSlice rfl bs31 (by decide) (BP.doneE (out := []) rfl) (fun b2 => ?_)
  refine L.assign rfl rfl ?_
  refine L.nil ?_
  refine T.toOwn (len := 0) (by repeat (first | with_reducible exact Pull.here | apply Pull.there)) (rows := List.map sr []) (sz := 3) (by rfl) rfl (by simp) ?_
  refine T.ownRsl (by repeat (first | with_reducible exact Pull.here | apply Pull.there)) ?_
  refine T.thenN ?_
  refine T.seq ?_
  refine T.seq ?_
  refine T.region ?_
  refine L.assign rfl rfl ?_
  refine L.nil ?_
  refine T.thenN ?_
  refine T.block ?_
  refine T.loop (fun K' D' M' m => ∃ (k : Nat) (l lr : List (Int × Int × Int)) (a1 : Option Addr) (len1 cap1 : Nat), (k ≤ 50 ∧ PInv E Mo l lr k) ∧ K' = [(11, .int .i64 k), (10, .slice a1 len1 cap1)] ∧ D' = [rsl 3 a1 len1 cap1 (lr.map sr)] ∧ M' = [cl q 46 [.int .i64 E, .int .i64 Mo, .map (some mb)], mp mb iK shV l] ∧ m = 50 - k) (.cons (t := 2) rfl <| .cons (t := 7) rfl <| .cons (t := 8) rfl <| SubK.nil _) (⟨0, [], [], _, _, _, ⟨by omega, pinv_0 (by omega)⟩, rfl, rfl, rfl, rfl⟩) (.cons (t := 11) rfl <| .cons (t := 10) rfl <| SubK.nil _) (by repeat (first | exact SubD.refl _ | exact SubD.nil _ | refine SubD.cons (by repeat (first | with_reducible exact mem_head | apply mem_tail)) ?_ | apply SubD.skip)) (by repeat (first | exact Sel.nil | (apply Sel.cons; focus (repeat (first | with_reducible exact Pull.here | apply Pull.there))))) ?_
  rintro K1 D1 M1 m1 ⟨k, l, lr, a1, len1, cap1, ⟨hk, hI⟩, rfl, rfl, rfl, rfl⟩
  refine T.norm3 (by repeat (first | with_reducible exact AppL.nil | apply AppL.cons)) (by repeat (first | with_reducible exact AppL.nil | apply AppL.cons)) (by repeat (first | with_reducible exact AppL.nil | apply AppL.cons)) ?_
  refine T.seq ?_
  refine T.seq ?_
  refine T.region ?_
  refine L.move rfl rfl ?_
  refine L.move rfl rfl ?_
  refine L.lenSl rfl Try.underlying22 rfl ?_
  refine L.ltI rfl rfl rfl ?_
  refine L.move rfl rfl ?_
  refine L.part (t := 37) rfl (fun h3 => ?_) (fun h3 => ?_)
  · try simp only [decide_eq_true_eq, decide_eq_false_iff_not, Bool.not_eq_true', Bool.not_eq_false', Bool.and_eq_true, Bool.or_eq_true] at h3
    refine L.guardT (dj := 37) rfl rfl rfl ?_
    refine L.move rfl rfl ?_
    refine L.guardT (dj := 37) rfl rfl rfl ?_
    refine L.ltI rfl rfl rfl ?_
    refine L.pickT rfl rfl rfl ?_
    refine L.nil ?_
    refine T.thenN ?_
    refine T.cond rfl (fun h4 => ?_) (fun h4 => ?_)
    · try simp only [decide_eq_true_eq, decide_eq_false_iff_not, Bool.not_eq_true', Bool.not_eq_false', Bool.and_eq_true, Bool.or_eq_true] at h4
      refine T.skip ?_
      refine T.thenN ?_
      refine T.seq ?_
      refine T.block ?_
      refine T.seq ?_
      refine T.region ?_
      refine L.move rfl rfl ?_
      refine L.move rfl rfl ?_
      obtain ⟨⟨xn, xc, xt⟩, hxk⟩ := ex_get (l := xs) (k := k) (by omega)
      refine L.idx (i := k) rfl Try.underlying22 sz33 rfl rfl (by repeat (first | with_reducible exact mem_head | apply mem_tail)) rfl (show (xs.map e33)[k]? = some [Value.int .i64 xn, Value.int .i64 xc, Value.int .i64 xt] from map_get hxk) (fun b o => ?_)
      refine L.loadA rfl ag33 rfl (by first | exact CellsN.ofM (by repeat (first | with_reducible exact mem_head | apply mem_tail)) (by repeat (first | exact AtN.nil | apply AtN.take | apply AtN.skip)) | exact CellsN.ofD (by repeat (first | with_reducible exact mem_head | apply mem_tail)) rfl | exact CellsN.ofF (by repeat (first | with_reducible exact mem_head | apply mem_tail)) (by repeat (first | exact AtN.nil | apply AtN.take | apply AtN.skip)) | exact CellsN.ofDs (by repeat (first | with_reducible exact mem_head | apply mem_tail)) (by repeat (first | exact AtN.nil | apply AtN.take | apply AtN.skip))) ?_
      refine L.alloc rfl ze33 (fun b5 => ?_)
      refine L.storeA ag33 rfl rfl rfl (by repeat (first | exact One.nil | refine One.cons rfl ?_ | assumption)) (by repeat (first | with_reducible exact Upd.here | apply Upd.there)) (by repeat (first | exact SetAt.here | exact SetAt.none | exact SetAt.whole rfl | apply SetAt.more | apply SetAt.there)) ?_
      refine L.nil ?_
      refine T.thenN ?_
      refine T.seq ?_
      refine T.regionQ (by kernel_rfl) (by kernel_rfl) ?_
      first | refine L.field0 rfl fo33_0 rfl ?_ | refine L.field rfl fo33_0 rfl ?_
      refine L.load rfl sc3 rfl (by first | exact Cells.ofM (by repeat (first | with_reducible exact mem_head | apply mem_tail)) (by repeat (first | exact AtN.nil | apply AtN.take | apply AtN.skip)) | exact Cells.ofD (by repeat (first | with_reducible exact mem_head | apply mem_tail)) | exact Cells.ofF (by repeat (first | with_reducible exact mem_head | apply mem_tail)) (by repeat (first | exact AtN.nil | apply AtN.take | apply AtN.skip)) | exact Cells.ofDs (by repeat (first | with_reducible exact mem_head | apply mem_tail)) (by repeat (first | exact AtN.nil | apply AtN.take | apply AtN.skip))) ?_
      refine L.andM rfl rfl rfl (k := 3) (by decide) (by decide) ?_
      first | refine L.field0 rfl fo33_2 rfl ?_ | refine L.field rfl fo33_2 rfl ?_
      refine L.load rfl sc3 rfl (by first | exact Cells.ofM (by repeat (first | with_reducible exact mem_head | apply mem_tail)) (by repeat (first | exact AtN.nil | apply AtN.take | apply AtN.skip)) | exact Cells.ofD (by repeat (first | with_reducible exact mem_head | apply mem_tail)) | exact Cells.ofF (by repeat (first | with_reducible exact mem_head | apply mem_tail)) (by repeat (first | exact AtN.nil | apply AtN.take | apply AtN.skip)) | exact Cells.ofDs (by repeat (first | with_reducible exact mem_head | apply mem_tail)) (by repeat (first | exact AtN.nil | apply AtN.take | apply AtN.skip))) ?_
      refine L.callF rfl (evs.cons rfl <| evs.nil) (by repeat (first | exact SubD.refl _ | exact SubD.nil _ | refine SubD.cons (by repeat (first | with_reducible exact mem_head | apply mem_tail)) ?_ | apply SubD.skip)) (by repeat (first | exact Sel.nil | (apply Sel.cons; focus (repeat (first | with_reducible exact Pull.here | apply Pull.there))))) (tick_spec _) (by rintro u D1 M1 ⟨rfl, rfl, rfl⟩; exact ⟨rfl, _, (by repeat (first | with_reducible exact AppL.nil | apply AppL.cons)), (by repeat (first | exact Ent.refl _ | refine Fit.cons (by repeat (first | with_reducible exact Pull.here | apply Pull.there)) ?_ | apply Ent.skip))⟩) ?_
      refine L.assign rfl rfl ?_
      refine L.assign rfl rfl ?_
      refine L.nilQ ?_
      obtain ⟨xm, hxm, hxm1, hxm2⟩ : ∃ m : Int, m = xn % (7 + 1) ∧ 0 ≤ m ∧ m ≤ 7 := ⟨_, rfl, by omega, by omega⟩
      rw [← hxm]
      obtain ⟨t, ht, ht1, ht2⟩ : ∃ t : Int, t = xt % 100000 ∧ 0 ≤ t ∧ t < 100000 := ⟨_, rfl, by omega, by omega⟩
      rw [← ht]
      have hlr : lr.length ≤ 1000 := by have := hI.len; omega
      refine T.thenN ?_
      refine T.seq ?_
      refine T.region ?_
      refine L.move rfl rfl ?_
      refine L.move rfl rfl ?_
      first | refine L.field0 rfl fo33_1 rfl ?_ | refine L.field rfl fo33_1 rfl ?_
      refine L.load rfl sc3 rfl (by first | exact Cells.ofM (by repeat (first | with_reducible exact mem_head | apply mem_tail)) (by repeat (first | exact AtN.nil | apply AtN.take | apply AtN.skip)) | exact Cells.ofD (by repeat (first | with_reducible exact mem_head | apply mem_tail)) | exact Cells.ofF (by repeat (first | with_reducible exact mem_head | apply mem_tail)) (by repeat (first | exact AtN.nil | apply AtN.take | apply AtN.skip)) | exact Cells.ofDs (by repeat (first | with_reducible exact mem_head | apply mem_tail)) (by repeat (first | exact AtN.nil | apply AtN.take | apply AtN.skip))) ?_
      refine L.move rfl rfl ?_
      refine L.call rfl (evs.cons rfl <| evs.cons rfl <| evs.cons rfl <| evs.cons rfl <| evs.nil) (by repeat (first | exact SubD.refl _ | exact SubD.nil _ | refine SubD.cons (by repeat (first | with_reducible exact mem_head | apply mem_tail)) ?_ | apply SubD.skip)) (by repeat (first | exact Sel.nil | (apply Sel.cons; focus (repeat (first | with_reducible exact Pull.here | apply Pull.there))))) (take_spec hI.q (by omega) (by omega)) ?_
      rintro _ _ _ ⟨rfl, rfl, rfl⟩
      refine L.norm (by repeat (first | with_reducible exact AppL.nil | apply AppL.cons)) (by repeat (first | with_reducible exact AppL.nil | apply AppL.cons)) ?_
      refine L.assign rfl rfl ?_
      refine L.nil ?_
      refine T.thenN ?_
      refine T.seq ?_
      refine T.region ?_
      refine L.move rfl rfl ?_
      first | refine L.field0 rfl fo24_0 rfl ?_ | refine L.field rfl fo24_0 rfl ?_
      refine L.load rfl sc3 rfl (by first | exact Cells.ofM (by repeat (first | with_reducible exact mem_head | apply mem_tail)) (by repeat (first | exact AtN.nil | apply AtN.take | apply AtN.skip)) | exact Cells.ofD (by repeat (first | with_reducible exact mem_head | apply mem_tail)) | exact Cells.ofF (by repeat (first | with_reducible exact mem_head | apply mem_tail)) (by repeat (first | exact AtN.nil | apply AtN.take | apply AtN.skip)) | exact Cells.ofDs (by repeat (first | with_reducible exact mem_head | apply mem_tail)) (by repeat (first | exact AtN.nil | apply AtN.take | apply AtN.skip))) ?_
      first | refine L.field0 rfl fo24_1 rfl ?_ | refine L.field rfl fo24_1 rfl ?_
      refine L.load rfl sc3 rfl (by first | exact Cells.ofM (by repeat (first | with_reducible exact mem_head | apply mem_tail)) (by repeat (first | exact AtN.nil | apply AtN.take | apply AtN.skip)) | exact Cells.ofD (by repeat (first | with_reducible exact mem_head | apply mem_tail)) | exact Cells.ofF (by repeat (first | with_reducible exact mem_head | apply mem_tail)) (by repeat (first | exact AtN.nil | apply AtN.take | apply AtN.skip)) | exact Cells.ofDs (by repeat (first | with_reducible exact mem_head | apply mem_tail)) (by repeat (first | exact AtN.nil | apply AtN.take | apply AtN.skip))) ?_
      refine L.move rfl rfl ?_
      first | refine L.field0 rfl fo33_1 rfl ?_ | refine L.field rfl fo33_1 rfl ?_
      refine L.load rfl sc3 rfl (by first | exact Cells.ofM (by repeat (first | with_reducible exact mem_head | apply mem_tail)) (by repeat (first | exact AtN.nil | apply AtN.take | apply AtN.skip)) | exact Cells.ofD (by repeat (first | with_reducible exact mem_head | apply mem_tail)) | exact Cells.ofF (by repeat (first | with_reducible exact mem_head | apply mem_tail)) (by repeat (first | exact AtN.nil | apply AtN.take | apply AtN.skip)) | exact Cells.ofDs (by repeat (first | with_reducible exact mem_head | apply mem_tail)) (by repeat (first | exact AtN.nil | apply AtN.take | apply AtN.skip))) ?_
      refine L.move rfl rfl ?_
      refine L.call rfl (evs.cons rfl <| evs.cons rfl <| evs.cons rfl <| evs.cons rfl <| evs.cons rfl <| evs.cons rfl <| evs.nil) (by repeat (first | exact SubD.refl _ | exact SubD.nil _ | refine SubD.cons (by repeat (first | with_reducible exact mem_head | apply mem_tail)) ?_ | apply SubD.skip)) (by repeat (first | exact Sel.nil | (apply Sel.cons; focus (repeat (first | with_reducible exact Pull.here | apply Pull.there))))) (rtake_spec (each := E) (most := Mo) (l := lr) (by omega) hI.s hI.d (by omega) (by omega) hlr) ?_
      rintro _ _ _ ⟨a2, len2, cap2, rfl, rfl, rfl⟩
      refine L.norm (by repeat (first | with_reducible exact AppL.nil | apply AppL.cons)) (by repeat (first | with_reducible exact AppL.nil | apply AppL.cons)) ?_
      have hJ := pinv_step (n := xm) (c := xc) (now := t) hI (by omega) (by omega) (by omega)
      refine L.move rfl rfl ?_
      refine L.extract rfl rfl rfl ?_
      refine L.extract rfl rfl rfl ?_
      refine L.assign rfl rfl ?_
      refine L.assign rfl rfl ?_
      refine L.nil ?_
      refine T.thenN ?_
      refine T.seq ?_
      have hJl : (refL E Mo lr xm xc t).length ≤ 1000 := by have := hJ.len; omega
      refine T.region ?_
      refine L.move rfl rfl ?_
      refine L.assign rfl rfl ?_
      refine L.nil ?_
      refine T.thenN ?_
      refine T.seq ?_
      refine T.regionQ (by kernel_rfl) (by kernel_rfl) ?_
      refine L.move rfl rfl ?_
      refine L.move rfl rfl ?_
      refine L.neqB Try.underlying4 rfl rfl rfl ?_
      refine L.move rfl rfl ?_
      refine L.known (t := 76) rfl (show _ = Value.bool false from congrArg Value.bool (by rw [takeB_congr (hI.same _)]; simp)) ?_
      refine L.guardT (dj := 76) rfl rfl rfl ?_
      refine L.move rfl rfl ?_
      refine L.guardT (dj := 76) rfl rfl rfl ?_
      refine L.move rfl rfl ?_
      refine L.guardT (dj := 76) rfl rfl rfl ?_
      refine L.move rfl rfl ?_
      refine L.guardT (dj := 76) rfl rfl rfl ?_
      refine L.addN rfl rfl rfl (by omega) ?_
      refine L.guardT (dj := 76) rfl rfl rfl ?_
      refine L.callF rfl (evs.cons rfl <| evs.cons rfl <| evs.cons rfl <| evs.nil) (by repeat (first | exact SubD.refl _ | exact SubD.nil _ | refine SubD.cons (by repeat (first | with_reducible exact mem_head | apply mem_tail)) ?_ | apply SubD.skip)) (by repeat (first | exact Sel.nil | (apply Sel.cons; focus (repeat (first | with_reducible exact Pull.here | apply Pull.there))))) (has_spec hJ.q (by omega) (by omega)) (by rintro u D1 M1 ⟨rfl, rfl, rfl⟩; exact ⟨rfl, _, (by repeat (first | with_reducible exact AppL.nil | apply AppL.cons)), (by repeat (first | exact Ent.refl _ | refine Fit.cons (by repeat (first | with_reducible exact Pull.here | apply Pull.there)) ?_ | apply Ent.skip))⟩) ?_
      refine L.guardT (dj := 76) rfl rfl rfl ?_
      refine L.move rfl rfl ?_
      refine L.guardT (dj := 76) rfl rfl rfl ?_
      first | refine L.field0 rfl fo24_0 rfl ?_ | refine L.field rfl fo24_0 rfl ?_
      refine L.guardT (dj := 76) rfl rfl rfl ?_
      refine L.load rfl sc3 rfl (by first | exact Cells.ofM (by repeat (first | with_reducible exact mem_head | apply mem_tail)) (by repeat (first | exact AtN.nil | apply AtN.take | apply AtN.skip)) | exact Cells.ofD (by repeat (first | with_reducible exact mem_head | apply mem_tail)) | exact Cells.ofF (by repeat (first | with_reducible exact mem_head | apply mem_tail)) (by repeat (first | exact AtN.nil | apply AtN.take | apply AtN.skip)) | exact Cells.ofDs (by repeat (first | with_reducible exact mem_head | apply mem_tail)) (by repeat (first | exact AtN.nil | apply AtN.take | apply AtN.skip))) ?_
      refine L.guardT (dj := 76) rfl rfl rfl ?_
      first | refine L.field0 rfl fo24_1 rfl ?_ | refine L.field rfl fo24_1 rfl ?_
      refine L.guardT (dj := 76) rfl rfl rfl ?_
      refine L.load rfl sc3 rfl (by first | exact Cells.ofM (by repeat (first | with_reducible exact mem_head | apply mem_tail)) (by repeat (first | exact AtN.nil | apply AtN.take | apply AtN.skip)) | exact Cells.ofD (by repeat (first | with_reducible exact mem_head | apply mem_tail)) | exact Cells.ofF (by repeat (first | with_reducible exact mem_head | apply mem_tail)) (by repeat (first | exact AtN.nil | apply AtN.take | apply AtN.skip)) | exact Cells.ofDs (by repeat (first | with_reducible exact mem_head | apply mem_tail)) (by repeat (first | exact AtN.nil | apply AtN.take | apply AtN.skip))) ?_
      refine L.guardT (dj := 76) rfl rfl rfl ?_
      refine L.move rfl rfl ?_
      refine L.guardT (dj := 76) rfl rfl rfl ?_
      refine L.move rfl rfl ?_
      refine L.guardT (dj := 76) rfl rfl rfl ?_
      refine L.addN rfl rfl rfl (by omega) ?_
      refine L.guardT (dj := 76) rfl rfl rfl ?_
      refine L.callF rfl (evs.cons rfl <| evs.cons rfl <| evs.cons rfl <| evs.cons rfl <| evs.cons rfl <| evs.nil) (by repeat (first | exact SubD.refl _ | exact SubD.nil _ | refine SubD.cons (by repeat (first | with_reducible exact mem_head | apply mem_tail)) ?_ | apply SubD.skip)) (by repeat (first | exact Sel.nil | (apply Sel.cons; focus (repeat (first | with_reducible exact Pull.here | apply Pull.there))))) (rhas_spec (by omega) hJ.s (by omega) (by omega) hJl) (by rintro u D1 M1 ⟨rfl, rfl, rfl⟩; exact ⟨rfl, _, (by repeat (first | with_reducible exact AppL.nil | apply AppL.cons)), (by repeat (first | exact Ent.refl _ | refine Fit.cons (by repeat (first | with_reducible exact Pull.here | apply Pull.there)) ?_ | apply Ent.skip))⟩) ?_
      refine L.guardT (dj := 76) rfl rfl rfl ?_
      refine L.neI rfl rfl rfl ?_
      refine L.pickF rfl rfl rfl ?_
      refine L.nilQ ?_
      refine T.thenN ?_
      refine T.condF rfl (decide_eq_false (fun hne => hne (hasF_congr (hJ.same _)).symm)) ?_
      refine T.skip ?_
      refine T.blkN ?_
      refine T.thenN ?_
      refine T.region ?_
      refine L.move rfl rfl ?_
      refine L.addN rfl rfl rfl (by omega) ?_
      refine L.assign rfl rfl ?_
      refine L.nil ?_
      refine T.thenN ?_
      exact T.back ⟨k + 1, _, _, _, _, _, ⟨by omega, hJ⟩, rfl, rfl, rfl, rfl⟩ (by omega) (.cons (t := 11) rfl <| .cons (t := 10) rfl <| SubK.nil _) (.cons (t := 2) rfl <| .cons (t := 7) rfl <| .cons (t := 8) rfl <| SubK.nil _) (by repeat (first | exact SubD.refl _ | exact SubD.nil _ | refine SubD.cons (by repeat (first | with_reducible exact mem_head | apply mem_tail)) ?_ | apply SubD.skip)) (by repeat (first | exact SubD.refl _ | exact SubD.nil _ | refine SubD.cons (by repeat (first | with_reducible exact mem_head | apply mem_tail)) ?_ | apply SubD.skip)) (by repeat (first | exact Ent.refl _ | refine Fit.cons (by repeat (first | with_reducible exact Pull.here | apply Pull.there)) ?_ | apply Ent.skip))
    · try simp only [decide_eq_true_eq, decide_eq_false_iff_not, Bool.not_eq_true', Bool.not_eq_false', Bool.and_eq_true, Bool.or_eq_true] at h4
      refine T.exit ?_
      refine T.thenX ?_
      refine T.thenX ?_
      refine T.blkX ?_
      refine T.thenN ?_
      refine T.seq ?_
      refine T.regionQ (by kernel_rfl) (by kernel_rfl) ?_
      refine L.move rfl rfl ?_
      refine L.callF rfl (evs.cons rfl <| evs.cons rfl <| evs.cons rfl <| evs.nil) (by repeat (first | exact SubD.refl _ | exact SubD.nil _ | refine SubD.cons (by repeat (first | with_reducible exact mem_head | apply mem_tail)) ?_ | apply SubD.skip)) (by repeat (first | exact Sel.nil | (apply Sel.cons; focus (repeat (first | with_reducible exact Pull.here | apply Pull.there))))) (has_spec hI.q (by omega) (by omega)) (by rintro u D1 M1 ⟨rfl, rfl, rfl⟩; exact ⟨rfl, _, (by repeat (first | with_reducible exact AppL.nil | apply AppL.cons)), (by repeat (first | exact Ent.refl _ | refine Fit.cons (by repeat (first | with_reducible exact Pull.here | apply Pull.there)) ?_ | apply Ent.skip))⟩) ?_
      first | refine L.field0 rfl fo24_1 rfl ?_ | refine L.field rfl fo24_1 rfl ?_
      refine L.load rfl sc3 rfl (by first | exact Cells.ofM (by repeat (first | with_reducible exact mem_head | apply mem_tail)) (by repeat (first | exact AtN.nil | apply AtN.take | apply AtN.skip)) | exact Cells.ofD (by repeat (first | with_reducible exact mem_head | apply mem_tail)) | exact Cells.ofF (by repeat (first | with_reducible exact mem_head | apply mem_tail)) (by repeat (first | exact AtN.nil | apply AtN.take | apply AtN.skip)) | exact Cells.ofDs (by repeat (first | with_reducible exact mem_head | apply mem_tail)) (by repeat (first | exact AtN.nil | apply AtN.take | apply AtN.skip))) ?_
      refine L.eqI rfl rfl rfl ?_
      refine L.assign rfl rfl ?_
      refine L.nilQ ?_
      refine T.thenN ?_
      refine T.ret ?_
      exact T.ret1 rfl rfl ⟨congrArg Value.bool (decide_eq_true (by simp [hasF, hI.far])), rfl, rfl⟩ (by repeat (first | exact SubD.refl _ | exact SubD.nil _ | refine SubD.cons (by repeat (first | with_reducible exact mem_head | apply mem_tail)) ?_ | apply SubD.skip)) (by repeat (first | exact Ent.refl _ | refine Fit.cons (by repeat (first | with_reducible exact Pull.here | apply Pull.there)) ?_ | apply Ent.skip))
  · try simp only [decide_eq_true_eq, decide_eq_false_iff_not, Bool.not_eq_true', Bool.not_eq_false', Bool.and_eq_true, Bool.or_eq_true] at h3
    refine L.guardF (dj := 37) (c := false) rfl rfl rfl rfl rfl (by decide) ?_
    refine L.guardF (dj := 37) (c := false) rfl rfl rfl rfl rfl (by decide) ?_
    refine L.pickF rfl rfl rfl ?_
    refine L.nil ?_
    refine T.thenN ?_
    refine T.condF rfl rfl ?_
    refine T.exit ?_
    refine T.thenX ?_
    refine T.thenX ?_
    refine T.blkX ?_
    refine T.thenN ?_
    refine T.seq ?_
    refine T.regionQ (by kernel_rfl) (by kernel_rfl) ?_
    refine L.move rfl rfl ?_
    refine L.callF rfl (evs.cons rfl <| evs.cons rfl <| evs.cons rfl <| evs.nil) (by repeat (first | exact SubD.refl _ | exact SubD.nil _ | refine SubD.cons (by repeat (first | with_reducible exact mem_head | apply mem_tail)) ?_ | apply SubD.skip)) (by repeat (first | exact Sel.nil | (apply Sel.cons; focus (repeat (first | with_reducible exact Pull.here | apply Pull.there))))) (has_spec hI.q (by omega) (by omega)) (by rintro u D1 M1 ⟨rfl, rfl, rfl⟩; exact ⟨rfl, _, (by repeat (first | with_reducible exact AppL.nil | apply AppL.cons)), (by repeat (first | exact Ent.refl _ | refine Fit.cons (by repeat (first | with_reducible exact Pull.here | apply Pull.there)) ?_ | apply Ent.skip))⟩) ?_
    first | refine L.field0 rfl fo24_1 rfl ?_ | refine L.field rfl fo24_1 rfl ?_
    refine L.load rfl sc3 rfl (by first | exact Cells.ofM (by repeat (first | with_reducible exact mem_head | apply mem_tail)) (by repeat (first | exact AtN.nil | apply AtN.take | apply AtN.skip)) | exact Cells.ofD (by repeat (first | with_reducible exact mem_head | apply mem_tail)) | exact Cells.ofF (by repeat (first | with_reducible exact mem_head | apply mem_tail)) (by repeat (first | exact AtN.nil | apply AtN.take | apply AtN.skip)) | exact Cells.ofDs (by repeat (first | with_reducible exact mem_head | apply mem_tail)) (by repeat (first | exact AtN.nil | apply AtN.take | apply AtN.skip))) ?_
    refine L.eqI rfl rfl rfl ?_
    refine L.assign rfl rfl ?_
    refine L.nilQ ?_
    refine T.thenN ?_
    refine T.ret ?_
    exact T.ret1 rfl rfl ⟨congrArg Value.bool (decide_eq_true (by simp [hasF, hI.far])), rfl, rfl⟩ (by repeat (first | exact SubD.refl _ | exact SubD.nil _ | refine SubD.cons (by repeat (first | with_reducible exact mem_head | apply mem_tail)) ?_ | apply SubD.skip)) (by repeat (first | exact Ent.refl _ | refine Fit.cons (by repeat (first | with_reducible exact Pull.here | apply Pull.there)) ?_ | apply Ent.skip))
theorem rates_law (each most : Int) : Spec Try.prog 5 [.int .i64 each, .int .i64 most] [] [] (fun v D' M' => v = .bool true ∧ D' = [] ∧ M' = []) := by
  by_cases h : 1 ≤ each ∧ each ≤ most ∧ most ≤ 1048576
  · exact rates_ok each most h.1 h.2.1 h.2.2
  · exact rates_bad each most h
end Cv
