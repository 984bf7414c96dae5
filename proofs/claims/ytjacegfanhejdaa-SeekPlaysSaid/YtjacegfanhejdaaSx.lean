/-
  The walks: functions on slices.
-/
import Derived.Test.YtjacegfanhejdaaCvLc
import Derived.Test.YtjacegfanhejdaaCvLf
import Derived.Test.YtjacegfanhejdaaCvLd
import Derived.Test.YtjacegfanhejdaaProg
import Derived.KernelRfl
set_option linter.unusedVariables false
set_option linter.unusedSimpArgs false
set_option linter.unusedSectionVars false
set_option maxRecDepth 10000
namespace Cv
open Go Go.Proofs
/-! ## plain laws of slices.Index, Contains, Delete -/
def ixF (v : Int) : List Int → Int
  | [] => -1
  | x :: xs => if x = v then 0 else if ixF v xs < 0 then -1 else ixF v xs + 1
theorem ixF_lb (v : Int) : ∀ xs : List Int, -1 ≤ ixF v xs ∧ ixF v xs < xs.length
  | [] => by simp [ixF]
  | x :: xs => by
    have := ixF_lb v xs
    simp only [ixF, List.length_cons]
    split
    · omega
    · split <;> omega
theorem ixF_none {v : Int} : ∀ {xs : List Int}, (∀ y ∈ xs, y ≠ v) → ixF v xs = -1
  | [], _ => rfl
  | x :: xs, h => by rw [ixF, if_neg (h x (by simp)), ixF_none (fun y hy => h y (by simp [hy]))]; rfl
theorem ixF_at {v : Int} : ∀ {xs : List Int} {k : Nat}, (∀ y ∈ xs.take k, y ≠ v) → k < xs.length → v = gd xs k → ixF v xs = k
  | [], k, _, h, _ => by simp at h
  | x :: xs, 0, _, _, h => by rw [ixF, if_pos (by rw [h]; rfl)]; rfl
  | x :: xs, k + 1, h, h1, h2 => by
    have e := ixF_at (v := v) (xs := xs) (k := k) (fun y hy => h y (by simp [hy])) (by simpa using h1) (by rw [h2]; rfl)
    rw [ixF, if_neg (h x (by simp)), e, if_neg (by omega)]; omega
theorem ixF_ge {v : Int} : ∀ {xs : List Int}, decide (0 ≤ ixF v xs) = decide (v ∈ xs)
  | [] => by simp [ixF]
  | x :: xs => by
    have ih := ixF_ge (v := v) (xs := xs)
    rw [ixF]
    by_cases e : x = v
    · subst e; simp
    · rw [if_neg e]
      have e2 : v ≠ x := fun h => e h.symm
      by_cases h0 : ixF v xs < 0
      · rw [if_pos h0]
        have : decide (v ∈ xs) = false := by rw [← ih]; exact decide_eq_false (by omega)
        simp at this; simp [this, e2]
      · rw [if_neg h0]
        have : decide (v ∈ xs) = true := by rw [← ih]; exact decide_eq_true (by omega)
        simp at this; simp [this]; omega
theorem ixF_next {v : Int} {xs : List Int} {k : Nat} (h : ∀ y ∈ xs.take k, y ≠ v) (hk : k < xs.length) (hv : ¬ v = gd xs k) : ∀ y ∈ xs.take (k + 1), y ≠ v := by
  intro y hy
  rw [List.take_add_one, List.mem_append] at hy
  rcases hy with hy | hy
  · exact h y hy
  · rw [gd_get hk] at hy
    simp at hy
    subst hy
    exact fun e => hv e.symm
theorem del_rows {f : Int → List Value} {xs : List Int} {i len : Nat} {zs : List (List Value)} (hl : xs.length = len) (hi : i < len) :
    (((xs.map f).take i ++ (xs.map f).drop (i + 1) ++ (xs.map f).drop (len - 1)).take (len - 1) ++ zs).take (len - 1) = (xs.eraseIdx i).map f := by
  have h1 : ((xs.map f).take i ++ (xs.map f).drop (i + 1)).length = len - 1 := by simp; omega
  rw [List.take_append_of_le_length (by rw [List.length_take, List.length_append, h1]; omega), List.take_take, Nat.min_self, List.take_append_of_le_length (by omega), List.take_of_length_le (by omega), List.eraseIdx_eq_take_drop_succ, List.map_append, List.map_take, List.map_drop]
@[reducible] def e3 : Int → List Value | a => [.int .i64 a]
def g3 : Int → Prop | a => (-9223372036854775808 ≤ a ∧ a ≤ 9223372036854775807)
theorem el3z {H : Type} {enc : TypeId × Value → H} {W : World} {base : Nat} {sp : Nat → Bool} {held : Bool} {n : Nat} {cs : List Value} {y : DataW H × List MemPlace} (h : DataW.trod enc Try.prog W base sp held n 3 cs = some y) : ∃ z, cs = e3 z ∧ g3 z := by
  obtain ⟨n, rfl, -, hw⟩ := DataW.trod_int Try.underlying3 h
  exact ⟨n, rfl, Cv.wf64 hw⟩
theorem zv3 : ∀ w, (zeroValue 3).run Try.prog w = .ok (Value.int .i64 0) w := fun w => by kernel_rfl
theorem bs22 : Bs Try.prog 22 3 1 [Value.int .i64 0] := bs_of Try.underlying22 (fun w => by kernel_rfl) zv3 rfl rfl (by decide)
theorem el3 : El Try.prog 3 1 8 := ⟨_, _, rfl, rfl, by kernel_rfl, by kernel_rfl, by kernel_rfl⟩
theorem one_int {xs : List Int} : ∀ u ∈ (xs.map e3).flatten, u.oneCell' = true := by
  intro u hu
  obtain ⟨r, hr, hu⟩ := List.mem_flatten.1 hu
  obtain ⟨x, _, rfl⟩ := List.mem_map.1 hr
  simp only [e3, List.mem_singleton] at hu
  subst hu; rfl
set_option maxHeartbeats 400000 in
theorem clone_spec {a : Option Addr} {len cap : Nat} {xs : List Int} (hb : len ≤ 1099511627776) : Spec Try.prog 33 [.slice a len cap] [rsl 1 a len cap (xs.map e3)] [] (fun v D' M' => ∃ (a' : Option Addr) (len' cap' : Nat), v = .slice a' len' cap' ∧ (len' = len) ∧ D' = [] ∧ M' = [own 1 3 a' len' cap' (xs.map e3)]) := by
  refine Spec.intro (n := 8) Try.func33 rfl rfl (by decide) (Nat.le_of_ble_eq_true rfl) rfl (fun _ => qA) (fun _ => qA) ?_
  intro σ D M
  refine T.rslLen2 qM (fun hl hc => ?_)
  rw [List.length_map] at hl
  refine T.seq ?_
  refine T.region ?_
  refine L.assign rfl rfl ?_
  refine L.nil ?_
  refine T.thenN ?_
  refine T.seq ?_
  refine T.seq ?_
  refine T.region ?_
  refine L.move rfl rfl ?_
  refine L.eqlSl rfl Try.underlying22 rfl rfl ?_
  refine L.nil ?_
  refine T.thenN ?_
  refine T.cond rfl (fun h4 => ?_) (fun h4 => ?_)
  · try simp only [decide_eq_true_eq, decide_eq_false_iff_not, Bool.not_eq_true', Bool.not_eq_false', Bool.and_eq_true, Bool.or_eq_true] at h4
    obtain rfl : a = none := by simpa using h4
    refine T.rslNil qM (fun h0 => ?_)
    obtain rfl : xs = [] := by simpa using h0
    obtain rfl : len = 0 := by simpa using hl.symm
    refine T.newOwn (sz := 1) (e := 3) ?_
    refine T.eqv qP (show own 1 3 none 0 0 [] = own 1 3 none 0 0 (([] : List Int).map e3) from rfl) ?_
    refine T.seq ?_
    refine T.region ?_
    refine L.assign rfl rfl ?_
    refine L.nil ?_
    refine T.thenN ?_
    refine T.ret ?_
    refine T.thenR ?_
    exact T.ret1 rfl rfl ⟨_, _, _, rfl, rfl, rfl, rfl⟩ qD qF
  · try simp only [decide_eq_true_eq, decide_eq_false_iff_not, Bool.not_eq_true', Bool.not_eq_false', Bool.and_eq_true, Bool.or_eq_true] at h4
    refine T.skip ?_
    refine T.thenN ?_
    refine T.seq ?_
    refine T.region ?_
    refine L.buildSlice rfl bs22 (by decide) (BP.doneE (out := []) rfl) (fun b5 => ?_)
    refine L.toOwn (len := 0) qP (rows := []) (sz := 1) (by rfl) rfl (by simp) ?_
    refine L.move rfl rfl ?_
    refine L.appendR rfl Try.underlying22 Try.underlying22 el3 rfl rfl qP (rd_D qM) one_int qI qI (fun a7 c7 => ?_)
    refine L.assign rfl rfl ?_
    refine L.nil ?_
    simp only [Nat.zero_add, List.nil_append]
    refine T.thenN ?_
    refine T.ret ?_
    exact T.ret1 rfl rfl ⟨_, _, _, rfl, by simp, rfl, rfl⟩ qD qF
end Cv
