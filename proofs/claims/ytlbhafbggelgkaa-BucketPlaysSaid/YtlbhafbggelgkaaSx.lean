/-
  The walks of functions on slices.
-/
import Derived.Test.YtlbhafbggelgkaaCvFn
import Derived.Test.YtlbhafbggelgkaaCvArg
import Derived.Test.YtlbhafbggelgkaaCvDel
import Derived.Test.YtlbhafbggelgkaaProg
import Derived.KernelRfl
set_option maxRecDepth 10000
set_option linter.unusedSimpArgs false
set_option linter.unusedVariables false
namespace Cv
open Go Go.Proofs
/-! ## plain laws of slices.Index, Contains, Delete -/
def ixF (v : Int) : List Int → Int
  | [] => -1
  | x :: xs => if x = v then 0 else if ixF v xs < 0 then -1 else ixF v xs + 1
theorem ixF_lb (v : Int) : ∀ xs : List Int, -1 ≤ ixF v xs ∧ ixF v xs < xs.length
  | [] => by simp [ixF]
  | x :: xs => by
    have := ixF_lb v xs
    simp only [ixF, List.length_cons]
    split
    · omega
    · split <;> omega
theorem ixF_none {v : Int} : ∀ {xs : List Int}, (∀ y ∈ xs, y ≠ v) → ixF v xs = -1
  | [], _ => rfl
  | x :: xs, h => by rw [ixF, if_neg (h x (by simp)), ixF_none (fun y hy => h y (by simp [hy]))]; rfl
theorem ixF_at {v : Int} : ∀ {xs : List Int} {k : Nat}, (∀ y ∈ xs.take k, y ≠ v) → k < xs.length → v = gd xs k → ixF v xs = k
  | [], k, _, h, _ => by simp at h
  | x :: xs, 0, _, _, h => by rw [ixF, if_pos (by rw [h]; rfl)]; rfl
  | x :: xs, k + 1, h, h1, h2 => by
    have e := ixF_at (v := v) (xs := xs) (k := k) (fun y hy => h y (by simp [hy])) (by simpa using h1) (by rw [h2]; rfl)
    rw [ixF, if_neg (h x (by simp)), e, if_neg (by omega)]; omega
theorem ixF_ge {v : Int} : ∀ {xs : List Int}, decide (0 ≤ ixF v xs) = decide (v ∈ xs)
  | [] => by simp [ixF]
  | x :: xs => by
    have ih := ixF_ge (v := v) (xs := xs)
    rw [ixF]
    by_cases e : x = v
    · subst e; simp
    · rw [if_neg e]
      have e2 : v ≠ x := fun h => e h.symm
      by_cases h0 : ixF v xs < 0
      · rw [if_pos h0]
        have : decide (v ∈ xs) = false := by rw [← ih]; exact decide_eq_false (by omega)
        simp at this; simp [this, e2]
      · rw [if_neg h0]
        have : decide (v ∈ xs) = true := by rw [← ih]; exact decide_eq_true (by omega)
        simp at this; simp [this]; omega
theorem ixF_next {v : Int} {xs : List Int} {k : Nat} (h : ∀ y ∈ xs.take k, y ≠ v) (hk : k < xs.length) (hv : ¬ v = gd xs k) : ∀ y ∈ xs.take (k + 1), y ≠ v := by
  intro y hy
  rw [List.take_add_one, List.mem_append] at hy
  rcases hy with hy | hy
  · exact h y hy
  · rw [gd_get hk] at hy
    simp at hy
    subst hy
    exact fun e => hv e.symm
theorem del_rows {f : Int → List Value} {xs : List Int} {i len : Nat} {zs : List (List Value)} (hl : xs.length = len) (hi : i < len) :
    (((xs.map f).take i ++ (xs.map f).drop (i + 1) ++ (xs.map f).drop (len - 1)).take (len - 1) ++ zs).take (len - 1) = (xs.eraseIdx i).map f := by
  have h1 : ((xs.map f).take i ++ (xs.map f).drop (i + 1)).length = len - 1 := by simp; omega
  rw [List.take_append_of_le_length (by rw [List.length_take, List.length_append, h1]; omega), List.take_take, Nat.min_self, List.take_append_of_le_length (by omega), List.take_of_length_le (by omega), List.eraseIdx_eq_take_drop_succ, List.map_append, List.map_take, List.map_drop]
@[reducible] def e3 : Int → List Value | a => [.int .i64 a]
def g3 : Int → Prop | a => (-9223372036854775808 ≤ a ∧ a ≤ 9223372036854775807)
theorem el3z {H : Type} {enc : TypeId × Value → H} {W : World} {base : Nat} {sp : Nat → Bool} {held : Bool} {n : Nat} {cs : List Value} {y : DataW H × List MemPlace} (h : DataW.trod enc Try.prog W base sp held n 3 cs = some y) : ∃ z, cs = e3 z ∧ g3 z := by
  obtain ⟨n, rfl, -, hw⟩ := DataW.trod_int Try.underlying3 h
  exact ⟨n, rfl, Cv.wf64 hw⟩
theorem zv3 : ∀ w, (zeroValue 3).run Try.prog w = .ok (Value.int .i64 0) w := fun w => by kernel_rfl
theorem bs22 : Bs Try.prog 22 3 1 [Value.int .i64 0] := bs_of Try.underlying22 (fun w => by kernel_rfl) zv3 rfl rfl (by decide)
theorem el3 : El Try.prog 3 1 8 := ⟨_, _, rfl, rfl, by kernel_rfl, by kernel_rfl, by kernel_rfl⟩
theorem sz3 : Sz Try.prog 3 1 := fun w => by kernel_rfl
theorem sc3 : Sc Try.prog 3 := fun w => ⟨by kernel_rfl, by kernel_rfl⟩
theorem one_int {xs : List Int} : ∀ u ∈ (xs.map e3).flatten, u.oneCell' = true := by
  intro u hu
  obtain ⟨r, hr, hu⟩ := List.mem_flatten.1 hu
  obtain ⟨x, _, rfl⟩ := List.mem_map.1 hr
  simp only [e3, List.mem_singleton] at hu
  subst hu; rfl
set_option maxHeartbeats 400000 in
theorem clone_spec {a : Option Addr} {len cap : Nat} {xs : List Int} (hb : len ≤ 1099511627776) : Spec Try.prog 35 [.slice a len cap] [rsl 1 a len cap (xs.map e3)] [] (fun v D' M' => ∃ (a' : Option Addr) (len' cap' : Nat), v = .slice a' len' cap' ∧ (len' = len) ∧ D' = [] ∧ M' = [own 1 3 a' len' cap' (xs.map e3)]) := by
  refine Spec.intro (n := 8) Try.func35 rfl rfl (by decide) (Nat.le_of_ble_eq_true rfl) rfl (fun _ => qA) (fun _ => qA) ?_
  intro σ D M
  refine T.rslLen2 qM (fun hl hc => ?_)
  rw [List.length_map] at hl
  refine T.seq ?_
  refine T.region ?_
  refine L.assign rfl rfl ?_
  refine L.nil ?_
  refine T.thenN ?_
  refine T.seq ?_
  refine T.seq ?_
  refine T.region ?_
  refine L.move rfl rfl ?_
  refine L.eqlSl rfl Try.underlying22 rfl rfl ?_
  refine L.nil ?_
  refine T.thenN ?_
  refine T.cond rfl (fun h4 => ?_) (fun h4 => ?_)
  · try simp only [decide_eq_true_eq, decide_eq_false_iff_not, Bool.not_eq_true', Bool.not_eq_false', Bool.and_eq_true, Bool.or_eq_true] at h4
    obtain rfl : a = none := by simpa using h4
    refine T.rslNil qM (fun h0 => ?_)
    obtain rfl : xs = [] := by simpa using h0
    obtain rfl : len = 0 := by simpa using hl.symm
    refine T.newOwn (sz := 1) (e := 3) ?_
    refine T.eqv qP (show own 1 3 none 0 0 [] = own 1 3 none 0 0 (([] : List Int).map e3) from rfl) ?_
    refine T.seq ?_
    refine T.region ?_
    refine L.assign rfl rfl ?_
    refine L.nil ?_
    refine T.thenN ?_
    refine T.ret ?_
    refine T.thenR ?_
    exact T.ret1 rfl rfl ⟨_, _, _, rfl, rfl, rfl, rfl⟩ qD qF
  · try simp only [decide_eq_true_eq, decide_eq_false_iff_not, Bool.not_eq_true', Bool.not_eq_false', Bool.and_eq_true, Bool.or_eq_true] at h4
    refine T.skip ?_
    refine T.thenN ?_
    refine T.seq ?_
    refine T.region ?_
    refine L.buildSlice rfl bs22 (by decide) (BP.doneE (out := []) rfl) (fun b5 => ?_)
    refine L.toOwn (len := 0) qP (rows := []) (sz := 1) (by rfl) rfl (by simp) ?_
    refine L.move rfl rfl ?_
    refine L.appendR rfl Try.underlying22 Try.underlying22 el3 rfl rfl qP (rd_D qM) one_int qI qI (fun a7 c7 => ?_)
    refine L.assign rfl rfl ?_
    refine L.nil ?_
    simp only [Nat.zero_add, List.nil_append]
    refine T.thenN ?_
    refine T.ret ?_
    exact T.ret1 rfl rfl ⟨_, _, _, rfl, by simp, rfl, rfl⟩ qD qF
set_option maxHeartbeats 400000 in
theorem index_spec {a : Option Addr} {len cap : Nat} {x : Int} {xs : List Int} (hb : len ≤ 4611686018427387904) : Spec Try.prog 28 [.slice a len cap, .int .i64 x] [rsl 1 a len cap (xs.map e3)] [] (fun v D' M' => v = .int .i64 (ixF x xs) ∧ D' = [] ∧ M' = []) := by
  refine Spec.intro (n := 19) Try.func28 rfl rfl (by decide) (Nat.le_of_ble_eq_true rfl) rfl (fun _ => qA) (fun _ => qA) ?_
  intro σ D M
  refine T.rslLen2 qM (fun hl hc => ?_)
  rw [List.length_map] at hl
  refine T.seq ?_
  refine T.region ?_
  refine L.assign rfl rfl ?_
  refine L.nil ?_
  refine T.thenN ?_
  refine T.seq ?_
  refine T.seq ?_
  refine T.region ?_
  refine L.move rfl rfl ?_
  refine L.lenSl rfl Try.underlying22 rfl ?_
  refine L.move rfl rfl ?_
  refine L.nil ?_
  refine T.thenN ?_
  refine T.block ?_
  refine T.loop (fun K' D' M' μ => ∃ (k : Nat), (k ≤ len ∧ ∀ y ∈ xs.take k, y ≠ x) ∧ K' = [(8, .int .i64 k)] ∧ D' = [] ∧ M' = [] ∧ μ = len - k) (.cons (t := 0) rfl <| .cons (t := 1) rfl <| .cons (t := 7) rfl <| SubK.nil _) (⟨0, ⟨by omega, by simp⟩, rfl, rfl, rfl, rfl⟩) (.cons (t := 8) rfl <| SubK.nil _) qD qS ?_
  rintro K1 D1 M1 m1 ⟨k, ⟨hk, hall⟩, rfl, rfl, rfl, rfl⟩
  refine T.norm3 qA qA qA ?_
  refine T.seq ?_
  refine T.region ?_
  refine L.ltI rfl rfl rfl ?_
  refine L.nil ?_
  refine T.thenN ?_
  refine T.seq ?_
  refine T.cond rfl (fun h9 => ?_) (fun h9 => ?_)
  · try simp only [decide_eq_true_eq, decide_eq_false_iff_not, Bool.not_eq_true', Bool.not_eq_false', Bool.and_eq_true, Bool.or_eq_true] at h9
    refine T.skip ?_
    refine T.thenN ?_
    refine T.seq ?_
    refine T.block ?_
    refine T.seq ?_
    refine T.region ?_
    refine L.move rfl rfl ?_
    refine L.assign rfl rfl ?_
    refine L.nil ?_
    refine T.thenN ?_
    refine T.seq ?_
    refine T.region ?_
    have hgd : xs[k]? = some (gd xs k) := gd_get (by omega)
    refine L.move rfl rfl ?_
    refine L.move rfl rfl ?_
    refine L.move rfl rfl ?_
    refine L.idx (i := k) rfl Try.underlying22 sz3 rfl rfl qM (by first | rfl | omega | (simp; done)) qG (fun b14 o14 => ?_)
    refine L.load rfl sc3 rfl qC ?_
    refine L.eqI rfl rfl rfl ?_
    refine L.nil ?_
    refine T.thenN ?_
    refine T.cond rfl (fun h16 => ?_) (fun h16 => ?_)
    · try simp only [decide_eq_true_eq, decide_eq_false_iff_not, Bool.not_eq_true', Bool.not_eq_false', Bool.and_eq_true, Bool.or_eq_true] at h16
      refine T.seq ?_
      refine T.region ?_
      refine L.move rfl rfl ?_
      refine L.assign rfl rfl ?_
      refine L.nil ?_
      refine T.thenN ?_
      refine T.ret ?_
      refine T.blkR ?_
      refine T.thenR ?_
      refine T.thenR ?_
      refine T.blkR ?_
      refine T.thenR ?_
      exact T.ret1 rfl rfl ⟨by rw [ixF_at hall (by omega) h16], rfl, rfl⟩ qD qF
    · try simp only [decide_eq_true_eq, decide_eq_false_iff_not, Bool.not_eq_true', Bool.not_eq_false', Bool.and_eq_true, Bool.or_eq_true] at h16
      refine T.skip ?_
      refine T.blkN ?_
      refine T.thenN ?_
      refine T.region ?_
      refine L.addN rfl rfl rfl (by omega) ?_
      refine L.move rfl rfl ?_
      refine L.nil ?_
      refine T.thenN ?_
      exact T.back ⟨k + 1, ⟨by omega, ixF_next hall (by omega) h16⟩, rfl, rfl, rfl, rfl⟩ qI (.cons (t := 8) rfl <| SubK.nil _) (.cons (t := 0) rfl <| .cons (t := 1) rfl <| .cons (t := 7) rfl <| SubK.nil _) qD qD qF
  · try simp only [decide_eq_true_eq, decide_eq_false_iff_not, Bool.not_eq_true', Bool.not_eq_false', Bool.and_eq_true, Bool.or_eq_true] at h9
    obtain rfl : k = len := by omega
    refine T.exit ?_
    refine T.thenX ?_
    refine T.thenX ?_
    refine T.blkX ?_
    refine T.thenN ?_
    refine T.seq ?_
    refine T.region ?_
    refine L.assign rfl rfl ?_
    refine L.nil ?_
    refine T.thenN ?_
    refine T.ret ?_
    exact T.ret1 rfl rfl ⟨by rw [ixF_none (fun y hy => hall y (by rw [List.take_of_length_le (by omega)]; exact hy))], rfl, rfl⟩ qD qF
set_option maxHeartbeats 400000 in
theorem contains_spec {a : Option Addr} {len cap : Nat} {x : Int} {xs : List Int} (hb : len ≤ 4611686018427387904) : Spec Try.prog 30 [.slice a len cap, .int .i64 x] [rsl 1 a len cap (xs.map e3)] [] (fun v D' M' => v = .bool (decide (x ∈ xs)) ∧ D' = [] ∧ M' = []) := by
  refine Spec.intro (n := 9) Try.func30 rfl rfl (by decide) (Nat.le_of_ble_eq_true rfl) rfl (fun _ => qA) (fun _ => qA) ?_
  intro σ D M
  refine T.seq ?_
  refine T.region ?_
  refine L.assign rfl rfl ?_
  refine L.nil ?_
  refine T.thenN ?_
  refine T.seq ?_
  refine T.region ?_
  refine L.move rfl rfl ?_
  refine L.move rfl rfl ?_
  refine L.callF rfl (evs.cons rfl <| evs.cons rfl <| evs.nil) qD qS (index_spec hb) (by rintro u D1 M1 ⟨rfl, rfl, rfl⟩; exact ⟨rfl, _, qA, qF⟩) ?_
  refine L.geI rfl rfl rfl ?_
  refine L.assign rfl rfl ?_
  refine L.nil ?_
  refine T.thenN ?_
  refine T.ret ?_
  exact T.ret1 rfl rfl ⟨congrArg Value.bool (by rw [ixF_ge]), rfl, rfl⟩ qD qF
set_option maxHeartbeats 400000 in
theorem delete_spec {a : Option Addr} {len cap i : Nat} {xs : List Int} (hb : len ≤ 4611686018427387904) (hi : i < len) : Spec Try.prog 29 [.slice a len cap, .int .i64 (i : Int), .int .i64 ((i + 1 : Nat) : Int)] [] [own 1 3 a len cap ((xs).map e3)] (fun v D' M' => v = .slice a (len - 1) cap ∧ D' = [] ∧ M' = [own 1 3 a (len - 1) cap ((xs.eraseIdx i).map e3)]) := by
  refine Spec.intro (n := 33) Try.func29 rfl rfl (by decide) (Nat.le_of_ble_eq_true rfl) rfl (fun _ => qA) (fun _ => qA) ?_
  intro σ D M
  refine T.ownLen qM (fun hl hc => ?_)
  rw [List.length_map] at hl
  refine T.ownNe qM (by omega) (fun b o ha => ?_)
  subst ha
  refine T.seq ?_
  refine T.region ?_
  refine L.assign rfl rfl ?_
  refine L.nil ?_
  refine T.thenN ?_
  refine T.seq ?_
  refine T.region ?_
  refine L.move rfl rfl ?_
  refine L.move rfl rfl ?_
  refine L.move rfl rfl ?_
  refine L.move rfl rfl ?_
  refine L.lenSl rfl Try.underlying22 rfl ?_
  refine L.sliceMax (h := i + 1) rfl Try.underlying22 sz3 rfl (Bd.at (x := i) rfl (by first | rfl | omega | (simp; done))) ⟨_, _, _, rfl, rfl, (by first | rfl | omega)⟩ rfl qI qI qI ?_
  refine L.nil ?_
  refine T.thenN ?_
  refine T.seq ?_
  refine T.seq ?_
  refine T.region ?_
  refine L.move rfl rfl ?_
  refine L.move rfl rfl ?_
  refine L.eqI rfl rfl rfl ?_
  refine L.nil ?_
  refine T.thenN ?_
  refine T.condF rfl (decide_eq_false (by omega)) ?_
  refine T.skip ?_
  refine T.thenN ?_
  refine T.seq ?_
  refine T.region ?_
  refine L.move rfl rfl ?_
  refine L.lenSl rfl Try.underlying22 rfl ?_
  refine L.assign rfl rfl ?_
  refine L.nil ?_
  refine T.thenN ?_
  refine T.seq ?_
  refine T.regionA (clsL [1, 1, 0, 1, 1, 0, 2, 1]) (by kernel_rfl) ?_
  refine A.takeP (i := 0) rfl rfl rfl rfl (by kernel_rfl) (by kernel_rfl) (by kernel_rfl) rfl ?_
  refine L.move rfl rfl ?_
  refine A.took ?_
  refine A.takeP (i := 1) rfl rfl rfl rfl (by kernel_rfl) (by kernel_rfl) (by kernel_rfl) rfl ?_
  refine L.move rfl rfl ?_
  refine A.took ?_
  refine A.takeP (i := 3) rfl rfl rfl rfl (by kernel_rfl) (by kernel_rfl) (by kernel_rfl) rfl ?_
  refine L.move rfl rfl ?_
  refine A.took ?_
  refine A.takeP (i := 4) rfl rfl rfl rfl (by kernel_rfl) (by kernel_rfl) (by kernel_rfl) rfl ?_
  refine L.move rfl rfl ?_
  refine A.took ?_
  refine A.take (i := 2) rfl rfl rfl rfl (by kernel_rfl) (by kernel_rfl) (by kernel_rfl) (by kernel_rfl) rfl qD qF ?_
  refine L.sliceTo rfl Try.underlying22 sz3 rfl (Bd.at (x := i) rfl (by first | rfl | omega | (simp; done))) qI ?_
  refine A.took ?_
  refine A.take (i := 5) rfl rfl rfl rfl (by kernel_rfl) (by kernel_rfl) (by kernel_rfl) (by kernel_rfl) rfl qD qF ?_
  refine L.sliceSl rfl Try.underlying22 sz3 rfl (Bd.at (x := i + 1) rfl (by first | rfl | omega | (simp; done))) Bd.no qI qI ?_
  refine A.took ?_
  refine A.branch (is := [6]) (by kernel_rfl) (by decide) (Each.cons rfl ?_ <| Each.nil) 
  refine L.appendIn (i := i) (j := i + 1) rfl Try.underlying22 el3 rfl rfl qP qI qI (by simp [hl]) one_int ?_
  rw [show i + (len - (i + 1)) = len - 1 from by omega]
  refine A.backT rfl ?_
  refine A.takeP (i := 7) rfl rfl rfl rfl (by kernel_rfl) (by kernel_rfl) (by kernel_rfl) rfl ?_
  refine L.assign rfl rfl ?_
  refine A.took ?_
  refine A.done (by kernel_rfl) ?_
  refine T.thenN ?_
  refine T.seq ?_
  refine T.region ?_
  refine L.move rfl rfl ?_
  refine L.move rfl rfl ?_
  refine L.lenSl rfl Try.underlying22 rfl ?_
  refine L.move rfl rfl ?_
  refine L.sliceSl rfl Try.underlying22 sz3 rfl (Bd.at (x := len - 1) rfl (by first | rfl | omega | (simp; done))) (Bd.at rfl rfl) qI qI ?_
  refine L.clearO (i := len - 1) (sz := 1) Try.underlying22 zv3 rfl rfl qO rfl qP qI qI ?_
  refine L.nil ?_
  refine T.ownTo (h := len - 1) qP (by omega) ?_
  refine T.ownEq _ ((xs.eraseIdx i).map e3) qP (del_rows hl hi) ?_
  refine T.thenN ?_
  refine T.seq ?_
  refine T.region ?_
  refine L.move rfl rfl ?_
  refine L.assign rfl rfl ?_
  refine L.nil ?_
  refine T.thenN ?_
  refine T.ret ?_
  exact T.ret1 rfl rfl ⟨rfl, rfl, rfl⟩ qD qF
end Cv
