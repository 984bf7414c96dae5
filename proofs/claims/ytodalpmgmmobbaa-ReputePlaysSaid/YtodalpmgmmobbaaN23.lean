/-
  The walks of further laws over repute.
-/
import Derived.Test.YtodalpmgmmobbaaL23
import Derived.Test.YtodalpmgmmobbaaProg
import Derived.KernelRfl
set_option maxRecDepth 10000
set_option linter.unusedSimpArgs false
set_option linter.unusedVariables false
namespace Cv
open Go Go.Proofs
def cfB (F : Int → Mind) (x y : Int) : Int := orF [cmpI (F y).1 (F x).1, cmpI x y]
theorem cfB_lt {F : Int → Mind} {x y : Int} : cfB F x y < 0 ↔ (F y).1 < (F x).1 ∨ ((F y).1 = (F x).1 ∧ x < y) := by
  unfold cfB cmpI
  simp only [orF]
  by_cases h1 : (F y).1 < (F x).1
  · simp [h1]
  · by_cases h2 : (F x).1 < (F y).1
    · simp [h1, h2]; omega
    · have e : (F y).1 = (F x).1 := by omega
      by_cases h3 : x < y
      · simp [h1, h2, e, h3]
      · by_cases h4 : y < x <;> simp [h1, h2, e, h3, h4]
theorem cfB_swo {F : Int → Mind} : SWOc (cfB F) where
  irrefl x := by rw [cfB_lt]; omega
  asym x y := by rw [cfB_lt, cfB_lt]; omega
  ntrans x y z := by rw [cfB_lt, cfB_lt, cfB_lt]; omega
def FInv (F : Int → Mind) (is : Bool) (tx : List UInt8) : Prop := (F 2).2.2.1 = 0 ∧ (is = true → ∃ id, (F 2).2.2.2 = some (1, id, tx) ∧ id.length = 32 ∧ ¬ oidF 1 tx = id ∧ tx.length ≤ 30) ∧ (is = false → (F 2).2.2.2 = none ∧ tx = [])
theorem finv_0 : FInv (fun _ => zM) false [] := by
  refine ⟨rfl, fun h => ?_, fun _ => ⟨rfl, rfl⟩⟩
  cases h
theorem p32 {m : Mind} (h : MOk m) : (m.2.2.2.getD zP).2.1.length = 32 := by
  cases hp : m.2.2.2 with
  | none => rfl
  | some q => exact h.2.2.2 q hp
theorem finv_new {F : Int → Mind} {tx t : List UInt8} {id : List UInt8} (h : FInv F false tx) (hid : id.length = 32) (ht : t.length ≤ 30) (ho : ¬ oidF 1 t = id) :
    FInv (updM (banB F 2 (1, id, t)) 2 (goodM (banB F 2 (1, id, t) 2))) true t := by
  rw [banB, if_neg ho]
  refine ⟨by rw [updM_at], fun _ => ⟨id, ?_, hid, ho, ht⟩, fun h => by cases h⟩
  rw [updM_at, updM_at]
  simp only [banM, (h.2.2 rfl).1, Option.getD_none]
theorem finv_keep {F : Int → Mind} {tx t : List UInt8} {id : List UInt8} {is : Bool} (h : FInv F is tx) (hk : is = true ∨ oidF 1 t = id) :
    FInv (updM (banB F 2 (1, id, t)) 2 (goodM (banB F 2 (1, id, t) 2))) is tx := by
  by_cases ho : oidF 1 t = id
  · rw [banB, if_pos ho]
    refine ⟨by rw [updM_at], fun e => ?_, fun e => ?_⟩
    · obtain ⟨i, h1, h2⟩ := h.2.1 e
      exact ⟨i, by rw [updM_at]; exact h1, h2⟩
    · exact ⟨by rw [updM_at]; exact (h.2.2 e).1, (h.2.2 e).2⟩
  · rw [banB, if_neg ho]
    have hi : is = true := hk.resolve_right ho
    refine ⟨by rw [updM_at], fun e => ?_, fun e => by rw [hi] at e; cases e⟩
    obtain ⟨i, h1, h2⟩ := h.2.1 e
    refine ⟨i, ?_, h2⟩
    rw [updM_at, updM_at]
    simp only [banM, h1, Option.getD_some]
theorem finv_ban {F : Int → Mind} {tx : List UInt8} {is : Bool} (h : FInv F is tx) : ((F 2).2.2.2.isSome == is) = true := by
  cases is with
  | true => obtain ⟨i, h1, _⟩ := h.2.1 rfl; rw [h1]; rfl
  | false => rw [(h.2.2 rfl).1]; rfl
theorem finv_tx {F : Int → Mind} {tx : List UInt8} {is : Bool} (h : FInv F is tx) : decide (((F 2).2.2.2.getD zP).2.2 = tx) = true := by
  cases is with
  | true => obtain ⟨i, h1, _⟩ := h.2.1 rfl; rw [h1]; simp
  | false => rw [(h.2.2 rfl).1, (h.2.2 rfl).2]; rfl
theorem finv_may {F : Int → Mind} {tx : List UInt8} {is : Bool} (h : FInv F is tx) : mayB F 2 0 = !is := by
  unfold mayB
  cases is with
  | true => obtain ⟨i, h1, _⟩ := h.2.1 rfl; rw [h1]; rfl
  | false => rw [(h.2.2 rfl).1, h.1]; rfl
theorem finv_no {F : Int → Mind} {tx : List UInt8} {now : Int} {is : Bool} (h : FInv F is tx) (hi : is = true) : mayB F 2 now = false := by
  unfold mayB
  obtain ⟨i, h1, _⟩ := h.2.1 hi; rw [h1]; rfl
theorem sc23 : Sc Try.prog 23 := fun w => ⟨by kernel_rfl, by kernel_rfl⟩
set_option maxHeartbeats 400000 in
theorem sort1_spec {b b3 b4 : Nat} {n now : Int} {F : Int → Mind}  : Spec Try.prog 36 [.int .i64 n, .pointer (some ⟨b3, 0, none⟩), .pointer (some ⟨b4, 0, none⟩)] [] [cl b3 23 [.pointer (some ⟨b, 0, none⟩)], cl b4 3 [.int .i64 now], bookA b F] (fun v D' M' => v = .bool (!mayB F n now) ∧ D' = [] ∧ M' = [cl b3 23 [.pointer (some ⟨b, 0, none⟩)], cl b4 3 [.int .i64 now], bookA b F]) := by
  refine Spec.intro (n := 10) Try.func36 rfl rfl (by decide) (Nat.le_of_ble_eq_true rfl) rfl (fun _ => qA) (fun _ => qA) ?_
  intro σ D M
  refine T.seq ?_
  refine T.region ?_
  refine L.assign rfl rfl ?_
  refine L.nil ?_
  refine T.thenN ?_
  refine T.seq ?_
  refine T.region ?_
  refine L.load rfl sc23 rfl qC ?_
  refine L.move rfl rfl ?_
  refine L.load rfl sc3 rfl qC ?_
  refine L.callF rfl (evs.cons rfl <| evs.cons rfl <| evs.cons rfl <| evs.nil) qD qS (may_spec ) (by rintro u D1 M1 ⟨rfl, rfl, rfl⟩; exact ⟨rfl, _, qA, qF⟩) ?_
  refine L.notB rfl rfl ?_
  refine L.assign rfl rfl ?_
  refine L.nil ?_
  refine T.thenN ?_
  refine T.ret ?_
  exact T.ret1 rfl rfl ⟨rfl, rfl, rfl⟩ qD qF
set_option maxHeartbeats 400000 in
theorem sort2_spec {b b3 : Nat} {x y : Int} {F : Int → Mind}  : Spec Try.prog 38 [.int .i64 x, .int .i64 y, .pointer (some ⟨b3, 0, none⟩)] [] [cl b3 23 [.pointer (some ⟨b, 0, none⟩)], bookA b F] (fun v D' M' => v = .int .i64 (cfB F x y) ∧ D' = [] ∧ M' = [cl b3 23 [.pointer (some ⟨b, 0, none⟩)], bookA b F]) := by
  refine Spec.intro (n := 18) Try.func38 rfl rfl (by decide) (Nat.le_of_ble_eq_true rfl) rfl (fun _ => qA) (fun _ => qA) ?_
  intro σ D M
  refine T.seq ?_
  refine T.region ?_
  refine L.assign rfl rfl ?_
  refine L.nil ?_
  refine T.thenN ?_
  refine T.seq ?_
  refine T.regionA (clsL [0, 1, 0, 0, 1, 2, 2, 1, 1, 2, 2, 2, 1]) (by kernel_rfl) ?_
  refine A.takeP (i := 1) rfl rfl rfl rfl (by kernel_rfl) (by kernel_rfl) (by kernel_rfl) rfl ?_
  refine L.move rfl rfl ?_
  refine A.took ?_
  refine A.takeP (i := 4) rfl rfl rfl rfl (by kernel_rfl) (by kernel_rfl) (by kernel_rfl) rfl ?_
  refine L.move rfl rfl ?_
  refine A.took ?_
  refine A.takeP (i := 7) rfl rfl rfl rfl (by kernel_rfl) (by kernel_rfl) (by kernel_rfl) rfl ?_
  refine L.move rfl rfl ?_
  refine A.took ?_
  refine A.takeP (i := 8) rfl rfl rfl rfl (by kernel_rfl) (by kernel_rfl) (by kernel_rfl) rfl ?_
  refine L.move rfl rfl ?_
  refine A.took ?_
  refine A.take (i := 0) rfl rfl rfl rfl (by kernel_rfl) (by kernel_rfl) (by kernel_rfl) (by kernel_rfl) rfl qD qF ?_
  refine L.load rfl sc23 rfl qC ?_
  refine A.took ?_
  refine A.take (i := 3) rfl rfl rfl rfl (by kernel_rfl) (by kernel_rfl) (by kernel_rfl) (by kernel_rfl) rfl qD qF ?_
  refine L.load rfl sc23 rfl qC ?_
  refine A.took ?_
  refine A.branch (is := [2]) (by kernel_rfl) (by decide) (Each.cons rfl ?_ <| Each.nil) 
  refine L.callF rfl (evs.cons rfl <| evs.cons rfl <| evs.nil) qD qS (score_spec ) (by rintro u D1 M1 ⟨rfl, rfl, rfl⟩; exact ⟨rfl, _, qA, qF⟩) ?_
  refine A.back rfl qD qF ?_
  refine A.branch (is := [5]) (by kernel_rfl) (by decide) (Each.cons rfl ?_ <| Each.nil) 
  refine L.callF rfl (evs.cons rfl <| evs.cons rfl <| evs.nil) qD qS (score_spec ) (by rintro u D1 M1 ⟨rfl, rfl, rfl⟩; exact ⟨rfl, _, qA, qF⟩) ?_
  refine A.backT rfl ?_
  refine A.branch (is := [6]) (by kernel_rfl) (by decide) (Each.cons rfl ?_ <| Each.nil) 
  refine L.callF rfl (evs.cons rfl <| evs.cons rfl <| evs.nil) qD qS (compare_spec ) (by rintro u D1 M1 ⟨rfl, rfl, rfl⟩; exact ⟨rfl, _, qA, qF⟩) ?_
  refine A.backT rfl ?_
  refine A.branch (is := [9]) (by kernel_rfl) (by decide) (Each.cons rfl ?_ <| Each.nil) 
  refine L.callF rfl (evs.cons rfl <| evs.cons rfl <| evs.nil) qD qS (compare_spec ) (by rintro u D1 M1 ⟨rfl, rfl, rfl⟩; exact ⟨rfl, _, qA, qF⟩) ?_
  refine A.backT rfl ?_
  refine A.branch (is := [10]) (by kernel_rfl) (by decide) (Each.cons rfl ?_ <| Each.nil) 
  refine L.buildSlice rfl bs46 (by decide) (BP.one rfl rfl rfl <| BP.one rfl rfl rfl <| BP.doneE (out := []) rfl) (fun b16 => ?_)
  refine L.toOwn (len := 2) qP (rows := [cmpI (F y).1 (F x).1, cmpI x y].map e3) (sz := 1) (by rfl) rfl (by simp) ?_
  refine L.ownRsl qP ?_
  refine A.backT rfl ?_
  refine A.branch (is := [11]) (by kernel_rfl) (by decide) (Each.cons rfl ?_ <| Each.nil) 
  refine L.call rfl (evs.cons rfl <| evs.nil) qD qS (or_spec (xs := [cmpI (F y).1 (F x).1, cmpI x y]) (by omega)) ?_
  rintro _ _ _ ⟨rfl, rfl, rfl⟩
  refine L.norm qA qA ?_
  refine A.backT rfl ?_
  refine A.takeP (i := 12) rfl rfl rfl rfl (by kernel_rfl) (by kernel_rfl) (by kernel_rfl) rfl ?_
  refine L.assign rfl rfl ?_
  refine A.took ?_
  refine A.done (by kernel_rfl) ?_
  refine T.thenN ?_
  refine T.ret ?_
  exact T.ret1 rfl rfl ⟨rfl, rfl, rfl⟩ qD qF
set_option maxHeartbeats 400000 in
theorem bsort_spec {b len cap : Nat} {a : Option Addr} {xs : List Int} {now : Int} {F : Int → Mind} (hb : len ≤ 12) : Spec Try.prog 25 [.pointer (some ⟨b, 0, none⟩), .int .i64 now, .slice a len cap] [rsl 1 a len cap (xs.map e3)] [bookA b F] (fun v D' M' => ∃ (a' : Option Addr) (cap' : Nat) (ys : List Int), v = .slice a' ys.length cap' ∧ (ys.Perm (xs.filter (fun x => mayB F x now))) ∧ (SortTo (cfB F) ys ys.length) ∧ D' = [] ∧ M' = [own 1 3 a' ys.length cap' (ys.map e3), bookA b F]) := by
  refine Spec.intro (n := 15) Try.func25 rfl rfl (by decide) (Nat.le_of_ble_eq_true rfl) rfl (fun _ => qA) (fun _ => qA) ?_
  intro σ D M
  refine T.rslLen2 qM (fun hl hc => ?_)
  rw [List.length_map] at hl
  refine T.seq ?_
  refine T.region ?_
  refine L.box rfl rfl rfl (fun b3 => ?_)
  refine L.box rfl rfl rfl (fun b4 => ?_)
  refine L.assign rfl rfl ?_
  refine L.nil ?_
  refine T.thenN ?_
  refine T.seq ?_
  refine T.region ?_
  refine L.move rfl rfl ?_
  refine L.call rfl (evs.cons rfl <| evs.nil) qD qS (clone_spec (by omega)) ?_
  rintro _ _ _ ⟨ka, kl, kc, rfl, hkl, rfl, rfl⟩
  refine L.norm qA qA ?_
  subst hkl
  refine L.makeFunc rfl (evs.cons rfl <| evs.cons rfl <| evs.nil) ?_
  refine L.foldAs (all [cl b3 23 [.pointer (some ⟨b, 0, none⟩)], cl b4 3 [.int .i64 now], bookA b F]) qS rfl ?_
  refine L.call rfl (evs.cons rfl <| evs.cons rfl <| evs.nil) qD qS (delf_spec (p := fun x => !mayB F x now) (g := 36) (caps := [.pointer (some ⟨b3, 0, none⟩), .pointer (some ⟨b4, 0, none⟩)]) (Ac := all [cl b3 23 [.pointer (some ⟨b, 0, none⟩)], cl b4 3 [.int .i64 now], bookA b F]) (fun x => sort1_spec.all) (by omega)) ?_
  rintro _ _ _ ⟨da, dl, dc, rfl, rfl, rfl⟩
  refine L.norm qA qA ?_
  refine L.unfold [cl b3 23 [.pointer (some ⟨b, 0, none⟩)], cl b4 3 [.int .i64 now], bookA b F] qP rfl qA ?_
  refine L.assign rfl rfl ?_
  refine L.nil ?_
  refine T.ownEq _ ((xs.filter (fun x => mayB F x now)).map e3) qP (by simp) ?_
  refine T.ownLen qM (fun hfl _ => ?_)
  rw [List.length_map] at hfl
  have hfle := List.length_filter_le (fun x => mayB F x now) xs
  refine T.thenN ?_
  refine T.seq ?_
  refine T.region ?_
  refine L.move rfl rfl ?_
  refine L.makeFunc rfl (evs.cons rfl <| evs.nil) ?_
  refine L.foldAs (all [cl b3 23 [.pointer (some ⟨b, 0, none⟩)], bookA b F]) qS rfl ?_
  refine L.call rfl (evs.cons rfl <| evs.cons rfl <| evs.nil) qD qS (sortf_spec (cf := cfB F) (g := 38) (caps := [.pointer (some ⟨b3, 0, none⟩)]) (Ac := all [cl b3 23 [.pointer (some ⟨b, 0, none⟩)], bookA b F]) cfB_swo (fun x y => sort2_spec.all) (by omega)) ?_
  rintro _ _ _ ⟨ys, rfl, hp, hs, rfl, rfl⟩
  refine L.norm qA qA ?_
  refine L.unfold [cl b3 23 [.pointer (some ⟨b, 0, none⟩)], bookA b F] qP rfl qA ?_
  refine L.nil ?_
  have hyl := hp.length_eq
  obtain rfl : dl = ys.length := by omega
  refine T.thenN ?_
  refine T.seq ?_
  refine T.region ?_
  refine L.move rfl rfl ?_
  refine L.assign rfl rfl ?_
  refine L.nil ?_
  refine T.thenN ?_
  refine T.ret ?_
  exact T.ret1 rfl rfl ⟨_, _, ys, rfl, hp, hs, rfl, rfl⟩ qD qF
set_option maxHeartbeats 400000 in
theorem only_spec {is : Bool}  : Spec Try.prog 27 [.bool is] [] [] (fun v D' M' => ∃ (a1 : Option Addr) (l1 c1 : Nat), v = .slice a1 l1 c1 ∧ (l1 = if is = true then 1 else 0) ∧ D' = [] ∧ M' = []) := by
  refine Spec.intro (n := 5) Try.func27 rfl rfl (by decide) (Nat.le_of_ble_eq_true rfl) rfl (fun _ => qA) (fun _ => qA) ?_
  intro σ D M
  refine T.seq ?_
  refine T.region ?_
  refine L.assign rfl rfl ?_
  refine L.nil ?_
  refine T.thenN ?_
  refine T.seq ?_
  refine T.seq ?_
  refine T.region ?_
  refine L.move rfl rfl ?_
  refine L.nil ?_
  refine T.thenN ?_
  refine T.cond rfl (fun h3 => ?_) (fun h3 => ?_)
  · try simp only [decide_eq_true_eq, decide_eq_false_iff_not, Bool.not_eq_true', Bool.not_eq_false', Bool.and_eq_true, Bool.or_eq_true] at h3
    refine T.seq ?_
    refine T.region ?_
    refine L.buildSlice rfl bs46 (by decide) (BP.one rfl rfl rfl <| BP.doneE (out := []) rfl) (fun b4 => ?_)
    refine L.assign rfl rfl ?_
    refine L.nil ?_
    refine T.thenN ?_
    refine T.ret ?_
    refine T.thenR ?_
    exact T.ret1 rfl rfl ⟨_, _, _, rfl, by rw [if_pos h3], rfl, rfl⟩ qD qF
  · try simp only [decide_eq_true_eq, decide_eq_false_iff_not, Bool.not_eq_true', Bool.not_eq_false', Bool.and_eq_true, Bool.or_eq_true] at h3
    refine T.skip ?_
    refine T.thenN ?_
    refine T.seq ?_
    refine T.region ?_
    refine L.assign rfl rfl ?_
    refine L.nil ?_
    refine T.thenN ?_
    refine T.ret ?_
    exact T.ret1 rfl rfl ⟨_, _, _, rfl, by rw [h3]; rfl, rfl, rfl⟩ qD qF
set_option maxHeartbeats 2000000 in
theorem first_law (a : Option Addr) (len cap : Nat) (xs : List (Int × Int × Int × List UInt8 × List UInt8)) (hx : xs.length = len) (hg : ∀ x ∈ xs, g32 x) (hb : len ≤ 4611686018427387904) (now : Int)  : Spec Try.prog 7 [.slice a len cap, .int .i64 now] [rsl 5 a len cap (xs.map e32)] [] (fun v D' M' => v = .bool true ∧ D' = [] ∧ M' = []) := by
  refine Spec.intro (n := 86) Try.func7 rfl rfl (by decide) (Nat.le_of_ble_eq_true rfl) rfl (fun _ => qA) (fun _ => qA) ?_
  intro σ D M
  refine T.seq ?_
  refine T.region ?_
  refine L.assign rfl rfl ?_
  refine L.nil ?_
  refine T.thenN ?_
  refine T.seq ?_
  refine T.seq ?_
  refine T.region ?_
  refine L.call rfl (evs.nil) qD qS (awake_spec) ?_
  rintro _ _ _ ⟨rfl, rfl, rfl⟩
  refine L.norm qA qA ?_
  refine L.notB rfl rfl ?_
  refine L.nil ?_
  refine T.thenN ?_
  refine T.condF rfl rfl ?_
  refine T.skip ?_
  refine T.thenN ?_
  refine T.seq ?_
  refine T.region ?_
  refine L.call rfl (evs.nil) qD qS (rnew_spec) ?_
  rintro _ _ _ ⟨b, rfl, rfl, rfl⟩
  refine L.norm qA qA ?_
  refine L.assign rfl rfl ?_
  refine L.nil ?_
  refine T.thenN ?_
  refine T.seq ?_
  refine T.region ?_
  refine L.assign rfl rfl ?_
  refine L.nil ?_
  refine T.thenN ?_
  refine T.seq ?_
  refine T.region ?_
  refine L.assign rfl rfl ?_
  refine L.nil ?_
  refine T.thenN ?_
  refine T.seq ?_
  refine T.seq ?_
  refine T.region ?_
  refine L.assign rfl rfl ?_
  refine L.nil ?_
  refine T.thenN ?_
  refine T.block ?_
  refine T.loop (fun K' D' M' μ => ∃ (i : Nat) (t : List UInt8) (is : Bool) (F : Int → Mind), ((i ≤ len ∧ i ≤ 40) ∧ FInv F is t) ∧ K' = [(8, .int .i64 i), (6, S t), (7, .bool is)] ∧ D' = [] ∧ M' = [bookA b F] ∧ μ = 40 - i) (.cons (t := 0) rfl <| .cons (t := 1) rfl <| .cons (t := 5) rfl <| SubK.nil _) (⟨0, [], false, _, ⟨by omega, finv_0⟩, rfl, rfl, rfl, rfl⟩) (.cons (t := 8) rfl <| .cons (t := 6) rfl <| .cons (t := 7) rfl <| SubK.nil _) qD qS ?_
  rintro K1 D1 M1 m1 ⟨i, t, is, F, ⟨⟨hi1, hi2⟩, hI⟩, rfl, rfl, rfl, rfl⟩
  refine T.norm3 qA qA qA ?_
  refine T.seq ?_
  refine T.seq ?_
  refine T.region ?_
  refine L.move rfl rfl ?_
  refine L.move rfl rfl ?_
  refine L.lenSl rfl Try.underlying29 rfl ?_
  refine L.ltI rfl rfl rfl ?_
  refine L.move rfl rfl ?_
  refine L.part (t := 20) rfl (fun h1 => ?_) (fun h1 => ?_)
  · try simp only [decide_eq_true_eq, decide_eq_false_iff_not, Bool.not_eq_true', Bool.not_eq_false', Bool.and_eq_true, Bool.or_eq_true] at h1
    refine L.guardT (dj := 20) rfl rfl rfl ?_
    refine L.move rfl rfl ?_
    refine L.guardT (dj := 20) rfl rfl rfl ?_
    refine L.ltI rfl rfl rfl ?_
    refine L.pickT rfl rfl rfl ?_
    refine L.nil ?_
    refine T.thenN ?_
    refine T.cond rfl (fun h23 => ?_) (fun h23 => ?_)
    · try simp only [decide_eq_true_eq, decide_eq_false_iff_not, Bool.not_eq_true', Bool.not_eq_false', Bool.and_eq_true, Bool.or_eq_true] at h23
      refine T.skip ?_
      refine T.thenN ?_
      refine T.seq ?_
      refine T.block ?_
      refine T.seq ?_
      refine T.region ?_
      refine L.move rfl rfl ?_
      refine L.move rfl rfl ?_
      obtain ⟨⟨ak, an, ay, tx, re⟩, hxk⟩ := ex_get (l := xs) (k := i) (by omega)
      obtain ⟨hg1, hg2, hg3, -⟩ := hg _ (List.mem_of_getElem? hxk)
      refine L.idx (i := i) rfl Try.underlying29 sz32 rfl rfl qM (by first | rfl | omega | (simp; done)) qG (fun b29 o29 => ?_)
      refine L.loadA rfl ag32 rfl qN ?_
      refine L.call rfl (evs.cons rfl <| evs.nil) qD qS (proof_spec (tx := tx) (re := re)) ?_
      rintro _ _ _ ⟨rfl, rfl, rfl⟩
      refine L.norm qA qA ?_
      have ho32 := oidF_len 1 (re.take 30)
      have h34 : (pcells (1, oidF 1 (re.take 30), tx.take 30)).length = 34 := by simp [ho32]
      refine L.move rfl rfl ?_
      refine L.extract rfl rfl rfl ?_
      refine L.extract rfl rfl rfl ?_
      refine L.alloc rfl ze36 (fun b9 => ?_)
      refine L.alloc rfl ze38 (fun b10 => ?_)
      refine L.storeA ag36 rfl rfl qL qO qU qW ?_
      refine L.storeA ag38 rfl rfl qL qO qU qW ?_
      refine L.nil ?_
      have hrl : (re.take 30).length ≤ 30 := by simp; omega
      have htl : (tx.take 30).length ≤ 30 := by simp; omega
      refine T.thenN ?_
      refine T.seq ?_
      refine T.seq ?_
      refine T.region ?_
      refine L.move rfl rfl ?_
      refine L.loadA rfl ag36 rfl qN ?_
      refine L.call rfl (evs.cons rfl <| evs.cons rfl <| evs.cons rfl <| evs.nil) qD qS (ban_spec (k := 1) (id := oidF 1 (re.take 30)) (tx := tx.take 30) ho32 (by simp; omega)) ?_
      rintro _ _ _ ⟨rfl, rfl, rfl⟩
      refine L.norm qA qA ?_
      refine L.eqI rfl rfl rfl ?_
      refine L.move rfl rfl ?_
      refine L.part (t := 38) rfl (fun h2 => ?_) (fun h2 => ?_)
      · try simp only [decide_eq_true_eq, decide_eq_false_iff_not, Bool.not_eq_true', Bool.not_eq_false', Bool.and_eq_true, Bool.or_eq_true] at h2
        have hno : ¬ oidF 1 (tx.take 30) = oidF 1 (re.take 30) := fun e => by rw [if_pos e] at h2; exact absurd h2 (by decide)
        refine L.guardT (dj := 38) rfl rfl rfl ?_
        refine L.move rfl rfl ?_
        refine L.guardT (dj := 38) rfl rfl rfl ?_
        refine L.notB rfl rfl ?_
        refine L.pickT rfl rfl rfl ?_
        refine L.nil ?_
        refine T.thenN ?_
        refine T.cond rfl (fun h41 => ?_) (fun h41 => ?_)
        · try simp only [decide_eq_true_eq, decide_eq_false_iff_not, Bool.not_eq_true', Bool.not_eq_false', Bool.and_eq_true, Bool.or_eq_true] at h41
          have hisf : is = false := by simpa using h41
          refine T.region ?_
          first | refine L.field0 rfl fo36_2 rfl ?_ | refine L.field rfl fo36_2 rfl ?_
          refine L.load rfl sc9 rfl qC ?_
          refine L.assign rfl rfl ?_
          refine L.assign rfl rfl ?_
          refine L.nil ?_
          refine T.thenN ?_
          refine T.region ?_
          refine L.move rfl rfl ?_
          refine L.call rfl (evs.cons rfl <| evs.cons rfl <| evs.nil) qD qS (good_spec ) ?_
          rintro _ _ _ ⟨rfl, rfl, rfl⟩
          refine L.norm qA qA ?_
          refine L.nil ?_
          refine T.blkN ?_
          refine T.thenN ?_
          refine T.region ?_
          refine L.move rfl rfl ?_
          refine L.addN rfl rfl rfl (by omega) ?_
          refine L.assign rfl rfl ?_
          refine L.nil ?_
          refine T.thenN ?_
          exact T.back ⟨i + 1, _, _, _, ⟨by omega, (by first | exact finv_new (by rw [← hisf]; exact hI) ho32 htl hno | exact finv_keep hI hkeep)⟩, rfl, rfl, rfl, rfl⟩ qI (.cons (t := 8) rfl <| .cons (t := 6) rfl <| .cons (t := 7) rfl <| SubK.nil _) (.cons (t := 0) rfl <| .cons (t := 1) rfl <| .cons (t := 5) rfl <| SubK.nil _) qD qD qF
        · try simp only [decide_eq_true_eq, decide_eq_false_iff_not, Bool.not_eq_true', Bool.not_eq_false', Bool.and_eq_true, Bool.or_eq_true] at h41
          have hkeep : is = true ∨ oidF 1 (tx.take 30) = oidF 1 (re.take 30) := .inl (by simpa using h41)
          refine T.skip ?_
          refine T.thenN ?_
          refine T.region ?_
          refine L.move rfl rfl ?_
          refine L.call rfl (evs.cons rfl <| evs.cons rfl <| evs.nil) qD qS (good_spec ) ?_
          rintro _ _ _ ⟨rfl, rfl, rfl⟩
          refine L.norm qA qA ?_
          refine L.nil ?_
          refine T.blkN ?_
          refine T.thenN ?_
          refine T.region ?_
          refine L.move rfl rfl ?_
          refine L.addN rfl rfl rfl (by omega) ?_
          refine L.assign rfl rfl ?_
          refine L.nil ?_
          refine T.thenN ?_
          exact T.back ⟨i + 1, _, _, _, ⟨by omega, (by first | exact finv_new (by rw [← hisf]; exact hI) ho32 htl hno | exact finv_keep hI hkeep)⟩, rfl, rfl, rfl, rfl⟩ qI (.cons (t := 8) rfl <| .cons (t := 6) rfl <| .cons (t := 7) rfl <| SubK.nil _) (.cons (t := 0) rfl <| .cons (t := 1) rfl <| .cons (t := 5) rfl <| SubK.nil _) qD qD qF
      · try simp only [decide_eq_true_eq, decide_eq_false_iff_not, Bool.not_eq_true', Bool.not_eq_false', Bool.and_eq_true, Bool.or_eq_true] at h2
        have hkeep : is = true ∨ oidF 1 (tx.take 30) = oidF 1 (re.take 30) := by
          by_cases e : oidF 1 (tx.take 30) = oidF 1 (re.take 30)
          · exact .inr e
          · rw [if_neg e] at h2; exact absurd rfl h2
        refine L.guardF (dj := 38) (c := false) rfl rfl rfl rfl rfl (by decide) ?_
        refine L.guardF (dj := 38) (c := false) rfl rfl rfl rfl rfl (by decide) ?_
        refine L.pickF rfl rfl rfl ?_
        refine L.nil ?_
        refine T.thenN ?_
        refine T.condF rfl rfl ?_
        refine T.skip ?_
        refine T.thenN ?_
        refine T.region ?_
        refine L.move rfl rfl ?_
        refine L.call rfl (evs.cons rfl <| evs.cons rfl <| evs.nil) qD qS (good_spec ) ?_
        rintro _ _ _ ⟨rfl, rfl, rfl⟩
        refine L.norm qA qA ?_
        refine L.nil ?_
        refine T.blkN ?_
        refine T.thenN ?_
        refine T.region ?_
        refine L.move rfl rfl ?_
        refine L.addN rfl rfl rfl (by omega) ?_
        refine L.assign rfl rfl ?_
        refine L.nil ?_
        refine T.thenN ?_
        exact T.back ⟨i + 1, _, _, _, ⟨by omega, (by first | exact finv_new (by rw [← hisf]; exact hI) ho32 htl hno | exact finv_keep hI hkeep)⟩, rfl, rfl, rfl, rfl⟩ qI (.cons (t := 8) rfl <| .cons (t := 6) rfl <| .cons (t := 7) rfl <| SubK.nil _) (.cons (t := 0) rfl <| .cons (t := 1) rfl <| .cons (t := 5) rfl <| SubK.nil _) qD qD qF
    · try simp only [decide_eq_true_eq, decide_eq_false_iff_not, Bool.not_eq_true', Bool.not_eq_false', Bool.and_eq_true, Bool.or_eq_true] at h23
      refine T.exit ?_
      refine T.thenX ?_
      refine T.thenX ?_
      refine T.blkX ?_
      refine T.thenN ?_
      refine T.seq ?_
      refine T.bookOk qM (fun hok => ?_)
      refine T.region ?_
      refine L.move rfl rfl ?_
      refine L.callF rfl (evs.cons rfl <| evs.cons rfl <| evs.nil) qD qS (banned_spec ) (by rintro u D1 M1 ⟨rfl, rfl, rfl⟩; exact ⟨rfl, _, qA, qF⟩) ?_
      have h34 := p34 (hok 2)
      have hid32 := p32 (hok 2)
      refine L.move rfl rfl ?_
      refine L.extract rfl rfl rfl ?_
      refine L.extract rfl rfl rfl ?_
      refine L.alloc rfl ze36 (fun b11 => ?_)
      refine L.storeA ag36 rfl rfl qL qO qU qW ?_
      refine L.assign rfl rfl ?_
      refine L.nil ?_
      refine T.thenN ?_
      refine T.seq ?_
      have hban := finv_ban hI
      have htxe := finv_tx hI
      refine T.region ?_
      refine L.move rfl rfl ?_
      refine L.move rfl rfl ?_
      refine L.eqlB Try.underlying4 rfl rfl rfl ?_
      refine L.move rfl rfl ?_
      refine L.known (t := 54) rfl (show _ = Value.bool true from congrArg Value.bool hban) ?_
      refine L.guardT (dj := 54) rfl rfl rfl ?_
      first | refine L.field0 rfl fo36_2 rfl ?_ | refine L.field rfl fo36_2 rfl ?_
      refine L.guardT (dj := 54) rfl rfl rfl ?_
      refine L.load rfl sc9 rfl qC ?_
      refine L.guardT (dj := 54) rfl rfl rfl ?_
      refine L.move rfl rfl ?_
      refine L.guardT (dj := 54) rfl rfl rfl ?_
      refine L.eqS rfl rfl rfl ?_
      refine L.pickT rfl rfl rfl ?_
      refine L.move rfl rfl ?_
      refine L.known (t := 60) rfl (show _ = Value.bool true from congrArg Value.bool htxe) ?_
      refine L.guardT (dj := 60) rfl rfl rfl ?_
      refine L.move rfl rfl ?_
      refine L.guardT (dj := 60) rfl rfl rfl ?_
      refine L.notB rfl rfl ?_
      refine L.guardT (dj := 60) rfl rfl rfl ?_
      refine L.move rfl rfl ?_
      refine L.part (t := 63) rfl (fun h3 => ?_) (fun h3 => ?_)
      · try simp only [decide_eq_true_eq, decide_eq_false_iff_not, Bool.not_eq_true', Bool.not_eq_false', Bool.and_eq_true, Bool.or_eq_true] at h3
        refine L.guardF (dj := 63) (c := true) rfl rfl rfl rfl rfl (by decide) ?_
        refine L.guardF (dj := 63) (c := true) rfl rfl rfl rfl rfl (by decide) ?_
        refine L.guardF (dj := 63) (c := true) rfl rfl rfl rfl rfl (by decide) ?_
        refine L.guardU (dj := 66) rfl rfl rfl rfl rfl ?_
        refine L.guardU (dj := 66) rfl rfl rfl rfl rfl ?_
        refine L.guardU (dj := 66) rfl rfl rfl rfl rfl ?_
        refine L.guardU (dj := 66) rfl rfl rfl rfl rfl ?_
        refine L.guardU (dj := 66) rfl rfl rfl rfl rfl ?_
        refine L.guardF (dj := 63) (c := true) rfl rfl rfl rfl rfl (by decide) ?_
        refine L.guardT (dj := 60) rfl rfl rfl ?_
        refine L.pickT rfl rfl rfl ?_
        refine L.pickT rfl rfl rfl ?_
        refine L.move rfl rfl ?_
        refine L.guardT (dj := 75) rfl rfl rfl ?_
        refine L.move rfl rfl ?_
        refine L.guardT (dj := 75) rfl rfl rfl ?_
        refine L.buildSlice rfl bs46 (by decide) (BP.one rfl rfl rfl <| BP.doneE (out := []) rfl) (fun b77 => ?_)
        refine L.toOwn (len := 1) qP (rows := [2].map e3) (sz := 1) (by rfl) rfl (by simp) ?_
        refine L.ownRsl qP ?_
        refine L.guardT (dj := 75) rfl rfl rfl ?_
        refine L.call rfl (evs.cons rfl <| evs.cons rfl <| evs.cons rfl <| evs.nil) qD qS (bsort_spec (xs := [2]) (by omega)) ?_
        rintro _ _ _ ⟨sa, sc, ys, rfl, hperm, hsort, rfl, rfl⟩
        refine L.norm qA qA ?_
        have hyl : ys.length = if is = true then 0 else 1 := by rw [hperm.length_eq]; simp only [List.filter, finv_may hI]; cases is <;> rfl
        refine L.guardT (dj := 75) rfl rfl rfl ?_
        refine L.lenSl rfl Try.underlying46 rfl ?_
        refine L.guardT (dj := 75) rfl rfl rfl ?_
        refine L.move rfl rfl ?_
        refine L.guardT (dj := 75) rfl rfl rfl ?_
        refine L.call rfl (evs.cons rfl <| evs.nil) qD qS (only_spec) ?_
        rintro _ _ _ ⟨oa, ol, oc, rfl, hol, rfl, rfl⟩
        refine L.norm qA qA ?_
        have hol1 : ol ≤ 1 := by rw [hol]; split <;> omega
        refine L.guardT (dj := 75) rfl rfl rfl ?_
        refine L.lenSl rfl Try.underlying46 rfl ?_
        refine L.guardT (dj := 75) rfl rfl rfl ?_
        refine L.subN rfl rfl rfl (by omega) ?_
        refine L.guardT (dj := 75) rfl rfl rfl ?_
        refine L.eqI rfl rfl rfl ?_
        refine L.pickT rfl rfl rfl ?_
        refine L.assign rfl rfl ?_
        refine L.nil ?_
        refine T.thenN ?_
        refine T.ret ?_
        exact T.ret1 rfl rfl ⟨congrArg Value.bool (decide_eq_true (by rw [hyl, hol]; cases is <;> rfl)), rfl, rfl⟩ qD qF
      · try simp only [decide_eq_true_eq, decide_eq_false_iff_not, Bool.not_eq_true', Bool.not_eq_false', Bool.and_eq_true, Bool.or_eq_true] at h3
        have his : is = true := by simpa using h3
        obtain ⟨id, hq1, hq2, hq3, hq4⟩ := hI.2.1 his
        have hid32 : ((F 2).2.2.2.getD zP).2.1.length = 32 := by rw [hq1]; exact hq2
        have htx35 : ((F 2).2.2.2.getD zP).2.2.length ≤ 35184372088832 := by rw [hq1]; show t.length ≤ _; omega
        have hhold : decide (oidF ((F 2).2.2.2.getD zP).1 ((F 2).2.2.2.getD zP).2.2 ≠ ((F 2).2.2.2.getD zP).2.1) = true := by rw [hq1]; exact decide_eq_true hq3
        refine L.guardT (dj := 63) rfl rfl rfl ?_
        refine L.loadA rfl ag36 rfl qN ?_
        refine L.guardT (dj := 63) rfl rfl rfl ?_
        refine L.callF rfl (evs.cons rfl <| evs.nil) qD qS (holds_spec (k := ((F 2).2.2.2.getD zP).1) (id := ((F 2).2.2.2.getD zP).2.1) (tx := ((F 2).2.2.2.getD zP).2.2) hid32 htx35) (by rintro u D1 M1 ⟨rfl, rfl, rfl⟩; exact ⟨rfl, _, qA, qF⟩) ?_
        refine L.guardT (dj := 63) rfl rfl rfl ?_
        refine L.move rfl rfl ?_
        refine L.known (t := 66) rfl (show _ = Value.bool true from congrArg Value.bool hhold) ?_
        refine L.guardT (dj := 66) rfl rfl rfl ?_
        refine L.move rfl rfl ?_
        refine L.guardT (dj := 66) rfl rfl rfl ?_
        refine L.move rfl rfl ?_
        refine L.guardT (dj := 66) rfl rfl rfl ?_
        refine L.maxI rfl rfl rfl ?_
        refine L.guardT (dj := 66) rfl rfl rfl ?_
        refine L.callF rfl (evs.cons rfl <| evs.cons rfl <| evs.cons rfl <| evs.nil) qD qS (may_spec) (by rintro u D1 M1 ⟨rfl, rfl, rfl⟩; exact ⟨rfl, _, qA, qF⟩) ?_
        rw [finv_no hI his]
        refine L.guardT (dj := 66) rfl rfl rfl ?_
        refine L.notB rfl rfl ?_
        refine L.guardT (dj := 63) rfl rfl rfl ?_
        refine L.pickT rfl rfl rfl ?_
        refine L.guardT (dj := 60) rfl rfl rfl ?_
        refine L.pickF rfl rfl rfl ?_
        refine L.pickT rfl rfl rfl ?_
        refine L.move rfl rfl ?_
        refine L.known (t := 75) rfl (show _ = Value.bool true from congrArg Value.bool (by rfl)) ?_
        refine L.guardT (dj := 75) rfl rfl rfl ?_
        refine L.move rfl rfl ?_
        refine L.guardT (dj := 75) rfl rfl rfl ?_
        refine L.buildSlice rfl bs46 (by decide) (BP.one rfl rfl rfl <| BP.doneE (out := []) rfl) (fun b77 => ?_)
        refine L.toOwn (len := 1) qP (rows := [2].map e3) (sz := 1) (by rfl) rfl (by simp) ?_
        refine L.ownRsl qP ?_
        refine L.guardT (dj := 75) rfl rfl rfl ?_
        refine L.call rfl (evs.cons rfl <| evs.cons rfl <| evs.cons rfl <| evs.nil) qD qS (bsort_spec (xs := [2]) (by omega)) ?_
        rintro _ _ _ ⟨sa, sc, ys, rfl, hperm, hsort, rfl, rfl⟩
        refine L.norm qA qA ?_
        have hyl : ys.length = if is = true then 0 else 1 := by rw [hperm.length_eq]; simp only [List.filter, finv_may hI]; cases is <;> rfl
        refine L.guardT (dj := 75) rfl rfl rfl ?_
        refine L.lenSl rfl Try.underlying46 rfl ?_
        refine L.guardT (dj := 75) rfl rfl rfl ?_
        refine L.move rfl rfl ?_
        refine L.guardT (dj := 75) rfl rfl rfl ?_
        refine L.call rfl (evs.cons rfl <| evs.nil) qD qS (only_spec) ?_
        rintro _ _ _ ⟨oa, ol, oc, rfl, hol, rfl, rfl⟩
        refine L.norm qA qA ?_
        have hol1 : ol ≤ 1 := by rw [hol]; split <;> omega
        refine L.guardT (dj := 75) rfl rfl rfl ?_
        refine L.lenSl rfl Try.underlying46 rfl ?_
        refine L.guardT (dj := 75) rfl rfl rfl ?_
        refine L.subN rfl rfl rfl (by omega) ?_
        refine L.guardT (dj := 75) rfl rfl rfl ?_
        refine L.eqI rfl rfl rfl ?_
        refine L.pickT rfl rfl rfl ?_
        refine L.assign rfl rfl ?_
        refine L.nil ?_
        refine T.thenN ?_
        refine T.ret ?_
        exact T.ret1 rfl rfl ⟨congrArg Value.bool (decide_eq_true (by rw [hyl, hol]; cases is <;> rfl)), rfl, rfl⟩ qD qF
  · try simp only [decide_eq_true_eq, decide_eq_false_iff_not, Bool.not_eq_true', Bool.not_eq_false', Bool.and_eq_true, Bool.or_eq_true] at h1
    refine L.guardF (dj := 20) (c := false) rfl rfl rfl rfl rfl (by decide) ?_
    refine L.guardF (dj := 20) (c := false) rfl rfl rfl rfl rfl (by decide) ?_
    refine L.pickF rfl rfl rfl ?_
    refine L.nil ?_
    refine T.thenN ?_
    refine T.condF rfl rfl ?_
    refine T.exit ?_
    refine T.thenX ?_
    refine T.thenX ?_
    refine T.blkX ?_
    refine T.thenN ?_
    refine T.seq ?_
    refine T.bookOk qM (fun hok => ?_)
    refine T.region ?_
    refine L.move rfl rfl ?_
    refine L.callF rfl (evs.cons rfl <| evs.cons rfl <| evs.nil) qD qS (banned_spec ) (by rintro u D1 M1 ⟨rfl, rfl, rfl⟩; exact ⟨rfl, _, qA, qF⟩) ?_
    have h34 := p34 (hok 2)
    have hid32 := p32 (hok 2)
    refine L.move rfl rfl ?_
    refine L.extract rfl rfl rfl ?_
    refine L.extract rfl rfl rfl ?_
    refine L.alloc rfl ze36 (fun b11 => ?_)
    refine L.storeA ag36 rfl rfl qL qO qU qW ?_
    refine L.assign rfl rfl ?_
    refine L.nil ?_
    refine T.thenN ?_
    refine T.seq ?_
    have hban := finv_ban hI
    have htxe := finv_tx hI
    refine T.region ?_
    refine L.move rfl rfl ?_
    refine L.move rfl rfl ?_
    refine L.eqlB Try.underlying4 rfl rfl rfl ?_
    refine L.move rfl rfl ?_
    refine L.known (t := 54) rfl (show _ = Value.bool true from congrArg Value.bool hban) ?_
    refine L.guardT (dj := 54) rfl rfl rfl ?_
    first | refine L.field0 rfl fo36_2 rfl ?_ | refine L.field rfl fo36_2 rfl ?_
    refine L.guardT (dj := 54) rfl rfl rfl ?_
    refine L.load rfl sc9 rfl qC ?_
    refine L.guardT (dj := 54) rfl rfl rfl ?_
    refine L.move rfl rfl ?_
    refine L.guardT (dj := 54) rfl rfl rfl ?_
    refine L.eqS rfl rfl rfl ?_
    refine L.pickT rfl rfl rfl ?_
    refine L.move rfl rfl ?_
    refine L.known (t := 60) rfl (show _ = Value.bool true from congrArg Value.bool htxe) ?_
    refine L.guardT (dj := 60) rfl rfl rfl ?_
    refine L.move rfl rfl ?_
    refine L.guardT (dj := 60) rfl rfl rfl ?_
    refine L.notB rfl rfl ?_
    refine L.guardT (dj := 60) rfl rfl rfl ?_
    refine L.move rfl rfl ?_
    refine L.part (t := 63) rfl (fun h4 => ?_) (fun h4 => ?_)
    · try simp only [decide_eq_true_eq, decide_eq_false_iff_not, Bool.not_eq_true', Bool.not_eq_false', Bool.and_eq_true, Bool.or_eq_true] at h4
      refine L.guardF (dj := 63) (c := true) rfl rfl rfl rfl rfl (by decide) ?_
      refine L.guardF (dj := 63) (c := true) rfl rfl rfl rfl rfl (by decide) ?_
      refine L.guardF (dj := 63) (c := true) rfl rfl rfl rfl rfl (by decide) ?_
      refine L.guardU (dj := 66) rfl rfl rfl rfl rfl ?_
      refine L.guardU (dj := 66) rfl rfl rfl rfl rfl ?_
      refine L.guardU (dj := 66) rfl rfl rfl rfl rfl ?_
      refine L.guardU (dj := 66) rfl rfl rfl rfl rfl ?_
      refine L.guardU (dj := 66) rfl rfl rfl rfl rfl ?_
      refine L.guardF (dj := 63) (c := true) rfl rfl rfl rfl rfl (by decide) ?_
      refine L.guardT (dj := 60) rfl rfl rfl ?_
      refine L.pickT rfl rfl rfl ?_
      refine L.pickT rfl rfl rfl ?_
      refine L.move rfl rfl ?_
      refine L.guardT (dj := 75) rfl rfl rfl ?_
      refine L.move rfl rfl ?_
      refine L.guardT (dj := 75) rfl rfl rfl ?_
      refine L.buildSlice rfl bs46 (by decide) (BP.one rfl rfl rfl <| BP.doneE (out := []) rfl) (fun b77 => ?_)
      refine L.toOwn (len := 1) qP (rows := [2].map e3) (sz := 1) (by rfl) rfl (by simp) ?_
      refine L.ownRsl qP ?_
      refine L.guardT (dj := 75) rfl rfl rfl ?_
      refine L.call rfl (evs.cons rfl <| evs.cons rfl <| evs.cons rfl <| evs.nil) qD qS (bsort_spec (xs := [2]) (by omega)) ?_
      rintro _ _ _ ⟨sa, sc, ys, rfl, hperm, hsort, rfl, rfl⟩
      refine L.norm qA qA ?_
      have hyl : ys.length = if is = true then 0 else 1 := by rw [hperm.length_eq]; simp only [List.filter, finv_may hI]; cases is <;> rfl
      refine L.guardT (dj := 75) rfl rfl rfl ?_
      refine L.lenSl rfl Try.underlying46 rfl ?_
      refine L.guardT (dj := 75) rfl rfl rfl ?_
      refine L.move rfl rfl ?_
      refine L.guardT (dj := 75) rfl rfl rfl ?_
      refine L.call rfl (evs.cons rfl <| evs.nil) qD qS (only_spec) ?_
      rintro _ _ _ ⟨oa, ol, oc, rfl, hol, rfl, rfl⟩
      refine L.norm qA qA ?_
      have hol1 : ol ≤ 1 := by rw [hol]; split <;> omega
      refine L.guardT (dj := 75) rfl rfl rfl ?_
      refine L.lenSl rfl Try.underlying46 rfl ?_
      refine L.guardT (dj := 75) rfl rfl rfl ?_
      refine L.subN rfl rfl rfl (by omega) ?_
      refine L.guardT (dj := 75) rfl rfl rfl ?_
      refine L.eqI rfl rfl rfl ?_
      refine L.pickT rfl rfl rfl ?_
      refine L.assign rfl rfl ?_
      refine L.nil ?_
      refine T.thenN ?_
      refine T.ret ?_
      exact T.ret1 rfl rfl ⟨congrArg Value.bool (decide_eq_true (by rw [hyl, hol]; cases is <;> rfl)), rfl, rfl⟩ qD qF
    · try simp only [decide_eq_true_eq, decide_eq_false_iff_not, Bool.not_eq_true', Bool.not_eq_false', Bool.and_eq_true, Bool.or_eq_true] at h4
      have his : is = true := by simpa using h4
      obtain ⟨id, hq1, hq2, hq3, hq4⟩ := hI.2.1 his
      have hid32 : ((F 2).2.2.2.getD zP).2.1.length = 32 := by rw [hq1]; exact hq2
      have htx35 : ((F 2).2.2.2.getD zP).2.2.length ≤ 35184372088832 := by rw [hq1]; show t.length ≤ _; omega
      have hhold : decide (oidF ((F 2).2.2.2.getD zP).1 ((F 2).2.2.2.getD zP).2.2 ≠ ((F 2).2.2.2.getD zP).2.1) = true := by rw [hq1]; exact decide_eq_true hq3
      refine L.guardT (dj := 63) rfl rfl rfl ?_
      refine L.loadA rfl ag36 rfl qN ?_
      refine L.guardT (dj := 63) rfl rfl rfl ?_
      refine L.callF rfl (evs.cons rfl <| evs.nil) qD qS (holds_spec (k := ((F 2).2.2.2.getD zP).1) (id := ((F 2).2.2.2.getD zP).2.1) (tx := ((F 2).2.2.2.getD zP).2.2) hid32 htx35) (by rintro u D1 M1 ⟨rfl, rfl, rfl⟩; exact ⟨rfl, _, qA, qF⟩) ?_
      refine L.guardT (dj := 63) rfl rfl rfl ?_
      refine L.move rfl rfl ?_
      refine L.known (t := 66) rfl (show _ = Value.bool true from congrArg Value.bool hhold) ?_
      refine L.guardT (dj := 66) rfl rfl rfl ?_
      refine L.move rfl rfl ?_
      refine L.guardT (dj := 66) rfl rfl rfl ?_
      refine L.move rfl rfl ?_
      refine L.guardT (dj := 66) rfl rfl rfl ?_
      refine L.maxI rfl rfl rfl ?_
      refine L.guardT (dj := 66) rfl rfl rfl ?_
      refine L.callF rfl (evs.cons rfl <| evs.cons rfl <| evs.cons rfl <| evs.nil) qD qS (may_spec) (by rintro u D1 M1 ⟨rfl, rfl, rfl⟩; exact ⟨rfl, _, qA, qF⟩) ?_
      rw [finv_no hI his]
      refine L.guardT (dj := 66) rfl rfl rfl ?_
      refine L.notB rfl rfl ?_
      refine L.guardT (dj := 63) rfl rfl rfl ?_
      refine L.pickT rfl rfl rfl ?_
      refine L.guardT (dj := 60) rfl rfl rfl ?_
      refine L.pickF rfl rfl rfl ?_
      refine L.pickT rfl rfl rfl ?_
      refine L.move rfl rfl ?_
      refine L.known (t := 75) rfl (show _ = Value.bool true from congrArg Value.bool (by rfl)) ?_
      refine L.guardT (dj := 75) rfl rfl rfl ?_
      refine L.move rfl rfl ?_
      refine L.guardT (dj := 75) rfl rfl rfl ?_
      refine L.buildSlice rfl bs46 (by decide) (BP.one rfl rfl rfl <| BP.doneE (out := []) rfl) (fun b77 => ?_)
      refine L.toOwn (len := 1) qP (rows := [2].map e3) (sz := 1) (by rfl) rfl (by simp) ?_
      refine L.ownRsl qP ?_
      refine L.guardT (dj := 75) rfl rfl rfl ?_
      refine L.call rfl (evs.cons rfl <| evs.cons rfl <| evs.cons rfl <| evs.nil) qD qS (bsort_spec (xs := [2]) (by omega)) ?_
      rintro _ _ _ ⟨sa, sc, ys, rfl, hperm, hsort, rfl, rfl⟩
      refine L.norm qA qA ?_
      have hyl : ys.length = if is = true then 0 else 1 := by rw [hperm.length_eq]; simp only [List.filter, finv_may hI]; cases is <;> rfl
      refine L.guardT (dj := 75) rfl rfl rfl ?_
      refine L.lenSl rfl Try.underlying46 rfl ?_
      refine L.guardT (dj := 75) rfl rfl rfl ?_
      refine L.move rfl rfl ?_
      refine L.guardT (dj := 75) rfl rfl rfl ?_
      refine L.call rfl (evs.cons rfl <| evs.nil) qD qS (only_spec) ?_
      rintro _ _ _ ⟨oa, ol, oc, rfl, hol, rfl, rfl⟩
      refine L.norm qA qA ?_
      have hol1 : ol ≤ 1 := by rw [hol]; split <;> omega
      refine L.guardT (dj := 75) rfl rfl rfl ?_
      refine L.lenSl rfl Try.underlying46 rfl ?_
      refine L.guardT (dj := 75) rfl rfl rfl ?_
      refine L.subN rfl rfl rfl (by omega) ?_
      refine L.guardT (dj := 75) rfl rfl rfl ?_
      refine L.eqI rfl rfl rfl ?_
      refine L.pickT rfl rfl rfl ?_
      refine L.assign rfl rfl ?_
      refine L.nil ?_
      refine T.thenN ?_
      refine T.ret ?_
      exact T.ret1 rfl rfl ⟨congrArg Value.bool (decide_eq_true (by rw [hyl, hol]; cases is <;> rfl)), rfl, rfl⟩ qD qF
end Cv
