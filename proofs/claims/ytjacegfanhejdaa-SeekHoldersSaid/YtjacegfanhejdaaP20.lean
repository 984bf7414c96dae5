/-
  The walks: the law of those that have it.
-/
import Derived.Test.YtjacegfanhejdaaO20
import Derived.Test.YtjacegfanhejdaaProg
import Derived.KernelRfl
set_option linter.unusedVariables false
set_option linter.unusedSimpArgs false
set_option linter.unusedSectionVars false
set_option maxRecDepth 10000
namespace Cv
open Go Go.Proofs
/-! ## those that are said to have it -/
structure WI (i : Nat) (lh lw : List (Int × Int)) : Prop where
  keys : lw.map Prod.fst = lh.map Prod.fst
  ub : ∀ n, 0 ≤ (look lw n).getD 0 ∧ (look lw n).getD 0 ≤ i
  lb : ∀ n ∈ lw.map Prod.fst, 1 ≤ (look lw n).getD 0
  len : lh.length ≤ i
theorem WI.zero : WI 0 [] [] := ⟨rfl, fun n => ⟨Int.le_refl 0, Int.le_refl 0⟩, fun n h => (by cases h), Nat.le_refl 0⟩
theorem put_len {l : List (Int × Int)} {k v : Int} : (put l k v).length ≤ l.length + 1 := by
  have := congrArg List.length (keys_put (l := l) (k := k) (v := v))
  rw [List.length_map] at this
  rw [this]
  split <;> simp
theorem WI.yes {o : Int} {i : Nat} {n : Int} {lh lw : List (Int × Int)} (h : WI i lh lw) (hm : May o n) : WI (i + 1) (hasF o lh [n]) (put lw n ((look lw n).getD 0 + 1)) := by
  have e : hasF o lh [n] = put lh n 1 := by unfold hasF; rw [List.foldl_cons, List.foldl_nil, has1, if_pos hm]
  rw [e]
  refine ⟨by rw [keys_put, keys_put, h.keys], fun k => ?_, fun k hk => ?_, Nat.le_trans put_len (Nat.succ_le_succ h.len)⟩
  · rw [look_put]
    have := h.ub k
    have h2 := h.ub n
    split
    · simp only [Option.getD_some]; omega
    · omega
  · rw [look_put]
    split
    · have h2 := h.ub n; simp only [Option.getD_some]; omega
    · rename_i hne
      rw [keys_put] at hk
      split at hk
      · exact h.lb k hk
      · rcases List.mem_append.1 hk with q | q
        · exact h.lb k q
        · exact absurd (List.mem_singleton.1 q) hne
theorem WI.no {o : Int} {i : Nat} {n : Int} {lh lw : List (Int × Int)} (h : WI i lh lw) (hm : ¬ May o n) : WI (i + 1) (hasF o lh [n]) lw := by
  have e : hasF o lh [n] = lh := by unfold hasF; rw [List.foldl_cons, List.foldl_nil, has1, if_neg hm]
  rw [e]
  exact ⟨h.keys, fun k => by have := h.ub k; omega, h.lb, Nat.le_succ_of_le h.len⟩
theorem may4 (o n : Int) : ¬ 0 ≤ n ∨ (0 ≤ n ∧ ¬ n < 64) ∨ (0 ≤ n ∧ n < 64) := by omega
theorem srt_lt {xs : List Int} (hnd : xs.Nodup) {i : Nat} (hi : 0 < i) (hl : i < (xs.mergeSort fun x y => decide (x ≤ y)).length) : gd (xs.mergeSort fun x y => decide (x ≤ y)) (i - 1) < gd (xs.mergeSort fun x y => decide (x ≤ y)) i := by
  have h1 : (xs.mergeSort fun x y => decide (x ≤ y)).Pairwise (fun x y => decide (x ≤ y) = true) := List.pairwise_mergeSort (fun a b c h1 h2 => by simp at *; omega) (fun a b => by simp; omega) xs
  have h2 : (xs.mergeSort fun x y => decide (x ≤ y)).Nodup := (List.mergeSort_perm xs _).nodup_iff.2 hnd
  have e1 : gd (xs.mergeSort fun x y => decide (x ≤ y)) (i - 1) = (xs.mergeSort fun x y => decide (x ≤ y))[i - 1]'(by omega) := by
    have := gd_get (l := xs.mergeSort fun x y => decide (x ≤ y)) (i := i - 1) (by omega)
    rw [List.getElem?_eq_getElem (by omega)] at this
    exact (Option.some.inj this).symm
  have e2 : gd (xs.mergeSort fun x y => decide (x ≤ y)) i = (xs.mergeSort fun x y => decide (x ≤ y))[i] := by
    have := gd_get (l := xs.mergeSort fun x y => decide (x ≤ y)) (i := i) hl
    rw [List.getElem?_eq_getElem hl] at this
    exact (Option.some.inj this).symm
  rw [e1, e2]
  have a := List.pairwise_iff_getElem.1 h1 (i - 1) i (by omega) hl (by omega)
  have b := (List.nodup_iff_pairwise_ne.1 h2)
  have c := List.pairwise_iff_getElem.1 b (i - 1) i (by omega) hl (by omega)
  simp only [decide_eq_true_eq] at a
  omega
theorem WI.mem {i j : Nat} {lh lw : List (Int × Int)} {xs : List Int} {n : Int} (h : WI i lh lw) (hp : xs.Perm (lh.map Prod.fst)) (hn : (xs.mergeSort fun x y => decide (x ≤ y))[j]? = some n) : (look lw n).getD 0 ≠ 0 := by
  have h1 : n ∈ xs := (List.mergeSort_perm xs _).mem_iff.1 (List.mem_of_getElem? hn)
  have := h.lb n (by rw [h.keys]; exact hp.mem_iff.1 h1)
  omega

set_option maxHeartbeats 1000000 in
theorem seekholders_law (a0 : Int) (a : Option Addr) (len cap : Nat) (xs : List Int) (hx : xs.length = len) (hg : ∀ x ∈ xs, g3 x) (hb : len ≤ 4611686018427387904)  : Spec Try.prog 3 [.int .i64 a0, .slice a len cap] [rsl 1 a len cap (xs.map e3)] [] (fun v D' M' => v = .bool true ∧ D' = [] ∧ M' = []) := by
  refine Spec.intro (n := 97) Try.func3 rfl rfl (by decide) (Nat.le_of_ble_eq_true rfl) rfl (fun _ => qA) (fun _ => qA) ?_
  intro σ D M
  have hg1 := g1_len
  refine T.seq ?_
  refine T.region ?_
  refine L.assign rfl rfl ?_
  refine L.nil ?_
  refine T.thenN ?_
  refine T.seq ?_
  refine T.seq ?_
  refine T.region ?_
  refine L.call rfl (evs.nil) qD qS (awake_spec) ?_
  rintro _ _ _ ⟨rfl, rfl, rfl⟩
  refine L.norm qA qA ?_
  refine L.notB rfl rfl ?_
  refine L.nil ?_
  refine T.thenN ?_
  refine T.condF rfl rfl ?_
  refine T.skip ?_
  refine T.thenN ?_
  refine T.seq ?_
  refine T.region ?_
  refine L.build rfl bua27 (BP.one rfl rfl rfl <| BP.doneE (out := (Value.int .u8 0 :: Value.int .u8 0 :: Value.int .u8 0 :: Value.int .u8 0 :: Value.int .u8 0 :: Value.int .u8 0 :: Value.int .u8 0 :: Value.int .u8 0 :: Value.int .u8 0 :: Value.int .u8 0 :: Value.int .u8 0 :: Value.int .u8 0 :: Value.int .u8 0 :: Value.int .u8 0 :: Value.int .u8 0 :: Value.int .u8 0 :: Value.int .u8 0 :: Value.int .u8 0 :: Value.int .u8 0 :: Value.int .u8 0 :: Value.int .u8 0 :: Value.int .u8 0 :: Value.int .u8 0 :: Value.int .u8 0 :: Value.int .u8 0 :: Value.int .u8 0 :: Value.int .u8 0 :: Value.int .u8 0 :: Value.int .u8 0 :: Value.int .u8 0 :: Value.int .u8 0 :: [])) rfl) ?_
  refine L.known (t := 13) (u := .agg (g1.map Y).toArray) rfl (by rw [g1_eq]; rfl) ?_
  refine L.move rfl rfl ?_
  refine L.fact0 (φ := rsl 1 none 0 0 (([] : List Int).map e3)) (fun z => rsl_nil) ?_
  refine L.call rfl (evs.cons rfl <| evs.cons rfl <| evs.cons rfl <| evs.nil) qD qS (snew_spec (g := g1) (o := a0) (ns := []) g1_len (by decide)) ?_
  rintro _ _ _ ⟨sb, sm1, sm2, rfl, rfl, rfl⟩
  refine L.norm qA qA ?_
  refine L.assign rfl rfl ?_
  refine L.nil ?_
  rw [aw_meet0]
  refine T.thenN ?_
  refine T.seq ?_
  refine T.region ?_
  refine L.makeMap iK iK rfl (fun mw => ?_)
  refine L.assign rfl rfl ?_
  refine L.nil ?_
  refine T.thenN ?_
  refine T.seq ?_
  refine T.seq ?_
  refine T.region ?_
  refine L.assign rfl rfl ?_
  refine L.nil ?_
  refine T.thenN ?_
  refine T.block ?_
  refine T.loop (fun K' D' M' μ => ∃ (i : Nat) (lh lw : List (Int × Int)), ((i ≤ len ∧ i ≤ 30) ∧ WI i lh lw) ∧ K' = [(7, .int .i64 i)] ∧ D' = [] ∧ M' = [mp sm1 iK oneV [], mp sm2 iK iK lh, mp mw iK iK lw] ∧ μ = len - i) (.cons (t := 0) rfl <| .cons (t := 1) rfl <| .cons (t := 5) rfl <| .cons (t := 6) rfl <| SubK.nil _) (⟨0, [], [], ⟨by omega, WI.zero⟩, rfl, rfl, rfl, rfl⟩) (.cons (t := 7) rfl <| SubK.nil _) qD qS ?_
  rintro K1 D1 M1 m1 ⟨i, lh, lw, ⟨hi, hW⟩, rfl, rfl, rfl, rfl⟩
  refine T.norm3 qA qA qA ?_
  refine T.seq ?_
  refine T.seq ?_
  refine T.cutC (fun K' D' M' => ∃ (w : Bool), (w = true ↔ (i < len ∧ i < 30)) ∧ K' = [(24, .bool w)] ∧ D' = [] ∧ M' = []) (M0 := []) (.cons (t := 0) rfl <| .cons (t := 1) rfl <| .cons (t := 5) rfl <| .cons (t := 6) rfl <| .cons (t := 7) rfl <| SubK.nil _) qS ?_ ?_
  · skip
    refine T.region ?_
    refine L.move rfl rfl ?_
    refine L.move rfl rfl ?_
    refine L.lenSl rfl Try.underlying22 rfl ?_
    refine L.ltI rfl rfl rfl ?_
    refine L.move rfl rfl ?_
    refine L.part (t := 21) rfl (fun h1 => ?_) (fun h1 => ?_)
    · try simp only [decide_eq_true_eq, decide_eq_false_iff_not, Bool.not_eq_true', Bool.not_eq_false', Bool.and_eq_true, Bool.or_eq_true] at h1
      refine L.guardT (dj := 21) rfl rfl rfl ?_
      refine L.move rfl rfl ?_
      refine L.guardT (dj := 21) rfl rfl rfl ?_
      refine L.ltI rfl rfl rfl ?_
      refine L.pickT rfl rfl rfl ?_
      refine L.nil ?_
      refine T.thenN ?_
      exact T.toJoin ⟨_, (by simp; omega), rfl, rfl, rfl⟩ (.cons (t := 24) rfl <| SubK.nil _) (.cons (t := 0) rfl <| .cons (t := 1) rfl <| .cons (t := 5) rfl <| .cons (t := 6) rfl <| .cons (t := 7) rfl <| SubK.nil _) qD qD qF
    · try simp only [decide_eq_true_eq, decide_eq_false_iff_not, Bool.not_eq_true', Bool.not_eq_false', Bool.and_eq_true, Bool.or_eq_true] at h1
      refine L.guardF (dj := 21) (c := false) rfl rfl rfl rfl rfl (by decide) ?_
      refine L.guardF (dj := 21) (c := false) rfl rfl rfl rfl rfl (by decide) ?_
      refine L.pickF rfl rfl rfl ?_
      refine L.nil ?_
      refine T.thenN ?_
      exact T.toJoin ⟨_, (by simp; omega), rfl, rfl, rfl⟩ (.cons (t := 24) rfl <| SubK.nil _) (.cons (t := 0) rfl <| .cons (t := 1) rfl <| .cons (t := 5) rfl <| .cons (t := 6) rfl <| .cons (t := 7) rfl <| SubK.nil _) qD qD qF
  rintro _ _ _ ⟨w, hw, rfl, rfl, rfl⟩
  refine T.norm3 qA qA qA ?_
  refine T.thenN ?_
  refine T.cond rfl (fun h24 => ?_) (fun h24 => ?_)
  · try simp only [decide_eq_true_eq, decide_eq_false_iff_not, Bool.not_eq_true', Bool.not_eq_false', Bool.and_eq_true, Bool.or_eq_true] at h24
    have hwt := hw.1 h24
    refine T.skip ?_
    refine T.thenN ?_
    refine T.seq ?_
    refine T.block ?_
    refine T.seq ?_
    have hgi : xs[i]? = some (gd xs i) := gd_get (by omega)
    obtain ⟨n, hnn⟩ : ∃ n, n = gd xs i := ⟨_, rfl⟩
    rw [← hnn] at hgi
    have hub := hW.ub n
    refine T.region ?_
    refine L.move rfl rfl ?_
    refine L.move rfl rfl ?_
    refine L.move rfl rfl ?_
    refine L.idx (i := i) rfl Try.underlying22 sz3 rfl rfl qM (by first | rfl | omega | (simp; done)) qG (fun b30 o30 => ?_)
    refine L.load rfl sc3 rfl qC ?_
    refine L.buildSlice rfl bs22 (by decide) (BP.one rfl rfl rfl <| BP.doneE (out := []) rfl) (fun b32 => ?_)
    refine L.toOwn (len := 1) (sz := 1) (e := 3) (rows := ([n] : List Int).map e3) qP (by rfl) rfl (by simp) ?_
    refine L.ownRsl qP ?_
    refine L.call rfl (evs.cons rfl <| evs.cons rfl <| evs.nil) qD qS (has_spec (g := g1) (o := a0) (m1 := sm1) (m2 := sm2) (lh := lh) (ns := [n]) g1_len (by decide)) ?_
    rintro _ _ _ ⟨rfl, rfl, rfl⟩
    refine L.norm qA qA ?_
    refine L.nil ?_
    refine T.thenN ?_
    refine T.seq ?_
    refine T.cutC (fun K' D' M' => ∃ (w : Bool), (w = true ↔ May a0 n) ∧ K' = [(53, .bool w)] ∧ D' = [] ∧ M' = []) (M0 := []) (.cons (t := 0) rfl <| .cons (t := 1) rfl <| .cons (t := 5) rfl <| .cons (t := 6) rfl <| .cons (t := 7) rfl <| SubK.nil _) qS ?_ ?_
    · skip
      rcases may4 a0 n with hc1 | ⟨hc1, hc2⟩ | ⟨hc1, hc2⟩
      · skip
        refine T.region ?_
        refine L.move rfl rfl ?_
        refine L.move rfl rfl ?_
        refine L.idx (i := i) rfl Try.underlying22 sz3 rfl rfl qM (by first | rfl | omega | (simp; done)) qG (fun b36 o36 => ?_)
        refine L.load rfl sc3 rfl qC ?_
        refine L.geI rfl rfl rfl ?_
        refine L.move rfl rfl ?_
        refine L.known (t := 39) rfl (show _ = Value.bool false from congrArg Value.bool (decide_eq_false (by omega))) ?_
        refine L.guardF (dj := 39) (c := false) rfl rfl rfl rfl rfl (by decide) ?_
        refine L.guardF (dj := 39) (c := false) rfl rfl rfl rfl rfl (by decide) ?_
        refine L.guardF (dj := 39) (c := false) rfl rfl rfl rfl rfl (by decide) ?_
        refine L.guardF (dj := 39) (c := false) rfl rfl rfl rfl rfl (by decide) ?_
        refine L.guardF (dj := 39) (c := false) rfl rfl rfl rfl rfl (by decide) ?_
        refine L.pickF rfl rfl rfl ?_
        refine L.move rfl rfl ?_
        refine L.guardF (dj := 46) (c := false) rfl rfl rfl rfl rfl (by decide) ?_
        refine L.guardF (dj := 46) (c := false) rfl rfl rfl rfl rfl (by decide) ?_
        refine L.guardF (dj := 46) (c := false) rfl rfl rfl rfl rfl (by decide) ?_
        refine L.guardF (dj := 46) (c := false) rfl rfl rfl rfl rfl (by decide) ?_
        refine L.guardF (dj := 46) (c := false) rfl rfl rfl rfl rfl (by decide) ?_
        refine L.guardF (dj := 46) (c := false) rfl rfl rfl rfl rfl (by decide) ?_
        refine L.pickF rfl rfl rfl ?_
        refine L.nil ?_
        refine T.thenN ?_
        exact T.toJoin ⟨_, ⟨(fun h => by cases h), (fun h => absurd h.2.1 hc1)⟩, rfl, rfl, rfl⟩ (.cons (t := 53) rfl <| SubK.nil _) (.cons (t := 0) rfl <| .cons (t := 1) rfl <| .cons (t := 5) rfl <| .cons (t := 6) rfl <| .cons (t := 7) rfl <| SubK.nil _) qD qD qF
      · skip
        refine T.region ?_
        refine L.move rfl rfl ?_
        refine L.move rfl rfl ?_
        refine L.idx (i := i) rfl Try.underlying22 sz3 rfl rfl qM (by first | rfl | omega | (simp; done)) qG (fun b36 o36 => ?_)
        refine L.load rfl sc3 rfl qC ?_
        refine L.geI rfl rfl rfl ?_
        refine L.move rfl rfl ?_
        refine L.known (t := 39) rfl (show _ = Value.bool true from congrArg Value.bool (decide_eq_true (by omega))) ?_
        refine L.guardT (dj := 39) rfl rfl rfl ?_
        refine L.move rfl rfl ?_
        refine L.guardT (dj := 39) rfl rfl rfl ?_
        refine L.move rfl rfl ?_
        refine L.guardT (dj := 39) rfl rfl rfl ?_
        refine L.idx (i := i) rfl Try.underlying22 sz3 rfl rfl qM (by first | rfl | omega | (simp; done)) qG (fun b42 o42 => ?_)
        refine L.guardT (dj := 39) rfl rfl rfl ?_
        refine L.load rfl sc3 rfl qC ?_
        refine L.guardT (dj := 39) rfl rfl rfl ?_
        refine L.ltI rfl rfl rfl ?_
        refine L.pickT rfl rfl rfl ?_
        refine L.move rfl rfl ?_
        refine L.known (t := 46) rfl (show _ = Value.bool false from congrArg Value.bool (decide_eq_false hc2)) ?_
        refine L.guardF (dj := 46) (c := false) rfl rfl rfl rfl rfl (by decide) ?_
        refine L.guardF (dj := 46) (c := false) rfl rfl rfl rfl rfl (by decide) ?_
        refine L.guardF (dj := 46) (c := false) rfl rfl rfl rfl rfl (by decide) ?_
        refine L.guardF (dj := 46) (c := false) rfl rfl rfl rfl rfl (by decide) ?_
        refine L.guardF (dj := 46) (c := false) rfl rfl rfl rfl rfl (by decide) ?_
        refine L.guardF (dj := 46) (c := false) rfl rfl rfl rfl rfl (by decide) ?_
        refine L.pickF rfl rfl rfl ?_
        refine L.nil ?_
        refine T.thenN ?_
        exact T.toJoin ⟨_, ⟨(fun h => by cases h), (fun h => absurd h.2.2 hc2)⟩, rfl, rfl, rfl⟩ (.cons (t := 53) rfl <| SubK.nil _) (.cons (t := 0) rfl <| .cons (t := 1) rfl <| .cons (t := 5) rfl <| .cons (t := 6) rfl <| .cons (t := 7) rfl <| SubK.nil _) qD qD qF
      · skip
        refine T.region ?_
        refine L.move rfl rfl ?_
        refine L.move rfl rfl ?_
        refine L.idx (i := i) rfl Try.underlying22 sz3 rfl rfl qM (by first | rfl | omega | (simp; done)) qG (fun b36 o36 => ?_)
        refine L.load rfl sc3 rfl qC ?_
        refine L.geI rfl rfl rfl ?_
        refine L.move rfl rfl ?_
        refine L.known (t := 39) rfl (show _ = Value.bool true from congrArg Value.bool (decide_eq_true (by omega))) ?_
        refine L.guardT (dj := 39) rfl rfl rfl ?_
        refine L.move rfl rfl ?_
        refine L.guardT (dj := 39) rfl rfl rfl ?_
        refine L.move rfl rfl ?_
        refine L.guardT (dj := 39) rfl rfl rfl ?_
        refine L.idx (i := i) rfl Try.underlying22 sz3 rfl rfl qM (by first | rfl | omega | (simp; done)) qG (fun b42 o42 => ?_)
        refine L.guardT (dj := 39) rfl rfl rfl ?_
        refine L.load rfl sc3 rfl qC ?_
        refine L.guardT (dj := 39) rfl rfl rfl ?_
        refine L.ltI rfl rfl rfl ?_
        refine L.pickT rfl rfl rfl ?_
        refine L.move rfl rfl ?_
        refine L.known (t := 46) rfl (show _ = Value.bool true from congrArg Value.bool (decide_eq_true hc2)) ?_
        refine L.guardT (dj := 46) rfl rfl rfl ?_
        refine L.move rfl rfl ?_
        refine L.guardT (dj := 46) rfl rfl rfl ?_
        refine L.move rfl rfl ?_
        refine L.guardT (dj := 46) rfl rfl rfl ?_
        refine L.idx (i := i) rfl Try.underlying22 sz3 rfl rfl qM (by first | rfl | omega | (simp; done)) qG (fun b49 o49 => ?_)
        refine L.guardT (dj := 46) rfl rfl rfl ?_
        refine L.load rfl sc3 rfl qC ?_
        refine L.guardT (dj := 46) rfl rfl rfl ?_
        refine L.move rfl rfl ?_
        refine L.guardT (dj := 46) rfl rfl rfl ?_
        refine L.neI rfl rfl rfl ?_
        refine L.pickT rfl rfl rfl ?_
        refine L.nil ?_
        refine T.thenN ?_
        exact T.toJoin ⟨_, (by rw [decide_eq_true_eq]; exact ⟨fun h => ⟨h, hc1, hc2⟩, fun h => h.1⟩), rfl, rfl, rfl⟩ (.cons (t := 53) rfl <| SubK.nil _) (.cons (t := 0) rfl <| .cons (t := 1) rfl <| .cons (t := 5) rfl <| .cons (t := 6) rfl <| .cons (t := 7) rfl <| SubK.nil _) qD qD qF
    rintro _ _ _ ⟨w, hw2, rfl, rfl, rfl⟩
    refine T.norm3 qA qA qA ?_
    refine T.thenN ?_
    refine T.cond rfl (fun h53 => ?_) (fun h53 => ?_)
    · try simp only [decide_eq_true_eq, decide_eq_false_iff_not, Bool.not_eq_true', Bool.not_eq_false', Bool.and_eq_true, Bool.or_eq_true] at h53
      refine T.region ?_
      refine L.move rfl rfl ?_
      refine L.move rfl rfl ?_
      refine L.move rfl rfl ?_
      refine L.idx (i := i) rfl Try.underlying22 sz3 rfl rfl qM (by first | rfl | omega | (simp; done)) qG (fun b57 o57 => ?_)
      refine L.load rfl sc3 rfl qC ?_
      refine L.lookup1 rfl Try.underlying28 kt3 zv3 rfl rfl qM ?_
      refine L.known (t := 59) (u := .int .i64 ((look lw n).getD 0)) rfl (by cases look lw n <;> rfl) ?_
      refine L.addN rfl rfl rfl (by omega) ?_
      refine L.mapUpdate (kenc := iK) (venc := iK) (l := lw) (k := n) (v := (look lw n).getD 0 + 1) Try.underlying28 kt3 rfl rfl rfl rfl qP ?_
      refine L.nil ?_
      refine T.blkN ?_
      refine T.thenN ?_
      refine T.region ?_
      refine L.move rfl rfl ?_
      refine L.addN rfl rfl rfl (by omega) ?_
      refine L.assign rfl rfl ?_
      refine L.nil ?_
      refine T.thenN ?_
      exact T.back ⟨i + 1, hasF a0 lh [n], put lw n ((look lw n).getD 0 + 1), ⟨by omega, hW.yes (hw2.1 h53)⟩, rfl, rfl, rfl, rfl⟩ qI (.cons (t := 7) rfl <| SubK.nil _) (.cons (t := 0) rfl <| .cons (t := 1) rfl <| .cons (t := 5) rfl <| .cons (t := 6) rfl <| SubK.nil _) qD qD qF
    · try simp only [decide_eq_true_eq, decide_eq_false_iff_not, Bool.not_eq_true', Bool.not_eq_false', Bool.and_eq_true, Bool.or_eq_true] at h53
      refine T.skip ?_
      refine T.blkN ?_
      refine T.thenN ?_
      refine T.region ?_
      refine L.move rfl rfl ?_
      refine L.addN rfl rfl rfl (by omega) ?_
      refine L.assign rfl rfl ?_
      refine L.nil ?_
      refine T.thenN ?_
      exact T.back ⟨i + 1, hasF a0 lh [n], lw, ⟨by omega, hW.no (fun e => by rw [hw2.2 e] at h53; cases h53)⟩, rfl, rfl, rfl, rfl⟩ qI (.cons (t := 7) rfl <| SubK.nil _) (.cons (t := 0) rfl <| .cons (t := 1) rfl <| .cons (t := 5) rfl <| .cons (t := 6) rfl <| SubK.nil _) qD qD qF
  · try simp only [decide_eq_true_eq, decide_eq_false_iff_not, Bool.not_eq_true', Bool.not_eq_false', Bool.and_eq_true, Bool.or_eq_true] at h24
    have hwf : ¬ (i < len ∧ i < 30) := fun e => by have := hw.2 e; rw [h24] at this; cases this
    refine T.exit ?_
    refine T.thenX ?_
    refine T.thenX ?_
    refine T.blkX ?_
    refine T.thenN ?_
    refine T.seq ?_
    refine T.mpNodup (kenc := iK) (venc := iK) (b := sm2) qM (fun hnd => ?_)
    refine T.region ?_
    refine L.move rfl rfl ?_
    refine L.call rfl (evs.cons rfl <| evs.nil) qD qS (holders_spec (g := g1) (o := a0) (m1 := sm1) (m2 := sm2) (lh := lh) g1_len (by have := hW.len; omega)) ?_
    rintro _ _ _ ⟨ha, hn, hc, xs2, rfl, hp2, hx2, rfl, rfl⟩
    refine L.norm qA qA ?_
    have hsl : (xs2.mergeSort fun x y => decide (x ≤ y)).length = hn := by rw [List.length_mergeSort]; exact hx2
    have hn30 : hn ≤ 30 := by have h1 := hp2.length_eq; have h2 := hW.len; simp only [List.length_map] at h1; omega
    refine L.assign rfl rfl ?_
    refine L.nil ?_
    refine T.ownRsl (rows := (xs2.mergeSort fun x y => decide (x ≤ y)).map e3) qP ?_
    refine T.thenN ?_
    refine T.seq ?_
    refine T.seq ?_
    refine T.region ?_
    refine L.move rfl rfl ?_
    refine L.lenSl rfl Try.underlying22 rfl ?_
    refine L.move rfl rfl ?_
    refine L.nil ?_
    refine T.thenN ?_
    refine T.block ?_
    refine T.loop (fun K' D' M' μ => ∃ (j : Nat), (j ≤ hn) ∧ K' = [(65, .int .i64 j)] ∧ D' = [] ∧ M' = [mp sm1 iK oneV [], mp sm2 iK iK lh, mp mw iK iK lw] ∧ μ = hn - j) (.cons (t := 5) rfl <| .cons (t := 6) rfl <| .cons (t := 8) rfl <| .cons (t := 63) rfl <| .cons (t := 64) rfl <| SubK.nil _) (⟨0, Nat.zero_le _, rfl, rfl, rfl, rfl⟩) (.cons (t := 65) rfl <| SubK.nil _) qD qS ?_
    rintro K1 D1 M1 m1 ⟨j, hj, rfl, rfl, rfl, rfl⟩
    refine T.norm3 qA qA qA ?_
    refine T.seq ?_
    refine T.region ?_
    refine L.ltI rfl rfl rfl ?_
    refine L.nil ?_
    refine T.thenN ?_
    refine T.seq ?_
    refine T.cond rfl (fun h66 => ?_) (fun h66 => ?_)
    · try simp only [decide_eq_true_eq, decide_eq_false_iff_not, Bool.not_eq_true', Bool.not_eq_false', Bool.and_eq_true, Bool.or_eq_true] at h66
      refine T.skip ?_
      refine T.thenN ?_
      refine T.seq ?_
      refine T.block ?_
      refine T.seq ?_
      have hgj : (xs2.mergeSort fun x y => decide (x ≤ y))[j]? = some (gd (xs2.mergeSort fun x y => decide (x ≤ y)) j) := gd_get (by omega)
      obtain ⟨n, hnn⟩ : ∃ n, n = gd (xs2.mergeSort fun x y => decide (x ≤ y)) j := ⟨_, rfl⟩
      rw [← hnn] at hgj
      have hne := hW.mem hp2 hgj
      refine T.region ?_
      refine L.move rfl rfl ?_
      refine L.idx (i := j) rfl Try.underlying22 sz3 rfl rfl qM (by first | rfl | omega | (simp; done)) qG (fun b68 o68 => ?_)
      refine L.load rfl sc3 rfl qC ?_
      refine L.assign rfl rfl ?_
      refine L.assign rfl rfl ?_
      refine L.nil ?_
      refine T.thenN ?_
      refine T.seq ?_
      refine T.cutC (fun K' D' M' => ∃ (w : Bool), (w = false) ∧ K' = [(86, .bool w)] ∧ D' = [] ∧ M' = []) (M0 := []) (.cons (t := 5) rfl <| .cons (t := 6) rfl <| .cons (t := 8) rfl <| .cons (t := 63) rfl <| .cons (t := 64) rfl <| .cons (t := 65) rfl <| SubK.nil _) qS ?_ ?_
      · skip
        rcases Nat.eq_zero_or_pos j with h0 | h0
        · skip
          refine T.region ?_
          refine L.move rfl rfl ?_
          refine L.move rfl rfl ?_
          refine L.lookup1 rfl Try.underlying28 kt3 zv3 rfl rfl qM ?_
          refine L.known (t := 72) (u := .int .i64 ((look lw n).getD 0)) rfl (by cases look lw n <;> rfl) ?_
          refine L.eqI rfl rfl rfl ?_
          refine L.move rfl rfl ?_
          refine L.known (t := 74) rfl (show _ = Value.bool false from congrArg Value.bool (decide_eq_false hne)) ?_
          refine L.guardT (dj := 74) rfl rfl rfl ?_
          refine L.move rfl rfl ?_
          refine L.guardT (dj := 74) rfl rfl rfl ?_
          refine L.gtI rfl rfl rfl ?_
          refine L.guardT (dj := 74) rfl rfl rfl ?_
          refine L.move rfl rfl ?_
          refine L.known (t := 77) rfl (show _ = Value.bool false from congrArg Value.bool (decide_eq_false (by omega))) ?_
          refine L.guardF (dj := 77) (c := false) rfl rfl rfl rfl rfl (by decide) ?_
          refine L.guardF (dj := 77) (c := false) rfl rfl rfl rfl rfl (by decide) ?_
          refine L.guardF (dj := 77) (c := false) rfl rfl rfl rfl rfl (by decide) ?_
          refine L.guardF (dj := 77) (c := false) rfl rfl rfl rfl rfl (by decide) ?_
          refine L.guardF (dj := 77) (c := false) rfl rfl rfl rfl rfl (by decide) ?_
          refine L.guardF (dj := 77) (c := false) rfl rfl rfl rfl rfl (by decide) ?_
          refine L.guardF (dj := 77) (c := false) rfl rfl rfl rfl rfl (by decide) ?_
          refine L.guardT (dj := 74) rfl rfl rfl ?_
          refine L.pickF rfl rfl rfl ?_
          refine L.pickF rfl rfl rfl ?_
          refine L.nil ?_
          refine T.thenN ?_
          exact T.toJoin ⟨_, rfl, rfl, rfl, rfl⟩ (.cons (t := 86) rfl <| SubK.nil _) (.cons (t := 5) rfl <| .cons (t := 6) rfl <| .cons (t := 8) rfl <| .cons (t := 63) rfl <| .cons (t := 64) rfl <| .cons (t := 65) rfl <| SubK.nil _) qD qD qF
        · skip
          have hlt := srt_lt (xs := xs2) (by rw [hp2.nodup_iff]; exact hnd) h0 (by omega)
          rw [← hnn] at hlt
          have hgp : (xs2.mergeSort fun x y => decide (x ≤ y))[j - 1]? = some (gd (xs2.mergeSort fun x y => decide (x ≤ y)) (j - 1)) := gd_get (by omega)
          refine T.region ?_
          refine L.move rfl rfl ?_
          refine L.move rfl rfl ?_
          refine L.lookup1 rfl Try.underlying28 kt3 zv3 rfl rfl qM ?_
          refine L.known (t := 72) (u := .int .i64 ((look lw n).getD 0)) rfl (by cases look lw n <;> rfl) ?_
          refine L.eqI rfl rfl rfl ?_
          refine L.move rfl rfl ?_
          refine L.known (t := 74) rfl (show _ = Value.bool false from congrArg Value.bool (decide_eq_false hne)) ?_
          refine L.guardT (dj := 74) rfl rfl rfl ?_
          refine L.move rfl rfl ?_
          refine L.guardT (dj := 74) rfl rfl rfl ?_
          refine L.gtI rfl rfl rfl ?_
          refine L.guardT (dj := 74) rfl rfl rfl ?_
          refine L.move rfl rfl ?_
          refine L.known (t := 77) rfl (show _ = Value.bool true from congrArg Value.bool (decide_eq_true (by omega))) ?_
          refine L.guardT (dj := 77) rfl rfl rfl ?_
          refine L.move rfl rfl ?_
          refine L.guardT (dj := 77) rfl rfl rfl ?_
          refine L.move rfl rfl ?_
          refine L.guardT (dj := 77) rfl rfl rfl ?_
          refine L.subN rfl rfl rfl (by omega) ?_
          refine L.guardT (dj := 77) rfl rfl rfl ?_
          refine L.idx (i := j - 1) rfl Try.underlying22 sz3 rfl rfl qM (by first | rfl | omega | (simp; done)) qG (fun b81 o81 => ?_)
          refine L.guardT (dj := 77) rfl rfl rfl ?_
          refine L.load rfl sc3 rfl qC ?_
          refine L.guardT (dj := 77) rfl rfl rfl ?_
          refine L.move rfl rfl ?_
          refine L.guardT (dj := 77) rfl rfl rfl ?_
          refine L.geI rfl rfl rfl ?_
          refine L.guardT (dj := 74) rfl rfl rfl ?_
          refine L.pickT rfl rfl rfl ?_
          refine L.pickF rfl rfl rfl ?_
          refine L.nil ?_
          refine T.thenN ?_
          exact T.toJoin ⟨_, (decide_eq_false (by omega)), rfl, rfl, rfl⟩ (.cons (t := 86) rfl <| SubK.nil _) (.cons (t := 5) rfl <| .cons (t := 6) rfl <| .cons (t := 8) rfl <| .cons (t := 63) rfl <| .cons (t := 64) rfl <| .cons (t := 65) rfl <| SubK.nil _) qD qD qF
      rintro _ _ _ ⟨w, hw3, rfl, rfl, rfl⟩
      refine T.norm3 qA qA qA ?_
      refine T.thenN ?_
      refine T.condF rfl hw3 ?_
      refine T.skip ?_
      refine T.blkN ?_
      refine T.thenN ?_
      refine T.region ?_
      refine L.addN rfl rfl rfl (by omega) ?_
      refine L.move rfl rfl ?_
      refine L.nil ?_
      refine T.thenN ?_
      exact T.back ⟨j + 1, (by omega), rfl, rfl, rfl, rfl⟩ qI (.cons (t := 65) rfl <| SubK.nil _) (.cons (t := 5) rfl <| .cons (t := 6) rfl <| .cons (t := 8) rfl <| .cons (t := 63) rfl <| .cons (t := 64) rfl <| SubK.nil _) qD qD qF
    · try simp only [decide_eq_true_eq, decide_eq_false_iff_not, Bool.not_eq_true', Bool.not_eq_false', Bool.and_eq_true, Bool.or_eq_true] at h66
      refine T.exit ?_
      refine T.thenX ?_
      refine T.thenX ?_
      refine T.blkX ?_
      refine T.thenN ?_
      refine T.seq ?_
      refine T.region ?_
      refine L.move rfl rfl ?_
      refine L.lenSl rfl Try.underlying22 rfl ?_
      refine L.move rfl rfl ?_
      refine L.lenMap (l := lw) rfl Try.underlying28 rfl qM ?_
      refine L.eqI rfl rfl rfl ?_
      refine L.move rfl rfl ?_
      refine L.known (t := 93) rfl (show _ = Value.bool true from congrArg Value.bool (decide_eq_true (by have h1 := hp2.length_eq; have h2 := congrArg List.length hW.keys; simp only [List.length_map] at h1 h2; omega))) ?_
      refine L.guardT (dj := 93) rfl rfl rfl ?_
      refine L.move rfl rfl ?_
      refine L.guardT (dj := 93) rfl rfl rfl ?_
      refine L.call rfl (evs.cons rfl <| evs.nil) qD qS (over_spec (g := g1) (o := a0) (m1 := sm1) (m2 := sm2) (lo := []) g1_len (by decide)) ?_
      rintro _ _ _ ⟨ys1, rfl, hs1, rfl, rfl⟩
      refine L.norm qA qA ?_
      obtain rfl := sorted0 hs1 rfl
      refine L.pickT rfl rfl rfl ?_
      refine L.assign rfl rfl ?_
      refine L.nil ?_
      refine T.thenN ?_
      refine T.ret ?_
      exact T.ret1 rfl rfl ⟨rfl, rfl, rfl⟩ qD qF
end Cv
