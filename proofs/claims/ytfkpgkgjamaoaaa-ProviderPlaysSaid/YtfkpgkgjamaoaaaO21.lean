/-
  The walks: awake; the law of who has it longer.
-/
import Derived.Test.YtfkpgkgjamaoaaaN21
import Derived.Test.YtfkpgkgjamaoaaaProg
import Derived.KernelRfl
set_option linter.unusedVariables false
set_option linter.unusedSimpArgs false
set_option linter.unusedSectionVars false
set_option maxRecDepth 10000
namespace Cv
open Go Go.Proofs
/-! ## the answers that the document fixes; tables of one name -/
def k0 : ID32 := ⟨List.replicate 32 0, rfl⟩
def k1 : ID32 := ⟨1 :: List.replicate 31 0, rfl⟩
def k2 : ID32 := ⟨2 :: List.replicate 31 0, rfl⟩
def tabF (k : ID32) (row : Row21) : Tb := if row = [] then [] else [(k, row)]
theorem tab_len {k : ID32} {row : Row21} : (tabF k row).length = min row.length 1 := by
  unfold tabF
  cases row with
  | nil => rfl
  | cons p l => simp
theorem tab_le {k : ID32} {row : Row21} : (tabF k row).length ≤ 1 := by rw [tab_len]; omega
theorem tab_row {k : ID32} {row : Row21} : rowT (tabF k row) k = row := by
  unfold rowT tabF
  by_cases h : row = []
  · rw [if_pos h, h]; rfl
  · rw [if_neg h]; simp [look]
theorem tab_look {k k' : ID32} {row r : Row21} (h : look (tabF k row) k' = some r) : r = row := by
  unfold tabF at h
  by_cases e : row = []
  · rw [if_pos e] at h; cases h
  · rw [if_neg e] at h
    simp only [look] at h
    split at h
    · cases h; rfl
    · cases h
theorem put_ne {κ ν : Type} [DecidableEq κ] {l : List (κ × ν)} {k : κ} {v : ν} : put l k v ≠ [] := by
  cases l with
  | nil => simp [put]
  | cons p l => simp only [put]; split <;> simp
theorem tab_put {k : ID32} {row : Row21} {a u : Int} (ha : 0 ≤ a ∧ a < 64) (hr : look row a ≠ none ∨ row.length < 8) : putE (tabF k row) k a = 0 ∧ putT (tabF k row) k a u = tabF k (putR row a u) := by
  have he : putE (tabF k row) k a = 0 := by
    unfold putE
    rw [if_neg (by omega)]
    by_cases h : row = []
    · subst h; rfl
    · have : look (tabF k row) k = some row := by unfold tabF; rw [if_neg h]; simp [look]
      rw [this]
      simp only
      rw [if_neg (fun e => by rcases hr with q | q; exact q e.1; omega)]
  refine ⟨he, ?_⟩
  unfold putT
  rw [if_pos he]
  show put _ k (putR (rowT (tabF k row) k) a u) = _
  rw [tab_row]
  have hne : putR row a u ≠ [] := put_ne
  unfold tabF
  rw [if_neg hne]
  by_cases h : row = []
  · rw [if_pos h]; rfl
  · rw [if_neg h]; simp [put]
theorem perm_one {xs ys : List Int} {x : Int} (h : xs.Perm ys) (e : ys = [x]) : xs = [x] := by subst e; exact List.perm_singleton.1 h
def row1 (a v : Int) : Row21 := [(a, v)]
theorem row1_put0 {a u : Int} : putR [] a u = row1 a (max 0 u) := rfl
theorem row1_get {a v now : Int} {xs : List Int} (h : xs.Perm ((row1 a v).map Prod.fst)) : getF (row1 a v) now (xs.mergeSort fun x y => decide (x ≤ y)) = if now < v then [a] else [] := by
  obtain rfl := perm_one h rfl
  rw [List.mergeSort_singleton]
  unfold getF row1
  simp only [List.filter_cons, List.filter_nil, look, if_true, Option.getD_some, decide_eq_true_eq]
theorem row1_len {a v : Int} : (row1 a v).length = 1 := rfl
theorem sz5 : Sz Try.prog 5 1 := fun w => by kernel_rfl
theorem bua28 : Bu Try.prog 28 [Value.int .u8 0, Value.int .u8 0, Value.int .u8 0, Value.int .u8 0, Value.int .u8 0, Value.int .u8 0, Value.int .u8 0, Value.int .u8 0, Value.int .u8 0, Value.int .u8 0, Value.int .u8 0, Value.int .u8 0, Value.int .u8 0, Value.int .u8 0, Value.int .u8 0, Value.int .u8 0, Value.int .u8 0, Value.int .u8 0, Value.int .u8 0, Value.int .u8 0, Value.int .u8 0, Value.int .u8 0, Value.int .u8 0, Value.int .u8 0, Value.int .u8 0, Value.int .u8 0, Value.int .u8 0, Value.int .u8 0, Value.int .u8 0, Value.int .u8 0, Value.int .u8 0, Value.int .u8 0] (fun (i : Nat) => some (i * 1, 1)) := bua_of Try.underlying28 zv28 rfl sz5
set_option maxHeartbeats 1000000 in
theorem awake_spec   : Spec Try.prog 7 [] [] [] (fun v D' M' => v = .bool true ∧ D' = [] ∧ M' = []) := by
  refine Spec.intro (n := 41) Try.func7 rfl rfl (by decide) (Nat.le_of_ble_eq_true rfl) rfl (fun _ => qA) (fun _ => qA) ?_
  intro σ D M
  refine T.seq ?_
  refine T.region ?_
  refine L.assign rfl rfl ?_
  refine L.nil ?_
  refine T.thenN ?_
  refine T.seq ?_
  refine T.region ?_
  refine L.call rfl (evs.nil) qD qS (pnew_spec) ?_
  rintro _ _ _ ⟨tb, tm, rfl, rfl, rfl⟩
  refine L.norm qA qA ?_
  refine L.eqv qP (show tbA tm [] = tbA tm (tabF k0 []) from rfl) ?_
  refine L.assign rfl rfl ?_
  refine L.nil ?_
  refine T.thenN ?_
  refine T.seq ?_
  refine T.seq ?_
  refine T.region ?_
  refine L.move rfl rfl ?_
  refine L.eqlPtr rfl Try.underlying23 rfl rfl ?_
  refine L.nil ?_
  refine T.thenN ?_
  refine T.condF rfl rfl ?_
  refine T.skip ?_
  refine T.thenN ?_
  refine T.seq ?_
  refine T.region ?_
  refine L.move rfl rfl ?_
  refine L.build rfl bua28 (BP.doneE (out := (Value.int .u8 0 :: Value.int .u8 0 :: Value.int .u8 0 :: Value.int .u8 0 :: Value.int .u8 0 :: Value.int .u8 0 :: Value.int .u8 0 :: Value.int .u8 0 :: Value.int .u8 0 :: Value.int .u8 0 :: Value.int .u8 0 :: Value.int .u8 0 :: Value.int .u8 0 :: Value.int .u8 0 :: Value.int .u8 0 :: Value.int .u8 0 :: Value.int .u8 0 :: Value.int .u8 0 :: Value.int .u8 0 :: Value.int .u8 0 :: Value.int .u8 0 :: Value.int .u8 0 :: Value.int .u8 0 :: Value.int .u8 0 :: Value.int .u8 0 :: Value.int .u8 0 :: Value.int .u8 0 :: Value.int .u8 0 :: Value.int .u8 0 :: Value.int .u8 0 :: Value.int .u8 0 :: Value.int .u8 0 :: [])) rfl) ?_
  refine L.known (t := 9) (u := .agg (k0.1.map Y).toArray) rfl (by rfl) ?_
  refine L.call rfl (evs.cons rfl <| evs.cons rfl <| evs.cons rfl <| evs.cons rfl <| evs.nil) qD qS (put_spec (b := tb) (tm := tm) (t := (tabF k0 ([]))) (k := k0) (a := 3) (u := 10) (by have := @tab_le k0 ([]); omega) (fun r hr => by rw [tab_look hr]; simp [row1])) ?_
  rintro _ _ _ ⟨rfl, rfl, rfl⟩
  refine L.norm qA qA ?_
  obtain ⟨he, ht⟩ := tab_put (k := k0) (row := []) (a := 3) (u := 10) (by decide) (by right; simp [row1])
  rw [he, ht, row1_put0]
  refine L.assign rfl rfl ?_
  refine L.nil ?_
  refine T.thenN ?_
  refine T.seq ?_
  refine T.region ?_
  refine L.move rfl rfl ?_
  refine L.build rfl bua28 (BP.doneE (out := (Value.int .u8 0 :: Value.int .u8 0 :: Value.int .u8 0 :: Value.int .u8 0 :: Value.int .u8 0 :: Value.int .u8 0 :: Value.int .u8 0 :: Value.int .u8 0 :: Value.int .u8 0 :: Value.int .u8 0 :: Value.int .u8 0 :: Value.int .u8 0 :: Value.int .u8 0 :: Value.int .u8 0 :: Value.int .u8 0 :: Value.int .u8 0 :: Value.int .u8 0 :: Value.int .u8 0 :: Value.int .u8 0 :: Value.int .u8 0 :: Value.int .u8 0 :: Value.int .u8 0 :: Value.int .u8 0 :: Value.int .u8 0 :: Value.int .u8 0 :: Value.int .u8 0 :: Value.int .u8 0 :: Value.int .u8 0 :: Value.int .u8 0 :: Value.int .u8 0 :: Value.int .u8 0 :: Value.int .u8 0 :: [])) rfl) ?_
  refine L.known (t := 12) (u := .agg (k0.1.map Y).toArray) rfl (by rfl) ?_
  refine L.call rfl (evs.cons rfl <| evs.cons rfl <| evs.cons rfl <| evs.nil) qD qS (get_spec (b := tb) (tm := tm) (t := tabF k0 (row1 3 (max 0 10))) (k := k0) (now := 9) (by have := @tab_le k0 (row1 3 (max 0 10)); omega) (fun r hr => by rw [tab_look hr]; simp [row1])) ?_
  rintro _ _ _ ⟨pa, pn, pc, px, rfl, hpp, hpn, rfl, rfl⟩
  refine L.norm qA qA ?_
  rw [tab_row] at hpp hpn ⊢
  rw [row1_get hpp] at hpn ⊢
  refine L.move rfl rfl ?_
  refine L.build rfl bua28 (BP.doneE (out := (Value.int .u8 0 :: Value.int .u8 0 :: Value.int .u8 0 :: Value.int .u8 0 :: Value.int .u8 0 :: Value.int .u8 0 :: Value.int .u8 0 :: Value.int .u8 0 :: Value.int .u8 0 :: Value.int .u8 0 :: Value.int .u8 0 :: Value.int .u8 0 :: Value.int .u8 0 :: Value.int .u8 0 :: Value.int .u8 0 :: Value.int .u8 0 :: Value.int .u8 0 :: Value.int .u8 0 :: Value.int .u8 0 :: Value.int .u8 0 :: Value.int .u8 0 :: Value.int .u8 0 :: Value.int .u8 0 :: Value.int .u8 0 :: Value.int .u8 0 :: Value.int .u8 0 :: Value.int .u8 0 :: Value.int .u8 0 :: Value.int .u8 0 :: Value.int .u8 0 :: Value.int .u8 0 :: Value.int .u8 0 :: [])) rfl) ?_
  refine L.known (t := 15) (u := .agg (k0.1.map Y).toArray) rfl (by rfl) ?_
  refine L.call rfl (evs.cons rfl <| evs.cons rfl <| evs.cons rfl <| evs.nil) qD qS (get_spec (b := tb) (tm := tm) (t := tabF k0 (row1 3 (max 0 10))) (k := k0) (now := 10) (by have := @tab_le k0 (row1 3 (max 0 10)); omega) (fun r hr => by rw [tab_look hr]; simp [row1])) ?_
  rintro _ _ _ ⟨qa, qn, qc, qx, rfl, hqp, hqn, rfl, rfl⟩
  refine L.norm qA qA ?_
  rw [tab_row] at hqp hqn ⊢
  rw [row1_get hqp] at hqn ⊢
  refine L.assign rfl rfl ?_
  refine L.assign rfl rfl ?_
  refine L.nil ?_
  rw [if_pos (show (9 : Int) < max 0 10 by decide)] at hpn ⊢
  rw [if_neg (show ¬ (10 : Int) < max 0 10 by decide)] at hqn ⊢
  have h30 : ([3] : List Int)[0]? = some 3 := rfl
  refine T.ownRsl (rows := ([3] : List Int).map e3) qP ?_
  refine T.thenN ?_
  refine T.seq ?_
  refine T.region ?_
  refine L.move rfl rfl ?_
  refine L.eqI rfl rfl rfl ?_
  refine L.move rfl rfl ?_
  refine L.known (t := 19) rfl (show _ = Value.bool true from rfl) ?_
  refine L.guardT (dj := 19) rfl rfl rfl ?_
  refine L.move rfl rfl ?_
  refine L.guardT (dj := 19) rfl rfl rfl ?_
  refine L.lenSl rfl Try.underlying29 rfl ?_
  refine L.guardT (dj := 19) rfl rfl rfl ?_
  refine L.eqI rfl rfl rfl ?_
  refine L.pickT rfl rfl rfl ?_
  refine L.move rfl rfl ?_
  refine L.known (t := 24) rfl (show _ = Value.bool true from congrArg Value.bool (decide_eq_true (by rw [← hpn]; rfl))) ?_
  refine L.guardT (dj := 24) rfl rfl rfl ?_
  refine L.move rfl rfl ?_
  refine L.guardT (dj := 24) rfl rfl rfl ?_
  refine L.idx (i := 0) rfl Try.underlying29 sz3 rfl rfl qM (by first | rfl | omega | (simp; done)) qG (fun b26 o26 => ?_)
  refine L.guardT (dj := 24) rfl rfl rfl ?_
  refine L.load rfl sc3 rfl qC ?_
  refine L.guardT (dj := 24) rfl rfl rfl ?_
  refine L.eqI rfl rfl rfl ?_
  refine L.pickT rfl rfl rfl ?_
  refine L.move rfl rfl ?_
  refine L.known (t := 30) rfl (show _ = Value.bool true from rfl) ?_
  refine L.guardT (dj := 30) rfl rfl rfl ?_
  refine L.move rfl rfl ?_
  refine L.guardT (dj := 30) rfl rfl rfl ?_
  refine L.lenSl rfl Try.underlying29 rfl ?_
  refine L.guardT (dj := 30) rfl rfl rfl ?_
  refine L.eqI rfl rfl rfl ?_
  refine L.pickT rfl rfl rfl ?_
  refine L.move rfl rfl ?_
  refine L.known (t := 35) rfl (show _ = Value.bool true from congrArg Value.bool (decide_eq_true (by rw [← hqn]; rfl))) ?_
  refine L.guardT (dj := 35) rfl rfl rfl ?_
  refine L.move rfl rfl ?_
  refine L.guardT (dj := 35) rfl rfl rfl ?_
  refine L.call rfl (evs.cons rfl <| evs.nil) qD qS (names_spec (b := tb) (tm := tm) (t := tabF k0 (row1 3 (max 0 10))) tab_le) ?_
  rintro _ _ _ ⟨na, nn, nc, rfl, hnn, rfl, rfl⟩
  refine L.norm qA qA ?_
  refine L.guardT (dj := 35) rfl rfl rfl ?_
  refine L.lenSl rfl Try.underlying34 rfl ?_
  refine L.guardT (dj := 35) rfl rfl rfl ?_
  refine L.eqI rfl rfl rfl ?_
  refine L.pickT rfl rfl rfl ?_
  refine L.assign rfl rfl ?_
  refine L.nil ?_
  refine T.thenN ?_
  refine T.ret ?_
  exact T.ret1 rfl rfl ⟨congrArg Value.bool (decide_eq_true (by rw [hnn, tab_len, row1_len]; rfl)), rfl, rfl⟩ qD qF
end Cv
