/-
  The walks: what is over goes.
-/
import Derived.Test.YtfkpgkgjamaoaaaO21
import Derived.Test.YtfkpgkgjamaoaaaProg
import Derived.KernelRfl
set_option linter.unusedVariables false
set_option linter.unusedSimpArgs false
set_option linter.unusedSectionVars false
set_option maxRecDepth 10000
namespace Cv
open Go Go.Proofs
/-! ## what is over goes -/
theorem del_filter {κ ν : Type} [DecidableEq κ] {k : κ} : ∀ {l : List (κ × ν)}, (l.map Prod.fst).Nodup → del l k = l.filter (fun e => decide (e.1 ≠ k))
  | [], _ => rfl
  | (a, x) :: l, h => by
    simp only [List.map_cons, List.nodup_cons] at h
    simp only [del]
    by_cases e : a = k
    · subst e
      rw [if_pos rfl, List.filter_cons, if_neg (by simp)]
      refine (List.filter_eq_self.2 fun q hq => ?_).symm
      simp only [decide_eq_true_eq]
      intro e2
      exact h.1 (by rw [← e2]; exact List.mem_map_of_mem hq)
    · rw [if_neg e, List.filter_cons, if_pos (by simpa using e), del_filter h.2]
def restF {κ ν : Type} [DecidableEq κ] (l : List (κ × ν)) (rest : List κ) : List (κ × ν) := l.filter fun e => decide (e.1 ∈ rest)
section
variable {κ ν : Type} [DecidableEq κ] {l : List (κ × ν)} {rest rs : List κ} {k : κ}
theorem restF_0 : restF l (l.map Prod.fst) = l := List.filter_eq_self.2 fun e he => decide_eq_true (List.mem_map_of_mem he)
theorem restF_fin : restF l [] = [] := by unfold restF; rw [List.filter_eq_nil_iff]; intro e _; simp
theorem restF_nd (h : (l.map Prod.fst).Nodup) : ((restF l rest).map Prod.fst).Nodup := (List.Sublist.map _ List.filter_sublist).nodup h
theorem restF_step (h : (l.map Prod.fst).Nodup) (hr : rest.Nodup) (hp : rest.Perm (k :: rs)) : del (restF l rest) k = restF l rs := by
  rw [del_filter (restF_nd h)]
  unfold restF
  rw [List.filter_filter]
  refine List.filter_congr fun e _ => ?_
  have hk : k ∉ rs := (List.nodup_cons.1 (hp.nodup_iff.1 hr)).1
  have hm : e.1 ∈ rest ↔ e.1 = k ∨ e.1 ∈ rs := by rw [hp.mem_iff, List.mem_cons]
  by_cases h1 : e.1 = k
  · rw [decide_eq_false (show ¬ e.1 ≠ k from fun q => q h1), Bool.false_and]
    exact (decide_eq_false (by rw [h1]; exact hk)).symm
  · rw [decide_eq_true (show e.1 ≠ k from h1), Bool.true_and]
    by_cases h2 : e.1 ∈ rs
    · rw [decide_eq_true h2, decide_eq_true (hm.2 (.inr h2))]
    · rw [decide_eq_false h2, decide_eq_false (fun q => (hm.1 q).elim h1 h2)]
theorem restF_mem {v : ν} (h : (k, v) ∈ restF l rest) : (k, v) ∈ l := (List.mem_filter.1 h).1
theorem rest_nd (hr : rest.Nodup) (hp : rest.Perm (k :: rs)) : rs.Nodup ∧ k ∉ rs := ⟨(List.nodup_cons.1 (hp.nodup_iff.1 hr)).2, (List.nodup_cons.1 (hp.nodup_iff.1 hr)).1⟩
end
/-! ## no more than may be -/
def idn (i : Nat) : ID32 := ⟨UInt8.ofNat i :: List.replicate 31 0, rfl⟩
theorem idn_inj {i j : Nat} (hi : i < 256) (hj : j < 256) (h : idn i = idn j) : i = j := by
  have h2 : (UInt8.ofNat i :: List.replicate 31 (0 : UInt8)) = UInt8.ofNat j :: List.replicate 31 0 := congrArg Subtype.val h
  injection h2 with h3 _
  have := congrArg UInt8.toNat h3
  rw [UInt8.toNat_ofNat', UInt8.toNat_ofNat'] at this
  omega
def rwN (m : Nat) : Row21 := (List.range m).map fun x : Nat => ((x : Int), (100 : Int))
theorem rwN_s {m : Nat} : rwN (m + 1) = rwN m ++ [((m : Int), 100)] := by unfold rwN; rw [List.range_succ, List.map_append]; rfl
theorem rwN_len {m : Nat} : (rwN m).length = m := by unfold rwN; rw [List.length_map, List.length_range]
theorem rwN_keys {m : Nat} : (rwN m).map Prod.fst = (List.range m).map fun x : Nat => (x : Int) := by unfold rwN; rw [List.map_map]; rfl
theorem rwN_nd {m : Nat} : ((rwN m).map Prod.fst).Nodup := by
  rw [rwN_keys]
  exact List.Pairwise.map _ (fun a b h e => h (by omega)) List.nodup_range
theorem rwN_none {m : Nat} {a : Int} (h : (m : Int) ≤ a) : look (rwN m) a = none := by
  rw [look_none_iff, rwN_keys]
  intro hm
  obtain ⟨x, hx, rfl⟩ := List.mem_map.1 hm
  rw [List.mem_range] at hx; omega
theorem rwN_v {m : Nat} {e : Int × Int} (h : e ∈ rwN m) : e.2 = 100 := by
  unfold rwN at h
  obtain ⟨x, _, rfl⟩ := List.mem_map.1 h; rfl
def bt (n m : Nat) : Tb := if m = 0 then [] else (List.range n).map fun a => (idn a, rwN m)
theorem bt_len {n m : Nat} : (bt n m).length ≤ n := by
  unfold bt; split
  · simp
  · rw [List.length_map, List.length_range]; omega
theorem bt_len2 {n m : Nat} (h : 0 < m) : (bt n m).length = n := by
  unfold bt; rw [if_neg (by omega), List.length_map, List.length_range]
theorem bt_s {n m : Nat} (h : 0 < m) : bt (n + 1) m = bt n m ++ [(idn n, rwN m)] := by
  unfold bt; rw [if_neg (by omega), if_neg (by omega), List.range_succ, List.map_append]; rfl
theorem look_app {κ ν : Type} [DecidableEq κ] {k : κ} {m : List (κ × ν)} : ∀ {l : List (κ × ν)}, look l k = none → look (l ++ m) k = look m k
  | [], _ => rfl
  | (a, x) :: l, h => by
    simp only [look] at h
    split at h
    · cases h
    · rename_i hne; simp only [List.cons_append, look, if_neg hne]; exact look_app h
theorem put_app {κ ν : Type} [DecidableEq κ] {k : κ} {v : ν} {m : List (κ × ν)} : ∀ {l : List (κ × ν)}, look l k = none → put (l ++ m) k v = l ++ put m k v
  | [], _ => rfl
  | (a, x) :: l, h => by
    simp only [look] at h
    split at h
    · cases h
    · rename_i hne; simp only [List.cons_append, put, if_neg hne]; rw [put_app h]
theorem bt_none {n m i : Nat} (hn : n ≤ i) (hi : i < 256) : look (bt n m) (idn i) = none := by
  rw [look_none_iff]
  intro h
  unfold bt at h
  split at h
  · cases h
  · rw [List.map_map] at h
    obtain ⟨x, hx, he⟩ := List.mem_map.1 h
    rw [List.mem_range] at hx
    have := idn_inj (by omega) hi he
    omega
theorem bt_look {n m i : Nat} (hm : 0 < m) (hn : i < n) (hi : n ≤ 256) : look (bt n m) (idn i) = some (rwN m) := by
  induction n with
  | zero => omega
  | succ n ih =>
    rw [bt_s hm]
    by_cases h : i = n
    · subst h
      rw [look_app (bt_none (Nat.le_refl _) (by omega))]
      simp [look]
    · have := ih (by omega) (by omega)
      have app : ∀ {l q : Tb} {r : Row21}, look l (idn i) = some r → look (l ++ q) (idn i) = some r := by
        intro l q r
        induction l with
        | nil => intro h; cases h
        | cons p l ih =>
          obtain ⟨a, x⟩ := p
          intro h
          simp only [List.cons_append, look] at h ⊢
          by_cases e : a = idn i
          · rw [if_pos e] at h ⊢; exact h
          · rw [if_neg e] at h ⊢; exact ih h
      exact app this
/-- the table: i names are done, j addresses of the next one -/
def stB (k i j : Nat) : Tb := bt (min i 64) (min k 8) ++ if i < 64 ∧ 0 < j then [(idn i, rwN (min j 8))] else []
theorem stB_len {k i j : Nat} : (stB k i j).length ≤ 65 := by
  have := @bt_len (min i 64) (min k 8)
  unfold stB
  rw [List.length_append]
  split
  · simp; omega
  · simp; omega
theorem stB_row {k i j : Nat} (hi : i < 100) {r : Row21} (h : look (stB k i j) (idn i) = some r) : r.length ≤ 8 := by
  unfold stB at h
  rw [look_app (bt_none (by omega) (by omega))] at h
  split at h
  · simp [look] at h; subst h; rw [rwN_len]; omega
  · cases h
theorem stB_0 {k : Nat} : stB k 0 0 = [] := by unfold stB bt; simp
theorem stB_next {k i : Nat} : stB k i k = stB k (i + 1) 0 := by
  unfold stB
  rw [if_neg (show ¬ (i + 1 < 64 ∧ 0 < 0) by omega)]
  by_cases hk : k = 0
  · subst hk
    rw [if_neg (by omega)]
    unfold bt; simp
  · by_cases hi : i < 64
    · rw [if_pos ⟨hi, by omega⟩, show min i 64 = i by omega, show min (i + 1) 64 = i + 1 by omega, bt_s (by omega), List.append_nil]
    · rw [if_neg (by omega), show min i 64 = 64 by omega, show min (i + 1) 64 = 64 by omega]
theorem stB_step {k i j : Nat} (hk : k ≤ 63) (hi : i < 100) (hj : j < k) : putT (stB k i j) (idn i) (j : Int) 100 = stB k i (j + 1) := by
  have hb := @bt_none (min i 64) (min k 8) i (by omega) (by omega)
  have hm : 0 < min k 8 := by omega
  have hl := @bt_len2 (min i 64) (min k 8) hm
  by_cases h64 : i < 64
  · by_cases h0 : j = 0
    · subst h0
      have e : stB k i 0 = bt (min i 64) (min k 8) := by unfold stB; rw [if_neg (by omega), List.append_nil]
      have hE : putE (stB k i 0) (idn i) ((0 : Nat) : Int) = 0 := by
        unfold putE; rw [if_neg (by omega), e, hb]; simp only; rw [if_neg (by omega)]
      unfold putT
      rw [if_pos hE, e, hb, put_none hb]
      unfold stB
      rw [if_pos ⟨h64, by omega⟩]
      have : putR [] ((0 : Nat) : Int) 100 = rwN (min (0 + 1) 8) := by decide
      show _ ++ [(idn i, putR [] ((0 : Nat) : Int) 100)] = _
      rw [this]
    · have e : stB k i j = bt (min i 64) (min k 8) ++ [(idn i, rwN (min j 8))] := by unfold stB; rw [if_pos ⟨h64, by omega⟩]
      have hlk : look (stB k i j) (idn i) = some (rwN (min j 8)) := by rw [e, look_app hb]; simp [look]
      have hnone : look (rwN (min j 8)) (j : Int) = none := rwN_none (by omega)
      by_cases h8 : j < 8
      · have hE : putE (stB k i j) (idn i) (j : Int) = 0 := by
          unfold putE; rw [if_neg (by omega), hlk]; simp only; rw [if_neg (by rw [rwN_len]; omega)]
        unfold putT
        rw [if_pos hE, hlk, e, put_app hb]
        have hr : putR (rwN (min j 8)) (j : Int) 100 = rwN (min (j + 1) 8) := by
          unfold putR
          rw [hnone, put_none hnone, Nat.min_eq_left (by omega), Nat.min_eq_left (by omega), rwN_s]; rfl
        unfold stB
        rw [if_pos ⟨h64, by omega⟩]
        simp only [Option.getD_some, put, if_true, hr]
      · have hE : putE (stB k i j) (idn i) (j : Int) = 14 := by
          unfold putE; rw [if_neg (by omega), hlk]; simp only; rw [if_pos ⟨hnone, by rw [rwN_len]; omega⟩]
        unfold putT
        rw [hE, if_neg (by decide), e]
        unfold stB
        rw [if_pos ⟨h64, by omega⟩, Nat.min_eq_right (show 8 ≤ j by omega), Nat.min_eq_right (show 8 ≤ j + 1 by omega)]
  · have e : ∀ j, stB k i j = bt (min i 64) (min k 8) := fun j => by unfold stB; rw [if_neg (by omega), List.append_nil]
    have hE : putE (stB k i j) (idn i) (j : Int) = 14 := by
      unfold putE; rw [if_neg (by omega), e, hb]; simp only; rw [if_pos (by omega)]
    unfold putT
    rw [hE, if_neg (by decide), e, e]
theorem stB_fin {k n : Nat} : stB k n 0 = bt (min n 64) (min k 8) := by unfold stB; rw [if_neg (by omega), List.append_nil]
theorem getF_nilE {now : Int} {xs : List Int} {n : Nat} (hp : xs.Perm ((([] : Row21)).map Prod.fst)) (hn : (getF [] now (xs.mergeSort fun x y => decide (x ≤ y))).length = n) : n = 0 := by
  have : xs = [] := hp.eq_nil
  subst this
  rw [← hn]; simp [getF]
theorem bt_got {n k i m : Nat} {xs : List Int} (hn : n ≤ 100) (hi : i < n) (hk : 0 < k) (hp : xs.Perm ((rowT (bt (min n 64) (min k 8)) (idn i)).map Prod.fst)) (hm : (getF (rowT (bt (min n 64) (min k 8)) (idn i)) 0 (xs.mergeSort fun x y => decide (x ≤ y))).length = m) : m = if i < 64 then min k 8 else 0 := by
  by_cases h : i < 64
  · rw [if_pos h]
    have e : rowT (bt (min n 64) (min k 8)) (idn i) = rwN (min k 8) := by unfold rowT; rw [bt_look (by omega) (by omega) (by omega)]; rfl
    rw [e] at hp hm
    have hf : getF (rwN (min k 8)) 0 (xs.mergeSort fun x y => decide (x ≤ y)) = xs.mergeSort fun x y => decide (x ≤ y) := by
      unfold getF
      refine List.filter_eq_self.2 fun a ha => ?_
      have hk := hp.mem_iff.1 ((List.mergeSort_perm xs _).mem_iff.1 ha)
      obtain ⟨p, hp, rfl⟩ := List.mem_map.1 hk
      rw [look_of_mem rwN_nd (k := p.1) (v := p.2) hp, rwN_v hp]
      rfl
    rw [hf, List.length_mergeSort] at hm
    have := hp.length_eq
    rw [List.length_map, rwN_len] at this
    omega
  · rw [if_neg h]
    have e : rowT (bt (min n 64) (min k 8)) (idn i) = [] := by unfold rowT; rw [bt_none (by omega) (by omega)]; rfl
    rw [e] at hp hm
    exact getF_nilE hp hm
theorem bt_rows {n m : Nat} {q : ID32 × Row21} (h : q ∈ bt n m) : (∀ e ∈ q.2, e.2 ≤ 100) ∧ q.2.length ≤ m := by
  unfold bt at h
  split at h
  · cases h
  · obtain ⟨x, _, rfl⟩ := List.mem_map.1 h
    exact ⟨fun e he => by rw [rwN_v he]; decide, by rw [rwN_len]; exact Nat.le_refl _⟩

set_option maxHeartbeats 400000 in
theorem delf_spec {m g : Nat} {caps : List Value} {φ : Asn} {p : Int → Int → Bool} {row : Row21} (hall : ∀ e ∈ row, p e.1 e.2 = true) (hp : ∀ x y : Int, Spec Try.prog g ([.int .i64 x, .int .i64 y] ++ caps) [φ] [] (fun u D' M' => u = .bool (p x y) ∧ D' = [] ∧ M' = [])) : Spec Try.prog 25 [.map (some m), fnV g caps] [φ] [mp m iK iK row] (fun v D' M' => v = .tuple #[] ∧ D' = [] ∧ M' = [mp m iK iK []]) := by
  refine Spec.intro (n := 19) Try.func25 rfl rfl (by decide) (Nat.le_of_ble_eq_true rfl) rfl (fun _ => qA) (fun _ => qA) ?_
  intro σ D M
  refine T.mpNodup (kenc := iK) (venc := iK) qM (fun hnd => ?_)
  refine T.seq ?_
  refine T.region ?_
  refine L.move rfl rfl ?_
  refine L.range (kenc := iK) (venc := iK) rfl Try.underlying32 rfl qP (fun it => ?_)
  refine L.nil ?_
  refine T.thenN ?_
  refine T.block ?_
  refine T.eqv qP (show mpi m it iK iK row (row.map Prod.fst) none = mpi m it iK iK (restF row (row.map Prod.fst)) (row.map Prod.fst) none from by rw [restF_0]) ?_
  refine T.loop (fun K' D' M' μ => ∃ (rest : List Int) (cur : Option Int), (rest.Nodup) ∧ K' = [] ∧ D' = [] ∧ M' = [mpi m it iK iK (restF row rest) rest cur] ∧ μ = rest.length) (.cons (t := 0) rfl <| .cons (t := 1) rfl <| .cons (t := 7) rfl <| SubK.nil _) (⟨row.map Prod.fst, none, hnd, rfl, rfl, rfl, rfl⟩) (SubK.nil _) qD qS ?_
  rintro K1 D1 M1 m1 ⟨rest, cur, hrn, rfl, rfl, rfl, rfl⟩
  refine T.norm3 qA qA qA ?_
  refine T.seq ?_
  refine T.region ?_
  refine L.next rfl rfl qP (fun hre => ?_) (fun k v rs hpe hkv => ?_)
  · skip
    skip
    refine L.extract rfl rfl rfl ?_
    refine L.nil ?_
    refine T.thenN ?_
    refine T.seq ?_
    refine T.condF rfl rfl ?_
    refine T.exit ?_
    refine T.thenX ?_
    refine T.thenX ?_
    refine T.blkX ?_
    subst hre
    refine T.mpiMp qP ?_
    refine T.eqv qP (show mp m iK iK (restF row []) = mp m iK iK [] from by rw [restF_fin]) ?_
    exact T.retN (by simp) rfl ⟨rfl, rfl, rfl⟩ qD qF
  · skip
    skip
    refine L.extract rfl rfl rfl ?_
    refine L.nil ?_
    refine T.thenN ?_
    refine T.seq ?_
    refine T.condT rfl rfl ?_
    refine T.skip ?_
    refine T.thenN ?_
    refine T.block ?_
    refine T.seq ?_
    refine T.region ?_
    refine L.entry (ent_inj iK_inj (restF_nd hnd) hkv) rfl rfl qM hkv ?_
    refine L.extract rfl rfl rfl ?_
    refine L.extract rfl rfl rfl ?_
    refine L.assign rfl rfl ?_
    refine L.assign rfl rfl ?_
    refine L.nil ?_
    refine T.thenN ?_
    refine T.seq ?_
    refine T.region ?_
    refine L.move rfl rfl ?_
    refine L.move rfl rfl ?_
    refine L.move rfl rfl ?_
    refine L.callVF rfl rfl (evs.cons rfl <| evs.cons rfl <| evs.nil) qD qS (hp k v) (by rintro u D1 M1 ⟨rfl, rfl, rfl⟩; exact ⟨rfl, _, qA, qF⟩) ?_
    refine L.nil ?_
    refine T.thenN ?_
    refine T.condT rfl (hall _ (restF_mem hkv)) ?_
    refine T.region ?_
    refine L.move rfl rfl ?_
    refine L.move rfl rfl ?_
    refine L.deleteI (kenc := iK) (venc := iK) (l := restF row rest) (k := k) (v0 := v) Try.underlying32 kt3 rfl rfl (look_of_mem (restF_nd hnd) hkv) (rest_nd hrn hpe).2 qP ?_
    refine L.nil ?_
    refine T.blkN ?_
    refine T.thenN ?_
    refine T.eqv qP (show mpi m it iK iK (del (restF row rest) k) rs none = mpi m it iK iK (restF row rs) rs none from by rw [restF_step hnd hrn hpe]) ?_
    exact T.back ⟨rs, none, (rest_nd hrn hpe).1, rfl, rfl, rfl, rfl⟩ (by have := hpe.length_eq; simp at this; omega) (SubK.nil _) (.cons (t := 0) rfl <| .cons (t := 1) rfl <| .cons (t := 7) rfl <| SubK.nil _) qD qD qF
set_option maxHeartbeats 400000 in
theorem exp1_spec (x y : Int) {b : Nat} {now : Int}  : Spec Try.prog 26 [.int .i64 x, .int .i64 y, .pointer (some ⟨b, 0, none⟩)] [cl b 3 [.int .i64 now]] [] (fun v D' M' => v = .bool (decide (y ≤ now)) ∧ D' = [] ∧ M' = []) := by
  refine Spec.intro (n := 9) Try.func26 rfl rfl (by decide) (Nat.le_of_ble_eq_true rfl) rfl (fun _ => qA) (fun _ => qA) ?_
  intro σ D M
  refine T.seq ?_
  refine T.region ?_
  refine L.assign rfl rfl ?_
  refine L.nil ?_
  refine T.thenN ?_
  refine T.seq ?_
  refine T.region ?_
  refine L.move rfl rfl ?_
  refine L.load rfl sc3 rfl qC ?_
  refine L.leI rfl rfl rfl ?_
  refine L.assign rfl rfl ?_
  refine L.nil ?_
  refine T.thenN ?_
  refine T.ret ?_
  exact T.ret1 rfl rfl ⟨rfl, rfl, rfl⟩ qD qF
set_option maxHeartbeats 400000 in
theorem expM_spec {b tm : Nat} {ml : ML} {now : Int} (hall : ∀ q ∈ ml, ∀ e ∈ q.2.2, e.2 ≤ now) : Spec Try.prog 13 [.pointer (some ⟨b, 0, none⟩), .int .i64 now] [cl b 57 [.map (some tm)]] [mp tm aK rV2 ml, each rA2 ml] (fun v D' M' => v = .tuple #[] ∧ D' = [] ∧ M' = [tbA tm []]) := by
  refine Spec.intro (n := 27) Try.func13 rfl rfl (by decide) (Nat.le_of_ble_eq_true rfl) rfl (fun _ => qA) (fun _ => qA) ?_
  intro σ D M
  refine T.mpNodup (kenc := aK) (venc := rV2) qM (fun hnd => ?_)
  refine T.seq ?_
  refine T.region ?_
  refine L.box rfl rfl rfl (fun b3 => ?_)
  refine L.nil ?_
  refine T.freeze (A := cl b3 3 [.int .i64 now]) qP ?_
  refine T.thenN ?_
  refine T.seq ?_
  refine T.region ?_
  refine L.move rfl rfl ?_
  refine L.nilCheck rfl rfl ?_
  first | refine L.field0 rfl fo57_0 rfl ?_ | refine L.field rfl fo57_0 rfl ?_
  refine L.load rfl sc55 rfl qC ?_
  refine L.range (kenc := aK) (venc := rV2) rfl Try.underlying55 rfl qP (fun it => ?_)
  refine L.nil ?_
  refine T.thenN ?_
  refine T.block ?_
  refine T.eqv qP (show mpi tm it aK rV2 ml (ml.map Prod.fst) none = mpi tm it aK rV2 (restF ml (ml.map Prod.fst)) (ml.map Prod.fst) none from by rw [restF_0]) ?_
  refine T.eqv qP (show each rA2 ml = each rA2 (restF ml (ml.map Prod.fst)) from by rw [restF_0]) ?_
  refine T.loop (fun K' D' M' μ => ∃ (rest : List ID32) (cur : Option ID32), (rest.Nodup) ∧ K' = [] ∧ D' = [] ∧ M' = [mpi tm it aK rV2 (restF ml rest) rest cur, each rA2 (restF ml rest)] ∧ μ = rest.length) (.cons (t := 0) rfl <| .cons (t := 3) rfl <| .cons (t := 10) rfl <| SubK.nil _) (⟨ml.map Prod.fst, none, hnd, rfl, rfl, rfl, rfl⟩) (SubK.nil _) qD qS ?_
  rintro K1 D1 M1 m1 ⟨rest, cur, hrn, rfl, rfl, rfl, rfl⟩
  refine T.norm3 qA qA qA ?_
  refine T.seq ?_
  refine T.region ?_
  refine L.next rfl rfl qP (fun hre => ?_) (fun k v rs hpe hkv => ?_)
  · skip
    skip
    refine L.extract rfl rfl rfl ?_
    refine L.nil ?_
    refine T.thenN ?_
    refine T.seq ?_
    refine T.condF rfl rfl ?_
    refine T.exit ?_
    refine T.thenX ?_
    refine T.thenX ?_
    refine T.blkX ?_
    subst hre
    refine T.mpiMp qP ?_
    refine T.tbShut (t := []) (ml := restF ml []) (by rw [restF_fin]; rfl) qS ?_
    exact T.retN (by simp) rfl ⟨rfl, rfl, rfl⟩ qD qF
  · skip
    obtain ⟨rb, row⟩ := v
    refine L.extract rfl rfl rfl ?_
    refine L.nil ?_
    refine T.thenN ?_
    refine T.seq ?_
    refine T.condT rfl rfl ?_
    refine T.skip ?_
    refine T.thenN ?_
    refine T.block ?_
    refine T.seq ?_
    refine T.region ?_
    refine L.entry (ent_inj aK_inj (restF_nd hnd) hkv) rfl rfl qM hkv ?_
    have hk32 := k.2
    refine L.extract rfl rfl rfl ?_
    refine L.extract rfl rfl rfl ?_
    refine L.alloc rfl ze28 (fun b4 => ?_)
    refine L.storeA ag28 rfl rfl qL qO qU qW ?_
    refine L.assign rfl rfl ?_
    refine L.nil ?_
    refine T.freeze (A := cl b4 28 (k.1.map Y)) qP ?_
    have hlk : look (restF ml rest) k = some (rb, row) := look_of_mem (restF_nd hnd) hkv
    refine T.rowOpen hlk qP ?_
    refine T.thenN ?_
    refine T.seq ?_
    refine T.region ?_
    refine L.move rfl rfl ?_
    refine L.makeFunc rfl (evs.cons rfl <| evs.nil) ?_
    refine L.call rfl (evs.cons rfl <| evs.cons rfl <| evs.nil) qD qS (delf_spec (φ := cl b3 3 [.int .i64 now]) (p := fun _ y => decide (y ≤ now)) (caps := [.pointer (some ⟨b3, 0, none⟩)]) (row := row) (fun e he => decide_eq_true (hall _ (restF_mem hkv) e he)) (fun x y => exp1_spec x y)) ?_
    rintro _ _ _ ⟨rfl, rfl, rfl⟩
    refine L.norm qA qA ?_
    refine L.nil ?_
    refine T.thenN ?_
    refine T.seq ?_
    refine T.region ?_
    refine L.move rfl rfl ?_
    refine L.lenMap (l := []) rfl Try.underlying32 rfl qM ?_
    refine L.eqI rfl rfl rfl ?_
    refine L.nil ?_
    refine T.thenN ?_
    refine T.condT rfl rfl ?_
    refine T.regionA (clsL [1, 1, 1, 1, 1, 2]) (by kernel_rfl) ?_
    refine A.takeP (i := 0) rfl rfl rfl rfl (by kernel_rfl) (by kernel_rfl) (by kernel_rfl) rfl qD ?_
    refine L.move rfl rfl ?_
    refine A.took ?_
    refine A.nilCheckP (i := 1) rfl rfl (by kernel_rfl) (by kernel_rfl) (by kernel_rfl) rfl qD rfl ?_
    refine A.takeP (i := 2) rfl rfl rfl rfl (by kernel_rfl) (by kernel_rfl) (by kernel_rfl) rfl qD ?_
    first | refine L.field0 rfl fo57_0 rfl ?_ | refine L.field rfl fo57_0 rfl ?_
    refine A.took ?_
    refine A.takeP (i := 3) rfl rfl rfl rfl (by kernel_rfl) (by kernel_rfl) (by kernel_rfl) rfl qD ?_
    refine L.load rfl sc55 rfl qC ?_
    refine A.took ?_
    refine A.takeP (i := 4) rfl rfl rfl rfl (by kernel_rfl) (by kernel_rfl) (by kernel_rfl) rfl qD ?_
    refine L.loadA rfl ag28 rfl qN ?_
    refine A.took ?_
    refine A.branch (is := [5]) (by kernel_rfl) (by decide) (Each.cons rfl ?_ <| Each.nil) 
    refine L.deleteI (kenc := aK) (venc := rV2) (l := restF ml rest) (k := k) (v0 := (rb, row)) Try.underlying55 (keyT_arr Try.underlying28 Try.underlying5 sc5) rfl rfl hlk (rest_nd hrn hpe).2 qP ?_
    refine A.backT rfl qD ?_
    refine A.done (by kernel_rfl) ?_
    refine T.blkN ?_
    refine T.thenN ?_
    refine T.eqv qP (show mpi tm it aK rV2 (del (restF ml rest) k) rs none = mpi tm it aK rV2 (restF ml rs) rs none from by rw [restF_step hnd hrn hpe]) ?_
    refine T.eqv qP (show each rA2 (del (restF ml rest) k) = each rA2 (restF ml rs) from by rw [restF_step hnd hrn hpe]) ?_
    exact T.back ⟨rs, none, (rest_nd hrn hpe).1, rfl, rfl, rfl, rfl⟩ (by have := hpe.length_eq; simp at this; omega) (SubK.nil _) (.cons (t := 0) rfl <| .cons (t := 3) rfl <| .cons (t := 10) rfl <| SubK.nil _) qD qD qF
theorem exp_spec {b tm : Nat} {t : Tb} {now : Int} (h : ∀ q ∈ t, ∀ e ∈ q.2, e.2 ≤ now) : Spec Try.prog 13 [.pointer (some ⟨b, 0, none⟩), .int .i64 now] [cl b 57 [.map (some tm)]] [tbA tm t] (fun v D' M' => v = .tuple #[] ∧ D' = [] ∧ M' = [tbA tm []]) :=
  Spec.tb (IsFn.of Try.func13 rfl (by decide)) fun ml hm => by
    subst hm
    exact expM_spec (fun q hq e he => h (q.1, q.2.2) (List.mem_map.2 ⟨q, hq, rfl⟩) e he)
end Cv
