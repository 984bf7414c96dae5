/-
  The walks: the law of silent ones.
-/
import Derived.Test.YtjacegfanhejdaaS20
import Derived.Test.YtjacegfanhejdaaProg
import Derived.KernelRfl
set_option linter.unusedVariables false
set_option linter.unusedSimpArgs false
set_option linter.unusedSectionVars false
set_option maxRecDepth 10000
namespace Cv
open Go Go.Proofs
def knownF (i : Nat) : List Int := (List.range i).map fun (j : Nat) => (j : Int) + 1
theorem knownF_s {i : Nat} : knownF (i + 1) = knownF i ++ [(i : Int) + 1] := by unfold knownF; rw [List.range_succ, List.map_append]; rfl
theorem knownF_len {i : Nat} : (knownF i).length = i := by simp [knownF]
theorem knownF_mem {i : Nat} {k : Int} (h : k ∈ knownF i) : 1 ≤ k ∧ k ≤ i := by
  unfold knownF at h
  obtain ⟨j, hj, rfl⟩ := List.mem_map.1 h
  have := List.mem_range.1 hj
  omega
theorem put_new {lo : OfM} {k : Int} {v : Int × Int} (h : look lo k = none) : put lo k v = lo ++ [(k, v)] := by
  induction lo with
  | nil => rfl
  | cons p l ih =>
    obtain ⟨k', u⟩ := p
    simp only [look] at h
    by_cases e : k' = k
    · rw [if_pos e] at h; cases h
    · rw [if_neg e] at h
      simp only [put, if_neg e, List.cons_append, ih h]
theorem meet_known {n : Nat} (hn : n ≤ 63) : meetF 0 [] (knownF n) = (knownF n).map fun k => (k, (0, 0)) := by
  induction n with
  | zero => rfl
  | succ n ih =>
    have i := ih (by omega)
    rw [knownF_s]
    unfold meetF at i ⊢
    rw [List.foldl_append, i, List.map_append]
    simp only [List.foldl_cons, List.foldl_nil, List.map_cons, List.map_nil]
    have hno : look ((knownF n).map fun k => ((k, (0, 0)) : Int × (Int × Int))) ((n : Int) + 1) = none := by
      rw [look_none_iff, List.map_map]
      intro h
      obtain ⟨k, hk, he⟩ := List.mem_map.1 h
      simp only [Function.comp_apply] at he
      have := knownF_mem hk
      omega
    unfold meet1
    rw [if_pos ⟨hno, by unfold May; omega⟩, put_new hno]
theorem SI.first {n : Nat} (hn : n ≤ 63) : SI n 0 (meetF 0 [] (knownF n)) [] := by
  rw [meet_known hn]
  refine SI.zero ?_ (by rw [List.length_map, knownF_len]) (fun p hp => by obtain ⟨k, _, rfl⟩ := List.mem_map.1 hp; rfl)
  rw [List.map_map]
  show ((knownF n).map fun k => k).Nodup
  rw [List.map_id']
  unfold knownF
  refine List.Pairwise.map _ (fun a b (h : a ≠ b) => ?_) List.nodup_range
  intro e; exact h (by omega)
theorem SI.dead {n : Nat} {lo : OfM} {lw : List (Int × Int)} (h : SI n 320 lo lw) (hn : n ≤ 40) (hw : (lw.map Prod.fst).Nodup) : liveK lo = [] ∧ lw.length = n := by
  have hs := cnt_sum (fun p hp => (h.st p hp).1)
  have c3 := h.c3
  rw [if_neg (by omega), h.len.symm] at c3
  have hl := h.len
  have h0 : cntS lo 0 = 0 ∧ cntS lo 1 = 0 := by omega
  have hll := live_len (fun p hp => (h.st p hp).1)
  refine ⟨List.length_eq_zero_iff.1 (by omega), ?_⟩
  have hp : (lw.map Prod.fst).Perm (lo.map Prod.fst) := by
    refine (List.perm_ext_iff_of_nodup hw h.nd).2 fun k => ?_
    constructor
    · intro hk
      cases e : look lw k with
      | none => rw [look_none_iff] at e; exact absurd hk e
      | some v =>
        rw [h.wk k] at e
        split at e
        · rename_i g; exact g.1
        · cases e
    · intro hk
      have : look lw k = some 1 := by
        rw [h.wk k, if_pos]
        refine ⟨hk, fun e => ?_⟩
        have := cnt_pos h.nd hk e
        omega
      exact List.mem_map.2 ⟨_, mem_of_look this, rfl⟩
  have := hp.length_eq
  rw [List.length_map, List.length_map] at this
  omega
theorem SI.val {n t : Nat} {lo : OfM} {lw : List (Int × Int)} {k v : Int} (h : SI n t lo lw) (hw : (lw.map Prod.fst).Nodup) (hm : (k, v) ∈ lw) : v = 1 := by
  have := look_of_mem hw hm
  rw [h.wk k] at this
  split at this
  · exact (Option.some.inj this).symm
  · cases this
theorem ask_step {out : List Int} {lw lwj : List (Int × Int)} {j : Nat} {k : Int} (hn : out.Nodup) (h0 : ∀ k ∈ out, look lw k = none) (hk : out[j]? = some k) (h : ∀ q, look lwj q = if q ∈ out.take j then some 1 else look lw q) :
    (look lwj k).getD 0 = 0 ∧ ∀ q, look (put lwj k ((look lwj k).getD 0 + 1)) q = if q ∈ out.take (j + 1) then some 1 else look lw q := by
  have hko : k ∈ out := List.mem_of_getElem? hk
  have hjl := (List.getElem?_eq_some_iff.1 hk).1
  have hnot : k ∉ out.take j := by
    intro hm
    obtain ⟨i, hi, he⟩ := List.mem_iff_getElem.1 hm
    rw [List.getElem_take] at he
    have hi' : i < j := by rw [List.length_take] at hi; omega
    have e2 := (List.getElem?_eq_some_iff.1 hk).2
    have := (List.nodup_iff_pairwise_ne.1 hn)
    exact List.pairwise_iff_getElem.1 this i j (by omega) hjl hi' (he.trans e2.symm)
  have e0 : look lwj k = none := by rw [h k, if_neg hnot]; exact h0 k hko
  refine ⟨by rw [e0]; rfl, fun q => ?_⟩
  rw [look_put, e0, List.take_add_one, hk]
  by_cases e : q = k
  · subst e; simp
  · rw [if_neg e, h q]
    simp [e]

set_option maxHeartbeats 1000000 in
theorem seeksilent_law (s : List UInt8) (a1 : Int)  : Spec Try.prog 5 [S s, .int .i64 a1] [] [] (fun v D' M' => v = .bool true ∧ D' = [] ∧ M' = []) := by
  refine Spec.intro (n := 82) Try.func5 rfl rfl (by decide) (Nat.le_of_ble_eq_true rfl) rfl (fun _ => qA) (fun _ => qA) ?_
  intro σ D M
  have hnl := nmF_len s
  refine T.seq ?_
  refine T.region ?_
  refine L.assign rfl rfl ?_
  refine L.nil ?_
  refine T.thenN ?_
  refine T.seq ?_
  refine T.seq ?_
  refine T.region ?_
  refine L.call rfl (evs.nil) qD qS (awake_spec) ?_
  rintro _ _ _ ⟨rfl, rfl, rfl⟩
  refine L.norm qA qA ?_
  refine L.notB rfl rfl ?_
  refine L.nil ?_
  refine T.thenN ?_
  refine T.condF rfl rfl ?_
  refine T.skip ?_
  refine T.thenN ?_
  refine T.seq ?_
  refine T.region ?_
  refine L.move rfl rfl ?_
  refine L.call rfl (evs.cons rfl <| evs.nil) qD qS (name_spec) ?_
  rintro _ _ _ ⟨rfl, rfl, rfl⟩
  refine L.norm qA qA ?_
  refine L.alloc rfl ze27 (fun b5 => ?_)
  refine L.storeA ag27 rfl rfl qL qO qU qW ?_
  refine L.nil ?_
  refine T.freeze (A := cl b5 27 ((nmF s).map Y)) qP ?_
  refine T.thenN ?_
  refine T.seq ?_
  refine T.region ?_
  refine L.move rfl rfl ?_
  refine L.maxI rfl rfl rfl ?_
  refine L.minI rfl rfl rfl ?_
  refine L.assign rfl rfl ?_
  refine L.nil ?_
  obtain ⟨n, hn, hn40⟩ : ∃ n : Nat, min (max a1 0) 40 = (n : Int) ∧ n ≤ 40 := ⟨(min (max a1 0) 40).toNat, by omega, by omega⟩
  rw [hn]
  refine T.thenN ?_
  refine T.seq ?_
  refine T.region ?_
  refine L.buildSlice rfl bs22 (by decide) (BP.doneE (out := []) rfl) (fun b22 => ?_)
  refine L.toOwn (len := 0) (sz := 1) (e := 3) (rows := (knownF 0).map e3) qP (by rfl) rfl (by simp [knownF]) ?_
  refine L.assign rfl rfl ?_
  refine L.nil ?_
  refine T.thenN ?_
  refine T.seq ?_
  refine T.seq ?_
  refine T.region ?_
  refine L.move rfl rfl ?_
  refine L.move rfl rfl ?_
  refine L.nil ?_
  refine T.thenN ?_
  refine T.block ?_
  refine T.loop (fun K' D' M' μ => ∃ (i : Nat) (a6 : Option Addr) (c6 : Nat), (i ≤ n) ∧ K' = [(24, .int .i64 i), (6, .slice a6 i c6)] ∧ D' = [] ∧ M' = [own 1 3 a6 i c6 ((knownF i).map e3)] ∧ μ = n - i) (.cons (t := 1) rfl <| .cons (t := 5) rfl <| .cons (t := 23) rfl <| SubK.nil _) (⟨0, _, _, Nat.zero_le _, rfl, rfl, rfl, rfl⟩) (.cons (t := 24) rfl <| .cons (t := 6) rfl <| SubK.nil _) qD qS ?_
  rintro K1 D1 M1 m1 ⟨i, a6, c6, hi, rfl, rfl, rfl, rfl⟩
  refine T.norm3 qA qA qA ?_
  refine T.seq ?_
  refine T.region ?_
  refine L.ltI rfl rfl rfl ?_
  refine L.nil ?_
  refine T.thenN ?_
  refine T.seq ?_
  refine T.cond rfl (fun h25 => ?_) (fun h25 => ?_)
  · try simp only [decide_eq_true_eq, decide_eq_false_iff_not, Bool.not_eq_true', Bool.not_eq_false', Bool.and_eq_true, Bool.or_eq_true] at h25
    refine T.skip ?_
    refine T.thenN ?_
    refine T.seq ?_
    refine T.block ?_
    refine T.seq ?_
    refine T.region ?_
    refine L.move rfl rfl ?_
    refine L.assign rfl rfl ?_
    refine L.nil ?_
    refine T.thenN ?_
    refine T.region ?_
    refine L.move rfl rfl ?_
    refine L.move rfl rfl ?_
    refine L.addN rfl rfl rfl (by omega) ?_
    refine L.buildSlice rfl bs22 (by decide) (BP.one rfl rfl rfl <| BP.doneE (out := []) rfl) (fun b30 => ?_)
    refine L.append1 rfl Try.underlying22 el3 rfl rfl qP qM rfl qO1 qI qI (fun a31 c31 => ?_)
    refine L.assign rfl rfl ?_
    refine L.nil ?_
    refine T.blkN ?_
    refine T.thenN ?_
    refine T.region ?_
    refine L.addN rfl rfl rfl (by omega) ?_
    refine L.move rfl rfl ?_
    refine L.nil ?_
    refine T.thenN ?_
    refine T.ownEq _ ((knownF (i + 1)).map e3) qP (by rw [knownF_s, List.map_append]; rfl) ?_
    exact T.back ⟨i + 1, _, _, (by omega), rfl, rfl, rfl, rfl⟩ qI (.cons (t := 24) rfl <| .cons (t := 6) rfl <| SubK.nil _) (.cons (t := 1) rfl <| .cons (t := 5) rfl <| .cons (t := 23) rfl <| SubK.nil _) qD qD qF
  · try simp only [decide_eq_true_eq, decide_eq_false_iff_not, Bool.not_eq_true', Bool.not_eq_false', Bool.and_eq_true, Bool.or_eq_true] at h25
    obtain rfl : n = i := by omega
    refine T.exit ?_
    refine T.thenX ?_
    refine T.thenX ?_
    refine T.blkX ?_
    refine T.thenN ?_
    refine T.seq ?_
    refine T.ownRsl (rows := (knownF n).map e3) qP ?_
    refine T.region ?_
    refine L.loadA rfl ag27 rfl qN ?_
    refine L.move rfl rfl ?_
    refine L.call rfl (evs.cons rfl <| evs.cons rfl <| evs.cons rfl <| evs.nil) qD qS (snew_spec (g := nmF s) (o := 0) (ns := knownF n) hnl (by omega)) ?_
    rintro _ _ _ ⟨sb, sm1, sm2, rfl, rfl, rfl⟩
    refine L.norm qA qA ?_
    refine L.assign rfl rfl ?_
    refine L.nil ?_
    refine T.thenN ?_
    refine T.seq ?_
    refine T.region ?_
    refine L.makeMap iK iK rfl (fun aw => ?_)
    refine L.assign rfl rfl ?_
    refine L.nil ?_
    refine T.thenN ?_
    refine T.seq ?_
    refine T.seq ?_
    have hfst := SI.first (n := n) (by omega)
    refine T.region ?_
    refine L.move rfl rfl ?_
    refine L.nil ?_
    refine T.thenN ?_
    refine T.block ?_
    refine T.loop (fun K' D' M' μ => ∃ (t : Nat) (lo : OfM) (lw : List (Int × Int)), (t ≤ 320 ∧ SI n t lo lw) ∧ K' = [(37, .int .i64 t)] ∧ D' = [] ∧ M' = [mp sm1 iK oneV lo, mp sm2 iK iK [], mp aw iK iK lw] ∧ μ = 320 - t) (.cons (t := 1) rfl <| .cons (t := 8) rfl <| .cons (t := 9) rfl <| SubK.nil _) (⟨0, _, [], ⟨by omega, hfst⟩, rfl, rfl, rfl, rfl⟩) (.cons (t := 37) rfl <| SubK.nil _) qD qS ?_
    rintro K1 D1 M1 m1 ⟨t, lo, lw, ⟨ht, hI⟩, rfl, rfl, rfl, rfl⟩
    refine T.norm3 qA qA qA ?_
    refine T.seq ?_
    refine T.region ?_
    refine L.ltI rfl rfl rfl ?_
    refine L.nil ?_
    refine T.thenN ?_
    refine T.seq ?_
    refine T.cond rfl (fun h38 => ?_) (fun h38 => ?_)
    · try simp only [decide_eq_true_eq, decide_eq_false_iff_not, Bool.not_eq_true', Bool.not_eq_false', Bool.and_eq_true, Bool.or_eq_true] at h38
      refine T.skip ?_
      refine T.thenN ?_
      refine T.seq ?_
      refine T.block ?_
      refine T.seq ?_
      refine T.region ?_
      refine L.move rfl rfl ?_
      refine L.assign rfl rfl ?_
      refine L.nil ?_
      refine T.thenN ?_
      refine T.seq ?_
      refine T.region ?_
      refine L.move rfl rfl ?_
      refine L.move rfl rfl ?_
      refine L.call rfl (evs.cons rfl <| evs.cons rfl <| evs.nil) qD qS (ask_spec (g := nmF s) (o := 0) (m1 := sm1) (m2 := sm2) (lo := lo) (now := (t : Int)) hnl (by have := hI.len; omega) (fun p hp => (hI.st p hp).2) (by omega)) ?_
      rintro _ _ _ ⟨la, ln, lc, ys, out, l2, rfl, hS, hA, hol, rfl, rfl⟩
      refine L.norm qA qA ?_
      refine L.lenSl rfl Try.underlying22 rfl ?_
      refine L.move rfl rfl ?_
      refine L.nil ?_
      refine T.ownRsl (rows := out.map e3) qP ?_
      have hask := fun lw2 => SI.ask (lw2 := lw2) hI (by omega) hS hA
      have hln : ln ≤ 3 := by have h5 := (ask_of hI.nd hS hA).2.2.2.1; omega
      refine T.thenN ?_
      refine T.block ?_
      refine T.loop (fun K' D' M' μ => ∃ (j : Nat) (lwj : List (Int × Int)), (j ≤ ln ∧ ∀ q, look lwj q = if q ∈ out.take j then some 1 else look lw q) ∧ K' = [(44, .int .i64 j)] ∧ D' = [] ∧ M' = [mp aw iK iK lwj] ∧ μ = ln - j) (.cons (t := 1) rfl <| .cons (t := 8) rfl <| .cons (t := 9) rfl <| .cons (t := 37) rfl <| .cons (t := 42) rfl <| .cons (t := 43) rfl <| SubK.nil _) (⟨0, lw, ⟨by omega, fun q => by simp⟩, rfl, rfl, rfl, rfl⟩) (.cons (t := 44) rfl <| SubK.nil _) qD qS ?_
      rintro K1 D1 M1 m1 ⟨j, lwj, ⟨hj, hJ⟩, rfl, rfl, rfl, rfl⟩
      refine T.norm3 qA qA qA ?_
      refine T.seq ?_
      refine T.region ?_
      refine L.ltI rfl rfl rfl ?_
      refine L.nil ?_
      refine T.thenN ?_
      refine T.seq ?_
      refine T.cond rfl (fun h45 => ?_) (fun h45 => ?_)
      · try simp only [decide_eq_true_eq, decide_eq_false_iff_not, Bool.not_eq_true', Bool.not_eq_false', Bool.and_eq_true, Bool.or_eq_true] at h45
        refine T.skip ?_
        refine T.thenN ?_
        refine T.seq ?_
        refine T.block ?_
        refine T.seq ?_
        have hgj : out[j]? = some (gd out j) := gd_get (by omega)
        obtain ⟨k, hkk⟩ : ∃ k, k = gd out j := ⟨_, rfl⟩
        rw [← hkk] at hgj
        obtain ⟨hv0, hstep⟩ := ask_step (hask lwj).1 (hask lwj).2.1 hgj hJ
        refine T.region ?_
        refine L.idx (i := j) rfl Try.underlying22 sz3 rfl rfl qM (by first | rfl | omega | (simp; done)) qG (fun b46 o46 => ?_)
        refine L.load rfl sc3 rfl qC ?_
        refine L.assign rfl rfl ?_
        refine L.nil ?_
        refine T.thenN ?_
        refine T.region ?_
        refine L.move rfl rfl ?_
        refine L.move rfl rfl ?_
        refine L.lookup1 rfl Try.underlying28 kt3 zv3 rfl rfl qM ?_
        refine L.known (t := 50) (u := .int .i64 ((look lwj k).getD 0)) rfl (by cases look lwj k <;> rfl) ?_
        refine L.addN rfl rfl rfl (by omega) ?_
        refine L.mapUpdate (kenc := iK) (venc := iK) (l := lwj) (k := k) (v := (look lwj k).getD 0 + 1) Try.underlying28 kt3 rfl rfl rfl rfl qP ?_
        refine L.nil ?_
        refine T.blkN ?_
        refine T.thenN ?_
        refine T.region ?_
        refine L.addN rfl rfl rfl (by omega) ?_
        refine L.move rfl rfl ?_
        refine L.nil ?_
        refine T.thenN ?_
        exact T.back ⟨j + 1, _, ⟨by omega, hstep⟩, rfl, rfl, rfl, rfl⟩ qI (.cons (t := 44) rfl <| SubK.nil _) (.cons (t := 1) rfl <| .cons (t := 8) rfl <| .cons (t := 9) rfl <| .cons (t := 37) rfl <| .cons (t := 42) rfl <| .cons (t := 43) rfl <| SubK.nil _) qD qD qF
      · try simp only [decide_eq_true_eq, decide_eq_false_iff_not, Bool.not_eq_true', Bool.not_eq_false', Bool.and_eq_true, Bool.or_eq_true] at h45
        obtain rfl : j = ln := by omega
        rw [List.take_of_length_le (by omega)] at hJ
        refine T.exit ?_
        refine T.thenX ?_
        refine T.thenX ?_
        refine T.blkX ?_
        refine T.blkN ?_
        refine T.thenN ?_
        refine T.region ?_
        refine L.addN rfl rfl rfl (by omega) ?_
        refine L.move rfl rfl ?_
        refine L.nil ?_
        refine T.thenN ?_
        exact T.back ⟨t + 1, l2, lwj, ⟨by omega, (hask lwj).2.2 hJ⟩, rfl, rfl, rfl, rfl⟩ qI (.cons (t := 37) rfl <| SubK.nil _) (.cons (t := 1) rfl <| .cons (t := 8) rfl <| .cons (t := 9) rfl <| SubK.nil _) qD qD qF
    · try simp only [decide_eq_true_eq, decide_eq_false_iff_not, Bool.not_eq_true', Bool.not_eq_false', Bool.and_eq_true, Bool.or_eq_true] at h38
      obtain rfl : t = 320 := by omega
      refine T.exit ?_
      refine T.thenX ?_
      refine T.thenX ?_
      refine T.blkX ?_
      refine T.thenN ?_
      refine T.seq ?_
      refine T.seq ?_
      refine T.mpNodup (kenc := iK) (venc := iK) (b := aw) qM (fun hndw => ?_)
      refine T.region ?_
      refine L.move rfl rfl ?_
      refine L.range rfl Try.underlying28 rfl qP (fun it => ?_)
      refine L.nil ?_
      refine T.thenN ?_
      refine T.block ?_
      refine T.loop (fun K' D' M' μ => ∃ (rest : List Int) (cur : Option Int), K' = [] ∧ D' = [] ∧ M' = [mpi aw it iK iK lw rest cur] ∧ μ = rest.length) (.cons (t := 1) rfl <| .cons (t := 8) rfl <| .cons (t := 9) rfl <| .cons (t := 55) rfl <| SubK.nil _) (⟨_, _, rfl, rfl, rfl, rfl⟩) (SubK.nil _) qD qS ?_
      rintro K1 D1 M1 m1 ⟨rest, cur, rfl, rfl, rfl, rfl⟩
      refine T.norm3 qA qA qA ?_
      refine T.seq ?_
      refine T.region ?_
      refine L.next rfl rfl qP (fun hre => ?_) (fun k v rs hpe hkv => ?_)
      · skip
        skip
        refine L.extract rfl rfl rfl ?_
        refine L.nil ?_
        refine T.thenN ?_
        refine T.seq ?_
        refine T.condF rfl rfl ?_
        refine T.exit ?_
        refine T.thenX ?_
        refine T.thenX ?_
        refine T.blkX ?_
        refine T.thenN ?_
        refine T.seq ?_
        subst hre
        refine T.mpiMp qP ?_
        have hdead := hI.dead hn40 hndw
        refine T.region ?_
        refine L.move rfl rfl ?_
        refine L.lenMap (l := lw) rfl Try.underlying28 rfl qM ?_
        refine L.move rfl rfl ?_
        refine L.eqI rfl rfl rfl ?_
        refine L.move rfl rfl ?_
        refine L.known (t := 66) rfl (show _ = Value.bool true from congrArg Value.bool (decide_eq_true (by have := hdead.2; omega))) ?_
        refine L.guardT (dj := 66) rfl rfl rfl ?_
        refine L.move rfl rfl ?_
        refine L.guardT (dj := 66) rfl rfl rfl ?_
        refine L.call rfl (evs.cons rfl <| evs.nil) qD qS (over_spec (g := nmF s) (o := 0) (m1 := sm1) (m2 := sm2) (lo := lo) hnl (by have := hI.len; omega)) ?_
        rintro _ _ _ ⟨ys1, rfl, hs1, rfl, rfl⟩
        refine L.norm qA qA ?_
        obtain rfl := sorted0 hs1 hdead.1
        refine L.pickT rfl rfl rfl ?_
        refine L.move rfl rfl ?_
        refine L.known (t := 70) rfl (show _ = Value.bool true from rfl) ?_
        refine L.guardT (dj := 70) rfl rfl rfl ?_
        refine L.move rfl rfl ?_
        refine L.guardT (dj := 70) rfl rfl rfl ?_
        refine L.call rfl (evs.cons rfl <| evs.nil) qD qS (nearest_spec (g := nmF s) (o := 0) (m1 := sm1) (m2 := sm2) (lo := lo) hnl (by have := hI.len; omega)) ?_
        rintro _ _ _ ⟨na, nn, nc, ys2, rfl, hs2, hnn, rfl, rfl⟩
        refine L.norm qA qA ?_
        obtain rfl := sorted0 hs2 hdead.1
        refine L.guardT (dj := 70) rfl rfl rfl ?_
        refine L.lenSl rfl Try.underlying22 rfl ?_
        refine L.guardT (dj := 70) rfl rfl rfl ?_
        refine L.eqI rfl rfl rfl ?_
        refine L.pickT rfl rfl rfl ?_
        refine L.move rfl rfl ?_
        refine L.known (t := 76) rfl (show _ = Value.bool true from congrArg Value.bool (decide_eq_true (by rw [← hnn]; rfl))) ?_
        refine L.guardT (dj := 76) rfl rfl rfl ?_
        refine L.move rfl rfl ?_
        refine L.guardT (dj := 76) rfl rfl rfl ?_
        refine L.call rfl (evs.cons rfl <| evs.nil) qD qS (holders_spec (g := nmF s) (o := 0) (m1 := sm1) (m2 := sm2) (lh := []) hnl (by decide)) ?_
        rintro _ _ _ ⟨ha, hn_, hc, xs2, rfl, hp2, hx2, rfl, rfl⟩
        refine L.norm qA qA ?_
        obtain rfl : xs2 = [] := hp2.eq_nil
        refine L.guardT (dj := 76) rfl rfl rfl ?_
        refine L.lenSl rfl Try.underlying22 rfl ?_
        refine L.guardT (dj := 76) rfl rfl rfl ?_
        refine L.eqI rfl rfl rfl ?_
        refine L.pickT rfl rfl rfl ?_
        refine L.assign rfl rfl ?_
        refine L.nil ?_
        refine T.thenN ?_
        refine T.ret ?_
        exact T.ret1 rfl rfl ⟨congrArg Value.bool (decide_eq_true (by rw [← hx2]; rfl)), rfl, rfl⟩ qD qF
      · skip
        skip
        refine L.extract rfl rfl rfl ?_
        refine L.nil ?_
        refine T.thenN ?_
        refine T.seq ?_
        refine T.condT rfl rfl ?_
        refine T.skip ?_
        refine T.thenN ?_
        refine T.block ?_
        refine T.seq ?_
        refine T.region ?_
        refine L.entry (ent_inj iK_inj hndw hkv) rfl rfl qM hkv ?_
        refine L.extract rfl rfl rfl ?_
        refine L.assign rfl rfl ?_
        refine L.nil ?_
        have hv1 : v = 1 := hI.val hndw hkv
        refine T.thenN ?_
        refine T.seq ?_
        refine T.region ?_
        refine L.move rfl rfl ?_
        refine L.neI rfl rfl rfl ?_
        refine L.nil ?_
        refine T.thenN ?_
        refine T.condF rfl (decide_eq_false (fun h => h hv1)) ?_
        refine T.skip ?_
        refine T.blkN ?_
        refine T.thenN ?_
        exact T.back ⟨rs, some k, rfl, rfl, rfl, rfl⟩ (by have := hpe.length_eq; simp at this; omega) (SubK.nil _) (.cons (t := 1) rfl <| .cons (t := 8) rfl <| .cons (t := 9) rfl <| .cons (t := 55) rfl <| SubK.nil _) qD qD qF
end Cv
