/-
  The walks: names of entries.
-/
import Derived.Test.YtdajpfbgikgkeaaB05
import Derived.Shelf.Strings.IndexAnyAll
import Derived.Shelf.Lay
import Derived.Ground.NamesProg
import Derived.Test.YtdajpfbgikgkeaaProg
import Derived.KernelRfl
set_option maxRecDepth 10000
set_option linter.unusedSimpArgs false
set_option linter.unusedVariables false
namespace Cv
open Go Go.Proofs

end Cv
namespace Go.Proofs
shelf_lay Lays.n153 Nm 153 at Try as Try.laysIA
end Go.Proofs
namespace Cv
open Go Go.Proofs
def RAny (s : List UInt8) : Value → List Asn → List Asn → Prop := fun v D' M' => ∃ (r : Int), v = .int .i64 r ∧ (0 ≤ r ↔ badN s = true) ∧ D' = [] ∧ M' = []
theorem any_long {s : List UInt8} (h8 : 8 < s.length) (hs : s.length ≤ 100000) : Spec Try.prog 93 [S s, S [47, 0]] [] [] (RAny s) where
  fn := IsFn.of Try.func93 rfl (by decide)
  run σ D M w ss := by
    have hz : (Try.prog.info? (Try.laysIA_ren.t 116)).map (fun i => (i.zero, i.size)) = some (some (.agg (Array.replicate 256 (.bool false))), 256) := by kernel_rfl
    have hc := Any.strings_IndexAny_long Try.laysIA (zero_of_info hz).1 (zero_of_info hz).2 ⟨s.toArray⟩ ⟨[47, 0].toArray⟩ w (by decide) h8 (by show s.length < _; omega) (by decide) (fun j b hb => by
      match j, hb with
      | 0, hb => simp at hb; subst hb; decide
      | 1, hb => simp at hb; subst hb; decide
      | j + 2, hb => simp at hb)
    refine hc.mono ?_
    rintro e w' ⟨he, hw⟩
    subst hw
    exact ⟨_, [], [], he, ⟨_, rfl, indexAny_bad, rfl, rfl⟩, ((ss.alloc _).ent (Ent.skip (.refl _)) |>.alloc _).ent (Ent.skip (.refl _))⟩
set_option maxHeartbeats 400000 in
theorem sua_spec {n : Int}  : Spec Try.prog 100 [.int .i64 n] [] [] (fun v D' M' => v = .bool (decide (8 < n)) ∧ D' = [] ∧ M' = []) := by
  refine Spec.intro (n := 5) Try.func100 rfl rfl (by decide) (Nat.le_of_ble_eq_true rfl) rfl (fun _ => qA) (fun _ => qA) ?_
  intro σ D M
  refine T.seq ?_
  refine T.region ?_
  refine L.assign rfl rfl ?_
  refine L.nil ?_
  refine T.thenN ?_
  refine T.seq ?_
  refine T.region ?_
  refine L.move rfl rfl ?_
  refine L.gtI rfl rfl rfl ?_
  refine L.assign rfl rfl ?_
  refine L.nil ?_
  refine T.thenN ?_
  refine T.ret ?_
  exact T.ret1 rfl rfl ⟨congrArg Value.bool (by simp), rfl, rfl⟩ qD qF
set_option maxHeartbeats 400000 in
theorem any_short {s : List UInt8} (h8 : s.length ≤ 8) : Spec Try.prog 93 [S s, S [47, 0]] [] [] (fun v D' M' => ∃ (r : Int), v = .int .i64 r ∧ (0 ≤ r ↔ badN s = true) ∧ D' = [] ∧ M' = []) := by
  refine Spec.intro (n := 55) Try.func93 rfl rfl (by decide) (Nat.le_of_ble_eq_true rfl) rfl (fun _ => qA) (fun _ => qA) ?_
  intro σ D M
  refine T.seq ?_
  refine T.region ?_
  refine L.assign rfl rfl ?_
  refine L.nil ?_
  refine T.thenN ?_
  refine T.seq ?_
  refine T.seq ?_
  refine T.region ?_
  refine L.move rfl rfl ?_
  refine L.eqS rfl rfl rfl ?_
  refine L.nil ?_
  refine T.thenN ?_
  refine T.condF rfl (decide_eq_false (by simp)) ?_
  refine T.skip ?_
  refine T.thenN ?_
  refine T.seq ?_
  refine T.seq ?_
  refine T.region ?_
  refine L.move rfl rfl ?_
  refine L.lenStr rfl Try.underlying9 rfl ?_
  refine L.eqI rfl rfl rfl ?_
  refine L.nil ?_
  refine T.thenN ?_
  refine T.condF rfl (decide_eq_false (by simp)) ?_
  refine T.skip ?_
  refine T.thenN ?_
  refine T.seq ?_
  refine T.seq ?_
  refine T.region ?_
  refine L.move rfl rfl ?_
  refine L.lenStr rfl Try.underlying9 rfl ?_
  refine L.callF rfl (evs.cons rfl <| evs.nil) qD qS (sua_spec) (by rintro u D1 M1 ⟨rfl, rfl, rfl⟩; exact ⟨rfl, _, qA, qF⟩) ?_
  refine L.nil ?_
  refine T.thenN ?_
  refine T.condF rfl (decide_eq_false (by omega)) ?_
  refine T.skip ?_
  refine T.thenN ?_
  refine T.seq ?_
  refine T.seq ?_
  refine T.region ?_
  refine L.move rfl rfl ?_
  refine L.rangeStr rfl Try.underlying9 rfl (fun it => ?_)
  refine L.nil ?_
  refine T.thenN ?_
  refine T.block ?_
  refine T.loop (fun K' D' M' μ => ∃ (p : Nat), (cleanTo s p) ∧ K' = [] ∧ D' = [] ∧ M' = [sit it s p] ∧ μ = s.length - p) (.cons (t := 1) rfl <| .cons (t := 45) rfl <| SubK.nil _) (⟨0, fun j hj => absurd hj (Nat.not_lt_zero _), rfl, rfl, rfl, rfl⟩) (SubK.nil _) qD qS ?_
  rintro K1 D1 M1 m1 ⟨p, hcl, rfl, rfl, rfl, rfl⟩
  refine T.norm3 qA qA qA ?_
  refine T.seq ?_
  refine T.region ?_
  refine L.nextStr rfl rfl qP (fun hre => ?_) (fun hp => ?_)
  · skip
    skip
    refine L.extract rfl rfl rfl ?_
    refine L.nil ?_
    refine T.thenN ?_
    refine T.seq ?_
    refine T.condF rfl rfl ?_
    refine T.exit ?_
    refine T.thenX ?_
    refine T.thenX ?_
    refine T.blkX ?_
    refine T.thenN ?_
    refine T.seq ?_
    refine T.region ?_
    refine L.assign rfl rfl ?_
    refine L.nil ?_
    refine T.thenN ?_
    refine T.ret ?_
    first | exact T.ret1 rfl rfl ⟨_, rfl, ⟨fun _ => hit_step hp h53, fun _ => by omega⟩, rfl, rfl⟩ qD qF | exact T.ret1 rfl rfl ⟨_, rfl, ⟨fun q => absurd q (by decide), fun q => by rw [badN_false hcl (by omega)] at q; cases q⟩, rfl, rfl⟩ qD qF
  · skip
    skip
    refine L.extract rfl rfl rfl ?_
    refine L.nil ?_
    refine T.thenN ?_
    refine T.seq ?_
    refine T.condT rfl rfl ?_
    refine T.skip ?_
    refine T.thenN ?_
    refine T.block ?_
    refine T.seq ?_
    refine T.region ?_
    refine L.extract rfl rfl rfl ?_
    refine L.extract rfl rfl rfl ?_
    refine L.assign rfl rfl ?_
    refine L.assign rfl rfl ?_
    refine L.nil ?_
    refine T.thenN ?_
    refine T.seq ?_
    refine T.region ?_
    refine L.move rfl rfl ?_
    refine L.move rfl rfl ?_
    refine L.call rfl (evs.cons rfl <| evs.cons rfl <| evs.nil) qD qS (ir_spec (l := [47, 0]) (r := (decF s p).1) (by intro b hb; simp at hb; rcases hb with rfl | rfl <;> decide) dec_ok (by decide) (decF_lt).1) ?_
    rintro _ _ _ ⟨rfl, rfl, rfl⟩
    refine L.norm qA qA ?_
    refine L.geI rfl rfl rfl ?_
    refine L.nil ?_
    refine T.thenN ?_
    refine T.cond rfl (fun h53 => ?_) (fun h53 => ?_)
    · try simp only [decide_eq_true_eq, decide_eq_false_iff_not, Bool.not_eq_true', Bool.not_eq_false', Bool.and_eq_true, Bool.or_eq_true] at h53
      refine T.seq ?_
      refine T.region ?_
      refine L.move rfl rfl ?_
      refine L.assign rfl rfl ?_
      refine L.nil ?_
      refine T.thenN ?_
      refine T.ret ?_
      refine T.blkR ?_
      refine T.thenR ?_
      refine T.blkR ?_
      refine T.thenR ?_
      first | exact T.ret1 rfl rfl ⟨_, rfl, ⟨fun _ => hit_step hp h53, fun _ => by omega⟩, rfl, rfl⟩ qD qF | exact T.ret1 rfl rfl ⟨_, rfl, ⟨fun q => absurd q (by decide), fun q => by rw [badN_false hcl (by omega)] at q; cases q⟩, rfl, rfl⟩ qD qF
    · try simp only [decide_eq_true_eq, decide_eq_false_iff_not, Bool.not_eq_true', Bool.not_eq_false', Bool.and_eq_true, Bool.or_eq_true] at h53
      refine T.skip ?_
      refine T.blkN ?_
      refine T.thenN ?_
      exact T.back ⟨p + (decF s p).2, clean_step hp hcl h53, rfl, rfl, rfl, rfl⟩ (by have := (decF_lt (l := s) (p := p)).2; omega) (SubK.nil _) (.cons (t := 1) rfl <| .cons (t := 45) rfl <| SubK.nil _) qD qD qF
theorem any_spec {s : List UInt8} (hs : s.length ≤ 100000) : Spec Try.prog 93 [S s, S [47, 0]] [] [] (RAny s) := by
  by_cases h8 : s.length ≤ 8
  · exact any_short h8
  · exact any_long (by omega) hs
set_option maxHeartbeats 400000 in
theorem cany_spec {s : List UInt8} (hs : s.length ≤ 100000) : Spec Try.prog 83 [S s, S [47, 0]] [] [] (fun v D' M' => v = .bool (badN s) ∧ D' = [] ∧ M' = []) := by
  refine Spec.intro (n := 9) Try.func83 rfl rfl (by decide) (Nat.le_of_ble_eq_true rfl) rfl (fun _ => qA) (fun _ => qA) ?_
  intro σ D M
  refine T.seq ?_
  refine T.region ?_
  refine L.assign rfl rfl ?_
  refine L.nil ?_
  refine T.thenN ?_
  refine T.seq ?_
  refine T.region ?_
  refine L.move rfl rfl ?_
  refine L.move rfl rfl ?_
  refine L.call rfl (evs.cons rfl <| evs.cons rfl <| evs.nil) qD qS (any_spec hs) ?_
  rintro _ _ _ ⟨r, rfl, hr, rfl, rfl⟩
  refine L.norm qA qA ?_
  refine L.geI rfl rfl rfl ?_
  refine L.assign rfl rfl ?_
  refine L.nil ?_
  refine T.thenN ?_
  refine T.ret ?_
  exact T.ret1 rfl rfl ⟨congrArg Value.bool (by cases hb : badN s <;> simp_all), rfl, rfl⟩ qD qF
set_option maxHeartbeats 400000 in
theorem name_spec {s : List UInt8} (hs : s.length ≤ 100000) : Spec Try.prog 68 [S s] [] [] (fun v D' M' => v = .bool (nameB s) ∧ D' = [] ∧ M' = []) := by
  refine Spec.intro (n := 23) Try.func68 rfl rfl (by decide) (Nat.le_of_ble_eq_true rfl) rfl (fun _ => qA) (fun _ => qA) ?_
  intro σ D M
  refine T.seq ?_
  refine T.region ?_
  refine L.assign rfl rfl ?_
  refine L.nil ?_
  refine T.thenN ?_
  refine T.seq ?_
  refine T.region ?_
  refine L.move rfl rfl ?_
  refine L.neS rfl rfl rfl ?_
  refine L.move rfl rfl ?_
  refine L.part (t := 5) rfl (fun h1 => ?_) (fun h1 => ?_)
  · try simp only [decide_eq_true_eq, decide_eq_false_iff_not, Bool.not_eq_true', Bool.not_eq_false', Bool.and_eq_true, Bool.or_eq_true] at h1
    refine L.guardT (dj := 5) rfl rfl rfl ?_
    refine L.move rfl rfl ?_
    refine L.guardT (dj := 5) rfl rfl rfl ?_
    refine L.lenStr rfl Try.underlying9 rfl ?_
    refine L.guardT (dj := 5) rfl rfl rfl ?_
    refine L.leI rfl rfl rfl ?_
    refine L.pickT rfl rfl rfl ?_
    refine L.move rfl rfl ?_
    refine L.part (t := 10) rfl (fun h2 => ?_) (fun h2 => ?_)
    · try simp only [decide_eq_true_eq, decide_eq_false_iff_not, Bool.not_eq_true', Bool.not_eq_false', Bool.and_eq_true, Bool.or_eq_true] at h2
      refine L.guardT (dj := 10) rfl rfl rfl ?_
      refine L.move rfl rfl ?_
      refine L.guardT (dj := 10) rfl rfl rfl ?_
      refine L.neS rfl rfl rfl ?_
      refine L.pickT rfl rfl rfl ?_
      refine L.move rfl rfl ?_
      refine L.part (t := 14) rfl (fun h3 => ?_) (fun h3 => ?_)
      · try simp only [decide_eq_true_eq, decide_eq_false_iff_not, Bool.not_eq_true', Bool.not_eq_false', Bool.and_eq_true, Bool.or_eq_true] at h3
        refine L.guardT (dj := 14) rfl rfl rfl ?_
        refine L.move rfl rfl ?_
        refine L.guardT (dj := 14) rfl rfl rfl ?_
        refine L.neS rfl rfl rfl ?_
        refine L.pickT rfl rfl rfl ?_
        refine L.move rfl rfl ?_
        refine L.part (t := 18) rfl (fun h4 => ?_) (fun h4 => ?_)
        · try simp only [decide_eq_true_eq, decide_eq_false_iff_not, Bool.not_eq_true', Bool.not_eq_false', Bool.and_eq_true, Bool.or_eq_true] at h4
          refine L.guardT (dj := 18) rfl rfl rfl ?_
          refine L.move rfl rfl ?_
          refine L.guardT (dj := 18) rfl rfl rfl ?_
          refine L.call rfl (evs.cons rfl <| evs.cons rfl <| evs.nil) qD qS (cany_spec hs) ?_
          rintro _ _ _ ⟨rfl, rfl, rfl⟩
          refine L.norm qA qA ?_
          refine L.guardT (dj := 18) rfl rfl rfl ?_
          refine L.notB rfl rfl ?_
          refine L.pickT rfl rfl rfl ?_
          refine L.assign rfl rfl ?_
          refine L.nil ?_
          refine T.thenN ?_
          refine T.ret ?_
          exact T.ret1 rfl rfl ⟨congrArg Value.bool (by unfold nameB; simp_all <;> omega), rfl, rfl⟩ qD qF
        · try simp only [decide_eq_true_eq, decide_eq_false_iff_not, Bool.not_eq_true', Bool.not_eq_false', Bool.and_eq_true, Bool.or_eq_true] at h4
          refine L.guardF (dj := 18) (c := false) rfl rfl rfl rfl rfl (by decide) ?_
          refine L.guardF (dj := 18) (c := false) rfl rfl rfl rfl rfl (by decide) ?_
          refine L.guardF (dj := 18) (c := false) rfl rfl rfl rfl rfl (by decide) ?_
          refine L.pickF rfl rfl rfl ?_
          refine L.assign rfl rfl ?_
          refine L.nil ?_
          refine T.thenN ?_
          refine T.ret ?_
          exact T.ret1 rfl rfl ⟨congrArg Value.bool (by unfold nameB; simp_all <;> omega), rfl, rfl⟩ qD qF
      · try simp only [decide_eq_true_eq, decide_eq_false_iff_not, Bool.not_eq_true', Bool.not_eq_false', Bool.and_eq_true, Bool.or_eq_true] at h3
        refine L.guardF (dj := 14) (c := false) rfl rfl rfl rfl rfl (by decide) ?_
        refine L.guardF (dj := 14) (c := false) rfl rfl rfl rfl rfl (by decide) ?_
        refine L.pickF rfl rfl rfl ?_
        refine L.move rfl rfl ?_
        refine L.guardF (dj := 18) (c := false) rfl rfl rfl rfl rfl (by decide) ?_
        refine L.guardF (dj := 18) (c := false) rfl rfl rfl rfl rfl (by decide) ?_
        refine L.guardF (dj := 18) (c := false) rfl rfl rfl rfl rfl (by decide) ?_
        refine L.pickF rfl rfl rfl ?_
        refine L.assign rfl rfl ?_
        refine L.nil ?_
        refine T.thenN ?_
        refine T.ret ?_
        exact T.ret1 rfl rfl ⟨congrArg Value.bool (by unfold nameB; simp_all <;> omega), rfl, rfl⟩ qD qF
    · try simp only [decide_eq_true_eq, decide_eq_false_iff_not, Bool.not_eq_true', Bool.not_eq_false', Bool.and_eq_true, Bool.or_eq_true] at h2
      refine L.guardF (dj := 10) (c := false) rfl rfl rfl rfl rfl (by decide) ?_
      refine L.guardF (dj := 10) (c := false) rfl rfl rfl rfl rfl (by decide) ?_
      refine L.pickF rfl rfl rfl ?_
      refine L.move rfl rfl ?_
      refine L.guardF (dj := 14) (c := false) rfl rfl rfl rfl rfl (by decide) ?_
      refine L.guardF (dj := 14) (c := false) rfl rfl rfl rfl rfl (by decide) ?_
      refine L.pickF rfl rfl rfl ?_
      refine L.move rfl rfl ?_
      refine L.guardF (dj := 18) (c := false) rfl rfl rfl rfl rfl (by decide) ?_
      refine L.guardF (dj := 18) (c := false) rfl rfl rfl rfl rfl (by decide) ?_
      refine L.guardF (dj := 18) (c := false) rfl rfl rfl rfl rfl (by decide) ?_
      refine L.pickF rfl rfl rfl ?_
      refine L.assign rfl rfl ?_
      refine L.nil ?_
      refine T.thenN ?_
      refine T.ret ?_
      exact T.ret1 rfl rfl ⟨congrArg Value.bool (by unfold nameB; simp_all <;> omega), rfl, rfl⟩ qD qF
  · try simp only [decide_eq_true_eq, decide_eq_false_iff_not, Bool.not_eq_true', Bool.not_eq_false', Bool.and_eq_true, Bool.or_eq_true] at h1
    refine L.guardF (dj := 5) (c := false) rfl rfl rfl rfl rfl (by decide) ?_
    refine L.guardF (dj := 5) (c := false) rfl rfl rfl rfl rfl (by decide) ?_
    refine L.guardF (dj := 5) (c := false) rfl rfl rfl rfl rfl (by decide) ?_
    refine L.pickF rfl rfl rfl ?_
    refine L.move rfl rfl ?_
    refine L.guardF (dj := 10) (c := false) rfl rfl rfl rfl rfl (by decide) ?_
    refine L.guardF (dj := 10) (c := false) rfl rfl rfl rfl rfl (by decide) ?_
    refine L.pickF rfl rfl rfl ?_
    refine L.move rfl rfl ?_
    refine L.guardF (dj := 14) (c := false) rfl rfl rfl rfl rfl (by decide) ?_
    refine L.guardF (dj := 14) (c := false) rfl rfl rfl rfl rfl (by decide) ?_
    refine L.pickF rfl rfl rfl ?_
    refine L.move rfl rfl ?_
    refine L.guardF (dj := 18) (c := false) rfl rfl rfl rfl rfl (by decide) ?_
    refine L.guardF (dj := 18) (c := false) rfl rfl rfl rfl rfl (by decide) ?_
    refine L.guardF (dj := 18) (c := false) rfl rfl rfl rfl rfl (by decide) ?_
    refine L.pickF rfl rfl rfl ?_
    refine L.assign rfl rfl ?_
    refine L.nil ?_
    refine T.thenN ?_
    refine T.ret ?_
    exact T.ret1 rfl rfl ⟨congrArg Value.bool (by unfold nameB; simp_all <;> omega), rfl, rfl⟩ qD qF
set_option maxHeartbeats 400000 in
theorem sli_spec {l : List UInt8} {c : UInt8}  : Spec Try.prog 92 [S l, S [c]] [] [] (fun v D' M' => v = .int .i64 (ibF l c) ∧ D' = [] ∧ M' = []) := by
  refine Spec.intro (n := 143) Try.func92 rfl rfl (by decide) (Nat.le_of_ble_eq_true rfl) rfl (fun _ => qA) (fun _ => qA) ?_
  intro σ D M
  refine T.seq ?_
  refine T.region ?_
  refine L.assign rfl rfl ?_
  refine L.nil ?_
  refine T.thenN ?_
  refine T.seq ?_
  refine T.region ?_
  refine L.move rfl rfl ?_
  refine L.lenStr rfl Try.underlying9 rfl ?_
  refine L.assign rfl rfl ?_
  refine L.nil ?_
  refine T.thenN ?_
  refine T.seq ?_
  refine T.block ?_
  refine T.seq ?_
  refine T.region ?_
  refine L.move rfl rfl ?_
  refine L.eqI rfl rfl rfl ?_
  refine L.move rfl rfl ?_
  refine L.known (t := 19) rfl (show _ = Value.bool false from rfl) ?_
  refine L.guardT (dj := 19) rfl rfl rfl ?_
  refine L.move rfl rfl ?_
  refine L.guardT (dj := 19) rfl rfl rfl ?_
  refine L.move rfl rfl ?_
  refine L.guardT (dj := 19) rfl rfl rfl ?_
  refine L.eqS rfl rfl rfl ?_
  refine L.pickF rfl rfl rfl ?_
  refine L.assign rfl rfl ?_
  refine L.nil ?_
  refine T.thenN ?_
  refine T.cond rfl (fun h16 => ?_) (fun h16 => ?_)
  · try simp only [decide_eq_true_eq, decide_eq_false_iff_not, Bool.not_eq_true', Bool.not_eq_false', Bool.and_eq_true, Bool.or_eq_true] at h16
    refine T.seq ?_
    refine T.region ?_
    refine L.assign rfl rfl ?_
    refine L.nil ?_
    refine T.thenN ?_
    refine T.ret ?_
    refine T.blkR ?_
    refine T.thenR ?_
    exact T.ret1 rfl rfl ⟨by subst h16; simp [ibF, Go.Lib.indexByte], rfl, rfl⟩ qD qF
  · try simp only [decide_eq_true_eq, decide_eq_false_iff_not, Bool.not_eq_true', Bool.not_eq_false', Bool.and_eq_true, Bool.or_eq_true] at h16
    refine T.seq ?_
    refine T.region ?_
    refine L.move rfl rfl ?_
    refine L.eqI rfl rfl rfl ?_
    refine L.assign rfl rfl ?_
    refine L.nil ?_
    refine T.thenN ?_
    refine T.condT rfl (decide_eq_true (by simp)) ?_
    refine T.seq ?_
    refine T.region ?_
    refine L.move rfl rfl ?_
    refine L.move rfl rfl ?_
    refine L.indexS (i := 0) rfl Try.underlying9 rfl rfl (by first | rfl | omega | (simp; done)) (by rfl) ?_
    refine L.callF rfl (evs.cons rfl <| evs.cons rfl <| evs.nil) qD qS (slib_spec) (by rintro u D1 M1 ⟨rfl, rfl, rfl⟩; exact ⟨rfl, _, qA, qF⟩) ?_
    refine L.assign rfl rfl ?_
    refine L.nil ?_
    refine T.thenN ?_
    refine T.ret ?_
    refine T.blkR ?_
    refine T.thenR ?_
    exact T.ret1 rfl rfl ⟨rfl, rfl, rfl⟩ qD qF
set_option maxHeartbeats 400000 in
theorem sidx_spec {l : List UInt8} {c : UInt8}  : Spec Try.prog 82 [S l, S [c]] [] [] (fun v D' M' => v = .int .i64 (ibF l c) ∧ D' = [] ∧ M' = []) := by
  refine Spec.intro (n := 8) Try.func82 rfl rfl (by decide) (Nat.le_of_ble_eq_true rfl) rfl (fun _ => qA) (fun _ => qA) ?_
  intro σ D M
  refine T.seq ?_
  refine T.region ?_
  refine L.assign rfl rfl ?_
  refine L.nil ?_
  refine T.thenN ?_
  refine T.seq ?_
  refine T.region ?_
  refine L.move rfl rfl ?_
  refine L.move rfl rfl ?_
  refine L.call rfl (evs.cons rfl <| evs.cons rfl <| evs.nil) qD qS (sli_spec) ?_
  rintro _ _ _ ⟨rfl, rfl, rfl⟩
  refine L.norm qA qA ?_
  refine L.assign rfl rfl ?_
  refine L.nil ?_
  refine T.thenN ?_
  refine T.ret ?_
  exact T.ret1 rfl rfl ⟨rfl, rfl, rfl⟩ qD qF
set_option maxHeartbeats 400000 in
theorem scont_spec {l : List UInt8} {c : UInt8}  : Spec Try.prog 67 [S l, S [c]] [] [] (fun v D' M' => v = .bool (decide (0 ≤ ibF l c)) ∧ D' = [] ∧ M' = []) := by
  refine Spec.intro (n := 9) Try.func67 rfl rfl (by decide) (Nat.le_of_ble_eq_true rfl) rfl (fun _ => qA) (fun _ => qA) ?_
  intro σ D M
  refine T.seq ?_
  refine T.region ?_
  refine L.assign rfl rfl ?_
  refine L.nil ?_
  refine T.thenN ?_
  refine T.seq ?_
  refine T.region ?_
  refine L.move rfl rfl ?_
  refine L.move rfl rfl ?_
  refine L.call rfl (evs.cons rfl <| evs.cons rfl <| evs.nil) qD qS (sidx_spec) ?_
  rintro _ _ _ ⟨rfl, rfl, rfl⟩
  refine L.norm qA qA ?_
  refine L.geI rfl rfl rfl ?_
  refine L.assign rfl rfl ?_
  refine L.nil ?_
  refine T.thenN ?_
  refine T.ret ?_
  exact T.ret1 rfl rfl ⟨rfl, rfl, rfl⟩ qD qF
end Cv
