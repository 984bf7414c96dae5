/-
  The walks: Check.
-/
import Derived.Test.YtcilkdnbbebjgaaGreatD05
import Derived.Test.YtcilkdnbbebjgaaGreatProg
import Derived.KernelRfl
set_option linter.unusedVariables false
set_option linter.unusedSimpArgs false
set_option linter.unusedSectionVars false
set_option maxRecDepth 10000
namespace Cv
open Go Go.Proofs

def ChkS (x : Tr) : Prop := ∀ (a : Option Addr) (len cap : Nat) (d : Nat), (1 ≤ d) → (d + x.count ≤ 1000000) → (TAll Sm x) → (x.t.length ≤ 20000) → Spec Tryz.prog 101 [.agg (iRow x a len cap).toArray, .int .i64 (d : Int)] [rtr x (eRow x a len cap)] [] (fun v D' M' => v = .tuple #[.int .i64 ((chkT x d).1 : Int), .int .i64 (chkT x d).2] ∧ D' = [] ∧ M' = [])
set_option maxHeartbeats 400000 in
theorem chk_spec_step (x : Tr) (ih : ∀ y ∈ x.ks, ChkS y) (a : Option Addr) (len cap : Nat) (d : Nat) (hd : 1 ≤ d) (hc : d + x.count ≤ 1000000) (hs : TAll Sm x) (htl : x.t.length ≤ 20000) : Spec Tryz.prog 101 [.agg (iRow x a len cap).toArray, .int .i64 (d : Int)] [rtr x (eRow x a len cap)] [] (fun v D' M' => v = .tuple #[.int .i64 ((chkT x d).1 : Int), .int .i64 (chkT x d).2] ∧ D' = [] ∧ M' = []) := by
 refine Spec.intro (n := 114) Tryz.func101 rfl rfl (by decide) (Nat.le_of_ble_eq_true rfl) rfl (fun _ => qA) (fun _ => qA) ?_
 intro σ D M
 refine T.trOpenR qM (fun rows hkl hrl => ?_)
 subst hkl
 refine T.kidRows qM (fun hrw => ?_)
 have hz0 : (0 ≤ ibF x.t 0) ↔ (0 : UInt8) ∈ x.t := ibF_ge
 have hcx := x.count_eq
 have hcl := count_le_len x.ks
 refine T.seq (T.region ?_)
 refine L.box rfl rfl rfl (fun b2 => ?_)
 refine L.assign rfl rfl ?_
 refine L.assign rfl rfl ?_
 refine L.nil ?_
 refine T.freeze (A := cl b2 24 [.int .i64 x.k, S x.t, .slice a x.ks.length cap]) qP ?_
 refine T.thenN (T.seq (T.block (T.seq ?_)))
 refine T.cutC (fun K' D' M' => ∃ (b1 : Bool), (b1 = true ↔ (x.k < 1 ∨ 4 < x.k)) ∧ K' = [(11, .bool b1)] ∧ D' = [] ∧ M' = []) (M0 := []) (.cons (t := 1) rfl <| .cons (t := 2) rfl <| SubK.nil _) qS ?_ ?_
 ·skip
  refine T.region ?_
  first | refine L.field0 rfl fo24_0 rfl ?_ | refine L.field rfl fo24_0 rfl ?_
  refine L.load rfl sc3 rfl qC ?_
  refine L.ltI rfl rfl rfl ?_
  refine L.move rfl rfl ?_
  refine L.part (t := 15) rfl (fun h1 => ?_) (fun h1 => ?_)
  ·try simp only [dq] at h1
   refine L.guardF (dj := 15) (c := true) rfl rfl rfl rfl rfl (by decide) ?_
   refine L.guardF (dj := 15) (c := true) rfl rfl rfl rfl rfl (by decide) ?_
   refine L.guardF (dj := 15) (c := true) rfl rfl rfl rfl rfl (by decide) ?_
   refine L.pickT rfl rfl rfl ?_
   refine L.assign rfl rfl ?_
   refine L.nil ?_
   refine T.thenN ?_
   exact T.toJoin ⟨_, (by simp_all <;> omega), rfl, rfl, rfl⟩ (.cons (t := 11) rfl <| SubK.nil _) (.cons (t := 1) rfl <| .cons (t := 2) rfl <| SubK.nil _) qD qD qF
  ·try simp only [dq] at h1
   refine L.guardT (dj := 15) rfl rfl rfl ?_
   first | refine L.field0 rfl fo24_0 rfl ?_ | refine L.field rfl fo24_0 rfl ?_
   refine L.guardT (dj := 15) rfl rfl rfl ?_
   refine L.load rfl sc3 rfl qC ?_
   refine L.guardT (dj := 15) rfl rfl rfl ?_
   refine L.gtI rfl rfl rfl ?_
   refine L.pickF rfl rfl rfl ?_
   refine L.assign rfl rfl ?_
   refine L.nil ?_
   refine T.thenN ?_
   exact T.toJoin ⟨_, (by simp_all <;> omega), rfl, rfl, rfl⟩ (.cons (t := 11) rfl <| SubK.nil _) (.cons (t := 1) rfl <| .cons (t := 2) rfl <| SubK.nil _) qD qD qF
 rintro _ _ _ ⟨b1, hb1, rfl, rfl, rfl⟩
 refine T.norm3 qA qA qA ?_
 refine T.thenN ?_
 refine T.cond rfl (fun h11 => ?_) (fun h11 => ?_)
 ·try simp only [dq] at h11
  refine T.seq (T.region ?_)
  refine L.assign rfl rfl ?_
  refine L.assign rfl rfl ?_
  refine L.nil ?_
  refine T.thenN (T.ret (T.blkR ?_))
  refine T.thenR ?_
  exact T.ret2 rfl rfl rfl ⟨by rw [chk_bad (own0_1 (hb1.1 h11)) (by decide)]; rfl, rfl, rfl⟩ qD qF
 ·try simp only [dq] at h11
  have hn1 : ¬ (x.k < 1 ∨ 4 < x.k) := fun q => by rw [hb1.2 q] at h11; cases h11
  refine T.seq (T.seq ?_)
  refine T.cutC (fun K' D' M' => ∃ (b2 : Bool), (b2 = true ↔ (x.k ≠ 4 ∧ 0 < x.ks.length)) ∧ K' = [(20, .bool b2)] ∧ D' = [] ∧ M' = []) (M0 := []) (.cons (t := 1) rfl <| .cons (t := 2) rfl <| SubK.nil _) qS ?_ ?_
  ·skip
   refine T.region ?_
   first | refine L.field0 rfl fo24_0 rfl ?_ | refine L.field rfl fo24_0 rfl ?_
   refine L.load rfl sc3 rfl qC ?_
   refine L.neI rfl rfl rfl ?_
   refine L.move rfl rfl ?_
   refine L.part (t := 24) rfl (fun h2 => ?_) (fun h2 => ?_)
   ·try simp only [dq] at h2
    refine L.guardT (dj := 24) rfl rfl rfl ?_
    first | refine L.field0 rfl fo24_2 rfl ?_ | refine L.field rfl fo24_2 rfl ?_
    refine L.guardT (dj := 24) rfl rfl rfl ?_
    refine L.load rfl sc22 rfl qC ?_
    refine L.guardT (dj := 24) rfl rfl rfl ?_
    refine L.lenSl rfl Tryz.underlying22 rfl ?_
    refine L.guardT (dj := 24) rfl rfl rfl ?_
    refine L.gtI rfl rfl rfl ?_
    refine L.pickT rfl rfl rfl ?_
    refine L.assign rfl rfl ?_
    refine L.nil ?_
    refine T.thenN ?_
    exact T.toJoin ⟨_, (by simp_all <;> omega), rfl, rfl, rfl⟩ (.cons (t := 20) rfl <| SubK.nil _) (.cons (t := 1) rfl <| .cons (t := 2) rfl <| SubK.nil _) qD qD qF
   ·try simp only [dq] at h2
    refine L.guardF (dj := 24) (c := false) rfl rfl rfl rfl rfl (by decide) ?_
    refine L.guardF (dj := 24) (c := false) rfl rfl rfl rfl rfl (by decide) ?_
    refine L.guardF (dj := 24) (c := false) rfl rfl rfl rfl rfl (by decide) ?_
    refine L.guardF (dj := 24) (c := false) rfl rfl rfl rfl rfl (by decide) ?_
    refine L.pickF rfl rfl rfl ?_
    refine L.assign rfl rfl ?_
    refine L.nil ?_
    refine T.thenN ?_
    exact T.toJoin ⟨_, (by simp_all <;> omega), rfl, rfl, rfl⟩ (.cons (t := 20) rfl <| SubK.nil _) (.cons (t := 1) rfl <| .cons (t := 2) rfl <| SubK.nil _) qD qD qF
  rintro _ _ _ ⟨b2, hb2, rfl, rfl, rfl⟩
  refine T.norm3 qA qA qA ?_
  refine T.thenN ?_
  refine T.cutC (fun K' D' M' => ∃ (b3 : Bool), (b3 = true ↔ ((x.k ≠ 4 ∧ 0 < x.ks.length) ∨ (x.k = 4 ∧ x.t ≠ []) ∨ (x.k = 3 ∧ x.t = []))) ∧ K' = [(20, .bool b3)] ∧ D' = [] ∧ M' = []) (M0 := []) (.cons (t := 1) rfl <| .cons (t := 2) rfl <| SubK.nil _) qS ?_ ?_
  ·skip
   refine T.cond rfl (fun h20 => ?_) (fun h20 => ?_)
   ·try simp only [dq] at h20
    refine T.skip (T.thenN ?_)
    exact T.toJoin ⟨_, (by simp_all <;> omega), rfl, rfl, rfl⟩ (.cons (t := 20) rfl <| SubK.nil _) (.cons (t := 1) rfl <| .cons (t := 2) rfl <| SubK.nil _) qD qD qF
   ·try simp only [dq] at h20
    try (have hn2 : ¬ ((x.k ≠ 4 ∧ decide (0 < x.ks.length) = true) ∨ (x.k = 4 ∧ x.t ≠ []) ∨ (x.k = 3 ∧ x.t = [])) := fun q => by rw [hb3.2 (by simpa using q)] at h20; cases h20)
    refine T.seq ?_
    refine T.cutC (fun K' D' M' => ∃ (b4 : Bool), (b4 = true ↔ (x.k = 4 ∧ x.t ≠ [])) ∧ K' = [(20, .bool b4)] ∧ D' = [] ∧ M' = []) (M0 := []) (.cons (t := 1) rfl <| .cons (t := 2) rfl <| SubK.nil _) qS ?_ ?_
    ·skip
     refine T.region ?_
     first | refine L.field0 rfl fo24_0 rfl ?_ | refine L.field rfl fo24_0 rfl ?_
     refine L.load rfl sc3 rfl qC ?_
     refine L.eqI rfl rfl rfl ?_
     refine L.move rfl rfl ?_
     refine L.part (t := 33) rfl (fun h3 => ?_) (fun h3 => ?_)
     ·try simp only [dq] at h3
      refine L.guardT (dj := 33) rfl rfl rfl ?_
      first | refine L.field0 rfl fo24_1 rfl ?_ | refine L.field rfl fo24_1 rfl ?_
      refine L.guardT (dj := 33) rfl rfl rfl ?_
      refine L.load rfl sc9 rfl qC ?_
      refine L.guardT (dj := 33) rfl rfl rfl ?_
      refine L.neS rfl rfl rfl ?_
      refine L.pickT rfl rfl rfl ?_
      refine L.assign rfl rfl ?_
      refine L.nil ?_
      refine T.thenN ?_
      exact T.toJoin ⟨_, (by simp_all <;> omega), rfl, rfl, rfl⟩ (.cons (t := 20) rfl <| SubK.nil _) (.cons (t := 1) rfl <| .cons (t := 2) rfl <| SubK.nil _) qD qD qF
     ·try simp only [dq] at h3
      refine L.guardF (dj := 33) (c := false) rfl rfl rfl rfl rfl (by decide) ?_
      refine L.guardF (dj := 33) (c := false) rfl rfl rfl rfl rfl (by decide) ?_
      refine L.guardF (dj := 33) (c := false) rfl rfl rfl rfl rfl (by decide) ?_
      refine L.pickF rfl rfl rfl ?_
      refine L.assign rfl rfl ?_
      refine L.nil ?_
      refine T.thenN ?_
      exact T.toJoin ⟨_, (by simp_all <;> omega), rfl, rfl, rfl⟩ (.cons (t := 20) rfl <| SubK.nil _) (.cons (t := 1) rfl <| .cons (t := 2) rfl <| SubK.nil _) qD qD qF
    rintro _ _ _ ⟨b4, hb4, rfl, rfl, rfl⟩
    refine T.norm3 qA qA qA ?_
    refine T.thenN ?_
    refine T.cond rfl (fun h20 => ?_) (fun h20 => ?_)
    ·try simp only [dq] at h20
     refine T.skip (T.thenN ?_)
     exact T.toJoin ⟨_, (by simp_all <;> omega), rfl, rfl, rfl⟩ (.cons (t := 20) rfl <| SubK.nil _) (.cons (t := 1) rfl <| .cons (t := 2) rfl <| SubK.nil _) qD qD qF
    ·try simp only [dq] at h20
     try (have hn2 : ¬ ((x.k ≠ 4 ∧ decide (0 < x.ks.length) = true) ∨ (x.k = 4 ∧ x.t ≠ []) ∨ (x.k = 3 ∧ x.t = [])) := fun q => by rw [hb3.2 (by simpa using q)] at h20; cases h20)
     refine T.region ?_
     first | refine L.field0 rfl fo24_0 rfl ?_ | refine L.field rfl fo24_0 rfl ?_
     refine L.load rfl sc3 rfl qC ?_
     refine L.eqI rfl rfl rfl ?_
     refine L.move rfl rfl ?_
     refine L.part (t := 41) rfl (fun h4 => ?_) (fun h4 => ?_)
     ·try simp only [dq] at h4
      refine L.guardT (dj := 41) rfl rfl rfl ?_
      first | refine L.field0 rfl fo24_1 rfl ?_ | refine L.field rfl fo24_1 rfl ?_
      refine L.guardT (dj := 41) rfl rfl rfl ?_
      refine L.load rfl sc9 rfl qC ?_
      refine L.guardT (dj := 41) rfl rfl rfl ?_
      refine L.eqS rfl rfl rfl ?_
      refine L.pickT rfl rfl rfl ?_
      refine L.assign rfl rfl ?_
      refine L.nil ?_
      refine T.thenN ?_
      exact T.toJoin ⟨_, (by simp_all <;> omega), rfl, rfl, rfl⟩ (.cons (t := 20) rfl <| SubK.nil _) (.cons (t := 1) rfl <| .cons (t := 2) rfl <| SubK.nil _) qD qD qF
     ·try simp only [dq] at h4
      refine L.guardF (dj := 41) (c := false) rfl rfl rfl rfl rfl (by decide) ?_
      refine L.guardF (dj := 41) (c := false) rfl rfl rfl rfl rfl (by decide) ?_
      refine L.guardF (dj := 41) (c := false) rfl rfl rfl rfl rfl (by decide) ?_
      refine L.pickF rfl rfl rfl ?_
      refine L.assign rfl rfl ?_
      refine L.nil ?_
      refine T.thenN ?_
      exact T.toJoin ⟨_, (by simp_all <;> omega), rfl, rfl, rfl⟩ (.cons (t := 20) rfl <| SubK.nil _) (.cons (t := 1) rfl <| .cons (t := 2) rfl <| SubK.nil _) qD qD qF
  rintro _ _ _ ⟨b3, hb3, rfl, rfl, rfl⟩
  refine T.norm3 qA qA qA ?_
  refine T.thenN ?_
  refine T.cond rfl (fun h20 => ?_) (fun h20 => ?_)
  ·try simp only [dq] at h20
   refine T.seq (T.region ?_)
   refine L.assign rfl rfl ?_
   refine L.assign rfl rfl ?_
   refine L.nil ?_
   refine T.thenN (T.ret (T.blkR ?_))
   refine T.thenR ?_
   exact T.ret2 rfl rfl rfl ⟨by rw [chk_bad (own0_2 hn1 (by simpa using hb3.1 h20)) (by decide)]; rfl, rfl, rfl⟩ qD qF
  ·try simp only [dq] at h20
   try (have hn2 : ¬ ((x.k ≠ 4 ∧ decide (0 < x.ks.length) = true) ∨ (x.k = 4 ∧ x.t ≠ []) ∨ (x.k = 3 ∧ x.t = [])) := fun q => by rw [hb3.2 (by simpa using q)] at h20; cases h20)
   refine T.seq ?_
   refine T.cutC (fun K' D' M' => ∃ (b5 : Bool), (b5 = true ↔ (x.k = 3 ∧ (24 < x.t.length ∨ (0 : UInt8) ∈ x.t))) ∧ K' = [(46, .bool b5)] ∧ D' = [] ∧ M' = []) (M0 := []) (.cons (t := 1) rfl <| .cons (t := 2) rfl <| SubK.nil _) qS ?_ ?_
   ·skip
    refine T.region ?_
    first | refine L.field0 rfl fo24_0 rfl ?_ | refine L.field rfl fo24_0 rfl ?_
    refine L.load rfl sc3 rfl qC ?_
    refine L.eqI rfl rfl rfl ?_
    refine L.move rfl rfl ?_
    refine L.part (t := 50) rfl (fun h5 => ?_) (fun h5 => ?_)
    ·try simp only [dq] at h5
     refine L.guardT (dj := 50) rfl rfl rfl ?_
     first | refine L.field0 rfl fo24_1 rfl ?_ | refine L.field rfl fo24_1 rfl ?_
     refine L.guardT (dj := 50) rfl rfl rfl ?_
     refine L.load rfl sc9 rfl qC ?_
     refine L.guardT (dj := 50) rfl rfl rfl ?_
     refine L.lenStr rfl Tryz.underlying9 rfl ?_
     refine L.guardT (dj := 50) rfl rfl rfl ?_
     refine L.gtI rfl rfl rfl ?_
     refine L.guardT (dj := 50) rfl rfl rfl ?_
     refine L.move rfl rfl ?_
     refine L.part (t := 55) rfl (fun h6 => ?_) (fun h6 => ?_)
     ·try simp only [dq] at h6
      refine L.guardF (dj := 55) (c := true) rfl rfl rfl rfl rfl (by decide) ?_
      refine L.guardF (dj := 55) (c := true) rfl rfl rfl rfl rfl (by decide) ?_
      refine L.guardF (dj := 55) (c := true) rfl rfl rfl rfl rfl (by decide) ?_
      refine L.guardT (dj := 50) rfl rfl rfl ?_
      refine L.pickT rfl rfl rfl ?_
      refine L.pickT rfl rfl rfl ?_
      refine L.assign rfl rfl ?_
      refine L.nil ?_
      refine T.thenN ?_
      exact T.toJoin ⟨_, (by simp_all <;> omega), rfl, rfl, rfl⟩ (.cons (t := 46) rfl <| SubK.nil _) (.cons (t := 1) rfl <| .cons (t := 2) rfl <| SubK.nil _) qD qD qF
     ·try simp only [dq] at h6
      refine L.guardT (dj := 55) rfl rfl rfl ?_
      first | refine L.field0 rfl fo24_1 rfl ?_ | refine L.field rfl fo24_1 rfl ?_
      refine L.guardT (dj := 55) rfl rfl rfl ?_
      refine L.load rfl sc9 rfl qC ?_
      refine L.guardT (dj := 55) rfl rfl rfl ?_
      refine L.callF rfl (evs.cons rfl <| evs.cons rfl <| evs.nil) qD qS (scont_spec (l := x.t) (c := 0)) (by rintro u D1 M1 ⟨rfl, rfl, rfl⟩; exact ⟨rfl, _, qA, qF⟩) ?_
      refine L.guardT (dj := 50) rfl rfl rfl ?_
      refine L.pickF rfl rfl rfl ?_
      refine L.pickT rfl rfl rfl ?_
      refine L.assign rfl rfl ?_
      refine L.nil ?_
      refine T.thenN ?_
      exact T.toJoin ⟨_, (by simp_all <;> omega), rfl, rfl, rfl⟩ (.cons (t := 46) rfl <| SubK.nil _) (.cons (t := 1) rfl <| .cons (t := 2) rfl <| SubK.nil _) qD qD qF
    ·try simp only [dq] at h5
     refine L.guardF (dj := 50) (c := false) rfl rfl rfl rfl rfl (by decide) ?_
     refine L.guardF (dj := 50) (c := false) rfl rfl rfl rfl rfl (by decide) ?_
     refine L.guardF (dj := 50) (c := false) rfl rfl rfl rfl rfl (by decide) ?_
     refine L.guardF (dj := 50) (c := false) rfl rfl rfl rfl rfl (by decide) ?_
     refine L.guardF (dj := 50) (c := false) rfl rfl rfl rfl rfl (by decide) ?_
     refine L.guardU (dj := 55) rfl rfl rfl rfl rfl ?_
     refine L.guardU (dj := 55) rfl rfl rfl rfl rfl ?_
     refine L.guardU (dj := 55) rfl rfl rfl rfl rfl ?_
     refine L.guardF (dj := 50) (c := false) rfl rfl rfl rfl rfl (by decide) ?_
     refine L.pickF rfl rfl rfl ?_
     refine L.assign rfl rfl ?_
     refine L.nil ?_
     refine T.thenN ?_
     exact T.toJoin ⟨_, (by simp_all <;> omega), rfl, rfl, rfl⟩ (.cons (t := 46) rfl <| SubK.nil _) (.cons (t := 1) rfl <| .cons (t := 2) rfl <| SubK.nil _) qD qD qF
   rintro _ _ _ ⟨b5, hb5, rfl, rfl, rfl⟩
   refine T.norm3 qA qA qA ?_
   refine T.thenN ?_
   refine T.cond rfl (fun h46 => ?_) (fun h46 => ?_)
   ·try simp only [dq] at h46
    refine T.seq (T.region ?_)
    refine L.assign rfl rfl ?_
    refine L.assign rfl rfl ?_
    refine L.nil ?_
    refine T.thenN (T.ret (T.blkR ?_))
    refine T.thenR ?_
    exact T.ret2 rfl rfl rfl ⟨by rw [chk_bad (own0_3 hn1 hn2 (hb5.1 h46)) (by decide)]; rfl, rfl, rfl⟩ qD qF
   ·try simp only [dq] at h46
    have hn3 : ¬ (x.k = 3 ∧ (24 < x.t.length ∨ (0 : UInt8) ∈ x.t)) := fun q => by rw [hb5.2 q] at h46; cases h46
    refine T.seq ?_
    refine T.cutC (fun K' D' M' => ∃ (b6 : Bool), (b6 = true ↔ (8192 < x.t.length ∨ 8 < d)) ∧ K' = [(61, .bool b6)] ∧ D' = [] ∧ M' = []) (M0 := []) (.cons (t := 1) rfl <| .cons (t := 2) rfl <| SubK.nil _) qS ?_ ?_
    ·skip
     refine T.region ?_
     first | refine L.field0 rfl fo24_1 rfl ?_ | refine L.field rfl fo24_1 rfl ?_
     refine L.load rfl sc9 rfl qC ?_
     refine L.lenStr rfl Tryz.underlying9 rfl ?_
     refine L.gtI rfl rfl rfl ?_
     refine L.move rfl rfl ?_
     refine L.part (t := 66) rfl (fun h7 => ?_) (fun h7 => ?_)
     ·try simp only [dq] at h7
      refine L.guardF (dj := 66) (c := true) rfl rfl rfl rfl rfl (by decide) ?_
      refine L.guardF (dj := 66) (c := true) rfl rfl rfl rfl rfl (by decide) ?_
      refine L.pickT rfl rfl rfl ?_
      refine L.assign rfl rfl ?_
      refine L.nil ?_
      refine T.thenN ?_
      exact T.toJoin ⟨_, (by simp_all <;> omega), rfl, rfl, rfl⟩ (.cons (t := 61) rfl <| SubK.nil _) (.cons (t := 1) rfl <| .cons (t := 2) rfl <| SubK.nil _) qD qD qF
     ·try simp only [dq] at h7
      refine L.guardT (dj := 66) rfl rfl rfl ?_
      refine L.move rfl rfl ?_
      refine L.guardT (dj := 66) rfl rfl rfl ?_
      refine L.gtI rfl rfl rfl ?_
      refine L.pickF rfl rfl rfl ?_
      refine L.assign rfl rfl ?_
      refine L.nil ?_
      refine T.thenN ?_
      exact T.toJoin ⟨_, (by simp_all <;> omega), rfl, rfl, rfl⟩ (.cons (t := 61) rfl <| SubK.nil _) (.cons (t := 1) rfl <| .cons (t := 2) rfl <| SubK.nil _) qD qD qF
    rintro _ _ _ ⟨b6, hb6, rfl, rfl, rfl⟩
    refine T.norm3 qA qA qA ?_
    refine T.thenN ?_
    refine T.cond rfl (fun h61 => ?_) (fun h61 => ?_)
    ·try simp only [dq] at h61
     refine T.seq (T.region ?_)
     refine L.assign rfl rfl ?_
     refine L.assign rfl rfl ?_
     refine L.nil ?_
     refine T.thenN (T.ret (T.blkR ?_))
     refine T.thenR ?_
     exact T.ret2 rfl rfl rfl ⟨by rw [chk_bad (own0_4 hn1 hn2 hn3 (hb6.1 h61)) (by decide)]; rfl, rfl, rfl⟩ qD qF
    ·try simp only [dq] at h61
     have hn4 : ¬ (8192 < x.t.length ∨ 8 < d) := fun q => by rw [hb6.2 q] at h61; cases h61
     refine T.skip (T.blkN (T.thenN (T.seq (T.region ?_))))
     refine L.assign rfl rfl ?_
     refine L.nil ?_
     refine T.thenN (T.seq (T.seq (T.region ?_)))
     first | refine L.field0 rfl fo24_2 rfl ?_ | refine L.field rfl fo24_2 rfl ?_
     refine L.load rfl sc22 rfl qC ?_
     refine L.lenSl rfl Tryz.underlying22 rfl ?_
     refine L.move rfl rfl ?_
     refine L.nil ?_
     refine T.thenN (T.block ?_)
     refine T.loop (fun K' D' M' μ => ∃ (n i : Nat), (i ≤ x.ks.length ∧ n ≤ 1 + countL (x.ks.take i) ∧ ChkI x d i n) ∧ K' = [(6, .int .i64 (n : Int)), (73, .int .i64 i)] ∧ D' = [] ∧ M' = [] ∧ μ = x.ks.length - i) (.cons (t := 1) rfl <| .cons (t := 2) rfl <| .cons (t := 71) rfl <| .cons (t := 72) rfl <| SubK.nil _) (⟨1, 0, ⟨by omega, by simp [countL], ChkI.zero (own0_5 hn1 hn2 hn3 hn4)⟩, rfl, rfl, rfl, rfl⟩) (.cons (t := 6) rfl <| .cons (t := 73) rfl <| SubK.nil _) qD qS ?_
     rintro K1 D1 M1 m1 ⟨n, i, ⟨hi, hn, hI⟩, rfl, rfl, rfl, rfl⟩
     refine T.norm3 qA qA qA ?_
     refine T.seq (T.region ?_)
     refine L.ltI rfl rfl rfl ?_
     refine L.nil ?_
     refine T.thenN (T.seq ?_)
     refine T.cond rfl (fun h74 => ?_) (fun h74 => ?_)
     ·try simp only [dq] at h74
      refine T.skip (T.thenN (T.seq (T.block (T.seq ?_))))
      have hy : x.ks[i]? = some (gd x.ks i) := gd_get (by omega)
      obtain ⟨y, hyy⟩ : ∃ y, y = gd x.ks i := ⟨_, rfl⟩
      rw [← hyy] at hy
      refine T.kidOpen qM hy (fun ka kl kc hr => ?_)
      have hcs := countL_step hy
      have hcy := count_pos y
      have hsy := hs.kid (kid_mem hy)
      have hcle := chk_le y (d + 1) (by omega)
      refine T.region ?_
      refine L.move rfl rfl ?_
      refine L.idx (i := i) rfl Tryz.underlying22 sz142 rfl rfl qM (by first | rfl | omega | (simp; done)) qG (fun b76 o76 => ?_)
      refine L.loadA rfl ag142 rfl qN ?_
      refine L.alloc rfl ze142 (fun b8 => ?_)
      refine L.assign rfl rfl ?_
      refine L.storeA ag142 rfl rfl qL qO qU qW ?_
      refine L.nil ?_
      refine T.rslAddr qM (show rows ≠ [] from fun e => by rw [e] at hrl; simp at hrl; omega) (fun bo oo ha => ?_)
      subst ha
      refine T.thenN (T.seq (T.seq ?_))
      refine T.cutC (fun K' D' M' => ∃ (b7 : Bool), (b7 = true ↔ (nameB y.n = false ∨ (0 < i ∧ bless (gd x.ks (i - 1)).n y.n = false))) ∧ K' = [(97, .bool b7)] ∧ D' = [] ∧ M' = []) (M0 := []) (.cons (t := 1) rfl <| .cons (t := 2) rfl <| .cons (t := 6) rfl <| .cons (t := 8) rfl <| .cons (t := 71) rfl <| .cons (t := 72) rfl <| .cons (t := 73) rfl <| SubK.nil _) qS ?_ ?_
      ·skip
       refine T.regionQ qk qk ?_
       first | refine L.field0 rfl fo142_0 rfl ?_ | refine L.field rfl fo142_0 rfl ?_
       refine L.load rfl sc9 rfl qC ?_
       refine L.callF rfl (evs.cons rfl <| evs.nil) qD qS (name_spec (s := y.n) (by have := hsy.1.1; omega)) (by rintro u D1 M1 ⟨rfl, rfl, rfl⟩; exact ⟨rfl, _, qA, qF⟩) ?_
       refine L.notB rfl rfl ?_
       refine L.move rfl rfl ?_
       refine L.part (t := 82) rfl (fun h8 => ?_) (fun h8 => ?_)
       ·try simp only [dq] at h8
        refine L.guardF (dj := 82) (c := true) rfl rfl rfl rfl rfl (by decide) ?_
        refine L.guardF (dj := 82) (c := true) rfl rfl rfl rfl rfl (by decide) ?_
        refine L.guardF (dj := 82) (c := true) rfl rfl rfl rfl rfl (by decide) ?_
        refine L.guardU (dj := 85) rfl rfl rfl rfl rfl ?_
        refine L.guardU (dj := 85) rfl rfl rfl rfl rfl ?_
        refine L.guardU (dj := 85) rfl rfl rfl rfl rfl ?_
        refine L.guardU (dj := 85) rfl rfl rfl rfl rfl ?_
        obtain ⟨pa, pl, pc, hpr⟩ := hrw (i - 1) (gd x.ks (i - 1)) (gd_get (by omega))
        refine L.guardU (dj := 85) rfl rfl rfl rfl rfl ?_
        refine L.guardU (dj := 85) rfl rfl rfl rfl rfl ?_
        refine L.guardU (dj := 85) rfl rfl rfl rfl rfl ?_
        refine L.guardU (dj := 85) rfl rfl rfl rfl rfl ?_
        refine L.guardU (dj := 85) rfl rfl rfl rfl rfl ?_
        refine L.guardU (dj := 85) rfl rfl rfl rfl rfl ?_
        refine L.guardF (dj := 82) (c := true) rfl rfl rfl rfl rfl (by decide) ?_
        refine L.pickT rfl rfl rfl ?_
        refine L.nilQ ?_
        refine T.thenN ?_
        exact T.toJoin ⟨_, (by simp_all <;> omega), rfl, rfl, rfl⟩ (.cons (t := 97) rfl <| SubK.nil _) (.cons (t := 1) rfl <| .cons (t := 2) rfl <| .cons (t := 6) rfl <| .cons (t := 8) rfl <| .cons (t := 71) rfl <| .cons (t := 72) rfl <| .cons (t := 73) rfl <| SubK.nil _) qD qD qF
       ·try simp only [dq] at h8
        refine L.guardT (dj := 82) rfl rfl rfl ?_
        refine L.move rfl rfl ?_
        refine L.guardT (dj := 82) rfl rfl rfl ?_
        refine L.gtI rfl rfl rfl ?_
        refine L.guardT (dj := 82) rfl rfl rfl ?_
        refine L.move rfl rfl ?_
        refine L.part (t := 85) rfl (fun h9 => ?_) (fun h9 => ?_)
        ·try simp only [dq] at h9
         refine L.guardT (dj := 85) rfl rfl rfl ?_
         first | refine L.field0 rfl fo24_2 rfl ?_ | refine L.field rfl fo24_2 rfl ?_
         refine L.guardT (dj := 85) rfl rfl rfl ?_
         refine L.load rfl sc22 rfl qC ?_
         refine L.guardT (dj := 85) rfl rfl rfl ?_
         refine L.move rfl rfl ?_
         refine L.guardT (dj := 85) rfl rfl rfl ?_
         refine L.subN rfl rfl rfl (by omega) ?_
         obtain ⟨pa, pl, pc, hpr⟩ := hrw (i - 1) (gd x.ks (i - 1)) (gd_get (by omega))
         refine L.guardT (dj := 85) rfl rfl rfl ?_
         refine L.idxR (i := i - 1) rfl Tryz.underlying22 sz142 rfl rfl qM (by first | rfl | omega | (simp; done)) qI qG ?_
         refine L.guardT (dj := 85) rfl rfl rfl ?_
         first | refine L.field0 rfl fo142_0 rfl ?_ | refine L.field rfl fo142_0 rfl ?_
         refine L.guardT (dj := 85) rfl rfl rfl ?_
         refine L.load rfl sc9 rfl qC ?_
         refine L.guardT (dj := 85) rfl rfl rfl ?_
         first | refine L.field0 rfl fo142_0 rfl ?_ | refine L.field rfl fo142_0 rfl ?_
         refine L.guardT (dj := 85) rfl rfl rfl ?_
         refine L.load rfl sc9 rfl qC ?_
         refine L.guardT (dj := 85) rfl rfl rfl ?_
         refine L.geS rfl rfl rfl ?_
         refine L.guardT (dj := 82) rfl rfl rfl ?_
         refine L.pickT rfl rfl rfl ?_
         refine L.pickF rfl rfl rfl ?_
         refine L.nilQ ?_
         refine T.thenN ?_
         exact T.toJoin ⟨_, (by simp_all <;> omega), rfl, rfl, rfl⟩ (.cons (t := 97) rfl <| SubK.nil _) (.cons (t := 1) rfl <| .cons (t := 2) rfl <| .cons (t := 6) rfl <| .cons (t := 8) rfl <| .cons (t := 71) rfl <| .cons (t := 72) rfl <| .cons (t := 73) rfl <| SubK.nil _) qD qD qF
        ·try simp only [dq] at h9
         refine L.guardF (dj := 85) (c := false) rfl rfl rfl rfl rfl (by decide) ?_
         refine L.guardF (dj := 85) (c := false) rfl rfl rfl rfl rfl (by decide) ?_
         refine L.guardF (dj := 85) (c := false) rfl rfl rfl rfl rfl (by decide) ?_
         refine L.guardF (dj := 85) (c := false) rfl rfl rfl rfl rfl (by decide) ?_
         obtain ⟨pa, pl, pc, hpr⟩ := hrw (i - 1) (gd x.ks (i - 1)) (gd_get (by omega))
         refine L.guardF (dj := 85) (c := false) rfl rfl rfl rfl rfl (by decide) ?_
         refine L.guardF (dj := 85) (c := false) rfl rfl rfl rfl rfl (by decide) ?_
         refine L.guardF (dj := 85) (c := false) rfl rfl rfl rfl rfl (by decide) ?_
         refine L.guardF (dj := 85) (c := false) rfl rfl rfl rfl rfl (by decide) ?_
         refine L.guardF (dj := 85) (c := false) rfl rfl rfl rfl rfl (by decide) ?_
         refine L.guardF (dj := 85) (c := false) rfl rfl rfl rfl rfl (by decide) ?_
         refine L.guardT (dj := 82) rfl rfl rfl ?_
         refine L.pickF rfl rfl rfl ?_
         refine L.pickF rfl rfl rfl ?_
         refine L.nilQ ?_
         refine T.thenN ?_
         exact T.toJoin ⟨_, (by simp_all <;> omega), rfl, rfl, rfl⟩ (.cons (t := 97) rfl <| SubK.nil _) (.cons (t := 1) rfl <| .cons (t := 2) rfl <| .cons (t := 6) rfl <| .cons (t := 8) rfl <| .cons (t := 71) rfl <| .cons (t := 72) rfl <| .cons (t := 73) rfl <| SubK.nil _) qD qD qF
      rintro _ _ _ ⟨b7, hb7, rfl, rfl, rfl⟩
      refine T.norm3 qA qA qA ?_
      refine T.thenN ?_
      refine T.cond rfl (fun h97 => ?_) (fun h97 => ?_)
      ·try simp only [dq] at h97
       refine T.seq (T.region ?_)
       refine L.assign rfl rfl ?_
       refine L.assign rfl rfl ?_
       refine L.nil ?_
       refine T.thenN (T.ret ?_)
       refine T.thenR ?_
       refine T.blkR ?_
       refine T.thenR ?_
       refine T.thenR ?_
       refine T.blkR ?_
       refine T.thenR ?_
       exact T.ret2 rfl rfl rfl ⟨by rw [hI.bad hy (hb7.1 h97)]; rfl, rfl, rfl⟩ qD qF
      ·try simp only [dq] at h97
       have hn7 : ¬ (nameB y.n = false ∨ (0 < i ∧ bless (gd x.ks (i - 1)).n y.n = false)) := fun q => by rw [hb7.2 q] at h97; cases h97
       refine T.skip (T.thenN (T.seq (T.region ?_)))
       first | refine L.field0 rfl fo142_1 rfl ?_ | refine L.field rfl fo142_1 rfl ?_
       refine L.loadA rfl ag24 rfl qN ?_
       refine L.move rfl rfl ?_
       refine L.addN rfl rfl rfl (by omega) ?_
       refine L.callF rfl (evs.cons rfl <| evs.cons rfl <| evs.nil) qD qS (ih y (kid_mem hy) ka kl kc (d + 1) (by omega) (by omega) hsy.2 hsy.1.2) (by rintro u D1 M1 ⟨rfl, rfl, rfl⟩; exact ⟨rfl, _, qA, qF⟩) ?_
       refine L.move rfl rfl ?_
       refine L.extract rfl rfl rfl ?_
       refine L.extract rfl rfl rfl ?_
       refine L.assign rfl rfl ?_
       refine L.assign rfl rfl ?_
       refine L.nil ?_
       refine T.thenN (T.seq (T.seq (T.region ?_)))
       refine L.move rfl rfl ?_
       refine L.neI rfl rfl rfl ?_
       refine L.nil ?_
       refine T.thenN ?_
       refine T.cond rfl (fun h107 => ?_) (fun h107 => ?_)
       ·try simp only [dq] at h107
        refine T.seq (T.region ?_)
        refine L.move rfl rfl ?_
        refine L.assign rfl rfl ?_
        refine L.assign rfl rfl ?_
        refine L.nil ?_
        refine T.thenN (T.ret ?_)
        refine T.thenR ?_
        refine T.blkR ?_
        refine T.thenR ?_
        refine T.thenR ?_
        refine T.blkR ?_
        refine T.thenR ?_
        exact T.ret2 rfl rfl rfl ⟨by rw [hI.kid hy hn7, if_pos h107]; rfl, rfl, rfl⟩ qD qF
       ·try simp only [dq] at h107
        have hst : ChkI x d (i + 1) (n + (chkT y (d + 1)).1) := by unfold ChkI; rw [hI.kid hy hn7, if_neg (by simpa using h107)]
        refine T.skip (T.thenN (T.region ?_))
        refine L.move rfl rfl ?_
        refine L.move rfl rfl ?_
        refine L.addN rfl rfl rfl (by omega) ?_
        refine L.assign rfl rfl ?_
        refine L.nil ?_
        refine T.blkN (T.thenN (T.region ?_))
        refine L.addN rfl rfl rfl (by omega) ?_
        refine L.move rfl rfl ?_
        refine L.nil ?_
        refine T.thenN ?_
        exact T.back ⟨_, i + 1, ⟨by omega, by omega, hst⟩, rfl, rfl, rfl, rfl⟩ qI (.cons (t := 6) rfl <| .cons (t := 73) rfl <| SubK.nil _) (.cons (t := 1) rfl <| .cons (t := 2) rfl <| .cons (t := 71) rfl <| .cons (t := 72) rfl <| SubK.nil _) qD qD qF
     ·try simp only [dq] at h74
      refine T.exit (T.thenX (T.thenX (T.blkX (T.thenN (T.seq (T.region ?_))))))
      refine L.move rfl rfl ?_
      refine L.assign rfl rfl ?_
      refine L.assign rfl rfl ?_
      refine L.nil ?_
      refine T.thenN (T.ret ?_)
      exact T.ret2 rfl rfl rfl ⟨by rw [hI.stop (by omega)], rfl, rfl⟩ qD qF
theorem chk_spec (x : Tr) : ChkS x := Tr.ind (p := ChkS) (fun x ih a len cap d hd hc hs htl => chk_spec_step x ih a len cap d hd hc hs htl) x
end Cv
