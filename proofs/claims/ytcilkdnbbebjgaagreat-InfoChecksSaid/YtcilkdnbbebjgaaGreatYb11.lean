/-
  The walks: the law on infos that may be.
-/
import Derived.Test.YtcilkdnbbebjgaaGreatYa11
import Derived.Test.YtcilkdnbbebjgaaGreatProg
import Derived.KernelRfl
set_option linter.unusedVariables false
set_option linter.unusedSimpArgs false
set_option linter.unusedSectionVars false
set_option maxRecDepth 10000
namespace Cv
open Go Go.Proofs

set_option maxHeartbeats 400000 in
theorem infoChecks_spec {root idt : List UInt8} {size : Int} {a : Option Addr} {n c : Nat} {l : List (List UInt8)}  : Spec Tryz.prog 5 [S root, .int .i64 size, .slice a n c, S idt] [rsl 1 a n c (l.map ys)] [] (fun v D' M' => v = .bool true ∧ D' = [] ∧ M' = []) := by
  refine Spec.intro (n := 102) Tryz.func5 rfl rfl (by decide) (Nat.le_of_ble_eq_true rfl) rfl (fun _ => qA) (fun _ => qA) ?_
  intro σ D M
  obtain ⟨ls, hls⟩ : ∃ z, z = naL l := ⟨_, rfl⟩
  have hl12 := naL_len l
  rw [← hls] at hl12
  obtain ⟨sz, hsz⟩ : ∃ z, z = min (max size (-5)) 1099511627776 := ⟨_, rfl⟩
  have hr3 := iC_len (naF root)
  have hr32 := (naF root).2
  have hi3 := iC_len (naF idt)
  have hi32 := (naF idt).2
  have hpp := ptC_len (naF root, sz)
  refine T.seq ?_
  refine T.region ?_
  refine L.assign rfl rfl ?_
  refine L.nil ?_
  refine T.thenN ?_
  refine T.seq ?_
  refine T.region ?_
  refine L.move rfl rfl ?_
  refine L.call rfl (evs.cons rfl <| evs.nil) qD qS (names11_spec (l := l)) ?_
  rintro _ _ _ ⟨ua, va, un, uc, vc, rfl, hun, rfl, rfl⟩
  refine L.norm qA qA ?_
  rw [← hls] at hun ⊢
  refine L.ownRsl (rows := ls.map iC) qP ?_
  refine L.ownRsl (rows := (ls.map (·.1)).map ys) qP ?_
  have hin := inC_len (naF root, sz) ua un uc
  refine L.move rfl rfl ?_
  refine L.extract rfl rfl rfl ?_
  refine L.extract rfl rfl rfl ?_
  refine L.assign rfl rfl ?_
  refine L.assign rfl rfl ?_
  refine L.nil ?_
  refine T.thenN ?_
  refine T.seq ?_
  refine T.region ?_
  refine L.move rfl rfl ?_
  refine L.maxI rfl rfl rfl ?_
  refine L.minI rfl rfl rfl ?_
  refine L.known (t := 25) (u := .int .i64 sz) rfl (congrArg (Value.int .i64) hsz.symm) ?_
  refine L.assign rfl rfl ?_
  refine L.nil ?_
  refine T.thenN ?_
  refine T.seq ?_
  refine T.region ?_
  refine L.move rfl rfl ?_
  refine L.callF rfl (evs.cons rfl <| evs.nil) qD qS (lname_spec (s := root)) (by rintro u D1 M1 ⟨rfl, rfl, rfl⟩; exact ⟨rfl, _, qA, qF⟩) ?_
  refine L.move rfl rfl ?_
  refine L.build rfl bu33 (BP.agg rfl rfl (by first | with_reducible assumption | (simp; done) | (simp only [List.length_map]; with_reducible assumption) | (simp [*]; done) | rfl) (Nat.le_of_ble_eq_true rfl) qR <| BP.one rfl rfl rfl <| BP.doneE (out := []) rfl) ?_
  refine L.known (t := 29) (u := .agg (ptC (naF root, sz)).toArray) rfl (by first | rfl | simp) ?_
  refine L.move rfl rfl ?_
  refine L.build rfl bu35 (BP.agg rfl rfl (by first | with_reducible assumption | (simp; done) | (simp only [List.length_map]; with_reducible assumption) | (simp [*]; done) | rfl) (Nat.le_of_ble_eq_true rfl) qR <| BP.one rfl rfl rfl <| BP.doneE (out := []) rfl) ?_
  refine L.known (t := 31) (u := .agg (inC (naF root, sz) ua un uc).toArray) rfl (by first | rfl | simp) ?_
  refine L.alloc rfl ze35 (fun b11 => ?_)
  refine L.storeA ag35 rfl rfl qL qO qU qW ?_
  refine L.nil ?_
  refine T.freeze (A := cl b11 35 (inC (naF root, sz) ua un uc)) qP ?_
  refine T.thenN ?_
  refine T.seq ?_
  refine T.region ?_
  refine L.move rfl rfl ?_
  refine L.callF rfl (evs.cons rfl <| evs.nil) qD qS (lname_spec (s := root)) (by rintro u D1 M1 ⟨rfl, rfl, rfl⟩; exact ⟨rfl, _, qA, qF⟩) ?_
  refine L.callF rfl (evs.cons rfl <| evs.nil) qD qS (obytes_spec (l := (naF root).1) hr32) (by rintro u D1 M1 ⟨rfl, rfl, rfl⟩; exact ⟨rfl, _, qA, qF⟩) ?_
  refine L.move rfl rfl ?_
  refine L.build rfl bu41 (BP.one rfl rfl rfl <| BP.one rfl rfl rfl <| BP.doneE (out := []) rfl) ?_
  refine L.move rfl rfl ?_
  refine L.build rfl bu43 (BP.agg rfl rfl (by first | with_reducible assumption | (simp; done) | (simp only [List.length_map]; with_reducible assumption) | (simp [*]; done) | rfl) (Nat.le_of_ble_eq_true rfl) qR <| BP.one rfl rfl rfl <| BP.doneE (out := []) rfl) ?_
  refine L.known (t := 38) (u := .agg (inR (naF root, sz) va un vc).toArray) rfl (by first | rfl | simp) ?_
  refine L.alloc rfl ze43 (fun b12 => ?_)
  refine L.storeA ag43 rfl rfl qL qO qU qW ?_
  refine L.nil ?_
  refine T.freeze (A := cl b12 43 (inR (naF root, sz) va un vc)) qP ?_
  refine T.thenN ?_
  refine T.seq ?_
  refine T.seq ?_
  refine T.regionQ (by kernel_rfl) (by kernel_rfl) ?_
  refine L.callF rfl (evs.nil) qD qS (awake11_spec) (by rintro u D1 M1 ⟨rfl, rfl, rfl⟩; exact ⟨rfl, _, qA, qF⟩) ?_
  refine L.notB rfl rfl ?_
  refine L.move rfl rfl ?_
  refine L.known (t := 41) rfl (show _ = Value.bool false from rfl) ?_
  refine L.guardT (dj := 41) rfl rfl rfl ?_
  refine L.loadA rfl ag35 rfl qN ?_
  refine L.guardT (dj := 41) rfl rfl rfl ?_
  refine L.callF rfl (evs.cons rfl <| evs.nil) qD qS (icheck_spec (l := ls) (p := (naF root, sz)) (by omega)) (by rintro u D1 M1 ⟨rfl, rfl, rfl⟩; exact ⟨rfl, _, qA, qF⟩) ?_
  refine L.guardT (dj := 41) rfl rfl rfl ?_
  refine L.loadA rfl ag43 rfl qN ?_
  refine L.guardT (dj := 41) rfl rfl rfl ?_
  refine L.callF rfl (evs.cons rfl <| evs.nil) qD qS (rcheck11_spec (l := ls) (p := (naF root, sz)) (by omega)) (by rintro u D1 M1 ⟨rfl, rfl, rfl⟩; exact ⟨rfl, _, qA, qF⟩) ?_
  refine L.guardT (dj := 41) rfl rfl rfl ?_
  refine L.neI rfl rfl rfl ?_
  refine L.pickF rfl rfl rfl ?_
  refine L.nilQ ?_
  refine T.thenN ?_
  refine T.condF rfl (by simp) ?_
  refine T.skip ?_
  refine T.thenN ?_
  refine T.seq ?_
  refine T.seq ?_
  refine T.region ?_
  refine L.loadA rfl ag43 rfl qN ?_
  refine L.callF rfl (evs.cons rfl <| evs.nil) qD qS (rcheck11_spec (l := ls) (p := (naF root, sz)) (by omega)) (by rintro u D1 M1 ⟨rfl, rfl, rfl⟩; exact ⟨rfl, _, qA, qF⟩) ?_
  refine L.neI rfl rfl rfl ?_
  refine L.nil ?_
  refine T.thenN ?_
  refine T.cond rfl (fun h50 => ?_) (fun h50 => ?_)
  · try simp only [decide_eq_true_eq, decide_eq_false_iff_not, Bool.not_eq_true', Bool.not_eq_false', Bool.and_eq_true, Bool.or_eq_true] at h50
    refine T.seq ?_
    refine T.region ?_
    refine L.assign rfl rfl ?_
    refine L.nil ?_
    refine T.thenN ?_
    refine T.ret ?_
    refine T.thenR ?_
    exact T.ret1 rfl rfl ⟨rfl, rfl, rfl⟩ qD qF
  · try simp only [decide_eq_true_eq, decide_eq_false_iff_not, Bool.not_eq_true', Bool.not_eq_false', Bool.and_eq_true, Bool.or_eq_true] at h50
    have hck : chkI (naF root, sz) ls = 0 := by simpa using h50
    obtain ⟨hsz1, hszb, -, -⟩ := chk_in hck
    have hsz0 : (0 : Int) ≤ (naF root, sz).2 := by omega
    have hsz2 : (naF root, sz).2 ≤ 4611686018427387904 := by omega
    have hil := inT_len (l := ls) hsz2 (by omega)
    refine T.skip ?_
    refine T.thenN ?_
    refine T.seq ?_
    refine T.region ?_
    refine L.assign rfl rfl ?_
    refine L.nil ?_
    refine T.thenN ?_
    refine T.seq ?_
    refine T.seq ?_
    refine T.region ?_
    refine L.move rfl rfl ?_
    refine L.lenSl rfl Tryz.underlying25 rfl ?_
    refine L.move rfl rfl ?_
    refine L.nil ?_
    refine T.thenN ?_
    refine T.block ?_
    refine T.known (t := 13) (u := .bool (decide (naF idt ∈ ls.take 0))) rfl (by simp) ?_
    refine T.loop (fun K' D' M' μ => ∃ (i : Nat), (i ≤ un) ∧ K' = [(53, .int .i64 (i : Int)), (13, .bool (decide (naF idt ∈ ls.take i)))] ∧ D' = [] ∧ M' = [] ∧ μ = un - i) (.cons (t := 3) rfl <| .cons (t := 11) rfl <| .cons (t := 12) rfl <| .cons (t := 51) rfl <| .cons (t := 52) rfl <| SubK.nil _) (⟨0, Nat.zero_le _, rfl, rfl, rfl, rfl⟩) (.cons (t := 53) rfl <| .cons (t := 13) rfl <| SubK.nil _) qD qS ?_
    rintro K1 D1 M1 m1 ⟨i, hi, rfl, rfl, rfl, rfl⟩
    refine T.norm3 qA qA qA ?_
    refine T.seq ?_
    refine T.region ?_
    refine L.ltI rfl rfl rfl ?_
    refine L.nil ?_
    refine T.thenN ?_
    refine T.seq ?_
    refine T.cond rfl (fun h54 => ?_) (fun h54 => ?_)
    · try simp only [decide_eq_true_eq, decide_eq_false_iff_not, Bool.not_eq_true', Bool.not_eq_false', Bool.and_eq_true, Bool.or_eq_true] at h54
      refine T.skip ?_
      refine T.thenN ?_
      refine T.seq ?_
      refine T.block ?_
      refine T.seq ?_
      have hgi : ls[i]? = some (gd ls i) := gd_get (by omega)
      obtain ⟨x, hx_⟩ : ∃ x, x = gd ls i := ⟨_, rfl⟩
      have hgm : (ls.map (·.1))[i]? = some x.1 := by rw [hx_]; exact gd_map (by omega)
      rw [← hx_] at hgi
      have hgr : ((ls.map (·.1)).map ys)[i]? = some (ys x.1) := map_get hgm
      refine T.region ?_
      refine L.idx (i := i) rfl Tryz.underlying25 sz9 rfl rfl qM (by first | rfl | omega | (simp; done)) qG (fun b55 o55 => ?_)
      refine L.load rfl sc9 rfl qC ?_
      refine L.assign rfl rfl ?_
      refine L.nil ?_
      refine T.thenN ?_
      refine T.cutC (fun K' D' M' => ∃ (w : Bool), (w = decide (naF idt ∈ ls.take (i + 1))) ∧ K' = [(13, .bool w)] ∧ D' = [] ∧ M' = []) (M0 := []) (.cons (t := 3) rfl <| .cons (t := 11) rfl <| .cons (t := 12) rfl <| .cons (t := 51) rfl <| .cons (t := 52) rfl <| .cons (t := 53) rfl <| SubK.nil _) qS ?_ ?_
      · skip
        refine T.region ?_
        refine L.move rfl rfl ?_
        refine L.move rfl rfl ?_
        refine L.part (t := 58) rfl (fun h1 => ?_) (fun h1 => ?_)
        · try simp only [decide_eq_true_eq, decide_eq_false_iff_not, Bool.not_eq_true', Bool.not_eq_false', Bool.and_eq_true, Bool.or_eq_true] at h1
          refine L.guardF (dj := 58) (c := true) rfl rfl rfl rfl rfl (by decide) ?_
          refine L.guardF (dj := 58) (c := true) rfl rfl rfl rfl rfl (by decide) ?_
          refine L.guardF (dj := 58) (c := true) rfl rfl rfl rfl rfl (by decide) ?_
          refine L.guardF (dj := 58) (c := true) rfl rfl rfl rfl rfl (by decide) ?_
          refine L.guardF (dj := 58) (c := true) rfl rfl rfl rfl rfl (by decide) ?_
          refine L.pickT rfl rfl rfl ?_
          refine L.assign rfl rfl ?_
          refine L.nil ?_
          refine T.thenN ?_
          exact T.toJoin ⟨_, (by simp [mem_s hgi, Subtype.ext_iff]; simp_all [eq_comm]), rfl, rfl, rfl⟩ (.cons (t := 13) rfl <| SubK.nil _) (.cons (t := 3) rfl <| .cons (t := 11) rfl <| .cons (t := 12) rfl <| .cons (t := 51) rfl <| .cons (t := 52) rfl <| .cons (t := 53) rfl <| SubK.nil _) qD qD qF
        · try simp only [decide_eq_true_eq, decide_eq_false_iff_not, Bool.not_eq_true', Bool.not_eq_false', Bool.and_eq_true, Bool.or_eq_true] at h1
          refine L.guardT (dj := 58) rfl rfl rfl ?_
          refine L.move rfl rfl ?_
          refine L.guardT (dj := 58) rfl rfl rfl ?_
          refine L.move rfl rfl ?_
          refine L.guardT (dj := 58) rfl rfl rfl ?_
          refine L.callF rfl (evs.cons rfl <| evs.nil) qD qS (lname_spec (s := idt)) (by rintro u D1 M1 ⟨rfl, rfl, rfl⟩; exact ⟨rfl, _, qA, qF⟩) ?_
          refine L.guardT (dj := 58) rfl rfl rfl ?_
          refine L.callF rfl (evs.cons rfl <| evs.nil) qD qS (obytes_spec (l := (naF idt).1) hi32) (by rintro u D1 M1 ⟨rfl, rfl, rfl⟩; exact ⟨rfl, _, qA, qF⟩) ?_
          refine L.guardT (dj := 58) rfl rfl rfl ?_
          refine L.eqS rfl rfl rfl ?_
          refine L.pickF rfl rfl rfl ?_
          refine L.assign rfl rfl ?_
          refine L.nil ?_
          refine T.thenN ?_
          exact T.toJoin ⟨_, (by simp [mem_s hgi, Subtype.ext_iff]; simp_all [eq_comm]), rfl, rfl, rfl⟩ (.cons (t := 13) rfl <| SubK.nil _) (.cons (t := 3) rfl <| .cons (t := 11) rfl <| .cons (t := 12) rfl <| .cons (t := 51) rfl <| .cons (t := 52) rfl <| .cons (t := 53) rfl <| SubK.nil _) qD qD qF
      rintro _ _ _ ⟨w, hw, rfl, rfl, rfl⟩
      refine T.norm3 qA qA qA ?_
      refine T.blkN ?_
      refine T.thenN ?_
      refine T.region ?_
      refine L.addN rfl rfl rfl (by omega) ?_
      refine L.move rfl rfl ?_
      refine L.nil ?_
      refine T.thenN ?_
      subst hw
      exact T.back ⟨i + 1, (by omega), rfl, rfl, rfl, rfl⟩ qI (.cons (t := 53) rfl <| .cons (t := 13) rfl <| SubK.nil _) (.cons (t := 3) rfl <| .cons (t := 11) rfl <| .cons (t := 12) rfl <| .cons (t := 51) rfl <| .cons (t := 52) rfl <| SubK.nil _) qD qD qF
    · try simp only [decide_eq_true_eq, decide_eq_false_iff_not, Bool.not_eq_true', Bool.not_eq_false', Bool.and_eq_true, Bool.or_eq_true] at h54
      obtain rfl : i = un := by omega
      have hif : decide (naF idt ∈ ls.take i) = decide (naF idt ∈ ls) := by rw [List.take_of_length_le (by omega)]
      refine T.exit ?_
      refine T.thenX ?_
      refine T.thenX ?_
      refine T.blkX ?_
      refine T.thenN ?_
      refine T.seq ?_
      refine T.region ?_
      refine L.loadA rfl ag35 rfl qN ?_
      refine L.callF rfl (evs.cons rfl <| evs.nil) qD qS (itext_spec (l := ls) (p := (naF root, sz)) (by omega) hsz2) (by rintro u D1 M1 ⟨rfl, rfl, rfl⟩; exact ⟨rfl, _, qA, qF⟩) ?_
      refine L.call rfl (evs.cons rfl <| evs.nil) qD qS (iparse_spec (s := inT (naF root, sz) ls) (by omega)) ?_
      rintro _ _ _ ⟨qa, qn, qc, rfl, hqn, rfl, rfl⟩
      refine L.norm qA qA ?_
      rw [par_putI hck] at hqn ⊢
      have hqn2 : ls.length = qn := hqn
      have hin2 := inC_len (naF root, sz) qa qn qc
      refine L.move rfl rfl ?_
      refine L.extract rfl rfl rfl ?_
      refine L.extract rfl rfl rfl ?_
      refine L.alloc rfl ze35 (fun b16 => ?_)
      refine L.storeA ag35 rfl rfl qL qO qU qW ?_
      refine L.assign rfl rfl ?_
      refine L.nil ?_
      refine T.freeze (A := cl b16 35 (inC (naF root, sz) qa qn qc)) qP ?_
      refine T.thenN ?_
      refine T.seq ?_
      refine T.regionQ (by kernel_rfl) (by kernel_rfl) ?_
      refine L.loadA rfl ag35 rfl qN ?_
      refine L.callF rfl (evs.cons rfl <| evs.nil) qD qS (itext_spec (l := ls) (p := (naF root, sz)) (by omega) hsz2) (by rintro u D1 M1 ⟨rfl, rfl, rfl⟩; exact ⟨rfl, _, qA, qF⟩) ?_
      refine L.loadA rfl ag43 rfl qN ?_
      refine L.callF rfl (evs.cons rfl <| evs.nil) qD qS (rtext11_spec (l := ls) (p := (naF root, sz)) (by omega) hsz0 hsz2) (by rintro u D1 M1 ⟨rfl, rfl, rfl⟩; exact ⟨rfl, _, qA, qF⟩) ?_
      refine L.eqS rfl rfl rfl ?_
      refine L.move rfl rfl ?_
      refine L.known (t := 77) rfl (show _ = Value.bool true from congrArg Value.bool (by simp)) ?_
      refine L.guardT (dj := 77) rfl rfl rfl ?_
      refine L.loadA rfl ag35 rfl qN ?_
      refine L.guardT (dj := 77) rfl rfl rfl ?_
      refine L.callF rfl (evs.cons rfl <| evs.nil) qD qS (iname_spec (l := ls) (p := (naF root, sz)) (by omega) hsz2) (by rintro u D1 M1 ⟨rfl, rfl, rfl⟩; exact ⟨rfl, _, qA, qF⟩) ?_
      refine L.guardT (dj := 77) rfl rfl rfl ?_
      refine L.callF rfl (evs.cons rfl <| evs.nil) qD qS (obytes_spec (l := (inN (naF root, sz) ls).1) (inN (naF root, sz) ls).2) (by rintro u D1 M1 ⟨rfl, rfl, rfl⟩; exact ⟨rfl, _, qA, qF⟩) ?_
      refine L.guardT (dj := 77) rfl rfl rfl ?_
      refine L.loadA rfl ag43 rfl qN ?_
      refine L.guardT (dj := 77) rfl rfl rfl ?_
      refine L.callF rfl (evs.cons rfl <| evs.nil) qD qS (rname11_spec (l := ls) (p := (naF root, sz)) (by omega) hsz0 hsz2) (by rintro u D1 M1 ⟨rfl, rfl, rfl⟩; exact ⟨rfl, _, qA, qF⟩) ?_
      refine L.guardT (dj := 77) rfl rfl rfl ?_
      refine L.eqS rfl rfl rfl ?_
      refine L.pickT rfl rfl rfl ?_
      refine L.move rfl rfl ?_
      refine L.known (t := 85) rfl (show _ = Value.bool true from congrArg Value.bool (by simp)) ?_
      refine L.guardT (dj := 85) rfl rfl rfl ?_
      refine L.loadA rfl ag35 rfl qN ?_
      refine L.guardT (dj := 85) rfl rfl rfl ?_
      refine L.move rfl rfl ?_
      refine L.guardT (dj := 85) rfl rfl rfl ?_
      refine L.callF rfl (evs.cons rfl <| evs.nil) qD qS (lname_spec (s := idt)) (by rintro u D1 M1 ⟨rfl, rfl, rfl⟩; exact ⟨rfl, _, qA, qF⟩) ?_
      refine L.guardT (dj := 85) rfl rfl rfl ?_
      refine L.callF rfl (evs.cons rfl <| evs.cons rfl <| evs.nil) qD qS (refers_spec (l := ls) (p := (naF root, sz)) (z := naF idt) (asc_chk hck) (by omega)) (by rintro u D1 M1 ⟨rfl, rfl, rfl⟩; exact ⟨rfl, _, qA, qF⟩) ?_
      refine L.guardT (dj := 85) rfl rfl rfl ?_
      refine L.move rfl rfl ?_
      refine L.guardT (dj := 85) rfl rfl rfl ?_
      refine L.eqlB Tryz.underlying4 rfl rfl rfl ?_
      refine L.pickT rfl rfl rfl ?_
      refine L.move rfl rfl ?_
      refine L.known (t := 93) rfl (show _ = Value.bool true from congrArg Value.bool (by simp [hif])) ?_
      refine L.guardT (dj := 93) rfl rfl rfl ?_
      refine L.move rfl rfl ?_
      refine L.guardT (dj := 93) rfl rfl rfl ?_
      refine L.eqI rfl rfl rfl ?_
      refine L.pickT rfl rfl rfl ?_
      refine L.move rfl rfl ?_
      refine L.known (t := 97) rfl (show _ = Value.bool true from congrArg Value.bool (by simp)) ?_
      refine L.guardT (dj := 97) rfl rfl rfl ?_
      refine L.loadA rfl ag35 rfl qN ?_
      refine L.guardT (dj := 97) rfl rfl rfl ?_
      refine L.loadA rfl ag35 rfl qN ?_
      refine L.guardT (dj := 97) rfl rfl rfl ?_
      refine L.callF rfl (evs.cons rfl <| evs.cons rfl <| evs.nil) qD qS (isame_spec (l := ls) (k := ls) (p := (naF root, sz)) (q := (naF root, sz)) (by omega) (by omega)) (by rintro u D1 M1 ⟨rfl, rfl, rfl⟩; exact ⟨rfl, _, qA, qF⟩) ?_
      refine L.pickT rfl rfl rfl ?_
      refine L.assign rfl rfl ?_
      refine L.nilQ ?_
      refine T.thenN ?_
      refine T.ret ?_
      exact T.ret1 rfl rfl ⟨congrArg Value.bool (by simp), rfl, rfl⟩ qD qF
end Cv
