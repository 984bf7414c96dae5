/-
  The walks: infos written.
-/
import Derived.Test.YtcilkdnbbebjgaaGreatXa11
import Derived.Test.YtcilkdnbbebjgaaGreatRH
import Derived.Test.YtcilkdnbbebjgaaGreatCvLg
import Derived.Test.YtcilkdnbbebjgaaGreatProg
import Derived.KernelRfl
set_option linter.unusedVariables false
set_option linter.unusedSimpArgs false
set_option linter.unusedSectionVars false
set_option maxRecDepth 10000
namespace Cv
open Go Go.Proofs
/-! ## infos: what is written is read; names of texts -/
def naF (s : List UInt8) : ID32 := ⟨s.take 32 ++ List.replicate (32 - (s.take 32).length) 0, by rw [List.length_append, List.length_replicate, List.length_take]; omega⟩
theorem na_set (s : List UInt8) : SetAt ((List.replicate 32 (0 : UInt8)).map Y) 0 ((s.take (Nat.min s.length 32)).map Y) ((naF s).1.map Y) := by
  have e : s.take (Nat.min s.length 32) = s.take 32 := by
    show s.take (min s.length 32) = _
    rcases Nat.le_total s.length 32 with h | h
    · rw [Nat.min_eq_left h, List.take_of_length_le (Nat.le_refl _), List.take_of_length_le h]
    · rw [Nat.min_eq_right h]
  have hl : (s.take 32).length ≤ 32 := by rw [List.length_take]; omega
  rw [e]
  refine ⟨by rw [List.length_map, List.length_map, List.length_replicate]; omega, ?_⟩
  show ((s.take 32) ++ List.replicate (32 - (s.take 32).length) (0 : UInt8)).map Y = _
  rw [List.map_append, List.take_zero, List.nil_append, Nat.zero_add, List.length_map, ← List.map_drop, List.drop_replicate]
def naL (l : List (List UInt8)) : List ID32 := (l.take 12).map naF
theorem naL_len (l : List (List UInt8)) : (naL l).length ≤ 12 := by unfold naL; rw [List.length_map, List.length_take]; omega
theorem fo41_0 : Fo Tryz.prog 41 0 0 := fun a w => by kernel_rfl
set_option maxHeartbeats 400000 in
theorem lname_spec {s : List UInt8}  : Spec Tryz.prog 23 [S s] [] [] (fun v D' M' => v = .agg (iC (naF s)).toArray ∧ D' = [] ∧ M' = []) := by
 refine Spec.intro (n := 8) Tryz.func23 rfl rfl (by decide) (Nat.le_of_ble_eq_true rfl) rfl (fun _ => qA) (fun _ => qA) ?_
 intro σ D M
 have hi3 := iC_len (naF s)
 refine T.seq (T.region ?_)
 refine L.alloc rfl ze31 (fun b2 => ?_)
 refine L.nil ?_
 refine T.thenN (T.seq (T.region ?_))
 refine L.alloc rfl ze31 (fun b3 => ?_)
 refine L.nil ?_
 refine T.thenN (T.seq (T.region ?_))
 refine L.sliceArr rfl Tryz.underlying31 sz5 rfl Bd.no Bd.no qI qI ?_
 refine L.known (t := 4) (u := .slice (some ⟨b3, 0, none⟩) 32 32) rfl (by first | rfl | simp [cutA, Addr.add]) ?_
 refine L.move rfl rfl ?_
 refine L.copyStr rfl Tryz.underlying97 sz5 rfl rfl rfl qU (na_set s) ?_
 refine L.nil ?_
 refine T.thenN (T.seq (T.region ?_))
 refine L.loadA rfl ag31 rfl qN ?_
 refine L.storeA ag31 rfl rfl qL qO qU qW ?_
 refine L.nil ?_
 refine T.thenN (T.ret ?_)
 exact T.retA rfl ag31 rfl qN ⟨rfl, rfl, rfl⟩ qD qF
set_option maxHeartbeats 400000 in
theorem names11_spec {a : Option Addr} {n c : Nat} {l : List (List UInt8)}  : Spec Tryz.prog 9 [.slice a n c] [rsl 1 a n c (l.map ys)] [] (fun v D' M' => ∃ (a1 a2 : Option Addr) (n1 c1 c2 : Nat), v = .tuple #[.slice a1 n1 c1, .slice a2 n1 c2] ∧ ((naL l).length = n1) ∧ D' = [] ∧ M' = [own 32 31 a1 n1 c1 ((naL l).map iC), own 1 9 a2 n1 c2 (((naL l).map (·.1)).map ys)]) := by
 refine Spec.intro (n := 36) Tryz.func9 rfl rfl (by decide) (Nat.le_of_ble_eq_true rfl) rfl (fun _ => qA) (fun _ => qA) ?_
 intro σ D M
 refine T.rslLen2 (rows := l.map ys) qM (fun hpl hpc => ?_)
 rw [List.length_map] at hpl
 refine T.seq (T.region ?_)
 refine L.assign rfl rfl ?_
 refine L.assign rfl rfl ?_
 refine L.nil ?_
 refine T.thenN (T.seq (T.region ?_))
 refine L.buildSlice rfl bs27 (by decide) (BP.doneE (out := []) rfl) (fun b8 => ?_)
 refine L.toOwn (len := 0) qP (rows := (((l.take 0).map naF)).map iC) (sz := 32) (by rfl) rfl (by simp) ?_
 refine L.assign rfl rfl ?_
 refine L.nil ?_
 refine T.thenN (T.seq (T.region ?_))
 refine L.buildSlice rfl bs25 (by decide) (BP.doneE (out := []) rfl) (fun b9 => ?_)
 refine L.toOwn (len := 0) qP (rows := (((l.take 0).map naF).map (·.1)).map ys) (sz := 1) (by rfl) rfl (by simp) ?_
 refine L.assign rfl rfl ?_
 refine L.nil ?_
 refine T.thenN (T.seq (T.seq (T.region ?_)))
 refine L.assign rfl rfl ?_
 refine L.nil ?_
 refine T.thenN (T.block ?_)
 refine T.loop (fun K' D' M' μ => ∃ (i c4 c5 : Nat) (a4 a5 : Option Addr), (i ≤ n ∧ i ≤ 12) ∧ K' = [(6, .int .i64 (i : Int)), (4, .slice a4 i c4), (5, .slice a5 i c5)] ∧ D' = [] ∧ M' = [own 32 31 a4 i c4 ((((l.take i).map naF)).map iC), own 1 9 a5 i c5 ((((l.take i).map naF).map (·.1)).map ys)] ∧ μ = 12 - i) (.cons (t := 0) rfl <| SubK.nil _) (⟨0, 0, 0, _, _, ⟨Nat.zero_le _, Nat.zero_le _⟩, rfl, rfl, rfl, rfl⟩) (.cons (t := 6) rfl <| .cons (t := 4) rfl <| .cons (t := 5) rfl <| SubK.nil _) qD qS ?_
 rintro K1 D1 M1 m1 ⟨i, c4, c5, a4, a5, ⟨hi, hi12⟩, rfl, rfl, rfl, rfl⟩
 refine T.norm3 qA qA qA ?_
 refine T.seq (T.seq ?_)
 refine T.cutC (fun K' D' M' => ∃ (w : Bool), (w = true ↔ (i < n ∧ i < 12)) ∧ K' = [(17, .bool w)] ∧ D' = [] ∧ M' = []) (M0 := []) (.cons (t := 0) rfl <| .cons (t := 4) rfl <| .cons (t := 5) rfl <| .cons (t := 6) rfl <| SubK.nil _) qS ?_ ?_
 ·skip
  refine T.region ?_
  refine L.move rfl rfl ?_
  refine L.move rfl rfl ?_
  refine L.lenSl rfl Tryz.underlying25 rfl ?_
  refine L.ltI rfl rfl rfl ?_
  refine L.move rfl rfl ?_
  refine L.part (t := 14) rfl (fun h1 => ?_) (fun h1 => ?_)
  ·try simp only [dq] at h1
   refine L.guardT (dj := 14) rfl rfl rfl ?_
   refine L.move rfl rfl ?_
   refine L.guardT (dj := 14) rfl rfl rfl ?_
   refine L.ltI rfl rfl rfl ?_
   refine L.pickT rfl rfl rfl ?_
   refine L.nil ?_
   refine T.thenN ?_
   exact T.toJoin ⟨_, (by simp_all <;> omega), rfl, rfl, rfl⟩ (.cons (t := 17) rfl <| SubK.nil _) (.cons (t := 0) rfl <| .cons (t := 4) rfl <| .cons (t := 5) rfl <| .cons (t := 6) rfl <| SubK.nil _) qD qD qF
  ·try simp only [dq] at h1
   refine L.guardF (dj := 14) (c := false) rfl rfl rfl rfl rfl (by decide) ?_
   refine L.guardF (dj := 14) (c := false) rfl rfl rfl rfl rfl (by decide) ?_
   refine L.pickF rfl rfl rfl ?_
   refine L.nil ?_
   refine T.thenN ?_
   exact T.toJoin ⟨_, (by simp_all <;> omega), rfl, rfl, rfl⟩ (.cons (t := 17) rfl <| SubK.nil _) (.cons (t := 0) rfl <| .cons (t := 4) rfl <| .cons (t := 5) rfl <| .cons (t := 6) rfl <| SubK.nil _) qD qD qF
 rintro _ _ _ ⟨w, hw, rfl, rfl, rfl⟩
 refine T.norm3 qA qA qA ?_
 refine T.thenN ?_
 refine T.cond rfl (fun h17 => ?_) (fun h17 => ?_)
 ·try simp only [dq] at h17
  have hwt := hw.1 h17
  have hgi : l[i]? = some (gd l i) := gd_get (by omega)
  obtain ⟨x, hx_⟩ : ∃ x, x = gd l i := ⟨_, rfl⟩
  rw [← hx_] at hgi
  have hgr : (l.map ys)[i]? = some (ys x) := map_get hgi
  have hi3 := iC_len (naF x)
  have hi32 := (naF x).2
  refine T.skip (T.thenN (T.seq (T.block (T.seq (T.region ?_)))))
  refine L.move rfl rfl ?_
  refine L.move rfl rfl ?_
  refine L.idx (i := i) rfl Tryz.underlying25 sz9 rfl rfl qM (by first | rfl | omega | (simp; done)) qG (fun b22 o22 => ?_)
  refine L.load rfl sc9 rfl qC ?_
  refine L.callF rfl (evs.cons rfl <| evs.nil) qD qS (lname_spec (s := x)) (by rintro u D1 M1 ⟨rfl, rfl, rfl⟩; exact ⟨rfl, _, qA, qF⟩) ?_
  refine L.alloc rfl ze31 (fun b7 => ?_)
  refine L.storeA ag31 rfl rfl qL qO qU qW ?_
  refine L.nil ?_
  refine T.freeze (A := cl b7 31 (iC (naF x))) qP ?_
  refine T.thenN (T.seq (T.region ?_))
  refine L.move rfl rfl ?_
  refine L.loadA rfl ag31 rfl (CellsN.ofF qM (AtN.all hi3)) ?_
  refine L.buildSlice rfl bs27 (by decide) (BP.agg rfl rfl (by first | with_reducible assumption | (simp; done) | (simp only [List.length_map]; with_reducible assumption) | (simp [*]; done) | rfl) (Nat.le_of_ble_eq_true rfl) qR <| BP.doneE (out := []) rfl) (fun b27 => ?_)
  refine L.append1 rfl Tryz.underlying27 el31 rfl rfl qP qM (by rw [List.append_nil]; exact iC_len _) (fun u hu => by rw [List.append_nil] at hu; exact one_iC u hu) qI qI (fun a28 c28 => ?_)
  refine L.assign rfl rfl ?_
  refine L.nil ?_
  refine T.thenN (T.region ?_)
  refine L.move rfl rfl ?_
  refine L.loadA rfl ag31 rfl (CellsN.ofF qM (AtN.all hi3)) ?_
  refine L.callF rfl (evs.cons rfl <| evs.nil) qD qS (obytes_spec (l := (naF x).1) hi32) (by rintro u D1 M1 ⟨rfl, rfl, rfl⟩; exact ⟨rfl, _, qA, qF⟩) ?_
  refine L.buildSlice rfl bs25 (by decide) (BP.one rfl rfl rfl <| BP.doneE (out := []) rfl) (fun b32 => ?_)
  refine L.append1 rfl Tryz.underlying25 el9 rfl rfl qP qM rfl qO1 qI qI (fun a33 c33 => ?_)
  refine L.assign rfl rfl ?_
  refine L.nil ?_
  refine T.blkN (T.thenN (T.region ?_))
  refine L.move rfl rfl ?_
  refine L.addN rfl rfl rfl (by omega) ?_
  refine L.assign rfl rfl ?_
  refine L.nil ?_
  refine T.thenN ?_
  refine T.ownEq (sz := 32) _ (((l.take (i + 1)).map naF).map iC) qP (by rw [List.take_add_one, hgi, List.map_append, List.map_append, List.append_nil]; rfl) ?_
  refine T.ownEq (sz := 1) _ ((((l.take (i + 1)).map naF).map (·.1)).map ys) qP (by rw [List.take_add_one, hgi, List.map_append, List.map_append, List.map_append]; rfl) ?_
  exact T.back ⟨i + 1, _, _, _, _, ⟨by omega, by omega⟩, rfl, rfl, rfl, rfl⟩ qI (.cons (t := 6) rfl <| .cons (t := 4) rfl <| .cons (t := 5) rfl <| SubK.nil _) (.cons (t := 0) rfl <| SubK.nil _) qD qD qF
 ·try simp only [dq] at h17
  have hwf : ¬ (i < n ∧ i < 12) := fun e => by have := hw.2 e; rw [h17] at this; cases this
  have hfin : l.take i = l.take 12 := by
   rcases Nat.lt_or_ge i 12 with q | q
   ·rw [List.take_of_length_le (by omega), List.take_of_length_le (by omega)]
   ·rw [show i = 12 by omega]
  refine T.exit (T.thenX (T.thenX (T.blkX (T.thenN (T.seq (T.region ?_))))))
  refine L.move rfl rfl ?_
  refine L.move rfl rfl ?_
  refine L.assign rfl rfl ?_
  refine L.assign rfl rfl ?_
  refine L.nil ?_
  refine T.thenN (T.ret ?_)
  have hn1 : (naL l).length = i := by unfold naL; rw [← hfin, List.length_map, List.length_take]; omega
  refine T.ownEq (sz := 32) _ ((naL l).map iC) qP (by unfold naL; rw [hfin]) ?_
  refine T.ownEq (sz := 1) _ (((naL l).map (·.1)).map ys) qP (by unfold naL; rw [hfin]) ?_
  exact T.ret2 rfl rfl rfl ⟨_, _, _, _, _, rfl, hn1, rfl, rfl⟩ qD qF
set_option maxHeartbeats 400000 in
theorem r4ids_spec {a : Option Addr} {n c : Nat} {l : List ID32} (hn : n ≤ 1000000) : Spec Tryz.prog 61 [.slice a n c] [rsl 1 a n c ((l.map (·.1)).map ys)] [] (fun v D' M' => v = S (idsB l) ∧ D' = [] ∧ M' = []) := by
 refine Spec.intro (n := 21) Tryz.func61 rfl rfl (by decide) (Nat.le_of_ble_eq_true rfl) rfl (fun _ => qA) (fun _ => qA) ?_
 intro σ D M
 refine T.rslLen2 (rows := (l.map (·.1)).map ys) qM (fun hpl hpc => ?_)
 rw [List.length_map, List.length_map] at hpl
 
 refine T.seq (T.region ?_)
 refine L.assign rfl rfl ?_
 refine L.nil ?_
 refine T.thenN (T.seq (T.region ?_))
 refine L.move rfl rfl ?_
 refine L.lenSl rfl Tryz.underlying25 rfl ?_
 refine L.convU rfl Tryz.underlying3 Tryz.underlying117 rfl qI ?_
 refine L.callF rfl (evs.cons rfl <| evs.nil) qD qS (rnum_spec (n := n) (by omega)) (by rintro u D1 M1 ⟨rfl, rfl, rfl⟩; exact ⟨rfl, _, qA, qF⟩) ?_
 refine L.known (t := 9) (u := S (idsI n l 0)) rfl (congrArg S (by simp [idsI])) ?_
 refine L.assign rfl rfl ?_
 refine L.nil ?_
 refine T.thenN (T.seq (T.seq (T.region ?_)))
 refine L.move rfl rfl ?_
 refine L.lenSl rfl Tryz.underlying25 rfl ?_
 refine L.move rfl rfl ?_
 refine L.nil ?_
 refine T.thenN (T.block ?_)
 refine T.loop (fun K' D' M' μ => ∃ (i : Nat), (i ≤ n) ∧ K' = [(12, .int .i64 (i : Int)), (3, S (idsI n l i))] ∧ D' = [] ∧ M' = [] ∧ μ = n - i) (.cons (t := 10) rfl <| .cons (t := 11) rfl <| SubK.nil _) (⟨0, Nat.zero_le _, rfl, rfl, rfl, rfl⟩) (.cons (t := 12) rfl <| .cons (t := 3) rfl <| SubK.nil _) qD qS ?_
 rintro K1 D1 M1 m1 ⟨i, hi, rfl, rfl, rfl, rfl⟩
 refine T.norm3 qA qA qA ?_
 refine T.seq (T.region ?_)
 refine L.ltI rfl rfl rfl ?_
 refine L.nil ?_
 refine T.thenN (T.seq ?_)
 refine T.cond rfl (fun h13 => ?_) (fun h13 => ?_)
 ·try simp only [dq] at h13
  refine T.skip (T.thenN (T.seq (T.block (T.seq ?_))))
  have hgi : l[i]? = some (gd l i) := gd_get (by omega)
  obtain ⟨x, hx_⟩ : ∃ x, x = gd l i := ⟨_, rfl⟩
  have hgm : (l.map (·.1))[i]? = some x.1 := by rw [hx_]; exact gd_map (by omega)
  rw [← hx_] at hgi
  have hgr : ((l.map (·.1)).map ys)[i]? = some (ys x.1) := map_get hgm
  have hx := x.2
  have hil := idsI_len (n := n) (l := l) (i := i) hn
  refine T.region ?_
  refine L.idx (i := i) rfl Tryz.underlying25 sz9 rfl rfl qM (by first | rfl | omega | (simp; done)) qG (fun b14 o14 => ?_)
  refine L.load rfl sc9 rfl qC ?_
  refine L.assign rfl rfl ?_
  refine L.nil ?_
  refine T.thenN (T.region ?_)
  refine L.move rfl rfl ?_
  refine L.move rfl rfl ?_
  refine L.addS rfl rfl rfl qI ?_
  refine L.known (t := 18) (u := S (idsI n l (i + 1))) rfl (congrArg S (by rw [idsI_s hgi])) ?_
  refine L.assign rfl rfl ?_
  refine L.nil ?_
  refine T.blkN (T.thenN (T.region ?_))
  refine L.addN rfl rfl rfl (by omega) ?_
  refine L.move rfl rfl ?_
  refine L.nil ?_
  refine T.thenN ?_
  exact T.back ⟨i + 1, (by omega), rfl, rfl, rfl, rfl⟩ qI (.cons (t := 12) rfl <| .cons (t := 3) rfl <| SubK.nil _) (.cons (t := 10) rfl <| .cons (t := 11) rfl <| SubK.nil _) qD qD qF
 ·try simp only [dq] at h13
  obtain rfl : i = n := by omega
  refine T.exit (T.thenX (T.thenX (T.blkX (T.thenN (T.seq (T.region ?_))))))
  refine L.move rfl rfl ?_
  refine L.assign rfl rfl ?_
  refine L.nil ?_
  refine T.thenN (T.ret ?_)
  exact T.ret1 rfl rfl ⟨by unfold idsB; rw [hpl], rfl, rfl⟩ qD qF
set_option maxHeartbeats 400000 in
theorem rtext11_spec {a : Option Addr} {n c : Nat} {l : List ID32} {p : Pt} (hn : n ≤ 1000000) (hp0 : 0 ≤ p.2) (hp : p.2 ≤ 4611686018427387904) : Spec Tryz.prog 26 [.agg (inR p a n c).toArray] [rsl 1 a n c ((l.map (·.1)).map ys)] [] (fun v D' M' => v = S (inT p l) ∧ D' = [] ∧ M' = []) := by
 refine Spec.intro (n := 16) Tryz.func26 rfl rfl (by decide) (Nat.le_of_ble_eq_true rfl) rfl (fun _ => qA) (fun _ => qA) ?_
 intro σ D M
 refine T.rslLen2 (rows := (l.map (·.1)).map ys) qM (fun hpl hpc => ?_)
 rw [List.length_map, List.length_map] at hpl
 have hp32 := p.1.2
 have hpt : p.2 = ((p.2.toNat : Nat) : Int) := by omega
 have hil := idsB_len (l := l) (by omega)
 have hp9 := numB_len (n := p.2.toNat) (by omega)
 refine T.seq (T.region ?_)
 refine L.box rfl rfl rfl (fun b1 => ?_)
 refine L.assign rfl rfl ?_
 refine L.nil ?_
 refine T.freeze (A := cl b1 43 (inR p a n c)) qP ?_
 refine T.thenN (T.seq ?_)
 refine T.regionQ qk qk ?_
 first | refine L.field0 rfl fo43_0 rfl ?_ | refine L.field rfl fo43_0 rfl ?_
 first | refine L.field0 rfl fo41_0 rfl ?_ | refine L.field rfl fo41_0 rfl ?_
 refine L.load rfl sc9 rfl qC ?_
 first | refine L.field0 rfl fo43_0 rfl ?_ | refine L.field rfl fo43_0 rfl ?_
 first | refine L.field0 rfl fo41_1 rfl ?_ | refine L.field rfl fo41_1 rfl ?_
 refine L.load rfl sc3 rfl qC ?_
 refine L.convU rfl Tryz.underlying3 Tryz.underlying117 rfl qI ?_
 refine L.known (t := 9) (u := .int .u64 ((p.2.toNat : Nat) : Int)) rfl (congrArg (Value.int .u64) hpt) ?_
 refine L.callF rfl (evs.cons rfl <| evs.nil) qD qS (rnum_spec (n := p.2.toNat) (by omega)) (by rintro u D1 M1 ⟨rfl, rfl, rfl⟩; exact ⟨rfl, _, qA, qF⟩) ?_
 refine L.addS rfl rfl rfl qI ?_
 first | refine L.field0 rfl fo43_1 rfl ?_ | refine L.field rfl fo43_1 rfl ?_
 refine L.load rfl sc25 rfl qC ?_
 refine L.callF rfl (evs.cons rfl <| evs.nil) qD qS (r4ids_spec (l := l) hn) (by rintro u D1 M1 ⟨rfl, rfl, rfl⟩; exact ⟨rfl, _, qA, qF⟩) ?_
 refine L.addS rfl rfl rfl qI ?_
 refine L.known (t := 15) (u := S (inT p l)) rfl rfl ?_
 refine L.assign rfl rfl ?_
 refine L.nilQ ?_
 refine T.thenN (T.ret ?_)
 exact T.ret1 rfl rfl ⟨rfl, rfl, rfl⟩ qD qF
set_option maxHeartbeats 400000 in
theorem rname11_spec {a : Option Addr} {n c : Nat} {l : List ID32} {p : Pt} (hn : n ≤ 1000000) (hp0 : 0 ≤ p.2) (hp : p.2 ≤ 4611686018427387904) : Spec Tryz.prog 18 [.agg (inR p a n c).toArray] [rsl 1 a n c ((l.map (·.1)).map ys)] [] (fun v D' M' => v = S (inN p l).1 ∧ D' = [] ∧ M' = []) := by
 refine Spec.intro (n := 6) Tryz.func18 rfl rfl (by decide) (Nat.le_of_ble_eq_true rfl) rfl (fun _ => qA) (fun _ => qA) ?_
 intro σ D M
 refine T.rslLen2 (rows := (l.map (·.1)).map ys) qM (fun hpl hpc => ?_)
 rw [List.length_map, List.length_map] at hpl
 have hil := inT_len (l := l) hp (by omega)
 refine T.seq (T.region ?_)
 refine L.box rfl rfl rfl (fun b1 => ?_)
 refine L.assign rfl rfl ?_
 refine L.nil ?_
 refine T.freeze (A := cl b1 43 (inR p a n c)) qP ?_
 refine T.thenN (T.seq (T.region ?_))
 refine L.loadA rfl ag43 rfl qN ?_
 refine L.callF rfl (evs.cons rfl <| evs.nil) qD qS (rtext11_spec (l := l) hn hp0 hp) (by rintro u D1 M1 ⟨rfl, rfl, rfl⟩; exact ⟨rfl, _, qA, qF⟩) ?_
 refine L.callF rfl (evs.cons rfl <| evs.cons rfl <| evs.nil) qD qS (r2of_spec (kind := 3) (t := inT p l) (by omega)) (by rintro u D1 M1 ⟨rfl, rfl, rfl⟩; exact ⟨rfl, _, qA, qF⟩) ?_
 refine L.known (t := 5) (u := S (inN p l).1) rfl (by unfold inN; rw [oI_val]) ?_
 refine L.assign rfl rfl ?_
 refine L.nil ?_
 refine T.thenN (T.ret ?_)
 exact T.ret1 rfl rfl ⟨rfl, rfl, rfl⟩ qD qF
end Cv
