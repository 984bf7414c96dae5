/-
  The walks: infos.
-/
import Derived.Test.YtcilkdnbbebjgaaGreatKa11
import Derived.Test.YtcilkdnbbebjgaaGreatIJ11
import Derived.Test.YtcilkdnbbebjgaaGreatProg
import Derived.KernelRfl
set_option linter.unusedVariables false
set_option linter.unusedSimpArgs false
set_option linter.unusedSectionVars false
set_option maxRecDepth 10000
namespace Cv
open Go Go.Proofs
/-! ## infos: the plain model -/
@[reducible] def inC (p : Pt) (a : Option Addr) (n c : Nat) : List Value := p.1.1.map Y ++ [.int .i64 p.2, .slice a n c]
theorem inC_len (p : Pt) (a : Option Addr) (n c : Nat) : (inC p a n c).length = 34 := by simp [p.1.2]
def idsI (n : Nat) (l : List ID32) (i : Nat) : List UInt8 := numB n ++ (l.take i).flatMap (·.1)
def idsB (l : List ID32) : List UInt8 := idsI l.length l l.length
theorem idsI_s {n : Nat} {l : List ID32} {i : Nat} {x : ID32} (h : l[i]? = some x) : idsI n l (i + 1) = idsI n l i ++ x.1 := by
  unfold idsI
  rw [List.take_add_one, h, List.flatMap_append]
  simp
theorem ids_flat_len (l : List ID32) : (l.flatMap (·.1)).length = 32 * l.length := by
  induction l with
  | nil => rfl
  | cons x l ih => rw [List.flatMap_cons, List.length_append, ih, x.2, List.length_cons]; omega
theorem idsI_len {n : Nat} {l : List ID32} {i : Nat} (hn : n ≤ 1000000) : (idsI n l i).length ≤ 9 + 32 * i := by
  have h1 := numB_len (n := n) (by omega)
  have h2 : (l.take i).length ≤ i := by rw [List.length_take]; omega
  unfold idsI; rw [List.length_append, ids_flat_len]; omega
theorem idsB_len {l : List ID32} (hl : l.length ≤ 1000000) : (idsB l).length ≤ 9 + 32 * l.length := idsI_len hl
def inT (p : Pt) (l : List ID32) : List UInt8 := p.1.1 ++ numB p.2.toNat ++ idsB l
theorem inT_len {p : Pt} {l : List ID32} (hp : p.2 ≤ 4611686018427387904) (hl : l.length ≤ 1000000) : (inT p l).length ≤ 50 + 32 * l.length := by
  have h1 := numB_len (n := p.2.toNat) (by omega)
  have h2 := idsI_len (n := l.length) (l := l) (i := l.length) hl
  have h3 := p.1.2
  unfold inT; rw [List.length_append, List.length_append]; unfold idsB; omega
def inN (p : Pt) (l : List ID32) : ID32 := oI 3 (inT p l)
def rsR (l : List ID32) (i : Nat) : Prop := ∀ j, j + 1 < i → ¬ 0 ≤ cfI (gd l j) (gd l (j + 1))
instance (l : List ID32) (i : Nat) : Decidable (rsR l i) := decidable_of_iff (∀ j, j < i - 1 → ¬ 0 ≤ cfI (gd l j) (gd l (j + 1))) ⟨fun h j hj => h j (by omega), fun h j hj => h j (by omega)⟩
def chkI (p : Pt) (l : List ID32) : Int := if p.2 < 1 then 2 else if 32768 < p.2 ∨ 8 < l.length then 5 else if rsR l l.length then 0 else 2
theorem rsR_s {l : List ID32} {i : Nat} (hi : 1 ≤ i) (h : rsR l i) (hc : ¬ 0 ≤ cfI (gd l (i - 1)) (gd l i)) : rsR l (i + 1) := fun j hj => by
  rcases Nat.lt_or_ge (j + 1) i with a | a
  · exact h j a
  · have : j = i - 1 := by omega
    subst this
    rw [Nat.sub_add_cancel hi]; exact hc
theorem chk_2 {p : Pt} {l : List ID32} (h : p.2 < 1) : chkI p l = 2 := by unfold chkI; rw [if_pos h]
theorem chk_5 {p : Pt} {l : List ID32} (h : ¬ p.2 < 1) (k : 32768 < p.2 ∨ 8 < l.length) : chkI p l = 5 := by unfold chkI; rw [if_neg h, if_pos k]
theorem chk_0 {p : Pt} {l : List ID32} (h : ¬ p.2 < 1) (k : ¬ (32768 < p.2 ∨ 8 < l.length)) (r : rsR l l.length) : chkI p l = 0 := by unfold chkI; rw [if_neg h, if_neg k, if_pos r]
theorem chk_r {p : Pt} {l : List ID32} {i : Nat} (h : ¬ p.2 < 1) (k : ¬ (32768 < p.2 ∨ 8 < l.length)) (hi : 1 ≤ i ∧ i < l.length) (r : 0 ≤ cfI (gd l (i - 1)) (gd l i)) : chkI p l = 2 := by
  unfold chkI; rw [if_neg h, if_neg k, if_neg fun q => q (i - 1) (by omega) (by rw [Nat.sub_add_cancel hi.1]; exact r)]
theorem fo35_0 : Fo Tryz.prog 35 0 0 := fun a w => by kernel_rfl
theorem fo35_1 : Fo Tryz.prog 35 1 33 := fun a w => by kernel_rfl
theorem sc27 : Sc Tryz.prog 27 := fun w => ⟨by kernel_rfl, by kernel_rfl⟩
theorem ag35 : Ag Tryz.prog 35 34 := fun w => ⟨by kernel_rfl, by kernel_rfl⟩
set_option maxHeartbeats 400000 in
theorem bids_spec {a : Option Addr} {n c : Nat} {l : List ID32} (hn : n ≤ 1000000) : Spec Tryz.prog 58 [.slice a n c] [rsl 32 a n c (l.map iC)] [] (fun v D' M' => v = S (idsB l) ∧ D' = [] ∧ M' = []) := by
 refine Spec.intro (n := 22) Tryz.func58 rfl rfl (by decide) (Nat.le_of_ble_eq_true rfl) rfl (fun _ => qA) (fun _ => qA) ?_
 intro σ D M
 refine T.rslLen2 (rows := l.map iC) qM (fun hpl hpc => ?_)
 rw [List.length_map] at hpl
 
 refine T.seq (T.region ?_)
 refine L.assign rfl rfl ?_
 refine L.nil ?_
 refine T.thenN (T.seq (T.region ?_))
 refine L.move rfl rfl ?_
 refine L.lenSl rfl Tryz.underlying27 rfl ?_
 refine L.buildSlice rfl bs171 (by decide) (BP.one rfl rfl rfl <| BP.doneE (out := []) rfl) (fun b8 => ?_)
 refine L.toOwn (len := 1) qP (rows := ([(n : Int)] : List Int).map e3) (sz := 1) (by rfl) rfl (by simp) ?_
 refine L.ownRsl qP ?_
 refine L.call rfl (evs.cons rfl <| evs.nil) qD qS (bnums_spec (xs := [(n : Int)]) (by decide) (by simp; omega)) ?_
 rintro _ _ _ ⟨rfl, rfl, rfl⟩
 refine L.norm qA qA ?_
 refine L.known (t := 9) (u := S (idsI n l 0)) rfl (congrArg S (by simp [idsI])) ?_
 refine L.assign rfl rfl ?_
 refine L.nil ?_
 refine T.thenN (T.seq (T.seq (T.region ?_)))
 refine L.move rfl rfl ?_
 refine L.lenSl rfl Tryz.underlying27 rfl ?_
 refine L.move rfl rfl ?_
 refine L.nil ?_
 refine T.thenN (T.block ?_)
 refine T.loop (fun K' D' M' μ => ∃ (i : Nat), (i ≤ n) ∧ K' = [(12, .int .i64 (i : Int)), (3, S (idsI n l i))] ∧ D' = [] ∧ M' = [] ∧ μ = n - i) (.cons (t := 10) rfl <| .cons (t := 11) rfl <| SubK.nil _) (⟨0, Nat.zero_le _, rfl, rfl, rfl, rfl⟩) (.cons (t := 12) rfl <| .cons (t := 3) rfl <| SubK.nil _) qD qS ?_
 rintro K1 D1 M1 m1 ⟨i, hi, rfl, rfl, rfl, rfl⟩
 refine T.norm3 qA qA qA ?_
 refine T.seq (T.region ?_)
 refine L.ltI rfl rfl rfl ?_
 refine L.nil ?_
 refine T.thenN (T.seq ?_)
 refine T.cond rfl (fun h13 => ?_) (fun h13 => ?_)
 ·try simp only [dq] at h13
  refine T.skip (T.thenN (T.seq (T.block (T.seq ?_))))
  have hgi : l[i]? = some (gd l i) := gd_get (by omega)
  obtain ⟨x, hx_⟩ : ∃ x, x = gd l i := ⟨_, rfl⟩
  rw [← hx_] at hgi
  have hgr : (l.map iC)[i]? = some (iC x) := map_get hgi
  have hx := x.2
  have hx3 := iC_len x
  have hil := idsI_len (n := n) (l := l) (i := i) hn
  refine T.region ?_
  refine L.idx (i := i) rfl Tryz.underlying27 sz31 rfl rfl qM (by first | rfl | omega | (simp; done)) qG (fun b14 o14 => ?_)
  refine L.loadA rfl ag31 rfl (CellsN.ofD qM (hx3)) ?_
  refine L.alloc rfl ze31 (fun b5 => ?_)
  refine L.storeA ag31 rfl rfl qL qO qU qW ?_
  refine L.nil ?_
  refine T.toOwn (b := b5) (len := 32) qP (rows := x.1.map yr) (sz := 1) (yr_flat x.1) (by simp [hx]) (by simp) ?_
  refine T.ownRsl qP ?_
  refine T.thenN (T.region ?_)
  refine L.move rfl rfl ?_
  refine L.sliceArr rfl Tryz.underlying31 sz5 rfl Bd.no Bd.no qI qI ?_
  refine L.known (t := 17) (u := .slice (some ⟨b5, 0, none⟩) 32 32) rfl (by first | rfl | simp [cutA, Addr.add]) ?_
  refine L.bytesStr rfl Tryz.underlying97 Tryz.underlying5 Tryz.underlying9 rfl qM ?_
  refine L.addS rfl rfl rfl qI ?_
  refine L.known (t := 19) (u := S (idsI n l (i + 1))) rfl (congrArg S (by rw [idsI_s hgi])) ?_
  refine L.assign rfl rfl ?_
  refine L.nil ?_
  refine T.blkN (T.thenN (T.region ?_))
  refine L.addN rfl rfl rfl (by omega) ?_
  refine L.move rfl rfl ?_
  refine L.nil ?_
  refine T.thenN ?_
  exact T.back ⟨i + 1, (by omega), rfl, rfl, rfl, rfl⟩ qI (.cons (t := 12) rfl <| .cons (t := 3) rfl <| SubK.nil _) (.cons (t := 10) rfl <| .cons (t := 11) rfl <| SubK.nil _) qD qD qF
 ·try simp only [dq] at h13
  obtain rfl : i = n := by omega
  refine T.exit (T.thenX (T.thenX (T.blkX (T.thenN (T.seq (T.region ?_))))))
  refine L.move rfl rfl ?_
  refine L.assign rfl rfl ?_
  refine L.nil ?_
  refine T.thenN (T.ret ?_)
  exact T.ret1 rfl rfl ⟨by unfold idsB; rw [hpl], rfl, rfl⟩ qD qF
set_option maxHeartbeats 400000 in
theorem itext_spec {a : Option Addr} {n c : Nat} {l : List ID32} {p : Pt} (hn : n ≤ 1000000) (hp : p.2 ≤ 4611686018427387904) : Spec Tryz.prog 22 [.agg (inC p a n c).toArray] [rsl 32 a n c (l.map iC)] [] (fun v D' M' => v = S (inT p l) ∧ D' = [] ∧ M' = []) := by
 refine Spec.intro (n := 17) Tryz.func22 rfl rfl (by decide) (Nat.le_of_ble_eq_true rfl) rfl (fun _ => qA) (fun _ => qA) ?_
 intro σ D M
 refine T.rslLen2 (rows := l.map iC) qM (fun hpl hpc => ?_)
 rw [List.length_map] at hpl
 have hp3 := inC_len p a n c
 have hp32 := p.1.2
 have hil := idsB_len (l := l) (by omega)
 have hp9 := numB_len (n := p.2.toNat) (by omega)
 refine T.seq (T.region ?_)
 refine L.box rfl rfl rfl (fun b1 => ?_)
 refine L.assign rfl rfl ?_
 refine L.nil ?_
 refine T.freeze (A := cl b1 35 (inC p a n c)) qP ?_
 refine T.thenN (T.seq ?_)
 refine T.regionA (clsL [1, 1, 0, 0, 1, 1, 0, 0, 0, 1, 1, 0, 2, 1, 1]) qk ?_
 refine A.takeP (i := 0) rfl rfl rfl rfl qk qk qk rfl qD ?_
 first | refine L.field0 rfl fo35_0 rfl ?_ | refine L.field rfl fo35_0 rfl ?_
 refine A.took ?_
 refine A.takeP (i := 1) rfl rfl rfl rfl qk qk qk rfl qD ?_
 first | refine L.field0 rfl fo33_0 rfl ?_ | refine L.field rfl fo33_0 rfl ?_
 refine A.took ?_
 refine A.takeP (i := 4) rfl rfl rfl rfl qk qk qk rfl qD ?_
 first | refine L.field0 rfl fo35_0 rfl ?_ | refine L.field rfl fo35_0 rfl ?_
 refine A.took ?_
 refine A.takeP (i := 5) rfl rfl rfl rfl qk qk qk rfl qD ?_
 first | refine L.field0 rfl fo33_1 rfl ?_ | refine L.field rfl fo33_1 rfl ?_
 refine A.took ?_
 refine A.takeP (i := 10) rfl rfl rfl rfl qk qk qk rfl qD ?_
 first | refine L.field0 rfl fo35_1 rfl ?_ | refine L.field rfl fo35_1 rfl ?_
 refine A.took ?_
 refine A.take (i := 2) rfl rfl rfl rfl qk qk qk qk rfl qD qF ?_
 refine L.loadA rfl ag31 rfl qN ?_
 refine A.took ?_
 refine A.take (i := 6) rfl rfl rfl rfl qk qk qk qk rfl qD qF ?_
 refine L.load rfl sc3 rfl qC ?_
 refine A.took ?_
 refine A.take (i := 11) rfl rfl rfl rfl qk qk qk qk rfl qD qF ?_
 refine L.load rfl sc27 rfl qC ?_
 refine A.took ?_
 refine A.branch (is := [3, 7]) qk (by decide) (Each.cons rfl ?_ <| Each.cons rfl ?_ <| Each.nil) 
 ·skip
  refine L.callF rfl (evs.cons rfl <| evs.nil) qD qS (obytes_spec (l := p.1.1) hp32) (by rintro u D1 M1 ⟨rfl, rfl, rfl⟩; exact ⟨rfl, _, qA, qF⟩) ?_
  refine A.back rfl qD qF ?_
  refine A.branch (is := [7]) qk (by decide) (Each.cons rfl ?_ <| Each.nil) 
  refine L.buildSlice rfl bs171 (by decide) (BP.one rfl rfl rfl <| BP.doneE (out := []) rfl) (fun b10 => ?_)
  refine L.toOwn (len := 1) qP (rows := ([p.2] : List Int).map e3) (sz := 1) (by rfl) rfl (by simp) ?_
  refine L.ownRsl qP ?_
  refine A.back rfl qD qF ?_
  refine A.branch (is := [8]) qk (by decide) (Each.cons rfl ?_ <| Each.nil) 
  refine L.call rfl (evs.cons rfl <| evs.nil) qD qS (bnums_spec (xs := [p.2]) (by decide) (by simp; omega)) ?_
  rintro _ _ _ ⟨rfl, rfl, rfl⟩
  refine L.norm qA qA ?_
  refine L.known (t := 11) (u := S (numB p.2.toNat)) rfl (congrArg S (by simp)) ?_
  refine A.back rfl qD qF ?_
  refine A.takeP (i := 9) rfl rfl rfl rfl qk qk qk rfl qD ?_
  refine L.addS rfl rfl rfl qI ?_
  refine A.took ?_
  refine A.branch (is := [12]) qk (by decide) (Each.cons rfl ?_ <| Each.nil) 
  refine L.callF rfl (evs.cons rfl <| evs.nil) qD qS (bids_spec (l := l) hn) (by rintro u D1 M1 ⟨rfl, rfl, rfl⟩; exact ⟨rfl, _, qA, qF⟩) ?_
  refine A.backT rfl qD ?_
  refine A.takeP (i := 13) rfl rfl rfl rfl qk qk qk rfl qD ?_
  refine L.addS rfl rfl rfl qI ?_
  refine L.known (t := 16) (u := S (inT p l)) rfl rfl ?_
  refine A.took ?_
  refine A.takeP (i := 14) rfl rfl rfl rfl qk qk qk rfl qD ?_
  refine L.assign rfl rfl ?_
  refine A.took ?_
  refine A.done qk ?_
  refine T.thenN (T.ret ?_)
  exact T.ret1 rfl rfl ⟨rfl, rfl, rfl⟩ qD qF
 ·skip
  refine L.buildSlice rfl bs171 (by decide) (BP.one rfl rfl rfl <| BP.doneE (out := []) rfl) (fun b10 => ?_)
  refine L.toOwn (len := 1) qP (rows := ([p.2] : List Int).map e3) (sz := 1) (by rfl) rfl (by simp) ?_
  refine L.ownRsl qP ?_
  refine A.back rfl qD qF ?_
  refine A.branch (is := [3]) qk (by decide) (Each.cons rfl ?_ <| Each.nil) 
  refine L.callF rfl (evs.cons rfl <| evs.nil) qD qS (obytes_spec (l := p.1.1) hp32) (by rintro u D1 M1 ⟨rfl, rfl, rfl⟩; exact ⟨rfl, _, qA, qF⟩) ?_
  refine A.back rfl qD qF ?_
  refine A.branch (is := [8]) qk (by decide) (Each.cons rfl ?_ <| Each.nil) 
  refine L.call rfl (evs.cons rfl <| evs.nil) qD qS (bnums_spec (xs := [p.2]) (by decide) (by simp; omega)) ?_
  rintro _ _ _ ⟨rfl, rfl, rfl⟩
  refine L.norm qA qA ?_
  refine L.known (t := 11) (u := S (numB p.2.toNat)) rfl (congrArg S (by simp)) ?_
  refine A.back rfl qD qF ?_
  refine A.takeP (i := 9) rfl rfl rfl rfl qk qk qk rfl qD ?_
  refine L.addS rfl rfl rfl qI ?_
  refine A.took ?_
  refine A.branch (is := [12]) qk (by decide) (Each.cons rfl ?_ <| Each.nil) 
  refine L.callF rfl (evs.cons rfl <| evs.nil) qD qS (bids_spec (l := l) hn) (by rintro u D1 M1 ⟨rfl, rfl, rfl⟩; exact ⟨rfl, _, qA, qF⟩) ?_
  refine A.backT rfl qD ?_
  refine A.takeP (i := 13) rfl rfl rfl rfl qk qk qk rfl qD ?_
  refine L.addS rfl rfl rfl qI ?_
  refine L.known (t := 16) (u := S (inT p l)) rfl rfl ?_
  refine A.took ?_
  refine A.takeP (i := 14) rfl rfl rfl rfl qk qk qk rfl qD ?_
  refine L.assign rfl rfl ?_
  refine A.took ?_
  refine A.done qk ?_
  refine T.thenN (T.ret ?_)
  exact T.ret1 rfl rfl ⟨rfl, rfl, rfl⟩ qD qF
set_option maxHeartbeats 400000 in
theorem iname_spec {a : Option Addr} {n c : Nat} {l : List ID32} {p : Pt} (hn : n ≤ 1000000) (hp : p.2 ≤ 4611686018427387904) : Spec Tryz.prog 17 [.agg (inC p a n c).toArray] [rsl 32 a n c (l.map iC)] [] (fun v D' M' => v = .agg (iC (inN p l)).toArray ∧ D' = [] ∧ M' = []) := by
 refine Spec.intro (n := 7) Tryz.func17 rfl rfl (by decide) (Nat.le_of_ble_eq_true rfl) rfl (fun _ => qA) (fun _ => qA) ?_
 intro σ D M
 refine T.rslLen2 (rows := l.map iC) qM (fun hpl hpc => ?_)
 rw [List.length_map] at hpl
 have hp3 := inC_len p a n c
 have hp32 := p.1.2
 have hil := inT_len (l := l) hp (by omega)
 have hn3 := iC_len (inN p l)
 refine T.seq (T.region ?_)
 refine L.box rfl rfl rfl (fun b1 => ?_)
 refine L.alloc rfl ze31 (fun b2 => ?_)
 refine L.nil ?_
 refine T.freeze (A := cl b1 35 (inC p a n c)) qP ?_
 refine T.thenN (T.seq (T.region ?_))
 refine L.loadA rfl ag35 rfl qN ?_
 refine L.callF rfl (evs.cons rfl <| evs.nil) qD qS (itext_spec (l := l) hn hp) (by rintro u D1 M1 ⟨rfl, rfl, rfl⟩; exact ⟨rfl, _, qA, qF⟩) ?_
 refine L.buildSlice rfl bs25 (by decide) (BP.one rfl rfl rfl <| BP.doneE (out := []) rfl) (fun b5 => ?_)
 refine L.toOwn (len := 1) qP (rows := [inT p l].map ys) (sz := 1) (by rfl) rfl (by simp) ?_
 refine L.ownRsl qP ?_
 refine L.call rfl (evs.cons rfl <| evs.cons rfl <| evs.nil) qD qS (oidof_spec (ls := [inT p l]) (by simp; omega) (by simp)) ?_
 rintro _ _ _ ⟨rfl, rfl, rfl⟩
 refine L.norm qA qA ?_
 refine L.known (t := 6) (u := .agg (iC (inN p l)).toArray) rfl (by unfold inN; simp only [iC, oI_val, List.flatten_cons, List.flatten_nil, List.append_nil]) ?_
 refine L.storeA ag31 rfl rfl qL qO qU qW ?_
 refine L.nil ?_
 refine T.thenN (T.ret ?_)
 exact T.retA rfl ag31 rfl qN ⟨rfl, rfl, rfl⟩ qD qF
set_option maxHeartbeats 400000 in
theorem icheck_spec {a : Option Addr} {n c : Nat} {l : List ID32} {p : Pt} (hn : n ≤ 1000000) : Spec Tryz.prog 24 [.agg (inC p a n c).toArray] [rsl 32 a n c (l.map iC)] [] (fun v D' M' => v = .int .i64 (chkI p l) ∧ D' = [] ∧ M' = []) := by
 refine Spec.intro (n := 40) Tryz.func24 rfl rfl (by decide) (Nat.le_of_ble_eq_true rfl) rfl (fun _ => qA) (fun _ => qA) ?_
 intro σ D M
 refine T.rslLen2 (rows := l.map iC) qM (fun hpl hpc => ?_)
 rw [List.length_map] at hpl
 have hp3 := inC_len p a n c
 have hp32 := p.1.2
 
 refine T.seq (T.region ?_)
 refine L.box rfl rfl rfl (fun b1 => ?_)
 refine L.assign rfl rfl ?_
 refine L.nil ?_
 refine T.freeze (A := cl b1 35 (inC p a n c)) qP ?_
 refine T.thenN (T.seq (T.block (T.seq (T.region ?_))))
 first | refine L.field0 rfl fo35_0 rfl ?_ | refine L.field rfl fo35_0 rfl ?_
 first | refine L.field0 rfl fo33_1 rfl ?_ | refine L.field rfl fo33_1 rfl ?_
 refine L.load rfl sc3 rfl qC ?_
 refine L.ltI rfl rfl rfl ?_
 refine L.assign rfl rfl ?_
 refine L.nil ?_
 refine T.thenN ?_
 refine T.cond rfl (fun h4 => ?_) (fun h4 => ?_)
 ·try simp only [dq] at h4
  refine T.seq (T.region ?_)
  refine L.assign rfl rfl ?_
  refine L.nil ?_
  refine T.thenN (T.ret (T.blkR ?_))
  refine T.thenR ?_
  exact T.ret1 rfl rfl ⟨by rw [chk_2 h4], rfl, rfl⟩ qD qF
 ·try simp only [dq] at h4
  refine T.seq (T.region ?_)
  first | refine L.field0 rfl fo35_0 rfl ?_ | refine L.field rfl fo35_0 rfl ?_
  first | refine L.field0 rfl fo33_1 rfl ?_ | refine L.field rfl fo33_1 rfl ?_
  refine L.load rfl sc3 rfl qC ?_
  refine L.gtI rfl rfl rfl ?_
  refine L.move rfl rfl ?_
  refine L.part (t := 14) rfl (fun h1 => ?_) (fun h1 => ?_)
  ·try simp only [dq] at h1
   refine L.guardF (dj := 14) (c := true) rfl rfl rfl rfl rfl (by decide) ?_
   refine L.guardF (dj := 14) (c := true) rfl rfl rfl rfl rfl (by decide) ?_
   refine L.guardF (dj := 14) (c := true) rfl rfl rfl rfl rfl (by decide) ?_
   refine L.guardF (dj := 14) (c := true) rfl rfl rfl rfl rfl (by decide) ?_
   refine L.pickT rfl rfl rfl ?_
   refine L.assign rfl rfl ?_
   refine L.nil ?_
   refine T.thenN ?_
   refine T.condT rfl rfl ?_
   refine T.seq (T.region ?_)
   refine L.assign rfl rfl ?_
   refine L.nil ?_
   refine T.thenN (T.ret (T.blkR ?_))
   refine T.thenR ?_
   exact T.ret1 rfl rfl ⟨by rw [chk_5 h4 (by omega)], rfl, rfl⟩ qD qF
  ·try simp only [dq] at h1
   refine L.guardT (dj := 14) rfl rfl rfl ?_
   first | refine L.field0 rfl fo35_1 rfl ?_ | refine L.field rfl fo35_1 rfl ?_
   refine L.guardT (dj := 14) rfl rfl rfl ?_
   refine L.load rfl sc27 rfl qC ?_
   refine L.guardT (dj := 14) rfl rfl rfl ?_
   refine L.lenSl rfl Tryz.underlying27 rfl ?_
   refine L.guardT (dj := 14) rfl rfl rfl ?_
   refine L.gtI rfl rfl rfl ?_
   refine L.pickF rfl rfl rfl ?_
   refine L.assign rfl rfl ?_
   refine L.nil ?_
   refine T.thenN ?_
   refine T.cond rfl (fun h9 => ?_) (fun h9 => ?_)
   ·try simp only [dq] at h9
    refine T.seq (T.region ?_)
    refine L.assign rfl rfl ?_
    refine L.nil ?_
    refine T.thenN (T.ret (T.blkR ?_))
    refine T.thenR ?_
    exact T.ret1 rfl rfl ⟨by rw [chk_5 h4 (by omega)], rfl, rfl⟩ qD qF
   ·try simp only [dq] at h9
    refine T.skip (T.blkN (T.thenN (T.seq (T.seq (T.region ?_)))))
    refine L.assign rfl rfl ?_
    refine L.nil ?_
    refine T.thenN (T.block ?_)
    refine T.loop (fun K' D' M' μ => ∃ (i : Nat), ((1 ≤ i ∧ (i ≤ n ∨ i = 1)) ∧ rsR l i) ∧ K' = [(3, .int .i64 (i : Int))] ∧ D' = [] ∧ M' = [] ∧ μ = n - i) (.cons (t := 1) rfl <| SubK.nil _) (⟨1, ⟨by omega, fun j hj => by omega⟩, rfl, rfl, rfl, rfl⟩) (.cons (t := 3) rfl <| SubK.nil _) qD qS ?_
    rintro K1 D1 M1 m1 ⟨i, ⟨hi, hr⟩, rfl, rfl, rfl, rfl⟩
    refine T.norm3 qA qA qA ?_
    refine T.seq (T.seq (T.region ?_))
    refine L.move rfl rfl ?_
    first | refine L.field0 rfl fo35_1 rfl ?_ | refine L.field rfl fo35_1 rfl ?_
    refine L.load rfl sc27 rfl qC ?_
    refine L.lenSl rfl Tryz.underlying27 rfl ?_
    refine L.ltI rfl rfl rfl ?_
    refine L.nil ?_
    refine T.thenN ?_
    refine T.cond rfl (fun h24 => ?_) (fun h24 => ?_)
    ·try simp only [dq] at h24
     refine T.skip (T.thenN (T.seq (T.block (T.seq ?_))))
     have hg0 : l[i]? = some (gd l (i)) := gd_get (by omega)
     have hgr0 : (l.map iC)[i]? = some (iC (gd l (i))) := map_get hg0
     have hw0 := iC_len (gd l (i))
     have hv0 := (gd l (i)).2
     have hg1 : l[i - 1]? = some (gd l (i - 1)) := gd_get (by omega)
     have hgr1 : (l.map iC)[i - 1]? = some (iC (gd l (i - 1))) := map_get hg1
     have hw1 := iC_len (gd l (i - 1))
     have hv1 := (gd l (i - 1)).2
     refine T.rslAddr (rows := l.map iC) qM (fun e => by have := congrArg List.length e; rw [List.length_map] at this; simp only [List.length_nil] at this; omega) (fun b o ha => ?_)
     subst ha
     refine T.regionQ qk qk ?_
     first | refine L.field0 rfl fo35_1 rfl ?_ | refine L.field rfl fo35_1 rfl ?_
     refine L.load rfl sc27 rfl qC ?_
     refine L.move rfl rfl ?_
     refine L.subN rfl rfl rfl (by omega) ?_
     refine L.idxR (i := i - 1) rfl Tryz.underlying27 sz31 rfl rfl qM (by first | rfl | omega | (simp; done)) qI qG ?_
     refine L.loadA rfl ag31 rfl (CellsN.ofD qM (hw1)) ?_
     first | refine L.field0 rfl fo35_1 rfl ?_ | refine L.field rfl fo35_1 rfl ?_
     refine L.load rfl sc27 rfl qC ?_
     refine L.move rfl rfl ?_
     refine L.idxR (i := i) rfl Tryz.underlying27 sz31 rfl rfl qM (by first | rfl | omega | (simp; done)) qI qG ?_
     refine L.loadA rfl ag31 rfl (CellsN.ofD qM (hw0)) ?_
     refine L.callF rfl (evs.cons rfl <| evs.cons rfl <| evs.nil) qD qS (ocmp_spec (x := gd l (i - 1)) (y := gd l i)) (by rintro u D1 M1 ⟨rfl, rfl, rfl⟩; exact ⟨rfl, _, qA, qF⟩) ?_
     refine L.geI rfl rfl rfl ?_
     refine L.nilQ ?_
     refine T.thenN ?_
     refine T.cond rfl (fun h39 => ?_) (fun h39 => ?_)
     ·try simp only [dq] at h39
      refine T.seq (T.region ?_)
      refine L.assign rfl rfl ?_
      refine L.nil ?_
      refine T.thenN (T.ret (T.blkR ?_))
      refine T.thenR ?_
      refine T.thenR ?_
      refine T.blkR ?_
      refine T.thenR ?_
      exact T.ret1 rfl rfl ⟨by rw [chk_r h4 (by omega) (by omega) h39], rfl, rfl⟩ qD qF
     ·try simp only [dq] at h39
      refine T.skip (T.blkN (T.thenN (T.region ?_)))
      refine L.move rfl rfl ?_
      refine L.addN rfl rfl rfl (by omega) ?_
      refine L.assign rfl rfl ?_
      refine L.nil ?_
      refine T.thenN ?_
      exact T.back ⟨i + 1, ⟨by omega, rsR_s hi.1 hr h39⟩, rfl, rfl, rfl, rfl⟩ qI (.cons (t := 3) rfl <| SubK.nil _) (.cons (t := 1) rfl <| SubK.nil _) qD qD qF
    ·try simp only [dq] at h24
     refine T.exit (T.thenX (T.thenX (T.blkX (T.thenN (T.seq (T.region ?_))))))
     refine L.assign rfl rfl ?_
     refine L.nil ?_
     refine T.thenN (T.ret ?_)
     exact T.ret1 rfl rfl ⟨by rw [chk_0 h4 (by omega) (fun j hj => hr j (by omega))], rfl, rfl⟩ qD qF
end Cv
