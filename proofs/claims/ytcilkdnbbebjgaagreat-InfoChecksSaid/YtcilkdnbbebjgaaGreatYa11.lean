/-
  The walks: infos written.
-/
import Derived.Test.YtcilkdnbbebjgaaGreatXa11
import Derived.Test.YtcilkdnbbebjgaaGreatRH
import Derived.Test.YtcilkdnbbebjgaaGreatCvLg
import Derived.Test.YtcilkdnbbebjgaaGreatProg
import Derived.KernelRfl
set_option linter.unusedVariables false
set_option linter.unusedSimpArgs false
set_option linter.unusedSectionVars false
set_option maxRecDepth 10000
namespace Cv
open Go Go.Proofs
/-! ## infos: what is written is read; names of texts -/
theorem id_put {x : ID32} {rest : List UInt8} : idR ⟨x.1 ++ rest, 0⟩ = (x, ⟨rest, 0⟩) := by
  have h : bytB ⟨x.1 ++ rest, 0⟩ 32 = (x.1, ⟨rest, 0⟩) := by
    have := byt_app (s := x.1) (rest := rest)
    rw [x.2] at this; exact this
  have h1 : (bytB ⟨x.1 ++ rest, 0⟩ 32).1 = x.1 := by rw [h]
  have h2 : (idR ⟨x.1 ++ rest, 0⟩).1 = x := by
    unfold idR
    show (if h : (bytB ⟨x.1 ++ rest, 0⟩ 32).1.length = 32 then (⟨(bytB ⟨x.1 ++ rest, 0⟩ 32).1, h⟩ : ID32) else zID) = x
    rw [dif_pos (by rw [h1]; exact x.2)]
    exact Subtype.ext h1
  exact Prod.ext h2 (by show (bytB ⟨x.1 ++ rest, 0⟩ 32).2 = _; rw [h])
theorem idsL_put {rest : List UInt8} : ∀ l : List ID32, idsL l.length ⟨l.flatMap (·.1) ++ rest, 0⟩ = (l, ⟨rest, 0⟩)
  | [] => by simp [idsL]
  | x :: l => by
    rw [List.length_cons, idsL, if_neg (fun k => k rfl), List.flatMap_cons, List.append_assoc, id_put, idsL_put l]
theorem idsF_put {l : List ID32} {top : Nat} (h : l.length ≤ top) (ht : top ≤ 1000000) : idsF ⟨idsB l, 0⟩ top = (l, ⟨[], 0⟩) := by
  have e : idsB l = numB l.length ++ (l.flatMap (·.1) ++ []) := by unfold idsB idsI; rw [List.take_length, List.append_nil]
  have h1 : intR ⟨idsB l, 0⟩ top = (l.length, ⟨l.flatMap (·.1) ++ [], 0⟩) := by rw [e]; exact int_put h (by omega)
  have h2 := idsL_put (rest := []) l
  unfold idsF
  rw [h1, h2]
  rfl
theorem chk_in {p : Pt} {l : List ID32} (h : chkI p l = 0) : 1 ≤ p.2 ∧ p.2 ≤ 32768 ∧ l.length ≤ 8 ∧ rsR l l.length := by
  unfold chkI at h
  split at h
  · exact absurd h (by decide)
  · split at h
    · exact absurd h (by decide)
    · split at h
      · rename_i a b c
        exact ⟨by omega, by omega, by omega, c⟩
      · exact absurd h (by decide)
theorem par_putI {p : Pt} {l : List ID32} (h : chkI p l = 0) : parI (inT p l) = (p, l, 0) := by
  obtain ⟨h1, h2, h3, -⟩ := chk_in h
  have e1 : idR ⟨inT p l, 0⟩ = (p.1, ⟨numB p.2.toNat ++ idsB l, 0⟩) := by
    unfold inT; rw [List.append_assoc]; exact id_put
  have e2 : intR ⟨numB p.2.toNat ++ idsB l, 0⟩ 32768 = (p.2.toNat, ⟨idsB l, 0⟩) := int_put (by omega) (by decide)
  have e3 : idsF ⟨idsB l, 0⟩ 8 = (l, ⟨[], 0⟩) := idsF_put h3 (by decide)
  have ez : parZ (inT p l) = ((p.1, ⟨numB p.2.toNat ++ idsB l, 0⟩), (p.2.toNat, ⟨idsB l, 0⟩), (l, ⟨[], 0⟩)) := by
    unfold parZ; rw [e1, e2, e3]
  have ep : (p.1, ((p.2.toNat : Nat) : Int)) = p := Prod.ext rfl (by show ((p.2.toNat : Nat) : Int) = p.2; omega)
  have ec : closeE ⟨[], 0⟩ = 0 := rfl
  unfold parI
  rw [ez]
  show (if closeE ⟨[], 0⟩ ≠ 0 then _ else if chkI (p.1, ((p.2.toNat : Nat) : Int)) l ≠ 0 then _ else ((p.1, ((p.2.toNat : Nat) : Int)), l, 0)) = _
  rw [ep, if_neg (fun k => k ec), if_neg (fun k => k h)]
theorem asc_rs {l : List ID32} (h : rsR l l.length) : l.Pairwise (fun x y => x.1 < y.1) := by
  have st : ∀ d i, i + d + 1 < l.length → cfI (gd l i) (gd l (i + d + 1)) < 0 := by
    intro d
    induction d with
    | zero => intro i hi; have := h i hi; show cfI (gd l i) (gd l (i + 1)) < 0; omega
    | succ d ih =>
      intro i hi
      have a := ih i (by omega)
      have b := h (i + d + 1) (by omega)
      have b' : cfI (gd l (i + d + 1)) (gd l (i + d + 1 + 1)) < 0 := by omega
      exact cmpB_trans a b'
  rw [List.pairwise_iff_getElem]
  intro i j hi hj hij
  have a := st (j - i - 1) i (by omega)
  rw [show i + (j - i - 1) + 1 = j by omega] at a
  have e1 : gd l i = l[i] := gd_of (List.getElem?_eq_getElem hi)
  have e2 : gd l j = l[j] := gd_of (List.getElem?_eq_getElem hj)
  rw [e1, e2] at a
  exact cmpB_lt.1 a
theorem asc_chk {p : Pt} {l : List ID32} (h : chkI p l = 0) : l.Pairwise (fun x y => x.1 < y.1) := asc_rs (chk_in h).2.2.2
/-- a text as a name: its bytes, and zeros -/
def naF (s : List UInt8) : ID32 := ⟨s.take 32 ++ List.replicate (32 - (s.take 32).length) 0, by rw [List.length_append, List.length_replicate, List.length_take]; omega⟩
theorem na_set (s : List UInt8) : SetAt ((List.replicate 32 (0 : UInt8)).map Y) 0 ((s.take (Nat.min s.length 32)).map Y) ((naF s).1.map Y) := by
  have e : s.take (Nat.min s.length 32) = s.take 32 := by
    show s.take (min s.length 32) = _
    rcases Nat.le_total s.length 32 with h | h
    · rw [Nat.min_eq_left h, List.take_of_length_le (Nat.le_refl _), List.take_of_length_le h]
    · rw [Nat.min_eq_right h]
  have hl : (s.take 32).length ≤ 32 := by rw [List.length_take]; omega
  rw [e]
  refine ⟨by rw [List.length_map, List.length_map, List.length_replicate]; omega, ?_⟩
  show ((s.take 32) ++ List.replicate (32 - (s.take 32).length) (0 : UInt8)).map Y = _
  rw [List.map_append, List.take_zero, List.nil_append, Nat.zero_add, List.length_map, ← List.map_drop, List.drop_replicate]
theorem mem_s {l : List ID32} {i : Nat} {x z : ID32} (h : l[i]? = some x) : z ∈ l.take (i + 1) ↔ z ∈ l.take i ∨ z = x := by
  rw [List.take_add_one, h, List.mem_append]; simp
def naL (l : List (List UInt8)) : List ID32 := (l.take 12).map naF
theorem naL_len (l : List (List UInt8)) : (naL l).length ≤ 12 := by unfold naL; rw [List.length_map, List.length_take]; omega
theorem at_pt (p : Pt) (a : Option Addr) (n c : Nat) : AtN 33 (inC p a n c) 0 (ptC p) := by
  rw [show inC p a n c = ptC p ++ [.slice a n c] from by simp]; exact AtN.left (ptC_len p)
theorem fo41_0 : Fo Tryz.prog 41 0 0 := fun a w => by kernel_rfl
set_option maxHeartbeats 400000 in
theorem lname_spec {s : List UInt8}  : Spec Tryz.prog 23 [S s] [] [] (fun v D' M' => v = .agg (iC (naF s)).toArray ∧ D' = [] ∧ M' = []) := by
  refine Spec.intro (n := 8) Tryz.func23 rfl rfl (by decide) (Nat.le_of_ble_eq_true rfl) rfl (fun _ => qA) (fun _ => qA) ?_
  intro σ D M
  have hi3 := iC_len (naF s)
  refine T.seq ?_
  refine T.region ?_
  refine L.alloc rfl ze31 (fun b2 => ?_)
  refine L.nil ?_
  refine T.thenN ?_
  refine T.seq ?_
  refine T.region ?_
  refine L.alloc rfl ze31 (fun b3 => ?_)
  refine L.nil ?_
  refine T.thenN ?_
  refine T.seq ?_
  refine T.region ?_
  refine L.sliceArr rfl Tryz.underlying31 sz5 rfl Bd.no Bd.no qI qI ?_
  refine L.known (t := 4) (u := .slice (some ⟨b3, 0, none⟩) 32 32) rfl (by first | rfl | simp [cutA, Addr.add]) ?_
  refine L.move rfl rfl ?_
  refine L.copyStr rfl Tryz.underlying97 sz5 rfl rfl rfl qU (na_set s) ?_
  refine L.nil ?_
  refine T.thenN ?_
  refine T.seq ?_
  refine T.region ?_
  refine L.loadA rfl ag31 rfl qN ?_
  refine L.storeA ag31 rfl rfl qL qO qU qW ?_
  refine L.nil ?_
  refine T.thenN ?_
  refine T.ret ?_
  exact T.retA rfl ag31 rfl qN ⟨rfl, rfl, rfl⟩ qD qF
set_option maxHeartbeats 400000 in
theorem names11_spec {a : Option Addr} {n c : Nat} {l : List (List UInt8)}  : Spec Tryz.prog 9 [.slice a n c] [rsl 1 a n c (l.map ys)] [] (fun v D' M' => ∃ (a1 a2 : Option Addr) (n1 c1 c2 : Nat), v = .tuple #[.slice a1 n1 c1, .slice a2 n1 c2] ∧ ((naL l).length = n1) ∧ D' = [] ∧ M' = [own 32 31 a1 n1 c1 ((naL l).map iC), own 1 9 a2 n1 c2 (((naL l).map (·.1)).map ys)]) := by
  refine Spec.intro (n := 36) Tryz.func9 rfl rfl (by decide) (Nat.le_of_ble_eq_true rfl) rfl (fun _ => qA) (fun _ => qA) ?_
  intro σ D M
  refine T.rslLen2 (rows := l.map ys) qM (fun hpl hpc => ?_)
  rw [List.length_map] at hpl
  refine T.seq ?_
  refine T.region ?_
  refine L.assign rfl rfl ?_
  refine L.assign rfl rfl ?_
  refine L.nil ?_
  refine T.thenN ?_
  refine T.seq ?_
  refine T.region ?_
  refine L.buildSlice rfl bs27 (by decide) (BP.doneE (out := []) rfl) (fun b8 => ?_)
  refine L.toOwn (len := 0) qP (rows := (((l.take 0).map naF)).map iC) (sz := 32) (by rfl) rfl (by simp) ?_
  refine L.assign rfl rfl ?_
  refine L.nil ?_
  refine T.thenN ?_
  refine T.seq ?_
  refine T.region ?_
  refine L.buildSlice rfl bs25 (by decide) (BP.doneE (out := []) rfl) (fun b9 => ?_)
  refine L.toOwn (len := 0) qP (rows := (((l.take 0).map naF).map (·.1)).map ys) (sz := 1) (by rfl) rfl (by simp) ?_
  refine L.assign rfl rfl ?_
  refine L.nil ?_
  refine T.thenN ?_
  refine T.seq ?_
  refine T.seq ?_
  refine T.region ?_
  refine L.assign rfl rfl ?_
  refine L.nil ?_
  refine T.thenN ?_
  refine T.block ?_
  refine T.loop (fun K' D' M' μ => ∃ (i c4 c5 : Nat) (a4 a5 : Option Addr), (i ≤ n ∧ i ≤ 12) ∧ K' = [(6, .int .i64 (i : Int)), (4, .slice a4 i c4), (5, .slice a5 i c5)] ∧ D' = [] ∧ M' = [own 32 31 a4 i c4 ((((l.take i).map naF)).map iC), own 1 9 a5 i c5 ((((l.take i).map naF).map (·.1)).map ys)] ∧ μ = 12 - i) (.cons (t := 0) rfl <| SubK.nil _) (⟨0, 0, 0, _, _, ⟨Nat.zero_le _, Nat.zero_le _⟩, rfl, rfl, rfl, rfl⟩) (.cons (t := 6) rfl <| .cons (t := 4) rfl <| .cons (t := 5) rfl <| SubK.nil _) qD qS ?_
  rintro K1 D1 M1 m1 ⟨i, c4, c5, a4, a5, ⟨hi, hi12⟩, rfl, rfl, rfl, rfl⟩
  refine T.norm3 qA qA qA ?_
  refine T.seq ?_
  refine T.seq ?_
  refine T.cutC (fun K' D' M' => ∃ (w : Bool), (w = true ↔ (i < n ∧ i < 12)) ∧ K' = [(17, .bool w)] ∧ D' = [] ∧ M' = []) (M0 := []) (.cons (t := 0) rfl <| .cons (t := 4) rfl <| .cons (t := 5) rfl <| .cons (t := 6) rfl <| SubK.nil _) qS ?_ ?_
  · skip
    refine T.region ?_
    refine L.move rfl rfl ?_
    refine L.move rfl rfl ?_
    refine L.lenSl rfl Tryz.underlying25 rfl ?_
    refine L.ltI rfl rfl rfl ?_
    refine L.move rfl rfl ?_
    refine L.part (t := 14) rfl (fun h1 => ?_) (fun h1 => ?_)
    · try simp only [decide_eq_true_eq, decide_eq_false_iff_not, Bool.not_eq_true', Bool.not_eq_false', Bool.and_eq_true, Bool.or_eq_true] at h1
      refine L.guardT (dj := 14) rfl rfl rfl ?_
      refine L.move rfl rfl ?_
      refine L.guardT (dj := 14) rfl rfl rfl ?_
      refine L.ltI rfl rfl rfl ?_
      refine L.pickT rfl rfl rfl ?_
      refine L.nil ?_
      refine T.thenN ?_
      exact T.toJoin ⟨_, (by simp_all <;> omega), rfl, rfl, rfl⟩ (.cons (t := 17) rfl <| SubK.nil _) (.cons (t := 0) rfl <| .cons (t := 4) rfl <| .cons (t := 5) rfl <| .cons (t := 6) rfl <| SubK.nil _) qD qD qF
    · try simp only [decide_eq_true_eq, decide_eq_false_iff_not, Bool.not_eq_true', Bool.not_eq_false', Bool.and_eq_true, Bool.or_eq_true] at h1
      refine L.guardF (dj := 14) (c := false) rfl rfl rfl rfl rfl (by decide) ?_
      refine L.guardF (dj := 14) (c := false) rfl rfl rfl rfl rfl (by decide) ?_
      refine L.pickF rfl rfl rfl ?_
      refine L.nil ?_
      refine T.thenN ?_
      exact T.toJoin ⟨_, (by simp_all <;> omega), rfl, rfl, rfl⟩ (.cons (t := 17) rfl <| SubK.nil _) (.cons (t := 0) rfl <| .cons (t := 4) rfl <| .cons (t := 5) rfl <| .cons (t := 6) rfl <| SubK.nil _) qD qD qF
  rintro _ _ _ ⟨w, hw, rfl, rfl, rfl⟩
  refine T.norm3 qA qA qA ?_
  refine T.thenN ?_
  refine T.cond rfl (fun h17 => ?_) (fun h17 => ?_)
  · try simp only [decide_eq_true_eq, decide_eq_false_iff_not, Bool.not_eq_true', Bool.not_eq_false', Bool.and_eq_true, Bool.or_eq_true] at h17
    have hwt := hw.1 h17
    have hgi : l[i]? = some (gd l i) := gd_get (by omega)
    obtain ⟨x, hx_⟩ : ∃ x, x = gd l i := ⟨_, rfl⟩
    rw [← hx_] at hgi
    have hgr : (l.map ys)[i]? = some (ys x) := map_get hgi
    have hi3 := iC_len (naF x)
    have hi32 := (naF x).2
    refine T.skip ?_
    refine T.thenN ?_
    refine T.seq ?_
    refine T.block ?_
    refine T.seq ?_
    refine T.region ?_
    refine L.move rfl rfl ?_
    refine L.move rfl rfl ?_
    refine L.idx (i := i) rfl Tryz.underlying25 sz9 rfl rfl qM (by first | rfl | omega | (simp; done)) qG (fun b22 o22 => ?_)
    refine L.load rfl sc9 rfl qC ?_
    refine L.callF rfl (evs.cons rfl <| evs.nil) qD qS (lname_spec (s := x)) (by rintro u D1 M1 ⟨rfl, rfl, rfl⟩; exact ⟨rfl, _, qA, qF⟩) ?_
    refine L.alloc rfl ze31 (fun b7 => ?_)
    refine L.storeA ag31 rfl rfl qL qO qU qW ?_
    refine L.nil ?_
    refine T.freeze (A := cl b7 31 (iC (naF x))) qP ?_
    refine T.thenN ?_
    refine T.seq ?_
    refine T.region ?_
    refine L.move rfl rfl ?_
    refine L.loadA rfl ag31 rfl (CellsN.ofF qM (AtN.all hi3)) ?_
    refine L.buildSlice rfl bs27 (by decide) (BP.agg rfl rfl (by first | with_reducible assumption | (simp; done) | (simp only [List.length_map]; with_reducible assumption) | (simp [*]; done) | rfl) (Nat.le_of_ble_eq_true rfl) qR <| BP.doneE (out := []) rfl) (fun b27 => ?_)
    refine L.append1 rfl Tryz.underlying27 el31 rfl rfl qP qM (by rw [List.append_nil]; exact iC_len _) (fun u hu => by rw [List.append_nil] at hu; exact one_iC u hu) qI qI (fun a28 c28 => ?_)
    refine L.assign rfl rfl ?_
    refine L.nil ?_
    refine T.thenN ?_
    refine T.region ?_
    refine L.move rfl rfl ?_
    refine L.loadA rfl ag31 rfl (CellsN.ofF qM (AtN.all hi3)) ?_
    refine L.callF rfl (evs.cons rfl <| evs.nil) qD qS (obytes_spec (l := (naF x).1) hi32) (by rintro u D1 M1 ⟨rfl, rfl, rfl⟩; exact ⟨rfl, _, qA, qF⟩) ?_
    refine L.buildSlice rfl bs25 (by decide) (BP.one rfl rfl rfl <| BP.doneE (out := []) rfl) (fun b32 => ?_)
    refine L.append1 rfl Tryz.underlying25 el9 rfl rfl qP qM rfl qO1 qI qI (fun a33 c33 => ?_)
    refine L.assign rfl rfl ?_
    refine L.nil ?_
    refine T.blkN ?_
    refine T.thenN ?_
    refine T.region ?_
    refine L.move rfl rfl ?_
    refine L.addN rfl rfl rfl (by omega) ?_
    refine L.assign rfl rfl ?_
    refine L.nil ?_
    refine T.thenN ?_
    refine T.ownEq (sz := 32) _ (((l.take (i + 1)).map naF).map iC) qP (by rw [List.take_add_one, hgi, List.map_append, List.map_append, List.append_nil]; rfl) ?_
    refine T.ownEq (sz := 1) _ ((((l.take (i + 1)).map naF).map (·.1)).map ys) qP (by rw [List.take_add_one, hgi, List.map_append, List.map_append, List.map_append]; rfl) ?_
    exact T.back ⟨i + 1, _, _, _, _, ⟨by omega, by omega⟩, rfl, rfl, rfl, rfl⟩ qI (.cons (t := 6) rfl <| .cons (t := 4) rfl <| .cons (t := 5) rfl <| SubK.nil _) (.cons (t := 0) rfl <| SubK.nil _) qD qD qF
  · try simp only [decide_eq_true_eq, decide_eq_false_iff_not, Bool.not_eq_true', Bool.not_eq_false', Bool.and_eq_true, Bool.or_eq_true] at h17
    have hwf : ¬ (i < n ∧ i < 12) := fun e => by have := hw.2 e; rw [h17] at this; cases this
    have hfin : l.take i = l.take 12 := by
      rcases Nat.lt_or_ge i 12 with q | q
      · rw [List.take_of_length_le (by omega), List.take_of_length_le (by omega)]
      · rw [show i = 12 by omega]
    refine T.exit ?_
    refine T.thenX ?_
    refine T.thenX ?_
    refine T.blkX ?_
    refine T.thenN ?_
    refine T.seq ?_
    refine T.region ?_
    refine L.move rfl rfl ?_
    refine L.move rfl rfl ?_
    refine L.assign rfl rfl ?_
    refine L.assign rfl rfl ?_
    refine L.nil ?_
    refine T.thenN ?_
    refine T.ret ?_
    have hn1 : (naL l).length = i := by unfold naL; rw [← hfin, List.length_map, List.length_take]; omega
    refine T.ownEq (sz := 32) _ ((naL l).map iC) qP (by unfold naL; rw [hfin]) ?_
    refine T.ownEq (sz := 1) _ (((naL l).map (·.1)).map ys) qP (by unfold naL; rw [hfin]) ?_
    exact T.ret2 rfl rfl rfl ⟨_, _, _, _, _, rfl, hn1, rfl, rfl⟩ qD qF
set_option maxHeartbeats 400000 in
theorem r4ids_spec {a : Option Addr} {n c : Nat} {l : List ID32} (hn : n ≤ 1000000) : Spec Tryz.prog 61 [.slice a n c] [rsl 1 a n c ((l.map (·.1)).map ys)] [] (fun v D' M' => v = S (idsB l) ∧ D' = [] ∧ M' = []) := by
  refine Spec.intro (n := 21) Tryz.func61 rfl rfl (by decide) (Nat.le_of_ble_eq_true rfl) rfl (fun _ => qA) (fun _ => qA) ?_
  intro σ D M
  refine T.rslLen2 (rows := (l.map (·.1)).map ys) qM (fun hpl hpc => ?_)
  rw [List.length_map, List.length_map] at hpl
  
  refine T.seq ?_
  refine T.region ?_
  refine L.assign rfl rfl ?_
  refine L.nil ?_
  refine T.thenN ?_
  refine T.seq ?_
  refine T.region ?_
  refine L.move rfl rfl ?_
  refine L.lenSl rfl Tryz.underlying25 rfl ?_
  refine L.convU rfl Tryz.underlying3 Tryz.underlying117 rfl qI ?_
  refine L.callF rfl (evs.cons rfl <| evs.nil) qD qS (rnum_spec (n := n) (by omega)) (by rintro u D1 M1 ⟨rfl, rfl, rfl⟩; exact ⟨rfl, _, qA, qF⟩) ?_
  refine L.known (t := 9) (u := S (idsI n l 0)) rfl (congrArg S (by simp [idsI])) ?_
  refine L.assign rfl rfl ?_
  refine L.nil ?_
  refine T.thenN ?_
  refine T.seq ?_
  refine T.seq ?_
  refine T.region ?_
  refine L.move rfl rfl ?_
  refine L.lenSl rfl Tryz.underlying25 rfl ?_
  refine L.move rfl rfl ?_
  refine L.nil ?_
  refine T.thenN ?_
  refine T.block ?_
  refine T.loop (fun K' D' M' μ => ∃ (i : Nat), (i ≤ n) ∧ K' = [(12, .int .i64 (i : Int)), (3, S (idsI n l i))] ∧ D' = [] ∧ M' = [] ∧ μ = n - i) (.cons (t := 10) rfl <| .cons (t := 11) rfl <| SubK.nil _) (⟨0, Nat.zero_le _, rfl, rfl, rfl, rfl⟩) (.cons (t := 12) rfl <| .cons (t := 3) rfl <| SubK.nil _) qD qS ?_
  rintro K1 D1 M1 m1 ⟨i, hi, rfl, rfl, rfl, rfl⟩
  refine T.norm3 qA qA qA ?_
  refine T.seq ?_
  refine T.region ?_
  refine L.ltI rfl rfl rfl ?_
  refine L.nil ?_
  refine T.thenN ?_
  refine T.seq ?_
  refine T.cond rfl (fun h13 => ?_) (fun h13 => ?_)
  · try simp only [decide_eq_true_eq, decide_eq_false_iff_not, Bool.not_eq_true', Bool.not_eq_false', Bool.and_eq_true, Bool.or_eq_true] at h13
    refine T.skip ?_
    refine T.thenN ?_
    refine T.seq ?_
    refine T.block ?_
    refine T.seq ?_
    have hgi : l[i]? = some (gd l i) := gd_get (by omega)
    obtain ⟨x, hx_⟩ : ∃ x, x = gd l i := ⟨_, rfl⟩
    have hgm : (l.map (·.1))[i]? = some x.1 := by rw [hx_]; exact gd_map (by omega)
    rw [← hx_] at hgi
    have hgr : ((l.map (·.1)).map ys)[i]? = some (ys x.1) := map_get hgm
    have hx := x.2
    have hil := idsI_len (n := n) (l := l) (i := i) hn
    refine T.region ?_
    refine L.idx (i := i) rfl Tryz.underlying25 sz9 rfl rfl qM (by first | rfl | omega | (simp; done)) qG (fun b14 o14 => ?_)
    refine L.load rfl sc9 rfl qC ?_
    refine L.assign rfl rfl ?_
    refine L.nil ?_
    refine T.thenN ?_
    refine T.region ?_
    refine L.move rfl rfl ?_
    refine L.move rfl rfl ?_
    refine L.addS rfl rfl rfl qI ?_
    refine L.known (t := 18) (u := S (idsI n l (i + 1))) rfl (congrArg S (by rw [idsI_s hgi])) ?_
    refine L.assign rfl rfl ?_
    refine L.nil ?_
    refine T.blkN ?_
    refine T.thenN ?_
    refine T.region ?_
    refine L.addN rfl rfl rfl (by omega) ?_
    refine L.move rfl rfl ?_
    refine L.nil ?_
    refine T.thenN ?_
    exact T.back ⟨i + 1, (by omega), rfl, rfl, rfl, rfl⟩ qI (.cons (t := 12) rfl <| .cons (t := 3) rfl <| SubK.nil _) (.cons (t := 10) rfl <| .cons (t := 11) rfl <| SubK.nil _) qD qD qF
  · try simp only [decide_eq_true_eq, decide_eq_false_iff_not, Bool.not_eq_true', Bool.not_eq_false', Bool.and_eq_true, Bool.or_eq_true] at h13
    obtain rfl : i = n := by omega
    refine T.exit ?_
    refine T.thenX ?_
    refine T.thenX ?_
    refine T.blkX ?_
    refine T.thenN ?_
    refine T.seq ?_
    refine T.region ?_
    refine L.move rfl rfl ?_
    refine L.assign rfl rfl ?_
    refine L.nil ?_
    refine T.thenN ?_
    refine T.ret ?_
    exact T.ret1 rfl rfl ⟨by unfold idsB; rw [hpl], rfl, rfl⟩ qD qF
set_option maxHeartbeats 400000 in
theorem rtext11_spec {a : Option Addr} {n c : Nat} {l : List ID32} {p : Pt} (hn : n ≤ 1000000) (hp0 : 0 ≤ p.2) (hp : p.2 ≤ 4611686018427387904) : Spec Tryz.prog 26 [.agg (inR p a n c).toArray] [rsl 1 a n c ((l.map (·.1)).map ys)] [] (fun v D' M' => v = S (inT p l) ∧ D' = [] ∧ M' = []) := by
  refine Spec.intro (n := 16) Tryz.func26 rfl rfl (by decide) (Nat.le_of_ble_eq_true rfl) rfl (fun _ => qA) (fun _ => qA) ?_
  intro σ D M
  refine T.rslLen2 (rows := (l.map (·.1)).map ys) qM (fun hpl hpc => ?_)
  rw [List.length_map, List.length_map] at hpl
  have hp32 := p.1.2
  have hpt : p.2 = ((p.2.toNat : Nat) : Int) := by omega
  have hil := idsB_len (l := l) (by omega)
  have hp9 := numB_len (n := p.2.toNat) (by omega)
  refine T.seq ?_
  refine T.region ?_
  refine L.box rfl rfl rfl (fun b1 => ?_)
  refine L.assign rfl rfl ?_
  refine L.nil ?_
  refine T.freeze (A := cl b1 43 (inR p a n c)) qP ?_
  refine T.thenN ?_
  refine T.seq ?_
  refine T.regionQ (by kernel_rfl) (by kernel_rfl) ?_
  first | refine L.field0 rfl fo43_0 rfl ?_ | refine L.field rfl fo43_0 rfl ?_
  first | refine L.field0 rfl fo41_0 rfl ?_ | refine L.field rfl fo41_0 rfl ?_
  refine L.load rfl sc9 rfl qC ?_
  first | refine L.field0 rfl fo43_0 rfl ?_ | refine L.field rfl fo43_0 rfl ?_
  first | refine L.field0 rfl fo41_1 rfl ?_ | refine L.field rfl fo41_1 rfl ?_
  refine L.load rfl sc3 rfl qC ?_
  refine L.convU rfl Tryz.underlying3 Tryz.underlying117 rfl qI ?_
  refine L.known (t := 9) (u := .int .u64 ((p.2.toNat : Nat) : Int)) rfl (congrArg (Value.int .u64) hpt) ?_
  refine L.callF rfl (evs.cons rfl <| evs.nil) qD qS (rnum_spec (n := p.2.toNat) (by omega)) (by rintro u D1 M1 ⟨rfl, rfl, rfl⟩; exact ⟨rfl, _, qA, qF⟩) ?_
  refine L.addS rfl rfl rfl qI ?_
  first | refine L.field0 rfl fo43_1 rfl ?_ | refine L.field rfl fo43_1 rfl ?_
  refine L.load rfl sc25 rfl qC ?_
  refine L.callF rfl (evs.cons rfl <| evs.nil) qD qS (r4ids_spec (l := l) hn) (by rintro u D1 M1 ⟨rfl, rfl, rfl⟩; exact ⟨rfl, _, qA, qF⟩) ?_
  refine L.addS rfl rfl rfl qI ?_
  refine L.known (t := 15) (u := S (inT p l)) rfl rfl ?_
  refine L.assign rfl rfl ?_
  refine L.nilQ ?_
  refine T.thenN ?_
  refine T.ret ?_
  exact T.ret1 rfl rfl ⟨rfl, rfl, rfl⟩ qD qF
set_option maxHeartbeats 400000 in
theorem rname11_spec {a : Option Addr} {n c : Nat} {l : List ID32} {p : Pt} (hn : n ≤ 1000000) (hp0 : 0 ≤ p.2) (hp : p.2 ≤ 4611686018427387904) : Spec Tryz.prog 18 [.agg (inR p a n c).toArray] [rsl 1 a n c ((l.map (·.1)).map ys)] [] (fun v D' M' => v = S (inN p l).1 ∧ D' = [] ∧ M' = []) := by
  refine Spec.intro (n := 6) Tryz.func18 rfl rfl (by decide) (Nat.le_of_ble_eq_true rfl) rfl (fun _ => qA) (fun _ => qA) ?_
  intro σ D M
  refine T.rslLen2 (rows := (l.map (·.1)).map ys) qM (fun hpl hpc => ?_)
  rw [List.length_map, List.length_map] at hpl
  have hil := inT_len (l := l) hp (by omega)
  refine T.seq ?_
  refine T.region ?_
  refine L.box rfl rfl rfl (fun b1 => ?_)
  refine L.assign rfl rfl ?_
  refine L.nil ?_
  refine T.freeze (A := cl b1 43 (inR p a n c)) qP ?_
  refine T.thenN ?_
  refine T.seq ?_
  refine T.region ?_
  refine L.loadA rfl ag43 rfl qN ?_
  refine L.callF rfl (evs.cons rfl <| evs.nil) qD qS (rtext11_spec (l := l) hn hp0 hp) (by rintro u D1 M1 ⟨rfl, rfl, rfl⟩; exact ⟨rfl, _, qA, qF⟩) ?_
  refine L.callF rfl (evs.cons rfl <| evs.cons rfl <| evs.nil) qD qS (r2of_spec (kind := 3) (t := inT p l) (by omega)) (by rintro u D1 M1 ⟨rfl, rfl, rfl⟩; exact ⟨rfl, _, qA, qF⟩) ?_
  refine L.known (t := 5) (u := S (inN p l).1) rfl (by unfold inN; rw [oI_val]) ?_
  refine L.assign rfl rfl ?_
  refine L.nil ?_
  refine T.thenN ?_
  refine T.ret ?_
  exact T.ret1 rfl rfl ⟨rfl, rfl, rfl⟩ qD qF
set_option maxHeartbeats 400000 in
theorem isame_spec {a b : Option Addr} {n c m d : Nat} {l k : List ID32} {p q : Pt} (hn : n ≤ 1000000) (hm : m ≤ 1000000) : Spec Tryz.prog 28 [.agg (inC p a n c).toArray, .agg (inC q b m d).toArray] [rsl 32 a n c (l.map iC), rsl 32 b m d (k.map iC)] [] (fun v D' M' => v = .bool (decide (p.1.1 = q.1.1) && (decide (p.2 = q.2) && true) && decide (l = k)) ∧ D' = [] ∧ M' = []) := by
  refine Spec.intro (n := 17) Tryz.func28 rfl rfl (by decide) (Nat.le_of_ble_eq_true rfl) rfl (fun _ => qA) (fun _ => qA) ?_
  intro σ D M
  have hp3 := inC_len p a n c
  have hq3 := inC_len q b m d
  have hpp := ptC_len p
  have hqq := ptC_len q
  have hp32 := p.1.2
  have hq32 := q.1.2
  refine T.seq ?_
  refine T.region ?_
  refine L.box rfl rfl rfl (fun b2 => ?_)
  refine L.box rfl rfl rfl (fun b3 => ?_)
  refine L.assign rfl rfl ?_
  refine L.nil ?_
  refine T.freeze (A := cl b2 35 (inC p a n c)) qP ?_
  refine T.freeze (A := cl b3 35 (inC q b m d)) qP ?_
  refine T.thenN ?_
  refine T.seq ?_
  refine T.region ?_
  first | refine L.field0 rfl fo35_0 rfl ?_ | refine L.field rfl fo35_0 rfl ?_
  refine L.loadA rfl ag33 rfl (CellsN.ofF qM (at_pt p a n c)) ?_
  first | refine L.field0 rfl fo35_0 rfl ?_ | refine L.field rfl fo35_0 rfl ?_
  refine L.loadA rfl ag33 rfl (CellsN.ofF qM (at_pt q b m d)) ?_
  refine L.eqlSt (b := decide (p.1.1 = q.1.1) && (decide (p.2 = q.2) && true)) (by kernel_rfl) rfl Tryz.underlying33 (by kernel_rfl) (A := (ptC p).toArray) (B := (ptC q).toArray) rfl rfl (.cons (FEq.arr (dp := 9997) (pre := []) (pre' := []) (by kernel_rfl) Tryz.underlying31 ag31 Tryz.underlying5 sc5 rfl rfl rfl hp32 hq32) (.cons (FEq.int (dp := 9998) (o := 32) (by kernel_rfl) Tryz.underlying3 sc3 rfl (by rw [List.getElem?_append_right (by simp [hp32]), List.length_map, hp32]; rfl) (by rw [List.getElem?_append_right (by simp [hq32]), List.length_map, hq32]; rfl)) .nil)) ?_
  refine L.move rfl rfl ?_
  refine L.part (t := 10) rfl (fun h1 => ?_) (fun h1 => ?_)
  · try simp only [decide_eq_true_eq, decide_eq_false_iff_not, Bool.not_eq_true', Bool.not_eq_false', Bool.and_eq_true, Bool.or_eq_true] at h1
    refine L.guardT (dj := 10) rfl rfl rfl ?_
    first | refine L.field0 rfl fo35_1 rfl ?_ | refine L.field rfl fo35_1 rfl ?_
    refine L.guardT (dj := 10) rfl rfl rfl ?_
    refine L.load rfl sc27 rfl qC ?_
    refine L.guardT (dj := 10) rfl rfl rfl ?_
    first | refine L.field0 rfl fo35_1 rfl ?_ | refine L.field rfl fo35_1 rfl ?_
    refine L.guardT (dj := 10) rfl rfl rfl ?_
    refine L.load rfl sc27 rfl qC ?_
    refine L.guardT (dj := 10) rfl rfl rfl ?_
    refine L.callF rfl (evs.cons rfl <| evs.cons rfl <| evs.nil) qD qS (equal_spec (xs := l) (ys := k) hn hm) (by rintro u D1 M1 ⟨rfl, rfl, rfl⟩; exact ⟨rfl, _, qA, qF⟩) ?_
    refine L.pickT rfl rfl rfl ?_
    refine L.assign rfl rfl ?_
    refine L.nil ?_
    refine T.thenN ?_
    refine T.ret ?_
    exact T.ret1 rfl rfl ⟨congrArg Value.bool (by simp_all), rfl, rfl⟩ qD qF
  · try simp only [decide_eq_true_eq, decide_eq_false_iff_not, Bool.not_eq_true', Bool.not_eq_false', Bool.and_eq_true, Bool.or_eq_true] at h1
    refine L.guardF (dj := 10) (c := false) rfl rfl rfl rfl rfl (by decide) ?_
    refine L.guardF (dj := 10) (c := false) rfl rfl rfl rfl rfl (by decide) ?_
    refine L.guardF (dj := 10) (c := false) rfl rfl rfl rfl rfl (by decide) ?_
    refine L.guardF (dj := 10) (c := false) rfl rfl rfl rfl rfl (by decide) ?_
    refine L.guardF (dj := 10) (c := false) rfl rfl rfl rfl rfl (by decide) ?_
    refine L.pickF rfl rfl rfl ?_
    refine L.assign rfl rfl ?_
    refine L.nil ?_
    refine T.thenN ?_
    refine T.ret ?_
    exact T.ret1 rfl rfl ⟨congrArg Value.bool (by simp_all), rfl, rfl⟩ qD qF
end Cv
