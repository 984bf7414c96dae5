/-
  The walks: the reference of roots and names.
-/
import Derived.Test.YtcilkdnbbebjgaaGreatYE11
import Derived.Test.YtcilkdnbbebjgaaGreatYc11
import Derived.Test.YtcilkdnbbebjgaaGreatProg
import Derived.KernelRfl
set_option linter.unusedVariables false
set_option linter.unusedSimpArgs false
set_option linter.unusedSectionVars false
set_option maxRecDepth 10000
namespace Cv
open Go Go.Proofs
/-! ## the reference of info.Of -/
structure OfR (x : Tr) (l : List ID32) (es : List Value) (a : Option Addr) (n c : Nat) (os : List Ob) (m : Nat) : Prop where
  len : es.length = 3
  one : ∀ u ∈ es, u.oneCell' = true
  ol : os.length = m
  nl : (ofI x l).2.1.length = n
  val : (ofI x l).2.2.2 = 0 → es = inR (ofI x l).1 a n c ∧ os = (ofI x l).2.2.1
theorem ofI_wr {x : Tr} {l : List ID32} (h : wrE x ≠ 0) : ofI x l = (zP, [], [], wrE x) := by unfold ofI; rw [if_pos h]
theorem ofI_8 {x : Tr} {l : List ID32} (h : wrE x = 0) (k : 8 < l.length) : ofI x l = (zP, [], [], 5) := by unfold ofI; rw [if_neg (fun q => q h), if_pos k]
theorem ofI_b {x : Tr} {l : List ID32} (h : wrE x = 0) (k : ¬ 8 < l.length) (b : (ofB x).2.2 ≠ 0) : ofI x l = (zP, [], [], (ofB x).2.2) := by unfold ofI; rw [if_neg (fun q => q h), if_neg k, if_pos b]
theorem ofI_ok {x : Tr} {l : List ID32} (h : wrE x = 0) (k : ¬ 8 < l.length) (b : (ofB x).2.2 = 0) : ofI x l = ((ofB x).1, l, (ofB x).2.1, 0) := by unfold ofI; rw [if_neg (fun q => q h), if_neg k, if_neg (fun q => q b)]
theorem ofI_or {x : Tr} {l m xs : List ID32} (h : NamesF xs l ∨ wrE x ≠ 0) (k : NamesF xs m) : ofI x l = ofI x m := by
  rcases h with q | q
  · rw [names_uniq q k]
  · rw [ofI_wr q, ofI_wr q]
theorem ofI_len {x : Tr} {l : List ID32} : (ofI x l).2.1.length ≤ 8 := by
  unfold ofI
  split
  · exact Nat.zero_le _
  · split
    · exact Nat.zero_le _
    · split
      · exact Nat.zero_le _
      · rename_i h _; exact Nat.not_lt.1 h
theorem ofI_size {x : Tr} {l : List ID32} (h : (ofI x l).2.2.2 = 0) : 0 ≤ (ofI x l).1.2 ∧ (ofI x l).1.2 ≤ 32768 ∧ ofI x l = ((ofB x).1, l, (ofB x).2.1, 0) ∧ (ofI x l).2.2.1.length ≤ 2000000000 := by
  have hw : wrE x = 0 := Decidable.byContradiction fun q => by rw [ofI_wr q] at h; exact q h
  have h8 : ¬ 8 < l.length := fun q => by rw [ofI_8 hw q] at h; exact absurd h (by decide)
  have hb : (ofB x).2.2 = 0 := Decidable.byContradiction fun q => by rw [ofI_b hw h8 q] at h; exact q h
  rw [ofI_ok hw h8 hb]
  have h1 : 1 ≤ (wrS x).length := Nat.pos_of_ne_zero fun q => by
    have e : wrS x = [] := List.length_eq_zero_iff.1 q
    unfold ofB at hb
    rw [e] at hb
    exact absurd hb (by decide)
  obtain ⟨p, ns, ⟨e1, e2⟩, e3, -⟩ := ofB_out h1
  have hl := wrS_len x
  rw [e1]
  exact ⟨by show 0 ≤ p.2; omega, by show p.2 ≤ 32768; omega, rfl, e2⟩

set_option maxHeartbeats 400000 in
theorem rbuild_spec {n c : Nat} {a : Option Addr} {cs : List (List UInt8)} (hn : n ≤ 1000001) : Spec Tryz.prog 42 [.slice a n c] [rsl 1 a n c (cs.map ys)] [] (fun v D' M' => ∃ (a1 : Option Addr) (n1 c1 : Nat) (es : List Value) (os : List Ob), v = .tuple #[.agg es.toArray, .slice a1 n1 c1, .int .i64 (bldM cs).2.2] ∧ (BuR cs es os (bldM cs).2.2) ∧ (os.length = n1) ∧ D' = [] ∧ M' = [own 3 58 a1 n1 c1 ((os).map obR)]) := by
 refine Spec.intro (n := 85) Tryz.func42 rfl rfl (by decide) (Nat.le_of_ble_eq_true rfl) rfl (fun _ => qA) (fun _ => qA) ?_
 intro σ D M
 refine T.rslLen2 (rows := cs.map ys) qM (fun hpl hpc => ?_)
 rw [List.length_map] at hpl
 
 refine T.seq (T.region ?_)
 refine L.alloc rfl ze41 (fun b2 => ?_)
 refine L.assign rfl rfl ?_
 refine L.assign rfl rfl ?_
 refine L.nil ?_
 refine T.thenN (T.seq (T.region ?_))
 refine L.buildSlice rfl bs153 (by decide) (BP.doneE (out := []) rfl) (fun b14 => ?_)
 refine L.toOwn (len := 0) qP (rows := ((cs.take 0).map lf).map ptR) (sz := 2) (by rfl) rfl (by simp) ?_
 refine L.assign rfl rfl ?_
 refine L.nil ?_
 refine T.thenN (T.seq (T.region ?_))
 refine L.buildSlice rfl bs44 (by decide) (BP.doneE (out := []) rfl) (fun b15 => ?_)
 refine L.toOwn (len := 0) qP (rows := ((cs.take 0).map lo).map obR) (sz := 3) (by rfl) rfl (by simp) ?_
 refine L.assign rfl rfl ?_
 refine L.nil ?_
 refine T.thenN (T.seq (T.region ?_))
 refine L.assign rfl rfl ?_
 refine L.nil ?_
 refine T.thenN (T.seq (T.seq (T.region ?_)))
 refine L.move rfl rfl ?_
 refine L.lenSl rfl Tryz.underlying25 rfl ?_
 refine L.move rfl rfl ?_
 refine L.nil ?_
 refine T.thenN (T.block ?_)
 refine T.loop (fun K' D' M' μ => ∃ (i c5 c6 : Nat) (a5 a6 : Option Addr), (i ≤ n ∧ ∀ x ∈ cs.take i, ¬ badC x) ∧ K' = [(18, .int .i64 (i : Int)), (5, .slice a5 i c5), (6, .slice a6 i c6), (7, .int .i64 (sizeI (cs.map lf) i))] ∧ D' = [] ∧ M' = [cl b2 41 [S [], .int .i64 0], own 2 41 a5 i c5 (((cs.take i).map lf).map ptR), own 3 58 a6 i c6 (((cs.take i).map lo).map obR)] ∧ μ = n - i) (.cons (t := 2) rfl <| .cons (t := 16) rfl <| .cons (t := 17) rfl <| SubK.nil _) (⟨0, _, _, _, _, ⟨Nat.zero_le _, by simp⟩, rfl, rfl, rfl, rfl⟩) (.cons (t := 18) rfl <| .cons (t := 5) rfl <| .cons (t := 6) rfl <| .cons (t := 7) rfl <| SubK.nil _) qD qS ?_
 rintro K1 D1 M1 m1 ⟨i, c5, c6, a5, a6, ⟨hi, hgd⟩, rfl, rfl, rfl, rfl⟩
 refine T.norm3 qA qA qA ?_
 refine T.seq (T.region ?_)
 refine L.ltI rfl rfl rfl ?_
 refine L.nil ?_
 refine T.thenN (T.seq ?_)
 refine T.cond rfl (fun h19 => ?_) (fun h19 => ?_)
 ·try simp only [dq] at h19
  refine T.skip (T.thenN (T.seq (T.block (T.seq ?_))))
  have hgi : cs[i]? = some (gd cs i) := gd_get (by omega)
  obtain ⟨x, hx_⟩ : ∃ x, x = gd cs i := ⟨_, rfl⟩
  rw [← hx_] at hgi
  have hgr : (cs.map ys)[i]? = some (ys x) := map_get hgi
  refine T.region ?_
  refine L.idx (i := i) rfl Tryz.underlying25 sz9 rfl rfl qM (by first | rfl | omega | (simp; done)) qG (fun b20 o20 => ?_)
  refine L.load rfl sc9 rfl qC ?_
  refine L.assign rfl rfl ?_
  refine L.nil ?_
  refine T.thenN (T.seq (T.seq (T.region ?_)))
  refine L.move rfl rfl ?_
  refine L.lenStr rfl Tryz.underlying9 rfl ?_
  refine L.ltI rfl rfl rfl ?_
  refine L.move rfl rfl ?_
  refine L.part (t := 25) rfl (fun h1 => ?_) (fun h1 => ?_)
  ·try simp only [dq] at h1
   refine L.guardF (dj := 25) (c := true) rfl rfl rfl rfl rfl (by decide) ?_
   refine L.guardF (dj := 25) (c := true) rfl rfl rfl rfl rfl (by decide) ?_
   refine L.guardF (dj := 25) (c := true) rfl rfl rfl rfl rfl (by decide) ?_
   refine L.pickT rfl rfl rfl ?_
   refine L.nil ?_
   refine T.thenN ?_
   refine T.condT rfl rfl ?_
   refine T.seq (T.region ?_)
   refine L.build rfl bu41 (BP.doneE (out := [S [], Value.int .i64 0]) rfl) ?_
   refine L.storeA ag41 rfl rfl qL qO qU qW ?_
   refine L.assign rfl rfl ?_
   refine L.assign rfl rfl ?_
   refine L.nil ?_
   refine T.newOwn (sz := 3) (e := 58) ?_
   refine T.eqv qP (show own 3 58 none 0 0 [] = own 3 58 none 0 0 ((([] : List Ob)).map obR) from rfl) ?_
   refine T.thenN (T.ret ?_)
   refine T.thenR ?_
   refine T.blkR ?_
   refine T.thenR ?_
   refine T.thenR ?_
   refine T.blkR ?_
   refine T.thenR ?_
   have hb := bld_bad hgi (Or.inl (List.length_eq_zero_iff.1 (by omega)))
   exact T.retATT rfl ag41 rfl qN rfl rfl ⟨none, 0, 0, [S [], .int .i64 0], [], by rw [hb] <;> rfl, ⟨rfl, rfl, one_z2, fun q => by rw [hb] at q; exact absurd q (by decide)⟩, rfl, rfl, rfl⟩ qD qF
  ·try simp only [dq] at h1
   refine L.guardT (dj := 25) rfl rfl rfl ?_
   refine L.move rfl rfl ?_
   refine L.guardT (dj := 25) rfl rfl rfl ?_
   refine L.lenStr rfl Tryz.underlying9 rfl ?_
   refine L.guardT (dj := 25) rfl rfl rfl ?_
   refine L.gtI rfl rfl rfl ?_
   refine L.pickF rfl rfl rfl ?_
   refine L.nil ?_
   refine T.thenN ?_
   refine T.cond rfl (fun h29 => ?_) (fun h29 => ?_)
   ·try simp only [dq] at h29
    refine T.seq (T.region ?_)
    refine L.build rfl bu41 (BP.doneE (out := [S [], Value.int .i64 0]) rfl) ?_
    refine L.storeA ag41 rfl rfl qL qO qU qW ?_
    refine L.assign rfl rfl ?_
    refine L.assign rfl rfl ?_
    refine L.nil ?_
    refine T.newOwn (sz := 3) (e := 58) ?_
    refine T.eqv qP (show own 3 58 none 0 0 [] = own 3 58 none 0 0 ((([] : List Ob)).map obR) from rfl) ?_
    refine T.thenN (T.ret ?_)
    refine T.thenR ?_
    refine T.blkR ?_
    refine T.thenR ?_
    refine T.thenR ?_
    refine T.blkR ?_
    refine T.thenR ?_
    have hb := bld_bad hgi (Or.inr (by omega))
    exact T.retATT rfl ag41 rfl qN rfl rfl ⟨none, 0, 0, [S [], .int .i64 0], [], by rw [hb] <;> rfl, ⟨rfl, rfl, one_z2, fun q => by rw [hb] at q; exact absurd q (by decide)⟩, rfl, rfl, rfl⟩ qD qF
   ·try simp only [dq] at h29
    refine T.skip (T.thenN (T.seq (T.region ?_)))
    refine L.move rfl rfl ?_
    refine L.callF rfl (evs.cons rfl <| evs.cons rfl <| evs.nil) qD qS (r2of_spec (kind := 1) (t := x) (by omega)) (by rintro u D1 M1 ⟨rfl, rfl, rfl⟩; exact ⟨rfl, _, qA, qF⟩) ?_
    refine L.known (t := 32) (u := S (oI 1 x).1) rfl (by rw [oI_val]) ?_
    refine L.assign rfl rfl ?_
    refine L.nil ?_
    refine T.thenN (T.seq (T.region ?_))
    refine L.move rfl rfl ?_
    refine L.move rfl rfl ?_
    refine L.move rfl rfl ?_
    refine L.lenStr rfl Tryz.underlying9 rfl ?_
    refine L.build rfl bu41 (BP.one rfl rfl rfl <| BP.one rfl rfl rfl <| BP.doneE (out := []) rfl) ?_
    refine L.known (t := 37) (u := .agg (ptR (lf x)).toArray) rfl (by rfl) ?_
    refine L.buildSlice rfl bs153 (by decide) (BP.agg rfl rfl (by first | with_reducible assumption | (simp; done) | (simp only [List.length_map]; with_reducible assumption) | (simp [*]; done) | rfl) (Nat.le_of_ble_eq_true rfl) qR <| BP.doneE (out := []) rfl) (fun b38 => ?_)
    refine L.append1 rfl Tryz.underlying153 el41 rfl rfl qP qM rfl qO1 qI qI (fun a39 c39 => ?_)
    refine L.assign rfl rfl ?_
    refine L.nil ?_
    refine T.thenN (T.seq (T.region ?_))
    refine L.move rfl rfl ?_
    refine L.move rfl rfl ?_
    refine L.move rfl rfl ?_
    refine L.build rfl bu58 (BP.one rfl rfl rfl <| BP.one rfl rfl rfl <| BP.one rfl rfl rfl <| BP.doneE (out := []) rfl) ?_
    refine L.known (t := 43) (u := .agg (obR (lo x)).toArray) rfl (by rfl) ?_
    refine L.buildSlice rfl bs44 (by decide) (BP.agg rfl rfl (by first | with_reducible assumption | (simp; done) | (simp only [List.length_map]; with_reducible assumption) | (simp [*]; done) | rfl) (Nat.le_of_ble_eq_true rfl) qR <| BP.doneE (out := []) rfl) (fun b44 => ?_)
    refine L.append1 rfl Tryz.underlying44 el58 rfl rfl qP qM rfl qO1 qI qI (fun a45 c45 => ?_)
    refine L.assign rfl rfl ?_
    refine L.nil ?_
    refine T.thenN ?_
    have hsz := sizeI_s (lf_get hgi)
    rw [show (lf x).2 = (x.length : Int) from rfl] at hsz
    have hsg := size_good hgd (by omega)
    refine T.region ?_
    refine L.move rfl rfl ?_
    refine L.move rfl rfl ?_
    refine L.lenStr rfl Tryz.underlying9 rfl ?_
    refine L.addN rfl rfl rfl (by omega) ?_
    refine L.known (t := 49) (u := .int .i64 (sizeI (cs.map lf) (i + 1))) rfl (congrArg (Value.int .i64) hsz.symm) ?_
    refine L.assign rfl rfl ?_
    refine L.nil ?_
    refine T.blkN (T.thenN (T.region ?_))
    refine L.addN rfl rfl rfl (by omega) ?_
    refine L.move rfl rfl ?_
    refine L.nil ?_
    refine T.thenN ?_
    refine T.ownEq (sz := 3) _ (((cs.take (i + 1)).map lo).map obR) qP (by rw [List.take_add_one, hgi]; simp [lo]) ?_
    refine T.ownEq (sz := 2) _ (((cs.take (i + 1)).map lf).map ptR) qP (by rw [List.take_add_one, hgi]; simp [lf]) ?_
    exact T.back ⟨i + 1, _, _, _, _, ⟨by omega, good_snoc hgi hgd (by simp only [badC, not_or]; exact ⟨fun q => by rw [q] at h1; simp at h1, by omega⟩)⟩, rfl, rfl, rfl, rfl⟩ qI (.cons (t := 18) rfl <| .cons (t := 5) rfl <| .cons (t := 6) rfl <| .cons (t := 7) rfl <| SubK.nil _) (.cons (t := 2) rfl <| .cons (t := 16) rfl <| .cons (t := 17) rfl <| SubK.nil _) qD qD qF
 ·try simp only [dq] at h19
  subst hpl
  obtain rfl : cs.length = i := by omega
  rw [List.take_length] at hgd
  rw [List.take_length]
  refine T.exit (T.thenX (T.thenX (T.blkX (T.thenN (T.seq (T.seq (T.region ?_)))))))
  refine L.move rfl rfl ?_
  refine L.lenSl rfl Tryz.underlying153 rfl ?_
  refine L.eqI rfl rfl rfl ?_
  refine L.nil ?_
  refine T.thenN ?_
  refine T.cond rfl (fun h53 => ?_) (fun h53 => ?_)
  ·try simp only [dq] at h53
   refine T.seq (T.region ?_)
   refine L.build rfl bu41 (BP.doneE (out := [S [], Value.int .i64 0]) rfl) ?_
   refine L.storeA ag41 rfl rfl qL qO qU qW ?_
   refine L.assign rfl rfl ?_
   refine L.assign rfl rfl ?_
   refine L.nil ?_
   refine T.newOwn (sz := 3) (e := 58) ?_
   refine T.eqv qP (show own 3 58 none 0 0 [] = own 3 58 none 0 0 ((([] : List Ob)).map obR) from rfl) ?_
   refine T.thenN (T.ret ?_)
   refine T.thenR ?_
   have hb := bld_zero hgd (by omega)
   exact T.retATT rfl ag41 rfl qN rfl rfl ⟨none, 0, 0, [S [], .int .i64 0], [], by rw [hb] <;> rfl, ⟨rfl, rfl, one_z2, fun q => by rw [hb] at q; exact absurd q (by decide)⟩, rfl, rfl, rfl⟩ qD qF
  ·try simp only [dq] at h53
   have h1n : 1 ≤ cs.length := by omega
   have hps := good_size hgd
   have hpos : ∀ p ∈ cs.map lf, 1 ≤ p.2 := fun p hp => (hps p hp).1
   have hge := size_ge hpos cs.length (by rw [List.length_map]; exact Nat.le_refl _)
   refine T.skip (T.thenN (T.seq (T.seq (T.region ?_))))
   refine L.move rfl rfl ?_
   refine L.gtI rfl rfl rfl ?_
   refine L.nil ?_
   refine T.thenN ?_
   refine T.cond rfl (fun h56 => ?_) (fun h56 => ?_)
   ·try simp only [dq] at h56
    refine T.seq (T.region ?_)
    refine L.build rfl bu41 (BP.doneE (out := [S [], Value.int .i64 0]) rfl) ?_
    refine L.storeA ag41 rfl rfl qL qO qU qW ?_
    refine L.assign rfl rfl ?_
    refine L.assign rfl rfl ?_
    refine L.nil ?_
    refine T.newOwn (sz := 3) (e := 58) ?_
    refine T.eqv qP (show own 3 58 none 0 0 [] = own 3 58 none 0 0 ((([] : List Ob)).map obR) from rfl) ?_
    refine T.thenN (T.ret ?_)
    refine T.thenR ?_
    have hb := bld_5 hgd (by omega)
    exact T.retATT rfl ag41 rfl qN rfl rfl ⟨none, 0, 0, [S [], .int .i64 0], [], by rw [hb] <;> rfl, ⟨rfl, rfl, one_z2, fun q => by rw [hb] at q; exact absurd q (by decide)⟩, rfl, rfl, rfl⟩ qD qF
   ·try simp only [dq] at h56
    have hsm : sizeP (cs.map lf) ≤ 32768 := by unfold sizeP; rw [List.length_map]; omega
    refine T.skip (T.thenN (T.seq (T.seq (T.region ?_))))
    refine L.assign rfl rfl ?_
    refine L.nil ?_
    refine T.thenN (T.block ?_)
    refine T.loop (fun K' D' M' μ => ∃ (k f n5 n6 c5 c6 : Nat) (a5 a6 : Option Addr) (ps : List Pt) (os : List Ob), ((ps.length = n5 ∧ os.length = n6) ∧ (1 ≤ k ∧ 1 ≤ n5 ∧ k + f ≤ 40000 ∧ n6 ≤ 40000 * k) ∧ ((k = 1 ∧ n5 + 1 ≤ f) ∨ (2 ≤ k ∧ n5 ≤ f)) ∧ lvR f k ps os = lvR (cs.length + 1) 1 (cs.map lf) (cs.map lo) ∧ (∀ p ∈ ps, 1 ≤ p.2) ∧ sizeP ps ≤ 32768 ∧ n5 ≤ lvT k) ∧ K' = [(11, .int .i64 (k : Int)), (5, .slice a5 n5 c5), (6, .slice a6 n6 c6)] ∧ D' = [] ∧ M' = [cl b2 41 [S [], .int .i64 0], own 2 41 a5 n5 c5 ((ps).map ptR), own 3 58 a6 n6 c6 ((os).map obR)] ∧ μ = 2 * f) (.cons (t := 2) rfl <| SubK.nil _) (⟨1, cs.length + 1, cs.length, cs.length, _, _, _, _, cs.map lf, cs.map lo, ⟨⟨List.length_map _, List.length_map _⟩, ⟨Nat.le_refl _, h1n, by omega, by omega⟩, Or.inl ⟨rfl, Nat.le_refl _⟩, rfl, hpos, hsm, by rw [lvT_1]; omega⟩, rfl, rfl, rfl, rfl⟩) (.cons (t := 11) rfl <| .cons (t := 5) rfl <| .cons (t := 6) rfl <| SubK.nil _) qD qS ?_
    rintro K1 D1 M1 m1 ⟨k, f, n5, n6, c5, c6, a5, a6, ps, os, ⟨⟨hpn, hon_⟩, ⟨hk1, hn5, hkf, hn6⟩, hf, hlv, hpos, hsm, hlt⟩, rfl, rfl, rfl, rfl⟩
    refine T.norm3 qA qA qA ?_
    refine T.seq (T.seq ?_)
    refine T.cutC (fun K' D' M' => ∃ (w : Bool), (w = true ↔ (k < 9 ∧ (k = 1 ∨ 1 < n5))) ∧ K' = [(68, .bool w)] ∧ D' = [] ∧ M' = []) (M0 := []) (.cons (t := 2) rfl <| .cons (t := 5) rfl <| .cons (t := 6) rfl <| .cons (t := 11) rfl <| SubK.nil _) qS ?_ ?_
    ·skip
     refine T.region ?_
     refine L.move rfl rfl ?_
     refine L.ltI rfl rfl rfl ?_
     refine L.move rfl rfl ?_
     refine L.part (t := 60) rfl (fun h2 => ?_) (fun h2 => ?_)
     ·try simp only [dq] at h2
      refine L.guardT (dj := 60) rfl rfl rfl ?_
      refine L.move rfl rfl ?_
      refine L.guardT (dj := 60) rfl rfl rfl ?_
      refine L.eqI rfl rfl rfl ?_
      refine L.guardT (dj := 60) rfl rfl rfl ?_
      refine L.move rfl rfl ?_
      refine L.part (t := 63) rfl (fun h3 => ?_) (fun h3 => ?_)
      ·try simp only [dq] at h3
       refine L.guardF (dj := 63) (c := true) rfl rfl rfl rfl rfl (by decide) ?_
       refine L.guardF (dj := 63) (c := true) rfl rfl rfl rfl rfl (by decide) ?_
       refine L.guardF (dj := 63) (c := true) rfl rfl rfl rfl rfl (by decide) ?_
       refine L.guardT (dj := 60) rfl rfl rfl ?_
       refine L.pickT rfl rfl rfl ?_
       refine L.pickT rfl rfl rfl ?_
       refine L.nil ?_
       refine T.thenN ?_
       exact T.toJoin ⟨_, (by simp_all <;> omega), rfl, rfl, rfl⟩ (.cons (t := 68) rfl <| SubK.nil _) (.cons (t := 2) rfl <| .cons (t := 5) rfl <| .cons (t := 6) rfl <| .cons (t := 11) rfl <| SubK.nil _) qD qD qF
      ·try simp only [dq] at h3
       refine L.guardT (dj := 63) rfl rfl rfl ?_
       refine L.move rfl rfl ?_
       refine L.guardT (dj := 63) rfl rfl rfl ?_
       refine L.lenSl rfl Tryz.underlying153 rfl ?_
       refine L.guardT (dj := 63) rfl rfl rfl ?_
       refine L.gtI rfl rfl rfl ?_
       refine L.guardT (dj := 60) rfl rfl rfl ?_
       refine L.pickF rfl rfl rfl ?_
       refine L.pickT rfl rfl rfl ?_
       refine L.nil ?_
       refine T.thenN ?_
       exact T.toJoin ⟨_, (by simp_all <;> omega), rfl, rfl, rfl⟩ (.cons (t := 68) rfl <| SubK.nil _) (.cons (t := 2) rfl <| .cons (t := 5) rfl <| .cons (t := 6) rfl <| .cons (t := 11) rfl <| SubK.nil _) qD qD qF
     ·try simp only [dq] at h2
      refine L.guardF (dj := 60) (c := false) rfl rfl rfl rfl rfl (by decide) ?_
      refine L.guardF (dj := 60) (c := false) rfl rfl rfl rfl rfl (by decide) ?_
      refine L.guardF (dj := 60) (c := false) rfl rfl rfl rfl rfl (by decide) ?_
      refine L.guardU (dj := 63) rfl rfl rfl rfl rfl ?_
      refine L.guardU (dj := 63) rfl rfl rfl rfl rfl ?_
      refine L.guardU (dj := 63) rfl rfl rfl rfl rfl ?_
      refine L.guardF (dj := 60) (c := false) rfl rfl rfl rfl rfl (by decide) ?_
      refine L.pickF rfl rfl rfl ?_
      refine L.nil ?_
      refine T.thenN ?_
      exact T.toJoin ⟨_, (by simp_all <;> omega), rfl, rfl, rfl⟩ (.cons (t := 68) rfl <| SubK.nil _) (.cons (t := 2) rfl <| .cons (t := 5) rfl <| .cons (t := 6) rfl <| .cons (t := 11) rfl <| SubK.nil _) qD qD qF
    rintro _ _ _ ⟨w, hw, rfl, rfl, rfl⟩
    refine T.norm3 qA qA qA ?_
    refine T.thenN ?_
    refine T.cond rfl (fun h68 => ?_) (fun h68 => ?_)
    ·try simp only [dq] at h68
     have hwt := hw.1 h68
     refine T.skip (T.thenN (T.seq (T.block (T.seq ?_))))
     have hco : k = 1 ∨ 1 < ps.length := by omega
     obtain ⟨f2, rfl⟩ : ∃ f2, f = f2 + 1 := ⟨f - 1, by omega⟩
     rw [lvR_s hco] at hlv
     have hps : ∀ p ∈ ps, 0 ≤ p.2 ∧ p.2 ≤ 1000000000 := fun p hp => ⟨by have := hpos p hp; omega, by have := size_mem hpos hp; omega⟩
     have hgn : gN n5 = (n5 + 7) / 8 := rfl
     have hlt2 := lvT_s hlt
     refine T.ownRsl (rows := ps.map ptR) qP ?_
     refine T.region ?_
     refine L.move rfl rfl ?_
     refine L.move rfl rfl ?_
     refine L.call rfl (evs.cons rfl <| evs.cons rfl <| evs.nil) qD qS (rup_spec (k := k) (ps := ps) (by omega) (by omega) hps) ?_
     rintro _ _ _ ⟨ua, oa, un, uc, oc, rfl, hun, rfl, rfl⟩
     refine L.norm qA qA ?_
     refine L.move rfl rfl ?_
     refine L.extract rfl rfl rfl ?_
     refine L.extract rfl rfl rfl ?_
     refine L.assign rfl rfl ?_
     refine L.assign rfl rfl ?_
     refine L.nil ?_
     refine T.thenN (T.seq (T.region ?_))
     refine L.move rfl rfl ?_
     refine L.assign rfl rfl ?_
     refine L.nil ?_
     refine T.thenN ?_
     refine T.ownRsl (rows := (upO k ps).map obR) qP ?_
     refine T.region ?_
     refine L.move rfl rfl ?_
     refine L.move rfl rfl ?_
     refine L.appendR rfl Tryz.underlying44 Tryz.underlying44 el58 rfl rfl qP (rd_D qM) one_oRs qI qI (fun a80 c80 => ?_)
     refine L.assign rfl rfl ?_
     refine L.nil ?_
     refine T.blkN (T.thenN (T.region ?_))
     refine L.move rfl rfl ?_
     refine L.addN rfl rfl rfl (by omega) ?_
     refine L.assign rfl rfl ?_
     refine L.nil ?_
     refine T.thenN ?_
     refine T.ownEq (sz := 3) _ ((os ++ upO k ps).map obR) qP (by rw [List.map_append]) ?_
     exact T.back ⟨k + 1, f2, un, n6 + un, _, _, _, _, upP k ps, os ++ upO k ps, ⟨⟨by rw [upP_len, hpn, hun], by rw [List.length_append, upO_len, hpn, hon_, hun]⟩, ⟨by omega, by omega, by omega, by omega⟩, Or.inr ⟨by omega, by omega⟩, hlv, up_pos hpos, by rw [size_up]; exact hsm, by rw [← hun]; exact hlt2⟩, rfl, rfl, rfl, rfl⟩ qI (.cons (t := 11) rfl <| .cons (t := 5) rfl <| .cons (t := 6) rfl <| SubK.nil _) (.cons (t := 2) rfl <| SubK.nil _) qD qD qF
    ·try simp only [dq] at h68
     have hwf : ¬ (k < 9 ∧ (k = 1 ∨ 1 < n5)) := fun e => by have := hw.2 e; rw [h68] at this; cases this
     have hst : ¬ (k = 1 ∨ 1 < n5) := fun q => by
      rcases Nat.lt_or_ge k 9 with r | r
      ·exact hwf ⟨r, q⟩
      ·rw [lvT_9 r] at hlt; omega
     obtain ⟨p, rfl⟩ : ∃ p, ps = [p] := List.length_eq_one_iff.1 (by omega)
     rw [lvR_z (by simp only [List.length_singleton]; omega)] at hlv
     refine T.ownRsl (rows := [p].map ptR) qP ?_
     have hgr : ([p].map ptR)[0]? = some (ptR p) := rfl
     refine T.exit (T.thenX (T.thenX (T.blkX (T.thenN (T.seq (T.region ?_))))))
     refine L.move rfl rfl ?_
     refine L.idx (i := 0) rfl Tryz.underlying153 sz41 rfl rfl qM (by first | rfl | omega | (simp; done)) qG (fun b82 o82 => ?_)
     refine L.loadA rfl ag41 rfl (CellsN.ofD qM (ptR_len _)) ?_
     refine L.move rfl rfl ?_
     refine L.storeA ag41 rfl rfl qL qO qU qW ?_
     refine L.assign rfl rfl ?_
     refine L.assign rfl rfl ?_
     refine L.nil ?_
     refine T.thenN (T.ret ?_)
     have hb := bld_ok hgd (by omega) (by omega) hlv.symm
     exact T.retATT rfl ag41 rfl qN rfl rfl ⟨_, _, _, ptR p, os, by rw [hb] <;> rfl, ⟨rfl, rfl, one_pR, fun _ => by rw [hb]; exact ⟨rfl, rfl⟩⟩, hon_, rfl, rfl⟩ qD qF
set_option maxHeartbeats 400000 in
theorem with_spec {a : Option Addr} {n c : Nat} {l : List ID32} {z : ID32} (hn : n ≤ 1000000) : Spec Tryz.prog 84 [.slice a n c, S z.1] [rsl 1 a n c ((l.map (·.1)).map ys)] [] (fun v D' M' => ∃ (a' : Option Addr) (n' c' : Nat), v = .slice a' n' c' ∧ ((withF l z).length = n') ∧ D' = [] ∧ M' = [own 1 9 a' n' c' (((withF l z).map (·.1)).map ys)]) := by
 refine Spec.intro (n := 42) Tryz.func84 rfl rfl (by decide) (Nat.le_of_ble_eq_true rfl) rfl (fun _ => qA) (fun _ => qA) ?_
 intro σ D M
 refine T.rslLen2 (rows := (l.map (·.1)).map ys) qM (fun hpl hpc => ?_)
 rw [List.length_map, List.length_map] at hpl
 
 refine T.seq (T.region ?_)
 refine L.assign rfl rfl ?_
 refine L.nil ?_
 refine T.thenN (T.seq (T.region ?_))
 refine L.buildSlice rfl bs25 (by decide) (BP.doneE (out := []) rfl) (fun b9 => ?_)
 refine L.toOwn (len := 0) qP (rows := (([] : List ID32).map (·.1)).map ys) (sz := 1) (by rfl) rfl (by simp) ?_
 refine L.assign rfl rfl ?_
 refine L.nil ?_
 refine T.thenN (T.seq (T.region ?_))
 refine L.assign rfl rfl ?_
 refine L.nil ?_
 refine T.thenN (T.seq (T.seq (T.region ?_)))
 refine L.move rfl rfl ?_
 refine L.lenSl rfl Tryz.underlying25 rfl ?_
 refine L.move rfl rfl ?_
 refine L.nil ?_
 refine T.thenN (T.block ?_)
 refine T.loop (fun K' D' M' μ => ∃ (i n5 c5 : Nat) (a5 : Option Addr) (u : List ID32) (d : Bool), (i ≤ n ∧ wthL (l.take i) z = (u, d) ∧ u.length = n5 ∧ n5 ≤ 2 * i) ∧ K' = [(12, .int .i64 (i : Int)), (5, .slice a5 n5 c5), (6, .bool d)] ∧ D' = [] ∧ M' = [own 1 9 a5 n5 c5 ((u.map (·.1)).map ys)] ∧ μ = n - i) (.cons (t := 1) rfl <| .cons (t := 10) rfl <| .cons (t := 11) rfl <| SubK.nil _) (⟨0, 0, _, _, [], false, ⟨Nat.zero_le _, rfl, rfl, Nat.zero_le _⟩, rfl, rfl, rfl, rfl⟩) (.cons (t := 12) rfl <| .cons (t := 5) rfl <| .cons (t := 6) rfl <| SubK.nil _) qD qS ?_
 rintro K1 D1 M1 m1 ⟨i, n5, c5, a5, u, d, ⟨hi, hu, hun, hn5⟩, rfl, rfl, rfl, rfl⟩
 refine T.norm3 qA qA qA ?_
 refine T.seq (T.region ?_)
 refine L.ltI rfl rfl rfl ?_
 refine L.nil ?_
 refine T.thenN (T.seq ?_)
 refine T.cond rfl (fun h13 => ?_) (fun h13 => ?_)
 ·try simp only [dq] at h13
  refine T.skip (T.thenN (T.seq (T.block (T.seq ?_))))
  have hgi : l[i]? = some (gd l i) := gd_get (by omega)
  obtain ⟨x, hx_⟩ : ∃ x, x = gd l i := ⟨_, rfl⟩
  have hgm : (l.map (·.1))[i]? = some x.1 := by rw [hx_]; exact gd_map (by omega)
  rw [← hx_] at hgi
  have hgr : ((l.map (·.1)).map ys)[i]? = some (ys x.1) := map_get hgm
  clear hx_
  refine T.region ?_
  refine L.idx (i := i) rfl Tryz.underlying25 sz9 rfl rfl qM (by first | rfl | omega | (simp; done)) qG (fun b14 o14 => ?_)
  refine L.load rfl sc9 rfl qC ?_
  refine L.assign rfl rfl ?_
  refine L.nil ?_
  refine T.thenN (T.seq (T.seq ?_))
  rcases d with _ | _
  ·skip
   refine T.region ?_
   refine L.move rfl rfl ?_
   refine L.notB rfl rfl ?_
   refine L.move rfl rfl ?_
   refine L.known (t := 18) rfl (show _ = Value.bool true from rfl) ?_
   refine L.guardT (dj := 18) rfl rfl rfl ?_
   refine L.move rfl rfl ?_
   refine L.guardT (dj := 18) rfl rfl rfl ?_
   refine L.move rfl rfl ?_
   refine L.guardT (dj := 18) rfl rfl rfl ?_
   refine L.leS rfl rfl rfl ?_
   refine L.pickT rfl rfl rfl ?_
   refine L.nil ?_
   refine T.thenN ?_
   refine T.cond rfl (fun h22 => ?_) (fun h22 => ?_)
   ·try simp only [dq] at h22
    have c22 : (bless z.1 x.1 || decide (z.1 = x.1)) = true := by rcases h22 with q | q <;> simp [q]
    clear h22
    refine T.seq (T.region ?_)
    refine L.move rfl rfl ?_
    refine L.move rfl rfl ?_
    refine L.buildSlice rfl bs25 (by decide) (BP.one rfl rfl rfl <| BP.doneE (out := []) rfl) (fun b25 => ?_)
    refine L.append1 rfl Tryz.underlying25 el9 rfl rfl qP qM rfl qO1 qI qI (fun a26 c26 => ?_)
    refine L.assign rfl rfl ?_
    refine L.nil ?_
    refine T.thenN (T.region ?_)
    refine L.assign rfl rfl ?_
    refine L.nil ?_
    refine T.thenN (T.seq (T.region ?_))
    refine L.move rfl rfl ?_
    refine L.move rfl rfl ?_
    refine L.neS rfl rfl rfl ?_
    refine L.nil ?_
    refine T.thenN ?_
    refine T.cond rfl (fun h29 => ?_) (fun h29 => ?_)
    ·try simp only [dq] at h29
     refine T.region ?_
     refine L.move rfl rfl ?_
     refine L.move rfl rfl ?_
     refine L.buildSlice rfl bs25 (by decide) (BP.one rfl rfl rfl <| BP.doneE (out := []) rfl) (fun b32 => ?_)
     refine L.append1 rfl Tryz.underlying25 el9 rfl rfl qP qM rfl qO1 qI qI (fun a33 c33 => ?_)
     refine L.assign rfl rfl ?_
     refine L.nil ?_
     refine T.blkN (T.thenN (T.region ?_))
     refine L.addN rfl rfl rfl (by omega) ?_
     refine L.move rfl rfl ?_
     refine L.nil ?_
     refine T.thenN ?_
     refine T.ownEq _ (((u ++ [z] ++ [x]).map (·.1)).map ys) qP (by simp) ?_
     exact T.back ⟨i + 1, n5 + 1 + 1, _, _, u ++ [z] ++ [x], true, ⟨by omega, by rw [wthL_s hgi, hu]; unfold wthS; first | (simp [*]; done) | (exfalso; rw [h29] at c22; simp at c22), by (try simp only [List.length_append, List.length_singleton]); omega, by omega⟩, rfl, rfl, rfl, rfl⟩ qI (.cons (t := 12) rfl <| .cons (t := 5) rfl <| .cons (t := 6) rfl <| SubK.nil _) (.cons (t := 1) rfl <| .cons (t := 10) rfl <| .cons (t := 11) rfl <| SubK.nil _) qD qD qF
    ·try simp only [dq] at h29
     refine T.skip (T.blkN (T.thenN (T.region ?_)))
     refine L.addN rfl rfl rfl (by omega) ?_
     refine L.move rfl rfl ?_
     refine L.nil ?_
     refine T.thenN ?_
     refine T.ownEq _ (((u ++ [z]).map (·.1)).map ys) qP (by simp) ?_
     exact T.back ⟨i + 1, n5 + 1, _, _, u ++ [z], true, ⟨by omega, by rw [wthL_s hgi, hu]; unfold wthS; first | (simp [*]; done) | (exfalso; rw [h29] at c22; simp at c22), by (try simp only [List.length_append, List.length_singleton]); omega, by omega⟩, rfl, rfl, rfl, rfl⟩ qI (.cons (t := 12) rfl <| .cons (t := 5) rfl <| .cons (t := 6) rfl <| SubK.nil _) (.cons (t := 1) rfl <| .cons (t := 10) rfl <| .cons (t := 11) rfl <| SubK.nil _) qD qD qF
   ·try simp only [dq] at h22
    have c22 : (bless z.1 x.1 || decide (z.1 = x.1)) = false := by first | exact h22 | simpa using h22
    clear h22
    refine T.skip (T.thenN (T.seq (T.region ?_)))
    refine L.move rfl rfl ?_
    refine L.move rfl rfl ?_
    refine L.neS rfl rfl rfl ?_
    refine L.nil ?_
    refine T.thenN ?_
    refine T.cond rfl (fun h29 => ?_) (fun h29 => ?_)
    ·try simp only [dq] at h29
     refine T.region ?_
     refine L.move rfl rfl ?_
     refine L.move rfl rfl ?_
     refine L.buildSlice rfl bs25 (by decide) (BP.one rfl rfl rfl <| BP.doneE (out := []) rfl) (fun b32 => ?_)
     refine L.append1 rfl Tryz.underlying25 el9 rfl rfl qP qM rfl qO1 qI qI (fun a33 c33 => ?_)
     refine L.assign rfl rfl ?_
     refine L.nil ?_
     refine T.blkN (T.thenN (T.region ?_))
     refine L.addN rfl rfl rfl (by omega) ?_
     refine L.move rfl rfl ?_
     refine L.nil ?_
     refine T.thenN ?_
     refine T.ownEq _ (((u ++ [x]).map (·.1)).map ys) qP (by simp) ?_
     exact T.back ⟨i + 1, n5 + 1, _, _, u ++ [x], false, ⟨by omega, by rw [wthL_s hgi, hu]; unfold wthS; first | (simp [*]; done) | (exfalso; rw [h29] at c22; simp at c22), by (try simp only [List.length_append, List.length_singleton]); omega, by omega⟩, rfl, rfl, rfl, rfl⟩ qI (.cons (t := 12) rfl <| .cons (t := 5) rfl <| .cons (t := 6) rfl <| SubK.nil _) (.cons (t := 1) rfl <| .cons (t := 10) rfl <| .cons (t := 11) rfl <| SubK.nil _) qD qD qF
    ·try simp only [dq] at h29
     refine T.skip (T.blkN (T.thenN (T.region ?_)))
     refine L.addN rfl rfl rfl (by omega) ?_
     refine L.move rfl rfl ?_
     refine L.nil ?_
     refine T.thenN ?_
     refine T.ownEq _ (((u).map (·.1)).map ys) qP (by simp) ?_
     exact T.back ⟨i + 1, n5, _, _, u, false, ⟨by omega, by rw [wthL_s hgi, hu]; unfold wthS; first | (simp [*]; done) | (exfalso; rw [h29] at c22; simp at c22), by (try simp only [List.length_append, List.length_singleton]); omega, by omega⟩, rfl, rfl, rfl, rfl⟩ qI (.cons (t := 12) rfl <| .cons (t := 5) rfl <| .cons (t := 6) rfl <| SubK.nil _) (.cons (t := 1) rfl <| .cons (t := 10) rfl <| .cons (t := 11) rfl <| SubK.nil _) qD qD qF
  ·skip
   refine T.region ?_
   refine L.move rfl rfl ?_
   refine L.notB rfl rfl ?_
   refine L.move rfl rfl ?_
   refine L.known (t := 18) rfl (show _ = Value.bool false from rfl) ?_
   refine L.guardF (dj := 18) (c := false) rfl rfl rfl rfl rfl (by decide) ?_
   refine L.guardF (dj := 18) (c := false) rfl rfl rfl rfl rfl (by decide) ?_
   refine L.guardF (dj := 18) (c := false) rfl rfl rfl rfl rfl (by decide) ?_
   refine L.pickF rfl rfl rfl ?_
   refine L.nil ?_
   refine T.thenN ?_
   refine T.condF rfl rfl ?_
   refine T.skip (T.thenN (T.seq (T.region ?_)))
   refine L.move rfl rfl ?_
   refine L.move rfl rfl ?_
   refine L.neS rfl rfl rfl ?_
   refine L.nil ?_
   refine T.thenN ?_
   refine T.cond rfl (fun h29 => ?_) (fun h29 => ?_)
   ·try simp only [dq] at h29
    refine T.region ?_
    refine L.move rfl rfl ?_
    refine L.move rfl rfl ?_
    refine L.buildSlice rfl bs25 (by decide) (BP.one rfl rfl rfl <| BP.doneE (out := []) rfl) (fun b32 => ?_)
    refine L.append1 rfl Tryz.underlying25 el9 rfl rfl qP qM rfl qO1 qI qI (fun a33 c33 => ?_)
    refine L.assign rfl rfl ?_
    refine L.nil ?_
    refine T.blkN (T.thenN (T.region ?_))
    refine L.addN rfl rfl rfl (by omega) ?_
    refine L.move rfl rfl ?_
    refine L.nil ?_
    refine T.thenN ?_
    refine T.ownEq _ (((u ++ [x]).map (·.1)).map ys) qP (by simp) ?_
    exact T.back ⟨i + 1, n5 + 1, _, _, u ++ [x], true, ⟨by omega, by rw [wthL_s hgi, hu]; unfold wthS; first | (simp [*]; done) | (exfalso; rw [h29] at c22; simp at c22), by (try simp only [List.length_append, List.length_singleton]); omega, by omega⟩, rfl, rfl, rfl, rfl⟩ qI (.cons (t := 12) rfl <| .cons (t := 5) rfl <| .cons (t := 6) rfl <| SubK.nil _) (.cons (t := 1) rfl <| .cons (t := 10) rfl <| .cons (t := 11) rfl <| SubK.nil _) qD qD qF
   ·try simp only [dq] at h29
    refine T.skip (T.blkN (T.thenN (T.region ?_)))
    refine L.addN rfl rfl rfl (by omega) ?_
    refine L.move rfl rfl ?_
    refine L.nil ?_
    refine T.thenN ?_
    refine T.ownEq _ (((u).map (·.1)).map ys) qP (by simp) ?_
    exact T.back ⟨i + 1, n5, _, _, u, true, ⟨by omega, by rw [wthL_s hgi, hu]; unfold wthS; first | (simp [*]; done) | (exfalso; rw [h29] at c22; simp at c22), by (try simp only [List.length_append, List.length_singleton]); omega, by omega⟩, rfl, rfl, rfl, rfl⟩ qI (.cons (t := 12) rfl <| .cons (t := 5) rfl <| .cons (t := 6) rfl <| SubK.nil _) (.cons (t := 1) rfl <| .cons (t := 10) rfl <| .cons (t := 11) rfl <| SubK.nil _) qD qD qF
 ·try simp only [dq] at h13
  obtain rfl : n = i := by omega
  rw [List.take_of_length_le (by omega)] at hu
  refine T.exit (T.thenX (T.thenX (T.blkX (T.thenN (T.seq (T.seq (T.region ?_)))))))
  refine L.move rfl rfl ?_
  refine L.notB rfl rfl ?_
  refine L.nil ?_
  refine T.thenN ?_
  refine T.cond rfl (fun h36 => ?_) (fun h36 => ?_)
  ·try simp only [dq] at h36
   refine T.region ?_
   refine L.move rfl rfl ?_
   refine L.move rfl rfl ?_
   refine L.buildSlice rfl bs25 (by decide) (BP.one rfl rfl rfl <| BP.doneE (out := []) rfl) (fun b39 => ?_)
   refine L.append1 rfl Tryz.underlying25 el9 rfl rfl qP qM rfl qO1 qI qI (fun a40 c40 => ?_)
   refine L.assign rfl rfl ?_
   refine L.nil ?_
   refine T.thenN (T.seq (T.region ?_))
   refine L.move rfl rfl ?_
   refine L.assign rfl rfl ?_
   refine L.nil ?_
   refine T.thenN (T.ret ?_)
   have hwf : withF l z = u ++ [z] := by unfold withF; rw [hu]; simp [h36]
   refine T.ownEq _ (((withF l z).map (·.1)).map ys) qP (by rw [hwf]; simp) ?_
   exact T.ret1 rfl rfl ⟨_, _, _, rfl, by rw [hwf, List.length_append, hun]; rfl, rfl, rfl⟩ qD qF
  ·try simp only [dq] at h36
   refine T.skip (T.thenN (T.seq (T.region ?_)))
   refine L.move rfl rfl ?_
   refine L.assign rfl rfl ?_
   refine L.nil ?_
   refine T.thenN (T.ret ?_)
   have hwf : withF l z = u := by unfold withF; rw [hu]; simp [h36]
   refine T.ownEq _ (((withF l z).map (·.1)).map ys) qP (by rw [hwf]) ?_
   exact T.ret1 rfl rfl ⟨_, _, _, rfl, by rw [hwf]; exact hun, rfl, rfl⟩ qD qF
set_option maxHeartbeats 400000 in
theorem rsorted_spec {a : Option Addr} {n c : Nat} {l : List ID32} (hn : n ≤ 1000000) : Spec Tryz.prog 41 [.slice a n c] [rsl 1 a n c ((l.map (·.1)).map ys)] [] (fun v D' M' => ∃ (a' : Option Addr) (n' c' : Nat), v = .slice a' n' c' ∧ ((sortF l).length = n') ∧ D' = [] ∧ M' = [own 1 9 a' n' c' (((sortF l).map (·.1)).map ys)]) := by
 refine Spec.intro (n := 18) Tryz.func41 rfl rfl (by decide) (Nat.le_of_ble_eq_true rfl) rfl (fun _ => qA) (fun _ => qA) ?_
 intro σ D M
 refine T.rslLen2 (rows := (l.map (·.1)).map ys) qM (fun hpl hpc => ?_)
 rw [List.length_map, List.length_map] at hpl
 
 refine T.seq (T.region ?_)
 refine L.assign rfl rfl ?_
 refine L.nil ?_
 refine T.thenN (T.seq (T.region ?_))
 refine L.buildSlice rfl bs25 (by decide) (BP.doneE (out := []) rfl) (fun b6 => ?_)
 refine L.toOwn (len := 0) qP (rows := ((sortF (l.take 0)).map (·.1)).map ys) (sz := 1) (by rfl) rfl (by simp [sortF]) ?_
 refine L.assign rfl rfl ?_
 refine L.nil ?_
 refine T.thenN (T.seq (T.seq (T.region ?_)))
 refine L.move rfl rfl ?_
 refine L.lenSl rfl Tryz.underlying25 rfl ?_
 refine L.move rfl rfl ?_
 refine L.nil ?_
 refine T.thenN (T.block ?_)
 refine T.loop (fun K' D' M' μ => ∃ (i n3 c3 : Nat) (a3 : Option Addr), (i ≤ n ∧ (sortF (l.take i)).length = n3) ∧ K' = [(9, .int .i64 (i : Int)), (3, .slice a3 n3 c3)] ∧ D' = [] ∧ M' = [own 1 9 a3 n3 c3 (((sortF (l.take i)).map (·.1)).map ys)] ∧ μ = n - i) (.cons (t := 7) rfl <| .cons (t := 8) rfl <| SubK.nil _) (⟨0, 0, _, _, ⟨Nat.zero_le _, rfl⟩, rfl, rfl, rfl, rfl⟩) (.cons (t := 9) rfl <| .cons (t := 3) rfl <| SubK.nil _) qD qS ?_
 rintro K1 D1 M1 m1 ⟨i, n3, c3, a3, ⟨hi, hs3⟩, rfl, rfl, rfl, rfl⟩
 refine T.norm3 qA qA qA ?_
 refine T.seq (T.region ?_)
 refine L.ltI rfl rfl rfl ?_
 refine L.nil ?_
 refine T.thenN (T.seq ?_)
 refine T.cond rfl (fun h10 => ?_) (fun h10 => ?_)
 ·try simp only [dq] at h10
  refine T.skip (T.thenN (T.seq (T.block (T.seq ?_))))
  have hgi : l[i]? = some (gd l i) := gd_get (by omega)
  obtain ⟨x, hx_⟩ : ∃ x, x = gd l i := ⟨_, rfl⟩
  have hgm : (l.map (·.1))[i]? = some x.1 := by rw [hx_]; exact gd_map (by omega)
  rw [← hx_] at hgi
  have hgr : ((l.map (·.1)).map ys)[i]? = some (ys x.1) := map_get hgm
  clear hx_
  have hsl := sortF_len l i
  refine T.region ?_
  refine L.idx (i := i) rfl Tryz.underlying25 sz9 rfl rfl qM (by first | rfl | omega | (simp; done)) qG (fun b11 o11 => ?_)
  refine L.load rfl sc9 rfl qC ?_
  refine L.assign rfl rfl ?_
  refine L.nil ?_
  refine T.thenN ?_
  refine T.ownRsl (rows := ((sortF (l.take i)).map (·.1)).map ys) qP ?_
  refine T.region ?_
  refine L.move rfl rfl ?_
  refine L.move rfl rfl ?_
  refine L.call rfl (evs.cons rfl <| evs.cons rfl <| evs.nil) qD qS (with_spec (l := sortF (l.take i)) (z := x) (by omega)) ?_
  rintro _ _ _ ⟨wa, wn, wc, rfl, hwn, rfl, rfl⟩
  refine L.norm qA qA ?_
  refine L.assign rfl rfl ?_
  refine L.nil ?_
  refine T.blkN (T.thenN (T.region ?_))
  refine L.addN rfl rfl rfl (by omega) ?_
  refine L.move rfl rfl ?_
  refine L.nil ?_
  refine T.thenN ?_
  refine T.ownEq _ (((sortF (l.take (i + 1))).map (·.1)).map ys) qP (by rw [sortF_s hgi]) ?_
  exact T.back ⟨i + 1, wn, _, _, ⟨by omega, by rw [sortF_s hgi]; exact hwn⟩, rfl, rfl, rfl, rfl⟩ qI (.cons (t := 9) rfl <| .cons (t := 3) rfl <| SubK.nil _) (.cons (t := 7) rfl <| .cons (t := 8) rfl <| SubK.nil _) qD qD qF
 ·try simp only [dq] at h10
  obtain rfl : n = i := by omega
  rw [List.take_of_length_le (by omega)] at hs3
  rw [List.take_of_length_le (by omega)]
  refine T.exit (T.thenX (T.thenX (T.blkX (T.thenN (T.seq (T.region ?_))))))
  refine L.move rfl rfl ?_
  refine L.assign rfl rfl ?_
  refine L.nil ?_
  refine T.thenN (T.ret ?_)
  exact T.ret1 rfl rfl ⟨_, _, _, rfl, hs3, rfl, rfl⟩ qD qF
end Cv
