/-
  The walks: info.Of.
-/
import Derived.Test.YtcilkdnbbebjgaaGreatMN11
import Derived.Test.YtcilkdnbbebjgaaGreatD06
import Derived.Test.YtcilkdnbbebjgaaGreatProg
import Derived.KernelRfl
set_option linter.unusedVariables false
set_option linter.unusedSimpArgs false
set_option linter.unusedSectionVars false
set_option maxRecDepth 10000
namespace Cv
open Go Go.Proofs
/-! ## info.Of: the plain model -/
theorem fdiv2 (i j : Nat) : Int.fdiv ((i : Int) + (j : Int)) (2 ^ min (Int.toNat 1) IntKind.u64.bits) = (((i + j) / 2 : Nat) : Int) := by
  have : (2 ^ min (Int.toNat 1) IntKind.u64.bits : Int) = 2 := rfl
  rw [this, Int.fdiv_eq_ediv_of_nonneg _ (by decide)]; omega
def seedS : List UInt8 := [99, 97, 114, 97, 118, 97, 110]
theorem wrS_len (x : Tr) : (wrS x).length ≤ 32768 := by
  unfold wrS
  split
  · rename_i h; rw [List.length_append]; show 4 + _ ≤ _; exact h.2
  · simp
def ofB (x : Tr) : Pt × List Ob × Int := bldM (chnF (gearT seedS) (wrS x))
def ofI (x : Tr) (l : List ID32) : Pt × List ID32 × List Ob × Int :=
  if wrE x ≠ 0 then (zP, [], [], wrE x) else if 8 < l.length then (zP, [], [], 5)
  else if (ofB x).2.2 ≠ 0 then (zP, [], [], (ofB x).2.2) else ((ofB x).1, l, (ofB x).2.1, 0)

set_option maxHeartbeats 400000 in
theorem bsrch_spec {a : Option Addr} {n c : Nat} {l : List ID32} {z : ID32} (hs : l.Pairwise (fun x y => x.1 < y.1)) (hn : n ≤ 1000000) : Spec Tryz.prog 62 [.slice a n c, .agg (iC z).toArray, fnV 59 []] [rsl 32 a n c (l.map iC)] [] (fun v D' M' => ∃ (k : Nat), v = .tuple #[.int .i64 (k : Int), .bool (decide (z ∈ l))] ∧ D' = [] ∧ M' = []) := by
 refine Spec.intro (n := 49) Tryz.func62 rfl rfl (by decide) (Nat.le_of_ble_eq_true rfl) rfl (fun _ => qA) (fun _ => qA) ?_
 intro σ D M
 refine T.rslLen2 (rows := l.map iC) qM (fun hpl hpc => ?_)
 rw [List.length_map] at hpl
 have hz3 := iC_len z
 have hz2 := z.2
 refine T.seq (T.region ?_)
 refine L.box rfl rfl rfl (fun b4 => ?_)
 refine L.assign rfl rfl ?_
 refine L.assign rfl rfl ?_
 refine L.nil ?_
 refine T.freeze (A := cl b4 31 (iC z)) qP ?_
 refine T.thenN (T.seq (T.region ?_))
 refine L.move rfl rfl ?_
 refine L.lenSl rfl Tryz.underlying27 rfl ?_
 refine L.assign rfl rfl ?_
 refine L.nil ?_
 refine T.thenN (T.seq (T.region ?_))
 refine L.move rfl rfl ?_
 refine L.assign rfl rfl ?_
 refine L.assign rfl rfl ?_
 refine L.nil ?_
 refine T.thenN (T.seq (T.block ?_))
 refine T.loop (fun K' D' M' μ => ∃ (i j : Nat), (HalfI l z i j) ∧ K' = [(9, .int .i64 (i : Int)), (10, .int .i64 (j : Int))] ∧ D' = [] ∧ M' = [] ∧ μ = j - i) (.cons (t := 0) rfl <| .cons (t := 2) rfl <| .cons (t := 4) rfl <| .cons (t := 8) rfl <| SubK.nil _) (⟨0, n, ⟨⟨Nat.zero_le _, by omega⟩, fun p h => by omega, fun p h k => by omega⟩, rfl, rfl, rfl, rfl⟩) (.cons (t := 9) rfl <| .cons (t := 10) rfl <| SubK.nil _) qD qS ?_
 rintro K1 D1 M1 m1 ⟨i, j, hH, rfl, rfl, rfl, rfl⟩
 refine T.norm3 qA qA qA ?_
 refine T.seq (T.seq (T.region ?_))
 refine L.move rfl rfl ?_
 refine L.move rfl rfl ?_
 refine L.ltI rfl rfl rfl ?_
 refine L.nil ?_
 refine T.thenN ?_
 refine T.cond rfl (fun h17 => ?_) (fun h17 => ?_)
 ·try simp only [dq] at h17
  refine T.skip (T.thenN (T.block (T.seq ?_)))
  have hle := hH.le
  obtain ⟨h, hh⟩ : ∃ h, h = (i + j) / 2 := ⟨_, rfl⟩
  refine T.region ?_
  refine L.move rfl rfl ?_
  refine L.move rfl rfl ?_
  refine L.addN rfl rfl rfl (by omega) ?_
  refine L.convU rfl Tryz.underlying3 Tryz.underlying140 rfl qI ?_
  refine L.shrI rfl rfl rfl qI ?_
  refine L.known (t := 22) (u := .int .u64 (h : Int)) rfl (congrArg (Value.int .u64) ((fdiv2 i j).trans (congrArg _ hh.symm))) ?_
  refine L.convN rfl Tryz.underlying140 Tryz.underlying3 rfl qI ?_
  refine L.known (t := 23) (u := .int .i64 (h : Int)) rfl (congrArg (Value.int .i64) (by omega)) ?_
  refine L.assign rfl rfl ?_
  refine L.nil ?_
  refine T.thenN (T.seq ?_)
  have hg0 : l[h]? = some (gd l h) := gd_get (by omega)
  have hgr0 : (l.map iC)[h]? = some (iC (gd l h)) := map_get hg0
  have hw0 := iC_len (gd l h)
  have hv0 := (gd l h).2
  refine T.rslAddr (rows := l.map iC) qM (fun e => by have := congrArg List.length e; rw [List.length_map] at this; simp only [List.length_nil] at this; omega) (fun bo oo ha => ?_)
  subst ha
  refine T.regionQ qk qk ?_
  refine L.move rfl rfl ?_
  refine L.move rfl rfl ?_
  refine L.move rfl rfl ?_
  refine L.idxR (i := h) rfl Tryz.underlying27 sz31 rfl rfl qM (by first | rfl | omega | (simp; done)) qI qG ?_
  refine L.loadA rfl ag31 rfl (CellsN.ofD qM (hw0)) ?_
  refine L.loadA rfl ag31 rfl qN ?_
  refine L.callVF rfl rfl (evs.cons rfl <| evs.cons rfl <| evs.nil) qD qS (ocmp_spec (x := gd l h) (y := z)) (by rintro u D1 M1 ⟨rfl, rfl, rfl⟩; exact ⟨rfl, _, qA, qF⟩) ?_
  refine L.ltI rfl rfl rfl ?_
  refine L.nilQ ?_
  refine T.thenN ?_
  refine T.cond rfl (fun h31 => ?_) (fun h31 => ?_)
  ·try simp only [dq] at h31
   refine T.region ?_
   refine L.move rfl rfl ?_
   refine L.addN rfl rfl rfl (by omega) ?_
   refine L.assign rfl rfl ?_
   refine L.nil ?_
   refine T.blkN (T.thenN ?_)
   exact T.back ⟨h + 1, j, hH.up hs (by omega) (by omega) h31, rfl, rfl, rfl, rfl⟩ qI (.cons (t := 9) rfl <| .cons (t := 10) rfl <| SubK.nil _) (.cons (t := 0) rfl <| .cons (t := 2) rfl <| .cons (t := 4) rfl <| .cons (t := 8) rfl <| SubK.nil _) qD qD qF
  ·try simp only [dq] at h31
   refine T.region ?_
   refine L.move rfl rfl ?_
   refine L.assign rfl rfl ?_
   refine L.nil ?_
   refine T.blkN (T.thenN ?_)
   exact T.back ⟨i, h, hH.down hs (by omega) (by omega) h31, rfl, rfl, rfl, rfl⟩ qI (.cons (t := 9) rfl <| .cons (t := 10) rfl <| SubK.nil _) (.cons (t := 0) rfl <| .cons (t := 2) rfl <| .cons (t := 4) rfl <| .cons (t := 8) rfl <| SubK.nil _) qD qD qF
 ·try simp only [dq] at h17
  have hf := hH.fin hs (by omega)
  have hle := hH.le
  refine T.exit (T.thenX (T.thenX (T.blkX (T.thenN (T.seq ?_)))))
  rcases Nat.lt_or_ge i n with hin | hin
  ·skip
   have hg0 : l[i]? = some (gd l i) := gd_get (by omega)
   have hgr0 : (l.map iC)[i]? = some (iC (gd l i)) := map_get hg0
   have hw0 := iC_len (gd l i)
   have hv0 := (gd l i).2
   refine T.rslAddr (rows := l.map iC) qM (fun e => by have := congrArg List.length e; rw [List.length_map] at this; simp only [List.length_nil] at this; omega) (fun bo oo ha => ?_)
   subst ha
   refine T.regionQ qk qk ?_
   refine L.move rfl rfl ?_
   refine L.move rfl rfl ?_
   refine L.move rfl rfl ?_
   refine L.ltI rfl rfl rfl ?_
   refine L.move rfl rfl ?_
   refine L.known (t := 39) rfl (show _ = Value.bool true from congrArg Value.bool (decide_eq_true (by omega))) ?_
   refine L.guardT (dj := 39) rfl rfl rfl ?_
   refine L.move rfl rfl ?_
   refine L.guardT (dj := 39) rfl rfl rfl ?_
   refine L.move rfl rfl ?_
   refine L.guardT (dj := 39) rfl rfl rfl ?_
   refine L.move rfl rfl ?_
   refine L.guardT (dj := 39) rfl rfl rfl ?_
   refine L.idxR (i := i) rfl Tryz.underlying27 sz31 rfl rfl qM (by first | rfl | omega | (simp; done)) qI qG ?_
   refine L.guardT (dj := 39) rfl rfl rfl ?_
   refine L.loadA rfl ag31 rfl (CellsN.ofD qM (hw0)) ?_
   refine L.guardT (dj := 39) rfl rfl rfl ?_
   refine L.loadA rfl ag31 rfl qN ?_
   refine L.guardT (dj := 39) rfl rfl rfl ?_
   refine L.callVF rfl rfl (evs.cons rfl <| evs.cons rfl <| evs.nil) qD qS (ocmp_spec (x := gd l i) (y := z)) (by rintro u D1 M1 ⟨rfl, rfl, rfl⟩; exact ⟨rfl, _, qA, qF⟩) ?_
   refine L.guardT (dj := 39) rfl rfl rfl ?_
   refine L.eqI rfl rfl rfl ?_
   refine L.pickT rfl rfl rfl ?_
   refine L.assign rfl rfl ?_
   refine L.assign rfl rfl ?_
   refine L.nilQ ?_
   refine T.thenN (T.ret ?_)
   exact T.ret2 rfl rfl rfl ⟨i, by rw [decide_eq_decide.2 (show z ∈ l ↔ cfI (gd l i) z = 0 from hf.trans ⟨fun q => q.2, fun q => ⟨by omega, q⟩⟩)], rfl, rfl⟩ qD qF
  ·skip
   refine T.regionQ qk qk ?_
   refine L.move rfl rfl ?_
   refine L.move rfl rfl ?_
   refine L.move rfl rfl ?_
   refine L.ltI rfl rfl rfl ?_
   refine L.move rfl rfl ?_
   refine L.known (t := 39) rfl (show _ = Value.bool false from congrArg Value.bool (decide_eq_false (by omega))) ?_
   refine L.guardF (dj := 39) (c := false) rfl rfl rfl rfl rfl (by decide) ?_
   refine L.guardF (dj := 39) (c := false) rfl rfl rfl rfl rfl (by decide) ?_
   refine L.guardF (dj := 39) (c := false) rfl rfl rfl rfl rfl (by decide) ?_
   refine L.guardF (dj := 39) (c := false) rfl rfl rfl rfl rfl (by decide) ?_
   refine L.guardF (dj := 39) (c := false) rfl rfl rfl rfl rfl (by decide) ?_
   refine L.guardF (dj := 39) (c := false) rfl rfl rfl rfl rfl (by decide) ?_
   refine L.guardF (dj := 39) (c := false) rfl rfl rfl rfl rfl (by decide) ?_
   refine L.guardF (dj := 39) (c := false) rfl rfl rfl rfl rfl (by decide) ?_
   refine L.pickF rfl rfl rfl ?_
   refine L.assign rfl rfl ?_
   refine L.assign rfl rfl ?_
   refine L.nilQ ?_
   refine T.thenN (T.ret ?_)
   exact T.ret2 rfl rfl rfl ⟨i, by rw [decide_eq_false (show ¬ z ∈ l from fun q => by have := (hf.1 q).1; omega)], rfl, rfl⟩ qD qF
set_option maxHeartbeats 400000 in
theorem refers_spec {a : Option Addr} {n c : Nat} {l : List ID32} {p : Pt} {z : ID32} (hs : l.Pairwise (fun x y => x.1 < y.1)) (hn : n ≤ 1000000) : Spec Tryz.prog 27 [.agg (inC p a n c).toArray, .agg (iC z).toArray] [rsl 32 a n c (l.map iC)] [] (fun v D' M' => v = .bool (decide (z ∈ l)) ∧ D' = [] ∧ M' = []) := by
 refine Spec.intro (n := 15) Tryz.func27 rfl rfl (by decide) (Nat.le_of_ble_eq_true rfl) rfl (fun _ => qA) (fun _ => qA) ?_
 intro σ D M
 have hz3 := iC_len z
 have hp3 := inC_len p a n c
 have hp32 := p.1.2
 refine T.seq (T.region ?_)
 refine L.box rfl rfl rfl (fun b2 => ?_)
 refine L.box rfl rfl rfl (fun b3 => ?_)
 refine L.assign rfl rfl ?_
 refine L.nil ?_
 refine T.thenN (T.seq (T.region ?_))
 first | refine L.field0 rfl fo35_1 rfl ?_ | refine L.field rfl fo35_1 rfl ?_
 refine L.load rfl sc27 rfl qC ?_
 refine L.loadA rfl ag31 rfl qN ?_
 refine L.call rfl (evs.cons rfl <| evs.cons rfl <| evs.cons rfl <| evs.nil) qD qS (bsrch_spec (l := l) (z := z) hs hn) ?_
 rintro _ _ _ ⟨k, rfl, rfl, rfl⟩
 refine L.norm qA qA ?_
 refine L.move rfl rfl ?_
 refine L.extract rfl rfl rfl ?_
 refine L.extract rfl rfl rfl ?_
 refine L.assign rfl rfl ?_
 refine L.assign rfl rfl ?_
 refine L.nil ?_
 refine T.thenN (T.seq (T.region ?_))
 refine L.move rfl rfl ?_
 refine L.assign rfl rfl ?_
 refine L.nil ?_
 refine T.thenN (T.ret ?_)
 exact T.ret1 rfl rfl ⟨rfl, rfl, rfl⟩ qD qF
set_option maxHeartbeats 400000 in
theorem iof_spec {x : Tr} (ta : Option Addr) (tl tc : Nat) {a : Option Addr} {n c : Nat} {xs : List ID32} (hc : x.count ≤ 900000) (hsm : TAll Sm x) (htl : x.t.length ≤ 20000) (hb : n ≤ 60000) : Spec Tryz.prog 10 [.agg (iRow x ta tl tc).toArray, .slice a n c] [rtr x (eRow x ta tl tc), rsl 32 a n c (xs.map iC)] [] (fun v D' M' => ∃ (a1 a2 : Option Addr) (n1 c1 n2 c2 : Nat) (l : List ID32), v = .tuple #[.agg (inC (ofI x l).1 a1 n1 c1).toArray, .slice a2 n2 c2, .int .i64 (ofI x l).2.2.2] ∧ (NamesF xs l ∨ wrE x ≠ 0) ∧ ((ofI x l).2.1.length = n1) ∧ ((ofI x l).2.2.1.length = n2) ∧ D' = [rsl 32 a1 n1 c1 ((ofI x l).2.1.map iC), rsl 34 a2 n2 c2 ((ofI x l).2.2.1.map obC)] ∧ M' = []) := by
 refine Spec.intro (n := 42) Tryz.func10 rfl rfl (by decide) (Nat.le_of_ble_eq_true rfl) rfl (fun _ => qA) (fun _ => qA) ?_
 intro σ D M
 have hwl := wrS_len x
 refine T.seq (T.region ?_)
 refine L.box rfl rfl rfl (fun b2 => ?_)
 refine L.alloc rfl ze35 (fun b4 => ?_)
 refine L.assign rfl rfl ?_
 refine L.assign rfl rfl ?_
 refine L.nil ?_
 refine T.thenN (T.seq (T.region ?_))
 refine L.loadA rfl ag24 rfl qN ?_
 refine L.callF rfl (evs.cons rfl <| evs.nil) qD qS (write_spec (x := x) _ _ _ hc hsm htl) (by rintro u D1 M1 ⟨rfl, rfl, rfl⟩; exact ⟨rfl, _, qA, qF⟩) ?_
 refine L.move rfl rfl ?_
 refine L.extract rfl rfl rfl ?_
 refine L.extract rfl rfl rfl ?_
 refine L.assign rfl rfl ?_
 refine L.assign rfl rfl ?_
 refine L.nil ?_
 refine T.thenN (T.seq (T.seq (T.region ?_)))
 refine L.move rfl rfl ?_
 refine L.neI rfl rfl rfl ?_
 refine L.nil ?_
 refine T.thenN ?_
 refine T.cond rfl (fun h17 => ?_) (fun h17 => ?_)
 ·try simp only [dq] at h17
  refine T.seq (T.region ?_)
  refine L.build rfl bu35 (BP.doneE (out := (Value.int .u8 0 :: Value.int .u8 0 :: Value.int .u8 0 :: Value.int .u8 0 :: Value.int .u8 0 :: Value.int .u8 0 :: Value.int .u8 0 :: Value.int .u8 0 :: Value.int .u8 0 :: Value.int .u8 0 :: Value.int .u8 0 :: Value.int .u8 0 :: Value.int .u8 0 :: Value.int .u8 0 :: Value.int .u8 0 :: Value.int .u8 0 :: Value.int .u8 0 :: Value.int .u8 0 :: Value.int .u8 0 :: Value.int .u8 0 :: Value.int .u8 0 :: Value.int .u8 0 :: Value.int .u8 0 :: Value.int .u8 0 :: Value.int .u8 0 :: Value.int .u8 0 :: Value.int .u8 0 :: Value.int .u8 0 :: Value.int .u8 0 :: Value.int .u8 0 :: Value.int .u8 0 :: Value.int .u8 0 :: Value.int .i64 0 :: Value.slice none 0 0 :: [])) rfl) ?_
  refine L.move rfl rfl ?_
  refine L.storeA ag35 rfl rfl qL qO qU qW ?_
  refine L.assign rfl rfl ?_
  refine L.assign rfl rfl ?_
  refine L.nil ?_
  refine T.eqv (A := cl b4 35 (Value.int .u8 0 :: Value.int .u8 0 :: Value.int .u8 0 :: Value.int .u8 0 :: Value.int .u8 0 :: Value.int .u8 0 :: Value.int .u8 0 :: Value.int .u8 0 :: Value.int .u8 0 :: Value.int .u8 0 :: Value.int .u8 0 :: Value.int .u8 0 :: Value.int .u8 0 :: Value.int .u8 0 :: Value.int .u8 0 :: Value.int .u8 0 :: Value.int .u8 0 :: Value.int .u8 0 :: Value.int .u8 0 :: Value.int .u8 0 :: Value.int .u8 0 :: Value.int .u8 0 :: Value.int .u8 0 :: Value.int .u8 0 :: Value.int .u8 0 :: Value.int .u8 0 :: Value.int .u8 0 :: Value.int .u8 0 :: Value.int .u8 0 :: Value.int .u8 0 :: Value.int .u8 0 :: Value.int .u8 0 :: Value.int .i64 0 :: Value.slice none 0 0 :: [])) (B := cl b4 35 (inC zP none 0 0)) qP rfl ?_
  refine T.newOwn (sz := 32) (e := 31) ?_
  refine T.eqv qP (show own 32 31 none 0 0 [] = own 32 31 none 0 0 ((([] : List ID32)).map iC) from rfl) ?_
  refine T.ownRsl (rows := ([] : List ID32).map iC) qP ?_
  refine T.newOwn (sz := 34) (e := 56) ?_
  refine T.eqv qP (show own 34 56 none 0 0 [] = own 34 56 none 0 0 ((([] : List Ob)).map obC) from rfl) ?_
  refine T.ownRsl (rows := ([] : List Ob).map obC) qP ?_
  refine T.thenN (T.ret ?_)
  refine T.thenR ?_
  have hO : ofI x [] = (zP, [], [], wrE x) := by unfold ofI; rw [if_pos h17]
  exact T.retATT rfl ag35 rfl qN rfl rfl ⟨none, none, 0, 0, 0, 0, [], by rw [hO] <;> rfl, .inr h17, by rw [hO] <;> rfl, by rw [hO] <;> rfl, by rw [hO] <;> rfl, rfl⟩ qD qF
 ·try simp only [dq] at h17
  refine T.skip (T.thenN (T.seq (T.region ?_)))
  refine L.move rfl rfl ?_
  refine L.call rfl (evs.cons rfl <| evs.nil) qD qS (sorted_spec (xs := xs) hb) ?_
  rintro _ _ _ ⟨sa, sn, sc, l, rfl, hnf, hsn, rfl, rfl⟩
  refine L.norm qA qA ?_
  refine L.assign rfl rfl ?_
  refine L.nil ?_
  refine T.ownRsl (rows := l.map iC) qP ?_
  refine T.thenN (T.seq (T.seq (T.region ?_)))
  refine L.move rfl rfl ?_
  refine L.lenSl rfl Tryz.underlying27 rfl ?_
  refine L.gtI rfl rfl rfl ?_
  refine L.nil ?_
  refine T.thenN ?_
  refine T.cond rfl (fun h24 => ?_) (fun h24 => ?_)
  ·try simp only [dq] at h24
   refine T.seq (T.region ?_)
   refine L.build rfl bu35 (BP.doneE (out := (Value.int .u8 0 :: Value.int .u8 0 :: Value.int .u8 0 :: Value.int .u8 0 :: Value.int .u8 0 :: Value.int .u8 0 :: Value.int .u8 0 :: Value.int .u8 0 :: Value.int .u8 0 :: Value.int .u8 0 :: Value.int .u8 0 :: Value.int .u8 0 :: Value.int .u8 0 :: Value.int .u8 0 :: Value.int .u8 0 :: Value.int .u8 0 :: Value.int .u8 0 :: Value.int .u8 0 :: Value.int .u8 0 :: Value.int .u8 0 :: Value.int .u8 0 :: Value.int .u8 0 :: Value.int .u8 0 :: Value.int .u8 0 :: Value.int .u8 0 :: Value.int .u8 0 :: Value.int .u8 0 :: Value.int .u8 0 :: Value.int .u8 0 :: Value.int .u8 0 :: Value.int .u8 0 :: Value.int .u8 0 :: Value.int .i64 0 :: Value.slice none 0 0 :: [])) rfl) ?_
   refine L.storeA ag35 rfl rfl qL qO qU qW ?_
   refine L.assign rfl rfl ?_
   refine L.assign rfl rfl ?_
   refine L.nil ?_
   refine T.eqv (A := cl b4 35 (Value.int .u8 0 :: Value.int .u8 0 :: Value.int .u8 0 :: Value.int .u8 0 :: Value.int .u8 0 :: Value.int .u8 0 :: Value.int .u8 0 :: Value.int .u8 0 :: Value.int .u8 0 :: Value.int .u8 0 :: Value.int .u8 0 :: Value.int .u8 0 :: Value.int .u8 0 :: Value.int .u8 0 :: Value.int .u8 0 :: Value.int .u8 0 :: Value.int .u8 0 :: Value.int .u8 0 :: Value.int .u8 0 :: Value.int .u8 0 :: Value.int .u8 0 :: Value.int .u8 0 :: Value.int .u8 0 :: Value.int .u8 0 :: Value.int .u8 0 :: Value.int .u8 0 :: Value.int .u8 0 :: Value.int .u8 0 :: Value.int .u8 0 :: Value.int .u8 0 :: Value.int .u8 0 :: Value.int .u8 0 :: Value.int .i64 0 :: Value.slice none 0 0 :: [])) (B := cl b4 35 (inC zP none 0 0)) qP rfl ?_
   refine T.newOwn (sz := 32) (e := 31) ?_
   refine T.eqv qP (show own 32 31 none 0 0 [] = own 32 31 none 0 0 ((([] : List ID32)).map iC) from rfl) ?_
   refine T.ownRsl (rows := ([] : List ID32).map iC) qP ?_
   refine T.newOwn (sz := 34) (e := 56) ?_
   refine T.eqv qP (show own 34 56 none 0 0 [] = own 34 56 none 0 0 ((([] : List Ob)).map obC) from rfl) ?_
   refine T.ownRsl (rows := ([] : List Ob).map obC) qP ?_
   refine T.thenN (T.ret ?_)
   refine T.thenR ?_
   have hO : ofI x l = (zP, [], [], 5) := by unfold ofI; rw [if_neg h17, if_pos (by omega)]
   exact T.retATT rfl ag35 rfl qN rfl rfl ⟨none, none, 0, 0, 0, 0, l, by rw [hO] <;> rfl, .inl hnf, by rw [hO] <;> rfl, by rw [hO] <;> rfl, by rw [hO] <;> rfl, rfl⟩ qD qF
  ·try simp only [dq] at h24
   refine T.skip (T.thenN (T.seq (T.region ?_)))
   refine L.call rfl (evs.cons rfl <| evs.nil) qD qS (gnew_spec (seed := seedS) (by decide)) ?_
   rintro _ _ _ ⟨tb, rfl, rfl, rfl⟩
   refine L.norm qA qA ?_
   refine L.move rfl rfl ?_
   refine L.call rfl (evs.cons rfl <| evs.cons rfl <| evs.nil) qD qS (cut2_spec (tt := gearT seedS) (s := wrS x) gearT_len (by omega)) ?_
   rintro _ _ _ ⟨ka, kn, kc, rfl, hkn, rfl, rfl⟩
   refine L.norm qA qA ?_
   have hkl := chnF_len (T := gearT seedS) (s := wrS x)
   refine L.ownRsl (rows := (chnF (gearT seedS) (wrS x)).map ys) qP ?_
   refine L.call rfl (evs.cons rfl <| evs.nil) qD qS (mbuild_spec (cs := chnF (gearT seedS) (wrS x)) (by omega)) ?_
   rintro _ _ _ ⟨ma, mn, mc, rfl, hmn, rfl, rfl⟩
   refine L.norm qA qA ?_
   have hbe : bldM (chnF (gearT seedS) (wrS x)) = ofB x := rfl
   rw [hbe] at hmn ⊢
   have hp3 := ptC_len (ofB x).1
   have hp32 := (ofB x).1.1.2
   have hin := inC_len (ofB x).1 sa sn sc
   refine L.move rfl rfl ?_
   refine L.extract rfl rfl rfl ?_
   refine L.extract rfl rfl rfl ?_
   refine L.extract rfl rfl rfl ?_
   refine L.alloc rfl ze33 (fun b9 => ?_)
   refine L.storeA ag33 rfl rfl qL qO qU qW ?_
   refine L.assign rfl rfl ?_
   refine L.assign rfl rfl ?_
   refine L.nil ?_
   refine T.ownRsl (rows := (ofB x).2.1.map obC) qP ?_
   refine T.thenN (T.seq (T.seq (T.region ?_)))
   refine L.move rfl rfl ?_
   refine L.neI rfl rfl rfl ?_
   refine L.nil ?_
   refine T.thenN ?_
   refine T.cond rfl (fun h35 => ?_) (fun h35 => ?_)
   ·try simp only [dq] at h35
    refine T.seq (T.region ?_)
    refine L.build rfl bu35 (BP.doneE (out := (Value.int .u8 0 :: Value.int .u8 0 :: Value.int .u8 0 :: Value.int .u8 0 :: Value.int .u8 0 :: Value.int .u8 0 :: Value.int .u8 0 :: Value.int .u8 0 :: Value.int .u8 0 :: Value.int .u8 0 :: Value.int .u8 0 :: Value.int .u8 0 :: Value.int .u8 0 :: Value.int .u8 0 :: Value.int .u8 0 :: Value.int .u8 0 :: Value.int .u8 0 :: Value.int .u8 0 :: Value.int .u8 0 :: Value.int .u8 0 :: Value.int .u8 0 :: Value.int .u8 0 :: Value.int .u8 0 :: Value.int .u8 0 :: Value.int .u8 0 :: Value.int .u8 0 :: Value.int .u8 0 :: Value.int .u8 0 :: Value.int .u8 0 :: Value.int .u8 0 :: Value.int .u8 0 :: Value.int .u8 0 :: Value.int .i64 0 :: Value.slice none 0 0 :: [])) rfl) ?_
    refine L.move rfl rfl ?_
    refine L.storeA ag35 rfl rfl qL qO qU qW ?_
    refine L.assign rfl rfl ?_
    refine L.assign rfl rfl ?_
    refine L.nil ?_
    refine T.eqv (A := cl b4 35 (Value.int .u8 0 :: Value.int .u8 0 :: Value.int .u8 0 :: Value.int .u8 0 :: Value.int .u8 0 :: Value.int .u8 0 :: Value.int .u8 0 :: Value.int .u8 0 :: Value.int .u8 0 :: Value.int .u8 0 :: Value.int .u8 0 :: Value.int .u8 0 :: Value.int .u8 0 :: Value.int .u8 0 :: Value.int .u8 0 :: Value.int .u8 0 :: Value.int .u8 0 :: Value.int .u8 0 :: Value.int .u8 0 :: Value.int .u8 0 :: Value.int .u8 0 :: Value.int .u8 0 :: Value.int .u8 0 :: Value.int .u8 0 :: Value.int .u8 0 :: Value.int .u8 0 :: Value.int .u8 0 :: Value.int .u8 0 :: Value.int .u8 0 :: Value.int .u8 0 :: Value.int .u8 0 :: Value.int .u8 0 :: Value.int .i64 0 :: Value.slice none 0 0 :: [])) (B := cl b4 35 (inC zP none 0 0)) qP rfl ?_
    refine T.newOwn (sz := 32) (e := 31) ?_
    refine T.eqv qP (show own 32 31 none 0 0 [] = own 32 31 none 0 0 ((([] : List ID32)).map iC) from rfl) ?_
    refine T.ownRsl (rows := ([] : List ID32).map iC) qP ?_
    refine T.newOwn (sz := 34) (e := 56) ?_
    refine T.eqv qP (show own 34 56 none 0 0 [] = own 34 56 none 0 0 ((([] : List Ob)).map obC) from rfl) ?_
    refine T.ownRsl (rows := ([] : List Ob).map obC) qP ?_
    refine T.thenN (T.ret ?_)
    refine T.thenR ?_
    have hO : ofI x l = (zP, [], [], (ofB x).2.2) := by unfold ofI; rw [if_neg h17, if_neg (by omega), if_pos h35]
    exact T.retATT rfl ag35 rfl qN rfl rfl ⟨none, none, 0, 0, 0, 0, l, by rw [hO] <;> rfl, .inl hnf, by rw [hO] <;> rfl, by rw [hO] <;> rfl, by rw [hO] <;> rfl, rfl⟩ qD qF
   ·try simp only [dq] at h35
    refine T.skip (T.thenN (T.seq (T.region ?_)))
    refine L.loadA rfl ag33 rfl qN ?_
    refine L.move rfl rfl ?_
    refine L.build rfl bu35 (BP.agg rfl rfl (by first | with_reducible assumption | (simp; done) | (simp only [List.length_map]; with_reducible assumption) | (simp [*]; done) | rfl) (Nat.le_of_ble_eq_true rfl) qR <| BP.one rfl rfl rfl <| BP.doneE (out := []) rfl) ?_
    refine L.known (t := 40) (u := .agg (inC (ofB x).1 sa sn sc).toArray) rfl (by first | rfl | simp) ?_
    refine L.move rfl rfl ?_
    refine L.storeA ag35 rfl rfl qL qO qU qW ?_
    refine L.assign rfl rfl ?_
    refine L.assign rfl rfl ?_
    refine L.nil ?_
    refine T.thenN (T.ret ?_)
    have hO : ofI x l = ((ofB x).1, l, (ofB x).2.1, 0) := by unfold ofI; rw [if_neg h17, if_neg (by omega), if_neg h35]
    exact T.retATT rfl ag35 rfl qN rfl rfl ⟨sa, ma, sn, sc, mn, mc, l, by rw [hO] <;> rfl, .inl hnf, by rw [hO]; exact hsn, by rw [hO]; exact hmn, by rw [hO] <;> rfl, rfl⟩ qD qF
end Cv
