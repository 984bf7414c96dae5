/-
  The walks: At.
-/
import Derived.Test.YtdajpfbgikgkeaaW05
import Derived.Test.YtdajpfbgikgkeaaX05
import Derived.Test.YtdajpfbgikgkeaaU05
import Derived.Test.YtdajpfbgikgkeaaProg
import Derived.KernelRfl
set_option maxRecDepth 10000
set_option linter.unusedSimpArgs false
set_option linter.unusedVariables false
namespace Cv
open Go Go.Proofs
theorem sz9 : Sz Try.prog 9 1 := fun w => by kernel_rfl
theorem zv9 : ∀ w, (zeroValue 9).run Try.prog w = .ok (S []) w := fun w => by kernel_rfl
theorem ze9 : Ze Try.prog 9 [S []] := ⟨_, rfl, zv9⟩
set_option maxHeartbeats 400000 in
theorem at1_spec {y : Tr} {a : Option Addr} {len cap : Nat} {s : List UInt8} {bs : Nat}  : Spec Try.prog 52 [.agg (eRow y a len cap).toArray, .pointer (some ⟨bs, 0, none⟩)] [cl bs 9 [S s]] [] (fun v D' M' => v = .bool (decide (y.n = s)) ∧ D' = [] ∧ M' = []) := by
  refine Spec.intro (n := 8) Try.func52 rfl rfl (by decide) (Nat.le_of_ble_eq_true rfl) rfl (fun _ => qA) (fun _ => qA) ?_
  intro σ D M
  refine T.seq ?_
  refine T.region ?_
  refine L.box rfl rfl rfl (fun b2 => ?_)
  refine L.assign rfl rfl ?_
  refine L.nil ?_
  refine T.thenN ?_
  refine T.seq ?_
  refine T.region ?_
  first | refine L.field0 rfl fo36_0 rfl ?_ | refine L.field rfl fo36_0 rfl ?_
  refine L.load rfl sc9 rfl qC ?_
  refine L.load rfl sc9 rfl qC ?_
  refine L.eqS rfl rfl rfl ?_
  refine L.assign rfl rfl ?_
  refine L.nil ?_
  refine T.thenN ?_
  refine T.ret ?_
  exact T.ret1 rfl rfl ⟨rfl, rfl, rfl⟩ qD qF
set_option maxHeartbeats 400000 in
theorem ifn_spec {ks : List Tr} {a : Option Addr} {len cap : Nat} {rows : List (List Value)} {s : List UInt8} {bs : Nat} (hb : len ≤ 1000000000000) (hkl : ks.length = len) : Spec Try.prog 51 [.slice a len cap, fnV 52 [.pointer (some ⟨bs, 0, none⟩)]] [rsl 4 a len cap rows, kidsA ks rows, cl bs 9 [S s]] [] (fun v D' M' => ∃ (r : Int), v = .int .i64 r ∧ ((r = -1 ∧ fiT ks s = none) ∨ ∃ (i : Nat) (y : Tr), r = i ∧ ks[i]? = some y ∧ fiT ks s = some y) ∧ D' = [] ∧ M' = []) := by
  refine Spec.intro (n := 19) Try.func51 rfl rfl (by decide) (Nat.le_of_ble_eq_true rfl) rfl (fun _ => qA) (fun _ => qA) ?_
  intro σ D M
  refine T.rslLen (a := a) qM (fun hrl => ?_)
  refine T.kidRows (rows := rows) qM (fun hrw => ?_)
  refine T.seq ?_
  refine T.region ?_
  refine L.assign rfl rfl ?_
  refine L.nil ?_
  refine T.thenN ?_
  refine T.seq ?_
  refine T.seq ?_
  refine T.region ?_
  refine L.move rfl rfl ?_
  refine L.lenSl rfl Try.underlying22 rfl ?_
  refine L.move rfl rfl ?_
  refine L.nil ?_
  refine T.thenN ?_
  refine T.block ?_
  refine T.loop (fun K' D' M' μ => ∃ (i : Nat), (i ≤ len ∧ ∀ z ∈ ks.take i, z.n ≠ s) ∧ K' = [(8, .int .i64 i)] ∧ D' = [] ∧ M' = [] ∧ μ = len - i) (.cons (t := 0) rfl <| .cons (t := 1) rfl <| .cons (t := 7) rfl <| SubK.nil _) (⟨0, ⟨by omega, by simp⟩, rfl, rfl, rfl, rfl⟩) (.cons (t := 8) rfl <| SubK.nil _) qD qS ?_
  rintro K1 D1 M1 m1 ⟨i, ⟨hi, hall⟩, rfl, rfl, rfl, rfl⟩
  refine T.norm3 qA qA qA ?_
  refine T.seq ?_
  refine T.region ?_
  refine L.ltI rfl rfl rfl ?_
  refine L.nil ?_
  refine T.thenN ?_
  refine T.seq ?_
  refine T.cond rfl (fun h9 => ?_) (fun h9 => ?_)
  · try simp only [decide_eq_true_eq, decide_eq_false_iff_not, Bool.not_eq_true', Bool.not_eq_false', Bool.and_eq_true, Bool.or_eq_true] at h9
    refine T.skip ?_
    refine T.thenN ?_
    refine T.seq ?_
    refine T.block ?_
    refine T.seq ?_
    refine T.region ?_
    refine L.move rfl rfl ?_
    refine L.assign rfl rfl ?_
    refine L.nil ?_
    refine T.thenN ?_
    refine T.seq ?_
    have hy : ks[i]? = some (gd ks i) := gd_get (by omega)
    obtain ⟨y, hyy⟩ : ∃ y, y = gd ks i := ⟨_, rfl⟩
    rw [← hyy] at hy
    refine T.kidOpen (rows := rows) qM hy (fun ka kl kc hr => ?_)
    refine T.region ?_
    refine L.move rfl rfl ?_
    refine L.move rfl rfl ?_
    refine L.move rfl rfl ?_
    refine L.idx (i := i) rfl Try.underlying22 sz36 rfl rfl qM (by first | rfl | omega | (simp; done)) qG (fun b14 o14 => ?_)
    refine L.loadA rfl ag36 rfl qN ?_
    refine L.callVF rfl rfl (evs.cons rfl <| evs.nil) qD qS (at1_spec (y := y) (s := s)) (by rintro u D1 M1 ⟨rfl, rfl, rfl⟩; exact ⟨rfl, _, qA, qF⟩) ?_
    refine L.nil ?_
    refine T.thenN ?_
    refine T.cond rfl (fun h16 => ?_) (fun h16 => ?_)
    · try simp only [decide_eq_true_eq, decide_eq_false_iff_not, Bool.not_eq_true', Bool.not_eq_false', Bool.and_eq_true, Bool.or_eq_true] at h16
      refine T.seq ?_
      refine T.region ?_
      refine L.move rfl rfl ?_
      refine L.assign rfl rfl ?_
      refine L.nil ?_
      refine T.thenN ?_
      refine T.ret ?_
      refine T.blkR ?_
      refine T.thenR ?_
      refine T.thenR ?_
      refine T.blkR ?_
      refine T.thenR ?_
      exact T.ret1 rfl rfl ⟨_, rfl, .inr ⟨i, y, rfl, hy, fiT_at hall hy (by simpa using h16)⟩, rfl, rfl⟩ qD qF
    · try simp only [decide_eq_true_eq, decide_eq_false_iff_not, Bool.not_eq_true', Bool.not_eq_false', Bool.and_eq_true, Bool.or_eq_true] at h16
      refine T.skip ?_
      refine T.blkN ?_
      refine T.thenN ?_
      refine T.region ?_
      refine L.addN rfl rfl rfl (by omega) ?_
      refine L.move rfl rfl ?_
      refine L.nil ?_
      refine T.thenN ?_
      exact T.back ⟨i + 1, ⟨by omega, take_no hall hy (by simpa using h16)⟩, rfl, rfl, rfl, rfl⟩ qI (.cons (t := 8) rfl <| SubK.nil _) (.cons (t := 0) rfl <| .cons (t := 1) rfl <| .cons (t := 7) rfl <| SubK.nil _) qD qD qF
  · try simp only [decide_eq_true_eq, decide_eq_false_iff_not, Bool.not_eq_true', Bool.not_eq_false', Bool.and_eq_true, Bool.or_eq_true] at h9
    refine T.exit ?_
    refine T.thenX ?_
    refine T.thenX ?_
    refine T.blkX ?_
    refine T.thenN ?_
    refine T.seq ?_
    refine T.region ?_
    refine L.assign rfl rfl ?_
    refine L.nil ?_
    refine T.thenN ?_
    refine T.ret ?_
    exact T.ret1 rfl rfl ⟨_, rfl, .inl ⟨rfl, fiT_none (by rw [List.take_of_length_le (by omega)] at hall; exact hall)⟩, rfl, rfl⟩ qD qF
set_option maxHeartbeats 400000 in
theorem at_spec {x : Tr} {ss : List (List UInt8)} (a : Option Addr) (len cap : Nat) (na : Option Addr) (nl nc : Nat) (hc : x.count ≤ 1000000) (hnl : nl ≤ 1000000) : Spec Try.prog 30 [.agg (iRow x a len cap).toArray, .slice na nl nc] [rtr x (eRow x a len cap), rsl 1 na nl nc (ss.map sr)] [] (fun v D' M' => ∃ (z : Tr) (a' : Option Addr) (len' cap' : Nat) (e : Int), v = .tuple #[.agg (iRow z a' len' cap').toArray, .int .i64 e] ∧ (AtR x ss z e) ∧ D' = [rtr z (eRow z a' len' cap')] ∧ M' = []) := by
  refine Spec.intro (n := 30) Try.func30 rfl rfl (by decide) (Nat.le_of_ble_eq_true rfl) rfl (fun _ => qA) (fun _ => qA) ?_
  intro σ D M
  refine T.rslLen2 (a := na) qM (fun hnl2 hnc => ?_)
  rw [List.length_map] at hnl2
  refine T.seq ?_
  refine T.region ?_
  refine L.box rfl rfl rfl (fun b2 => ?_)
  refine L.alloc rfl ze24 (fun b4 => ?_)
  refine L.assign rfl rfl ?_
  refine L.nil ?_
  refine T.thenN ?_
  refine T.seq ?_
  refine T.seq ?_
  refine T.region ?_
  refine L.move rfl rfl ?_
  refine L.lenSl rfl Try.underlying48 rfl ?_
  refine L.move rfl rfl ?_
  refine L.nil ?_
  refine T.thenN ?_
  refine T.block ?_
  refine T.loop (fun K' D' M' μ => ∃ (i : Nat) (z : Tr) (za : Option Addr) (zl zc : Nat), ((i ≤ nl ∧ z.count ≤ 1000000) ∧ atT x ss = atT z (ss.drop i)) ∧ K' = [(11, .int .i64 i)] ∧ D' = [rtr z (eRow z za zl zc)] ∧ M' = [cl b2 24 (iRow z za zl zc)] ∧ μ = nl - i) (.cons (t := 2) rfl <| .cons (t := 4) rfl <| .cons (t := 9) rfl <| .cons (t := 10) rfl <| SubK.nil _) (⟨0, x, a, len, cap, ⟨by omega, by simp⟩, rfl, rfl, rfl, rfl⟩) (.cons (t := 11) rfl <| SubK.nil _) qD qS ?_
  rintro K1 D1 M1 m1 ⟨i, z, za, zl, zc, ⟨⟨hi, hzc⟩, hat⟩, rfl, rfl, rfl, rfl⟩
  refine T.norm3 qA qA qA ?_
  refine T.seq ?_
  refine T.region ?_
  refine L.ltI rfl rfl rfl ?_
  refine L.nil ?_
  refine T.thenN ?_
  refine T.seq ?_
  refine T.cond rfl (fun h12 => ?_) (fun h12 => ?_)
  · try simp only [decide_eq_true_eq, decide_eq_false_iff_not, Bool.not_eq_true', Bool.not_eq_false', Bool.and_eq_true, Bool.or_eq_true] at h12
    refine T.skip ?_
    refine T.thenN ?_
    refine T.seq ?_
    refine T.block ?_
    refine T.seq ?_
    refine T.region ?_
    have hs0 : ss[i]? = some (gd ss i) := gd_get (by omega)
    obtain ⟨s, hss⟩ : ∃ s, s = gd ss i := ⟨_, rfl⟩
    rw [← hss] at hs0
    have hzq := z.count_eq
    have hzl := count_le_len z.ks
    refine L.idx (i := i) rfl Try.underlying48 sz9 rfl rfl qM (by first | rfl | omega | (simp; done)) qG (fun b13 o13 => ?_)
    refine L.load rfl sc9 rfl qC ?_
    refine L.alloc rfl ze9 (fun b7 => ?_)
    refine L.store sc9 rfl rfl rfl qU qE ?_
    refine L.nil ?_
    refine T.freeze (A := cl b7 9 [S s]) qP ?_
    refine T.trOpenR (x := z) qM (fun rows hkl hrl => ?_)
    refine T.thenN ?_
    refine T.seq ?_
    refine T.region ?_
    first | refine L.field0 rfl fo24_2 rfl ?_ | refine L.field rfl fo24_2 rfl ?_
    refine L.load rfl sc22 rfl qC ?_
    refine L.makeFunc rfl (evs.cons rfl <| evs.nil) ?_
    refine L.call rfl (evs.cons rfl <| evs.cons rfl <| evs.nil) qD qS (ifn_spec (ks := z.ks) (rows := rows) (s := s) (by omega) hkl) ?_
    rintro _ _ _ ⟨r, rfl, hr0, rfl, rfl⟩
    refine L.norm qA qA ?_
    refine L.assign rfl rfl ?_
    refine L.nil ?_
    refine T.thenN ?_
    refine T.seq ?_
    refine T.seq ?_
    refine T.region ?_
    refine L.move rfl rfl ?_
    refine L.ltI rfl rfl rfl ?_
    refine L.nil ?_
    refine T.thenN ?_
    refine T.cond rfl (fun h20 => ?_) (fun h20 => ?_)
    · try simp only [decide_eq_true_eq, decide_eq_false_iff_not, Bool.not_eq_true', Bool.not_eq_false', Bool.and_eq_true, Bool.or_eq_true] at h20
      have hfi : fiT z.ks s = none := by
        rcases hr0 with ⟨_, q⟩ | ⟨j, y, rfl, _, _⟩
        · exact q
        · omega
      refine T.seq ?_
      refine T.region ?_
      refine L.build rfl bu24 (BP.doneE (out := [Value.int .i64 0, S [], Value.slice none 0 0]) rfl) ?_
      refine L.storeA ag24 rfl rfl qL qO qU qW ?_
      refine L.assign rfl rfl ?_
      refine L.nil ?_
      refine T.thenN ?_
      refine T.ret ?_
      refine T.thenR ?_
      refine T.blkR ?_
      refine T.thenR ?_
      refine T.thenR ?_
      refine T.blkR ?_
      refine T.thenR ?_
      refine T.fact0 (φ := rtr (.mk [] 0 [] []) (eRow (.mk [] 0 [] []) none 0 0)) (fun z => rt_leaf) ?_
      exact T.retAT rfl ag24 rfl qN rfl ⟨.mk [] 0 [] [], none, 0, 0, 7, rfl, at_none hat hs0 hfi, rfl, rfl⟩ qD qF
    · try simp only [decide_eq_true_eq, decide_eq_false_iff_not, Bool.not_eq_true', Bool.not_eq_false', Bool.and_eq_true, Bool.or_eq_true] at h20
      obtain ⟨j, y, hrj, hy, hfi⟩ : ∃ (j : Nat) (y : Tr), r = j ∧ z.ks[j]? = some y ∧ fiT z.ks s = some y := by
        rcases hr0 with ⟨q, _⟩ | q
        · omega
        · exact q
      subst hrj
      refine T.kidOpen (rows := rows) qM hy (fun ka kl kc hr => ?_)
      have hcs := countL_step hy
      have hjl := (List.getElem?_eq_some_iff.1 hy).1
      refine T.skip ?_
      refine T.thenN ?_
      refine T.region ?_
      first | refine L.field0 rfl fo24_2 rfl ?_ | refine L.field rfl fo24_2 rfl ?_
      refine L.load rfl sc22 rfl qC ?_
      refine L.move rfl rfl ?_
      refine L.idx (i := j) rfl Try.underlying22 sz36 rfl rfl qM (by first | rfl | omega | (simp; done)) qG (fun b25 o25 => ?_)
      first | refine L.field0 rfl fo36_1 rfl ?_ | refine L.field rfl fo36_1 rfl ?_
      refine L.loadA rfl ag24 rfl qN ?_
      refine L.storeA ag24 rfl rfl qL qO qU qW ?_
      refine L.nil ?_
      refine T.blkN ?_
      refine T.thenN ?_
      refine T.region ?_
      refine L.addN rfl rfl rfl (by omega) ?_
      refine L.move rfl rfl ?_
      refine L.nil ?_
      refine T.thenN ?_
      exact T.back ⟨i + 1, y, ka, kl, kc, ⟨⟨by omega, by omega⟩, at_some hat hs0 hfi⟩, rfl, rfl, rfl, rfl⟩ qI (.cons (t := 11) rfl <| SubK.nil _) (.cons (t := 2) rfl <| .cons (t := 4) rfl <| .cons (t := 9) rfl <| .cons (t := 10) rfl <| SubK.nil _) qD qD qF
  · try simp only [decide_eq_true_eq, decide_eq_false_iff_not, Bool.not_eq_true', Bool.not_eq_false', Bool.and_eq_true, Bool.or_eq_true] at h12
    refine T.exit ?_
    refine T.thenX ?_
    refine T.thenX ?_
    refine T.blkX ?_
    refine T.thenN ?_
    refine T.seq ?_
    refine T.region ?_
    refine L.loadA rfl ag24 rfl qN ?_
    refine L.storeA ag24 rfl rfl qL qO qU qW ?_
    refine L.assign rfl rfl ?_
    refine L.nil ?_
    refine T.thenN ?_
    refine T.ret ?_
    exact T.retAT rfl ag24 rfl qN rfl ⟨z, _, _, _, 0, rfl, at_end hat (by omega), rfl, rfl⟩ qD qF
end Cv
