/-
  The walks: Clone, TreeClone.
-/
import Derived.Test.YtdajpfbgikgkeaaW05
import Derived.Test.YtdajpfbgikgkeaaF05
import Derived.Test.YtdajpfbgikgkeaaH05
import Derived.Test.YtdajpfbgikgkeaaO05
import Derived.Test.YtdajpfbgikgkeaaProg
import Derived.KernelRfl
set_option maxRecDepth 10000
set_option linter.unusedSimpArgs false
set_option linter.unusedVariables false
namespace Cv
open Go Go.Proofs

def CloneS (x : Tr) : Prop := ∀ (a : Option Addr) (len cap : Nat), (x.count ≤ 900000) → Spec Try.prog 28 [.agg (iRow x a len cap).toArray] [rtr x (eRow x a len cap)] [] (fun v D' M' => ∃ (a' : Option Addr) (cap' : Nat), v = .agg (iRow x a' len cap').toArray ∧ D' = [] ∧ M' = [otr 36 x (eRow x a' len cap')])
set_option maxHeartbeats 400000 in
theorem clone_spec_step (x : Tr) (ih : ∀ y ∈ x.ks, CloneS y) (a : Option Addr) (len cap : Nat) (hc : x.count ≤ 900000) : Spec Try.prog 28 [.agg (iRow x a len cap).toArray] [rtr x (eRow x a len cap)] [] (fun v D' M' => ∃ (a' : Option Addr) (cap' : Nat), v = .agg (iRow x a' len cap').toArray ∧ D' = [] ∧ M' = [otr 36 x (eRow x a' len cap')]) := by
  refine Spec.intro (n := 28) Try.func28 rfl rfl (by decide) (Nat.le_of_ble_eq_true rfl) rfl (fun _ => qA) (fun _ => qA) ?_
  intro σ D M
  refine T.trOpenR qM (fun rows hkl hrl => ?_)
  subst hkl
  refine T.kidRows qM (fun hrw => ?_)
  have hcx := x.count_eq
  have hcl := count_le_len x.ks
  obtain ⟨xs, hxs, hxk⟩ := rows_ets hrl hrw
  subst hxs
  refine T.seq ?_
  refine T.region ?_
  refine L.box rfl rfl rfl (fun b1 => ?_)
  refine L.alloc rfl ze24 (fun b2 => ?_)
  refine L.nil ?_
  refine T.thenN ?_
  refine T.seq ?_
  refine T.region ?_
  first | refine L.field0 rfl fo24_2 rfl ?_ | refine L.field rfl fo24_2 rfl ?_
  refine L.load rfl sc22 rfl qC ?_
  refine L.call rfl (evs.cons rfl <| evs.nil) qD qS (eclone_spec (xs := xs) (by omega)) ?_
  rintro _ _ _ ⟨ca, cc, rfl, rfl, rfl⟩
  refine L.norm qA qA ?_
  first | refine L.field0 rfl fo24_2 rfl ?_ | refine L.field rfl fo24_2 rfl ?_
  refine L.store sc22 rfl rfl rfl qU qE ?_
  refine L.nil ?_
  refine T.freeze (A := cl b1 24 [.int .i64 x.k, S x.t, .slice ca x.ks.length cc]) qP ?_
  refine T.thenN ?_
  refine T.seq ?_
  refine T.seq ?_
  refine T.region ?_
  first | refine L.field0 rfl fo24_2 rfl ?_ | refine L.field rfl fo24_2 rfl ?_
  refine L.load rfl sc22 rfl qC ?_
  refine L.lenSl rfl Try.underlying22 rfl ?_
  refine L.move rfl rfl ?_
  refine L.nil ?_
  refine T.okid0 (e := 36) ?_
  refine T.thenN ?_
  refine T.block ?_
  refine T.loop (fun K' D' M' μ => ∃ (i : Nat) (rws : List (List Value)), ((i ≤ x.ks.length ∧ rws.length = x.ks.length) ∧ rws.drop i = (xs.map eT).drop i) ∧ K' = [(11, .int .i64 i)] ∧ D' = [] ∧ M' = [own 4 36 ca x.ks.length cc rws, okid 36 (x.ks.take i) (rws.take i)] ∧ μ = x.ks.length - i) (.cons (t := 1) rfl <| .cons (t := 2) rfl <| .cons (t := 10) rfl <| SubK.nil _) (⟨0, _, ⟨⟨by omega, hrl⟩, rfl⟩, rfl, rfl, rfl, rfl⟩) (.cons (t := 11) rfl <| SubK.nil _) qD qS ?_
  rintro K1 D1 M1 m1 ⟨i, rws, ⟨⟨hi, hrwl⟩, hdr⟩, rfl, rfl, rfl, rfl⟩
  refine T.norm3 qA qA qA ?_
  refine T.seq ?_
  refine T.region ?_
  refine L.ltI rfl rfl rfl ?_
  refine L.nil ?_
  refine T.thenN ?_
  refine T.seq ?_
  refine T.cond rfl (fun h12 => ?_) (fun h12 => ?_)
  · try simp only [decide_eq_true_eq, decide_eq_false_iff_not, Bool.not_eq_true', Bool.not_eq_false', Bool.and_eq_true, Bool.or_eq_true] at h12
    refine T.skip ?_
    refine T.thenN ?_
    refine T.seq ?_
    refine T.block ?_
    refine T.seq ?_
    refine T.region ?_
    refine L.move rfl rfl ?_
    refine L.assign rfl rfl ?_
    refine L.nil ?_
    refine T.thenN ?_
    have hy : x.ks[i]? = some (gd x.ks i) := gd_get (by omega)
    obtain ⟨y, hyy⟩ : ∃ y, y = gd x.ks i := ⟨_, rfl⟩
    rw [← hyy] at hy
    refine T.kidOpen qM hy (fun ka kl kc hr => ?_)
    have hcs := countL_step hy
    have hrow := drop_get hdr hr
    refine T.ownNe qM (by omega) (fun b o ha => ?_)
    subst ha
    refine T.regionA (clsL [1, 1, 1, 1, 1, 1, 1, 1, 2, 2, 1, 1, 2]) (by kernel_rfl) ?_
    refine A.takeP (i := 0) rfl rfl rfl rfl (by kernel_rfl) (by kernel_rfl) (by kernel_rfl) rfl qD ?_
    first | refine L.field0 rfl fo24_2 rfl ?_ | refine L.field rfl fo24_2 rfl ?_
    refine A.took ?_
    refine A.takeP (i := 1) rfl rfl rfl rfl (by kernel_rfl) (by kernel_rfl) (by kernel_rfl) rfl qD ?_
    refine L.load rfl sc22 rfl qC ?_
    refine A.took ?_
    refine A.takeP (i := 2) rfl rfl rfl rfl (by kernel_rfl) (by kernel_rfl) (by kernel_rfl) rfl qD ?_
    refine L.move rfl rfl ?_
    refine A.took ?_
    refine A.takeP (i := 3) rfl rfl rfl rfl (by kernel_rfl) (by kernel_rfl) (by kernel_rfl) rfl qD ?_
    first | refine L.field0 rfl fo24_2 rfl ?_ | refine L.field rfl fo24_2 rfl ?_
    refine A.took ?_
    refine A.takeP (i := 4) rfl rfl rfl rfl (by kernel_rfl) (by kernel_rfl) (by kernel_rfl) rfl qD ?_
    refine L.load rfl sc22 rfl qC ?_
    refine A.took ?_
    refine A.takeP (i := 5) rfl rfl rfl rfl (by kernel_rfl) (by kernel_rfl) (by kernel_rfl) rfl qD ?_
    refine L.move rfl rfl ?_
    refine A.took ?_
    refine A.takeP (i := 6) rfl rfl rfl rfl (by kernel_rfl) (by kernel_rfl) (by kernel_rfl) rfl qD ?_
    refine L.idxG (i := i) rfl Try.underlying22 sz36 rfl rfl (by first | rfl | omega | (simp; done)) qI ?_
    refine A.took ?_
    refine A.takeP (i := 7) rfl rfl rfl rfl (by kernel_rfl) (by kernel_rfl) (by kernel_rfl) rfl qD ?_
    first | refine L.field0 rfl fo36_1 rfl ?_ | refine L.field rfl fo36_1 rfl ?_
    refine A.took ?_
    refine A.branch (is := [8]) (by kernel_rfl) (by decide) (Each.cons rfl ?_ <| Each.nil) 
    refine L.loadA rfl ag24 rfl qN ?_
    refine A.backT rfl qD ?_
    refine A.branch (is := [9]) (by kernel_rfl) (by decide) (Each.cons rfl ?_ <| Each.nil) 
    refine L.call rfl (evs.cons rfl <| evs.nil) qD qS (ih y (kid_mem hy) ka kl kc (by omega)) ?_
    rintro _ _ _ ⟨fa, fc, rfl, rfl, rfl⟩
    refine L.norm qA qA ?_
    refine A.backT rfl qD ?_
    refine A.takeP (i := 10) rfl rfl rfl rfl (by kernel_rfl) (by kernel_rfl) (by kernel_rfl) rfl qD ?_
    refine L.idxG (i := i) rfl Try.underlying22 sz36 rfl rfl (by first | rfl | omega | (simp; done)) qI ?_
    refine A.took ?_
    refine A.takeP (i := 11) rfl rfl rfl rfl (by kernel_rfl) (by kernel_rfl) (by kernel_rfl) rfl qD ?_
    first | refine L.field0 rfl fo36_1 rfl ?_ | refine L.field rfl fo36_1 rfl ?_
    refine A.took ?_
    refine A.branch (is := [12]) (by kernel_rfl) (by decide) (Each.cons rfl ?_ <| Each.nil) 
    refine L.storeFA (i) (1) ag24 rfl (by first | rfl | omega | (simp; done)) rfl qL qO qP qG qE ?_
    refine A.backT rfl qD ?_
    refine A.done (by kernel_rfl) ?_
    refine T.blkN ?_
    refine T.thenN ?_
    refine T.region ?_
    refine L.addN rfl rfl rfl (by omega) ?_
    refine L.move rfl rfl ?_
    refine L.nil ?_
    refine T.thenN ?_
    refine T.okidSnoc (ks := x.ks.take i) (rows := rws.take i) (y := y) (r := (eRow y fa kl fc)) qS ?_
    refine T.eqv qP (show okid 36 (x.ks.take i ++ [y]) (rws.take i ++ [(eRow y fa kl fc)]) = okid 36 (x.ks.take (i + 1)) ((rws.set i (eRow y fa kl fc)).take (i + 1)) from by rw [take_snoc hy, set_take (by omega)]) ?_
    exact T.back ⟨i + 1, rws.set i (eRow y fa kl fc), ⟨⟨by omega, by simpa using hrwl⟩, by rw [set_drop]; exact drop_up hdr⟩, rfl, rfl, rfl, rfl⟩ qI (.cons (t := 11) rfl <| SubK.nil _) (.cons (t := 1) rfl <| .cons (t := 2) rfl <| .cons (t := 10) rfl <| SubK.nil _) qD qD qF
  · try simp only [decide_eq_true_eq, decide_eq_false_iff_not, Bool.not_eq_true', Bool.not_eq_false', Bool.and_eq_true, Bool.or_eq_true] at h12
    refine T.exit ?_
    refine T.thenX ?_
    refine T.thenX ?_
    refine T.blkX ?_
    refine T.thenN ?_
    refine T.seq ?_
    refine T.region ?_
    refine L.loadA rfl ag24 rfl qN ?_
    refine L.storeA ag24 rfl rfl qL qO qU qW ?_
    refine L.nil ?_
    refine T.thenN ?_
    refine T.ret ?_
    refine T.eqv qP (show okid 36 (x.ks.take i) (rws.take i) = okid 36 x.ks rws from by rw [List.take_of_length_le (by omega), List.take_of_length_le (by omega)]) ?_
    refine T.otrMk (x := x) (ks := x.ks) rfl rfl qS ?_
    exact T.retA rfl ag24 rfl qN ⟨_, _, rfl, rfl, rfl⟩ qD qF
theorem clone_spec (x : Tr) : CloneS x := Tr.ind (p := CloneS) (fun x ih a len cap hc => clone_spec_step x ih a len cap hc) x
def BendS (x : Tr) : Prop := ∀ (a : Option Addr) (len cap : Nat), (x.count ≤ 900000) → (TAll Sm x) → Spec Try.prog 29 [.agg (iRow x a len cap).toArray] [] [otr 36 x (eRow x a len cap)] (fun v D' M' => v = .tuple #[] ∧ D' = [] ∧ M' = [])
set_option maxHeartbeats 400000 in
theorem bend_spec_step (x : Tr) (ih : ∀ y ∈ x.ks, BendS y) (a : Option Addr) (len cap : Nat) (hc : x.count ≤ 900000) (hs : TAll Sm x) : Spec Try.prog 29 [.agg (iRow x a len cap).toArray] [] [otr 36 x (eRow x a len cap)] (fun v D' M' => v = .tuple #[] ∧ D' = [] ∧ M' = []) := by
  refine Spec.intro (n := 37) Try.func29 rfl rfl (by decide) (Nat.le_of_ble_eq_true rfl) rfl (fun _ => qA) (fun _ => qA) ?_
  intro σ D M
  refine T.otrOpen qP (fun rows hkl hrl => ?_)
  subst hkl
  have hcx := x.count_eq
  have hcl := count_le_len x.ks
  refine T.seq ?_
  refine T.region ?_
  refine L.box rfl rfl rfl (fun b1 => ?_)
  refine L.nil ?_
  refine T.freeze (A := cl b1 24 [.int .i64 x.k, S x.t, .slice a x.ks.length cap]) qP ?_
  refine T.thenN ?_
  refine T.seq ?_
  refine T.region ?_
  first | refine L.field0 rfl fo24_2 rfl ?_ | refine L.field rfl fo24_2 rfl ?_
  refine L.load rfl sc22 rfl qC ?_
  refine L.lenSl rfl Try.underlying22 rfl ?_
  refine L.move rfl rfl ?_
  refine L.nil ?_
  refine T.thenN ?_
  refine T.block ?_
  refine T.loop (fun K' D' M' μ => ∃ (i : Nat) (rws rs : List (List Value)), ((i ≤ x.ks.length ∧ rws.length = x.ks.length) ∧ rws.drop i = rs) ∧ K' = [(6, .int .i64 i)] ∧ D' = [] ∧ M' = [own 4 36 a x.ks.length cap rws, okid 36 (x.ks.drop i) rs] ∧ μ = x.ks.length - i) (.cons (t := 1) rfl <| .cons (t := 5) rfl <| SubK.nil _) (⟨0, rows, rows, ⟨⟨by omega, hrl⟩, rfl⟩, rfl, rfl, rfl, rfl⟩) (.cons (t := 6) rfl <| SubK.nil _) qD qS ?_
  rintro K1 D1 M1 m1 ⟨i, rws, rs, ⟨⟨hi, hrwl⟩, hdr⟩, rfl, rfl, rfl, rfl⟩
  refine T.norm3 qA qA qA ?_
  refine T.seq ?_
  refine T.region ?_
  refine L.ltI rfl rfl rfl ?_
  refine L.nil ?_
  refine T.thenN ?_
  refine T.seq ?_
  refine T.cond rfl (fun h7 => ?_) (fun h7 => ?_)
  · try simp only [decide_eq_true_eq, decide_eq_false_iff_not, Bool.not_eq_true', Bool.not_eq_false', Bool.and_eq_true, Bool.or_eq_true] at h7
    refine T.skip ?_
    refine T.thenN ?_
    refine T.seq ?_
    refine T.block ?_
    refine T.seq ?_
    refine T.region ?_
    refine L.move rfl rfl ?_
    refine L.assign rfl rfl ?_
    refine L.nil ?_
    refine T.thenN ?_
    refine T.seq ?_
    have hy : x.ks[i]? = some (gd x.ks i) := gd_get (by omega)
    obtain ⟨y, hyy⟩ : ∃ y, y = gd x.ks i := ⟨_, rfl⟩
    rw [← hyy] at hy
    refine T.okidOpen hy qP (fun ka kl kc rs2 hrs => ?_)
    obtain ⟨hrow, hdr2⟩ := drop_cons_get (hdr.trans hrs)
    have hsy := hs.kid (kid_mem hy)
    have hsn := hsy.1.1
    have hst := hsy.1.2
    have hcs := countL_step hy
    refine T.ownNe qM (by omega) (fun b o ha => ?_)
    subst ha
    refine T.region ?_
    first | refine L.field0 rfl fo24_2 rfl ?_ | refine L.field rfl fo24_2 rfl ?_
    refine L.load rfl sc22 rfl qC ?_
    refine L.move rfl rfl ?_
    refine L.idxG (i := i) rfl Try.underlying22 sz36 rfl rfl (by first | rfl | omega | (simp; done)) qI ?_
    first | refine L.field0 rfl fo36_1 rfl ?_ | refine L.field rfl fo36_1 rfl ?_
    refine L.loadA rfl ag24 rfl qN ?_
    refine L.call rfl (evs.cons rfl <| evs.nil) qD qS (ih y (kid_mem hy) ka kl kc (by omega) hsy.2) ?_
    rintro _ _ _ ⟨rfl, rfl, rfl⟩
    refine L.norm qA qA ?_
    refine L.nil ?_
    refine T.thenN ?_
    refine T.seq ?_
    refine T.region ?_
    first | refine L.field0 rfl fo24_2 rfl ?_ | refine L.field rfl fo24_2 rfl ?_
    refine L.load rfl sc22 rfl qC ?_
    refine L.move rfl rfl ?_
    refine L.idxG (i := i) rfl Try.underlying22 sz36 rfl rfl (by first | rfl | omega | (simp; done)) qI ?_
    first | refine L.field0 rfl fo36_0 rfl ?_ | refine L.field rfl fo36_0 rfl ?_
    refine L.load rfl sc9 rfl qC ?_
    refine L.addS rfl rfl rfl qI ?_
    refine L.idxG (i := i) rfl Try.underlying22 sz36 rfl rfl (by first | rfl | omega | (simp; done)) qI ?_
    first | refine L.field0 rfl fo36_0 rfl ?_ | refine L.field rfl fo36_0 rfl ?_
    refine L.storeF (i) (0) sc9 rfl (by first | rfl | omega | (simp; done)) rfl rfl qP qG qE ?_
    refine L.nil ?_
    refine T.thenN ?_
    have hr2 : (rws.set i [S (y.n ++ [63]), .int .i64 y.k, S y.t, .slice ka kl kc])[i]? = some [S (y.n ++ [63]), .int .i64 y.k, S y.t, .slice ka kl kc] := by rw [List.getElem?_set_self (by omega)]
    refine T.region ?_
    first | refine L.field0 rfl fo24_2 rfl ?_ | refine L.field rfl fo24_2 rfl ?_
    refine L.load rfl sc22 rfl qC ?_
    refine L.move rfl rfl ?_
    refine L.idxG (i := i) rfl Try.underlying22 sz36 rfl rfl (by first | rfl | omega | (simp; done)) qI ?_
    first | refine L.field0 rfl fo36_1 rfl ?_ | refine L.field rfl fo36_1 rfl ?_
    first | refine L.field0 rfl fo24_1 rfl ?_ | refine L.field rfl fo24_1 rfl ?_
    rw [show o + i * 4 + 1 + 1 = o + i * 4 + 2 from rfl]
    refine L.load rfl sc9 rfl qC ?_
    refine L.addS rfl rfl rfl qI ?_
    refine L.idxG (i := i) rfl Try.underlying22 sz36 rfl rfl (by first | rfl | omega | (simp; done)) qI ?_
    first | refine L.field0 rfl fo36_1 rfl ?_ | refine L.field rfl fo36_1 rfl ?_
    first | refine L.field0 rfl fo24_1 rfl ?_ | refine L.field rfl fo24_1 rfl ?_
    rw [show o + i * 4 + 1 + 1 = o + i * 4 + 2 from rfl]
    refine L.storeF (i) (2) sc9 rfl (by first | rfl | omega | (simp; done)) rfl rfl qP qG qE ?_
    refine L.nil ?_
    refine T.blkN ?_
    refine T.thenN ?_
    refine T.region ?_
    refine L.addN rfl rfl rfl (by omega) ?_
    refine L.move rfl rfl ?_
    refine L.nil ?_
    refine T.thenN ?_
    exact T.back ⟨i + 1, (rws.set i [S (y.n ++ [63]), .int .i64 y.k, S y.t, .slice ka kl kc]).set i [S (y.n ++ [63]), .int .i64 y.k, S (y.t ++ [33]), .slice ka kl kc], rs2, ⟨⟨by omega, by simp only [List.length_set]; exact hrwl⟩, by rw [set_drop, set_drop]; exact hdr2⟩, rfl, rfl, rfl, rfl⟩ qI (.cons (t := 6) rfl <| SubK.nil _) (.cons (t := 1) rfl <| .cons (t := 5) rfl <| SubK.nil _) qD qD qF
  · try simp only [decide_eq_true_eq, decide_eq_false_iff_not, Bool.not_eq_true', Bool.not_eq_false', Bool.and_eq_true, Bool.or_eq_true] at h7
    refine T.exit ?_
    refine T.thenX ?_
    refine T.thenX ?_
    refine T.blkX ?_
    exact T.retN (by simp) rfl ⟨rfl, rfl, rfl⟩ qD qF
theorem bend_spec (x : Tr) : BendS x := Tr.ind (p := BendS) (fun x ih a len cap hc hs => bend_spec_step x ih a len cap hc hs) x
set_option maxHeartbeats 400000 in
theorem treeClone_spec {x : Tr} (a : Option Addr) (len cap : Nat)  : Spec Try.prog 7 [.agg (iRow x a len cap).toArray] [rtr x (eRow x a len cap)] [] (fun v D' M' => v = .bool true ∧ D' = [] ∧ M' = []) := by
  refine Spec.intro (n := 35) Try.func7 rfl rfl (by decide) (Nat.le_of_ble_eq_true rfl) rfl (fun _ => qA) (fun _ => qA) ?_
  intro σ D M
  refine T.seq ?_
  refine T.region ?_
  refine L.box rfl rfl rfl (fun b1 => ?_)
  refine L.assign rfl rfl ?_
  refine L.nil ?_
  refine T.thenN ?_
  refine T.seq ?_
  refine T.region ?_
  refine L.loadA rfl ag24 rfl qN ?_
  refine L.call rfl (evs.cons rfl <| evs.nil) qD qS (Right_spec (x := x) a len cap) ?_
  rintro _ _ _ ⟨Y, ya, yl, yc, rfl, hYo, rfl, rfl⟩
  refine L.norm qA qA ?_
  have hYc := hYo.2.1
  refine L.storeA ag24 rfl rfl qL qO qU qW ?_
  refine L.nil ?_
  refine T.thenN ?_
  refine T.seq ?_
  refine T.seq ?_
  refine T.region ?_
  refine L.callF rfl (evs.nil) qD qS (awake_spec) (by rintro u D1 M1 ⟨rfl, rfl, rfl⟩; exact ⟨rfl, _, qA, qF⟩) ?_
  refine L.notB rfl rfl ?_
  refine L.nil ?_
  refine T.thenN ?_
  refine T.condF rfl rfl ?_
  refine T.skip ?_
  refine T.thenN ?_
  refine T.seq ?_
  refine T.region ?_
  refine L.loadA rfl ag24 rfl qN ?_
  refine L.call rfl (evs.cons rfl <| evs.nil) qD qS (Told_spec (x := Y) ya yl yc (by omega)) ?_
  rintro _ _ _ ⟨ta, tl, tc, rfl, htl, rfl, rfl⟩
  refine L.norm qA qA ?_
  refine L.ownRsl qP ?_
  refine L.assign rfl rfl ?_
  refine L.nil ?_
  refine T.thenN ?_
  refine T.seq ?_
  refine T.region ?_
  refine L.loadA rfl ag24 rfl qN ?_
  refine L.call rfl (evs.cons rfl <| evs.nil) qD qS (clone_spec Y ya yl yc (by omega)) ?_
  rintro _ _ _ ⟨ca, cc, rfl, rfl, rfl⟩
  refine L.norm qA qA ?_
  refine L.alloc rfl ze24 (fun b4 => ?_)
  refine L.storeA ag24 rfl rfl qL qO qU qW ?_
  refine L.nil ?_
  refine T.thenN ?_
  refine T.seq ?_
  refine T.seq ?_
  refine T.regionQ (by kernel_rfl) (by kernel_rfl) ?_
  refine L.loadA rfl ag24 rfl qN ?_
  refine L.loadA rfl ag24 rfl qN ?_
  refine L.callF rfl (evs.cons rfl <| evs.cons rfl <| evs.nil) qD qS (Spec.lend (A := otr 36 Y (eRow Y ca yl cc)) (otr_rt Y _) (same_spec (x := Y) (z := Y) (by omega))) (by rintro u D1 M1 ⟨rfl, rfl, rfl⟩; exact ⟨rfl, _, qA, qF⟩) ?_
  refine L.notB rfl rfl ?_
  refine L.move rfl rfl ?_
  refine L.known (t := 17) rfl (show _ = Value.bool false from congrArg Value.bool (by simp [compT_self])) ?_
  refine L.guardT (dj := 17) rfl rfl rfl ?_
  refine L.loadA rfl ag24 rfl qN ?_
  refine L.guardT (dj := 17) rfl rfl rfl ?_
  refine L.callF rfl (evs.cons rfl <| evs.nil) qD qS (Spec.lend (A := otr 36 Y (eRow Y ca yl cc)) (otr_rt Y _) (count_spec Y ca yl cc (by omega))) (by rintro u D1 M1 ⟨rfl, rfl, rfl⟩; exact ⟨rfl, _, qA, qF⟩) ?_
  refine L.guardT (dj := 17) rfl rfl rfl ?_
  refine L.loadA rfl ag24 rfl qN ?_
  refine L.guardT (dj := 17) rfl rfl rfl ?_
  refine L.callF rfl (evs.cons rfl <| evs.nil) qD qS (count_spec Y ya yl yc (by omega)) (by rintro u D1 M1 ⟨rfl, rfl, rfl⟩; exact ⟨rfl, _, qA, qF⟩) ?_
  refine L.guardT (dj := 17) rfl rfl rfl ?_
  refine L.neI rfl rfl rfl ?_
  refine L.pickF rfl rfl rfl ?_
  refine L.nilQ ?_
  refine T.thenN ?_
  refine T.condF rfl (by simp) ?_
  refine T.skip ?_
  refine T.thenN ?_
  refine T.seq ?_
  refine T.region ?_
  refine L.loadA rfl ag24 rfl qN ?_
  refine L.call rfl (evs.cons rfl <| evs.nil) qD qS (bend_spec Y ca yl cc (by omega) hYo.2.2.1) ?_
  rintro _ _ _ ⟨rfl, rfl, rfl⟩
  refine L.norm qA qA ?_
  refine L.nil ?_
  refine T.thenN ?_
  refine T.seq ?_
  refine T.region ?_
  refine L.loadA rfl ag24 rfl qN ?_
  refine L.call rfl (evs.cons rfl <| evs.nil) qD qS (Told_spec (x := Y) ya yl yc (by omega)) ?_
  rintro _ _ _ ⟨ta2, tl2, tc2, rfl, htl2, rfl, rfl⟩
  refine L.norm qA qA ?_
  refine L.ownRsl qP ?_
  refine L.move rfl rfl ?_
  refine L.callF rfl (evs.cons rfl <| evs.cons rfl <| evs.nil) qD qS (rsame_spec (l := toldT Y [] 1 true true) (l2 := toldT Y [] 1 true true) (by omega)) (by rintro u D1 M1 ⟨rfl, rfl, rfl⟩; exact ⟨rfl, _, qA, qF⟩) ?_
  refine L.move rfl rfl ?_
  refine L.known (t := 30) rfl (show _ = Value.bool true from congrArg Value.bool (by simp)) ?_
  refine L.guardT (dj := 30) rfl rfl rfl ?_
  refine L.loadA rfl ag24 rfl qN ?_
  refine L.guardT (dj := 30) rfl rfl rfl ?_
  refine L.callF rfl (evs.cons rfl <| evs.nil) qD qS (Chk_spec (x := Y) _ _ _ (by omega) hYo.2.2.1 hYo.2.2.2) (by rintro u D1 M1 ⟨rfl, rfl, rfl⟩; exact ⟨rfl, _, qA, qF⟩) ?_
  refine L.guardT (dj := 30) rfl rfl rfl ?_
  refine L.eqI rfl rfl rfl ?_
  refine L.pickT rfl rfl rfl ?_
  refine L.assign rfl rfl ?_
  refine L.nil ?_
  refine T.thenN ?_
  refine T.ret ?_
  exact T.ret1 rfl rfl ⟨congrArg Value.bool (by simp [hYo.1]), rfl, rfl⟩ qD qF
end Cv
