/-
  The walks: archives written.
-/
import Derived.Test.YtcilkdnbbebjgaaGreatB06
import Derived.Test.YtcilkdnbbebjgaaGreatW05
import Derived.Test.YtcilkdnbbebjgaaGreatProg
import Derived.KernelRfl
set_option linter.unusedVariables false
set_option linter.unusedSimpArgs false
set_option linter.unusedSectionVars false
set_option maxRecDepth 10000
namespace Cv
open Go Go.Proofs

def PutS (x : Tr) : Prop := ∀ (a : Option Addr) (len cap : Nat) (b : Nat) (bs : List UInt8) (d : Nat), (x.count ≤ 900000) → ((chkT x d).2 = 0) → (bs.length + (putT x).length ≤ 140737488355328) → Spec Tryz.prog 71 [.pointer (some ⟨b, 0, none⟩), .agg (iRow x a len cap).toArray] [rtr x (eRow x a len cap)] [bldA 128 5 b (bs)] (fun v D' M' => v = .tuple #[] ∧ D' = [] ∧ M' = [bldA 128 5 b (bs ++ putT x)])
set_option maxHeartbeats 400000 in
theorem put_spec_step (x : Tr) (ih : ∀ y ∈ x.ks, PutS y) (a : Option Addr) (len cap : Nat) (b : Nat) (bs : List UInt8) (d : Nat) (hc : x.count ≤ 900000) (hck : (chkT x d).2 = 0) (hb : bs.length + (putT x).length ≤ 140737488355328) : Spec Tryz.prog 71 [.pointer (some ⟨b, 0, none⟩), .agg (iRow x a len cap).toArray] [rtr x (eRow x a len cap)] [bldA 128 5 b (bs)] (fun v D' M' => v = .tuple #[] ∧ D' = [] ∧ M' = [bldA 128 5 b (bs ++ putT x)]) := by
 refine Spec.intro (n := 44) Tryz.func71 rfl rfl (by decide) (Nat.le_of_ble_eq_true rfl) rfl (fun _ => qA) (fun _ => qA) ?_
 intro σ D M
 refine T.trOpenR qM (fun rows hkl hrl => ?_)
 subst hkl
 refine T.kidRows qM (fun hrw => ?_)
 have hcx := x.count_eq
 have hcl := count_le_len x.ks
 obtain ⟨h0, h1⟩ := chkT_ok hck
 obtain ⟨hk, hkf, hkt, ht, hd8, hk3⟩ := own0_ok h0
 have hn1 := numB_len (n := x.k.toNat) (by omega)
 have hn2 := numB_len (n := x.ks.length) (by omega)
 have hpe := putT_eq x
 have hnp : (numB x.k.toNat).length ≤ (putT x).length := by rw [hpe, List.length_append]; omega
 refine T.seq (T.region ?_)
 refine L.box rfl rfl rfl (fun b3 => ?_)
 refine L.nil ?_
 refine T.freeze (A := cl b3 24 [.int .i64 x.k, S x.t, .slice a x.ks.length cap]) qP ?_
 refine T.thenN (T.seq (T.region ?_))
 refine L.move rfl rfl ?_
 first | refine L.field0 rfl fo24_0 rfl ?_ | refine L.field rfl fo24_0 rfl ?_
 refine L.load rfl sc3 rfl qC ?_
 refine L.buildSlice rfl bs171 (by decide) (BP.one rfl rfl rfl <| BP.doneE (out := []) rfl) (fun b9 => ?_)
 refine L.toOwn (len := 1) (sz := 1) (e := 3) (rows := [x.k].map e3) qP (by rfl) rfl (by simp) ?_
 refine L.ownRsl qP ?_
 refine L.callF rfl (evs.cons rfl <| evs.nil) qD qS (bnum1_spec (k := x.k) (by omega)) (by rintro u D1 M1 ⟨rfl, rfl, rfl⟩; exact ⟨rfl, _, qA, qF⟩) ?_
 refine L.call rfl (evs.cons rfl <| evs.cons rfl <| evs.nil) qD qS (bws_spec (bs := bs) (s := numB x.k.toNat) (by omega)) ?_
 rintro _ _ _ ⟨rfl, rfl, rfl⟩
 refine L.norm qA qA ?_
 refine L.nil ?_
 refine T.thenN (T.seq (T.seq (T.region ?_)))
 first | refine L.field0 rfl fo24_0 rfl ?_ | refine L.field rfl fo24_0 rfl ?_
 refine L.load rfl sc3 rfl qC ?_
 refine L.neI rfl rfl rfl ?_
 refine L.nil ?_
 refine T.thenN ?_
 refine T.cond rfl (fun h14 => ?_) (fun h14 => ?_)
 ·try simp only [dq] at h14
  have hp3 : putT x = numB x.k.toNat ++ strB x.t := by rw [hpe, if_pos (by simpa using h14)]
  have hb3 : bs.length + ((numB x.k.toNat).length + (strB x.t).length) ≤ 140737488355328 := by rw [hp3, List.length_append] at hb; exact hb
  refine T.seq (T.region ?_)
  refine L.move rfl rfl ?_
  first | refine L.field0 rfl fo24_1 rfl ?_ | refine L.field rfl fo24_1 rfl ?_
  refine L.load rfl sc9 rfl qC ?_
  refine L.callF rfl (evs.cons rfl <| evs.nil) qD qS (bstr_spec (s := x.t) (by omega)) (by rintro u D1 M1 ⟨rfl, rfl, rfl⟩; exact ⟨rfl, _, qA, qF⟩) ?_
  refine L.call rfl (evs.cons rfl <| evs.cons rfl <| evs.nil) qD qS (bws_spec (bs := bs ++ numB x.k.toNat) (s := strB x.t) (by rw [List.length_append]; omega)) ?_
  rintro _ _ _ ⟨rfl, rfl, rfl⟩
  refine L.norm qA qA ?_
  refine L.nil ?_
  refine T.thenN (T.ret ?_)
  refine T.thenR ?_
  refine T.eqv qP (show bldA 128 5 b (bs ++ numB x.k.toNat ++ strB x.t) = bldA 128 5 b (bs ++ putT x) from by rw [hp3]; simp) ?_
  exact T.retN (by simp) rfl ⟨rfl, rfl, rfl⟩ qD qF
 ·try simp only [dq] at h14
  have hp4 : putT x = numB x.k.toNat ++ (numB x.ks.length ++ putL x.ks) := by rw [hpe, if_neg (by simpa using h14)]
  have hb4 : bs.length + ((numB x.k.toNat).length + ((numB x.ks.length).length + (putL x.ks).length)) ≤ 140737488355328 := by rw [hp4, List.length_append, List.length_append] at hb; exact hb
  refine T.skip (T.thenN (T.seq (T.region ?_)))
  refine L.move rfl rfl ?_
  first | refine L.field0 rfl fo24_2 rfl ?_ | refine L.field rfl fo24_2 rfl ?_
  refine L.load rfl sc22 rfl qC ?_
  refine L.lenSl rfl Tryz.underlying22 rfl ?_
  refine L.buildSlice rfl bs171 (by decide) (BP.one rfl rfl rfl <| BP.doneE (out := []) rfl) (fun b24 => ?_)
  refine L.toOwn (len := 1) (sz := 1) (e := 3) (rows := [(x.ks.length : Int)].map e3) qP (by rfl) rfl (by simp) ?_
  refine L.ownRsl qP ?_
  refine L.callF rfl (evs.cons rfl <| evs.nil) qD qS (bnum1_spec (k := (x.ks.length : Int)) (by omega)) (by rintro u D1 M1 ⟨rfl, rfl, rfl⟩; exact ⟨rfl, _, qA, qF⟩) ?_
  refine L.call rfl (evs.cons rfl <| evs.cons rfl <| evs.nil) qD qS (bws_spec (bs := bs ++ numB x.k.toNat) (s := numB x.ks.length) (by rw [List.length_append]; omega)) ?_
  rintro _ _ _ ⟨rfl, rfl, rfl⟩
  refine L.norm qA qA ?_
  refine L.nil ?_
  have hpl : (putT x).length = (numB x.k.toNat).length + (numB x.ks.length).length + (putL x.ks).length := by rw [hp4]; simp; omega
  refine T.thenN (T.seq (T.region ?_))
  first | refine L.field0 rfl fo24_2 rfl ?_ | refine L.field rfl fo24_2 rfl ?_
  refine L.load rfl sc22 rfl qC ?_
  refine L.lenSl rfl Tryz.underlying22 rfl ?_
  refine L.move rfl rfl ?_
  refine L.nil ?_
  refine T.thenN (T.block ?_)
  refine T.loop (fun K' D' M' μ => ∃ (i : Nat) (acc : List UInt8), ((i ≤ x.ks.length ∧ acc.length = bs.length + (numB x.k.toNat).length + (numB x.ks.length).length + (putL (x.ks.take i)).length) ∧ acc = bs ++ numB x.k.toNat ++ numB x.ks.length ++ putL (x.ks.take i)) ∧ K' = [(30, .int .i64 i)] ∧ D' = [] ∧ M' = [bldA 128 5 b (acc)] ∧ μ = x.ks.length - i) (.cons (t := 0) rfl <| .cons (t := 28) rfl <| .cons (t := 29) rfl <| SubK.nil _) (⟨0, bs ++ numB x.k.toNat ++ numB x.ks.length, ⟨⟨by omega, by simp only [List.take_zero, putL, List.length_append, List.length_nil]; omega⟩, by simp [putL]⟩, rfl, rfl, rfl, rfl⟩) (.cons (t := 30) rfl <| SubK.nil _) qD qS ?_
  rintro K1 D1 M1 m1 ⟨i, acc, ⟨⟨hi, hal⟩, hac⟩, rfl, rfl, rfl, rfl⟩
  refine T.norm3 qA qA qA ?_
  refine T.seq (T.region ?_)
  refine L.ltI rfl rfl rfl ?_
  refine L.nil ?_
  refine T.thenN (T.seq ?_)
  refine T.cond rfl (fun h31 => ?_) (fun h31 => ?_)
  ·try simp only [dq] at h31
   refine T.skip (T.thenN (T.seq (T.block (T.seq ?_))))
   have hy : x.ks[i]? = some (gd x.ks i) := gd_get (by omega)
   obtain ⟨y, hyy⟩ : ∃ y, y = gd x.ks i := ⟨_, rfl⟩
   rw [← hyy] at hy
   refine T.kidOpen qM hy (fun ka kl kc hr => ?_)
   have hcs := countL_step hy
   have hyn := nameB_len (h1 y (kid_mem hy)).1
   have hple := putL_le hy
   refine T.region ?_
   refine L.idx (i := i) rfl Tryz.underlying22 sz142 rfl rfl qM (by first | rfl | omega | (simp; done)) qG (fun b32 o32 => ?_)
   refine L.loadA rfl ag142 rfl qN ?_
   refine L.alloc rfl ze142 (fun b5 => ?_)
   refine L.storeA ag142 rfl rfl qL qO qU qW ?_
   refine L.nil ?_
   refine T.freeze (A := cl b5 142 (eRow y ka kl kc)) qP ?_
   refine T.thenN (T.seq (T.region ?_))
   refine L.move rfl rfl ?_
   first | refine L.field0 rfl fo142_0 rfl ?_ | refine L.field rfl fo142_0 rfl ?_
   refine L.load rfl sc9 rfl qC ?_
   refine L.callF rfl (evs.cons rfl <| evs.nil) qD qS (bstr_spec (s := y.n) (by omega)) (by rintro u D1 M1 ⟨rfl, rfl, rfl⟩; exact ⟨rfl, _, qA, qF⟩) ?_
   refine L.call rfl (evs.cons rfl <| evs.cons rfl <| evs.nil) qD qS (bws_spec (bs := acc) (s := strB y.n) (by omega)) ?_
   rintro _ _ _ ⟨rfl, rfl, rfl⟩
   refine L.norm qA qA ?_
   refine L.nil ?_
   refine T.thenN (T.region ?_)
   refine L.move rfl rfl ?_
   first | refine L.field0 rfl fo142_1 rfl ?_ | refine L.field rfl fo142_1 rfl ?_
   refine L.loadA rfl ag24 rfl qN ?_
   refine L.call rfl (evs.cons rfl <| evs.cons rfl <| evs.nil) qD qS (ih y (kid_mem hy) ka kl kc b (acc ++ strB y.n) (d + 1) (by omega) (h1 y (kid_mem hy)).2 (by rw [List.length_append]; omega)) ?_
   rintro _ _ _ ⟨rfl, rfl, rfl⟩
   refine L.norm qA qA ?_
   refine L.nil ?_
   refine T.blkN (T.thenN (T.region ?_))
   refine L.addN rfl rfl rfl (by omega) ?_
   refine L.move rfl rfl ?_
   refine L.nil ?_
   refine T.thenN ?_
   exact T.back ⟨i + 1, acc ++ strB y.n ++ putT y, ⟨⟨by omega, by rw [putL_step hy]; simp only [List.length_append]; omega⟩, by rw [putL_step hy, hac]; simp⟩, rfl, rfl, rfl, rfl⟩ qI (.cons (t := 30) rfl <| SubK.nil _) (.cons (t := 0) rfl <| .cons (t := 28) rfl <| .cons (t := 29) rfl <| SubK.nil _) qD qD qF
  ·try simp only [dq] at h31
   refine T.exit (T.thenX (T.thenX (T.blkX ?_)))
   refine T.eqv qP (show bldA 128 5 b (acc) = bldA 128 5 b (bs ++ putT x) from by rw [hp4, hac, List.take_of_length_le (by omega)]; simp) ?_
   exact T.retN (by simp) rfl ⟨rfl, rfl, rfl⟩ qD qF
theorem put_spec (x : Tr) : PutS x := Tr.ind (p := PutS) (fun x ih a len cap b bs d hc hck hb => put_spec_step x ih a len cap b bs d hc hck hb) x
end Cv
