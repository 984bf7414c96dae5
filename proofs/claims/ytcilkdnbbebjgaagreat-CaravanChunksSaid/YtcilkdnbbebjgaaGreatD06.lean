/-
  The walks: Write, the reference of archives.
-/
import Derived.Test.YtcilkdnbbebjgaaGreatC06
import Derived.Test.YtcilkdnbbebjgaaGreatProg
import Derived.KernelRfl
set_option linter.unusedVariables false
set_option linter.unusedSimpArgs false
set_option linter.unusedSectionVars false
set_option maxRecDepth 10000
namespace Cv
open Go Go.Proofs

set_option maxHeartbeats 400000 in
theorem write_spec {x : Tr} (a : Option Addr) (len cap : Nat) (hc : x.count ≤ 900000) (hs : TAll Sm x) (htl : x.t.length ≤ 20000) : Spec Tryz.prog 33 [.agg (iRow x a len cap).toArray] [rtr x (eRow x a len cap)] [] (fun v D' M' => v = .tuple #[S (wrS x), .int .i64 (wrE x)] ∧ D' = [] ∧ M' = []) := by
 refine Spec.intro (n := 17) Tryz.func33 rfl rfl (by decide) (Nat.le_of_ble_eq_true rfl) rfl (fun _ => qA) (fun _ => qA) ?_
 intro σ D M
 refine T.seq (T.region ?_)
 refine L.box rfl rfl rfl (fun b1 => ?_)
 refine L.assign rfl rfl ?_
 refine L.assign rfl rfl ?_
 refine L.nil ?_
 refine T.thenN (T.seq (T.seq (T.region ?_)))
 refine L.loadA rfl ag24 rfl qN ?_
 refine L.callF rfl (evs.cons rfl <| evs.nil) qD qS (Chk_spec (x := x) a len cap hc hs htl) (by rintro u D1 M1 ⟨rfl, rfl, rfl⟩; exact ⟨rfl, _, qA, qF⟩) ?_
 refine L.assign rfl rfl ?_
 refine L.nil ?_
 refine T.thenN (T.seq (T.region ?_))
 refine L.move rfl rfl ?_
 refine L.neI rfl rfl rfl ?_
 refine L.nil ?_
 refine T.thenN ?_
 refine T.cond rfl (fun h9 => ?_) (fun h9 => ?_)
 ·try simp only [dq] at h9
  refine T.seq (T.region ?_)
  refine L.move rfl rfl ?_
  refine L.assign rfl rfl ?_
  refine L.assign rfl rfl ?_
  refine L.nil ?_
  refine T.thenN (T.ret ?_)
  refine T.thenR ?_
  have hw := wr_bad (x := x) h9
  exact T.ret2 rfl rfl rfl ⟨by rw [hw.1, hw.2]; rfl, rfl, rfl⟩ qD qF
 ·try simp only [dq] at h9
  have hce : chkE x = 0 := by simpa using h9
  refine T.skip (T.thenN (T.seq (T.region ?_)))
  refine L.alloc rfl ze128 (fun b5 => ?_)
  refine L.nil ?_
  refine T.newOwn (sz := 1) (e := 5) ?_
  refine T.bldMk (bs := []) (len := 0) (.inl rfl) rfl qS ?_
  refine T.thenN (T.seq (T.region ?_))
  refine L.call rfl (evs.cons rfl <| evs.cons rfl <| evs.nil) qD qS (bws_spec (bs := []) (s := mark) (by decide)) ?_
  rintro _ _ _ ⟨rfl, rfl, rfl⟩
  refine L.norm qA qA ?_
  refine L.nil ?_
  refine T.thenN (T.seq (T.region ?_))
  refine L.loadA rfl ag24 rfl qN ?_
  refine L.call rfl (evs.cons rfl <| evs.cons rfl <| evs.nil) qD qS (put_spec x a len cap b5 (mark) 1 hc (chkE_T hce) (by have := putT_len x 1 (chkE_T hce) hc; first | (show (mark).length + _ ≤ _; simp only [mark, List.length_cons, List.length_nil]; omega) | (simp only [List.length_nil]; omega))) ?_
  rintro _ _ _ ⟨rfl, rfl, rfl⟩
  refine L.norm qA qA ?_
  refine L.nil ?_
  refine T.thenN (T.seq (T.seq ?_))
  have hml : (mark ++ putT x).length = 4 + (putT x).length := by rw [List.length_append]; rfl
  have hpl := putT_len x 1 (chkE_T hce) hc
  refine T.region ?_
  refine L.callF rfl (evs.cons rfl <| evs.nil) qD qS (bln_spec (bs := mark ++ putT x)) (by rintro u D1 M1 ⟨rfl, rfl, rfl⟩; exact ⟨rfl, _, qA, qF⟩) ?_
  refine L.gtI rfl rfl rfl ?_
  refine L.nil ?_
  refine T.thenN ?_
  refine T.cond rfl (fun h15 => ?_) (fun h15 => ?_)
  ·try simp only [dq] at h15
   refine T.seq (T.region ?_)
   refine L.assign rfl rfl ?_
   refine L.assign rfl rfl ?_
   refine L.nil ?_
   refine T.thenN (T.ret ?_)
   refine T.thenR ?_
   have hw := wr_big hce (by omega)
   exact T.ret2 rfl rfl rfl ⟨by rw [hw.1, hw.2]; rfl, rfl, rfl⟩ qD qF
  ·try simp only [dq] at h15
   refine T.skip (T.thenN (T.seq (T.region ?_)))
   refine L.call rfl (evs.cons rfl <| evs.nil) qD qS (bst_spec (bs := mark ++ putT x) (by simp [mark]) (by omega)) ?_
   rintro _ _ _ ⟨rfl, rfl, rfl⟩
   refine L.norm qA qA ?_
   refine L.assign rfl rfl ?_
   refine L.assign rfl rfl ?_
   refine L.nil ?_
   refine T.thenN (T.ret ?_)
   have hw := wr_ok hce (by omega)
   exact T.ret2 rfl rfl rfl ⟨by rw [hw.1, hw.2], rfl, rfl⟩ qD qF
end Cv
