/-
  The walks: Few.
-/
import Derived.Test.YtcilkdnbbebjgaaGreatD05
import Derived.Test.YtcilkdnbbebjgaaGreatProg
import Derived.KernelRfl
set_option linter.unusedVariables false
set_option linter.unusedSimpArgs false
set_option linter.unusedSectionVars false
set_option maxRecDepth 10000
namespace Cv
open Go Go.Proofs

def FewS (x : Tr) : Prop := ∀ (a : Option Addr) (len cap l d bl : Nat), (1 ≤ l) → (l ≤ 1000) → (d ≤ 12) → Spec Tryz.prog 36 [.agg (iRow x a len cap).toArray, .pointer (some ⟨bl, 0, none⟩), .int .i64 (d : Int)] [rtr x (eRow x a len cap)] [cl bl 3 [.int .i64 (l : Int)]] (fun v D' M' => ∃ (a' : Option Addr) (len' cap' : Nat), v = .agg (iRow (fewT x l d).1 a' len' cap').toArray ∧ D' = [rtr (fewT x l d).1 (eRow (fewT x l d).1 a' len' cap')] ∧ M' = [cl bl 3 [.int .i64 ((fewT x l d).2 : Int)]])
set_option maxHeartbeats 400000 in
theorem few_spec_step (x : Tr) (ih : ∀ y ∈ x.ks, FewS y) (a : Option Addr) (len cap l d bl : Nat) (hl1 : 1 ≤ l) (hl2 : l ≤ 1000) (hd : d ≤ 12) : Spec Tryz.prog 36 [.agg (iRow x a len cap).toArray, .pointer (some ⟨bl, 0, none⟩), .int .i64 (d : Int)] [rtr x (eRow x a len cap)] [cl bl 3 [.int .i64 (l : Int)]] (fun v D' M' => ∃ (a' : Option Addr) (len' cap' : Nat), v = .agg (iRow (fewT x l d).1 a' len' cap').toArray ∧ D' = [rtr (fewT x l d).1 (eRow (fewT x l d).1 a' len' cap')] ∧ M' = [cl bl 3 [.int .i64 ((fewT x l d).2 : Int)]]) := by
 refine Spec.intro (n := 75) Tryz.func36 rfl rfl (by decide) (Nat.le_of_ble_eq_true rfl) rfl (fun _ => qA) (fun _ => qA) ?_
 intro σ D M
 refine T.trOpenR qM (fun rows hkl hrl => ?_)
 subst hkl
 refine T.kidRows qM (fun hrw => ?_)
 have hfc := few_count x l d hl1
 obtain ⟨Y, lY, hY1, hY2⟩ : ∃ Y lY, (fewT x l d).1 = Y ∧ (fewT x l d).2 = lY := ⟨_, _, rfl, rfl⟩
 rw [hY1, hY2]
 refine T.seq (T.region ?_)
 refine L.box rfl rfl rfl (fun b3 => ?_)
 refine L.alloc rfl ze24 (fun b6 => ?_)
 refine L.nil ?_
 refine T.thenN (T.seq (T.region ?_))
 refine L.move rfl rfl ?_
 refine L.nilCheck rfl rfl ?_
 refine L.load rfl sc3 rfl qC ?_
 refine L.subN rfl rfl rfl (by omega) ?_
 rw [show (l : Int) - 1 = ((l - 1 : Nat) : Int) from by omega]
 refine L.nilCheck rfl rfl ?_
 refine L.store sc3 rfl rfl rfl qU qE ?_
 refine L.nil ?_
 refine T.thenN (T.seq (T.seq (T.region ?_)))
 first | refine L.field0 rfl fo24_1 rfl ?_ | refine L.field rfl fo24_1 rfl ?_
 refine L.load rfl sc9 rfl qC ?_
 refine L.lenStr rfl Tryz.underlying9 rfl ?_
 refine L.gtI rfl rfl rfl ?_
 refine L.nil ?_
 refine T.thenN ?_
 refine T.cutC (fun K' D' M' => ∃ (t1 : List UInt8), (t1 = tx1 x.t) ∧ K' = [] ∧ D' = [] ∧ M' = [cl b3 24 [.int .i64 x.k, S (t1), .slice a x.ks.length cap]]) (M0 := [cl b3 24 [.int .i64 x.k, S (x.t), .slice a x.ks.length cap]]) (.cons (t := 1) rfl <| .cons (t := 2) rfl <| .cons (t := 3) rfl <| .cons (t := 6) rfl <| SubK.nil _) qS ?_ ?_
 ·skip
  refine T.cond rfl (fun h17 => ?_) (fun h17 => ?_)
  ·try simp only [dq] at h17
   refine T.region ?_
   refine L.makeBytes (k := 9000) rfl Tryz.underlying97 qk rfl rfl (by rfl) (by rfl) (by decide) (fun b18 => ?_)
   refine L.bytesStr rfl Tryz.underlying97 Tryz.underlying5 Tryz.underlying9 rfl qM ?_
   first | refine L.field0 rfl fo24_1 rfl ?_ | refine L.field rfl fo24_1 rfl ?_
   refine L.store sc9 rfl rfl rfl qU qE ?_
   refine L.nil ?_
   refine T.thenN ?_
   exact T.toJoin ⟨_, (tx1_big (by omega)), rfl, rfl, rfl⟩ (SubK.nil _) (.cons (t := 1) rfl <| .cons (t := 2) rfl <| .cons (t := 3) rfl <| .cons (t := 6) rfl <| SubK.nil _) qD qD qF
  ·try simp only [dq] at h17
   refine T.skip (T.thenN ?_)
   exact T.toJoin ⟨_, (tx1_small (by omega)), rfl, rfl, rfl⟩ (SubK.nil _) (.cons (t := 1) rfl <| .cons (t := 2) rfl <| .cons (t := 3) rfl <| .cons (t := 6) rfl <| SubK.nil _) qD qD qF
 rintro _ _ _ ⟨t1, rfl, rfl, rfl, rfl⟩
 refine T.norm3 qA qA qA ?_
 refine T.thenN (T.seq (T.seq (T.region ?_)))
 first | refine L.field0 rfl fo24_1 rfl ?_ | refine L.field rfl fo24_1 rfl ?_
 refine L.load rfl sc9 rfl qC ?_
 refine L.lenStr rfl Tryz.underlying9 rfl ?_
 refine L.leI rfl rfl rfl ?_
 refine L.nil ?_
 refine T.thenN ?_
 refine T.cutC (fun K' D' M' => ∃ (t2 : List UInt8), (t2 = txF x.t) ∧ K' = [] ∧ D' = [] ∧ M' = [cl b3 24 [.int .i64 x.k, S (t2), .slice a x.ks.length cap]]) (M0 := [cl b3 24 [.int .i64 x.k, S (tx1 x.t), .slice a x.ks.length cap]]) (.cons (t := 1) rfl <| .cons (t := 2) rfl <| .cons (t := 3) rfl <| .cons (t := 6) rfl <| SubK.nil _) qS ?_ ?_
 ·skip
  refine T.cond rfl (fun h24 => ?_) (fun h24 => ?_)
  ·try simp only [dq] at h24
   refine T.region ?_
   first | refine L.field0 rfl fo24_1 rfl ?_ | refine L.field rfl fo24_1 rfl ?_
   refine L.load rfl sc9 rfl qC ?_
   refine L.callF rfl (evs.cons rfl <| evs.cons rfl <| evs.nil) qD qS (cut_spec (n := 200)) (by rintro u D1 M1 ⟨rfl, rfl, rfl⟩; exact ⟨rfl, _, qA, qF⟩) ?_
   first | refine L.field0 rfl fo24_1 rfl ?_ | refine L.field rfl fo24_1 rfl ?_
   refine L.store sc9 rfl rfl rfl qU qE ?_
   refine L.nil ?_
   refine T.thenN ?_
   exact T.toJoin ⟨_, (tx2_small (by omega)), rfl, rfl, rfl⟩ (SubK.nil _) (.cons (t := 1) rfl <| .cons (t := 2) rfl <| .cons (t := 3) rfl <| .cons (t := 6) rfl <| SubK.nil _) qD qD qF
  ·try simp only [dq] at h24
   refine T.skip (T.thenN ?_)
   exact T.toJoin ⟨_, (tx2_big (by omega)), rfl, rfl, rfl⟩ (SubK.nil _) (.cons (t := 1) rfl <| .cons (t := 2) rfl <| .cons (t := 3) rfl <| .cons (t := 6) rfl <| SubK.nil _) qD qD qF
 rintro _ _ _ ⟨t2, rfl, rfl, rfl, rfl⟩
 refine T.norm3 qA qA qA ?_
 refine T.thenN (T.seq ?_)
 refine T.freeze (A := cl b3 24 [.int .i64 x.k, S (txF x.t), .slice a x.ks.length cap]) qP ?_
 refine T.region ?_
 first | refine L.field0 rfl fo24_0 rfl ?_ | refine L.field rfl fo24_0 rfl ?_
 refine L.load rfl sc3 rfl qC ?_
 first | refine L.field0 rfl fo24_1 rfl ?_ | refine L.field rfl fo24_1 rfl ?_
 refine L.load rfl sc9 rfl qC ?_
 refine L.build rfl bu24 (BP.one rfl rfl rfl <| BP.one rfl rfl rfl <| BP.doneE (out := [Value.slice none 0 0]) rfl) ?_
 refine L.alloc rfl ze24 (fun b7 => ?_)
 refine L.storeA ag24 rfl rfl qL qO qU qW ?_
 refine L.nil ?_
 refine T.thenN (T.seq (T.seq ?_))
 refine T.newOwn (sz := 4) (e := 142) ?_
 refine T.fact0 kidsA_nil ?_
 refine T.region ?_
 refine L.assign rfl rfl ?_
 refine L.nil ?_
 refine T.thenN (T.block ?_)
 refine T.loop (fun K' D' M' μ => ∃ (i lf : Nat) (acc : List Tr) (a' : Option Addr) (cap' : Nat) (rws : List (List Value)), (FewI x d i (l - 1) acc lf ∧ acc.length = i ∧ rws.length = i) ∧ K' = [(8, .int .i64 i)] ∧ D' = [kidsA acc rws] ∧ M' = [cl bl 3 [.int .i64 (lf : Int)], cl b7 24 [.int .i64 x.k, S (txF x.t), .slice a' i cap'], own 4 142 a' i cap' rws] ∧ μ = x.ks.length - i) (.cons (t := 1) rfl <| .cons (t := 2) rfl <| .cons (t := 3) rfl <| .cons (t := 6) rfl <| .cons (t := 7) rfl <| SubK.nil _) (⟨0, l - 1, [], none, 0, [], ⟨FewI.zero x d (l - 1), rfl, rfl⟩, rfl, rfl, rfl, rfl⟩) (.cons (t := 8) rfl <| SubK.nil _) qD qS ?_
 rintro K1 D1 M1 m1 ⟨i, lf, acc, a', cap', rws, ⟨hI, hal, hrwl⟩, rfl, rfl, rfl, rfl⟩
 refine T.norm3 qA qA qA ?_
 have hIl := hI.le
 refine T.seq (T.seq (T.region ?_))
 refine L.move rfl rfl ?_
 first | refine L.field0 rfl fo24_2 rfl ?_ | refine L.field rfl fo24_2 rfl ?_
 refine L.load rfl sc22 rfl qC ?_
 refine L.lenSl rfl Tryz.underlying22 rfl ?_
 refine L.ltI rfl rfl rfl ?_
 refine L.move rfl rfl ?_
 refine L.part (t := 39) rfl (fun h1 => ?_) (fun h1 => ?_)
 ·try simp only [dq] at h1
  refine L.guardT (dj := 39) rfl rfl rfl ?_
  refine L.move rfl rfl ?_
  refine L.guardT (dj := 39) rfl rfl rfl ?_
  refine L.nilCheck rfl rfl ?_
  refine L.guardT (dj := 39) rfl rfl rfl ?_
  refine L.load rfl sc3 rfl qC ?_
  refine L.guardT (dj := 39) rfl rfl rfl ?_
  refine L.gtI rfl rfl rfl ?_
  refine L.pickT rfl rfl rfl ?_
  refine L.move rfl rfl ?_
  refine L.part (t := 45) rfl (fun h2 => ?_) (fun h2 => ?_)
  ·try simp only [dq] at h2
   refine L.guardT (dj := 45) rfl rfl rfl ?_
   refine L.move rfl rfl ?_
   refine L.guardT (dj := 45) rfl rfl rfl ?_
   refine L.ltI rfl rfl rfl ?_
   refine L.pickT rfl rfl rfl ?_
   refine L.nil ?_
   refine T.thenN ?_
   refine T.cond rfl (fun h48 => ?_) (fun h48 => ?_)
   ·try simp only [dq] at h48
    refine T.skip (T.thenN (T.seq (T.block ?_)))
    have hy : x.ks[i]? = some (gd x.ks i) := gd_get (by omega)
    obtain ⟨y, hyy⟩ : ∃ y, y = gd x.ks i := ⟨_, rfl⟩
    rw [← hyy] at hy
    refine T.kidOpen qM hy (fun ka kl kc hr => ?_)
    refine T.rslAddr qM (show rows ≠ [] from fun e => by rw [e] at hrl; simp at hrl; omega) (fun bo oo ha => ?_)
    subst ha
    have ihy := ih y (kid_mem hy) ka kl kc lf (d + 1) bl (by omega) (by omega) (by omega)
    have hst1 := hI.step hy (by omega) (by omega)
    obtain ⟨Y1, l1, hY3, hY4⟩ : ∃ Y l, (fewT y lf (d + 1)).1 = Y ∧ (fewT y lf (d + 1)).2 = l := ⟨_, _, rfl, rfl⟩
    rw [hY3, hY4] at ihy hst1
    refine T.regionA (clsL [1, 2, 1, 1, 1, 1, 1, 1, 2, 1, 1, 1, 1, 1, 1, 1, 1, 1, 2, 1, 2, 2, 1, 2]) qk ?_
    refine A.takeP (i := 0) rfl rfl rfl rfl qk qk qk rfl qD ?_
    first | refine L.field0 rfl fo24_2 rfl ?_ | refine L.field rfl fo24_2 rfl ?_
    refine A.took ?_
    refine A.takeP (i := 2) rfl rfl rfl rfl qk qk qk rfl qD ?_
    first | refine L.field0 rfl fo24_2 rfl ?_ | refine L.field rfl fo24_2 rfl ?_
    refine A.took ?_
    refine A.takeP (i := 3) rfl rfl rfl rfl qk qk qk rfl qD ?_
    refine L.load rfl sc22 rfl qC ?_
    refine A.took ?_
    refine A.takeP (i := 4) rfl rfl rfl rfl qk qk qk rfl qD ?_
    refine L.move rfl rfl ?_
    refine A.took ?_
    refine A.takeP (i := 5) rfl rfl rfl rfl qk qk qk rfl qD ?_
    refine L.idxR rfl Tryz.underlying22 sz142 rfl rfl qM rfl qI qG ?_
    refine A.took ?_
    refine A.takeP (i := 6) rfl rfl rfl rfl qk qk qk rfl qD ?_
    first | refine L.field0 rfl fo142_0 rfl ?_ | refine L.field rfl fo142_0 rfl ?_
    refine A.took ?_
    refine A.takeP (i := 7) rfl rfl rfl rfl qk qk qk rfl qD ?_
    refine L.load rfl sc9 rfl qC ?_
    refine A.took ?_
    refine A.takeP (i := 9) rfl rfl rfl rfl qk qk qk rfl qD ?_
    first | refine L.field0 rfl fo24_2 rfl ?_ | refine L.field rfl fo24_2 rfl ?_
    refine A.took ?_
    refine A.takeP (i := 10) rfl rfl rfl rfl qk qk qk rfl qD ?_
    refine L.load rfl sc22 rfl qC ?_
    refine A.took ?_
    refine A.takeP (i := 11) rfl rfl rfl rfl qk qk qk rfl qD ?_
    refine L.move rfl rfl ?_
    refine A.took ?_
    refine A.takeP (i := 12) rfl rfl rfl rfl qk qk qk rfl qD ?_
    refine L.idxR rfl Tryz.underlying22 sz142 rfl rfl qM rfl qI qG ?_
    refine A.took ?_
    refine A.takeP (i := 13) rfl rfl rfl rfl qk qk qk rfl qD ?_
    first | refine L.field0 rfl fo142_1 rfl ?_ | refine L.field rfl fo142_1 rfl ?_
    refine A.took ?_
    refine A.takeP (i := 14) rfl rfl rfl rfl qk qk qk rfl qD ?_
    refine L.loadA rfl ag24 rfl qN ?_
    refine A.took ?_
    refine A.takeP (i := 15) rfl rfl rfl rfl qk qk qk rfl qD ?_
    refine L.move rfl rfl ?_
    refine A.took ?_
    refine A.takeP (i := 16) rfl rfl rfl rfl qk qk qk rfl qD ?_
    refine L.move rfl rfl ?_
    refine A.took ?_
    refine A.takeP (i := 17) rfl rfl rfl rfl qk qk qk rfl qD ?_
    refine L.addN rfl rfl rfl (by omega) ?_
    refine A.took ?_
    refine A.branch (is := [1, 8]) qk (by decide) (Each.cons rfl ?_ <| Each.cons rfl ?_ <| Each.nil) 
    ·skip
     refine L.load rfl sc22 rfl qC ?_
     refine A.backT rfl qD ?_
     refine A.branch (is := [8]) qk (by decide) (Each.cons rfl ?_ <| Each.nil) 
     refine L.callF rfl (evs.cons rfl <| evs.cons rfl <| evs.nil) qD qS (cut_spec (n := 30)) (by rintro u D1 M1 ⟨rfl, rfl, rfl⟩; exact ⟨rfl, _, qA, qF⟩) ?_
     refine A.backT rfl qD ?_
     refine A.branch (is := [18]) qk (by decide) (Each.cons rfl ?_ <| Each.nil) 
     refine L.call rfl (evs.cons rfl <| evs.cons rfl <| evs.cons rfl <| evs.nil) qD qS (ihy) ?_
     rintro _ _ _ ⟨fa, fl, fc, rfl, rfl, rfl⟩
     refine L.norm qA qA ?_
     refine A.backT rfl qD ?_
     refine A.takeP (i := 19) rfl rfl rfl rfl qk qk qk rfl qD ?_
     refine L.build rfl bu142 (BP.one rfl rfl rfl <| BP.agg rfl rfl (by first | with_reducible assumption | (simp; done) | (simp only [List.length_map]; with_reducible assumption) | (simp [*]; done) | rfl) (Nat.le_of_ble_eq_true rfl) qR <| BP.doneE (out := []) rfl) ?_
     refine A.took ?_
     refine A.branch (is := [20]) qk (by decide) (Each.cons rfl ?_ <| Each.nil) 
     refine L.buildSlice rfl bs22 (by decide) (BP.agg rfl rfl (by first | with_reducible assumption | (simp; done) | (simp only [List.length_map]; with_reducible assumption) | (simp [*]; done) | rfl) (Nat.le_of_ble_eq_true rfl) qR <| BP.doneE (out := []) rfl) (fun b71 => ?_)
     refine A.backT rfl qD ?_
     refine A.branch (is := [21]) qk (by decide) (Each.cons rfl ?_ <| Each.nil) 
     refine L.append1 rfl Tryz.underlying22 el142 rfl rfl qP qM rfl qO1 qI qI (fun a72 c72 => ?_)
     refine A.backT rfl qD ?_
     refine A.takeP (i := 22) rfl rfl rfl rfl qk qk qk rfl qD ?_
     first | refine L.field0 rfl fo24_2 rfl ?_ | refine L.field rfl fo24_2 rfl ?_
     refine A.took ?_
     refine A.branch (is := [23]) qk (by decide) (Each.cons rfl ?_ <| Each.nil) 
     refine L.store sc22 rfl rfl rfl qU qE ?_
     refine A.backT rfl qD ?_
     refine A.done qk ?_
     refine T.blkN (T.thenN (T.region ?_))
     refine L.move rfl rfl ?_
     refine L.addN rfl rfl rfl (by omega) ?_
     refine L.assign rfl rfl ?_
     refine L.nil ?_
     refine T.thenN ?_
     refine T.ownEq a72 (rws ++ [eRow (Y1.named (y.n.take 30)) fa fl fc]) qP (by rfl) ?_
     refine T.trName (x := Y1) (y := Y1.named (y.n.take 30)) qM rfl ?_
     refine T.kidSnoc (ks := acc) (y := Y1.named (y.n.take 30)) qM qM ?_
     exact T.back ⟨i + 1, l1, acc ++ [Y1.named (y.n.take 30)], a72, c72, rws ++ [eRow (Y1.named (y.n.take 30)) fa fl fc], ⟨hst1, by simp [hal], by simp [hrwl]⟩, rfl, rfl, rfl, rfl⟩ qI (.cons (t := 8) rfl <| SubK.nil _) (.cons (t := 1) rfl <| .cons (t := 2) rfl <| .cons (t := 3) rfl <| .cons (t := 6) rfl <| .cons (t := 7) rfl <| SubK.nil _) qD qD qF
    ·skip
     refine L.callF rfl (evs.cons rfl <| evs.cons rfl <| evs.nil) qD qS (cut_spec (n := 30)) (by rintro u D1 M1 ⟨rfl, rfl, rfl⟩; exact ⟨rfl, _, qA, qF⟩) ?_
     refine A.backT rfl qD ?_
     refine A.branch (is := [1, 18]) qk (by decide) (Each.cons rfl ?_ <| Each.cons rfl ?_ <| Each.nil) 
     ·skip
      refine L.load rfl sc22 rfl qC ?_
      refine A.backT rfl qD ?_
      refine A.branch (is := [18]) qk (by decide) (Each.cons rfl ?_ <| Each.nil) 
      refine L.call rfl (evs.cons rfl <| evs.cons rfl <| evs.cons rfl <| evs.nil) qD qS (ihy) ?_
      rintro _ _ _ ⟨fa, fl, fc, rfl, rfl, rfl⟩
      refine L.norm qA qA ?_
      refine A.backT rfl qD ?_
      refine A.takeP (i := 19) rfl rfl rfl rfl qk qk qk rfl qD ?_
      refine L.build rfl bu142 (BP.one rfl rfl rfl <| BP.agg rfl rfl (by first | with_reducible assumption | (simp; done) | (simp only [List.length_map]; with_reducible assumption) | (simp [*]; done) | rfl) (Nat.le_of_ble_eq_true rfl) qR <| BP.doneE (out := []) rfl) ?_
      refine A.took ?_
      refine A.branch (is := [20]) qk (by decide) (Each.cons rfl ?_ <| Each.nil) 
      refine L.buildSlice rfl bs22 (by decide) (BP.agg rfl rfl (by first | with_reducible assumption | (simp; done) | (simp only [List.length_map]; with_reducible assumption) | (simp [*]; done) | rfl) (Nat.le_of_ble_eq_true rfl) qR <| BP.doneE (out := []) rfl) (fun b71 => ?_)
      refine A.backT rfl qD ?_
      refine A.branch (is := [21]) qk (by decide) (Each.cons rfl ?_ <| Each.nil) 
      refine L.append1 rfl Tryz.underlying22 el142 rfl rfl qP qM rfl qO1 qI qI (fun a72 c72 => ?_)
      refine A.backT rfl qD ?_
      refine A.takeP (i := 22) rfl rfl rfl rfl qk qk qk rfl qD ?_
      first | refine L.field0 rfl fo24_2 rfl ?_ | refine L.field rfl fo24_2 rfl ?_
      refine A.took ?_
      refine A.branch (is := [23]) qk (by decide) (Each.cons rfl ?_ <| Each.nil) 
      refine L.store sc22 rfl rfl rfl qU qE ?_
      refine A.backT rfl qD ?_
      refine A.done qk ?_
      refine T.blkN (T.thenN (T.region ?_))
      refine L.move rfl rfl ?_
      refine L.addN rfl rfl rfl (by omega) ?_
      refine L.assign rfl rfl ?_
      refine L.nil ?_
      refine T.thenN ?_
      refine T.ownEq a72 (rws ++ [eRow (Y1.named (y.n.take 30)) fa fl fc]) qP (by rfl) ?_
      refine T.trName (x := Y1) (y := Y1.named (y.n.take 30)) qM rfl ?_
      refine T.kidSnoc (ks := acc) (y := Y1.named (y.n.take 30)) qM qM ?_
      exact T.back ⟨i + 1, l1, acc ++ [Y1.named (y.n.take 30)], a72, c72, rws ++ [eRow (Y1.named (y.n.take 30)) fa fl fc], ⟨hst1, by simp [hal], by simp [hrwl]⟩, rfl, rfl, rfl, rfl⟩ qI (.cons (t := 8) rfl <| SubK.nil _) (.cons (t := 1) rfl <| .cons (t := 2) rfl <| .cons (t := 3) rfl <| .cons (t := 6) rfl <| .cons (t := 7) rfl <| SubK.nil _) qD qD qF
     ·skip
      refine L.call rfl (evs.cons rfl <| evs.cons rfl <| evs.cons rfl <| evs.nil) qD qS (ihy) ?_
      rintro _ _ _ ⟨fa, fl, fc, rfl, rfl, rfl⟩
      refine L.norm qA qA ?_
      refine A.backT rfl qD ?_
      refine A.takeP (i := 19) rfl rfl rfl rfl qk qk qk rfl qD ?_
      refine L.build rfl bu142 (BP.one rfl rfl rfl <| BP.agg rfl rfl (by first | with_reducible assumption | (simp; done) | (simp only [List.length_map]; with_reducible assumption) | (simp [*]; done) | rfl) (Nat.le_of_ble_eq_true rfl) qR <| BP.doneE (out := []) rfl) ?_
      refine A.took ?_
      refine A.branch (is := [1, 20]) qk (by decide) (Each.cons rfl ?_ <| Each.cons rfl ?_ <| Each.nil) 
      ·skip
       refine L.load rfl sc22 rfl qC ?_
       refine A.backT rfl qD ?_
       refine A.branch (is := [20]) qk (by decide) (Each.cons rfl ?_ <| Each.nil) 
       refine L.buildSlice rfl bs22 (by decide) (BP.agg rfl rfl (by first | with_reducible assumption | (simp; done) | (simp only [List.length_map]; with_reducible assumption) | (simp [*]; done) | rfl) (Nat.le_of_ble_eq_true rfl) qR <| BP.doneE (out := []) rfl) (fun b71 => ?_)
       refine A.backT rfl qD ?_
       refine A.branch (is := [21]) qk (by decide) (Each.cons rfl ?_ <| Each.nil) 
       refine L.append1 rfl Tryz.underlying22 el142 rfl rfl qP qM rfl qO1 qI qI (fun a72 c72 => ?_)
       refine A.backT rfl qD ?_
       refine A.takeP (i := 22) rfl rfl rfl rfl qk qk qk rfl qD ?_
       first | refine L.field0 rfl fo24_2 rfl ?_ | refine L.field rfl fo24_2 rfl ?_
       refine A.took ?_
       refine A.branch (is := [23]) qk (by decide) (Each.cons rfl ?_ <| Each.nil) 
       refine L.store sc22 rfl rfl rfl qU qE ?_
       refine A.backT rfl qD ?_
       refine A.done qk ?_
       refine T.blkN (T.thenN (T.region ?_))
       refine L.move rfl rfl ?_
       refine L.addN rfl rfl rfl (by omega) ?_
       refine L.assign rfl rfl ?_
       refine L.nil ?_
       refine T.thenN ?_
       refine T.ownEq a72 (rws ++ [eRow (Y1.named (y.n.take 30)) fa fl fc]) qP (by rfl) ?_
       refine T.trName (x := Y1) (y := Y1.named (y.n.take 30)) qM rfl ?_
       refine T.kidSnoc (ks := acc) (y := Y1.named (y.n.take 30)) qM qM ?_
       exact T.back ⟨i + 1, l1, acc ++ [Y1.named (y.n.take 30)], a72, c72, rws ++ [eRow (Y1.named (y.n.take 30)) fa fl fc], ⟨hst1, by simp [hal], by simp [hrwl]⟩, rfl, rfl, rfl, rfl⟩ qI (.cons (t := 8) rfl <| SubK.nil _) (.cons (t := 1) rfl <| .cons (t := 2) rfl <| .cons (t := 3) rfl <| .cons (t := 6) rfl <| .cons (t := 7) rfl <| SubK.nil _) qD qD qF
      ·skip
       refine L.buildSlice rfl bs22 (by decide) (BP.agg rfl rfl (by first | with_reducible assumption | (simp; done) | (simp only [List.length_map]; with_reducible assumption) | (simp [*]; done) | rfl) (Nat.le_of_ble_eq_true rfl) qR <| BP.doneE (out := []) rfl) (fun b71 => ?_)
       refine A.backT rfl qD ?_
       refine A.branch (is := [1]) qk (by decide) (Each.cons rfl ?_ <| Each.nil) 
       refine L.load rfl sc22 rfl qC ?_
       refine A.backT rfl qD ?_
       refine A.branch (is := [21]) qk (by decide) (Each.cons rfl ?_ <| Each.nil) 
       refine L.append1 rfl Tryz.underlying22 el142 rfl rfl qP qM rfl qO1 qI qI (fun a72 c72 => ?_)
       refine A.backT rfl qD ?_
       refine A.takeP (i := 22) rfl rfl rfl rfl qk qk qk rfl qD ?_
       first | refine L.field0 rfl fo24_2 rfl ?_ | refine L.field rfl fo24_2 rfl ?_
       refine A.took ?_
       refine A.branch (is := [23]) qk (by decide) (Each.cons rfl ?_ <| Each.nil) 
       refine L.store sc22 rfl rfl rfl qU qE ?_
       refine A.backT rfl qD ?_
       refine A.done qk ?_
       refine T.blkN (T.thenN (T.region ?_))
       refine L.move rfl rfl ?_
       refine L.addN rfl rfl rfl (by omega) ?_
       refine L.assign rfl rfl ?_
       refine L.nil ?_
       refine T.thenN ?_
       refine T.ownEq a72 (rws ++ [eRow (Y1.named (y.n.take 30)) fa fl fc]) qP (by rfl) ?_
       refine T.trName (x := Y1) (y := Y1.named (y.n.take 30)) qM rfl ?_
       refine T.kidSnoc (ks := acc) (y := Y1.named (y.n.take 30)) qM qM ?_
       exact T.back ⟨i + 1, l1, acc ++ [Y1.named (y.n.take 30)], a72, c72, rws ++ [eRow (Y1.named (y.n.take 30)) fa fl fc], ⟨hst1, by simp [hal], by simp [hrwl]⟩, rfl, rfl, rfl, rfl⟩ qI (.cons (t := 8) rfl <| SubK.nil _) (.cons (t := 1) rfl <| .cons (t := 2) rfl <| .cons (t := 3) rfl <| .cons (t := 6) rfl <| .cons (t := 7) rfl <| SubK.nil _) qD qD qF
   ·try simp only [dq] at h48
    refine T.exit (T.thenX (T.thenX (T.blkX (T.thenN (T.seq (T.region ?_))))))
    refine L.loadA rfl ag24 rfl qN ?_
    refine L.storeA ag24 rfl rfl qL qO qU qW ?_
    refine L.nil ?_
    refine T.thenN (T.ret ?_)
    have hst := hI.stop (by omega)
    have hYe : Y = ⟨x.n, x.k, txF x.t, acc⟩ := by rw [← hY1, fewT_eq, hst]
    have hle : lY = lf := by rw [← hY2, fewT_eq, hst]
    subst hYe
    subst hle
    refine T.ownRsl qP ?_
    refine T.trMkE (ks := acc) (x := ⟨x.n, x.k, txF x.t, acc⟩) rfl qM qM ?_
    exact T.retA rfl ag24 rfl qN ⟨_, _, _, rfl, rfl, rfl⟩ qD qF
  ·try simp only [dq] at h2
   refine L.guardF (dj := 45) (c := false) rfl rfl rfl rfl rfl (by decide) ?_
   refine L.guardF (dj := 45) (c := false) rfl rfl rfl rfl rfl (by decide) ?_
   refine L.pickF rfl rfl rfl ?_
   refine L.nil ?_
   refine T.thenN ?_
   refine T.condF rfl rfl ?_
   refine T.exit (T.thenX (T.thenX (T.blkX (T.thenN (T.seq (T.region ?_))))))
   refine L.loadA rfl ag24 rfl qN ?_
   refine L.storeA ag24 rfl rfl qL qO qU qW ?_
   refine L.nil ?_
   refine T.thenN (T.ret ?_)
   have hst := hI.stop (by omega)
   have hYe : Y = ⟨x.n, x.k, txF x.t, acc⟩ := by rw [← hY1, fewT_eq, hst]
   have hle : lY = lf := by rw [← hY2, fewT_eq, hst]
   subst hYe
   subst hle
   refine T.ownRsl qP ?_
   refine T.trMkE (ks := acc) (x := ⟨x.n, x.k, txF x.t, acc⟩) rfl qM qM ?_
   exact T.retA rfl ag24 rfl qN ⟨_, _, _, rfl, rfl, rfl⟩ qD qF
 ·try simp only [dq] at h1
  refine L.guardF (dj := 39) (c := false) rfl rfl rfl rfl rfl (by decide) ?_
  refine L.guardF (dj := 39) (c := false) rfl rfl rfl rfl rfl (by decide) ?_
  refine L.guardF (dj := 39) (c := false) rfl rfl rfl rfl rfl (by decide) ?_
  refine L.guardF (dj := 39) (c := false) rfl rfl rfl rfl rfl (by decide) ?_
  refine L.pickF rfl rfl rfl ?_
  refine L.move rfl rfl ?_
  refine L.guardF (dj := 45) (c := false) rfl rfl rfl rfl rfl (by decide) ?_
  refine L.guardF (dj := 45) (c := false) rfl rfl rfl rfl rfl (by decide) ?_
  refine L.pickF rfl rfl rfl ?_
  refine L.nil ?_
  refine T.thenN ?_
  refine T.condF rfl rfl ?_
  refine T.exit (T.thenX (T.thenX (T.blkX (T.thenN (T.seq (T.region ?_))))))
  refine L.loadA rfl ag24 rfl qN ?_
  refine L.storeA ag24 rfl rfl qL qO qU qW ?_
  refine L.nil ?_
  refine T.thenN (T.ret ?_)
  have hst := hI.stop (by omega)
  have hYe : Y = ⟨x.n, x.k, txF x.t, acc⟩ := by rw [← hY1, fewT_eq, hst]
  have hle : lY = lf := by rw [← hY2, fewT_eq, hst]
  subst hYe
  subst hle
  refine T.ownRsl qP ?_
  refine T.trMkE (ks := acc) (x := ⟨x.n, x.k, txF x.t, acc⟩) rfl qM qM ?_
  exact T.retA rfl ag24 rfl qN ⟨_, _, _, rfl, rfl, rfl⟩ qD qF
theorem few_spec (x : Tr) : FewS x := Tr.ind (p := FewS) (fun x ih a len cap l d bl hl1 hl2 hd => few_spec_step x ih a len cap l d bl hl1 hl2 hd) x
set_option maxHeartbeats 400000 in
theorem Few_spec {x : Tr} (a : Option Addr) (len cap : Nat)  : Spec Tryz.prog 8 [.agg (iRow x a len cap).toArray] [rtr x (eRow x a len cap)] [] (fun v D' M' => ∃ (a' : Option Addr) (len' cap' : Nat), v = .agg (iRow (fewT x 30 1).1 a' len' cap').toArray ∧ D' = [rtr (fewT x 30 1).1 (eRow (fewT x 30 1).1 a' len' cap')] ∧ M' = []) := by
 refine Spec.intro (n := 6) Tryz.func8 rfl rfl (by decide) (Nat.le_of_ble_eq_true rfl) rfl (fun _ => qA) (fun _ => qA) ?_
 intro σ D M
 refine T.seq (T.region ?_)
 refine L.box rfl rfl rfl (fun b1 => ?_)
 refine L.alloc rfl ze24 (fun b2 => ?_)
 refine L.nil ?_
 refine T.thenN (T.seq (T.region ?_))
 refine L.alloc rfl ze3 (fun b3 => ?_)
 refine L.store sc3 rfl rfl rfl qU qE ?_
 refine L.nil ?_
 refine T.thenN (T.seq (T.region ?_))
 refine L.loadA rfl ag24 rfl qN ?_
 refine L.call rfl (evs.cons rfl <| evs.cons rfl <| evs.cons rfl <| evs.nil) qD qS (few_spec x a len cap 30 1 b3 (by decide) (by decide) (by decide)) ?_
 rintro _ _ _ ⟨fa, fl, fc, rfl, rfl, rfl⟩
 refine L.norm qA qA ?_
 refine L.storeA ag24 rfl rfl qL qO qU qW ?_
 refine L.nil ?_
 refine T.thenN (T.ret ?_)
 exact T.retA rfl ag24 rfl qN ⟨_, _, _, rfl, rfl, rfl⟩ qD qF
end Cv
