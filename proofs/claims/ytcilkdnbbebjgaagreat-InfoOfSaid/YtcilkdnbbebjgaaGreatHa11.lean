/-
  The walks: cutter.
-/
import Derived.Test.YtcilkdnbbebjgaaGreatGa11
import Derived.Test.YtcilkdnbbebjgaaGreatCvLg
import Derived.Test.YtcilkdnbbebjgaaGreatProg
import Derived.KernelRfl
set_option linter.unusedVariables false
set_option linter.unusedSimpArgs false
set_option linter.unusedSectionVars false
set_option maxRecDepth 10000
namespace Cv
open Go Go.Proofs
theorem chnF_len {T : List Int} {s : List UInt8} : (chnF T s).length ≤ s.length + 1 := by
  have h := (cutW_len (T := T) (l := s) (s := ([], []))).1
  simp only [List.length_nil, Nat.zero_add] at h
  unfold chnF
  rw [List.length_append]
  have : (lastC (cutW T ([], []) s).2).length ≤ 1 := by unfold lastC; split <;> simp
  omega
theorem T.emp {σ : World} {sn : Nat} {G : Act → World → Prop} {K : Env} {D M : List Asn} (next : T σ sn G K D (all [] :: M)) : T σ sn G K D M := T.drop (fun h (H : Holds M h) => (show Holds (all [] :: M) h from ⟨fun _ => none, h, (fun _ _ e => by cases e), Hp.le.refl h, fun _ => .inl rfl, trivial, H⟩)) next
theorem zv222 : ∀ w, (zeroValue 222).run Tryz.prog w = .ok (Value.agg #[Value.pointer none, Value.slice none 0 0]) w := fun w => by kernel_rfl
theorem bu222 : Bu Tryz.prog 222 [Value.pointer none, Value.slice none 0 0] (fun (i : Nat) => ([(0, 1), (1, 1)] : List (Nat × Nat))[i]?) := bu_of Tryz.underlying222 zv222 rfl (fun w => by kernel_rfl)
theorem fo222_1 : Fo Tryz.prog 222 1 1 := fun a w => by kernel_rfl
theorem fo222_0 : Fo Tryz.prog 222 0 0 := fun a w => by kernel_rfl
theorem sc219 : Sc Tryz.prog 219 := fun w => ⟨by kernel_rfl, by kernel_rfl⟩
theorem el9 : El Tryz.prog 9 1 16 := ⟨_, _, rfl, rfl, by kernel_rfl, by kernel_rfl, by kernel_rfl⟩
theorem zv25 : ∀ w, (zeroValue 25).run Tryz.prog w = .ok (Value.slice none 0 0) w := fun w => by kernel_rfl
theorem ze25 : Ze Tryz.prog 25 [Value.slice none 0 0] := ⟨_, rfl, zv25⟩
theorem sc25 : Sc Tryz.prog 25 := fun w => ⟨by kernel_rfl, by kernel_rfl⟩
set_option maxHeartbeats 400000 in
theorem cnew_spec {tb : Nat} {tt : List Int}  : Spec Tryz.prog 112 [.pointer (some ⟨tb, 0, none⟩)] [] [] (fun v D' M' => ∃ (cb rb : Nat), v = .pointer (some ⟨cb, 0, none⟩) ∧ D' = [] ∧ M' = [cl cb 222 [.pointer (some ⟨rb, 0, none⟩), .slice none 0 0], own 1 5 none 0 0 ((([] : List UInt8)).map yr), cl rb 243 [.pointer (some ⟨tb, 0, none⟩), .int .u64 (rollL tt (([] : List UInt8))), .int .i64 (((([] : List UInt8)).length : Nat) : Int)]]) := by
 refine Spec.intro (n := 7) Tryz.func112 rfl rfl (by decide) (Nat.le_of_ble_eq_true rfl) rfl (fun _ => qA) (fun _ => qA) ?_
 intro σ D M
 refine T.seq (T.region ?_)
 refine L.assign rfl rfl ?_
 refine L.nil ?_
 refine T.thenN (T.seq (T.region ?_))
 refine L.move rfl rfl ?_
 refine L.call rfl (evs.cons rfl <| evs.nil) qD qS (over_spec) ?_
 rintro _ _ _ ⟨rb, rfl, rfl, rfl⟩
 refine L.norm qA qA ?_
 refine L.build rfl bu222 (BP.one rfl rfl rfl <| BP.doneE (out := [Value.slice none 0 0]) rfl) ?_
 refine L.box rfl rfl rfl (fun b6 => ?_)
 refine L.assign rfl rfl ?_
 refine L.nil ?_
 refine T.newOwn (sz := 1) (e := 5) ?_
 refine T.eqv qP (show own 1 5 none 0 0 [] = own 1 5 none 0 0 ((([] : List UInt8)).map yr) from rfl) ?_
 refine T.eqv qP (show cl rb 243 [.pointer (some ⟨tb, 0, none⟩), .int .u64 0, .int .i64 0] = cl rb 243 [.pointer (some ⟨tb, 0, none⟩), .int .u64 (rollL tt ([] : List UInt8)), .int .i64 ((([] : List UInt8).length : Nat) : Int)] from rfl) ?_
 refine T.thenN (T.ret ?_)
 exact T.ret1 rfl rfl ⟨_, _, rfl, rfl, rfl⟩ qD qF
set_option maxHeartbeats 400000 in
theorem take_spec {cb rb tb : Nat} {pa : Option Addr} {pn pc : Nat} {tt : List Int} {p : List UInt8}  : Spec Tryz.prog 143 [.pointer (some ⟨cb, 0, none⟩)] [] [cl cb 222 [.pointer (some ⟨rb, 0, none⟩), .slice pa pn pc], own 1 5 pa pn pc ((p).map yr), cl rb 243 [.pointer (some ⟨tb, 0, none⟩), .int .u64 (rollL tt (p)), .int .i64 (((p).length : Nat) : Int)]] (fun v D' M' => v = S p ∧ D' = [] ∧ M' = [cl cb 222 [.pointer (some ⟨rb, 0, none⟩), .slice pa 0 pc], own 1 5 pa 0 pc ((([] : List UInt8)).map yr), cl rb 243 [.pointer (some ⟨tb, 0, none⟩), .int .u64 (rollL tt (([] : List UInt8))), .int .i64 (((([] : List UInt8)).length : Nat) : Int)]]) := by
 refine Spec.intro (n := 23) Tryz.func143 rfl rfl (by decide) (Nat.le_of_ble_eq_true rfl) rfl (fun _ => qA) (fun _ => qA) ?_
 intro σ D M
 refine T.seq (T.region ?_)
 refine L.assign rfl rfl ?_
 refine L.nil ?_
 refine T.thenN (T.seq (T.region ?_))
 refine L.move rfl rfl ?_
 refine L.nilCheck rfl rfl ?_
 first | refine L.field0 rfl fo222_1 rfl ?_ | refine L.field rfl fo222_1 rfl ?_
 refine L.load rfl sc97 rfl qC ?_
 refine L.bytesStrO rfl Tryz.underlying97 Tryz.underlying5 Tryz.underlying9 rfl qM ?_
 refine L.assign rfl rfl ?_
 refine L.nil ?_
 refine T.thenN (T.seq (T.region ?_))
 refine L.move rfl rfl ?_
 refine L.move rfl rfl ?_
 refine L.nilCheck rfl rfl ?_
 first | refine L.field0 rfl fo222_1 rfl ?_ | refine L.field rfl fo222_1 rfl ?_
 refine L.load rfl sc97 rfl qC ?_
 refine L.sliceTo rfl Tryz.underlying97 sz5 rfl (Bd.at (x := 0) rfl (by first | rfl | omega | (simp; done))) qI ?_
 refine L.nilCheck rfl rfl ?_
 first | refine L.field0 rfl fo222_1 rfl ?_ | refine L.field rfl fo222_1 rfl ?_
 refine L.store sc97 rfl rfl rfl qU qE ?_
 refine L.nil ?_
 refine T.ownTo (h := 0) qP (Nat.zero_le _) ?_
 refine T.ownEq pa (([] : List UInt8).map yr) qP (by simp) ?_
 refine T.thenN (T.seq (T.region ?_))
 refine L.move rfl rfl ?_
 refine L.nilCheck rfl rfl ?_
 first | refine L.field0 rfl fo222_0 rfl ?_ | refine L.field rfl fo222_0 rfl ?_
 refine L.load rfl sc219 rfl qC ?_
 refine L.call rfl (evs.cons rfl <| evs.nil) qD qS (reset_spec) ?_
 rintro _ _ _ ⟨rfl, rfl, rfl⟩
 refine L.norm qA qA ?_
 refine L.nil ?_
 refine T.eqv qP (show cl rb 243 [.pointer (some ⟨tb, 0, none⟩), .int .u64 0, .int .i64 0] = cl rb 243 [.pointer (some ⟨tb, 0, none⟩), .int .u64 (rollL tt ([] : List UInt8)), .int .i64 ((([] : List UInt8).length : Nat) : Int)] from rfl) ?_
 refine T.thenN (T.seq (T.region ?_))
 refine L.move rfl rfl ?_
 refine L.assign rfl rfl ?_
 refine L.nil ?_
 refine T.thenN (T.ret ?_)
 exact T.ret1 rfl rfl ⟨rfl, rfl, rfl⟩ qD qF
set_option maxHeartbeats 400000 in
theorem cwrite_spec {cb rb tb : Nat} {pa : Option Addr} {pn pc : Nat} {tt : List Int} {p : List UInt8} {a : Option Addr} {c : Nat} {s : List UInt8} (hT : tt.length = 256) (hs : s.length ≤ 1000000) (hp : p.length ≤ 1000000) : Spec Tryz.prog 113 [.pointer (some ⟨cb, 0, none⟩), .slice a 1 c] [cl tb 139 (tt.map U), rsl 1 a 1 c ([s].map ys)] [cl cb 222 [.pointer (some ⟨rb, 0, none⟩), .slice pa pn pc], own 1 5 pa pn pc ((p).map yr), cl rb 243 [.pointer (some ⟨tb, 0, none⟩), .int .u64 (rollL tt (p)), .int .i64 (((p).length : Nat) : Int)]] (fun v D' M' => ∃ (a' pa' : Option Addr) (n' c' pn' pc' : Nat) (r : CutS), v = .slice a' n' c' ∧ (r = cutW tt ([], p) s) ∧ (r.1.length = n') ∧ D' = [] ∧ M' = [cl cb 222 [.pointer (some ⟨rb, 0, none⟩), .slice pa' pn' pc'], own 1 5 pa' pn' pc' ((r.2).map yr), cl rb 243 [.pointer (some ⟨tb, 0, none⟩), .int .u64 (rollL tt (r.2)), .int .i64 (((r.2).length : Nat) : Int)], own 1 9 a' n' c' ((r.1).map ys)]) := by
 refine Spec.intro (n := 55) Tryz.func113 rfl rfl (by decide) (Nat.le_of_ble_eq_true rfl) rfl (fun _ => qA) (fun _ => qA) ?_
 intro σ D M
 have hg0 : ([s].map ys)[0]? = some (ys s) := rfl
 refine T.seq (T.region ?_)
 refine L.assign rfl rfl ?_
 refine L.nil ?_
 refine T.thenN (T.seq (T.region ?_))
 refine L.assign rfl rfl ?_
 refine L.nil ?_
 refine T.newOwn (sz := 1) (e := 9) ?_
 refine T.eqv qP (show own 1 9 none 0 0 [] = own 1 9 none 0 0 ((([] : List (List UInt8))).map ys) from rfl) ?_
 refine T.thenN (T.seq (T.seq (T.region ?_)))
 refine L.move rfl rfl ?_
 refine L.lenSl rfl Tryz.underlying25 rfl ?_
 refine L.move rfl rfl ?_
 refine L.nil ?_
 refine T.thenN (T.block ?_)
 refine T.loop (fun K' D' M' μ => ∃ (i n5 c5 pn5 pc5 : Nat) (a5 pa5 : Option Addr) (u : List (List UInt8)) (q : List UInt8), (i ≤ 1 ∧ ((i = 0 → u = [] ∧ q = p) ∧ (i = 1 → (u, q) = cutW tt ([], p) s)) ∧ u.length = n5) ∧ K' = [(13, .int .i64 (i : Int)), (5, .slice a5 n5 c5)] ∧ D' = [] ∧ M' = [cl cb 222 [.pointer (some ⟨rb, 0, none⟩), .slice pa5 pn5 pc5], own 1 5 pa5 pn5 pc5 ((q).map yr), cl rb 243 [.pointer (some ⟨tb, 0, none⟩), .int .u64 (rollL tt (q)), .int .i64 (((q).length : Nat) : Int)], own 1 9 a5 n5 c5 ((u).map ys)] ∧ μ = 1 - i) (.cons (t := 0) rfl <| .cons (t := 11) rfl <| .cons (t := 12) rfl <| SubK.nil _) (⟨0, 0, 0, pn, pc, none, pa, [], p, ⟨by omega, ⟨fun _ => ⟨rfl, rfl⟩, fun e => absurd e (by decide)⟩, rfl⟩, rfl, rfl, rfl, rfl⟩) (.cons (t := 13) rfl <| .cons (t := 5) rfl <| SubK.nil _) qD qS ?_
 rintro K1 D1 M1 m1 ⟨i, n5, c5, pn5, pc5, a5, pa5, u, q, ⟨hi, hI, hun⟩, rfl, rfl, rfl, rfl⟩
 refine T.norm3 qA qA qA ?_
 refine T.seq (T.region ?_)
 refine L.ltI rfl rfl rfl ?_
 refine L.nil ?_
 refine T.thenN (T.seq ?_)
 refine T.cond rfl (fun h14 => ?_) (fun h14 => ?_)
 ·try simp only [dq] at h14
  refine T.skip (T.thenN (T.seq (T.block (T.seq ?_))))
  obtain rfl : i = 0 := by omega
  obtain ⟨h1, h2⟩ := hI.1 rfl
  have h1 := h1.symm
  have h2 := h2.symm
  subst h1
  subst h2
  refine T.region ?_
  refine L.idx (i := 0) rfl Tryz.underlying25 sz9 rfl rfl qM (by first | rfl | omega | (simp; done)) qG (fun b15 o15 => ?_)
  refine L.load rfl sc9 rfl qC ?_
  refine L.assign rfl rfl ?_
  refine L.nil ?_
  refine T.thenN (T.seq (T.region ?_))
  refine L.move rfl rfl ?_
  refine L.strBytes (l := s) rfl Tryz.underlying9 Tryz.underlying97 Tryz.underlying5 rfl (fun b18 c18 => ?_)
  refine L.lenSl rfl Tryz.underlying97 rfl ?_
  refine L.move rfl rfl ?_
  refine L.nil ?_
  refine T.thenN (T.block ?_)
  refine T.loop (fun K' D' M' μ => ∃ (j n5 c5 pn5 pc5 : Nat) (a5 pa5 : Option Addr) (u : List (List UInt8)) (q : List UInt8), (j ≤ s.length ∧ (u, q) = cutW tt ([], p) (s.take j) ∧ u.length = n5) ∧ K' = [(20, .int .i64 (j : Int)), (5, .slice a5 n5 c5)] ∧ D' = [] ∧ M' = [cl cb 222 [.pointer (some ⟨rb, 0, none⟩), .slice pa5 pn5 pc5], own 1 5 pa5 pn5 pc5 ((q).map yr), cl rb 243 [.pointer (some ⟨tb, 0, none⟩), .int .u64 (rollL tt (q)), .int .i64 (((q).length : Nat) : Int)], own 1 9 a5 n5 c5 ((u).map ys)] ∧ μ = s.length - j) (.cons (t := 0) rfl <| .cons (t := 11) rfl <| .cons (t := 12) rfl <| .cons (t := 13) rfl <| .cons (t := 18) rfl <| .cons (t := 19) rfl <| SubK.nil _) (⟨0, n5, c5, pn5, pc5, a5, pa5, [], p, ⟨Nat.zero_le _, rfl, hun⟩, rfl, rfl, rfl, rfl⟩) (.cons (t := 20) rfl <| .cons (t := 5) rfl <| SubK.nil _) qD qS ?_
  rintro K1 D1 M1 m1 ⟨j, n5, c5, pn5, pc5, a5, pa5, u, q, ⟨hj, hqu, hun⟩, rfl, rfl, rfl, rfl⟩
  refine T.norm3 qA qA qA ?_
  refine T.ownLen (rows := q.map yr) qM (fun hql hqc => ?_)
  rw [List.length_map] at hql
  refine T.seq (T.region ?_)
  refine L.ltI rfl rfl rfl ?_
  refine L.nil ?_
  refine T.thenN (T.seq ?_)
  refine T.cond rfl (fun h21 => ?_) (fun h21 => ?_)
  ·try simp only [dq] at h21
   refine T.skip (T.thenN (T.seq (T.block (T.seq ?_))))
   have hgj : s[j]? = some (gd s j) := gd_get (by omega)
   obtain ⟨c8, hc8⟩ : ∃ c, c = gd s j := ⟨_, rfl⟩
   rw [← hc8] at hgj
   have hst := cutW_s (T := tt) (s := ([], p)) hgj
   have hln := cutW_len (T := tt) (l := s.take j) (s := ([], p))
   rw [← hqu, List.length_take] at hln
   rw [← hqu] at hst
   simp only at hln hst
   refine T.region ?_
   refine L.idx (i := j) rfl Tryz.underlying97 sz5 rfl rfl qM (by first | rfl | omega | (simp; done)) qG (fun b22 o22 => ?_)
   refine L.load rfl sc5 rfl qC ?_
   refine L.assign rfl rfl ?_
   refine L.nil ?_
   refine T.thenN (T.seq (T.region ?_))
   refine L.move rfl rfl ?_
   refine L.move rfl rfl ?_
   refine L.nilCheck rfl rfl ?_
   first | refine L.field0 rfl fo222_1 rfl ?_ | refine L.field rfl fo222_1 rfl ?_
   refine L.load rfl sc97 rfl qC ?_
   refine L.move rfl rfl ?_
   refine L.buildSlice rfl bs97 (by decide) (BP.one rfl rfl rfl <| BP.doneE (out := []) rfl) (fun b30 => ?_)
   refine L.append1 rfl Tryz.underlying97 el5 rfl rfl qP qM rfl qO1 qI qI (fun a31 c31 => ?_)
   refine L.nilCheck rfl rfl ?_
   first | refine L.field0 rfl fo222_1 rfl ?_ | refine L.field rfl fo222_1 rfl ?_
   refine L.store sc97 rfl rfl rfl qU qE ?_
   refine L.nil ?_
   refine T.ownEq _ ((q ++ [c8]).map yr) qP (by rw [List.map_append]; rfl) ?_
   refine T.thenN (T.seq ?_)
   have hqr : rollL tt (q ++ [c8]) = rollN tt (rollL tt q) c8 := rollL_s
   refine T.region ?_
   refine L.move rfl rfl ?_
   refine L.nilCheck rfl rfl ?_
   first | refine L.field0 rfl fo222_0 rfl ?_ | refine L.field rfl fo222_0 rfl ?_
   refine L.load rfl sc219 rfl qC ?_
   refine L.move rfl rfl ?_
   refine L.call rfl (evs.cons rfl <| evs.cons rfl <| evs.nil) qD qS (next_spec (tt := tt) (z := rollL tt q) (n := q.length) (c := c8) hT (by simp only [List.length_nil] at hln; omega)) ?_
   rintro _ _ _ ⟨rfl, rfl, rfl⟩
   refine L.norm qA qA ?_
   refine L.assign rfl rfl ?_
   refine L.nil ?_
   refine T.eqv qP (show cl rb 243 [.pointer (some ⟨tb, 0, none⟩), .int .u64 (rollN tt (rollL tt q) c8), .int .i64 ((q.length + 1 : Nat) : Int)] = cl rb 243 [.pointer (some ⟨tb, 0, none⟩), .int .u64 (rollL tt (q ++ [c8])), .int .i64 (((q ++ [c8]).length : Nat) : Int)] from by rw [rollL_s, List.length_append]; rfl) ?_
   refine T.thenN (T.seq (T.region ?_))
   refine L.move rfl rfl ?_
   refine L.nilCheck rfl rfl ?_
   first | refine L.field0 rfl fo222_0 rfl ?_ | refine L.field rfl fo222_0 rfl ?_
   refine L.load rfl sc219 rfl qC ?_
   refine L.call rfl (evs.cons rfl <| evs.nil) qD qS (count2_spec) ?_
   rintro _ _ _ ⟨rfl, rfl, rfl⟩
   refine L.norm qA qA ?_
   refine L.move rfl rfl ?_
   refine L.callF rfl (evs.cons rfl <| evs.cons rfl <| evs.nil) qD qS (ends_spec (n := (q ++ [c8]).length) (z := rollN tt (rollL tt q) c8)) (by rintro u D1 M1 ⟨rfl, rfl, rfl⟩; exact ⟨rfl, _, qA, qF⟩) ?_
   refine L.nil ?_
   refine T.thenN ?_
   refine T.cond rfl (fun h46 => ?_) (fun h46 => ?_)
   ·try simp only [dq] at h46
    have hcs : cutS tt (u, q) c8 = (u ++ [q ++ [c8]], []) := cutS_yes (by rw [List.length_append] at h46; exact h46)
    refine T.region ?_
    refine L.move rfl rfl ?_
    refine L.move rfl rfl ?_
    refine L.call rfl (evs.cons rfl <| evs.nil) qD qS (take_spec (p := q ++ [c8])) ?_
    rintro _ _ _ ⟨rfl, rfl, rfl⟩
    refine L.norm qA qA ?_
    refine L.buildSlice rfl bs25 (by decide) (BP.one rfl rfl rfl <| BP.doneE (out := []) rfl) (fun b50 => ?_)
    refine L.append1 rfl Tryz.underlying25 el9 rfl rfl qP qM rfl qO1 qI qI (fun a51 c51 => ?_)
    refine L.assign rfl rfl ?_
    refine L.nil ?_
    refine T.ownEq _ ((u ++ [q ++ [c8]]).map ys) qP (by rw [List.map_append]; rfl) ?_
    refine T.blkN (T.thenN (T.region ?_))
    refine L.addN rfl rfl rfl (by omega) ?_
    refine L.move rfl rfl ?_
    refine L.nil ?_
    refine T.thenN ?_
    exact T.back ⟨j + 1, n5 + 1, _, _, _, _, _, u ++ [q ++ [c8]], [], ⟨by omega, by rw [hst, hcs], by rw [List.length_append, hun]; rfl⟩, rfl, rfl, rfl, rfl⟩ qI (.cons (t := 20) rfl <| .cons (t := 5) rfl <| SubK.nil _) (.cons (t := 0) rfl <| .cons (t := 11) rfl <| .cons (t := 12) rfl <| .cons (t := 13) rfl <| .cons (t := 18) rfl <| .cons (t := 19) rfl <| SubK.nil _) qD qD qF
   ·try simp only [dq] at h46
    have hcs : cutS tt (u, q) c8 = (u, q ++ [c8]) := cutS_no (by rw [List.length_append] at h46; exact h46)
    refine T.skip (T.blkN (T.thenN (T.region ?_)))
    refine L.addN rfl rfl rfl (by omega) ?_
    refine L.move rfl rfl ?_
    refine L.nil ?_
    refine T.thenN ?_
    exact T.back ⟨j + 1, n5, _, _, _, _, _, u, q ++ [c8], ⟨by omega, by rw [hst, hcs], hun⟩, rfl, rfl, rfl, rfl⟩ qI (.cons (t := 20) rfl <| .cons (t := 5) rfl <| SubK.nil _) (.cons (t := 0) rfl <| .cons (t := 11) rfl <| .cons (t := 12) rfl <| .cons (t := 13) rfl <| .cons (t := 18) rfl <| .cons (t := 19) rfl <| SubK.nil _) qD qD qF
  ·try simp only [dq] at h21
   obtain rfl : j = s.length := by omega
   rw [List.take_length] at hqu
   refine T.exit (T.thenX (T.thenX (T.blkX (T.blkN (T.thenN (T.region ?_))))))
   refine L.addN rfl rfl rfl (by omega) ?_
   refine L.move rfl rfl ?_
   refine L.nil ?_
   refine T.thenN ?_
   exact T.back ⟨0 + 1, _, _, _, _, _, _, u, q, ⟨by omega, ⟨fun e => absurd e (by omega), fun _ => hqu⟩, hun⟩, rfl, rfl, rfl, rfl⟩ qI (.cons (t := 13) rfl <| .cons (t := 5) rfl <| SubK.nil _) (.cons (t := 0) rfl <| .cons (t := 11) rfl <| .cons (t := 12) rfl <| SubK.nil _) qD qD qF
 ·try simp only [dq] at h14
  obtain rfl : i = 1 := by omega
  have hfin := hI.2 rfl
  refine T.exit (T.thenX (T.thenX (T.blkX (T.thenN (T.seq (T.region ?_))))))
  refine L.move rfl rfl ?_
  refine L.assign rfl rfl ?_
  refine L.nil ?_
  refine T.thenN (T.ret ?_)
  exact T.ret1 rfl rfl ⟨_, _, _, _, _, _, (u, q), rfl, hfin, hun, rfl, rfl⟩ qD qF
set_option maxHeartbeats 400000 in
theorem cclose_spec {cb rb tb : Nat} {pa : Option Addr} {pn pc : Nat} {tt : List Int} {p : List UInt8}  : Spec Tryz.prog 114 [.pointer (some ⟨cb, 0, none⟩)] [] [cl cb 222 [.pointer (some ⟨rb, 0, none⟩), .slice pa pn pc], own 1 5 pa pn pc ((p).map yr), cl rb 243 [.pointer (some ⟨tb, 0, none⟩), .int .u64 (rollL tt (p)), .int .i64 (((p).length : Nat) : Int)]] (fun v D' M' => v = .tuple #[S p, .bool (decide (p ≠ []))] ∧ D' = [] ∧ M' = []) := by
 refine Spec.intro (n := 12) Tryz.func114 rfl rfl (by decide) (Nat.le_of_ble_eq_true rfl) rfl (fun _ => qA) (fun _ => qA) ?_
 intro σ D M
 refine T.ownLen (rows := p.map yr) qM (fun hpl hpc => ?_)
 rw [List.length_map] at hpl
 refine T.seq (T.region ?_)
 refine L.assign rfl rfl ?_
 refine L.assign rfl rfl ?_
 refine L.nil ?_
 refine T.thenN (T.seq (T.seq (T.region ?_)))
 refine L.move rfl rfl ?_
 refine L.nilCheck rfl rfl ?_
 first | refine L.field0 rfl fo222_1 rfl ?_ | refine L.field rfl fo222_1 rfl ?_
 refine L.load rfl sc97 rfl qC ?_
 refine L.lenSl rfl Tryz.underlying97 rfl ?_
 refine L.eqI rfl rfl rfl ?_
 refine L.nil ?_
 refine T.thenN ?_
 refine T.cond rfl (fun h9 => ?_) (fun h9 => ?_)
 ·try simp only [dq] at h9
  refine T.seq (T.region ?_)
  refine L.assign rfl rfl ?_
  refine L.assign rfl rfl ?_
  refine L.nil ?_
  refine T.thenN (T.ret ?_)
  refine T.thenR ?_
  obtain rfl : p = [] := List.length_eq_zero_iff.1 (by omega)
  exact T.ret2 rfl rfl rfl ⟨rfl, rfl, rfl⟩ qD qF
 ·try simp only [dq] at h9
  refine T.skip (T.thenN (T.seq (T.region ?_)))
  refine L.move rfl rfl ?_
  refine L.call rfl (evs.cons rfl <| evs.nil) qD qS (take_spec (p := p)) ?_
  rintro _ _ _ ⟨rfl, rfl, rfl⟩
  refine L.norm qA qA ?_
  refine L.assign rfl rfl ?_
  refine L.assign rfl rfl ?_
  refine L.nil ?_
  refine T.thenN (T.ret ?_)
  exact T.ret2 rfl rfl rfl ⟨by rw [decide_eq_true (show p ≠ [] from fun e => by rw [e] at hpl; simp at hpl; omega)], rfl, rfl⟩ qD qF
set_option maxHeartbeats 400000 in
theorem allit_spec {c1 c2 tb l : Nat} {tt : List Int} {s : List UInt8} {ψ : Asn} {J : List (List UInt8) → Asn} (hY : ∀ pre x, (pre.length < (chnF tt s).length) → YSpec Tryz.prog l [S x] [ψ] [J pre] (fun v D' M' => v = .bool true ∧ D' = [] ∧ M' = [J (pre ++ [x])])) (hT : tt.length = 256) (hs : s.length ≤ 1000000) : Spec Tryz.prog 111 [fnY l, .pointer (some ⟨c1, 0, none⟩), .pointer (some ⟨c2, 0, none⟩)] [dall [cl c1 80 [.pointer (some ⟨tb, 0, none⟩)], cl c2 9 [S s], cl tb 139 (tt.map U)], ψ] [all [], J []] (fun v D' M' => v = .tuple #[] ∧ D' = [] ∧ M' = [all [], J (chnF tt s)]) := by
 refine Spec.intro (n := 34) Tryz.func111 rfl rfl (by decide) (Nat.le_of_ble_eq_true rfl) rfl (fun _ => qA) (fun _ => qA) ?_
 intro σ D M
 refine T.unpackD (X := [cl c1 80 [.pointer (some ⟨tb, 0, none⟩)], cl c2 9 [S s], cl tb 139 (tt.map U)]) qM ?_
 refine T.norm (Y := []) qA AppL.nil ?_
 refine T.seq (T.region ?_)
 refine L.load rfl sc80 rfl qC ?_
 refine L.call rfl (evs.cons rfl <| evs.nil) qD qS (cnew_spec (tt := tt)) ?_
 rintro _ _ _ ⟨cb, rb, rfl, rfl, rfl⟩
 refine L.norm qA qA ?_
 refine L.assign rfl rfl ?_
 refine L.nil ?_
 refine T.thenN (T.seq (T.seq (T.region ?_)))
 refine L.move rfl rfl ?_
 refine L.load rfl sc9 rfl qC ?_
 refine L.buildSlice rfl bs25 (by decide) (BP.one rfl rfl rfl <| BP.doneE (out := []) rfl) (fun b13 => ?_)
 refine L.toOwn (len := 1) qP (rows := [s].map ys) (sz := 1) (by rfl) rfl (by simp) ?_
 refine L.ownRsl qP ?_
 refine L.call rfl (evs.cons rfl <| evs.cons rfl <| evs.nil) qD qS (cwrite_spec (tt := tt) (p := []) (s := s) hT hs (Nat.zero_le _)) ?_
 rintro _ _ _ ⟨wa, pa2, wn, wc, pn2, pc2, r, rfl, hr, hrn, rfl, rfl⟩
 refine L.norm qA qA ?_
 have hrl := cutW_len (T := tt) (l := s) (s := ([], []))
 rw [← hr] at hrl
 simp only [List.length_nil, Nat.zero_add] at hrl
 have hch : chnF tt s = r.1 ++ lastC r.2 := by unfold chnF; rw [← hr]
 refine L.lenSl rfl Tryz.underlying25 rfl ?_
 refine L.move rfl rfl ?_
 refine L.nil ?_
 refine T.ownRsl (rows := r.1.map ys) qP ?_
 refine T.thenN (T.block ?_)
 refine T.eqv qP (show J [] = J (r.1.take 0) from by rw [List.take_zero]) ?_
 refine T.loop (fun K' D' M' μ => ∃ (i : Nat), (i ≤ wn) ∧ K' = [(16, .int .i64 (i : Int))] ∧ D' = [] ∧ M' = [J (r.1.take i)] ∧ μ = wn - i) (.cons (t := 0) rfl <| .cons (t := 4) rfl <| .cons (t := 14) rfl <| .cons (t := 15) rfl <| SubK.nil _) (⟨0, Nat.zero_le _, rfl, rfl, rfl, rfl⟩) (.cons (t := 16) rfl <| SubK.nil _) qD qS ?_
 rintro K1 D1 M1 m1 ⟨i, hi, rfl, rfl, rfl, rfl⟩
 refine T.norm3 qA qA qA ?_
 refine T.seq (T.region ?_)
 refine L.ltI rfl rfl rfl ?_
 refine L.nil ?_
 refine T.thenN (T.seq ?_)
 refine T.cond rfl (fun h17 => ?_) (fun h17 => ?_)
 ·try simp only [dq] at h17
  refine T.skip (T.thenN (T.seq (T.block (T.seq ?_))))
  have hgi : r.1[i]? = some (gd r.1 i) := gd_get (by omega)
  obtain ⟨x, hx⟩ : ∃ x, x = gd r.1 i := ⟨_, rfl⟩
  rw [← hx] at hgi
  have hgr : (r.1.map ys)[i]? = some (ys x) := map_get hgi
  have hlt : (r.1.take i).length < (chnF tt s).length := by rw [hch, List.length_append, List.length_take]; omega
  refine T.region ?_
  refine L.idx (i := i) rfl Tryz.underlying25 sz9 rfl rfl qM (by first | rfl | omega | (simp; done)) qG (fun b18 o18 => ?_)
  refine L.load rfl sc9 rfl qC ?_
  refine L.assign rfl rfl ?_
  refine L.nil ?_
  refine T.thenN (T.seq (T.region ?_))
  refine L.move rfl rfl ?_
  refine L.move rfl rfl ?_
  refine L.callY (M0 := [J (r.1.take i)]) rfl rfl rfl (evs.cons rfl evs.nil) qD qS (hY (r.1.take i) x hlt) ?_
  rintro _ _ _ ⟨rfl, rfl, rfl⟩
  refine L.norm qA qA ?_
  refine L.notB rfl rfl ?_
  refine L.nil ?_
  refine T.thenN ?_
  refine T.condF rfl rfl ?_
  refine T.skip (T.blkN (T.thenN (T.region ?_)))
  refine L.addN rfl rfl rfl (by omega) ?_
  refine L.move rfl rfl ?_
  refine L.nil ?_
  refine T.thenN ?_
  refine T.eqv qP (show J (r.1.take i ++ [x]) = J (r.1.take (i + 1)) from by rw [List.take_add_one, hgi]; rfl) ?_
  exact T.back ⟨i + 1, (by omega), rfl, rfl, rfl, rfl⟩ qI (.cons (t := 16) rfl <| SubK.nil _) (.cons (t := 0) rfl <| .cons (t := 4) rfl <| .cons (t := 14) rfl <| .cons (t := 15) rfl <| SubK.nil _) qD qD qF
 ·try simp only [dq] at h17
  obtain rfl : wn = i := by omega
  rw [List.take_of_length_le (by omega)]
  refine T.exit (T.thenX (T.thenX (T.blkX (T.thenN (T.seq (T.region ?_))))))
  refine L.move rfl rfl ?_
  refine L.call rfl (evs.cons rfl <| evs.nil) qD qS (cclose_spec (tt := tt) (p := r.2)) ?_
  rintro _ _ _ ⟨rfl, rfl, rfl⟩
  refine L.norm qA qA ?_
  refine L.move rfl rfl ?_
  refine L.extract rfl rfl rfl ?_
  refine L.extract rfl rfl rfl ?_
  refine L.assign rfl rfl ?_
  refine L.assign rfl rfl ?_
  refine L.nil ?_
  refine T.thenN (T.seq (T.region ?_))
  refine L.move rfl rfl ?_
  refine L.nil ?_
  refine T.thenN ?_
  refine T.cond rfl (fun h30 => ?_) (fun h30 => ?_)
  ·try simp only [dq] at h30
   have h30 : r.2 ≠ [] := by simpa using h30
   refine T.region ?_
   refine L.move rfl rfl ?_
   refine L.move rfl rfl ?_
   refine L.callY (M0 := [J r.1]) rfl rfl rfl (evs.cons rfl evs.nil) qD qS (hY r.1 r.2 (by rw [hch, List.length_append]; unfold lastC; rw [if_neg h30]; simp)) ?_
   rintro _ _ _ ⟨rfl, rfl, rfl⟩
   refine L.norm qA qA ?_
   refine L.nil ?_
   refine T.eqv qP (show J (r.1 ++ [r.2]) = J (chnF tt s) from by rw [hch]; unfold lastC; rw [if_neg h30]) ?_
   exact T.retN (by simp) rfl ⟨rfl, rfl, rfl⟩ qD qF
  ·try simp only [dq] at h30
   have h30 : r.2 = [] := by simpa using h30
   refine T.skip ?_
   refine T.eqv qP (show J r.1 = J (chnF tt s) from by rw [hch]; unfold lastC; rw [if_pos h30, List.append_nil]) ?_
   exact T.retN (by simp) rfl ⟨rfl, rfl, rfl⟩ qD qF
theorem all_iter {c1 c2 tb : Nat} {tt : List Int} {s : List UInt8} (hT : tt.length = 256) (hs : s.length ≤ 1000000) : Iter Tryz.prog 111 [.pointer (some ⟨c1, 0, none⟩), .pointer (some ⟨c2, 0, none⟩)] (fun x : List UInt8 => [S x]) (fun pre x => pre.length < (chnF tt s).length) (dall [cl c1 80 [.pointer (some ⟨tb, 0, none⟩)], cl c2 9 [S s], cl tb 139 (tt.map U)]) (all []) (all []) (fun xs => xs = chnF tt s) :=
 ⟨fun l ψ J hY => (allit_spec hY hT hs).imp (fun v D' M' ⟨_, h3, h4⟩ => ⟨_, rfl, h3, h4⟩)⟩
set_option maxHeartbeats 400000 in
theorem all_spec {tb : Nat} {tt : List Int} {s : List UInt8}  : Spec Tryz.prog 74 [.pointer (some ⟨tb, 0, none⟩), S s] [cl tb 139 (tt.map U)] [] (fun v D' M' => ∃ (c1 c2 : Nat), v = fnV 111 [.pointer (some ⟨c1, 0, none⟩), .pointer (some ⟨c2, 0, none⟩)] ∧ D' = [dall [cl c1 80 [.pointer (some ⟨tb, 0, none⟩)], cl c2 9 [S s], cl tb 139 (tt.map U)]] ∧ M' = []) := by
 refine Spec.intro (n := 6) Tryz.func74 rfl rfl (by decide) (Nat.le_of_ble_eq_true rfl) rfl (fun _ => qA) (fun _ => qA) ?_
 intro σ D M
 refine T.seq (T.region ?_)
 refine L.box rfl rfl rfl (fun b2 => ?_)
 refine L.box rfl rfl rfl (fun b3 => ?_)
 refine L.assign rfl rfl ?_
 refine L.nil ?_
 refine T.freeze (A := cl b2 80 [.pointer (some ⟨tb, 0, none⟩)]) qP ?_
 refine T.freeze (A := cl b3 9 [S s]) qP ?_
 refine T.thenN (T.seq (T.region ?_))
 refine L.makeFunc rfl (evs.cons rfl <| evs.cons rfl <| evs.nil) ?_
 refine L.assign rfl rfl ?_
 refine L.nil ?_
 refine T.packD (X := [cl b2 80 [.pointer (some ⟨tb, 0, none⟩)], cl b3 9 [S s], cl tb 139 (tt.map U)]) qD ?_
 refine T.thenN (T.ret ?_)
 exact T.ret1 rfl rfl ⟨b2, b3, rfl, rfl, rfl⟩ qD qF
set_option maxHeartbeats 400000 in
theorem cut2_spec {tb : Nat} {tt : List Int} {s : List UInt8} (hT : tt.length = 256) (hs : s.length ≤ 1000000) : Spec Tryz.prog 34 [.pointer (some ⟨tb, 0, none⟩), S s] [cl tb 139 (tt.map U)] [] (fun v D' M' => ∃ (a' : Option Addr) (n' c' : Nat), v = .slice a' n' c' ∧ ((chnF tt s).length = n') ∧ D' = [] ∧ M' = [own 1 9 a' n' c' ((chnF tt s).map ys)]) := by
 refine Spec.intro (n := 16) Tryz.func34 rfl rfl (by decide) (Nat.le_of_ble_eq_true rfl) rfl (fun _ => qA) (fun _ => qA) ?_
 intro σ D M
 refine T.seq (T.region ?_)
 refine L.assign rfl rfl ?_
 refine L.nil ?_
 refine T.thenN (T.seq (T.region ?_))
 refine L.alloc rfl ze25 (fun b5 => ?_)
 refine L.nil ?_
 refine T.newOwn (sz := 1) (e := 9) ?_
 refine T.eqv qP (show own 1 9 none 0 0 [] = own 1 9 none 0 0 ((([] : List (List UInt8))).map ys) from rfl) ?_
 refine T.emp ?_
 refine T.thenN (T.seq (T.seq (T.region ?_)))
 refine L.move rfl rfl ?_
 refine L.move rfl rfl ?_
 refine L.call rfl (evs.cons rfl <| evs.cons rfl <| evs.nil) qD qS (all_spec (tt := tt) (s := s)) ?_
 rintro _ _ _ ⟨c1, c2, rfl, rfl, rfl⟩
 refine L.norm qA qA ?_
 refine L.nil ?_
 refine T.thenN (T.block ?_)
 refine T.mkJ (J := (fun (pre : List (List UInt8)) => exs fun (a8 : Option Addr) => exs fun (n8 : Nat) => exs fun (c8 : Nat) => pur (pre.length = n8) (all [cl b5 25 [.slice a8 n8 c8], own 1 9 a8 n8 c8 ((pre).map ys)]) : List (List UInt8) → Asn) []) (L := (fun (pre : List (List UInt8)) (a8 : Option Addr) (n8 : Nat) (c8 : Nat) => ([cl b5 25 [.slice a8 n8 c8], own 1 9 a8 n8 c8 ((pre).map ys)] : List Asn)) [] (none) (0) (0)) qS (exs.in (none) (exs.in (0) (exs.in (0) (pur.in rfl (Ent.refl _))))) ?_
 refine T.rangeFunc (encs := fun x : List UInt8 => [S x]) (all_iter (c1 := c1) (c2 := c2) (tb := tb) hT hs) rfl qk (fun _ => rfl) (by decide) (fun x => [(10, S x)]) (fun _ => rfl) [] (fun (pre : List (List UInt8)) => exs fun (a8 : Option Addr) => exs fun (n8 : Nat) => exs fun (c8 : Nat) => pur (pre.length = n8) (all [cl b5 25 [.slice a8 n8 c8], own 1 9 a8 n8 c8 ((pre).map ys)]) : List (List UInt8) → Asn) (.cons (t := 5) rfl <| SubK.nil _) qD qD qS ?_ ?_
 ·intro σ1 l1 r1 pre x D1 M1 hok hr1
  refine T.norm2 qA qA ?_
  refine T.exs qP (fun a8 => ?_)
  refine T.exs qP (fun n8 => ?_)
  refine T.exs qP (fun c8 => ?_)
  refine T.pur qP (fun hJ => ?_)
  refine T.unfold _ qP rfl qA ?_
  have hlc := chnF_len (T := tt) (s := s)
  refine T.region ?_
  refine L.assign rfl rfl ?_
  refine L.nil ?_
  refine T.thenN ?_
  refine T.begin hr1.1 qP ?_
  refine T.block (T.region ?_)
  refine L.load rfl sc25 rfl qC ?_
  refine L.move rfl rfl ?_
  refine L.buildSlice rfl bs25 (by decide) (BP.one rfl rfl rfl <| BP.doneE (out := []) rfl) (fun b13 => ?_)
  refine L.append1 rfl Tryz.underlying25 el9 rfl rfl qP qM rfl qO1 qI qI (fun a14 c14 => ?_)
  refine L.store sc25 rfl rfl rfl qU qE ?_
  refine L.nil ?_
  refine T.blkN ?_
  refine T.ownEq _ ((pre ++ [x]).map ys) qP (by rw [List.map_append]; rfl) ?_
  refine T.mkJ (J := (fun (pre : List (List UInt8)) => exs fun (a8 : Option Addr) => exs fun (n8 : Nat) => exs fun (c8 : Nat) => pur (pre.length = n8) (all [cl b5 25 [.slice a8 n8 c8], own 1 9 a8 n8 c8 ((pre).map ys)]) : List (List UInt8) → Asn) (pre ++ [x])) (L := (fun (pre : List (List UInt8)) (a8 : Option Addr) (n8 : Nat) (c8 : Nat) => ([cl b5 25 [.slice a8 n8 c8], own 1 9 a8 n8 c8 ((pre).map ys)] : List Asn)) (pre ++ [x]) (_) (n8 + 1) (_)) qS (exs.in (_) (exs.in (n8 + 1) (exs.in (_) (pur.in (by rw [List.length_append, hJ]; rfl) (Ent.refl _))))) ?_
  exact T.roundEnd hr1 qP qD qF
 ·intro b1 xs hxs
  refine T.exs qP (fun a8 => ?_)
  refine T.exs qP (fun n8 => ?_)
  refine T.exs qP (fun c8 => ?_)
  refine T.pur qP (fun hJ => ?_)
  refine T.unfold _ qP rfl qA ?_
  subst hxs
  refine T.blkN (T.thenN (T.seq (T.region ?_)))
  refine L.load rfl sc25 rfl qC ?_
  refine L.assign rfl rfl ?_
  refine L.nil ?_
  refine T.thenN (T.ret ?_)
  refine T.unmark (.inl rfl) qP ?_
  exact T.ret1 rfl rfl ⟨_, _, _, rfl, hJ, rfl, rfl⟩ qD qF
end Cv
