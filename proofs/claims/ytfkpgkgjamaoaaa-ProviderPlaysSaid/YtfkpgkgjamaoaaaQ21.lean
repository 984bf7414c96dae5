/-
  The walks: ranges over maps.Keys.
-/
import Derived.Test.YtfkpgkgjamaoaaaSo21
import Derived.Test.YtfkpgkgjamaoaaaCvLd
import Derived.Test.YtfkpgkgjamaoaaaCvLc
import Derived.Test.YtfkpgkgjamaoaaaProg
import Derived.KernelRfl
set_option linter.unusedVariables false
set_option linter.unusedSimpArgs false
set_option linter.unusedSectionVars false
set_option maxRecDepth 10000
namespace Cv
open Go Go.Proofs
theorem sc32 : Sc Try.prog 32 := fun w => ⟨by kernel_rfl, by kernel_rfl⟩
theorem sc29 : Sc Try.prog 29 := fun w => ⟨by kernel_rfl, by kernel_rfl⟩
theorem bs29 : Bs Try.prog 29 3 1 [Value.int .i64 0] := bs_of Try.underlying29 (fun w => by kernel_rfl) zv3 rfl rfl (by decide)
theorem el3 : El Try.prog 3 1 8 := ⟨_, _, rfl, rfl, by kernel_rfl, by kernel_rfl, by kernel_rfl⟩
set_option maxHeartbeats 400000 in
theorem keysit_spec {lh : List (Int × Int)} {m c l : Nat} {ψ : Asn} {J : List Int → Asn} (hY : ∀ pre x, (pre.length < lh.length ∧ x ∈ lh.map Prod.fst) → YSpec Try.prog l [.int .i64 x] [ψ] [J pre] (fun v D' M' => v = .bool true ∧ D' = [] ∧ M' = [J (pre ++ [x])])) : Spec Try.prog 32 [fnY l, .pointer (some ⟨c, 0, none⟩)] [cl c 32 [.map (some m)], ψ] [mp m iK iK lh, J []] (fun v D' M' => ∃ (xs : List Int), v = .tuple #[] ∧ (xs.Perm (lh.map Prod.fst)) ∧ D' = [] ∧ M' = [mp m iK iK lh, J xs]) := by
  refine Spec.intro (n := 14) Try.func32 rfl rfl (by decide) (Nat.le_of_ble_eq_true rfl) rfl (fun _ => qA) (fun _ => qA) ?_
  intro σ D M
  refine T.mpNodup (kenc := iK) (venc := iK) qM (fun hnd => ?_)
  refine T.seq ?_
  refine T.region ?_
  refine L.load rfl sc32 rfl qC ?_
  refine L.range rfl Try.underlying32 rfl qP (fun it => ?_)
  refine L.nil ?_
  refine T.thenN ?_
  refine T.block ?_
  refine T.loop (fun K' D' M' μ => ∃ (pre rest : List Int) (cur : Option Int), ((pre ++ rest).Perm (lh.map Prod.fst)) ∧ K' = [] ∧ D' = [] ∧ M' = [mpi m it iK iK lh rest cur, J pre] ∧ μ = rest.length) (.cons (t := 0) rfl <| .cons (t := 5) rfl <| SubK.nil _) (⟨[], lh.map Prod.fst, none, (List.Perm.refl _), rfl, rfl, rfl, rfl⟩) (SubK.nil _) qD qS ?_
  rintro K1 D1 M1 m1 ⟨pre, rest, cur, hP, rfl, rfl, rfl, rfl⟩
  refine T.norm3 qA qA qA ?_
  refine T.seq ?_
  refine T.region ?_
  refine L.next rfl rfl qP (fun hre => ?_) (fun k v rs hpe hkv => ?_)
  · skip
    skip
    refine L.extract rfl rfl rfl ?_
    refine L.nil ?_
    refine T.thenN ?_
    refine T.seq ?_
    refine T.condF rfl rfl ?_
    refine T.exit ?_
    refine T.thenX ?_
    refine T.thenX ?_
    refine T.blkX ?_
    subst hre
    refine T.mpiMp qP ?_
    exact T.retN (by simp) rfl ⟨pre, rfl, by simpa using hP, rfl, rfl⟩ qD qF
  · skip
    skip
    refine L.extract rfl rfl rfl ?_
    refine L.nil ?_
    refine T.thenN ?_
    refine T.seq ?_
    refine T.condT rfl rfl ?_
    refine T.skip ?_
    refine T.thenN ?_
    refine T.block ?_
    refine T.seq ?_
    refine T.region ?_
    refine L.entry (ent_inj iK_inj hnd hkv) rfl rfl qM hkv ?_
    refine L.extract rfl rfl rfl ?_
    refine L.assign rfl rfl ?_
    refine L.nil ?_
    have hlt : pre.length < lh.length := by have h1 := hP.length_eq; have h2 := hpe.length_eq; simp only [List.length_append, List.length_map, List.length_cons] at h1 h2; omega
    have hkm : k ∈ lh.map Prod.fst := List.mem_map.2 ⟨_, hkv, rfl⟩
    refine T.thenN ?_
    refine T.seq ?_
    refine T.region ?_
    refine L.move rfl rfl ?_
    refine L.move rfl rfl ?_
    refine L.callY (M0 := [J pre]) rfl rfl rfl (evs.cons rfl evs.nil) qD qS (hY pre k ⟨hlt, hkm⟩) ?_
    rintro _ _ _ ⟨rfl, rfl, rfl⟩
    refine L.norm qA qA ?_
    refine L.notB rfl rfl ?_
    refine L.nil ?_
    refine T.thenN ?_
    refine T.condF rfl rfl ?_
    refine T.skip ?_
    refine T.blkN ?_
    refine T.thenN ?_
    exact T.back ⟨pre ++ [k], rs, some k, (by rw [List.append_assoc]; exact (hpe.symm.append_left pre).trans hP), rfl, rfl, rfl, rfl⟩ (by have := hpe.length_eq; simp at this; omega) (SubK.nil _) (.cons (t := 0) rfl <| .cons (t := 5) rfl <| SubK.nil _) qD qD qF
theorem keys_iter {lh : List (Int × Int)} {m c : Nat} : Iter Try.prog 32 [.pointer (some ⟨c, 0, none⟩)] (fun x : Int => [.int .i64 x]) (fun pre x => pre.length < lh.length ∧ x ∈ lh.map Prod.fst) (cl c 32 [.map (some m)]) (mp m iK iK lh) (mp m iK iK lh) (fun xs => xs.Perm (lh.map Prod.fst)) :=
  ⟨fun l ψ J hY => (keysit_spec hY).imp (fun v D' M' ⟨xs, _, h2, h3, h4⟩ => ⟨xs, h2, h3, h4⟩)⟩
set_option maxHeartbeats 400000 in
theorem keys_spec {m : Nat}  : Spec Try.prog 22 [.map (some m)] [] [] (fun v D' M' => ∃ (c : Nat), v = fnV 32 [.pointer (some ⟨c, 0, none⟩)] ∧ D' = [cl c 32 [.map (some m)]] ∧ M' = []) := by
  refine Spec.intro (n := 4) Try.func22 rfl rfl (by decide) (Nat.le_of_ble_eq_true rfl) rfl (fun _ => qA) (fun _ => qA) ?_
  intro σ D M
  refine T.seq ?_
  refine T.region ?_
  refine L.box rfl rfl rfl (fun b1 => ?_)
  refine L.assign rfl rfl ?_
  refine L.nil ?_
  refine T.freeze (A := cl b1 32 [.map (some m)]) qP ?_
  refine T.thenN ?_
  refine T.seq ?_
  refine T.region ?_
  refine L.makeFunc rfl (evs.cons rfl <| evs.nil) ?_
  refine L.assign rfl rfl ?_
  refine L.nil ?_
  refine T.thenN ?_
  refine T.ret ?_
  exact T.ret1 rfl rfl ⟨_, rfl, rfl, rfl⟩ qD qF
set_option maxHeartbeats 400000 in
theorem appseq_spec {f : FuncId} {lb : List Value} {Ok : List Int → Int → Prop} {φ A0 A1 : Asn} {SS : List Int → Prop}  (hI : Iter Try.prog f lb (fun x : Int => [.int .i64 x]) Ok φ A0 A1 SS) (hOk : ∀ pre x, Ok pre x → pre.length < 1000000000) : Spec Try.prog 37 [.slice none 0 0, fnV f lb] [φ] [A0] (fun v D' M' => ∃ (a' : Option Addr) (n' c' : Nat) (xs : List Int), v = .slice a' n' c' ∧ (SS xs) ∧ (xs.length = n') ∧ D' = [] ∧ M' = [A1, own 1 3 a' n' c' ((xs).map e3)]) := by
  refine Spec.intro (n := 13) Try.func37 rfl rfl (by decide) (Nat.le_of_ble_eq_true rfl) rfl (fun _ => qA) (fun _ => qA) ?_
  intro σ D M
  refine T.seq ?_
  refine T.region ?_
  refine L.box rfl rfl rfl (fun b2 => ?_)
  refine L.assign rfl rfl ?_
  refine L.nil ?_
  refine T.newOwn (sz := 1) (e := 3) ?_
  refine T.thenN ?_
  refine T.seq ?_
  refine T.seq ?_
  refine T.region ?_
  refine L.move rfl rfl ?_
  refine L.nil ?_
  refine T.thenN ?_
  refine T.block ?_
  refine T.mkJ (J := (fun (pre : List (Int)) => exs fun (a8 : Option Addr) => exs fun (n8 : Nat) => exs fun (c8 : Nat) => pur (pre.length = n8) (all [cl b2 29 [.slice a8 n8 c8], own 1 3 a8 n8 c8 ((pre).map e3)]) : List (Int) → Asn) []) (L := (fun (pre : List (Int)) (a8 : Option Addr) (n8 : Nat) (c8 : Nat) => ([cl b2 29 [.slice a8 n8 c8], own 1 3 a8 n8 c8 ((pre).map e3)] : List Asn)) [] (none) (0) (0)) qS (exs.in (none) (exs.in (0) (exs.in (0) (pur.in rfl (Ent.refl _))))) ?_
  refine T.rangeFunc (encs := fun x : Int => [.int .i64 x]) (hI) rfl (by kernel_rfl) (fun _ => rfl) (by decide) (fun x => [(7, .int .i64 x)]) (fun _ => rfl) [] (fun (pre : List (Int)) => exs fun (a8 : Option Addr) => exs fun (n8 : Nat) => exs fun (c8 : Nat) => pur (pre.length = n8) (all [cl b2 29 [.slice a8 n8 c8], own 1 3 a8 n8 c8 ((pre).map e3)]) : List (Int) → Asn) (.cons (t := 2) rfl <| SubK.nil _) qD qD qS ?_ ?_
  · intro σ1 l1 r1 pre x D1 M1 hok hr1
    refine T.norm2 qA qA ?_
    refine T.exs qP (fun a8 => ?_)
    refine T.exs qP (fun n8 => ?_)
    refine T.exs qP (fun c8 => ?_)
    refine T.pur qP (fun hJ => ?_)
    refine T.unfold _ qP rfl qA ?_
    have hol := hOk pre x hok
    refine T.region ?_
    refine L.assign rfl rfl ?_
    refine L.nil ?_
    refine T.thenN ?_
    refine T.begin hr1.1 qP ?_
    refine T.block ?_
    refine T.region ?_
    refine L.load rfl sc29 rfl qC ?_
    refine L.move rfl rfl ?_
    refine L.buildSlice rfl bs29 (by decide) (BP.one rfl rfl rfl <| BP.doneE (out := []) rfl) (fun b10 => ?_)
    refine L.append1 rfl Try.underlying29 el3 rfl rfl qP qM rfl qO1 qI qI (fun a11 c11 => ?_)
    refine L.store sc29 rfl rfl rfl qU qE ?_
    refine L.nil ?_
    refine T.blkN ?_
    refine T.ownEq _ ((pre ++ [x]).map e3) qP (by rw [List.map_append]; rfl) ?_
    refine T.mkJ (J := (fun (pre : List (Int)) => exs fun (a8 : Option Addr) => exs fun (n8 : Nat) => exs fun (c8 : Nat) => pur (pre.length = n8) (all [cl b2 29 [.slice a8 n8 c8], own 1 3 a8 n8 c8 ((pre).map e3)]) : List (Int) → Asn) (pre ++ [x])) (L := (fun (pre : List (Int)) (a8 : Option Addr) (n8 : Nat) (c8 : Nat) => ([cl b2 29 [.slice a8 n8 c8], own 1 3 a8 n8 c8 ((pre).map e3)] : List Asn)) (pre ++ [x]) (_) (n8 + 1) (_)) qS (exs.in (_) (exs.in (n8 + 1) (exs.in (_) (pur.in (by rw [List.length_append, hJ]; rfl) (Ent.refl _))))) ?_
    exact T.roundEnd hr1 qP qD qF
  · intro b1 xs hxs
    refine T.exs qP (fun a8 => ?_)
    refine T.exs qP (fun n8 => ?_)
    refine T.exs qP (fun c8 => ?_)
    refine T.pur qP (fun hJ => ?_)
    refine T.unfold _ qP rfl qA ?_
    refine T.blkN ?_
    refine T.thenN ?_
    refine T.seq ?_
    refine T.region ?_
    refine L.load rfl sc29 rfl qC ?_
    refine L.assign rfl rfl ?_
    refine L.nil ?_
    refine T.thenN ?_
    refine T.ret ?_
    refine T.unmark (.inl rfl) qP ?_
    exact T.ret1 rfl rfl ⟨_, _, _, xs, rfl, hxs, hJ, rfl, rfl⟩ qD qF
set_option maxHeartbeats 400000 in
theorem collect_spec {f : FuncId} {lb : List Value} {Ok : List Int → Int → Prop} {φ A0 A1 : Asn} {SS : List Int → Prop}  (hI : Iter Try.prog f lb (fun x : Int => [.int .i64 x]) Ok φ A0 A1 SS) (hOk : ∀ pre x, Ok pre x → pre.length < 1000000000) : Spec Try.prog 30 [fnV f lb] [φ] [A0] (fun v D' M' => ∃ (a' : Option Addr) (n' c' : Nat) (xs : List Int), v = .slice a' n' c' ∧ (SS xs) ∧ (xs.length = n') ∧ D' = [] ∧ M' = [A1, own 1 3 a' n' c' ((xs).map e3)]) := by
  refine Spec.intro (n := 5) Try.func30 rfl rfl (by decide) (Nat.le_of_ble_eq_true rfl) rfl (fun _ => qA) (fun _ => qA) ?_
  intro σ D M
  refine T.seq ?_
  refine T.region ?_
  refine L.assign rfl rfl ?_
  refine L.nil ?_
  refine T.thenN ?_
  refine T.seq ?_
  refine T.region ?_
  refine L.move rfl rfl ?_
  refine L.call rfl (evs.cons rfl <| evs.cons rfl <| evs.nil) qD qS (appseq_spec hI hOk) ?_
  rintro _ _ _ ⟨sa, sn, sc, xs, rfl, hxs, hxl, rfl, rfl⟩
  refine L.norm qA qA ?_
  refine L.assign rfl rfl ?_
  refine L.nil ?_
  refine T.thenN ?_
  refine T.ret ?_
  exact T.ret1 rfl rfl ⟨_, _, _, xs, rfl, hxs, hxl, rfl, rfl⟩ qD qF
set_option maxHeartbeats 400000 in
theorem sorted_spec {f : FuncId} {lb : List Value} {Ok : List Int → Int → Prop} {φ A0 A1 : Asn} {SS : List Int → Prop}  (hI : Iter Try.prog f lb (fun x : Int => [.int .i64 x]) Ok φ A0 A1 SS) (hOk : ∀ pre x, Ok pre x → pre.length < 1000000000) (hSl : ∀ xs, SS xs → xs.length < 1000000000) : Spec Try.prog 21 [fnV f lb] [φ] [A0] (fun v D' M' => ∃ (a' : Option Addr) (n' c' : Nat) (xs : List Int), v = .slice a' n' c' ∧ (SS xs) ∧ (xs.length = n') ∧ D' = [] ∧ M' = [A1, own 1 3 a' n' c' ((xs.mergeSort fun x y => decide (x ≤ y)).map e3)]) := by
  refine Spec.intro (n := 9) Try.func21 rfl rfl (by decide) (Nat.le_of_ble_eq_true rfl) rfl (fun _ => qA) (fun _ => qA) ?_
  intro σ D M
  refine T.seq ?_
  refine T.region ?_
  refine L.assign rfl rfl ?_
  refine L.nil ?_
  refine T.thenN ?_
  refine T.seq ?_
  refine T.region ?_
  refine L.move rfl rfl ?_
  refine L.call rfl (evs.cons rfl <| evs.nil) qD qS (collect_spec hI hOk) ?_
  rintro _ _ _ ⟨sa, sn, sc, xs, rfl, hxs, hxl, rfl, rfl⟩
  refine L.norm qA qA ?_
  have hsl := hSl xs hxs
  refine L.assign rfl rfl ?_
  refine L.nil ?_
  refine T.thenN ?_
  refine T.seq ?_
  refine T.region ?_
  refine L.move rfl rfl ?_
  refine L.call rfl (evs.cons rfl <| evs.nil) qD qS (sort_spec (by omega)) ?_
  rintro _ _ _ ⟨rfl, rfl, rfl⟩
  refine L.norm qA qA ?_
  refine L.nil ?_
  refine T.thenN ?_
  refine T.seq ?_
  refine T.region ?_
  refine L.move rfl rfl ?_
  refine L.assign rfl rfl ?_
  refine L.nil ?_
  refine T.thenN ?_
  refine T.ret ?_
  exact T.ret1 rfl rfl ⟨_, _, _, xs, rfl, hxs, hxl, rfl, rfl⟩ qD qF
end Cv
