/-
  The walks of New and at (bucket).
-/
import Derived.Test.YtlbhafbggelgkaaT19
import Derived.Test.YtlbhafbggelgkaaProg
import Derived.KernelRfl
set_option maxRecDepth 10000
set_option linter.unusedSimpArgs false
set_option linter.unusedVariables false
namespace Cv
open Go Go.Proofs
theorem zv57 : ∀ w, (zeroValue 57).run Try.prog w = .ok (Value.agg #[Value.int .i64 0, Value.int .u8 0, Value.int .u8 0, Value.int .u8 0, Value.int .u8 0, Value.int .u8 0, Value.int .u8 0, Value.int .u8 0, Value.int .u8 0, Value.int .u8 0, Value.int .u8 0, Value.int .u8 0, Value.int .u8 0, Value.int .u8 0, Value.int .u8 0, Value.int .u8 0, Value.int .u8 0, Value.int .u8 0, Value.int .u8 0, Value.int .u8 0, Value.int .u8 0, Value.int .u8 0, Value.int .u8 0, Value.int .u8 0, Value.int .u8 0, Value.int .u8 0, Value.int .u8 0, Value.int .u8 0, Value.int .u8 0, Value.int .u8 0, Value.int .u8 0, Value.int .u8 0, Value.int .u8 0, Value.map none]) w := fun w => by kernel_rfl
theorem bu57 : Bu Try.prog 57 (Value.int .i64 0 :: Value.int .u8 0 :: Value.int .u8 0 :: Value.int .u8 0 :: Value.int .u8 0 :: Value.int .u8 0 :: Value.int .u8 0 :: Value.int .u8 0 :: Value.int .u8 0 :: Value.int .u8 0 :: Value.int .u8 0 :: Value.int .u8 0 :: Value.int .u8 0 :: Value.int .u8 0 :: Value.int .u8 0 :: Value.int .u8 0 :: Value.int .u8 0 :: Value.int .u8 0 :: Value.int .u8 0 :: Value.int .u8 0 :: Value.int .u8 0 :: Value.int .u8 0 :: Value.int .u8 0 :: Value.int .u8 0 :: Value.int .u8 0 :: Value.int .u8 0 :: Value.int .u8 0 :: Value.int .u8 0 :: Value.int .u8 0 :: Value.int .u8 0 :: Value.int .u8 0 :: Value.int .u8 0 :: Value.int .u8 0 :: Value.map none :: []) (fun (i : Nat) => ([(0, 1), (1, 32), (33, 1)] : List (Nat × Nat))[i]?) := bu_of Try.underlying57 zv57 rfl (fun w => by kernel_rfl)
theorem kt3 : KeyT Try.prog 3 iK := keyT_int Try.underlying3
theorem zv58 : ∀ w, (zeroValue 58).run Try.prog w = .ok (Value.pointer none) w := fun w => by kernel_rfl
theorem fo57_1 : Fo Try.prog 57 1 1 := fun a w => by kernel_rfl
theorem fo57_2 : Fo Try.prog 57 2 33 := fun a w => by kernel_rfl
theorem sc55 : Sc Try.prog 55 := fun w => ⟨by kernel_rfl, by kernel_rfl⟩
theorem zv62 : ∀ w, (zeroValue 62).run Try.prog w = .ok (Value.agg #[Value.slice none 0 0, Value.int .i64 0]) w := fun w => by kernel_rfl
theorem bu62 : Bu Try.prog 62 [Value.slice none 0 0, Value.int .i64 0] (fun (i : Nat) => ([(0, 1), (1, 1)] : List (Nat × Nat))[i]?) := bu_of Try.underlying62 zv62 rfl (fun w => by kernel_rfl)
theorem hdr_len {o : Int} {mb : Nat} : (hdr o mb).length = 34 := by simp [hdr, idF_len]
theorem hdr_33 {o : Int} {mb : Nat} : (hdr o mb)[33]? = some (.map (some mb)) := by
  rw [hdr, List.getElem?_cons_succ, List.getElem?_append_right (by simp [idF_len])]; simp [idF_len]
set_option maxHeartbeats 400000 in
theorem bnew_spec {o : Int}  : Spec Try.prog 9 [.int .i64 o] [] [] (fun v D' M' => ∃ (b : Nat), v = .pointer (some ⟨b, 0, none⟩) ∧ D' = [] ∧ M' = [tblA b o (fun _ => zR19)]) := by
  refine Spec.intro (n := 9) Try.func9 rfl rfl (by decide) (Nat.le_of_ble_eq_true rfl) rfl (fun _ => qA) (fun _ => qA) ?_
  intro σ D M
  refine T.seq ?_
  refine T.region ?_
  refine L.assign rfl rfl ?_
  refine L.nil ?_
  refine T.thenN ?_
  refine T.seq ?_
  refine T.region ?_
  refine L.move rfl rfl ?_
  refine L.move rfl rfl ?_
  refine L.callF rfl (evs.cons rfl <| evs.nil) qD qS (bid_spec) (by rintro u D1 M1 ⟨rfl, rfl, rfl⟩; exact ⟨rfl, _, qA, qF⟩) ?_
  have h32 := idF_len o
  refine L.makeMap iK rV rfl (fun mb => ?_)
  refine L.build rfl bu57 (BP.one rfl rfl rfl <| BP.agg rfl rfl (by first | with_reducible assumption | (simp; done) | (simp only [List.length_map]; with_reducible assumption) | (simp [*]; done) | rfl) (Nat.le_of_ble_eq_true rfl) qR <| BP.one rfl rfl rfl <| BP.doneE (out := []) rfl) ?_
  refine L.box rfl rfl rfl (fun b8 => ?_)
  refine L.assign rfl rfl ?_
  refine L.nil ?_
  refine T.emp ?_
  refine T.eqv qP (show all [] = each rA [] from rfl) ?_
  refine T.tblShut (mb := mb) (ml := []) (o := o) (F := fun _ => zR19) (fun k => ⟨rfl, zR_ok⟩) qS ?_
  refine T.thenN ?_
  refine T.ret ?_
  exact T.ret1 rfl rfl ⟨_, rfl, rfl, rfl⟩ qD qF
set_option maxHeartbeats 400000 in
theorem tat_spec {b : Nat} {o n : Int} {F : Int → Row}  : Spec Try.prog 27 [.pointer (some ⟨b, 0, none⟩), .int .i64 n] [] [tblA b o F] (fun v D' M' => ∃ (blk : Nat) (a : Option Addr) (cap : Nat), v = .pointer (some ⟨blk, 0, none⟩) ∧ D' = [] ∧ M' = [rstA b o (rowF o n) blk F, cl blk 62 (rcells a cap (F (rowF o n))), rO a cap (F (rowF o n))]) := by
  refine Spec.intro (n := 33) Try.func27 rfl rfl (by decide) (Nat.le_of_ble_eq_true rfl) rfl (fun _ => qA) (fun _ => qA) ?_
  intro σ D M
  refine T.tblOpen qP (fun mb ml hF => ?_)
  have h32 := idF_len o
  have h34 := hdr_len (o := o) (mb := mb)
  refine T.seq ?_
  refine T.region ?_
  refine L.assign rfl rfl ?_
  refine L.nil ?_
  refine T.thenN ?_
  refine T.seq ?_
  refine T.regionQ (by kernel_rfl) (by kernel_rfl) ?_
  refine L.move rfl rfl ?_
  refine L.nilCheck rfl rfl ?_
  first | refine L.field0 rfl fo57_1 rfl ?_ | refine L.field rfl fo57_1 rfl ?_
  refine L.loadA rfl ag34 rfl qN ?_
  refine L.move rfl rfl ?_
  refine L.callF rfl (evs.cons rfl <| evs.nil) qD qS (bid_spec) (by rintro u D1 M1 ⟨rfl, rfl, rfl⟩; exact ⟨rfl, _, qA, qF⟩) ?_
  have h32n := idF_len n
  refine L.callF rfl (evs.cons rfl <| evs.cons rfl <| evs.nil) qD qS (shared_spec (x := idF o) (y := idF n) h32 h32n) (by rintro u D1 M1 ⟨rfl, rfl, rfl⟩; exact ⟨rfl, _, qA, qF⟩) ?_
  rw [show sharedF (idF o) (idF n) = rowF o n from rfl]
  obtain ⟨k, hk⟩ : ∃ k, rowF o n = k := ⟨_, rfl⟩
  rw [hk]
  refine L.assign rfl rfl ?_
  refine L.nilQ ?_
  refine T.thenN ?_
  refine T.seq ?_
  refine T.seq ?_
  refine T.region ?_
  refine L.move rfl rfl ?_
  refine L.nilCheck rfl rfl ?_
  first | refine L.field0 rfl fo57_2 rfl ?_ | refine L.field rfl fo57_2 rfl ?_
  refine L.load rfl sc55 rfl qC ?_
  refine L.move rfl rfl ?_
  rcases hl : look ml k with _ | ⟨blk, a, cap, r⟩
  · skip
    first | refine L.look1N rfl Try.underlying55 kt3 zv58 rfl rfl qM hl ?_ | refine L.look1S rfl Try.underlying55 kt3 zv58 rfl rfl qM hl ?_
    refine L.eqlPtr rfl Try.underlying58 rfl rfl ?_
    refine L.nil ?_
    refine T.thenN ?_
    refine T.condT rfl rfl ?_
    refine T.region ?_
    refine L.move rfl rfl ?_
    refine L.nilCheck rfl rfl ?_
    first | refine L.field0 rfl fo57_2 rfl ?_ | refine L.field rfl fo57_2 rfl ?_
    refine L.load rfl sc55 rfl qC ?_
    refine L.move rfl rfl ?_
    refine L.build rfl bu62 (BP.skip <| BP.one rfl rfl rfl <| BP.doneE (out := []) rfl) ?_
    refine L.box rfl rfl rfl (fun b26 => ?_)
    refine L.mapUpdate (v := (b26, none, 0, zR19)) Try.underlying55 kt3 rfl rfl rfl rfl qP ?_
    refine L.nil ?_
    refine T.newOwn (sz := 1) (e := 3) ?_
    refine T.eqv qP (show own 1 3 none 0 0 [] = rO none 0 zR19 from rfl) ?_
    refine T.eqv qP (show cl b26 62 [.slice none 0 0, .int .i64 (-1)] = cl b26 62 (rcells none 0 zR19) from rfl) ?_
    refine T.foldAs (rA (k, b26, none, 0, zR19)) (L := [cl b26 62 (rcells none 0 (zR19)), rO none 0 zR19]) (by repeat (first | exact Sel.nil | (apply Sel.cons; focus (repeat (first | with_reducible exact Pull.here | apply Pull.there))))) rfl ?_
    refine T.eachNew (b26, none, 0, zR19) hl qS ?_
    replace hF := fitR_new (blk := b26) (a := none) (cap := 0) hF hl
    have hl2 : look (put ml k (b26, none, 0, zR19)) k = some (b26, none, 0, zR19) := by rw [look_put, if_pos rfl]
    clear hl
    have hl := hl2
    refine T.thenN ?_
    refine T.seq ?_
    refine T.region ?_
    refine L.move rfl rfl ?_
    refine L.nilCheck rfl rfl ?_
    first | refine L.field0 rfl fo57_2 rfl ?_ | refine L.field rfl fo57_2 rfl ?_
    refine L.load rfl sc55 rfl qC ?_
    refine L.move rfl rfl ?_
    refine L.look1S rfl Try.underlying55 kt3 zv58 rfl rfl qM hl ?_
    refine L.assign rfl rfl ?_
    refine L.nil ?_
    refine T.tblAt hF hl qS (fun hm => ?_)
    subst hk
    refine T.thenN ?_
    refine T.ret ?_
    exact T.ret1 rfl rfl ⟨_, _, _, rfl, rfl, rfl⟩ qD qF
  · skip
    first | refine L.look1N rfl Try.underlying55 kt3 zv58 rfl rfl qM hl ?_ | refine L.look1S rfl Try.underlying55 kt3 zv58 rfl rfl qM hl ?_
    refine L.eqlPtr rfl Try.underlying58 rfl rfl ?_
    refine L.nil ?_
    refine T.thenN ?_
    refine T.condF rfl rfl ?_
    refine T.skip ?_
    refine T.thenN ?_
    refine T.seq ?_
    refine T.region ?_
    refine L.move rfl rfl ?_
    refine L.nilCheck rfl rfl ?_
    first | refine L.field0 rfl fo57_2 rfl ?_ | refine L.field rfl fo57_2 rfl ?_
    refine L.load rfl sc55 rfl qC ?_
    refine L.move rfl rfl ?_
    refine L.look1S rfl Try.underlying55 kt3 zv58 rfl rfl qM hl ?_
    refine L.assign rfl rfl ?_
    refine L.nil ?_
    refine T.tblAt hF hl qS (fun hm => ?_)
    subst hk
    refine T.thenN ?_
    refine T.ret ?_
    exact T.ret1 rfl rfl ⟨_, _, _, rfl, rfl, rfl⟩ qD qF
end Cv
