/-
  The walks of quota and of the laws over it.
-/
import Derived.Test.YthpjmpbakhmlnaaCvMap
import Derived.Test.YthpjmpbakhmlnaaCvArith
import Derived.Test.YthpjmpbakhmlnaaProg
import Derived.KernelRfl
set_option maxRecDepth 10000
set_option linter.unusedSimpArgs false
set_option linter.unusedVariables false
namespace Cv
open Go Go.Proofs
theorem zv24 : ∀ w, (zeroValue 24).run Try.prog w = .ok (Value.agg #[Value.int .i64 0, Value.int .i64 0]) w := fun w => by kernel_rfl
theorem ze24 : Ze Try.prog 24 [Value.int .i64 0, Value.int .i64 0] := ⟨_, rfl, zv24⟩
theorem bu24 : Bu Try.prog 24 [Value.int .i64 0, Value.int .i64 0] (fun (i : Nat) => ([(0, 1), (1, 1)] : List (Nat × Nat))[i]?) := bu_of Try.underlying24 zv24 rfl (fun w => by kernel_rfl)
theorem ag24 : Ag Try.prog 24 2 := fun w => ⟨by kernel_rfl, by kernel_rfl⟩
theorem kt3 : KeyT Try.prog 3 iK := keyT_int Try.underlying3
theorem zv48 : ∀ w, (zeroValue 48).run Try.prog w = .ok (Value.agg #[Value.int .i64 0, Value.int .i64 0]) w := fun w => by kernel_rfl
theorem fo46_1 : Fo Try.prog 46 1 2 := fun a w => by kernel_rfl
theorem sc44 : Sc Try.prog 44 := fun w => ⟨by kernel_rfl, by kernel_rfl⟩
theorem ze48 : Ze Try.prog 48 [Value.int .i64 0, Value.int .i64 0] := ⟨_, rfl, zv48⟩
theorem ag48 : Ag Try.prog 48 2 := fun w => ⟨by kernel_rfl, by kernel_rfl⟩
theorem fo46_0 : Fo Try.prog 46 0 0 := fun a w => by kernel_rfl
theorem fo24_1 : Fo Try.prog 24 1 1 := fun a w => by kernel_rfl
theorem sc3 : Sc Try.prog 3 := fun w => ⟨by kernel_rfl, by kernel_rfl⟩
theorem fo48_1 : Fo Try.prog 48 1 1 := fun a w => by kernel_rfl
theorem fo48_0 : Fo Try.prog 48 0 0 := fun a w => by kernel_rfl
theorem fo24_0 : Fo Try.prog 24 0 0 := fun a w => by kernel_rfl
theorem bu48 : Bu Try.prog 48 [Value.int .i64 0, Value.int .i64 0] (fun (i : Nat) => ([(0, 1), (1, 1)] : List (Nat × Nat))[i]?) := bu_of Try.underlying48 zv48 rfl (fun w => by kernel_rfl)
theorem zv46 : ∀ w, (zeroValue 46).run Try.prog w = .ok (Value.agg #[Value.int .i64 0, Value.int .i64 0, Value.map none]) w := fun w => by kernel_rfl
theorem bu46 : Bu Try.prog 46 [Value.int .i64 0, Value.int .i64 0, Value.map none] (fun (i : Nat) => ([(0, 2), (2, 1)] : List (Nat × Nat))[i]?) := bu_of Try.underlying46 zv46 rfl (fun w => by kernel_rfl)
theorem tmod_bd (x : Int) : -100000 < x.tmod 100000 ∧ x.tmod 100000 < 100000 := by
  have h1 := Int.tmod_lt_of_pos x (b := 100000) (by decide)
  have h2 := Int.lt_tmod_of_pos x (b := 100000) (by decide)
  omega
theorem tick_eq (x : Int) : (x.tmod 100000 + 100000) % 100000 = x % 100000 := by
  have := Int.tmod_eq_emod (a := x) (b := 100000)
  split at this <;> omega
theorem mul_bd {x y : Int} (h1 : 0 ≤ x) (h2 : x ≤ 1048576) (h3 : 0 ≤ y) (h4 : y ≤ 1048576) : 0 ≤ x * y ∧ x * y ≤ 1099511627776 :=
  ⟨Int.mul_nonneg h1 h3, by have := Int.mul_le_mul h2 h4 h3 (by decide : (0:Int) ≤ 1048576); omega⟩
def shV : Int × Int → Value | (h, a) => .agg #[.int .i64 h, .int .i64 a]
def QInv (each most : Int) (l : List (Int × Int × Int)) : Prop := (1 ≤ each ∧ each ≤ most ∧ most ≤ 1048576) ∧ ∀ n h a, look l n = some (h, a) → 0 ≤ h ∧ h ≤ most ∧ 0 ≤ a ∧ a ≤ 2199023255552
def hasF (each most : Int) (l : List (Int × Int × Int)) (n now : Int) : Int :=
  match look l n with
  | none => most
  | some (h, a) => min (h + min (max (now - a) 0) most * each) most
theorem qinv_nil {E Mo : Int} (h : 1 ≤ E ∧ E ≤ Mo ∧ Mo ≤ 1048576) : QInv E Mo [] := ⟨h, fun _ _ _ e => by cases e⟩
theorem qinv_one {E Mo t : Int} (h : 1 ≤ E ∧ E ≤ Mo ∧ Mo ≤ 1048576) (ht : 0 ≤ t ∧ t ≤ 2199023255552) : QInv E Mo [(1, (0, t))] := ⟨h, fun n hv a e => by
  simp only [look] at e
  split at e
  · simp at e; omega
  · cases e⟩
def takeB (each most : Int) (l : List (Int × Int × Int)) (n cost now : Int) : Bool := !(decide (cost < 0) || decide (hasF each most l n now < cost))
def takeL (each most : Int) (l : List (Int × Int × Int)) (n cost now : Int) : List (Int × Int × Int) :=
  if takeB each most l n cost now then put l n (hasF each most l n now - cost, match look l n with | none => now | some (_, a) => max now a) else l
section
variable {each most n cost now : Int} {l : List (Int × Int × Int)}
theorem takeB_no (h : cost < 0 ∨ hasF each most l n now < cost) : takeB each most l n cost now = false := by
  unfold takeB; rcases h with h | h <;> simp [h]
theorem takeB_yes (h : 0 ≤ cost) (k : cost ≤ hasF each most l n now) : takeB each most l n cost now = true := by
  unfold takeB; simp; omega
theorem takeL_no (h : cost < 0 ∨ hasF each most l n now < cost) : takeL each most l n cost now = l := by
  unfold takeL; rw [takeB_no h]; rfl
theorem takeL_N (h : 0 ≤ cost) (k : cost ≤ hasF each most l n now) (e : look l n = none) : takeL each most l n cost now = put l n (hasF each most l n now - cost, now) := by
  unfold takeL; rw [takeB_yes h k, e]; rfl
theorem takeL_S {hv a : Int} (h : 0 ≤ cost) (k : cost ≤ hasF each most l n now) (e : look l n = some (hv, a)) : takeL each most l n cost now = put l n (hasF each most l n now - cost, max now a) := by
  unfold takeL; rw [takeB_yes h k, e]; rfl
theorem hasF_bd (h : QInv each most l) (h1 : 0 ≤ now) : 0 ≤ hasF each most l n now ∧ hasF each most l n now ≤ most := by
  have q1 := h.1
  unfold hasF
  cases e : look l n with
  | none => simp; omega
  | some p =>
    obtain ⟨hv, a⟩ := p
    have q2 := h.2 n hv a e
    have hm := mul_bd (x := min (max (now - a) 0) most) (y := each) (by omega) (by omega) (by omega) (by omega)
    simp only
    omega
theorem qinv_take (h : QInv each most l) (h1 : 0 ≤ now) (h2 : now ≤ 2199023255552) : QInv each most (takeL each most l n cost now) := by
  have q3 := hasF_bd (n := n) (now := now) h h1
  unfold takeL
  split
  · rename_i hb
    have hc : 0 ≤ cost ∧ cost ≤ hasF each most l n now := by unfold takeB at hb; simp at hb; omega
    refine ⟨h.1, fun n' hv a e => ?_⟩
    rw [look_put] at e
    split at e
    · simp only [Option.some.injEq, Prod.mk.injEq] at e
      obtain ⟨e1, e2⟩ := e
      cases e3 : look l n with
      | none => simp only [e3] at e2; omega
      | some p =>
        obtain ⟨hv2, a2⟩ := p
        have := h.2 n hv2 a2 e3
        simp only [e3] at e2; omega
    · exact h.2 n' hv a e
  · exact h
end
section
variable {E Mo t k : Int}
theorem full1b (h : 1 ≤ E) (k : E ≤ Mo) : takeB E Mo [] 1 Mo t = true := takeB_yes (by omega) (by simp [hasF, look])
theorem full1 (h : 1 ≤ E) (k : E ≤ Mo) : takeL E Mo [] 1 Mo t = [(1, (0, t))] := by rw [takeL_N (by omega) (by simp [hasF, look]) rfl]; simp [put, hasF, look]
theorem has1 (u : Int) : hasF E Mo [(1, (0, t))] 1 u = min (0 + min (max (u - t) 0) Mo * E) Mo := by simp [hasF, look]
theorem has1_0 (h : 0 ≤ Mo) : hasF E Mo [(1, (0, t))] 1 t = 0 := by
  rw [has1, show min (max (t - t) 0) Mo = 0 from by omega]; omega
theorem full2b (h : 1 ≤ E) (k : E ≤ Mo) : takeB E Mo [(1, (0, t))] 1 1 t = false := takeB_no (.inr (by rw [has1_0 (by omega)]; decide))
theorem full2 (h : 1 ≤ E) (k : E ≤ Mo) : takeL E Mo [(1, (0, t))] 1 1 t = [(1, (0, t))] := takeL_no (.inr (by rw [has1_0 (by omega)]; decide))
theorem full3 (h : 0 ≤ Mo) : decide (hasF E Mo [(1, (0, t))] 1 t ≠ 0) = false := by rw [has1_0 h]; rfl
def FullK (E Mo t k : Int) : Prop := 1 ≤ k ∧ k ≤ Mo ∧ (0 ≤ (k - 1) * E ∧ (k - 1) * E ≤ 275) ∧ Mo ≤ k * E ∧ 1 ≤ E ∧ E ≤ Mo ∧ 0 ≤ t
theorem full_k (h1 : 1 ≤ E) (h2 : E ≤ Mo) (h3 : Mo ≤ 275) (h4 : 0 ≤ t) : FullK E Mo t ((Mo + E - 1) / E) := by
  have e1 := Int.mul_ediv_add_emod (Mo + E - 1) E
  have e2 := Int.emod_nonneg (Mo + E - 1) (show E ≠ 0 by omega)
  have e3 := Int.emod_lt_of_pos (Mo + E - 1) (show 0 < E by omega)
  generalize (Mo + E - 1) / E = k at *
  have hk : 1 ≤ k := by
    rcases Int.lt_or_le k 1 with h | h
    · have := Int.mul_le_mul_of_nonneg_left (show k ≤ 0 by omega) (show 0 ≤ E by omega)
      omega
    · exact h
  have e4 : (k - 1) * E = E * k - E := by rw [Int.sub_mul, Int.mul_comm]; omega
  have e5 : k * E = E * k := Int.mul_comm _ _
  have e6 : 0 ≤ (k - 1) * (E - 1) := Int.mul_nonneg (by omega) (by omega)
  have e7 : (k - 1) * (E - 1) = (k - 1) * E - (k - 1) := by rw [Int.mul_sub]; omega
  refine ⟨hk, ?_, ⟨?_, ?_⟩, ?_, h1, h2, h4⟩ <;> omega
theorem full4 (h : FullK E Mo t k) : decide (hasF E Mo [(1, (0, t))] 1 (t + k) = Mo) = true := by
  obtain ⟨a, b, c, d, e, f, g⟩ := h
  rw [has1, show min (max (t + k - t) 0) Mo = k from by omega]
  exact decide_eq_true (by omega)
theorem full5 (h : FullK E Mo t k) : decide (hasF E Mo [(1, (0, t))] 1 (t + k - 1) = min ((k - 1) * E) Mo) = true := by
  obtain ⟨a, b, c, d, e, f, g⟩ := h
  rw [has1, show min (max (t + k - 1 - t) 0) Mo = k - 1 from by omega]
  exact decide_eq_true (by omega)
theorem full6 (h : FullK E Mo t k) : decide (hasF E Mo [(1, (0, t))] 1 (t + 9 * k) = Mo) = true := by
  obtain ⟨a, b, c, d, e, f, g⟩ := h
  rw [has1]
  refine decide_eq_true ?_
  have h1 : k ≤ min (max (t + 9 * k - t) 0) Mo := by omega
  have := Int.mul_le_mul_of_nonneg_right h1 (show 0 ≤ E by omega)
  omega
theorem full7 (h : FullK E Mo t k) : decide (hasF E Mo [(1, (0, t))] 1 (max (t - 1) 0) = 0) = true := by
  obtain ⟨a, b, c, d, e, f, g⟩ := h
  rw [has1, show min (max (max (t - 1) 0 - t) 0) Mo = 0 from by omega]
  exact decide_eq_true (by omega)
end
theorem qinv_awake (l : List (Int × Int × Int)) (h : l.all (fun p => decide (0 ≤ p.2.1 ∧ p.2.1 ≤ 5 ∧ 0 ≤ p.2.2 ∧ p.2.2 ≤ 2199023255552)) = true) : QInv 2 5 l := by
  refine ⟨by decide, fun n hv a e => ?_⟩
  have := List.all_eq_true.1 h _ (mem_of_look e)
  simpa using this
theorem rate_spec (each most : Int) : Spec Try.prog 8 [.int .i64 each, .int .i64 most] [] [] (fun v D' M' => ∃ E Mo : Int, 1 ≤ E ∧ E ≤ 20 ∧ E ≤ Mo ∧ Mo ≤ 275 ∧ v = .agg #[.int .i64 E, .int .i64 Mo] ∧ D' = [] ∧ M' = []) := by
  refine Spec.intro (n := 15) Try.func8 rfl rfl (by decide) (Nat.le_of_ble_eq_true rfl) rfl (fun _ => (by repeat (first | with_reducible exact AppL.nil | apply AppL.cons))) (fun _ => (by repeat (first | with_reducible exact AppL.nil | apply AppL.cons))) ?_
  intro σ D M
  refine T.seq ?_
  refine T.region ?_
  refine L.alloc rfl ze24 (fun b1 => ?_)
  refine L.nil ?_
  refine T.thenN ?_
  refine T.seq ?_
  refine T.region ?_
  refine L.move rfl rfl ?_
  refine L.andM rfl rfl rfl (k := 8) (by decide) (by decide) ?_
  refine L.remN rfl rfl rfl (by omega) ?_
  refine L.addN rfl rfl rfl (by omega) ?_
  refine L.assign rfl rfl ?_
  refine L.nil ?_
  refine T.thenN ?_
  refine T.seq ?_
  refine T.region ?_
  refine L.move rfl rfl ?_
  refine L.move rfl rfl ?_
  refine L.move rfl rfl ?_
  refine L.andM rfl rfl rfl (k := 8) (by decide) (by decide) ?_
  refine L.addN rfl rfl rfl (by omega) ?_
  refine L.build rfl bu24 (BP.one rfl rfl rfl <| BP.one rfl rfl rfl <| BP.done) ?_
  refine L.storeA ag24 rfl rfl rfl (by repeat (first | exact One.nil | refine One.cons rfl ?_ | assumption)) (by repeat (first | with_reducible exact Upd.here | apply Upd.there)) (by repeat (first | exact SetAt.here | exact SetAt.none | exact SetAt.whole rfl | apply SetAt.more | apply SetAt.there)) ?_
  refine L.nil ?_
  refine T.thenN ?_
  refine T.ret ?_
  exact T.retA rfl ag24 rfl (by first | exact CellsN.ofM (by repeat (first | with_reducible exact mem_head | apply mem_tail)) (by repeat (first | exact AtN.nil | apply AtN.take | apply AtN.skip)) | exact CellsN.ofD (by repeat (first | with_reducible exact mem_head | apply mem_tail)) rfl | exact CellsN.ofF (by repeat (first | with_reducible exact mem_head | apply mem_tail)) (by repeat (first | exact AtN.nil | apply AtN.take | apply AtN.skip)) | exact CellsN.ofDs (by repeat (first | with_reducible exact mem_head | apply mem_tail)) (by repeat (first | exact AtN.nil | apply AtN.take | apply AtN.skip))) ⟨_, _, by omega, by omega, by omega, by omega, rfl, rfl, rfl⟩ (by repeat (first | exact SubD.refl _ | exact SubD.nil _ | refine SubD.cons (by repeat (first | with_reducible exact mem_head | apply mem_tail)) ?_ | apply SubD.skip)) (by repeat (first | exact Ent.refl _ | refine Fit.cons (by repeat (first | with_reducible exact Pull.here | apply Pull.there)) ?_ | apply Ent.skip))
theorem tick_spec (x : Int) : Spec Try.prog 11 [.int .i64 x] [] [] (fun v D' M' => ∃ t : Int, 0 ≤ t ∧ t < 100000 ∧ v = .int .i64 t ∧ D' = [] ∧ M' = []) := by
  refine Spec.intro (n := 7) Try.func11 rfl rfl (by decide) (Nat.le_of_ble_eq_true rfl) rfl (fun _ => (by repeat (first | with_reducible exact AppL.nil | apply AppL.cons))) (fun _ => (by repeat (first | with_reducible exact AppL.nil | apply AppL.cons))) ?_
  intro σ D M
  have q1 := tmod_bd x
  refine T.seq ?_
  refine T.region ?_
  refine L.assign rfl rfl ?_
  refine L.nil ?_
  refine T.thenN ?_
  refine T.seq ?_
  refine T.region ?_
  refine L.move rfl rfl ?_
  refine L.remI rfl rfl rfl (by decide) ?_
  refine L.addN rfl rfl rfl (by omega) ?_
  refine L.remN rfl rfl rfl (by omega) ?_
  refine L.assign rfl rfl ?_
  refine L.nil ?_
  refine T.thenN ?_
  refine T.ret ?_
  exact T.ret1 rfl rfl ⟨_, by omega, by omega, rfl, rfl, rfl⟩ (by repeat (first | exact SubD.refl _ | exact SubD.nil _ | refine SubD.cons (by repeat (first | with_reducible exact mem_head | apply mem_tail)) ?_ | apply SubD.skip)) (by repeat (first | exact Ent.refl _ | refine Fit.cons (by repeat (first | with_reducible exact Pull.here | apply Pull.there)) ?_ | apply Ent.skip))
theorem has_spec {q mb : Nat} {each most n now : Int} {l : List (Int × Int × Int)} (hq : QInv each most l) (h1 : 0 ≤ now) (h2 : now ≤ 2199023255552) : Spec Try.prog 14 [.pointer (some ⟨q, 0, none⟩), .int .i64 n, .int .i64 now] [] [cl q 46 [.int .i64 each, .int .i64 most, .map (some mb)], mp mb iK shV l] (fun v D' M' => v = .int .i64 (hasF each most l n now) ∧ D' = [] ∧ M' = [cl q 46 [.int .i64 each, .int .i64 most, .map (some mb)], mp mb iK shV l]) := by
  refine Spec.intro (n := 53) Try.func14 rfl rfl (by decide) (Nat.le_of_ble_eq_true rfl) rfl (fun _ => (by repeat (first | with_reducible exact AppL.nil | apply AppL.cons))) (fun _ => (by repeat (first | with_reducible exact AppL.nil | apply AppL.cons))) ?_
  intro σ D M
  have q1 := hq.1
  refine T.seq ?_
  refine T.region ?_
  refine L.assign rfl rfl ?_
  refine L.nil ?_
  refine T.thenN ?_
  refine T.seq ?_
  refine T.region ?_
  refine L.move rfl rfl ?_
  refine L.nilCheck rfl rfl ?_
  first | refine L.field0 rfl fo46_1 rfl ?_ | refine L.field rfl fo46_1 rfl ?_
  refine L.load rfl sc44 rfl (by first | exact Cells.ofM (by repeat (first | with_reducible exact mem_head | apply mem_tail)) (by repeat (first | exact AtN.nil | apply AtN.take | apply AtN.skip)) | exact Cells.ofD (by repeat (first | with_reducible exact mem_head | apply mem_tail)) | exact Cells.ofF (by repeat (first | with_reducible exact mem_head | apply mem_tail)) (by repeat (first | exact AtN.nil | apply AtN.take | apply AtN.skip)) | exact Cells.ofDs (by repeat (first | with_reducible exact mem_head | apply mem_tail)) (by repeat (first | exact AtN.nil | apply AtN.take | apply AtN.skip))) ?_
  refine L.move rfl rfl ?_
  rcases hl : look l n with _ | ⟨hv, at_⟩
  · skip
    refine L.lookupN rfl Try.underlying44 kt3 zv48 rfl rfl (by repeat (first | with_reducible exact mem_head | apply mem_tail)) hl ?_
    refine L.move rfl rfl ?_
    refine L.extract rfl rfl rfl ?_
    refine L.extract rfl rfl rfl ?_
    refine L.alloc rfl ze48 (fun b1 => ?_)
    refine L.storeA ag48 rfl rfl rfl (by repeat (first | exact One.nil | refine One.cons rfl ?_ | assumption)) (by repeat (first | with_reducible exact Upd.here | apply Upd.there)) (by repeat (first | exact SetAt.here | exact SetAt.none | exact SetAt.whole rfl | apply SetAt.more | apply SetAt.there)) ?_
    refine L.assign rfl rfl ?_
    refine L.nil ?_
    refine T.thenN ?_
    refine T.seq ?_
    refine T.seq ?_
    refine T.region ?_
    refine L.move rfl rfl ?_
    refine L.notB rfl rfl ?_
    refine L.nil ?_
    refine T.thenN ?_
    refine T.condT rfl rfl ?_
    refine T.seq ?_
    refine T.region ?_
    refine L.move rfl rfl ?_
    refine L.nilCheck rfl rfl ?_
    first | refine L.field0 rfl fo46_0 rfl ?_ | refine L.field rfl fo46_0 rfl ?_
    first | refine L.field0 rfl fo24_1 rfl ?_ | refine L.field rfl fo24_1 rfl ?_
    refine L.load rfl sc3 rfl (by first | exact Cells.ofM (by repeat (first | with_reducible exact mem_head | apply mem_tail)) (by repeat (first | exact AtN.nil | apply AtN.take | apply AtN.skip)) | exact Cells.ofD (by repeat (first | with_reducible exact mem_head | apply mem_tail)) | exact Cells.ofF (by repeat (first | with_reducible exact mem_head | apply mem_tail)) (by repeat (first | exact AtN.nil | apply AtN.take | apply AtN.skip)) | exact Cells.ofDs (by repeat (first | with_reducible exact mem_head | apply mem_tail)) (by repeat (first | exact AtN.nil | apply AtN.take | apply AtN.skip))) ?_
    refine L.assign rfl rfl ?_
    refine L.nil ?_
    refine T.thenN ?_
    refine T.ret ?_
    refine T.thenR ?_
    exact T.ret1 rfl rfl ⟨by simp only [hasF, hl], rfl, rfl⟩ (by repeat (first | exact SubD.refl _ | exact SubD.nil _ | refine SubD.cons (by repeat (first | with_reducible exact mem_head | apply mem_tail)) ?_ | apply SubD.skip)) (by repeat (first | exact Ent.refl _ | refine Fit.cons (by repeat (first | with_reducible exact Pull.here | apply Pull.there)) ?_ | apply Ent.skip))
  · have q2 := hq.2 n hv at_ hl
    refine L.lookupS rfl Try.underlying44 kt3 zv48 rfl rfl (by repeat (first | with_reducible exact mem_head | apply mem_tail)) hl ?_
    refine L.move rfl rfl ?_
    refine L.extract rfl rfl rfl ?_
    refine L.extract rfl rfl rfl ?_
    refine L.alloc rfl ze48 (fun b2 => ?_)
    refine L.storeA ag48 rfl rfl rfl (by repeat (first | exact One.nil | refine One.cons rfl ?_ | assumption)) (by repeat (first | with_reducible exact Upd.here | apply Upd.there)) (by repeat (first | exact SetAt.here | exact SetAt.none | exact SetAt.whole rfl | apply SetAt.more | apply SetAt.there)) ?_
    refine L.assign rfl rfl ?_
    refine L.nil ?_
    refine T.thenN ?_
    refine T.seq ?_
    refine T.seq ?_
    refine T.region ?_
    refine L.move rfl rfl ?_
    refine L.notB rfl rfl ?_
    refine L.nil ?_
    refine T.thenN ?_
    refine T.condF rfl rfl ?_
    refine T.skip ?_
    refine T.thenN ?_
    refine T.seq ?_
    refine T.regionQ (by kernel_rfl) (by kernel_rfl) ?_
    refine L.move rfl rfl ?_
    first | refine L.field0 rfl fo48_1 rfl ?_ | refine L.field rfl fo48_1 rfl ?_
    refine L.load rfl sc3 rfl (by first | exact Cells.ofM (by repeat (first | with_reducible exact mem_head | apply mem_tail)) (by repeat (first | exact AtN.nil | apply AtN.take | apply AtN.skip)) | exact Cells.ofD (by repeat (first | with_reducible exact mem_head | apply mem_tail)) | exact Cells.ofF (by repeat (first | with_reducible exact mem_head | apply mem_tail)) (by repeat (first | exact AtN.nil | apply AtN.take | apply AtN.skip)) | exact Cells.ofDs (by repeat (first | with_reducible exact mem_head | apply mem_tail)) (by repeat (first | exact AtN.nil | apply AtN.take | apply AtN.skip))) ?_
    refine L.subN rfl rfl rfl (by omega) ?_
    refine L.maxI rfl rfl rfl ?_
    refine L.move rfl rfl ?_
    refine L.nilCheck rfl rfl ?_
    first | refine L.field0 rfl fo46_0 rfl ?_ | refine L.field rfl fo46_0 rfl ?_
    first | refine L.field0 rfl fo24_1 rfl ?_ | refine L.field rfl fo24_1 rfl ?_
    refine L.load rfl sc3 rfl (by first | exact Cells.ofM (by repeat (first | with_reducible exact mem_head | apply mem_tail)) (by repeat (first | exact AtN.nil | apply AtN.take | apply AtN.skip)) | exact Cells.ofD (by repeat (first | with_reducible exact mem_head | apply mem_tail)) | exact Cells.ofF (by repeat (first | with_reducible exact mem_head | apply mem_tail)) (by repeat (first | exact AtN.nil | apply AtN.take | apply AtN.skip)) | exact Cells.ofDs (by repeat (first | with_reducible exact mem_head | apply mem_tail)) (by repeat (first | exact AtN.nil | apply AtN.take | apply AtN.skip))) ?_
    refine L.minI rfl rfl rfl ?_
    refine L.assign rfl rfl ?_
    refine L.nilQ ?_
    refine T.thenN ?_
    refine T.seq ?_
    refine T.regionQ (by kernel_rfl) (by kernel_rfl) ?_
    first | refine L.field0 rfl fo48_0 rfl ?_ | refine L.field rfl fo48_0 rfl ?_
    refine L.load rfl sc3 rfl (by first | exact Cells.ofM (by repeat (first | with_reducible exact mem_head | apply mem_tail)) (by repeat (first | exact AtN.nil | apply AtN.take | apply AtN.skip)) | exact Cells.ofD (by repeat (first | with_reducible exact mem_head | apply mem_tail)) | exact Cells.ofF (by repeat (first | with_reducible exact mem_head | apply mem_tail)) (by repeat (first | exact AtN.nil | apply AtN.take | apply AtN.skip)) | exact Cells.ofDs (by repeat (first | with_reducible exact mem_head | apply mem_tail)) (by repeat (first | exact AtN.nil | apply AtN.take | apply AtN.skip))) ?_
    refine L.move rfl rfl ?_
    refine L.move rfl rfl ?_
    refine L.nilCheck rfl rfl ?_
    first | refine L.field0 rfl fo46_0 rfl ?_ | refine L.field rfl fo46_0 rfl ?_
    first | refine L.field0 rfl fo24_0 rfl ?_ | refine L.field rfl fo24_0 rfl ?_
    refine L.load rfl sc3 rfl (by first | exact Cells.ofM (by repeat (first | with_reducible exact mem_head | apply mem_tail)) (by repeat (first | exact AtN.nil | apply AtN.take | apply AtN.skip)) | exact Cells.ofD (by repeat (first | with_reducible exact mem_head | apply mem_tail)) | exact Cells.ofF (by repeat (first | with_reducible exact mem_head | apply mem_tail)) (by repeat (first | exact AtN.nil | apply AtN.take | apply AtN.skip)) | exact Cells.ofDs (by repeat (first | with_reducible exact mem_head | apply mem_tail)) (by repeat (first | exact AtN.nil | apply AtN.take | apply AtN.skip))) ?_
    have hm := mul_bd (x := min (max (now - at_) 0) most) (y := each) (by omega) (by omega) (by omega) (by omega)
    refine L.mulN rfl rfl rfl (by omega) ?_
    refine L.addN rfl rfl rfl (by omega) ?_
    refine L.move rfl rfl ?_
    refine L.nilCheck rfl rfl ?_
    first | refine L.field0 rfl fo46_0 rfl ?_ | refine L.field rfl fo46_0 rfl ?_
    first | refine L.field0 rfl fo24_1 rfl ?_ | refine L.field rfl fo24_1 rfl ?_
    refine L.load rfl sc3 rfl (by first | exact Cells.ofM (by repeat (first | with_reducible exact mem_head | apply mem_tail)) (by repeat (first | exact AtN.nil | apply AtN.take | apply AtN.skip)) | exact Cells.ofD (by repeat (first | with_reducible exact mem_head | apply mem_tail)) | exact Cells.ofF (by repeat (first | with_reducible exact mem_head | apply mem_tail)) (by repeat (first | exact AtN.nil | apply AtN.take | apply AtN.skip)) | exact Cells.ofDs (by repeat (first | with_reducible exact mem_head | apply mem_tail)) (by repeat (first | exact AtN.nil | apply AtN.take | apply AtN.skip))) ?_
    refine L.minI rfl rfl rfl ?_
    refine L.assign rfl rfl ?_
    refine L.nilQ ?_
    refine T.thenN ?_
    refine T.ret ?_
    exact T.ret1 rfl rfl ⟨by simp only [hasF, hl], rfl, rfl⟩ (by repeat (first | exact SubD.refl _ | exact SubD.nil _ | refine SubD.cons (by repeat (first | with_reducible exact mem_head | apply mem_tail)) ?_ | apply SubD.skip)) (by repeat (first | exact Ent.refl _ | refine Fit.cons (by repeat (first | with_reducible exact Pull.here | apply Pull.there)) ?_ | apply Ent.skip))
theorem take_spec {q mb : Nat} {each most n cost now : Int} {l : List (Int × Int × Int)} (hq : QInv each most l) (h1 : 0 ≤ now) (h2 : now ≤ 2199023255552) : Spec Try.prog 12 [.pointer (some ⟨q, 0, none⟩), .int .i64 n, .int .i64 cost, .int .i64 now] [] [cl q 46 [.int .i64 each, .int .i64 most, .map (some mb)], mp mb iK shV l] (fun v D' M' => v = .bool (takeB each most l n cost now) ∧ D' = [] ∧ M' = [cl q 46 [.int .i64 each, .int .i64 most, .map (some mb)], mp mb iK shV (takeL each most l n cost now)]) := by
  refine Spec.intro (n := 47) Try.func12 rfl rfl (by decide) (Nat.le_of_ble_eq_true rfl) rfl (fun _ => (by repeat (first | with_reducible exact AppL.nil | apply AppL.cons))) (fun _ => (by repeat (first | with_reducible exact AppL.nil | apply AppL.cons))) ?_
  intro σ D M
  have q1 := hq.1
  have q3 := hasF_bd (n := n) (now := now) hq h1
  refine T.seq ?_
  refine T.region ?_
  refine L.assign rfl rfl ?_
  refine L.nil ?_
  refine T.thenN ?_
  refine T.seq ?_
  refine T.region ?_
  refine L.move rfl rfl ?_
  refine L.move rfl rfl ?_
  refine L.move rfl rfl ?_
  refine L.call rfl (evs.cons rfl <| evs.cons rfl <| evs.cons rfl <| evs.nil) (by repeat (first | exact SubD.refl _ | exact SubD.nil _ | refine SubD.cons (by repeat (first | with_reducible exact mem_head | apply mem_tail)) ?_ | apply SubD.skip)) (by repeat (first | exact Sel.nil | refine Sel.cons (by repeat (first | with_reducible exact Pull.here | apply Pull.there)) ?_)) (has_spec hq h1 h2) ?_
  rintro _ _ _ ⟨rfl, rfl, rfl⟩
  refine L.norm (by repeat (first | with_reducible exact AppL.nil | apply AppL.cons)) (by repeat (first | with_reducible exact AppL.nil | apply AppL.cons)) ?_
  refine L.assign rfl rfl ?_
  refine L.nil ?_
  refine T.thenN ?_
  refine T.seq ?_
  refine T.seq ?_
  refine T.region ?_
  refine L.move rfl rfl ?_
  refine L.ltI rfl rfl rfl ?_
  refine L.move rfl rfl ?_
  refine L.part (t := 18) rfl (fun h1 => ?_) (fun h1 => ?_)
  · try simp only [decide_eq_true_eq, decide_eq_false_iff_not, Bool.not_eq_true', Bool.not_eq_false', Bool.and_eq_true, Bool.or_eq_true] at h1
    refine L.guardF (dj := 18) (c := true) rfl rfl rfl rfl rfl (by decide) ?_
    refine L.guardF (dj := 18) (c := true) rfl rfl rfl rfl rfl (by decide) ?_
    refine L.guardF (dj := 18) (c := true) rfl rfl rfl rfl rfl (by decide) ?_
    refine L.pickT rfl rfl rfl ?_
    refine L.nil ?_
    refine T.thenN ?_
    refine T.condT rfl rfl ?_
    refine T.seq ?_
    refine T.region ?_
    refine L.assign rfl rfl ?_
    refine L.nil ?_
    refine T.thenN ?_
    refine T.ret ?_
    refine T.thenR ?_
    exact T.ret1 rfl rfl ⟨by rw [takeB_no (.inl (by omega))], rfl, by rw [takeL_no (.inl (by omega))]⟩ (by repeat (first | exact SubD.refl _ | exact SubD.nil _ | refine SubD.cons (by repeat (first | with_reducible exact mem_head | apply mem_tail)) ?_ | apply SubD.skip)) (by repeat (first | exact Ent.refl _ | refine Fit.cons (by repeat (first | with_reducible exact Pull.here | apply Pull.there)) ?_ | apply Ent.skip))
  · try simp only [decide_eq_true_eq, decide_eq_false_iff_not, Bool.not_eq_true', Bool.not_eq_false', Bool.and_eq_true, Bool.or_eq_true] at h1
    refine L.guardT (dj := 18) rfl rfl rfl ?_
    refine L.move rfl rfl ?_
    refine L.guardT (dj := 18) rfl rfl rfl ?_
    refine L.move rfl rfl ?_
    refine L.guardT (dj := 18) rfl rfl rfl ?_
    refine L.gtI rfl rfl rfl ?_
    refine L.pickF rfl rfl rfl ?_
    refine L.nil ?_
    refine T.thenN ?_
    refine T.cond rfl (fun h2 => ?_) (fun h2 => ?_)
    · try simp only [decide_eq_true_eq, decide_eq_false_iff_not, Bool.not_eq_true', Bool.not_eq_false', Bool.and_eq_true, Bool.or_eq_true] at h2
      refine T.seq ?_
      refine T.region ?_
      refine L.assign rfl rfl ?_
      refine L.nil ?_
      refine T.thenN ?_
      refine T.ret ?_
      refine T.thenR ?_
      exact T.ret1 rfl rfl ⟨by rw [takeB_no (.inr (by omega))], rfl, by rw [takeL_no (.inr (by omega))]⟩ (by repeat (first | exact SubD.refl _ | exact SubD.nil _ | refine SubD.cons (by repeat (first | with_reducible exact mem_head | apply mem_tail)) ?_ | apply SubD.skip)) (by repeat (first | exact Ent.refl _ | refine Fit.cons (by repeat (first | with_reducible exact Pull.here | apply Pull.there)) ?_ | apply Ent.skip))
    · try simp only [decide_eq_true_eq, decide_eq_false_iff_not, Bool.not_eq_true', Bool.not_eq_false', Bool.and_eq_true, Bool.or_eq_true] at h2
      refine T.skip ?_
      refine T.thenN ?_
      refine T.seq ?_
      refine T.seq ?_
      refine T.region ?_
      refine L.move rfl rfl ?_
      refine L.nilCheck rfl rfl ?_
      first | refine L.field0 rfl fo46_1 rfl ?_ | refine L.field rfl fo46_1 rfl ?_
      refine L.load rfl sc44 rfl (by first | exact Cells.ofM (by repeat (first | with_reducible exact mem_head | apply mem_tail)) (by repeat (first | exact AtN.nil | apply AtN.take | apply AtN.skip)) | exact Cells.ofD (by repeat (first | with_reducible exact mem_head | apply mem_tail)) | exact Cells.ofF (by repeat (first | with_reducible exact mem_head | apply mem_tail)) (by repeat (first | exact AtN.nil | apply AtN.take | apply AtN.skip)) | exact Cells.ofDs (by repeat (first | with_reducible exact mem_head | apply mem_tail)) (by repeat (first | exact AtN.nil | apply AtN.take | apply AtN.skip))) ?_
      refine L.move rfl rfl ?_
      rcases hl : look l n with _ | ⟨hv, at_⟩
      · skip
        refine L.lookupN rfl Try.underlying44 kt3 zv48 rfl rfl (by repeat (first | with_reducible exact mem_head | apply mem_tail)) hl ?_
        refine L.move rfl rfl ?_
        refine L.extract rfl rfl rfl ?_
        refine L.extract rfl rfl rfl ?_
        refine L.alloc rfl ze48 (fun b3 => ?_)
        refine L.storeA ag48 rfl rfl rfl (by repeat (first | exact One.nil | refine One.cons rfl ?_ | assumption)) (by repeat (first | with_reducible exact Upd.here | apply Upd.there)) (by repeat (first | exact SetAt.here | exact SetAt.none | exact SetAt.whole rfl | apply SetAt.more | apply SetAt.there)) ?_
        refine L.assign rfl rfl ?_
        refine L.nil ?_
        refine T.thenN ?_
        refine T.seq ?_
        refine T.region ?_
        refine L.move rfl rfl ?_
        refine L.nil ?_
        refine T.thenN ?_
        refine T.condF rfl rfl ?_
        refine T.skip ?_
        refine T.thenN ?_
        refine T.seq ?_
        refine T.region ?_
        refine L.move rfl rfl ?_
        refine L.nilCheck rfl rfl ?_
        first | refine L.field0 rfl fo46_1 rfl ?_ | refine L.field rfl fo46_1 rfl ?_
        refine L.load rfl sc44 rfl (by first | exact Cells.ofM (by repeat (first | with_reducible exact mem_head | apply mem_tail)) (by repeat (first | exact AtN.nil | apply AtN.take | apply AtN.skip)) | exact Cells.ofD (by repeat (first | with_reducible exact mem_head | apply mem_tail)) | exact Cells.ofF (by repeat (first | with_reducible exact mem_head | apply mem_tail)) (by repeat (first | exact AtN.nil | apply AtN.take | apply AtN.skip)) | exact Cells.ofDs (by repeat (first | with_reducible exact mem_head | apply mem_tail)) (by repeat (first | exact AtN.nil | apply AtN.take | apply AtN.skip))) ?_
        refine L.move rfl rfl ?_
        refine L.move rfl rfl ?_
        refine L.move rfl rfl ?_
        refine L.subN rfl rfl rfl (by omega) ?_
        refine L.move rfl rfl ?_
        refine L.build rfl bu48 (BP.one rfl rfl rfl <| BP.one rfl rfl rfl <| BP.done) ?_
        refine L.mapUpdate (v := (_, _)) Try.underlying44 kt3 rfl rfl rfl rfl (by repeat (first | with_reducible exact Pull.here | apply Pull.there)) ?_
        refine L.nil ?_
        refine T.thenN ?_
        refine T.seq ?_
        refine T.region ?_
        refine L.assign rfl rfl ?_
        refine L.nil ?_
        refine T.thenN ?_
        refine T.ret ?_
        exact T.ret1 rfl rfl ⟨by rw [takeB_yes (by omega) (by omega)], rfl, by rw [takeL_N (by omega) (by omega) hl]⟩ (by repeat (first | exact SubD.refl _ | exact SubD.nil _ | refine SubD.cons (by repeat (first | with_reducible exact mem_head | apply mem_tail)) ?_ | apply SubD.skip)) (by repeat (first | exact Ent.refl _ | refine Fit.cons (by repeat (first | with_reducible exact Pull.here | apply Pull.there)) ?_ | apply Ent.skip))
      · have q2 := hq.2 n hv at_ hl
        refine L.lookupS rfl Try.underlying44 kt3 zv48 rfl rfl (by repeat (first | with_reducible exact mem_head | apply mem_tail)) hl ?_
        refine L.move rfl rfl ?_
        refine L.extract rfl rfl rfl ?_
        refine L.extract rfl rfl rfl ?_
        refine L.alloc rfl ze48 (fun b4 => ?_)
        refine L.storeA ag48 rfl rfl rfl (by repeat (first | exact One.nil | refine One.cons rfl ?_ | assumption)) (by repeat (first | with_reducible exact Upd.here | apply Upd.there)) (by repeat (first | exact SetAt.here | exact SetAt.none | exact SetAt.whole rfl | apply SetAt.more | apply SetAt.there)) ?_
        refine L.assign rfl rfl ?_
        refine L.nil ?_
        refine T.thenN ?_
        refine T.seq ?_
        refine T.region ?_
        refine L.move rfl rfl ?_
        refine L.nil ?_
        refine T.thenN ?_
        refine T.condT rfl rfl ?_
        refine T.region ?_
        refine L.move rfl rfl ?_
        first | refine L.field0 rfl fo48_1 rfl ?_ | refine L.field rfl fo48_1 rfl ?_
        refine L.load rfl sc3 rfl (by first | exact Cells.ofM (by repeat (first | with_reducible exact mem_head | apply mem_tail)) (by repeat (first | exact AtN.nil | apply AtN.take | apply AtN.skip)) | exact Cells.ofD (by repeat (first | with_reducible exact mem_head | apply mem_tail)) | exact Cells.ofF (by repeat (first | with_reducible exact mem_head | apply mem_tail)) (by repeat (first | exact AtN.nil | apply AtN.take | apply AtN.skip)) | exact Cells.ofDs (by repeat (first | with_reducible exact mem_head | apply mem_tail)) (by repeat (first | exact AtN.nil | apply AtN.take | apply AtN.skip))) ?_
        refine L.maxI rfl rfl rfl ?_
        refine L.assign rfl rfl ?_
        refine L.nil ?_
        refine T.thenN ?_
        refine T.seq ?_
        refine T.region ?_
        refine L.move rfl rfl ?_
        refine L.nilCheck rfl rfl ?_
        first | refine L.field0 rfl fo46_1 rfl ?_ | refine L.field rfl fo46_1 rfl ?_
        refine L.load rfl sc44 rfl (by first | exact Cells.ofM (by repeat (first | with_reducible exact mem_head | apply mem_tail)) (by repeat (first | exact AtN.nil | apply AtN.take | apply AtN.skip)) | exact Cells.ofD (by repeat (first | with_reducible exact mem_head | apply mem_tail)) | exact Cells.ofF (by repeat (first | with_reducible exact mem_head | apply mem_tail)) (by repeat (first | exact AtN.nil | apply AtN.take | apply AtN.skip)) | exact Cells.ofDs (by repeat (first | with_reducible exact mem_head | apply mem_tail)) (by repeat (first | exact AtN.nil | apply AtN.take | apply AtN.skip))) ?_
        refine L.move rfl rfl ?_
        refine L.move rfl rfl ?_
        refine L.move rfl rfl ?_
        refine L.subN rfl rfl rfl (by omega) ?_
        refine L.move rfl rfl ?_
        refine L.build rfl bu48 (BP.one rfl rfl rfl <| BP.one rfl rfl rfl <| BP.done) ?_
        refine L.mapUpdate (v := (_, _)) Try.underlying44 kt3 rfl rfl rfl rfl (by repeat (first | with_reducible exact Pull.here | apply Pull.there)) ?_
        refine L.nil ?_
        refine T.thenN ?_
        refine T.seq ?_
        refine T.region ?_
        refine L.assign rfl rfl ?_
        refine L.nil ?_
        refine T.thenN ?_
        refine T.ret ?_
        exact T.ret1 rfl rfl ⟨by rw [takeB_yes (by omega) (by omega)], rfl, by rw [takeL_S (by omega) (by omega) hl]⟩ (by repeat (first | exact SubD.refl _ | exact SubD.nil _ | refine SubD.cons (by repeat (first | with_reducible exact mem_head | apply mem_tail)) ?_ | apply SubD.skip)) (by repeat (first | exact Ent.refl _ | refine Fit.cons (by repeat (first | with_reducible exact Pull.here | apply Pull.there)) ?_ | apply Ent.skip))
theorem new_spec (each most : Int) (h1 : 1 ≤ each) (h2 : each ≤ most) (h3 : most ≤ 1048576) : Spec Try.prog 9 [.agg #[.int .i64 each, .int .i64 most]] [] [] (fun v D' M' => ∃ q mb, v = .tuple #[.pointer (some ⟨q, 0, none⟩), .int .i64 0] ∧ D' = [] ∧ M' = [cl q 46 [.int .i64 each, .int .i64 most, .map (some mb)], mp mb iK shV []]) := by
  refine Spec.intro (n := 23) Try.func9 rfl rfl (by decide) (Nat.le_of_ble_eq_true rfl) rfl (fun _ => (by repeat (first | with_reducible exact AppL.nil | apply AppL.cons))) (fun _ => (by repeat (first | with_reducible exact AppL.nil | apply AppL.cons))) ?_
  intro σ D M
  refine T.seq ?_
  refine T.region ?_
  refine L.box rfl rfl rfl (fun b1 => ?_)
  refine L.assign rfl rfl ?_
  refine L.assign rfl rfl ?_
  refine L.nil ?_
  refine T.thenN ?_
  refine T.seq ?_
  refine T.seq ?_
  refine T.region ?_
  first | refine L.field0 rfl fo24_0 rfl ?_ | refine L.field rfl fo24_0 rfl ?_
  refine L.load rfl sc3 rfl (by first | exact Cells.ofM (by repeat (first | with_reducible exact mem_head | apply mem_tail)) (by repeat (first | exact AtN.nil | apply AtN.take | apply AtN.skip)) | exact Cells.ofD (by repeat (first | with_reducible exact mem_head | apply mem_tail)) | exact Cells.ofF (by repeat (first | with_reducible exact mem_head | apply mem_tail)) (by repeat (first | exact AtN.nil | apply AtN.take | apply AtN.skip)) | exact Cells.ofDs (by repeat (first | with_reducible exact mem_head | apply mem_tail)) (by repeat (first | exact AtN.nil | apply AtN.take | apply AtN.skip))) ?_
  refine L.ltI rfl rfl rfl ?_
  refine L.move rfl rfl ?_
  refine L.known (t := 7) rfl (show _ = Value.bool false from congrArg Value.bool (decide_eq_false (by omega))) ?_
  refine L.guardT (dj := 7) rfl rfl rfl ?_
  first | refine L.field0 rfl fo24_1 rfl ?_ | refine L.field rfl fo24_1 rfl ?_
  refine L.guardT (dj := 7) rfl rfl rfl ?_
  refine L.load rfl sc3 rfl (by first | exact Cells.ofM (by repeat (first | with_reducible exact mem_head | apply mem_tail)) (by repeat (first | exact AtN.nil | apply AtN.take | apply AtN.skip)) | exact Cells.ofD (by repeat (first | with_reducible exact mem_head | apply mem_tail)) | exact Cells.ofF (by repeat (first | with_reducible exact mem_head | apply mem_tail)) (by repeat (first | exact AtN.nil | apply AtN.take | apply AtN.skip)) | exact Cells.ofDs (by repeat (first | with_reducible exact mem_head | apply mem_tail)) (by repeat (first | exact AtN.nil | apply AtN.take | apply AtN.skip))) ?_
  refine L.guardT (dj := 7) rfl rfl rfl ?_
  first | refine L.field0 rfl fo24_0 rfl ?_ | refine L.field rfl fo24_0 rfl ?_
  refine L.guardT (dj := 7) rfl rfl rfl ?_
  refine L.load rfl sc3 rfl (by first | exact Cells.ofM (by repeat (first | with_reducible exact mem_head | apply mem_tail)) (by repeat (first | exact AtN.nil | apply AtN.take | apply AtN.skip)) | exact Cells.ofD (by repeat (first | with_reducible exact mem_head | apply mem_tail)) | exact Cells.ofF (by repeat (first | with_reducible exact mem_head | apply mem_tail)) (by repeat (first | exact AtN.nil | apply AtN.take | apply AtN.skip)) | exact Cells.ofDs (by repeat (first | with_reducible exact mem_head | apply mem_tail)) (by repeat (first | exact AtN.nil | apply AtN.take | apply AtN.skip))) ?_
  refine L.guardT (dj := 7) rfl rfl rfl ?_
  refine L.ltI rfl rfl rfl ?_
  refine L.pickF rfl rfl rfl ?_
  refine L.move rfl rfl ?_
  refine L.known (t := 14) rfl (show _ = Value.bool false from congrArg Value.bool (decide_eq_false (by omega))) ?_
  refine L.guardT (dj := 14) rfl rfl rfl ?_
  first | refine L.field0 rfl fo24_1 rfl ?_ | refine L.field rfl fo24_1 rfl ?_
  refine L.guardT (dj := 14) rfl rfl rfl ?_
  refine L.load rfl sc3 rfl (by first | exact Cells.ofM (by repeat (first | with_reducible exact mem_head | apply mem_tail)) (by repeat (first | exact AtN.nil | apply AtN.take | apply AtN.skip)) | exact Cells.ofD (by repeat (first | with_reducible exact mem_head | apply mem_tail)) | exact Cells.ofF (by repeat (first | with_reducible exact mem_head | apply mem_tail)) (by repeat (first | exact AtN.nil | apply AtN.take | apply AtN.skip)) | exact Cells.ofDs (by repeat (first | with_reducible exact mem_head | apply mem_tail)) (by repeat (first | exact AtN.nil | apply AtN.take | apply AtN.skip))) ?_
  refine L.guardT (dj := 14) rfl rfl rfl ?_
  refine L.gtI rfl rfl rfl ?_
  refine L.pickF rfl rfl rfl ?_
  refine L.nil ?_
  refine T.thenN ?_
  refine T.condF rfl (decide_eq_false (by omega)) ?_
  refine T.skip ?_
  refine T.thenN ?_
  refine T.seq ?_
  refine T.region ?_
  refine L.loadA rfl ag24 rfl (by first | exact CellsN.ofM (by repeat (first | with_reducible exact mem_head | apply mem_tail)) (by repeat (first | exact AtN.nil | apply AtN.take | apply AtN.skip)) | exact CellsN.ofD (by repeat (first | with_reducible exact mem_head | apply mem_tail)) rfl | exact CellsN.ofF (by repeat (first | with_reducible exact mem_head | apply mem_tail)) (by repeat (first | exact AtN.nil | apply AtN.take | apply AtN.skip)) | exact CellsN.ofDs (by repeat (first | with_reducible exact mem_head | apply mem_tail)) (by repeat (first | exact AtN.nil | apply AtN.take | apply AtN.skip))) ?_
  refine L.makeMap iK shV rfl (fun mb => ?_)
  refine L.build rfl bu46 (BP.agg rfl rfl rfl (Nat.le_of_ble_eq_true rfl) (by repeat (first | with_reducible exact AppL.nil | apply AppL.cons | with_reducible exact AppL.refl)) <| BP.one rfl rfl rfl <| BP.done) ?_
  refine L.box rfl rfl rfl (fun b2 => ?_)
  refine L.assign rfl rfl ?_
  refine L.assign rfl rfl ?_
  refine L.nil ?_
  refine T.thenN ?_
  refine T.ret ?_
  exact T.ret2 rfl rfl rfl ⟨_, _, rfl, rfl, rfl⟩ (by repeat (first | exact SubD.refl _ | exact SubD.nil _ | refine SubD.cons (by repeat (first | with_reducible exact mem_head | apply mem_tail)) ?_ | apply SubD.skip)) (by repeat (first | exact Ent.refl _ | refine Fit.cons (by repeat (first | with_reducible exact Pull.here | apply Pull.there)) ?_ | apply Ent.skip))
theorem new_bad (each most : Int) (h : ¬ (1 ≤ each ∧ each ≤ most ∧ most ≤ 1048576)) : Spec Try.prog 9 [.agg #[.int .i64 each, .int .i64 most]] [] [] (fun v D' M' => v = .tuple #[.pointer none, .int .i64 10] ∧ D' = [] ∧ M' = []) := by
  refine Spec.intro (n := 23) Try.func9 rfl rfl (by decide) (Nat.le_of_ble_eq_true rfl) rfl (fun _ => (by repeat (first | with_reducible exact AppL.nil | apply AppL.cons))) (fun _ => (by repeat (first | with_reducible exact AppL.nil | apply AppL.cons))) ?_
  intro σ D M
  refine T.seq ?_
  refine T.region ?_
  refine L.box rfl rfl rfl (fun b1 => ?_)
  refine L.assign rfl rfl ?_
  refine L.assign rfl rfl ?_
  refine L.nil ?_
  refine T.thenN ?_
  refine T.seq ?_
  refine T.seq ?_
  refine T.region ?_
  first | refine L.field0 rfl fo24_0 rfl ?_ | refine L.field rfl fo24_0 rfl ?_
  refine L.load rfl sc3 rfl (by first | exact Cells.ofM (by repeat (first | with_reducible exact mem_head | apply mem_tail)) (by repeat (first | exact AtN.nil | apply AtN.take | apply AtN.skip)) | exact Cells.ofD (by repeat (first | with_reducible exact mem_head | apply mem_tail)) | exact Cells.ofF (by repeat (first | with_reducible exact mem_head | apply mem_tail)) (by repeat (first | exact AtN.nil | apply AtN.take | apply AtN.skip)) | exact Cells.ofDs (by repeat (first | with_reducible exact mem_head | apply mem_tail)) (by repeat (first | exact AtN.nil | apply AtN.take | apply AtN.skip))) ?_
  refine L.ltI rfl rfl rfl ?_
  refine L.move rfl rfl ?_
  refine L.part (t := 7) rfl (fun h2 => ?_) (fun h2 => ?_)
  · try simp only [decide_eq_true_eq, decide_eq_false_iff_not, Bool.not_eq_true', Bool.not_eq_false', Bool.and_eq_true, Bool.or_eq_true] at h2
    refine L.guardF (dj := 7) (c := true) rfl rfl rfl rfl rfl (by decide) ?_
    refine L.guardF (dj := 7) (c := true) rfl rfl rfl rfl rfl (by decide) ?_
    refine L.guardF (dj := 7) (c := true) rfl rfl rfl rfl rfl (by decide) ?_
    refine L.guardF (dj := 7) (c := true) rfl rfl rfl rfl rfl (by decide) ?_
    refine L.guardF (dj := 7) (c := true) rfl rfl rfl rfl rfl (by decide) ?_
    refine L.pickT rfl rfl rfl ?_
    refine L.move rfl rfl ?_
    refine L.guardF (dj := 14) (c := true) rfl rfl rfl rfl rfl (by decide) ?_
    refine L.guardF (dj := 14) (c := true) rfl rfl rfl rfl rfl (by decide) ?_
    refine L.guardF (dj := 14) (c := true) rfl rfl rfl rfl rfl (by decide) ?_
    refine L.pickT rfl rfl rfl ?_
    refine L.nil ?_
    refine T.thenN ?_
    refine T.condT rfl rfl ?_
    refine T.seq ?_
    refine T.region ?_
    refine L.assign rfl rfl ?_
    refine L.assign rfl rfl ?_
    refine L.nil ?_
    refine T.thenN ?_
    refine T.ret ?_
    refine T.thenR ?_
    exact T.ret2 rfl rfl rfl ⟨rfl, rfl, rfl⟩ (by repeat (first | exact SubD.refl _ | exact SubD.nil _ | refine SubD.cons (by repeat (first | with_reducible exact mem_head | apply mem_tail)) ?_ | apply SubD.skip)) (by repeat (first | exact Ent.refl _ | refine Fit.cons (by repeat (first | with_reducible exact Pull.here | apply Pull.there)) ?_ | apply Ent.skip))
  · try simp only [decide_eq_true_eq, decide_eq_false_iff_not, Bool.not_eq_true', Bool.not_eq_false', Bool.and_eq_true, Bool.or_eq_true] at h2
    refine L.guardT (dj := 7) rfl rfl rfl ?_
    first | refine L.field0 rfl fo24_1 rfl ?_ | refine L.field rfl fo24_1 rfl ?_
    refine L.guardT (dj := 7) rfl rfl rfl ?_
    refine L.load rfl sc3 rfl (by first | exact Cells.ofM (by repeat (first | with_reducible exact mem_head | apply mem_tail)) (by repeat (first | exact AtN.nil | apply AtN.take | apply AtN.skip)) | exact Cells.ofD (by repeat (first | with_reducible exact mem_head | apply mem_tail)) | exact Cells.ofF (by repeat (first | with_reducible exact mem_head | apply mem_tail)) (by repeat (first | exact AtN.nil | apply AtN.take | apply AtN.skip)) | exact Cells.ofDs (by repeat (first | with_reducible exact mem_head | apply mem_tail)) (by repeat (first | exact AtN.nil | apply AtN.take | apply AtN.skip))) ?_
    refine L.guardT (dj := 7) rfl rfl rfl ?_
    first | refine L.field0 rfl fo24_0 rfl ?_ | refine L.field rfl fo24_0 rfl ?_
    refine L.guardT (dj := 7) rfl rfl rfl ?_
    refine L.load rfl sc3 rfl (by first | exact Cells.ofM (by repeat (first | with_reducible exact mem_head | apply mem_tail)) (by repeat (first | exact AtN.nil | apply AtN.take | apply AtN.skip)) | exact Cells.ofD (by repeat (first | with_reducible exact mem_head | apply mem_tail)) | exact Cells.ofF (by repeat (first | with_reducible exact mem_head | apply mem_tail)) (by repeat (first | exact AtN.nil | apply AtN.take | apply AtN.skip)) | exact Cells.ofDs (by repeat (first | with_reducible exact mem_head | apply mem_tail)) (by repeat (first | exact AtN.nil | apply AtN.take | apply AtN.skip))) ?_
    refine L.guardT (dj := 7) rfl rfl rfl ?_
    refine L.ltI rfl rfl rfl ?_
    refine L.pickF rfl rfl rfl ?_
    refine L.move rfl rfl ?_
    refine L.part (t := 14) rfl (fun h3 => ?_) (fun h3 => ?_)
    · try simp only [decide_eq_true_eq, decide_eq_false_iff_not, Bool.not_eq_true', Bool.not_eq_false', Bool.and_eq_true, Bool.or_eq_true] at h3
      refine L.guardF (dj := 14) (c := true) rfl rfl rfl rfl rfl (by decide) ?_
      refine L.guardF (dj := 14) (c := true) rfl rfl rfl rfl rfl (by decide) ?_
      refine L.guardF (dj := 14) (c := true) rfl rfl rfl rfl rfl (by decide) ?_
      refine L.pickT rfl rfl rfl ?_
      refine L.nil ?_
      refine T.thenN ?_
      refine T.condT rfl rfl ?_
      refine T.seq ?_
      refine T.region ?_
      refine L.assign rfl rfl ?_
      refine L.assign rfl rfl ?_
      refine L.nil ?_
      refine T.thenN ?_
      refine T.ret ?_
      refine T.thenR ?_
      exact T.ret2 rfl rfl rfl ⟨rfl, rfl, rfl⟩ (by repeat (first | exact SubD.refl _ | exact SubD.nil _ | refine SubD.cons (by repeat (first | with_reducible exact mem_head | apply mem_tail)) ?_ | apply SubD.skip)) (by repeat (first | exact Ent.refl _ | refine Fit.cons (by repeat (first | with_reducible exact Pull.here | apply Pull.there)) ?_ | apply Ent.skip))
    · try simp only [decide_eq_true_eq, decide_eq_false_iff_not, Bool.not_eq_true', Bool.not_eq_false', Bool.and_eq_true, Bool.or_eq_true] at h3
      refine L.guardT (dj := 14) rfl rfl rfl ?_
      first | refine L.field0 rfl fo24_1 rfl ?_ | refine L.field rfl fo24_1 rfl ?_
      refine L.guardT (dj := 14) rfl rfl rfl ?_
      refine L.load rfl sc3 rfl (by first | exact Cells.ofM (by repeat (first | with_reducible exact mem_head | apply mem_tail)) (by repeat (first | exact AtN.nil | apply AtN.take | apply AtN.skip)) | exact Cells.ofD (by repeat (first | with_reducible exact mem_head | apply mem_tail)) | exact Cells.ofF (by repeat (first | with_reducible exact mem_head | apply mem_tail)) (by repeat (first | exact AtN.nil | apply AtN.take | apply AtN.skip)) | exact Cells.ofDs (by repeat (first | with_reducible exact mem_head | apply mem_tail)) (by repeat (first | exact AtN.nil | apply AtN.take | apply AtN.skip))) ?_
      refine L.guardT (dj := 14) rfl rfl rfl ?_
      refine L.gtI rfl rfl rfl ?_
      refine L.pickF rfl rfl rfl ?_
      refine L.nil ?_
      refine T.thenN ?_
      refine T.cond rfl (fun h4 => ?_) (fun h4 => ?_)
      · try simp only [decide_eq_true_eq, decide_eq_false_iff_not, Bool.not_eq_true', Bool.not_eq_false', Bool.and_eq_true, Bool.or_eq_true] at h4
        refine T.seq ?_
        refine T.region ?_
        refine L.assign rfl rfl ?_
        refine L.assign rfl rfl ?_
        refine L.nil ?_
        refine T.thenN ?_
        refine T.ret ?_
        refine T.thenR ?_
        exact T.ret2 rfl rfl rfl ⟨rfl, rfl, rfl⟩ (by repeat (first | exact SubD.refl _ | exact SubD.nil _ | refine SubD.cons (by repeat (first | with_reducible exact mem_head | apply mem_tail)) ?_ | apply SubD.skip)) (by repeat (first | exact Ent.refl _ | refine Fit.cons (by repeat (first | with_reducible exact Pull.here | apply Pull.there)) ?_ | apply Ent.skip))
      · try simp only [decide_eq_true_eq, decide_eq_false_iff_not, Bool.not_eq_true', Bool.not_eq_false', Bool.and_eq_true, Bool.or_eq_true] at h4
        omega
theorem awake_spec  : Spec Try.prog 10 [] [] [] (fun v D' M' => v = .bool true ∧ D' = [] ∧ M' = []) := by
  refine Spec.intro (n := 33) Try.func10 rfl rfl (by decide) (Nat.le_of_ble_eq_true rfl) rfl (fun _ => (by repeat (first | with_reducible exact AppL.nil | apply AppL.cons))) (fun _ => (by repeat (first | with_reducible exact AppL.nil | apply AppL.cons))) ?_
  intro σ D M
  refine T.seq ?_
  refine T.region ?_
  refine L.assign rfl rfl ?_
  refine L.nil ?_
  refine T.thenN ?_
  refine T.seq ?_
  refine T.region ?_
  refine L.build rfl bu24 (BP.one rfl rfl rfl <| BP.one rfl rfl rfl <| BP.done) ?_
  refine L.call rfl (evs.cons rfl <| evs.nil) (by repeat (first | exact SubD.refl _ | exact SubD.nil _ | refine SubD.cons (by repeat (first | with_reducible exact mem_head | apply mem_tail)) ?_ | apply SubD.skip)) (by repeat (first | exact Sel.nil | refine Sel.cons (by repeat (first | with_reducible exact Pull.here | apply Pull.there)) ?_)) (new_spec _ _ (by omega) (by omega) (by omega)) ?_
  rintro _ _ _ ⟨q, mb, rfl, rfl, rfl⟩
  refine L.norm (by repeat (first | with_reducible exact AppL.nil | apply AppL.cons)) (by repeat (first | with_reducible exact AppL.nil | apply AppL.cons)) ?_
  refine L.move rfl rfl ?_
  refine L.extract rfl rfl rfl ?_
  refine L.extract rfl rfl rfl ?_
  refine L.assign rfl rfl ?_
  refine L.assign rfl rfl ?_
  refine L.nil ?_
  refine T.thenN ?_
  refine T.seq ?_
  refine T.region ?_
  refine L.move rfl rfl ?_
  refine L.eqI rfl rfl rfl ?_
  refine L.move rfl rfl ?_
  refine L.known (t := 10) rfl (show _ = Value.bool true from congrArg Value.bool (by first | rfl | decide)) ?_
  refine L.guardT (dj := 10) rfl rfl rfl ?_
  refine L.move rfl rfl ?_
  refine L.guardT (dj := 10) rfl rfl rfl ?_
  refine L.neqPtr rfl Try.underlying26 rfl rfl ?_
  refine L.pickT rfl rfl rfl ?_
  refine L.move rfl rfl ?_
  refine L.known (t := 14) rfl (show _ = Value.bool true from congrArg Value.bool (by first | rfl | decide)) ?_
  refine L.guardT (dj := 14) rfl rfl rfl ?_
  refine L.move rfl rfl ?_
  refine L.guardT (dj := 14) rfl rfl rfl ?_
  refine L.call rfl (evs.cons rfl <| evs.cons rfl <| evs.cons rfl <| evs.cons rfl <| evs.nil) (by repeat (first | exact SubD.refl _ | exact SubD.nil _ | refine SubD.cons (by repeat (first | with_reducible exact mem_head | apply mem_tail)) ?_ | apply SubD.skip)) (by repeat (first | exact Sel.nil | refine Sel.cons (by repeat (first | with_reducible exact Pull.here | apply Pull.there)) ?_)) (take_spec (qinv_awake _ (by decide)) (by omega) (by omega)) ?_
  rintro _ _ _ ⟨rfl, rfl, rfl⟩
  refine L.norm (by repeat (first | with_reducible exact AppL.nil | apply AppL.cons)) (by repeat (first | with_reducible exact AppL.nil | apply AppL.cons)) ?_
  refine L.pickT rfl rfl rfl ?_
  refine L.move rfl rfl ?_
  refine L.known (t := 18) rfl (show _ = Value.bool true from congrArg Value.bool (by first | rfl | decide)) ?_
  refine L.guardT (dj := 18) rfl rfl rfl ?_
  refine L.move rfl rfl ?_
  refine L.guardT (dj := 18) rfl rfl rfl ?_
  refine L.call rfl (evs.cons rfl <| evs.cons rfl <| evs.cons rfl <| evs.nil) (by repeat (first | exact SubD.refl _ | exact SubD.nil _ | refine SubD.cons (by repeat (first | with_reducible exact mem_head | apply mem_tail)) ?_ | apply SubD.skip)) (by repeat (first | exact Sel.nil | refine Sel.cons (by repeat (first | with_reducible exact Pull.here | apply Pull.there)) ?_)) (has_spec (qinv_awake _ (by decide)) (by omega) (by omega)) ?_
  rintro _ _ _ ⟨rfl, rfl, rfl⟩
  refine L.norm (by repeat (first | with_reducible exact AppL.nil | apply AppL.cons)) (by repeat (first | with_reducible exact AppL.nil | apply AppL.cons)) ?_
  refine L.guardT (dj := 18) rfl rfl rfl ?_
  refine L.eqI rfl rfl rfl ?_
  refine L.pickT rfl rfl rfl ?_
  refine L.move rfl rfl ?_
  refine L.known (t := 23) rfl (show _ = Value.bool true from congrArg Value.bool (by first | rfl | decide)) ?_
  refine L.guardT (dj := 23) rfl rfl rfl ?_
  refine L.move rfl rfl ?_
  refine L.guardT (dj := 23) rfl rfl rfl ?_
  refine L.call rfl (evs.cons rfl <| evs.cons rfl <| evs.cons rfl <| evs.nil) (by repeat (first | exact SubD.refl _ | exact SubD.nil _ | refine SubD.cons (by repeat (first | with_reducible exact mem_head | apply mem_tail)) ?_ | apply SubD.skip)) (by repeat (first | exact Sel.nil | refine Sel.cons (by repeat (first | with_reducible exact Pull.here | apply Pull.there)) ?_)) (has_spec (qinv_awake _ (by decide)) (by omega) (by omega)) ?_
  rintro _ _ _ ⟨rfl, rfl, rfl⟩
  refine L.norm (by repeat (first | with_reducible exact AppL.nil | apply AppL.cons)) (by repeat (first | with_reducible exact AppL.nil | apply AppL.cons)) ?_
  refine L.guardT (dj := 23) rfl rfl rfl ?_
  refine L.eqI rfl rfl rfl ?_
  refine L.pickT rfl rfl rfl ?_
  refine L.move rfl rfl ?_
  refine L.known (t := 28) rfl (show _ = Value.bool true from congrArg Value.bool (by first | rfl | decide)) ?_
  refine L.guardT (dj := 28) rfl rfl rfl ?_
  refine L.move rfl rfl ?_
  refine L.guardT (dj := 28) rfl rfl rfl ?_
  refine L.call rfl (evs.cons rfl <| evs.cons rfl <| evs.cons rfl <| evs.cons rfl <| evs.nil) (by repeat (first | exact SubD.refl _ | exact SubD.nil _ | refine SubD.cons (by repeat (first | with_reducible exact mem_head | apply mem_tail)) ?_ | apply SubD.skip)) (by repeat (first | exact Sel.nil | refine Sel.cons (by repeat (first | with_reducible exact Pull.here | apply Pull.there)) ?_)) (take_spec (qinv_awake _ (by decide)) (by omega) (by omega)) ?_
  rintro _ _ _ ⟨rfl, rfl, rfl⟩
  refine L.norm (by repeat (first | with_reducible exact AppL.nil | apply AppL.cons)) (by repeat (first | with_reducible exact AppL.nil | apply AppL.cons)) ?_
  refine L.guardT (dj := 28) rfl rfl rfl ?_
  refine L.notB rfl rfl ?_
  refine L.pickT rfl rfl rfl ?_
  refine L.assign rfl rfl ?_
  refine L.nil ?_
  refine T.thenN ?_
  refine T.ret ?_
  exact T.ret1 rfl rfl ⟨congrArg Value.bool (by first | rfl | decide), rfl, rfl⟩ (by repeat (first | exact SubD.refl _ | exact SubD.nil _ | refine SubD.cons (by repeat (first | with_reducible exact mem_head | apply mem_tail)) ?_ | apply SubD.skip)) (by repeat (first | exact Ent.refl _ | refine Fit.cons (by repeat (first | with_reducible exact Pull.here | apply Pull.there)) ?_ | apply Ent.skip))
theorem full_law (each most now : Int) : Spec Try.prog 7 [.int .i64 each, .int .i64 most, .int .i64 now] [] [] (fun v D' M' => v = .bool true ∧ D' = [] ∧ M' = []) := by
  refine Spec.intro (n := 97) Try.func7 rfl rfl (by decide) (Nat.le_of_ble_eq_true rfl) rfl (fun _ => (by repeat (first | with_reducible exact AppL.nil | apply AppL.cons))) (fun _ => (by repeat (first | with_reducible exact AppL.nil | apply AppL.cons))) ?_
  intro σ D M
  refine T.seq ?_
  refine T.region ?_
  refine L.assign rfl rfl ?_
  refine L.nil ?_
  refine T.thenN ?_
  refine T.seq ?_
  refine T.region ?_
  refine L.move rfl rfl ?_
  refine L.move rfl rfl ?_
  refine L.call rfl (evs.cons rfl <| evs.cons rfl <| evs.nil) (by repeat (first | exact SubD.refl _ | exact SubD.nil _ | refine SubD.cons (by repeat (first | with_reducible exact mem_head | apply mem_tail)) ?_ | apply SubD.skip)) (by repeat (first | exact Sel.nil | refine Sel.cons (by repeat (first | with_reducible exact Pull.here | apply Pull.there)) ?_)) (rate_spec _ _) ?_
  rintro _ _ _ ⟨E, Mo, hE1, hE2, hE3, hE4, rfl, rfl, rfl⟩
  refine L.norm (by repeat (first | with_reducible exact AppL.nil | apply AppL.cons)) (by repeat (first | with_reducible exact AppL.nil | apply AppL.cons)) ?_
  refine L.alloc rfl ze24 (fun b1 => ?_)
  refine L.storeA ag24 rfl rfl rfl (by repeat (first | exact One.nil | refine One.cons rfl ?_ | assumption)) (by repeat (first | with_reducible exact Upd.here | apply Upd.there)) (by repeat (first | exact SetAt.here | exact SetAt.none | exact SetAt.whole rfl | apply SetAt.more | apply SetAt.there)) ?_
  refine L.nil ?_
  refine T.thenN ?_
  refine T.seq ?_
  refine T.region ?_
  refine L.loadA rfl ag24 rfl (by first | exact CellsN.ofM (by repeat (first | with_reducible exact mem_head | apply mem_tail)) (by repeat (first | exact AtN.nil | apply AtN.take | apply AtN.skip)) | exact CellsN.ofD (by repeat (first | with_reducible exact mem_head | apply mem_tail)) rfl | exact CellsN.ofF (by repeat (first | with_reducible exact mem_head | apply mem_tail)) (by repeat (first | exact AtN.nil | apply AtN.take | apply AtN.skip)) | exact CellsN.ofDs (by repeat (first | with_reducible exact mem_head | apply mem_tail)) (by repeat (first | exact AtN.nil | apply AtN.take | apply AtN.skip))) ?_
  refine L.call rfl (evs.cons rfl <| evs.nil) (by repeat (first | exact SubD.refl _ | exact SubD.nil _ | refine SubD.cons (by repeat (first | with_reducible exact mem_head | apply mem_tail)) ?_ | apply SubD.skip)) (by repeat (first | exact Sel.nil | refine Sel.cons (by repeat (first | with_reducible exact Pull.here | apply Pull.there)) ?_)) (new_spec _ _ (by omega) (by omega) (by omega)) ?_
  rintro _ _ _ ⟨q, mb, rfl, rfl, rfl⟩
  refine L.norm (by repeat (first | with_reducible exact AppL.nil | apply AppL.cons)) (by repeat (first | with_reducible exact AppL.nil | apply AppL.cons)) ?_
  refine L.move rfl rfl ?_
  refine L.extract rfl rfl rfl ?_
  refine L.extract rfl rfl rfl ?_
  refine L.assign rfl rfl ?_
  refine L.assign rfl rfl ?_
  refine L.nil ?_
  refine T.thenN ?_
  refine T.seq ?_
  refine T.seq ?_
  refine T.region ?_
  refine L.call rfl (evs.nil) (by repeat (first | exact SubD.refl _ | exact SubD.nil _ | refine SubD.cons (by repeat (first | with_reducible exact mem_head | apply mem_tail)) ?_ | apply SubD.skip)) (by repeat (first | exact Sel.nil | refine Sel.cons (by repeat (first | with_reducible exact Pull.here | apply Pull.there)) ?_)) (awake_spec) ?_
  rintro _ _ _ ⟨rfl, rfl, rfl⟩
  refine L.norm (by repeat (first | with_reducible exact AppL.nil | apply AppL.cons)) (by repeat (first | with_reducible exact AppL.nil | apply AppL.cons)) ?_
  refine L.notB rfl rfl ?_
  refine L.move rfl rfl ?_
  refine L.guardT (dj := 21) rfl rfl rfl ?_
  refine L.move rfl rfl ?_
  refine L.guardT (dj := 21) rfl rfl rfl ?_
  refine L.neI rfl rfl rfl ?_
  refine L.pickF rfl rfl rfl ?_
  refine L.nil ?_
  refine T.thenN ?_
  refine T.condF rfl rfl ?_
  refine T.skip ?_
  refine T.thenN ?_
  refine T.seq ?_
  refine T.region ?_
  refine L.move rfl rfl ?_
  refine L.call rfl (evs.cons rfl <| evs.nil) (by repeat (first | exact SubD.refl _ | exact SubD.nil _ | refine SubD.cons (by repeat (first | with_reducible exact mem_head | apply mem_tail)) ?_ | apply SubD.skip)) (by repeat (first | exact Sel.nil | refine Sel.cons (by repeat (first | with_reducible exact Pull.here | apply Pull.there)) ?_)) (tick_spec _) ?_
  rintro _ _ _ ⟨t, ht1, ht2, rfl, rfl, rfl⟩
  refine L.norm (by repeat (first | with_reducible exact AppL.nil | apply AppL.cons)) (by repeat (first | with_reducible exact AppL.nil | apply AppL.cons)) ?_
  refine L.assign rfl rfl ?_
  refine L.nil ?_
  refine T.thenN ?_
  refine T.seq ?_
  refine T.seq ?_
  refine T.region ?_
  refine L.move rfl rfl ?_
  first | refine L.field0 rfl fo24_1 rfl ?_ | refine L.field rfl fo24_1 rfl ?_
  refine L.load rfl sc3 rfl (by first | exact Cells.ofM (by repeat (first | with_reducible exact mem_head | apply mem_tail)) (by repeat (first | exact AtN.nil | apply AtN.take | apply AtN.skip)) | exact Cells.ofD (by repeat (first | with_reducible exact mem_head | apply mem_tail)) | exact Cells.ofF (by repeat (first | with_reducible exact mem_head | apply mem_tail)) (by repeat (first | exact AtN.nil | apply AtN.take | apply AtN.skip)) | exact Cells.ofDs (by repeat (first | with_reducible exact mem_head | apply mem_tail)) (by repeat (first | exact AtN.nil | apply AtN.take | apply AtN.skip))) ?_
  refine L.move rfl rfl ?_
  refine L.call rfl (evs.cons rfl <| evs.cons rfl <| evs.cons rfl <| evs.cons rfl <| evs.nil) (by repeat (first | exact SubD.refl _ | exact SubD.nil _ | refine SubD.cons (by repeat (first | with_reducible exact mem_head | apply mem_tail)) ?_ | apply SubD.skip)) (by repeat (first | exact Sel.nil | refine Sel.cons (by repeat (first | with_reducible exact Pull.here | apply Pull.there)) ?_)) (take_spec (qinv_nil (by omega)) (by omega) (by omega)) ?_
  rintro _ _ _ ⟨rfl, rfl, rfl⟩
  refine L.norm (by repeat (first | with_reducible exact AppL.nil | apply AppL.cons)) (by repeat (first | with_reducible exact AppL.nil | apply AppL.cons)) ?_
  rw [full1 (by omega) (by omega), full1b (by omega) (by omega)]
  refine L.notB rfl rfl ?_
  refine L.move rfl rfl ?_
  refine L.guardT (dj := 33) rfl rfl rfl ?_
  refine L.move rfl rfl ?_
  refine L.guardT (dj := 33) rfl rfl rfl ?_
  refine L.move rfl rfl ?_
  refine L.guardT (dj := 33) rfl rfl rfl ?_
  refine L.call rfl (evs.cons rfl <| evs.cons rfl <| evs.cons rfl <| evs.nil) (by repeat (first | exact SubD.refl _ | exact SubD.nil _ | refine SubD.cons (by repeat (first | with_reducible exact mem_head | apply mem_tail)) ?_ | apply SubD.skip)) (by repeat (first | exact Sel.nil | refine Sel.cons (by repeat (first | with_reducible exact Pull.here | apply Pull.there)) ?_)) (has_spec (qinv_one (by omega) (by omega)) (by omega) (by omega)) ?_
  rintro _ _ _ ⟨rfl, rfl, rfl⟩
  refine L.norm (by repeat (first | with_reducible exact AppL.nil | apply AppL.cons)) (by repeat (first | with_reducible exact AppL.nil | apply AppL.cons)) ?_
  refine L.guardT (dj := 33) rfl rfl rfl ?_
  refine L.neI rfl rfl rfl ?_
  refine L.pickF rfl rfl rfl ?_
  refine L.move rfl rfl ?_
  refine L.known (t := 39) rfl (show _ = Value.bool false from congrArg Value.bool (full3 (by omega))) ?_
  refine L.guardT (dj := 39) rfl rfl rfl ?_
  refine L.move rfl rfl ?_
  refine L.guardT (dj := 39) rfl rfl rfl ?_
  refine L.move rfl rfl ?_
  refine L.guardT (dj := 39) rfl rfl rfl ?_
  refine L.call rfl (evs.cons rfl <| evs.cons rfl <| evs.cons rfl <| evs.cons rfl <| evs.nil) (by repeat (first | exact SubD.refl _ | exact SubD.nil _ | refine SubD.cons (by repeat (first | with_reducible exact mem_head | apply mem_tail)) ?_ | apply SubD.skip)) (by repeat (first | exact Sel.nil | refine Sel.cons (by repeat (first | with_reducible exact Pull.here | apply Pull.there)) ?_)) (take_spec (qinv_one (by omega) (by omega)) (by omega) (by omega)) ?_
  rintro _ _ _ ⟨rfl, rfl, rfl⟩
  refine L.norm (by repeat (first | with_reducible exact AppL.nil | apply AppL.cons)) (by repeat (first | with_reducible exact AppL.nil | apply AppL.cons)) ?_
  rw [full2 (by omega) (by omega), full2b (by omega) (by omega)]
  refine L.pickF rfl rfl rfl ?_
  refine L.nil ?_
  refine T.thenN ?_
  refine T.condF rfl rfl ?_
  refine T.skip ?_
  refine T.thenN ?_
  refine T.seq ?_
  refine T.region ?_
  first | refine L.field0 rfl fo24_1 rfl ?_ | refine L.field rfl fo24_1 rfl ?_
  refine L.load rfl sc3 rfl (by first | exact Cells.ofM (by repeat (first | with_reducible exact mem_head | apply mem_tail)) (by repeat (first | exact AtN.nil | apply AtN.take | apply AtN.skip)) | exact Cells.ofD (by repeat (first | with_reducible exact mem_head | apply mem_tail)) | exact Cells.ofF (by repeat (first | with_reducible exact mem_head | apply mem_tail)) (by repeat (first | exact AtN.nil | apply AtN.take | apply AtN.skip)) | exact Cells.ofDs (by repeat (first | with_reducible exact mem_head | apply mem_tail)) (by repeat (first | exact AtN.nil | apply AtN.take | apply AtN.skip))) ?_
  first | refine L.field0 rfl fo24_0 rfl ?_ | refine L.field rfl fo24_0 rfl ?_
  refine L.load rfl sc3 rfl (by first | exact Cells.ofM (by repeat (first | with_reducible exact mem_head | apply mem_tail)) (by repeat (first | exact AtN.nil | apply AtN.take | apply AtN.skip)) | exact Cells.ofD (by repeat (first | with_reducible exact mem_head | apply mem_tail)) | exact Cells.ofF (by repeat (first | with_reducible exact mem_head | apply mem_tail)) (by repeat (first | exact AtN.nil | apply AtN.take | apply AtN.skip)) | exact Cells.ofDs (by repeat (first | with_reducible exact mem_head | apply mem_tail)) (by repeat (first | exact AtN.nil | apply AtN.take | apply AtN.skip))) ?_
  refine L.addN rfl rfl rfl (by omega) ?_
  refine L.subN rfl rfl rfl (by omega) ?_
  first | refine L.field0 rfl fo24_0 rfl ?_ | refine L.field rfl fo24_0 rfl ?_
  refine L.load rfl sc3 rfl (by first | exact Cells.ofM (by repeat (first | with_reducible exact mem_head | apply mem_tail)) (by repeat (first | exact AtN.nil | apply AtN.take | apply AtN.skip)) | exact Cells.ofD (by repeat (first | with_reducible exact mem_head | apply mem_tail)) | exact Cells.ofF (by repeat (first | with_reducible exact mem_head | apply mem_tail)) (by repeat (first | exact AtN.nil | apply AtN.take | apply AtN.skip)) | exact Cells.ofDs (by repeat (first | with_reducible exact mem_head | apply mem_tail)) (by repeat (first | exact AtN.nil | apply AtN.take | apply AtN.skip))) ?_
  refine L.quoN rfl rfl rfl (by omega) ?_
  refine L.assign rfl rfl ?_
  refine L.nil ?_
  refine T.thenN ?_
  refine T.seq ?_
  have hk := full_k (E := E) (Mo := Mo) (t := t) (by omega) (by omega) (by omega) (by omega)
  generalize (Mo + E - 1) / E = k at hk ⊢
  have hk1 := hk.1
  have hk2 := hk.2.1
  have hk3 := hk.2.2.1
  refine T.regionQ (by kernel_rfl) (by kernel_rfl) ?_
  refine L.move rfl rfl ?_
  refine L.move rfl rfl ?_
  refine L.move rfl rfl ?_
  refine L.addN rfl rfl rfl (by omega) ?_
  refine L.callQ rfl (evs.cons rfl <| evs.cons rfl <| evs.cons rfl <| evs.nil) (by repeat (first | exact SubD.refl _ | exact SubD.nil _ | refine SubD.cons (by repeat (first | with_reducible exact mem_head | apply mem_tail)) ?_ | apply SubD.skip)) (by repeat (first | exact Sel.nil | refine Sel.cons (by repeat (first | with_reducible exact Pull.here | apply Pull.there)) ?_)) (has_spec (qinv_one (by omega) (by omega)) (by omega) (by omega)) (by rintro u D1 M1 ⟨rfl, rfl, rfl⟩; exact ⟨rfl, (by repeat (first | exact Ent.refl _ | refine Fit.cons (by repeat (first | with_reducible exact Pull.here | apply Pull.there)) ?_ | apply Ent.skip))⟩) ?_
  first | refine L.field0 rfl fo24_1 rfl ?_ | refine L.field rfl fo24_1 rfl ?_
  refine L.load rfl sc3 rfl (by first | exact Cells.ofM (by repeat (first | with_reducible exact mem_head | apply mem_tail)) (by repeat (first | exact AtN.nil | apply AtN.take | apply AtN.skip)) | exact Cells.ofD (by repeat (first | with_reducible exact mem_head | apply mem_tail)) | exact Cells.ofF (by repeat (first | with_reducible exact mem_head | apply mem_tail)) (by repeat (first | exact AtN.nil | apply AtN.take | apply AtN.skip)) | exact Cells.ofDs (by repeat (first | with_reducible exact mem_head | apply mem_tail)) (by repeat (first | exact AtN.nil | apply AtN.take | apply AtN.skip))) ?_
  refine L.eqI rfl rfl rfl ?_
  refine L.move rfl rfl ?_
  refine L.known (t := 61) rfl (show _ = Value.bool true from congrArg Value.bool (full4 hk)) ?_
  refine L.guardT (dj := 61) rfl rfl rfl ?_
  refine L.move rfl rfl ?_
  refine L.guardT (dj := 61) rfl rfl rfl ?_
  refine L.move rfl rfl ?_
  refine L.guardT (dj := 61) rfl rfl rfl ?_
  refine L.move rfl rfl ?_
  refine L.guardT (dj := 61) rfl rfl rfl ?_
  refine L.addN rfl rfl rfl (by omega) ?_
  refine L.guardT (dj := 61) rfl rfl rfl ?_
  refine L.subN rfl rfl rfl (by omega) ?_
  refine L.guardT (dj := 61) rfl rfl rfl ?_
  refine L.callQ rfl (evs.cons rfl <| evs.cons rfl <| evs.cons rfl <| evs.nil) (by repeat (first | exact SubD.refl _ | exact SubD.nil _ | refine SubD.cons (by repeat (first | with_reducible exact mem_head | apply mem_tail)) ?_ | apply SubD.skip)) (by repeat (first | exact Sel.nil | refine Sel.cons (by repeat (first | with_reducible exact Pull.here | apply Pull.there)) ?_)) (has_spec (qinv_one (by omega) (by omega)) (by omega) (by omega)) (by rintro u D1 M1 ⟨rfl, rfl, rfl⟩; exact ⟨rfl, (by repeat (first | exact Ent.refl _ | refine Fit.cons (by repeat (first | with_reducible exact Pull.here | apply Pull.there)) ?_ | apply Ent.skip))⟩) ?_
  refine L.guardT (dj := 61) rfl rfl rfl ?_
  refine L.move rfl rfl ?_
  refine L.guardT (dj := 61) rfl rfl rfl ?_
  refine L.subN rfl rfl rfl (by omega) ?_
  refine L.guardT (dj := 61) rfl rfl rfl ?_
  first | refine L.field0 rfl fo24_0 rfl ?_ | refine L.field rfl fo24_0 rfl ?_
  refine L.guardT (dj := 61) rfl rfl rfl ?_
  refine L.load rfl sc3 rfl (by first | exact Cells.ofM (by repeat (first | with_reducible exact mem_head | apply mem_tail)) (by repeat (first | exact AtN.nil | apply AtN.take | apply AtN.skip)) | exact Cells.ofD (by repeat (first | with_reducible exact mem_head | apply mem_tail)) | exact Cells.ofF (by repeat (first | with_reducible exact mem_head | apply mem_tail)) (by repeat (first | exact AtN.nil | apply AtN.take | apply AtN.skip)) | exact Cells.ofDs (by repeat (first | with_reducible exact mem_head | apply mem_tail)) (by repeat (first | exact AtN.nil | apply AtN.take | apply AtN.skip))) ?_
  refine L.guardT (dj := 61) rfl rfl rfl ?_
  refine L.mulN rfl rfl rfl (by omega) ?_
  refine L.guardT (dj := 61) rfl rfl rfl ?_
  first | refine L.field0 rfl fo24_1 rfl ?_ | refine L.field rfl fo24_1 rfl ?_
  refine L.guardT (dj := 61) rfl rfl rfl ?_
  refine L.load rfl sc3 rfl (by first | exact Cells.ofM (by repeat (first | with_reducible exact mem_head | apply mem_tail)) (by repeat (first | exact AtN.nil | apply AtN.take | apply AtN.skip)) | exact Cells.ofD (by repeat (first | with_reducible exact mem_head | apply mem_tail)) | exact Cells.ofF (by repeat (first | with_reducible exact mem_head | apply mem_tail)) (by repeat (first | exact AtN.nil | apply AtN.take | apply AtN.skip)) | exact Cells.ofDs (by repeat (first | with_reducible exact mem_head | apply mem_tail)) (by repeat (first | exact AtN.nil | apply AtN.take | apply AtN.skip))) ?_
  refine L.guardT (dj := 61) rfl rfl rfl ?_
  refine L.minI rfl rfl rfl ?_
  refine L.guardT (dj := 61) rfl rfl rfl ?_
  refine L.eqI rfl rfl rfl ?_
  refine L.pickT rfl rfl rfl ?_
  refine L.move rfl rfl ?_
  refine L.known (t := 78) rfl (show _ = Value.bool true from congrArg Value.bool (full5 hk)) ?_
  refine L.guardT (dj := 78) rfl rfl rfl ?_
  refine L.move rfl rfl ?_
  refine L.guardT (dj := 78) rfl rfl rfl ?_
  refine L.move rfl rfl ?_
  refine L.guardT (dj := 78) rfl rfl rfl ?_
  refine L.move rfl rfl ?_
  refine L.guardT (dj := 78) rfl rfl rfl ?_
  refine L.mulN rfl rfl rfl (by omega) ?_
  refine L.guardT (dj := 78) rfl rfl rfl ?_
  refine L.addN rfl rfl rfl (by omega) ?_
  refine L.guardT (dj := 78) rfl rfl rfl ?_
  refine L.callQ rfl (evs.cons rfl <| evs.cons rfl <| evs.cons rfl <| evs.nil) (by repeat (first | exact SubD.refl _ | exact SubD.nil _ | refine SubD.cons (by repeat (first | with_reducible exact mem_head | apply mem_tail)) ?_ | apply SubD.skip)) (by repeat (first | exact Sel.nil | refine Sel.cons (by repeat (first | with_reducible exact Pull.here | apply Pull.there)) ?_)) (has_spec (qinv_one (by omega) (by omega)) (by omega) (by omega)) (by rintro u D1 M1 ⟨rfl, rfl, rfl⟩; exact ⟨rfl, (by repeat (first | exact Ent.refl _ | refine Fit.cons (by repeat (first | with_reducible exact Pull.here | apply Pull.there)) ?_ | apply Ent.skip))⟩) ?_
  refine L.guardT (dj := 78) rfl rfl rfl ?_
  first | refine L.field0 rfl fo24_1 rfl ?_ | refine L.field rfl fo24_1 rfl ?_
  refine L.guardT (dj := 78) rfl rfl rfl ?_
  refine L.load rfl sc3 rfl (by first | exact Cells.ofM (by repeat (first | with_reducible exact mem_head | apply mem_tail)) (by repeat (first | exact AtN.nil | apply AtN.take | apply AtN.skip)) | exact Cells.ofD (by repeat (first | with_reducible exact mem_head | apply mem_tail)) | exact Cells.ofF (by repeat (first | with_reducible exact mem_head | apply mem_tail)) (by repeat (first | exact AtN.nil | apply AtN.take | apply AtN.skip)) | exact Cells.ofDs (by repeat (first | with_reducible exact mem_head | apply mem_tail)) (by repeat (first | exact AtN.nil | apply AtN.take | apply AtN.skip))) ?_
  refine L.guardT (dj := 78) rfl rfl rfl ?_
  refine L.eqI rfl rfl rfl ?_
  refine L.pickT rfl rfl rfl ?_
  refine L.move rfl rfl ?_
  refine L.known (t := 89) rfl (show _ = Value.bool true from congrArg Value.bool (full6 hk)) ?_
  refine L.guardT (dj := 89) rfl rfl rfl ?_
  refine L.move rfl rfl ?_
  refine L.guardT (dj := 89) rfl rfl rfl ?_
  refine L.move rfl rfl ?_
  refine L.guardT (dj := 89) rfl rfl rfl ?_
  refine L.subN rfl rfl rfl (by omega) ?_
  refine L.guardT (dj := 89) rfl rfl rfl ?_
  refine L.maxI rfl rfl rfl ?_
  refine L.guardT (dj := 89) rfl rfl rfl ?_
  refine L.callQ rfl (evs.cons rfl <| evs.cons rfl <| evs.cons rfl <| evs.nil) (by repeat (first | exact SubD.refl _ | exact SubD.nil _ | refine SubD.cons (by repeat (first | with_reducible exact mem_head | apply mem_tail)) ?_ | apply SubD.skip)) (by repeat (first | exact Sel.nil | refine Sel.cons (by repeat (first | with_reducible exact Pull.here | apply Pull.there)) ?_)) (has_spec (qinv_one (by omega) (by omega)) (by omega) (by omega)) (by rintro u D1 M1 ⟨rfl, rfl, rfl⟩; exact ⟨rfl, (by repeat (first | exact Ent.refl _ | refine Fit.cons (by repeat (first | with_reducible exact Pull.here | apply Pull.there)) ?_ | apply Ent.skip))⟩) ?_
  refine L.guardT (dj := 89) rfl rfl rfl ?_
  refine L.eqI rfl rfl rfl ?_
  refine L.pickT rfl rfl rfl ?_
  refine L.assign rfl rfl ?_
  refine L.nilQ ?_
  refine T.thenN ?_
  refine T.ret ?_
  exact T.ret1 rfl rfl ⟨congrArg Value.bool (full7 hk), rfl, rfl⟩ (by repeat (first | exact SubD.refl _ | exact SubD.nil _ | refine SubD.cons (by repeat (first | with_reducible exact mem_head | apply mem_tail)) ?_ | apply SubD.skip)) (by repeat (first | exact Ent.refl _ | refine Fit.cons (by repeat (first | with_reducible exact Pull.here | apply Pull.there)) ?_ | apply Ent.skip))
theorem rates_ok (each most : Int) (h1 : 1 ≤ each) (h2 : each ≤ most) (h3 : most ≤ 1048576) : Spec Try.prog 5 [.int .i64 each, .int .i64 most] [] [] (fun v D' M' => v = .bool true ∧ D' = [] ∧ M' = []) := by
  refine Spec.intro (n := 46) Try.func5 rfl rfl (by decide) (Nat.le_of_ble_eq_true rfl) rfl (fun _ => (by repeat (first | with_reducible exact AppL.nil | apply AppL.cons))) (fun _ => (by repeat (first | with_reducible exact AppL.nil | apply AppL.cons))) ?_
  intro σ D M
  refine T.seq ?_
  refine T.region ?_
  refine L.assign rfl rfl ?_
  refine L.nil ?_
  refine T.thenN ?_
  refine T.seq ?_
  refine T.region ?_
  refine L.move rfl rfl ?_
  refine L.move rfl rfl ?_
  refine L.build rfl bu24 (BP.one rfl rfl rfl <| BP.one rfl rfl rfl <| BP.done) ?_
  refine L.call rfl (evs.cons rfl <| evs.nil) (by repeat (first | exact SubD.refl _ | exact SubD.nil _ | refine SubD.cons (by repeat (first | with_reducible exact mem_head | apply mem_tail)) ?_ | apply SubD.skip)) (by repeat (first | exact Sel.nil | refine Sel.cons (by repeat (first | with_reducible exact Pull.here | apply Pull.there)) ?_)) (new_spec _ _ h1 h2 h3) ?_
  rintro _ _ _ ⟨q, mb, rfl, rfl, rfl⟩
  refine L.norm (by repeat (first | with_reducible exact AppL.nil | apply AppL.cons)) (by repeat (first | with_reducible exact AppL.nil | apply AppL.cons)) ?_
  refine L.move rfl rfl ?_
  refine L.extract rfl rfl rfl ?_
  refine L.extract rfl rfl rfl ?_
  refine L.assign rfl rfl ?_
  refine L.assign rfl rfl ?_
  refine L.nil ?_
  refine T.thenN ?_
  refine T.seq ?_
  refine T.region ?_
  refine L.move rfl rfl ?_
  refine L.geI rfl rfl rfl ?_
  refine L.move rfl rfl ?_
  refine L.known (t := 17) rfl (show _ = Value.bool true from congrArg Value.bool (decide_eq_true h1)) ?_
  refine L.guardT (dj := 17) rfl rfl rfl ?_
  refine L.move rfl rfl ?_
  refine L.guardT (dj := 17) rfl rfl rfl ?_
  refine L.move rfl rfl ?_
  refine L.guardT (dj := 17) rfl rfl rfl ?_
  refine L.geI rfl rfl rfl ?_
  refine L.pickT rfl rfl rfl ?_
  refine L.move rfl rfl ?_
  refine L.known (t := 22) rfl (show _ = Value.bool true from congrArg Value.bool (decide_eq_true h2)) ?_
  refine L.guardT (dj := 22) rfl rfl rfl ?_
  refine L.move rfl rfl ?_
  refine L.guardT (dj := 22) rfl rfl rfl ?_
  refine L.leI rfl rfl rfl ?_
  refine L.pickT rfl rfl rfl ?_
  refine L.assign rfl rfl ?_
  refine L.nil ?_
  refine T.thenN ?_
  refine T.seq ?_
  refine T.region ?_
  refine L.call rfl (evs.nil) (by repeat (first | exact SubD.refl _ | exact SubD.nil _ | refine SubD.cons (by repeat (first | with_reducible exact mem_head | apply mem_tail)) ?_ | apply SubD.skip)) (by repeat (first | exact Sel.nil | refine Sel.cons (by repeat (first | with_reducible exact Pull.here | apply Pull.there)) ?_)) (awake_spec) ?_
  rintro _ _ _ ⟨rfl, rfl, rfl⟩
  refine L.norm (by repeat (first | with_reducible exact AppL.nil | apply AppL.cons)) (by repeat (first | with_reducible exact AppL.nil | apply AppL.cons)) ?_
  refine L.move rfl rfl ?_
  refine L.guardT (dj := 27) rfl rfl rfl ?_
  refine L.move rfl rfl ?_
  refine L.guardT (dj := 27) rfl rfl rfl ?_
  refine L.eqI rfl rfl rfl ?_
  refine L.guardT (dj := 27) rfl rfl rfl ?_
  refine L.move rfl rfl ?_
  refine L.guardT (dj := 27) rfl rfl rfl ?_
  refine L.eqlB Try.underlying4 rfl rfl rfl ?_
  refine L.pickT rfl rfl rfl ?_
  refine L.move rfl rfl ?_
  refine L.known (t := 33) rfl (show _ = Value.bool true from congrArg Value.bool (by rw [decide_eq_true h3]; rfl)) ?_
  refine L.guardT (dj := 33) rfl rfl rfl ?_
  refine L.move rfl rfl ?_
  refine L.guardT (dj := 33) rfl rfl rfl ?_
  refine L.neqPtr rfl Try.underlying26 rfl rfl ?_
  refine L.guardT (dj := 33) rfl rfl rfl ?_
  refine L.move rfl rfl ?_
  refine L.guardT (dj := 33) rfl rfl rfl ?_
  refine L.eqlB Try.underlying4 rfl rfl rfl ?_
  refine L.pickT rfl rfl rfl ?_
  refine L.move rfl rfl ?_
  refine L.known (t := 39) rfl (show _ = Value.bool true from congrArg Value.bool (by rw [decide_eq_true h3]; rfl)) ?_
  refine L.guardT (dj := 39) rfl rfl rfl ?_
  refine L.move rfl rfl ?_
  refine L.guardT (dj := 39) rfl rfl rfl ?_
  refine L.move rfl rfl ?_
  refine L.known (t := 41) rfl (show _ = Value.bool true from congrArg Value.bool (decide_eq_true h3)) ?_
  refine L.guardF (dj := 41) (c := true) rfl rfl rfl rfl rfl (by decide) ?_
  refine L.guardF (dj := 41) (c := true) rfl rfl rfl rfl rfl (by decide) ?_
  refine L.guardT (dj := 39) rfl rfl rfl ?_
  refine L.pickT rfl rfl rfl ?_
  refine L.pickT rfl rfl rfl ?_
  refine L.assign rfl rfl ?_
  refine L.nil ?_
  refine T.thenN ?_
  refine T.ret ?_
  exact T.ret1 rfl rfl ⟨by first | rfl | exact congrArg Value.bool (by first | rfl | decide), rfl, rfl⟩ (by repeat (first | exact SubD.refl _ | exact SubD.nil _ | refine SubD.cons (by repeat (first | with_reducible exact mem_head | apply mem_tail)) ?_ | apply SubD.skip)) (by repeat (first | exact Ent.refl _ | refine Fit.cons (by repeat (first | with_reducible exact Pull.here | apply Pull.there)) ?_ | apply Ent.skip))
theorem rates_bad (each most : Int) (h : ¬ (1 ≤ each ∧ each ≤ most ∧ most ≤ 1048576)) : Spec Try.prog 5 [.int .i64 each, .int .i64 most] [] [] (fun v D' M' => v = .bool true ∧ D' = [] ∧ M' = []) := by
  refine Spec.intro (n := 46) Try.func5 rfl rfl (by decide) (Nat.le_of_ble_eq_true rfl) rfl (fun _ => (by repeat (first | with_reducible exact AppL.nil | apply AppL.cons))) (fun _ => (by repeat (first | with_reducible exact AppL.nil | apply AppL.cons))) ?_
  intro σ D M
  refine T.seq ?_
  refine T.region ?_
  refine L.assign rfl rfl ?_
  refine L.nil ?_
  refine T.thenN ?_
  refine T.seq ?_
  refine T.region ?_
  refine L.move rfl rfl ?_
  refine L.move rfl rfl ?_
  refine L.build rfl bu24 (BP.one rfl rfl rfl <| BP.one rfl rfl rfl <| BP.done) ?_
  refine L.call rfl (evs.cons rfl <| evs.nil) (by repeat (first | exact SubD.refl _ | exact SubD.nil _ | refine SubD.cons (by repeat (first | with_reducible exact mem_head | apply mem_tail)) ?_ | apply SubD.skip)) (by repeat (first | exact Sel.nil | refine Sel.cons (by repeat (first | with_reducible exact Pull.here | apply Pull.there)) ?_)) (new_bad _ _ h) ?_
  rintro _ _ _ ⟨rfl, rfl, rfl⟩
  refine L.norm (by repeat (first | with_reducible exact AppL.nil | apply AppL.cons)) (by repeat (first | with_reducible exact AppL.nil | apply AppL.cons)) ?_
  refine L.move rfl rfl ?_
  refine L.extract rfl rfl rfl ?_
  refine L.extract rfl rfl rfl ?_
  refine L.assign rfl rfl ?_
  refine L.assign rfl rfl ?_
  refine L.nil ?_
  refine T.thenN ?_
  refine T.seq ?_
  refine T.region ?_
  refine L.move rfl rfl ?_
  refine L.geI rfl rfl rfl ?_
  refine L.move rfl rfl ?_
  refine L.part (t := 17) rfl (fun h1 => ?_) (fun h1 => ?_)
  · try simp only [decide_eq_true_eq, decide_eq_false_iff_not, Bool.not_eq_true', Bool.not_eq_false', Bool.and_eq_true, Bool.or_eq_true] at h1
    refine L.guardT (dj := 17) rfl rfl rfl ?_
    refine L.move rfl rfl ?_
    refine L.guardT (dj := 17) rfl rfl rfl ?_
    refine L.move rfl rfl ?_
    refine L.guardT (dj := 17) rfl rfl rfl ?_
    refine L.geI rfl rfl rfl ?_
    refine L.pickT rfl rfl rfl ?_
    refine L.move rfl rfl ?_
    refine L.part (t := 22) rfl (fun h2 => ?_) (fun h2 => ?_)
    · try simp only [decide_eq_true_eq, decide_eq_false_iff_not, Bool.not_eq_true', Bool.not_eq_false', Bool.and_eq_true, Bool.or_eq_true] at h2
      refine L.guardT (dj := 22) rfl rfl rfl ?_
      refine L.move rfl rfl ?_
      refine L.guardT (dj := 22) rfl rfl rfl ?_
      refine L.leI rfl rfl rfl ?_
      refine L.pickT rfl rfl rfl ?_
      refine L.assign rfl rfl ?_
      refine L.nil ?_
      refine T.thenN ?_
      refine T.seq ?_
      refine T.region ?_
      refine L.call rfl (evs.nil) (by repeat (first | exact SubD.refl _ | exact SubD.nil _ | refine SubD.cons (by repeat (first | with_reducible exact mem_head | apply mem_tail)) ?_ | apply SubD.skip)) (by repeat (first | exact Sel.nil | refine Sel.cons (by repeat (first | with_reducible exact Pull.here | apply Pull.there)) ?_)) (awake_spec) ?_
      rintro _ _ _ ⟨rfl, rfl, rfl⟩
      refine L.norm (by repeat (first | with_reducible exact AppL.nil | apply AppL.cons)) (by repeat (first | with_reducible exact AppL.nil | apply AppL.cons)) ?_
      refine L.move rfl rfl ?_
      refine L.guardT (dj := 27) rfl rfl rfl ?_
      refine L.move rfl rfl ?_
      refine L.guardT (dj := 27) rfl rfl rfl ?_
      refine L.eqI rfl rfl rfl ?_
      refine L.guardT (dj := 27) rfl rfl rfl ?_
      refine L.move rfl rfl ?_
      refine L.guardT (dj := 27) rfl rfl rfl ?_
      refine L.eqlB Try.underlying4 rfl rfl rfl ?_
      refine L.pickT rfl rfl rfl ?_
      refine L.move rfl rfl ?_
      refine L.known (t := 33) rfl (show _ = Value.bool true from congrArg Value.bool (by first | rfl | decide | (rw [show decide (most ≤ 1048576) = false from decide_eq_false (by omega)]; done) | (rw [show decide (most ≤ 1048576) = false from decide_eq_false (by omega)]; rfl))) ?_
      refine L.guardT (dj := 33) rfl rfl rfl ?_
      refine L.move rfl rfl ?_
      refine L.guardT (dj := 33) rfl rfl rfl ?_
      refine L.neqPtr rfl Try.underlying26 rfl rfl ?_
      refine L.guardT (dj := 33) rfl rfl rfl ?_
      refine L.move rfl rfl ?_
      refine L.guardT (dj := 33) rfl rfl rfl ?_
      refine L.eqlB Try.underlying4 rfl rfl rfl ?_
      refine L.pickT rfl rfl rfl ?_
      refine L.move rfl rfl ?_
      refine L.known (t := 39) rfl (show _ = Value.bool true from congrArg Value.bool (by first | rfl | decide | (rw [show decide (most ≤ 1048576) = false from decide_eq_false (by omega)]; done) | (rw [show decide (most ≤ 1048576) = false from decide_eq_false (by omega)]; rfl))) ?_
      refine L.guardT (dj := 39) rfl rfl rfl ?_
      refine L.move rfl rfl ?_
      refine L.guardT (dj := 39) rfl rfl rfl ?_
      refine L.move rfl rfl ?_
      refine L.known (t := 41) rfl (show _ = Value.bool false from congrArg Value.bool (by first | rfl | decide | (rw [show decide (most ≤ 1048576) = false from decide_eq_false (by omega)]; done) | (rw [show decide (most ≤ 1048576) = false from decide_eq_false (by omega)]; rfl))) ?_
      refine L.guardT (dj := 41) rfl rfl rfl ?_
      refine L.move rfl rfl ?_
      refine L.guardT (dj := 41) rfl rfl rfl ?_
      refine L.eqI rfl rfl rfl ?_
      refine L.guardT (dj := 39) rfl rfl rfl ?_
      refine L.pickF rfl rfl rfl ?_
      refine L.pickT rfl rfl rfl ?_
      refine L.assign rfl rfl ?_
      refine L.nil ?_
      refine T.thenN ?_
      refine T.ret ?_
      exact T.ret1 rfl rfl ⟨by first | rfl | exact congrArg Value.bool (by first | rfl | decide), rfl, rfl⟩ (by repeat (first | exact SubD.refl _ | exact SubD.nil _ | refine SubD.cons (by repeat (first | with_reducible exact mem_head | apply mem_tail)) ?_ | apply SubD.skip)) (by repeat (first | exact Ent.refl _ | refine Fit.cons (by repeat (first | with_reducible exact Pull.here | apply Pull.there)) ?_ | apply Ent.skip))
    · try simp only [decide_eq_true_eq, decide_eq_false_iff_not, Bool.not_eq_true', Bool.not_eq_false', Bool.and_eq_true, Bool.or_eq_true] at h2
      refine L.guardF (dj := 22) (c := false) rfl rfl rfl rfl rfl (by decide) ?_
      refine L.guardF (dj := 22) (c := false) rfl rfl rfl rfl rfl (by decide) ?_
      refine L.pickF rfl rfl rfl ?_
      refine L.assign rfl rfl ?_
      refine L.nil ?_
      refine T.thenN ?_
      refine T.seq ?_
      refine T.region ?_
      refine L.call rfl (evs.nil) (by repeat (first | exact SubD.refl _ | exact SubD.nil _ | refine SubD.cons (by repeat (first | with_reducible exact mem_head | apply mem_tail)) ?_ | apply SubD.skip)) (by repeat (first | exact Sel.nil | refine Sel.cons (by repeat (first | with_reducible exact Pull.here | apply Pull.there)) ?_)) (awake_spec) ?_
      rintro _ _ _ ⟨rfl, rfl, rfl⟩
      refine L.norm (by repeat (first | with_reducible exact AppL.nil | apply AppL.cons)) (by repeat (first | with_reducible exact AppL.nil | apply AppL.cons)) ?_
      refine L.move rfl rfl ?_
      refine L.guardT (dj := 27) rfl rfl rfl ?_
      refine L.move rfl rfl ?_
      refine L.guardT (dj := 27) rfl rfl rfl ?_
      refine L.eqI rfl rfl rfl ?_
      refine L.guardT (dj := 27) rfl rfl rfl ?_
      refine L.move rfl rfl ?_
      refine L.guardT (dj := 27) rfl rfl rfl ?_
      refine L.eqlB Try.underlying4 rfl rfl rfl ?_
      refine L.pickT rfl rfl rfl ?_
      refine L.move rfl rfl ?_
      refine L.known (t := 33) rfl (show _ = Value.bool true from congrArg Value.bool (by first | rfl | decide | (rw [show decide (most ≤ 1048576) = false from decide_eq_false (by omega)]; done) | (rw [show decide (most ≤ 1048576) = false from decide_eq_false (by omega)]; rfl))) ?_
      refine L.guardT (dj := 33) rfl rfl rfl ?_
      refine L.move rfl rfl ?_
      refine L.guardT (dj := 33) rfl rfl rfl ?_
      refine L.neqPtr rfl Try.underlying26 rfl rfl ?_
      refine L.guardT (dj := 33) rfl rfl rfl ?_
      refine L.move rfl rfl ?_
      refine L.guardT (dj := 33) rfl rfl rfl ?_
      refine L.eqlB Try.underlying4 rfl rfl rfl ?_
      refine L.pickT rfl rfl rfl ?_
      refine L.move rfl rfl ?_
      refine L.known (t := 39) rfl (show _ = Value.bool true from congrArg Value.bool (by first | rfl | decide | (rw [show decide (most ≤ 1048576) = false from decide_eq_false (by omega)]; done) | (rw [show decide (most ≤ 1048576) = false from decide_eq_false (by omega)]; rfl))) ?_
      refine L.guardT (dj := 39) rfl rfl rfl ?_
      refine L.move rfl rfl ?_
      refine L.guardT (dj := 39) rfl rfl rfl ?_
      refine L.move rfl rfl ?_
      refine L.guardT (dj := 41) rfl rfl rfl ?_
      refine L.move rfl rfl ?_
      refine L.guardT (dj := 41) rfl rfl rfl ?_
      refine L.eqI rfl rfl rfl ?_
      refine L.guardT (dj := 39) rfl rfl rfl ?_
      refine L.pickF rfl rfl rfl ?_
      refine L.pickT rfl rfl rfl ?_
      refine L.assign rfl rfl ?_
      refine L.nil ?_
      refine T.thenN ?_
      refine T.ret ?_
      exact T.ret1 rfl rfl ⟨by first | rfl | exact congrArg Value.bool (by first | rfl | decide), rfl, rfl⟩ (by repeat (first | exact SubD.refl _ | exact SubD.nil _ | refine SubD.cons (by repeat (first | with_reducible exact mem_head | apply mem_tail)) ?_ | apply SubD.skip)) (by repeat (first | exact Ent.refl _ | refine Fit.cons (by repeat (first | with_reducible exact Pull.here | apply Pull.there)) ?_ | apply Ent.skip))
  · try simp only [decide_eq_true_eq, decide_eq_false_iff_not, Bool.not_eq_true', Bool.not_eq_false', Bool.and_eq_true, Bool.or_eq_true] at h1
    refine L.guardF (dj := 17) (c := false) rfl rfl rfl rfl rfl (by decide) ?_
    refine L.guardF (dj := 17) (c := false) rfl rfl rfl rfl rfl (by decide) ?_
    refine L.guardF (dj := 17) (c := false) rfl rfl rfl rfl rfl (by decide) ?_
    refine L.pickF rfl rfl rfl ?_
    refine L.move rfl rfl ?_
    refine L.guardF (dj := 22) (c := false) rfl rfl rfl rfl rfl (by decide) ?_
    refine L.guardF (dj := 22) (c := false) rfl rfl rfl rfl rfl (by decide) ?_
    refine L.pickF rfl rfl rfl ?_
    refine L.assign rfl rfl ?_
    refine L.nil ?_
    refine T.thenN ?_
    refine T.seq ?_
    refine T.region ?_
    refine L.call rfl (evs.nil) (by repeat (first | exact SubD.refl _ | exact SubD.nil _ | refine SubD.cons (by repeat (first | with_reducible exact mem_head | apply mem_tail)) ?_ | apply SubD.skip)) (by repeat (first | exact Sel.nil | refine Sel.cons (by repeat (first | with_reducible exact Pull.here | apply Pull.there)) ?_)) (awake_spec) ?_
    rintro _ _ _ ⟨rfl, rfl, rfl⟩
    refine L.norm (by repeat (first | with_reducible exact AppL.nil | apply AppL.cons)) (by repeat (first | with_reducible exact AppL.nil | apply AppL.cons)) ?_
    refine L.move rfl rfl ?_
    refine L.guardT (dj := 27) rfl rfl rfl ?_
    refine L.move rfl rfl ?_
    refine L.guardT (dj := 27) rfl rfl rfl ?_
    refine L.eqI rfl rfl rfl ?_
    refine L.guardT (dj := 27) rfl rfl rfl ?_
    refine L.move rfl rfl ?_
    refine L.guardT (dj := 27) rfl rfl rfl ?_
    refine L.eqlB Try.underlying4 rfl rfl rfl ?_
    refine L.pickT rfl rfl rfl ?_
    refine L.move rfl rfl ?_
    refine L.known (t := 33) rfl (show _ = Value.bool true from congrArg Value.bool (by first | rfl | decide | (rw [show decide (most ≤ 1048576) = false from decide_eq_false (by omega)]; done) | (rw [show decide (most ≤ 1048576) = false from decide_eq_false (by omega)]; rfl))) ?_
    refine L.guardT (dj := 33) rfl rfl rfl ?_
    refine L.move rfl rfl ?_
    refine L.guardT (dj := 33) rfl rfl rfl ?_
    refine L.neqPtr rfl Try.underlying26 rfl rfl ?_
    refine L.guardT (dj := 33) rfl rfl rfl ?_
    refine L.move rfl rfl ?_
    refine L.guardT (dj := 33) rfl rfl rfl ?_
    refine L.eqlB Try.underlying4 rfl rfl rfl ?_
    refine L.pickT rfl rfl rfl ?_
    refine L.move rfl rfl ?_
    refine L.known (t := 39) rfl (show _ = Value.bool true from congrArg Value.bool (by first | rfl | decide | (rw [show decide (most ≤ 1048576) = false from decide_eq_false (by omega)]; done) | (rw [show decide (most ≤ 1048576) = false from decide_eq_false (by omega)]; rfl))) ?_
    refine L.guardT (dj := 39) rfl rfl rfl ?_
    refine L.move rfl rfl ?_
    refine L.guardT (dj := 39) rfl rfl rfl ?_
    refine L.move rfl rfl ?_
    refine L.guardT (dj := 41) rfl rfl rfl ?_
    refine L.move rfl rfl ?_
    refine L.guardT (dj := 41) rfl rfl rfl ?_
    refine L.eqI rfl rfl rfl ?_
    refine L.guardT (dj := 39) rfl rfl rfl ?_
    refine L.pickF rfl rfl rfl ?_
    refine L.pickT rfl rfl rfl ?_
    refine L.assign rfl rfl ?_
    refine L.nil ?_
    refine T.thenN ?_
    refine T.ret ?_
    exact T.ret1 rfl rfl ⟨by first | rfl | exact congrArg Value.bool (by first | rfl | decide), rfl, rfl⟩ (by repeat (first | exact SubD.refl _ | exact SubD.nil _ | refine SubD.cons (by repeat (first | with_reducible exact mem_head | apply mem_tail)) ?_ | apply SubD.skip)) (by repeat (first | exact Ent.refl _ | refine Fit.cons (by repeat (first | with_reducible exact Pull.here | apply Pull.there)) ?_ | apply Ent.skip))
theorem rates_law (each most : Int) : Spec Try.prog 5 [.int .i64 each, .int .i64 most] [] [] (fun v D' M' => v = .bool true ∧ D' = [] ∧ M' = []) := by
  by_cases h : 1 ≤ each ∧ each ≤ most ∧ most ≤ 1048576
  · exact rates_ok each most h.1 h.2.1 h.2.2
  · exact rates_bad each most h
end Cv
