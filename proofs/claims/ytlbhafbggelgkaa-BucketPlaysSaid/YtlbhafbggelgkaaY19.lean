/-
  The walk of All (bucket).
-/
import Derived.Test.YtlbhafbggelgkaaX19
import Derived.Test.YtlbhafbggelgkaaCvNext
import Derived.Test.YtlbhafbggelgkaaSo19
import Derived.Test.YtlbhafbggelgkaaProg
import Derived.KernelRfl
set_option maxRecDepth 10000
set_option linter.unusedSimpArgs false
set_option linter.unusedVariables false
namespace Cv
open Go Go.Proofs
/-! ## all that a table knows -/
def allF (o : Int) (F : Int → Row) : List Int := ((List.range 64).map (fun i : Nat => (i : Int))).filter (fun n => decide (n ∈ (F (rowF o n)).1))
def catF (F : Int → Row) (ks : List Int) : List Int := ks.flatMap (fun k => (F k).1)
theorem allF_mem {o : Int} {F : Int → Row} (h : ∀ k, ROk o k (F k)) {n : Int} : n ∈ allF o F ↔ n ∈ (F (rowF o n)).1 := by
  simp only [allF, List.mem_filter, List.mem_map, List.mem_range, decide_eq_true_eq]
  constructor
  · exact fun e => e.2
  · intro e
    have := ((h _).1 n e).1
    unfold VA at this
    exact ⟨⟨n.toNat, by omega, by omega⟩, e⟩
theorem range_lt : ((List.range 64).map (fun i : Nat => (i : Int))).Pairwise (· < ·) := by
  rw [List.pairwise_map]
  exact List.pairwise_lt_range.imp (by omega)
theorem allF_lt {o : Int} {F : Int → Row} : (allF o F).Pairwise (· < ·) := range_lt.filter _
theorem allF_nodup {o : Int} {F : Int → Row} : (allF o F).Nodup := allF_lt.imp (fun {a b} (h : a < b) => (by omega : a ≠ b))
theorem allF_len {o : Int} {F : Int → Row} : (allF o F).length ≤ 64 := by
  have := List.length_filter_le (fun n => decide (n ∈ (F (rowF o n)).1)) ((List.range 64).map (fun i : Nat => (i : Int)))
  simpa [allF] using this
theorem catF_mem {o : Int} {F : Int → Row} (h : ∀ k, ROk o k (F k)) {ks : List Int} {n : Int} : n ∈ catF F ks ↔ rowF o n ∈ ks ∧ n ∈ (F (rowF o n)).1 := by
  simp only [catF, List.mem_flatMap]
  constructor
  · rintro ⟨k, hk, hn⟩
    have := ((h k).1 n hn).2
    subst this
    exact ⟨hk, hn⟩
  · exact fun ⟨a, b⟩ => ⟨_, a, b⟩
theorem catF_nodup {o : Int} {F : Int → Row} (h : ∀ k, ROk o k (F k)) : ∀ {ks : List Int}, ks.Nodup → (catF F ks).Nodup
  | [], _ => by simp [catF]
  | k :: ks, hn => by
    rw [List.nodup_cons] at hn
    show ((F k).1 ++ catF F ks).Nodup
    rw [List.nodup_append]
    refine ⟨(h k).2.1, catF_nodup h hn.2, fun a ha b hb => ?_⟩
    rintro rfl
    have h1 := ((h k).1 a ha).2
    have h2 := (catF_mem h).1 hb
    rw [h1] at h2
    exact hn.1 h2.1
theorem catF_perm {o : Int} {F : Int → Row} (h : ∀ k, ROk o k (F k)) {ks : List Int} (hn : ks.Nodup) (hall : ∀ k, k ∉ ks → (F k).1 = []) : (catF F ks).Perm (allF o F) := by
  rw [List.perm_ext_iff_of_nodup (catF_nodup h hn) allF_nodup]
  intro n
  rw [catF_mem h, allF_mem h]
  constructor
  · exact fun e => e.2
  · intro e
    refine ⟨?_, e⟩
    by_cases hk : rowF o n ∈ ks
    · exact hk
    · rw [hall _ hk] at e; cases e
theorem sort_unique {xs ys : List Int} (h : xs.Perm ys) (hs : ys.Pairwise (· < ·)) : xs.mergeSort (fun x y => decide (x ≤ y)) = ys := by
  have h1 := List.pairwise_mergeSort (le := fun x y : Int => decide (x ≤ y)) (fun a b c h1 h2 => by simp at *; omega) (fun a b => by simp; omega) xs
  have h2 := (List.mergeSort_perm xs (fun x y => decide (x ≤ y))).trans h
  exact h2.eq_of_pairwise (le := fun x y : Int => x ≤ y) (fun a b _ _ p q => by omega) (h1.imp (by simp)) (hs.imp (by omega))
def CatI (o : Int) (F : Int → Row) (xs rest : List Int) : Prop := (xs ++ catF F rest).Perm (allF o F)
theorem CatI.start {o : Int} {F : Int → Row} {ml : List (Int × RV)} (h : FitR o F ml) (hn : (ml.map Prod.fst).Nodup) : CatI o F [] (ml.map Prod.fst) := by
  refine catF_perm (fun k => (h k).2) hn (fun k hk => ?_)
  have := (h k).1
  rw [getR, look_none_iff.2 hk] at this
  rw [← this]; rfl
theorem CatI.step {o k : Int} {F : Int → Row} {xs rest rs : List Int} (h : CatI o F xs rest) (hp : rest.Perm (k :: rs)) : CatI o F (xs ++ (F k).1) rs := by
  refine List.Perm.trans ?_ h
  rw [List.append_assoc]
  exact List.Perm.append_left xs (hp.symm.flatMap_right (fun k => (F k).1))
theorem CatI.len {o : Int} {F : Int → Row} {xs rest : List Int} (h : CatI o F xs rest) : xs.length ≤ 64 := by
  have := h.length_eq
  have h2 := allF_len (o := o) (F := F)
  simp only [List.length_append] at this
  omega
theorem CatI.fin {o : Int} {F : Int → Row} {xs : List Int} (h : CatI o F xs []) : xs.mergeSort (fun x y => decide (x ≤ y)) = allF o F := by
  have : CatI o F xs [] = ((xs ++ catF F []).Perm (allF o F)) := rfl
  rw [this, show catF F [] = [] from rfl, List.append_nil] at h
  exact sort_unique h allF_lt
theorem CatI.flen {o : Int} {F : Int → Row} {xs : List Int} (h : CatI o F xs []) : xs.length = (allF o F).length := by rw [← h.fin, List.length_mergeSort]

set_option maxHeartbeats 400000 in
theorem all_spec {b : Nat} {o : Int} {F : Int → Row}  : Spec Try.prog 12 [.pointer (some ⟨b, 0, none⟩)] [] [tblA b o F] (fun v D' M' => ∃ (a : Option Addr) (cap : Nat), v = .slice a (allF o F).length cap ∧ D' = [] ∧ M' = [tblA b o F, own 1 3 a (allF o F).length cap ((allF o F).map e3)]) := by
  refine Spec.intro (n := 24) Try.func12 rfl rfl (by decide) (Nat.le_of_ble_eq_true rfl) rfl (fun _ => qA) (fun _ => qA) ?_
  intro σ D M
  refine T.tblOpen qP (fun mb ml hF => ?_)
  have hido := idF_len o
  have h34 := hdr_len (o := o) (mb := mb)
  refine T.mpNodup qM (fun hnd => ?_)
  refine T.seq ?_
  refine T.region ?_
  refine L.assign rfl rfl ?_
  refine L.nil ?_
  refine T.thenN ?_
  refine T.seq ?_
  refine T.region ?_
  refine L.assign rfl rfl ?_
  refine L.nil ?_
  refine T.thenN ?_
  refine T.seq ?_
  refine T.seq ?_
  refine T.region ?_
  refine L.move rfl rfl ?_
  refine L.nilCheck rfl rfl ?_
  first | refine L.field0 rfl fo57_2 rfl ?_ | refine L.field rfl fo57_2 rfl ?_
  refine L.load rfl sc55 rfl qC ?_
  refine L.range rfl Try.underlying55 rfl qP (fun it => ?_)
  refine L.nil ?_
  refine T.newOwn (sz := 1) (e := 3) ?_
  refine T.thenN ?_
  refine T.block ?_
  refine T.loop (fun K' D' M' μ => ∃ (a : Option Addr) (cp : Nat) (xs rest : List Int) (cur : Option Int), (CatI o F xs rest) ∧ K' = [(3, .slice a xs.length cp)] ∧ D' = [] ∧ M' = [mpi mb it iK rV ml rest cur, each rA ml, own 1 3 a xs.length cp (xs.map e3)] ∧ μ = rest.length) (.cons (t := 10) rfl <| SubK.nil _) (⟨none, 0, [], _, none, CatI.start hF hnd, rfl, rfl, rfl, rfl⟩) (.cons (t := 3) rfl <| SubK.nil _) qD qS ?_
  rintro K1 D1 M1 m1 ⟨a, cp, xs, rest, cur, hC, rfl, rfl, rfl, rfl⟩
  refine T.norm3 qA qA qA ?_
  have hxl := hC.len
  refine T.seq ?_
  refine T.region ?_
  refine L.next rfl rfl qP (fun hre => ?_) (fun k v rs hpe hkv => ?_)
  · skip
    skip
    refine L.extract rfl rfl rfl ?_
    refine L.nil ?_
    refine T.thenN ?_
    refine T.seq ?_
    refine T.condF rfl rfl ?_
    refine T.exit ?_
    refine T.thenX ?_
    refine T.thenX ?_
    refine T.blkX ?_
    refine T.thenN ?_
    refine T.seq ?_
    subst hre
    refine T.mpiMp qP ?_
    refine T.region ?_
    refine L.move rfl rfl ?_
    refine L.call rfl (evs.cons rfl <| evs.nil) qD qS (sort_spec (xs := xs) (by omega)) ?_
    rintro _ _ _ ⟨rfl, rfl, rfl⟩
    refine L.norm qA qA ?_
    rw [hC.fin, hC.flen]
    refine L.nil ?_
    refine T.tblShut hF qS ?_
    refine T.thenN ?_
    refine T.seq ?_
    refine T.region ?_
    refine L.move rfl rfl ?_
    refine L.assign rfl rfl ?_
    refine L.nil ?_
    refine T.thenN ?_
    refine T.ret ?_
    exact T.ret1 rfl rfl ⟨_, _, rfl, rfl, rfl⟩ qD qF
  · obtain ⟨blk, ar, cr, r⟩ := v
    have hl := look_of_mem hnd hkv
    have hrF := fitR_look hF hl
    subst hrF
    have hr4 := (hF k).2.2.2.1
    skip
    refine L.extract rfl rfl rfl ?_
    refine L.nil ?_
    refine T.thenN ?_
    refine T.seq ?_
    refine T.condT rfl rfl ?_
    refine T.skip ?_
    refine T.thenN ?_
    refine T.block ?_
    refine T.seq ?_
    refine T.region ?_
    refine L.entry (ent_inj iK_inj hnd hkv) rfl rfl qM hkv ?_
    refine L.extract rfl rfl rfl ?_
    refine L.assign rfl rfl ?_
    refine L.nil ?_
    refine T.thenN ?_
    refine T.eachOpen (l := ml) qP hl ?_
    refine T.unfold (A := rA (k, blk, ar, cr, F k)) [cl blk 62 (rcells ar cr (F k)), rO ar cr (F k)] qP rfl qA ?_
    refine T.region ?_
    refine L.move rfl rfl ?_
    refine L.move rfl rfl ?_
    refine L.nilCheck rfl rfl ?_
    first | refine L.field0 rfl fo62_0 rfl ?_ | refine L.field rfl fo62_0 rfl ?_
    refine L.load rfl sc22 rfl qC ?_
    refine L.appendR rfl Try.underlying22 Try.underlying22 el3 rfl rfl qP (rd_M qM) one_int qI qI (fun a20 c20 => ?_)
    rw [show xs.length + (F k).1.length = (xs ++ (F k).1).length from by simp]
    refine L.assign rfl rfl ?_
    refine L.nil ?_
    refine T.blkN ?_
    refine T.thenN ?_
    refine T.ownEq _ ((xs ++ (F k).1).map e3) qP (by simp) ?_
    refine T.foldAs (rA (k, blk, ar, cr, F k)) (L := [cl blk 62 (rcells ar cr (F k)), rO ar cr (F k)]) (by repeat (first | exact Sel.nil | (apply Sel.cons; focus (repeat (first | with_reducible exact Pull.here | apply Pull.there))))) rfl ?_
    refine T.eachBack (l := ml) hl (by repeat (first | exact Sel.nil | (apply Sel.cons; focus (repeat (first | with_reducible exact Pull.here | apply Pull.there))))) ?_
    exact T.back ⟨_, _, xs ++ (F k).1, rs, some k, hC.step hpe, rfl, rfl, rfl, rfl⟩ (by have := hpe.length_eq; simp at this; omega) (.cons (t := 3) rfl <| SubK.nil _) (.cons (t := 10) rfl <| SubK.nil _) qD qD qF
end Cv
