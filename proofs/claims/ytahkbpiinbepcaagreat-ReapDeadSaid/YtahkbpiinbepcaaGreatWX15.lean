/-
  The walks: what is written is read.
-/
import Derived.Test.YtahkbpiinbepcaaGreatAA15
import Derived.Test.YtahkbpiinbepcaaGreatProg
import Derived.KernelRfl
import Derived.Test.YtahkbpiinbepcaaGreatCC15
import Derived.Test.YtahkbpiinbepcaaGreatP06
set_option linter.unusedVariables false
set_option linter.unusedSimpArgs false
set_option linter.unusedSectionVars false
set_option maxRecDepth 10000
namespace Cv
open Go Go.Proofs
/-! ## what is written is read, what is read is written -/
theorem ofNat_toNat {n : Nat} (h : n < 256) : (UInt8.ofNat n).toNat = n := by simp; omega
theorem beV_beB : ∀ n : Nat, beV (beB n) = n := by
  intro n
  induction n using Nat.strongRecOn with
  | _ n ih =>
    by_cases h : n = 0
    · rw [h, beB_0]; rfl
    · rw [beB_pos (by omega), beV_snoc, ih (n / 256) (by omega), ofNat_toNat (by omega)]; omega
theorem beB_head : ∀ n : Nat, ∀ c, (beB n)[0]? = some c → c ≠ 0 := by
  intro n
  induction n using Nat.strongRecOn with
  | _ n ih =>
    intro c hc
    by_cases h : n = 0
    · rw [h, beB_0] at hc; simp at hc
    · rw [beB_pos (by omega)] at hc
      by_cases h2 : n / 256 = 0
      · rw [h2, beB_0] at hc
        simp at hc
        intro e
        subst hc
        have := congrArg UInt8.toNat e
        rw [ofNat_toNat (by omega)] at this
        simp at this
        omega
      · have hne : 0 < (beB (n / 256)).length := by rw [beB_pos (by omega)]; simp
        rw [List.getElem?_append_left hne] at hc
        exact ih (n / 256) (by omega) c hc
theorem byt_app {s rest : List UInt8} : bytB ⟨s ++ rest, 0⟩ s.length = (s, ⟨rest, 0⟩) := by
  rw [byt_ok rfl (by simp only [List.length_append]; omega)]
  simp
theorem num_put {n : Nat} {rest : List UInt8} (hn : n < 18446744073709551616) : numR ⟨numB n ++ rest, 0⟩ = (n, ⟨rest, 0⟩) := by
  have hl := beB_len 8 n (by simpa using hn)
  have e1 : bytB ⟨numB n ++ rest, 0⟩ 1 = ([UInt8.ofNat (beB n).length], ⟨beB n ++ rest, 0⟩) := by
    have := byt_app (s := [UInt8.ofNat (beB n).length]) (rest := beB n ++ rest)
    simpa [numB] using this
  have e2 : ((bytB ⟨numB n ++ rest, 0⟩ 1).1.getD 0 0).toNat = (beB n).length := by rw [e1]; exact ofNat_toNat (by omega)
  have e3 : bytB (bytB ⟨numB n ++ rest, 0⟩ 1).2 ((bytB ⟨numB n ++ rest, 0⟩ 1).1.getD 0 0).toNat = (beB n, ⟨rest, 0⟩) := by rw [e2, e1]; exact byt_app
  rw [num_5 (by rw [e1]) (by rw [e2]; omega) (by rw [e3]) (by
    rw [e3]
    rintro ⟨h1, h2⟩
    exact beB_head n _ (gd_first h1) h2), e3, beV_beB]
theorem int_put {n top : Nat} {rest : List UInt8} (hn : n ≤ top) (ht : top < 18446744073709551616) : intR ⟨numB n ++ rest, 0⟩ top = (n, ⟨rest, 0⟩) := by
  have e := num_put (n := n) (rest := rest) (by omega)
  rw [int_3 (by rw [e]) (by rw [e]; omega), e]
/-! ## infos: what is written is read; names of texts -/
theorem id_put {x : ID32} {rest : List UInt8} : idR ⟨x.1 ++ rest, 0⟩ = (x, ⟨rest, 0⟩) := by
  have h : bytB ⟨x.1 ++ rest, 0⟩ 32 = (x.1, ⟨rest, 0⟩) := by
    have := byt_app (s := x.1) (rest := rest)
    rw [x.2] at this; exact this
  have h1 : (bytB ⟨x.1 ++ rest, 0⟩ 32).1 = x.1 := by rw [h]
  have h2 : (idR ⟨x.1 ++ rest, 0⟩).1 = x := by
    unfold idR
    show (if h : (bytB ⟨x.1 ++ rest, 0⟩ 32).1.length = 32 then (⟨(bytB ⟨x.1 ++ rest, 0⟩ 32).1, h⟩ : ID32) else zID) = x
    rw [dif_pos (by rw [h1]; exact x.2)]
    exact Subtype.ext h1
  exact Prod.ext h2 (by show (bytB ⟨x.1 ++ rest, 0⟩ 32).2 = _; rw [h])
theorem idsL_put {rest : List UInt8} : ∀ l : List ID32, idsL l.length ⟨l.flatMap (·.1) ++ rest, 0⟩ = (l, ⟨rest, 0⟩)
  | [] => by simp [idsL]
  | x :: l => by
    rw [List.length_cons, idsL, if_neg (fun k => k rfl), List.flatMap_cons, List.append_assoc, id_put, idsL_put l]
theorem idsF_put {l : List ID32} {top : Nat} (h : l.length ≤ top) (ht : top ≤ 1000000) : idsF ⟨idsB l, 0⟩ top = (l, ⟨[], 0⟩) := by
  have e : idsB l = numB l.length ++ (l.flatMap (·.1) ++ []) := by unfold idsB idsI; rw [List.take_length, List.append_nil]
  have h1 : intR ⟨idsB l, 0⟩ top = (l.length, ⟨l.flatMap (·.1) ++ [], 0⟩) := by rw [e]; exact int_put h (by omega)
  have h2 := idsL_put (rest := []) l
  unfold idsF
  rw [h1, h2]
  rfl
theorem chk_in {p : Pt} {l : List ID32} (h : chkI p l = 0) : 1 ≤ p.2 ∧ p.2 ≤ 32768 ∧ l.length ≤ 8 ∧ rsR l l.length := by
  unfold chkI at h
  split at h
  · exact absurd h (by decide)
  · split at h
    · exact absurd h (by decide)
    · split at h
      · rename_i a b c
        exact ⟨by omega, by omega, by omega, c⟩
      · exact absurd h (by decide)
theorem par_putI {p : Pt} {l : List ID32} (h : chkI p l = 0) : parI (inT p l) = (p, l, 0) := by
  obtain ⟨h1, h2, h3, -⟩ := chk_in h
  have e1 : idR ⟨inT p l, 0⟩ = (p.1, ⟨numB p.2.toNat ++ idsB l, 0⟩) := by
    unfold inT; rw [List.append_assoc]; exact id_put
  have e2 : intR ⟨numB p.2.toNat ++ idsB l, 0⟩ 32768 = (p.2.toNat, ⟨idsB l, 0⟩) := int_put (by omega) (by decide)
  have e3 : idsF ⟨idsB l, 0⟩ 8 = (l, ⟨[], 0⟩) := idsF_put h3 (by decide)
  have ez : parZ (inT p l) = ((p.1, ⟨numB p.2.toNat ++ idsB l, 0⟩), (p.2.toNat, ⟨idsB l, 0⟩), (l, ⟨[], 0⟩)) := by
    unfold parZ; rw [e1, e2, e3]
  have ep : (p.1, ((p.2.toNat : Nat) : Int)) = p := Prod.ext rfl (by show ((p.2.toNat : Nat) : Int) = p.2; omega)
  have ec : closeE ⟨[], 0⟩ = 0 := rfl
  unfold parI
  rw [ez]
  show (if closeE ⟨[], 0⟩ ≠ 0 then _ else if chkI (p.1, ((p.2.toNat : Nat) : Int)) l ≠ 0 then _ else ((p.1, ((p.2.toNat : Nat) : Int)), l, 0)) = _
  rw [ep, if_neg (fun k => k ec), if_neg (fun k => k h)]
/-! ## nodes and infos written are read -/
theorem ptsL_put {rest : List UInt8} : ∀ g : List Pt, (∀ p ∈ g, 0 ≤ p.2 ∧ p.2 ≤ 32768) → ptsL g.length ⟨g.flatMap ptB ++ rest, 0⟩ = (g, ⟨rest, 0⟩)
  | [], _ => by simp [ptsL]
  | p :: g, h => by
    have hp := h p (List.mem_cons_self ..)
    have ih := ptsL_put (rest := rest) g fun q hq => h q (List.mem_cons_of_mem _ hq)
    have e1 : (p :: g).flatMap ptB ++ rest = p.1.1 ++ (numB p.2.toNat ++ (g.flatMap ptB ++ rest)) := by
      rw [List.flatMap_cons]; unfold ptB; simp
    have e2 : idR ⟨(p :: g).flatMap ptB ++ rest, 0⟩ = (p.1, ⟨numB p.2.toNat ++ (g.flatMap ptB ++ rest), 0⟩) := by rw [e1]; exact id_put
    have e3 : intR ⟨numB p.2.toNat ++ (g.flatMap ptB ++ rest), 0⟩ 32768 = (p.2.toNat, ⟨g.flatMap ptB ++ rest, 0⟩) := int_put (by omega) (by decide)
    have e4 : (p.1, ((p.2.toNat : Nat) : Int)) = p := Prod.ext rfl (by show ((p.2.toNat : Nat) : Int) = p.2; omega)
    rw [List.length_cons, ptsL, if_neg (fun k => k rfl), e2]
    dsimp only
    rw [e3]
    dsimp only
    rw [ih, e4]
theorem node_put {k : Nat} {g : List Pt} (h : chkN k g = 0) : nodR (nodeT k g) = (k, g, 0) := by
  obtain ⟨h1, h2, h3, h4, h5, h6⟩ := chkN_0 h
  have hm : ∀ p ∈ g, 0 ≤ p.2 ∧ p.2 ≤ 32768 := fun p hp => by
    have := h5 p hp
    have hk : mostF k ≤ 32768 := Nat.min_le_right _ _
    omega
  have e0 : nodeT k g = numB k ++ (numB g.length ++ (g.flatMap ptB ++ [])) := by
    unfold nodeT nodeP; rw [List.take_length, List.append_nil, List.append_assoc]
  have e1 : intR ⟨nodeT k g, 0⟩ 8 = (k, ⟨numB g.length ++ (g.flatMap ptB ++ []), 0⟩) := by rw [e0]; exact int_put h2 (by decide)
  have e2 : intR ⟨numB g.length ++ (g.flatMap ptB ++ []), 0⟩ 8 = (g.length, ⟨g.flatMap ptB ++ [], 0⟩) := int_put h4 (by decide)
  have ez : nodZ (nodeT k g) = ((k, ⟨numB g.length ++ (g.flatMap ptB ++ []), 0⟩), (g.length, ⟨g.flatMap ptB ++ [], 0⟩), (g, ⟨[], 0⟩)) := by
    unfold nodZ; rw [e1]; dsimp only; rw [e2]; dsimp only; rw [ptsL_put g hm]
  have ec : closeE ⟨[], 0⟩ = 0 := rfl
  unfold nodR
  rw [ez]
  dsimp only
  rw [if_neg (fun q => q ec), if_neg (fun q => q h)]
theorem chkN_put {k : Nat} {g : List Pt} (h1 : 1 ≤ k) (h2 : k ≤ 8) (h3 : 1 ≤ g.length) (h4 : g.length ≤ 8) (h5 : ∀ p ∈ g, 1 ≤ p.2 ∧ p.2 ≤ mostF k) (h6 : sizeP g ≤ 32768) : chkN k g = 0 := by
  rw [chkN_s (fun q => by rcases q with q | q | q <;> first | omega | (rw [q] at h3; simp at h3)) (by omega) (fun p hp => badP_0 (by have := h5 p hp; omega) (by have := h5 p hp; omega)), if_neg (by omega)]
theorem chkI_put {p : Pt} {l : List ID32} (h1 : 1 ≤ p.2) (h2 : p.2 ≤ 32768) (h3 : l.length ≤ 8) (h4 : l.Pairwise (fun x y => x.1 < y.1)) : chkI p l = 0 := by
  unfold chkI
  rw [if_neg (by omega), if_neg (by omega), if_pos]
  intro i hi
  have e1 : gd l i = l[i] := gd_of' (List.getElem?_eq_getElem (by omega))
  have e2 : gd l (i + 1) = l[i + 1] := gd_of' (List.getElem?_eq_getElem hi)
  have := List.pairwise_iff_getElem.1 h4 i (i + 1) (by omega) hi (by omega)
  rw [e1, e2]
  have hc : cmpB l[i].1 l[i + 1].1 < 0 := cmpB_lt.2 this
  show ¬ 0 ≤ cfI _ _
  unfold cfI; omega


end Cv
