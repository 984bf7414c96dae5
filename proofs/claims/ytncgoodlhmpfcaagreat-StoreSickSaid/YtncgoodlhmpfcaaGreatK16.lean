/-
  The walks: chunks, nodes, infos: plain laws.
-/
import Derived.Test.YtncgoodlhmpfcaaGreatJy16
set_option linter.all false
set_option maxRecDepth 10000
namespace Cv
open Go Go.Proofs
theorem cutW_short {tt : List Int} : ∀ (s q : List UInt8), q.length + s.length < 32 → cutW tt ([], q) s = ([], q ++ s)
  | [], q, _ => by show ([], q) = _; simp
  | c :: s, q, h => by
    simp only [List.length_cons] at h
    have e : cutS tt ([], q) c = ([], q ++ [c]) := cutS_no (decide_eq_false (by show ¬ (32 ≤ q.length + 1 ∧ _); omega))
    show cutW tt (cutS tt ([], q) c) s = _
    rw [e, cutW_short s (q ++ [c]) (by rw [List.length_append]; simp only [List.length_singleton]; omega)]
    simp
theorem chnF_short {tt : List Int} {s : List UInt8} (h : s.length < 32) (h0 : s ≠ []) : chnF tt s = [s] := by
  unfold chnF
  rw [cutW_short s [] (by simpa using h), List.nil_append]
  show [] ++ lastC s = [s]
  unfold lastC; rw [if_neg h0]; rfl
theorem grps_one (p : Pt) : grps [p] = [[p]] := by simp [grps, grI, gN, grp]
theorem upP_one (k : Nat) (p : Pt) : upP k [p] = [upt k [p]] := by unfold upP; rw [grps_one]; simp only [List.map_cons, List.map_nil]
theorem upO_one (k : Nat) (p : Pt) : upO k [p] = [uob k [p]] := by unfold upO; rw [grps_one]; simp only [List.map_cons, List.map_nil]
theorem bld_one {s : List UInt8} (h0 : s ≠ []) (h : s.length ≤ 256) : bldM [s] = (upt 1 [lf s], [lo s, uob 1 [lf s]], 0) := by
  have hp := List.length_pos_iff.2 h0
  have hz : sizeI ([s].map lf) [s].length = (s.length : Int) := by show (0 : Int) + (s.length : Int) = _; omega
  refine bld_ok (fun c hc => ?_) (by rw [hz]; omega) (by rw [hz]; omega) ?_
  · have : c = s := by simpa using hc
    subst this
    simp only [badC, not_or]; exact ⟨h0, by omega⟩
  · show lvR (1 + 1) 1 [lf s] [lo s] = _
    rw [lvR_s (.inl rfl)]
    rw [upP_one, upO_one]
    exact lvR_z (f := 1) (k := 2) (ps := [upt 1 [lf s]]) (os := [lo s, uob 1 [lf s]]) (by simp)
/-! ## chunks and levels: plain laws -/
structure CutO (s : CutS) (l : List UInt8) : Prop where
  good : ∀ c ∈ s.1, ¬ badC c
  open_ : s.2.length < 256
  all : s.1.flatten ++ s.2 = l
theorem cut_o {T : List Int} : ∀ {l : List UInt8} {s : CutS} {p : List UInt8}, CutO s p → CutO (cutW T s l) (p ++ l)
  | [], s, p, h => by rw [List.append_nil]; exact h
  | c :: l, s, p, h => by
    have h1 : CutO (cutS T s c) (p ++ [c]) := by
      by_cases e : endB (s.2.length + 1) (rollN T (rollL T s.2) c) = true
      · rw [cutS_yes e]
        refine ⟨fun x hx => ?_, by show 0 < 256; decide, ?_⟩
        · rcases List.mem_append.1 hx with q | q
          · exact h.good x q
          · obtain rfl : x = s.2 ++ [c] := by simpa using q
            have := h.open_
            simp only [badC, not_or]
            exact ⟨by simp, by rw [List.length_append]; simp only [List.length_singleton]; omega⟩
        · rw [← h.all]; simp
      · have e' : endB (s.2.length + 1) (rollN T (rollL T s.2) c) = false := by simpa using e
        rw [cutS_no e']
        refine ⟨h.good, ?_, by rw [← h.all]; simp⟩
        have h2 := of_decide_eq_false e'
        have := h.open_
        show (s.2 ++ [c]).length < 256
        rw [List.length_append]; simp only [List.length_singleton]
        omega
    have h2 := cut_o (T := T) (l := l) h1
    rw [List.append_assoc] at h2
    exact h2
theorem chn_good {T : List Int} {s : List UInt8} : (∀ c ∈ chnF T s, ¬ badC c) ∧ (chnF T s).flatten = s := by
  have h := cut_o (T := T) (l := s) (s := ([], [])) (p := []) ⟨by simp, by show 0 < 256; decide, rfl⟩
  rw [List.nil_append] at h
  constructor
  · intro c hc
    unfold chnF at hc
    rcases List.mem_append.1 hc with q | q
    · exact h.good c q
    · unfold lastC at q
      split at q
      · simp at q
      · rename_i hq
        obtain rfl : c = _ := by simpa using q
        have := h.open_
        simp only [badC, not_or]
        exact ⟨hq, by omega⟩
  · unfold chnF
    rw [List.flatten_append]
    have e : (lastC (cutW T ([], []) s).2).flatten = (cutW T ([], []) s).2 := by
      unfold lastC
      split
      · rename_i hq; rw [hq]; rfl
      · simp
    rw [e, h.all]
theorem size_flat (cs : List (List UInt8)) : sizeP (cs.map lf) = (cs.flatten.length : Int) := by
  induction cs with
  | nil => rfl
  | cons c cs ih =>
    rw [show (c :: cs).map lf = [lf c] ++ cs.map lf from rfl, sizeI_app, ih, List.flatten_cons, List.length_append]
    have : sizeP [lf c] = (c.length : Int) := by show (0 : Int) + (c.length : Int) = _; omega
    rw [this]; omega
theorem lvR_out : ∀ (f k : Nat) (ps : List Pt) (os : List Ob), 1 ≤ ps.length → (k = 1 ∧ ps.length + 1 ≤ f) ∨ (2 ≤ k ∧ ps.length ≤ f) →
    ∃ p ns, (lvR f k ps os = ([p], os ++ ns) ∧ ns.length ≤ f * ps.length) ∧ p.2 = sizeP ps ∧ (∀ o ∈ ns, o.1 = 2) ∧ (k = 1 → ns ≠ []) ∧ (ns = [] → ps = [p]) ∧ (ns ≠ [] → (ns.getLast?).map (·.2.1) = some p.1)
  | 0, k, ps, os, h1, h => by omega
  | f + 1, k, ps, os, h1, h => by
    by_cases c : k = 1 ∨ 1 < ps.length
    · have hg : gN ps.length = (ps.length + 7) / 8 := rfl
      have hu := @upP_len k ps
      have hv := @upO_len k ps
      obtain ⟨p, ns, ⟨e1, e0⟩, e2, e3, e4, e5, e6⟩ := lvR_out f (k + 1) (upP k ps) (os ++ upO k ps) (by rw [hu, hg]; omega) (.inr ⟨by omega, by rw [hu, hg]; omega⟩)
      have hne : upO k ps ≠ [] := fun q => by rw [q] at hv; simp only [List.length_nil] at hv; omega
      have hle : gN ps.length ≤ ps.length := by rw [hg]; omega
      have hmul : f * gN ps.length ≤ f * ps.length := Nat.mul_le_mul_left _ hle
      refine ⟨p, upO k ps ++ ns, ⟨by rw [lvR_s c, e1, List.append_assoc], by rw [List.length_append, hv, Nat.add_mul, Nat.one_mul]; rw [hu] at e0; omega⟩, by rw [e2, size_up], fun o ho => ?_, fun _ q => hne (List.append_eq_nil_iff.1 q).1, fun q => absurd (List.append_eq_nil_iff.1 q).1 hne, fun _ => ?_⟩
      · rcases List.mem_append.1 ho with q | q
        · obtain ⟨g, _, rfl⟩ := List.mem_map.1 q; rfl
        · exact e3 o q
      · by_cases hn : ns = []
        · subst hn
          have h5 := e5 rfl
          rw [List.append_nil]
          have hl1 : (upP k ps).length = 1 := by rw [h5]; rfl
          have e : grps ps = [grp ps 0] := by
            rw [hu] at hl1
            show (List.range (gN ps.length)).map (grp ps) = _
            rw [hl1]; rfl
          unfold upO
          unfold upP at h5
          rw [e] at h5 ⊢
          have h6 : upt k (grp ps 0) = p := by simpa using h5
          show some (uob k (grp ps 0)).2.1 = some p.1
          rw [← h6]; rfl
        · have : (upO k ps ++ ns).getLast? = ns.getLast? := by
            rw [List.getLast?_append]
            cases hq : ns.getLast? with
            | none => exact absurd (List.getLast?_eq_none_iff.1 hq) hn
            | some v => rfl
          rw [this]; exact e6 hn
    · refine ⟨gd ps 0, [], ⟨?_, by simp⟩, ?_, by simp, fun q => absurd (.inl q) c, fun _ => ?_, fun q => absurd R q⟩
      · rw [lvR_z c, List.append_nil]
        match ps, h1, c with
        | [p], _, _ => rfl
        | p :: q :: l, _, c => exact absurd (.inr (by simp only [List.length_cons]; omega)) c
      · match ps, h1, c with
        | [p], _, _ => show p.2 = 0 + p.2; omega
        | p :: q :: l, _, c => exact absurd (.inr (by simp only [List.length_cons]; omega)) c
      · match ps, h1, c with
        | [p], _, _ => rfl
        | p :: q :: l, _, c => exact absurd (.inr (by simp only [List.length_cons]; omega)) c
theorem bld_out {cs : List (List UInt8)} (h : ∀ c ∈ cs, ¬ badC c) (h0 : 1 ≤ cs.flatten.length) (h1 : cs.flatten.length ≤ 32768) :
    ∃ p ns, (bldM cs = (p, cs.map lo ++ ns, 0) ∧ (cs.map lo ++ ns).length ≤ 2000000000) ∧ p.2 = (cs.flatten.length : Int) ∧ (∀ o ∈ ns, o.1 = 2) ∧ ns ≠ [] ∧ (ns.getLast?).map (·.2.1) = some p.1 := by
  have hz : sizeI (cs.map lf) cs.length = (cs.flatten.length : Int) := by
    rw [← size_flat]; unfold sizeP; rw [List.length_map]
  have hl : 1 ≤ cs.length := Nat.pos_of_ne_zero fun q => by
    obtain rfl : cs = [] := List.length_eq_zero_iff.1 q
    simp at h0
  obtain ⟨p, ns, ⟨e1, e0⟩, e2, e3, e4, -, e6⟩ := lvR_out (cs.length + 1) 1 (cs.map lf) (cs.map lo) (by rw [List.length_map]; exact hl) (.inl ⟨rfl, by rw [List.length_map]; omega⟩)
  have hge := size_ge (ps := cs.map lf) (fun p hp => (good_size h p hp).1) cs.length (by rw [List.length_map]; exact Nat.le_refl _)
  have hcl : cs.length ≤ 32768 := by omega
  have hm : (cs.length + 1) * cs.length ≤ 32769 * 32768 := Nat.mul_le_mul (by omega) hcl
  rw [List.length_map] at e0
  exact ⟨p, ns, ⟨bld_ok h (by omega) (by omega) e1, by rw [List.length_append, List.length_map]; omega⟩, by rw [e2, size_flat], e3, e4 R, e6 (e4 R)⟩
theorem ofB_out {x : Tr} (h : 1 ≤ (wrS x).length) : ∃ p ns, (ofB x = (p, (chnF (gearT seedS) (wrS x)).map lo ++ ns, 0) ∧ ((chnF (gearT seedS) (wrS x)).map lo ++ ns).length ≤ 2000000000) ∧ p.2 = ((wrS x).length : Int) ∧ (∀ o ∈ ns, o.1 = 2) ∧ ns ≠ [] ∧ (ns.getLast?).map (·.2.1) = some p.1 := by
  obtain ⟨h1, h2⟩ := chn_good (T := gearT seedS) (s := wrS x)
  have h3 := wrS_len x
  have := bld_out h1 (by rw [h2]; exact h) (by rw [h2]; exact h3)
  rw [h2] at this
  exact this
/-! ## infos: what is written is read; names of texts -/
theorem id_put {x : ID32} {rest : List UInt8} : idR ⟨x.1 ++ rest, 0⟩ = (x, ⟨rest, 0⟩) := by
  have h : bytB ⟨x.1 ++ rest, 0⟩ 32 = (x.1, ⟨rest, 0⟩) := by
    have := byt_app (s := x.1) (rest := rest)
    rw [x.2] at this; exact this
  have h1 : (bytB ⟨x.1 ++ rest, 0⟩ 32).1 = x.1 := by rw [h]
  have h2 : (idR ⟨x.1 ++ rest, 0⟩).1 = x := by
    unfold idR
    show (if h : (bytB ⟨x.1 ++ rest, 0⟩ 32).1.length = 32 then (⟨(bytB ⟨x.1 ++ rest, 0⟩ 32).1, h⟩ : ID32) else zID) = x
    rw [dif_pos (by rw [h1]; exact x.2)]
    exact Subtype.ext h1
  exact Prod.ext h2 (by show (bytB ⟨x.1 ++ rest, 0⟩ 32).2 = _; rw [h])
theorem idsL_put {rest : List UInt8} : ∀ l : List ID32, idsL l.length ⟨l.flatMap (·.1) ++ rest, 0⟩ = (l, ⟨rest, 0⟩)
  | [] => by simp [idsL]
  | x :: l => by
    rw [List.length_cons, idsL, if_neg (fun k => k rfl), List.flatMap_cons, List.append_assoc, id_put, idsL_put l]
theorem idsF_put {l : List ID32} {top : Nat} (h : l.length ≤ top) (ht : top ≤ 1000000) : idsF ⟨idsB l, 0⟩ top = (l, ⟨[], 0⟩) := by
  have e : idsB l = numB l.length ++ (l.flatMap (·.1) ++ []) := by unfold idsB idsI; rw [List.take_length, List.append_nil]
  have h1 : intR ⟨idsB l, 0⟩ top = (l.length, ⟨l.flatMap (·.1) ++ [], 0⟩) := by rw [e]; exact int_put h (by omega)
  have h2 := idsL_put (rest := []) l
  unfold idsF
  rw [h1, h2]
  rfl
theorem chk_in {p : Pt} {l : List ID32} (h : chkI p l = 0) : 1 ≤ p.2 ∧ p.2 ≤ 32768 ∧ l.length ≤ 8 ∧ rsR l l.length := by
  unfold chkI at h
  split at h
  · exact absurd h (by decide)
  · split at h
    · exact absurd h (by decide)
    · split at h
      · rename_i a b c
        exact ⟨by omega, by omega, by omega, c⟩
      · exact absurd h (by decide)
theorem par_putI {p : Pt} {l : List ID32} (h : chkI p l = 0) : parI (inT p l) = (p, l, 0) := by
  obtain ⟨h1, h2, h3, -⟩ := chk_in h
  have e1 : idR ⟨inT p l, 0⟩ = (p.1, ⟨numB p.2.toNat ++ idsB l, 0⟩) := by
    unfold inT; rw [List.append_assoc]; exact id_put
  have e2 : intR ⟨numB p.2.toNat ++ idsB l, 0⟩ 32768 = (p.2.toNat, ⟨idsB l, 0⟩) := int_put (by omega) (by decide)
  have e3 : idsF ⟨idsB l, 0⟩ 8 = (l, ⟨[], 0⟩) := idsF_put h3 (by decide)
  have ez : parZ (inT p l) = ((p.1, ⟨numB p.2.toNat ++ idsB l, 0⟩), (p.2.toNat, ⟨idsB l, 0⟩), (l, ⟨[], 0⟩)) := by
    unfold parZ; rw [e1, e2, e3]
  have ep : (p.1, ((p.2.toNat : Nat) : Int)) = p := Prod.ext rfl (by show ((p.2.toNat : Nat) : Int) = p.2; omega)
  have ec : closeE ⟨[], 0⟩ = 0 := rfl
  unfold parI
  rw [ez]
  show (if closeE ⟨[], 0⟩ ≠ 0 then _ else if chkI (p.1, ((p.2.toNat : Nat) : Int)) l ≠ 0 then _ else ((p.1, ((p.2.toNat : Nat) : Int)), l, 0)) = _
  rw [ep, if_neg (fun k => k ec), if_neg (fun k => k h)]
/-! ## nodes and infos written are read -/
theorem ptsL_put {rest : List UInt8} : ∀ g : List Pt, (∀ p ∈ g, 0 ≤ p.2 ∧ p.2 ≤ 32768) → ptsL g.length ⟨g.flatMap ptB ++ rest, 0⟩ = (g, ⟨rest, 0⟩)
  | [], _ => by simp [ptsL]
  | p :: g, h => by
    have hp := h p (List.mem_cons_self ..)
    have ih := ptsL_put (rest := rest) g fun q hq => h q (List.mem_cons_of_mem _ hq)
    have e1 : (p :: g).flatMap ptB ++ rest = p.1.1 ++ (numB p.2.toNat ++ (g.flatMap ptB ++ rest)) := by
      rw [List.flatMap_cons]; unfold ptB; simp
    have e2 : idR ⟨(p :: g).flatMap ptB ++ rest, 0⟩ = (p.1, ⟨numB p.2.toNat ++ (g.flatMap ptB ++ rest), 0⟩) := by rw [e1]; exact id_put
    have e3 : intR ⟨numB p.2.toNat ++ (g.flatMap ptB ++ rest), 0⟩ 32768 = (p.2.toNat, ⟨g.flatMap ptB ++ rest, 0⟩) := int_put (by omega) (by decide)
    have e4 : (p.1, ((p.2.toNat : Nat) : Int)) = p := Prod.ext rfl (by show ((p.2.toNat : Nat) : Int) = p.2; omega)
    rw [List.length_cons, ptsL, if_neg (fun k => k rfl), e2]
    dsimp only
    rw [e3]
    dsimp only
    rw [ih, e4]
theorem node_put {k : Nat} {g : List Pt} (h : chkN k g = 0) : nodR (nodeT k g) = (k, g, 0) := by
  obtain ⟨h1, h2, h3, h4, h5, h6⟩ := chkN_0 h
  have hm : ∀ p ∈ g, 0 ≤ p.2 ∧ p.2 ≤ 32768 := fun p hp => by
    have := h5 p hp
    have hk : mostF k ≤ 32768 := Nat.min_le_right _ _
    omega
  have e0 : nodeT k g = numB k ++ (numB g.length ++ (g.flatMap ptB ++ [])) := by
    unfold nodeT nodeP; rw [List.take_length, List.append_nil, List.append_assoc]
  have e1 : intR ⟨nodeT k g, 0⟩ 8 = (k, ⟨numB g.length ++ (g.flatMap ptB ++ []), 0⟩) := by rw [e0]; exact int_put h2 (by decide)
  have e2 : intR ⟨numB g.length ++ (g.flatMap ptB ++ []), 0⟩ 8 = (g.length, ⟨g.flatMap ptB ++ [], 0⟩) := int_put h4 (by decide)
  have ez : nodZ (nodeT k g) = ((k, ⟨numB g.length ++ (g.flatMap ptB ++ []), 0⟩), (g.length, ⟨g.flatMap ptB ++ [], 0⟩), (g, ⟨[], 0⟩)) := by
    unfold nodZ; rw [e1]; dsimp only; rw [e2]; dsimp only; rw [ptsL_put g hm]
  have ec : closeE ⟨[], 0⟩ = 0 := rfl
  unfold nodR
  rw [ez]
  dsimp only
  rw [if_neg (fun q => q ec), if_neg (fun q => q h)]
def xh : Tr := .mk [] 1 [104, 101, 108, 108, 111] []
theorem okT_h : OkT xh := ⟨by decide +kernel, by show (Tr.mk [] 1 [104, 101, 108, 108, 111] []).count ≤ _; rw [Tr.count_eq]; decide, tall_leaf, by decide, tall_leaf, by decide⟩
theorem put_h : (putT xh).length = 9 := by
  rw [putT_eq]
  show (numB 1 ++ (if (1 : Int) ≠ 4 then strB [104, 101, 108, 108, 111] else _)).length = _
  rw [if_pos (by decide), strB, List.length_append, List.length_append]
  have h : ∀ n, 0 < n → n < 256 → (numB n).length = 2 := by
    intro n h0 h1
    rw [numB, beB_pos h0, show n / 256 = 0 by omega, beB_0]; rfl
  rw [h _ (by decide) (by decide), h _ (by decide) (by decide)]; rfl
theorem wr_h : (wrS xh).length = 13 ∧ wrE xh = 0 := by
  obtain ⟨h1, h2⟩ := wr_ok okT_h.1 (by rw [put_h]; decide)
  exact ⟨by rw [h1, List.length_append, put_h]; rfl, h2⟩
end Cv
set_option maxRecDepth 10000
namespace Cv
open Go Go.Proofs
/-! ## a small store: plain laws -/
theorem wv_nil {os : List Ob} {out : List UInt8} {r : List UInt8 × Int} (h : WvR os [] out r) : r = (out, 0) := by
  generalize hx : ([] : List St) = x at h
  cases h with
  | done => rfl
  | miss _ => exact absurd hx (by simp)
  | bad _ _ => exact absurd hx (by simp)
  | step _ _ _ => exact absurd hx (by simp)
theorem app1 {α : Type} {l m : List α} {a b : α} (h : l ++ [a] = m ++ [b]) : l = m ∧ a = b := by
  obtain ⟨e1, e2⟩ := List.append_inj' h rfl
  exact ⟨e1, by simpa using e2⟩
theorem wv_inv {os : List Ob} {l : List St} {s : St} {out : List UInt8} {r : List UInt8 × Int} (h : WvR os (l ++ [s]) out r) (h1 : getE os s.1.1 = 0) (h2 : givE s (getO os s.1.1).2.2 = 0) : WvR os (l ++ givL s (getO os s.1.1).2.2) (out ++ givB s (getO os s.1.1).2.2) r := by
  generalize hx : l ++ [s] = x at h
  cases h with
  | done => exact absurd hx (by simp)
  | miss k => obtain ⟨rfl, rfl⟩ := app1 hx; exact absurd h1 k
  | bad _ k => obtain ⟨rfl, rfl⟩ := app1 hx; exact absurd h2 k
  | step _ _ n => obtain ⟨rfl, rfl⟩ := app1 hx; exact n
theorem putR_nd : ∀ {l : List Ob} {rs : List Rc}, (∀ o ∈ l, ObOk o) → (l.map (·.2.1)).Nodup → (∀ o ∈ l, ¬ oin rs o.2.1) → putR rs l = rs ++ l.map obRc
  | [], rs, _, _, _ => by rw [putR]; simp
  | o :: l, rs, h, hn, hd => by
    obtain ⟨n1, n2⟩ := List.nodup_cons.1 hn
    rw [putR, if_neg (hd o (List.mem_cons_self ..)), putR_nd (fun x hx => h x (List.mem_cons_of_mem _ hx)) n2 fun x hx q => ?_, List.map_cons, List.append_assoc]; rfl
    unfold oin at q
    rw [osR_1 (h o (List.mem_cons_self ..)), List.map_append] at q
    rcases List.mem_append.1 q with q | q
    · exact hd x (List.mem_cons_of_mem _ hx) q
    · have e : x.2.1 = o.2.1 := by simpa using q
      exact n1 (List.mem_map.2 ⟨x, hx, e⟩)
theorem csts_bd {B c : Nat} (hB : (B + 100) / 64 ≤ c) (hb : B ≤ 65535) : ∀ {rs : List Rc}, (∀ r ∈ rs, r.2.length ≤ B) → csts rs ≤ c * rs.length
  | [], _ => Nat.zero_le _
  | r :: rs, h => by
    have h1 := csts_bd hB hb (rs := rs) fun x hx => h x (List.mem_cons_of_mem _ hx)
    have h2 := h r (List.mem_cons_self ..)
    have h3 := cst_le (n := r.2.length) (by omega)
    rw [csts_cons, List.length_cons, Nat.mul_succ]; omega
theorem inT0_len {p : Pt} (h : p.2 ≤ 32768) : (inT p []).length ≤ 50 := by
  have h1 := numB_len (n := p.2.toNat) (by omega)
  have h2 := idsB_len (l := []) (by decide)
  have h3 := p.1.2
  unfold inT
  rw [List.length_append, List.length_append]
  simp only [List.length_nil] at h2
  omega
def hP (p : Pt) (qa : Option Addr) (qc : Nat) : IvM := [(inN p [], ((p, []), (qa, 0, qc)))]
theorem chkI0 {p : Pt} (h : 1 ≤ p.2 ∧ p.2 ≤ 32768) : chkI p [] = 0 := by
  unfold chkI
  rw [if_neg (by omega), if_neg (by simp; omega), if_pos (show rsR [] _ from fun j hj => by simp at hj)]
theorem add_pl {p : Pt} (h : 1 ≤ p.2 ∧ p.2 ≤ 32768) {e : Int} {pl2 : IvM} (k : AddP [] (inT p []) e pl2) : e = 0 ∧ ∃ qa qc, pl2 = hP p qa qc := by
  have hp := par_putI (chkI0 h)
  cases k with
  | bad q => rw [hp] at q; exact absurd rfl q
  | lack _ q => rw [hp] at q; exact absurd q (show ¬ anyI (lakI []) [] = true by decide)
  | add _ _ v hv =>
    obtain ⟨qa, qn, qc⟩ := v
    rw [hp] at hv ⊢
    obtain rfl : 0 = qn := hv
    exact ⟨R, qa, qc, R⟩
theorem hP_look {p : Pt} {qa : Option Addr} {qc : Nat} : look (hP p qa qc) (inN p []) = some ((p, []), (qa, 0, qc)) := if_pos rfl
theorem keys_1 {x : ID32} {us : List ID32} (h : KeysF [x] us) : us = [x] := asc_uniq h.asc (by simp) h.mem
theorem keys_0 {us : List ID32} (h : KeysF [] us) : us = [] := List.length_eq_zero_iff.1 h.len
theorem hP_refs {p : Pt} {qa : Option Addr} {qc : Nat} (x : ID32) : refsOf (hP p qa qc) x = [] := by
  unfold refsOf hP look
  split
  · rename_i v h
    split at h
    · injection h with h; rw [← h]
    · cases h
  · rfl
theorem hP_ord {p : Pt} {qa : Option Addr} {qc : Nat} {us : List ID32} (h : OrdF (hP p qa qc) us) : us = [inN p []] := by
  obtain ⟨ks, hk, rfl⟩ := h.ex
  obtain rfl := keys_1 hk
  show (visF (hP p qa qc) 9 (inN p []) ([], [])).2 = _
  rw [visF, if_neg (by simp), hP_refs]; rfl
theorem nil_ord {us : List ID32} (h : OrdF [] us) : us = [] := by
  obtain ⟨ks, hk, rfl⟩ := h.ex
  obtain rfl := keys_0 hk
  rfl
theorem rch_nil {os : List Ob} {z : ID32} (h : Rch os [] z) : False := by
  induction h with
  | base h => cases h
  | step _ _ _ ih => exact ih
def Lil (os : List Ob) : Prop := os.length ≤ 3 ∧ ∀ o ∈ os, o.2.2.length ≤ 70
theorem Lil.shf {os : List Ob} (h : Lil os) : Shf os := fun o ho => Nat.le_trans (h.2 o ho) (by decide)
theorem lil_csts {os : List Ob} (h : Lil os) {l us : List ID32} (hf : ObF os l us) {m : List Rc} (hm : ∀ r ∈ m, r.2.length ≤ 71) (hl : m.length ≤ 2) : csts ((pkO os us).map obRc ++ m) ≤ 10 := by
  have a := csts_bd (B := 71) (c := 2) (by decide) (by decide) (rs := (pkO os us).map obRc ++ m) fun r hr => by
    rcases List.mem_append.1 hr with q | q
    · obtain ⟨o, ho, rfl⟩ := List.mem_map.1 q
      have := h.2 o (pk_in ho).1
      show (_ :: o.2.2).length ≤ 71
      rw [List.length_cons]; omega
    · exact hm r q
  have b : (pkO os us).length ≤ us.length := List.length_filterMap_le ..
  have c := hf.len
  have d := h.1
  rw [List.length_append, List.length_map] at a
  omega
theorem Lil.pk {os : List Ob} (h : Lil os) {us : List ID32} (hu : us.length ≤ os.length) : Lil (pkO os us) :=
  ⟨Nat.le_trans (List.length_filterMap_le ..) (Nat.le_trans hu h.1), fun o ho => h.2 o (pk_in ho).1⟩
theorem hP_tl {p : Pt} {qa : Option Addr} {qc : Nat} {ws hs qs : List ID32} (h : TlF (hP p qa qc) [(inN p [], 1)] [] ws hs qs) : recL (hP p qa qc) ws hs qs = [((2, inT p []), 0), ((4, (inN p []).1), 0)] := by
  obtain rfl := hP_ord h.or
  obtain rfl := keys_1 h.hk
  obtain rfl := keys_0 h.ak
  unfold recL rcT
  rw [List.map_cons, List.map_nil, ivT_some hP_look]; rfl
theorem inT_le {p : Pt} (h : p.2 ≤ 32768) : (inT p []).length ≤ 71 ∧ (inT p []).length ≤ 4095 := by
  have := inT0_len h
  constructor <;> omega
theorem rc2 {p : Pt} (h : p.2 ≤ 32768) : RcOk (2, inT p []) := ⟨by show 1 ≤ 2; decide, by show 2 ≤ 200; decide, Nat.le_trans (inT_le h).2 (by decide)⟩
theorem rc4 {x : ID32} : RcOk (4, x.1) := ⟨by show 1 ≤ 4; decide, by show 4 ≤ 200; decide, Nat.le_trans (Nat.le_of_eq x.2) (by decide)⟩
theorem id_le (x : ID32) : x.1.length ≤ 71 := Nat.le_trans (Nat.le_of_eq x.2) (by decide)
theorem two_le {a b : Rc} {B : Nat} (h1 : a.2.length ≤ B) (h2 : b.2.length ≤ B) : ∀ r ∈ [a, b], r.2.length ≤ B := fun r hr => by
  simp only [List.mem_cons, List.not_mem_nil, or_false] at hr
  rcases hr with rfl | rfl
  · exact h1
  · exact h2
theorem two_ok {a b : RcA} (h1 : RcOk a.1) (h2 : RcOk b.1) : ∀ m ∈ [a, b], RcOk m.1 := fun r hr => by
  simp only [List.mem_cons, List.not_mem_nil, or_false] at hr
  rcases hr with rfl | rfl
  · exact h1
  · exact h2
theorem two_id {s : List UInt8} {x : ID32} (h : s.length ≤ 71) : ∀ r ∈ ([(2, s), (4, x.1)] : List Rc), r.2.length ≤ 71 := two_le (a := (2, s)) (b := (4, x.1)) h (id_le x)
theorem hP_pk1 {os : List Ob} {p : Pt} {qa : Option Addr} {qc H : Nat} (h : Lil os) (hp : 1 ≤ p.2 ∧ p.2 ≤ 32768) (hH : 10 < H) : PkH os (hP p qa qc) [(inN p [], 1)] [] H where
  hm := by show 1 ≤ 12; decide
  hh := by show 1 ≤ 12; decide
  ha := by show 0 ≤ 12; decide
  h8 := fun x => by rw [hP_refs]; decide
  hd := fun x _ => fun r hr => by rw [hP_refs] at hr; cases hr
  hus := fun us hu => by
    obtain rfl := hP_ord hu
    exact ⟨by show 1 ≤ 60000; decide, fun x hx => by obtain rfl := List.mem_singleton.1 hx; rw [hP_look]; exact fun e => by cases e⟩
  hpl := fun e he => by
    obtain rfl := List.mem_singleton.1 he
    exact ⟨Nat.zero_le _, by show p.2 ≤ _; omega⟩
  hrc := fun ws hs qs ht => by
    rw [hP_tl ht]
    exact ⟨by show 2 ≤ 400000; decide, two_ok (rc2 hp.2) rc4⟩
  hsp := fun l us ws hs qs ho ht => by
    have e : rcsF (hP p qa qc) ws hs qs = [(2, inT p []), (4, (inN p []).1)] := by show (recL _ _ _ _).map _ = _; rw [hP_tl ht]; rfl
    rw [e]
    exact Nat.lt_of_le_of_lt (lil_csts h ho (m := [(2, inT p []), (4, (inN p []).1)]) (two_id (inT_le hp.2).1) (by rw [List.length_cons, List.length_cons, List.length_nil]; decide)) hH
theorem hP_pk2 {os : List Ob} {H : Nat} (h : Lil os) (hH : 10 < H) : PkH os [] [] [] H where
  hm := by decide
  hh := by decide
  ha := by decide
  h8 := fun x => by show ([] : List ID32).length ≤ 8; decide
  hd := fun x hx => by cases hx
  hus := fun us hu => by
    obtain rfl := nil_ord hu
    exact ⟨by decide, fun x hx => by cases hx⟩
  hpl := fun e he => by cases he
  hrc := fun ws hs qs ht => by
    obtain rfl := nil_ord ht.or
    obtain rfl := keys_0 ht.hk
    obtain rfl := keys_0 ht.ak
    exact ⟨by decide, fun m hm => by cases hm⟩
  hsp := fun l us ws hs qs ho ht => by
    obtain rfl := nil_ord ht.or
    obtain rfl := keys_0 ht.hk
    obtain rfl := keys_0 ht.ak
    have := lil_csts h ho (m := []) (fun r hr => by cases hr) (by decide)
    exact Nat.lt_of_le_of_lt this hH
theorem hP_dd1 {os : List Ob} {p : Pt} {qa : Option Addr} {qc : Nat} {lv us : List ID32} (h : LivF os [(inN p [], 1)] [] lv) (k : OrdF (hP p qa qc) us) : ddF lv us.reverse = [] := by
  obtain rfl := hP_ord k
  obtain ⟨hs, qs, a, b, c⟩ := h.ex
  obtain rfl := keys_1 a
  obtain rfl := keys_0 b
  have : inN p [] ∈ lv := (c.mem _).2 (.base (by simp))
  unfold ddF
  rw [List.reverse_singleton, List.filter_cons_of_neg (by simp [this]), List.filter_nil]
theorem hP_dd2 {os : List Ob} {p : Pt} {qa : Option Addr} {qc : Nat} {lv us : List ID32} (h : LivF os [] [] lv) (k : OrdF (hP p qa qc) us) : ddF lv us.reverse = [inN p []] := by
  obtain rfl := hP_ord k
  obtain ⟨hs, qs, a, b, c⟩ := h.ex
  obtain rfl := keys_0 a
  obtain rfl := keys_0 b
  have : inN p [] ∉ lv := fun q => rch_nil ((c.mem _).1 q)
  unfold ddF
  rw [List.reverse_singleton, List.filter_cons_of_pos (by simp [this]), List.filter_nil]
theorem hP_ok {p : Pt} {qa : Option Addr} {qc : Nat} : PlOk (hP p qa qc) := fun e he => by
  obtain rfl := List.mem_singleton.1 he
  exact ⟨List.Pairwise.nil, Nat.zero_le _⟩
theorem hP_nr {p : Pt} {qa : Option Addr} {qc : Nat} (x : ID32) : ¬ refBy (hP p qa qc) x := fun ⟨e, he, hx⟩ => by
  obtain rfl := List.mem_singleton.1 he
  cases hx
theorem hP_go {p : Pt} {qa : Option Addr} {qc : Nat} : GoH (hP p qa qc) [] [inN p []] := fun i x h => by
  have hi : i = 0 := by have := (List.getElem?_eq_some_iff.1 h).1; simp at this; exact this
  subst hi
  obtain rfl : inN p [] = x := by simpa using h
  have e0 : dls (hP p qa qc) ([inN p []].take 0) = hP p qa qc := by rw [List.take_zero]; rfl
  rw [e0]
  exact ⟨hP_ok, hP_nr _, R, fun e => by rw [hP_look] at e; cases e⟩
theorem go_0 {pl : IvM} {hl : SnM} : GoH pl hl [] := fun i x h => by cases h
theorem hP_del {p : Pt} {qa : Option Addr} {qc : Nat} : dls (hP p qa qc) [inN p []] = [] := by
  rw [dls, List.foldl_cons, List.foldl_nil, hP, del, if_pos rfl]


end Cv
set_option maxRecDepth 10000
namespace Cv
open Go Go.Proofs
/-! ## one chunk under one node -/
def hp1 (w : List UInt8) : Pt := upt 1 [lf w]
def hO (w : List UInt8) : List Ob := [lo w, uob 1 [lf w], (3, inN (hp1 w) [], inT (hp1 w) [])]
theorem sz1 (w : List UInt8) : sizeP [lf w] = (w.length : Int) := by show (0 : Int) + (w.length : Int) = _; omega
theorem hp1_sz (w : List UInt8) : (hp1 w).2 = (w.length : Int) := sz1 w
theorem chk1 {w : List UInt8} (h : 1 ≤ w.length ∧ w.length ≤ 256) : chkN 1 [lf w] = 0 := by
  have hb : chkG 1 [lf w] = 0 := chkG_ok fun y hy => by
    obtain rfl := List.mem_singleton.1 hy
    unfold badP
    rw [if_neg (by show ¬ (w.length : Int) < 1; omega), if_neg (by rw [mostF_1]; show ¬ ((256 : Nat) : Int) < (w.length : Int); omega)]
  unfold chkN
  rw [if_neg (by simp), if_neg (by simp), if_neg (fun q => q hb), if_neg (by rw [sz1]; omega)]
theorem nd1_len {w : List UInt8} : (nodeT 1 [lf w]).length ≤ 59 ∨ 4611686018427387904 < w.length := by
  by_cases c : w.length ≤ 4611686018427387904
  · left
    exact nodeP_len (k := 1) (ps := [lf w]) (by decide) (by simp) (fun p hp => by obtain rfl := List.mem_singleton.1 hp; show (w.length : Int) ≤ _; omega) 1
  · right; omega
theorem hp1_id (w : List UInt8) : (hp1 w).1 = oI 2 (nodeT 1 [lf w]) := by unfold hp1 upt; rfl
theorem lf_id (w : List UInt8) : (lf w).1 = oI 1 w := by unfold lf; rfl
theorem m10 : ¬ (-1 : Int) = 0 := by decide
theorem giv_nd {w : List UInt8} (h : 1 ≤ w.length ∧ w.length ≤ 256) : givE (hp1 w, -1) (nodeT 1 [lf w]) = 0 ∧ givL (hp1 w, -1) (nodeT 1 [lf w]) = [(lf w, 0)] ∧ givB (hp1 w, -1) (nodeT 1 [lf w]) = [] := by
  have hn := node_put (chk1 h)
  have k1 : wkK (hp1 w, -1) = 2 := if_neg m10
  refine ⟨?_, ?_, if_neg m10⟩
  · unfold givE
    rw [k1, if_neg (show ¬ oidF 2 (nodeT 1 [lf w]) ≠ (hp1 w).1.1 by rw [hp1_id, oI_val]; exact fun q => q rfl), if_neg m10, hn]
    unfold nodE
    rw [if_neg (fun q => q rfl), if_neg]
    intro q
    rcases q with q | q
    · exact absurd q.1 (show ¬ (0 : Int) < -1 by decide)
    · exact q R
  · unfold givL
    rw [if_neg m10, hn]; rfl
theorem giv_lf {w : List UInt8} : givE (lf w, 0) w = 0 ∧ givL (lf w, 0) w = [] ∧ givB (lf w, 0) w = w := by
  have k1 : wkK (lf w, 0) = 1 := if_pos rfl
  refine ⟨?_, if_pos R, if_pos R⟩
  unfold givE
  rw [k1, if_neg (show ¬ oidF 1 w ≠ (lf w).1.1 by rw [lf_id, oI_val]; exact fun q => q rfl), if_pos rfl, if_neg (show ¬ ((w.length : Nat) : Int) ≠ (lf w).2 from fun q => q rfl)]
theorem go_1 {a : Ob} {l : List Ob} : goF (a :: l) a.2.1 = some a := if_pos rfl
theorem go_2 {a b : Ob} {l : List Ob} (h : a.2.1 ≠ b.2.1) : goF (a :: b :: l) b.2.1 = some b := by rw [goF, if_neg h]; exact if_pos rfl
theorem h_wv {w : List UInt8} (h : 1 ≤ w.length ∧ w.length ≤ 256) (hn : (lo w).2.1 ≠ (uob 1 [lf w]).2.1) {r : List UInt8 × Int} (k : WvR (hO w) [(hp1 w, -1)] [] r) : r = (w, 0) := by
  have g1 : goF (hO w) (hp1 w, (-1 : Int)).1.1 = some (uob 1 [lf w]) := go_2 hn
  have g2 : goF (hO w) (lf w, (0 : Int)).1.1 = some (lo w) := go_1
  obtain ⟨a1, a2, a3⟩ := giv_nd h
  obtain ⟨b1, b2, b3⟩ := @giv_lf w
  have t1 : (getO (hO w) (hp1 w, (-1 : Int)).1.1).2.2 = nodeT 1 [lf w] := by rw [getO_hit g1]; rfl
  have t2 : (getO (hO w) (lf w, (0 : Int)).1.1).2.2 = w := by rw [getO_hit g2]; rfl
  have s1 := wv_inv (l := []) (s := (hp1 w, -1)) k (getE_hit g1) (by rw [t1]; exact a1)
  rw [t1, a2, a3] at s1
  have s2 := wv_inv (l := []) (s := (lf w, 0)) s1 (getE_hit g2) (by rw [t2]; exact b1)
  rw [t2, b2, b3] at s2
  exact wv_nil s2
theorem hO_lil {w : List UInt8} (h : 1 ≤ w.length ∧ w.length ≤ 70) : Lil (hO w) := by
  refine ⟨Nat.le_refl 3, fun o ho => ?_⟩
  have h1 := inT0_len (p := hp1 w) (by rw [hp1_sz]; omega)
  have h2 := @nd1_len w
  unfold hO at ho
  rcases List.mem_cons.1 ho with rfl | ho
  · exact h.2
  · rcases List.mem_cons.1 ho with rfl | ho
    · show (nodeT 1 [lf w]).length ≤ 70; omega
    · obtain rfl := List.mem_singleton.1 ho
      exact Nat.le_trans h1 (by decide)
theorem obk {k : Int} {t : List UInt8} (h : 1 ≤ k ∧ k ≤ 3) (ht : t.length ≤ 4095) : ObOk (k, oI k t, t) := ⟨h.1, h.2, rfl, ht⟩
theorem hO_ok {w : List UInt8} (h : 1 ≤ w.length ∧ w.length ≤ 70) : ∀ o ∈ hO w, ObOk o := fun o ho => by
  have h1 := inT0_len (p := hp1 w) (by rw [hp1_sz]; omega)
  have h2 := @nd1_len w
  unfold hO at ho
  rcases List.mem_cons.1 ho with rfl | ho
  · exact obk (by decide) (by omega)
  · rcases List.mem_cons.1 ho with rfl | ho
    · exact obk (by decide) (by omega)
    · obtain rfl := List.mem_singleton.1 ho
      exact obk (by decide) (Nat.le_trans h1 (by decide))
theorem hO_rs {w : List UInt8} (h : 1 ≤ w.length ∧ w.length ≤ 70) (hn : ((hO w).map (·.2.1)).Nodup) : putR [] (hO w) = (hO w).map obRc := by
  rw [putR_nd (hO_ok h) hn (fun o ho q => by cases q), List.nil_append]
theorem osR_two {l : List Ob} {m : List Rc} (h : ∀ o ∈ l, ObOk o) (hm : ∀ r ∈ m, rcO r = none) : osR (l.map obRc ++ m) = l := by
  rw [osR_app, osR_obs h, osR_nil hm, List.append_nil]
theorem sum3 {w : List UInt8} (h : 1 ≤ w.length ∧ w.length ≤ 70) : sumC (hO w) ≤ 6 := by
  have hl := (hO_lil h).2
  have : ∀ l : List Ob, (∀ o ∈ l, o.2.2.length ≤ 70) → sumC l ≤ 2 * l.length := fun l => by
    induction l with
    | nil => exact fun _ => Nat.zero_le _
    | cons o l ih =>
      intro q
      have a := ih fun x hx => q x (List.mem_cons_of_mem _ hx)
      have b := q o (List.mem_cons_self ..)
      have c := cst_le (n := o.2.2.length + 1) (by omega)
      have e : sumC (o :: l) = cO o + sumC l := by unfold sumC; rw [List.map_cons, List.sum_cons]
      rw [e, List.length_cons]; unfold cO; omega
  exact this _ hl
/-! ### 'hello' -/
abbrev hw : List UInt8 := wrS xh
theorem hw_l : hw.length = 13 := wr_h.1
theorem hw_len : 1 ≤ hw.length ∧ hw.length ≤ 70 := by rw [hw_l]; decide
theorem h_of : ofB xh = (hp1 hw, [lo hw, uob 1 [lf hw]], 0) := by
  have h0 : hw ≠ [] := fun q => by have := hw_len.1; rw [q] at this; simp at this
  unfold ofB
  rw [chnF_short (by rw [hw_l]; decide) h0]
  exact bld_one h0 (by rw [hw_l]; decide)
theorem hw_is : hw = [99, 114, 118, 1, 1, 1, 1, 5, 104, 101, 108, 108, 111] := by decide +kernel
theorem h_nd : ((hO hw).map (·.2.1)).Nodup := by
  rw [hw_is]; decide +kernel
theorem h_tr : trF (hp1 hw).2 hw = (xh, 0) := by
  have hk := okT_h.1
  have h1 : hw = mark ++ putT xh := (wr_ok hk (by rw [put_h]; decide)).1
  have h2 : parF hw = (xh.named [], 0) := by rw [h1]; exact par_put hk (by rw [put_h]; decide)
  unfold trF
  rw [hp1_sz, if_neg (fun q => q rfl), h2]; rfl


end Cv
set_option maxRecDepth 10000
namespace Cv
open Go Go.Proofs
/-! ## a file in a directory: how much it takes -/
def flT (t : List UInt8) : Tr := .mk [] 4 [] [.mk [102] 1 t []]
theorem fl_chk {t : List UInt8} (h : t.length ≤ 700) : chkE (flT t) = 0 := by
  have e2 : chkT (.mk [102] 1 t []) 2 = (1, 0) := by
    rw [chkT, if_neg (fun q => q (own0_5 (by decide) (by simp) (by simp) (by omega))), chkL]
  have e1 : chkT (flT t) 1 = (2, 0) := by
    unfold flT
    rw [chkT, show decide (0 < [Tr.mk [102] 1 t []].length) = true from rfl, if_neg (show ¬ own0 4 [] true 1 ≠ 0 by decide), chkL, if_neg (by simp only [reduceCtorEq, false_and, exists_false, or_false]; show ¬ nameB [102] = false; decide), e2, if_neg (fun q => q rfl), chkL]
    rfl
  unfold chkE; rw [e1]; rfl
theorem nb_len {n : Nat} (h : n < 65536) : (numB n).length ≤ 3 := by
  have := beB_len 2 n (by simpa using h)
  unfold numB; rw [List.length_cons]; omega
theorem nb_len1 {n : Nat} (h : n < 256) : (numB n).length ≤ 2 := by
  have := beB_len 1 n (by simpa using h)
  unfold numB; rw [List.length_cons]; omega
theorem fl_put {t : List UInt8} (h : t.length ≤ 700) : (putT (flT t)).length ≤ 712 := by
  have e : putT (flT t) = numB 4 ++ (numB 1 ++ (strB [102] ++ (numB 1 ++ strB t) ++ [])) := by
    unfold flT
    rw [putT, if_neg (fun q => q rfl), putL, putL, putT, if_pos (by decide)]; rfl
  have h1 := nb_len1 (n := 4) (by decide)
  have h2 := nb_len1 (n := 1) (by decide)
  have h3 := nb_len (n := t.length) (by omega)
  rw [e]; unfold strB
  simp only [List.length_append, List.length_cons, List.length_nil, Nat.zero_add]
  omega
theorem fl_wr {t : List UInt8} (h : t.length ≤ 700) : wrE (flT t) = 0 ∧ 1 ≤ (wrS (flT t)).length ∧ (wrS (flT t)).length ≤ 716 := by
  have h1 := fl_put h
  obtain ⟨e1, e2⟩ := wr_ok (fl_chk h) (by omega)
  have hm : mark.length = 4 := rfl
  rw [e1, List.length_append]
  exact ⟨e2, by omega, by omega⟩
theorem fl_sm {t : List UInt8} (h : t.length ≤ 700) : TAll Sm (flT t) := .of fun y hy => by
  obtain rfl : y = .mk [102] 1 t [] := List.mem_singleton.1 hy
  exact ⟨⟨by show [(102 : UInt8)].length ≤ _; decide, by show t.length ≤ _; omega⟩, tall_leaf⟩
theorem fl_count (t : List UInt8) : (flT t).count = 2 := by
  unfold flT; rw [Tr.count_eq]; show countL [.mk [102] 1 t []] + 1 = 2
  rw [countL, countL, Tr.count_eq]; rfl
theorem cut_min {T : List Int} : ∀ {l : List UInt8} {s : CutS}, (∀ c ∈ s.1, 32 ≤ c.length) → ∀ c ∈ (cutW T s l).1, 32 ≤ c.length
  | [], _, h => h
  | c :: l, s, h => by
    have h1 : ∀ x ∈ (cutS T s c).1, 32 ≤ x.length := by
      by_cases e : endB (s.2.length + 1) (rollN T (rollL T s.2) c) = true
      · rw [cutS_yes e]
        intro x hx
        rcases List.mem_append.1 hx with q | q
        · exact h x q
        · obtain rfl := List.mem_singleton.1 q
          have := (of_decide_eq_true e).1
          rw [List.length_append, List.length_singleton]; omega
      · rw [cutS_no (by simpa using e)]; exact h
    exact cut_min (l := l) h1
theorem flat_ge : ∀ {cs : List (List UInt8)}, (∀ c ∈ cs, 32 ≤ c.length) → 32 * cs.length ≤ cs.flatten.length
  | [], _ => Nat.zero_le _
  | c :: cs, h => by
    have h1 := flat_ge (cs := cs) fun x hx => h x (List.mem_cons_of_mem _ hx)
    have h2 := h c (List.mem_cons_self ..)
    rw [List.flatten_cons, List.length_append, List.length_cons]; omega
theorem chn_few {T : List Int} {s : List UInt8} : 32 * (chnF T s).length ≤ s.length + 31 := by
  have h1 := cut_o (T := T) (l := s) (s := ([], [])) (p := []) ⟨by simp, by show 0 < 256; decide, rfl⟩
  have h2 := flat_ge (cut_min (T := T) (l := s) (s := ([], [])) (fun c hc => by cases hc))
  have h3 := congrArg List.length h1.all
  rw [List.length_append, List.nil_append] at h3
  unfold chnF lastC
  rw [List.length_append]
  split
  · simp only [List.length_nil]; omega
  · rename_i hq
    have := List.length_pos_iff.2 hq
    simp only [List.length_singleton]; omega
def NdO (o : Ob) : Prop := ∃ t : List UInt8, o = (2, oI 2 t, t) ∧ t.length ≤ 346
theorem NdO.ok {o : Ob} (h : NdO o) : ObOk o := by
  obtain ⟨t, rfl, ht⟩ := h
  exact obk (by decide) (by omega)
theorem NdO.le {o : Ob} (h : NdO o) : o.2.2.length ≤ 346 := by
  obtain ⟨t, rfl, ht⟩ := h
  exact ht
theorem up_nd {k : Nat} {ps : List Pt} (hk : k ≤ 1000) (h1 : ∀ p ∈ ps, 1 ≤ p.2) (hs : sizeP ps ≤ 32768) : ∀ o ∈ upO k ps, NdO o := fun o ho => by
  obtain ⟨g, hg, rfl⟩ := List.mem_map.1 ho
  obtain ⟨i, hi, rfl⟩ := List.mem_map.1 hg
  have hl := @grp_len ps i
  have hn := nodeP_len (k := k) (ps := grp ps i) (by omega) (by omega) (fun p hp => by have := size_mem h1 (grp_mem hp); omega) (grp ps i).length
  unfold uob
  exact ⟨_, R, by unfold nodeT; omega⟩
theorem lvR_few : ∀ (f k : Nat) (ps : List Pt) (os : List Ob), 1 ≤ ps.length → 2 ≤ k → ps.length ≤ f → k + f ≤ 1000 → (∀ p ∈ ps, 1 ≤ p.2) → sizeP ps ≤ 32768 → ∃ p ns, lvR f k ps os = ([p], os ++ ns) ∧ ns.length + 1 ≤ ps.length ∧ ∀ o ∈ ns, NdO o
  | 0, _, _, _, h1, _, h3, _, _, _ => by omega
  | f + 1, k, ps, os, h1, h2, h3, h4, h5, h6 => by
    have hg : gN ps.length = (ps.length + 7) / 8 := rfl
    have hu := @upP_len k ps
    have hv := @upO_len k ps
    by_cases c : 1 < ps.length
    · obtain ⟨p, ns, e1, e2, e3⟩ := lvR_few f (k + 1) (upP k ps) (os ++ upO k ps) (by rw [hu, hg]; omega) (by omega) (by rw [hu, hg]; omega) (by omega) (up_pos h5) (by rw [size_up]; exact h6)
      refine ⟨p, upO k ps ++ ns, by rw [lvR_s (.inr c), e1, List.append_assoc], by rw [List.length_append, hv]; rw [hu] at e2; omega, fun o ho => ?_⟩
      rcases List.mem_append.1 ho with q | q
      · exact up_nd (by omega) h5 h6 o q
      · exact e3 o q
    · match ps, h1, c with
      | [p], _, c => exact ⟨p, [], by rw [lvR_z (by omega), List.append_nil], by simp, fun o ho => by cases ho⟩
      | p :: q :: l, _, c => exact absurd (by simp only [List.length_cons]; omega) c
theorem sumC_app {l m : List Ob} : sumC (l ++ m) = sumC l + sumC m := by unfold sumC; rw [List.map_append, List.sum_append]
theorem sumC_lo : ∀ {cs : List (List UInt8)}, (∀ c ∈ cs, c.length ≤ 256) → 64 * sumC (cs.map lo) ≤ cs.flatten.length + 101 * cs.length
  | [], _ => Nat.zero_le _
  | c :: cs, h => by
    have h1 := sumC_lo (cs := cs) fun x hx => h x (List.mem_cons_of_mem _ hx)
    have h2 := h c (List.mem_cons_self ..)
    have h3 := cst_le (n := c.length + 1) (by omega)
    have e : sumC ((c :: cs).map lo) = cstB (c.length + 1) + sumC (cs.map lo) := by rw [List.map_cons]; unfold sumC; rw [List.map_cons, List.sum_cons]; rfl
    rw [e, List.flatten_cons, List.length_append, List.length_cons]; omega
theorem sumC_nd : ∀ {l : List Ob}, (∀ o ∈ l, o.2.2.length ≤ 346) → sumC l ≤ 6 * l.length
  | [], _ => Nat.zero_le _
  | o :: l, h => by
    have h1 := sumC_nd (l := l) fun x hx => h x (List.mem_cons_of_mem _ hx)
    have h2 := h o (List.mem_cons_self ..)
    have h3 := cst_le (n := o.2.2.length + 1) (by omega)
    have e : sumC (o :: l) = cO o + sumC l := by unfold sumC; rw [List.map_cons, List.sum_cons]
    rw [e, List.length_cons]; unfold cO; omega
theorem bld_few {cs : List (List UInt8)} (h : ∀ c ∈ cs, ¬ badC c) (h0 : 1 ≤ cs.flatten.length) (h1 : cs.flatten.length ≤ 716) (h2 : cs.length ≤ 23) : ∃ p os, bldM cs = (p, os, 0) ∧ os.length ≤ 28 ∧ (∀ o ∈ os, ObOk o) ∧ sumC os ≤ 77 := by
  have hz : sizeI (cs.map lf) cs.length = (cs.flatten.length : Int) := by
    rw [← size_flat]; unfold sizeP; rw [List.length_map]
  have hl : 1 ≤ cs.length := Nat.pos_of_ne_zero fun q => by
    obtain rfl : cs = [] := List.length_eq_zero_iff.1 q
    simp at h0
  have hb : ∀ c ∈ cs, c ≠ [] ∧ c.length ≤ 256 := fun c hc => by
    have := h c hc
    simp only [badC, not_or] at this
    exact ⟨this.1, by omega⟩
  have hp : ∀ p ∈ cs.map lf, 1 ≤ p.2 := fun p hp => by
    obtain ⟨c, hc, rfl⟩ := List.mem_map.1 hp
    have := List.length_pos_iff.2 (hb c hc).1
    show 1 ≤ (c.length : Int); omega
  have hs : sizeP (cs.map lf) ≤ 32768 := by rw [size_flat]; omega
  have hg : gN (cs.map lf).length = ((cs.map lf).length + 7) / 8 := rfl
  have hu := @upP_len 1 (cs.map lf)
  have hv := @upO_len 1 (cs.map lf)
  rw [List.length_map] at hg hu hv
  obtain ⟨p, ns, e1, e2, e3⟩ := lvR_few cs.length 2 (upP 1 (cs.map lf)) (cs.map lo ++ upO 1 (cs.map lf)) (by omega) (by omega) (by omega) (by omega) (up_pos hp) (by rw [size_up]; exact hs)
  have en := up_nd (k := 1) (by decide) hp hs
  have ek : ∀ o ∈ upO 1 (cs.map lf) ++ ns, NdO o := fun o ho => (List.mem_append.1 ho).elim (en o) (e3 o)
  have el : (upO 1 (cs.map lf) ++ ns).length ≤ 5 := by rw [List.length_append]; omega
  have s1 := sumC_lo (cs := cs) fun c hc => (hb c hc).2
  have s2 := sumC_nd (l := upO 1 (cs.map lf) ++ ns) fun o ho => (ek o ho).le
  refine ⟨p, cs.map lo ++ (upO 1 (cs.map lf) ++ ns), bld_ok h (by omega) (by omega) (by rw [lvR_s (.inl R), e1, List.append_assoc]), ?_, fun o ho => ?_, ?_⟩
  · rw [List.length_append, List.length_map]; omega
  · rcases List.mem_append.1 ho with q | q
    · obtain ⟨c, hc, rfl⟩ := List.mem_map.1 q
      exact obk (by decide) (by have := (hb c hc).2; omega)
    · exact (ek o q).ok
  · rw [sumC_app]; omega
structure AdH (x : Tr) (p : Pt) (os : List Ob) (B : Nat) : Prop where
  wr : wrE x = 0
  of : ofB x = (p, os, 0)
  ct : x.count ≤ 900000
  sm : TAll Sm x
  tl : x.t.length ≤ 20000
  ok : ∀ o ∈ os ++ [((3, inN p [], inT p []) : Ob)], ObOk o
  ln : (os ++ [((3, inN p [], inT p []) : Ob)]).length ≤ 100
  p1 : 1 ≤ p.2 ∧ p.2 ≤ 32768
  sp : sumC (os ++ [((3, inN p [], inT p []) : Ob)]) + cstB (inT p []).length ≤ B
theorem inN_eq (p : Pt) : inN p [] = oI 3 (inT p []) := by unfold inN; rfl
theorem ob3_ok {p : Pt} (h : p.2 ≤ 32768) : ObOk ((3, inN p [], inT p []) : Ob) := by
  have := inT0_len h
  rw [inN_eq]
  exact obk (by decide) (by omega)
theorem fl_ok {t : List UInt8} (h : t.length ≤ 700) : ∃ p os, AdH (flT t) p os 81 := by
  obtain ⟨h1, h2, h3⟩ := fl_wr h
  obtain ⟨c1, c2⟩ := chn_good (T := gearT seedS) (s := wrS (flT t))
  have c3 := @chn_few (gearT seedS) (wrS (flT t))
  obtain ⟨p, os, e1, e2, e3, e4⟩ := bld_few c1 (by rw [c2]; exact h2) (by rw [c2]; exact h3) (by omega)
  obtain ⟨q, ns, ⟨f1, -⟩, f2, -⟩ := ofB_out (x := flT t) h2
  have e5 : ofB (flT t) = (p, os, 0) := e1
  obtain rfl : q = p := by rw [e5] at f1; exact (congrArg (·.1) f1).symm
  have hp : 1 ≤ q.2 ∧ q.2 ≤ 32768 := by omega
  have hi := inT0_len hp.2
  have h7 := cst_le (n := (inT q []).length) (by omega)
  have h8 := sumC_nd (l := [((3, inN q [], inT q []) : Ob)]) fun o ho => by obtain rfl := List.mem_singleton.1 ho; show (inT q []).length ≤ _; omega
  have h9 : sumC [((3, inN q [], inT q []) : Ob)] ≤ 2 := by
    have h8 := cst_le (n := (inT q []).length + 1) (by omega)
    show cstB ((inT q []).length + 1) + 0 ≤ 2
    omega
  exact ⟨q, os, h1, e5, by rw [fl_count]; decide, fl_sm h, by show ([] : List UInt8).length ≤ _; decide, fun o ho => (List.mem_append.1 ho).elim (e3 o) (fun k => by obtain rfl := List.mem_singleton.1 k; exact ob3_ok hp.2), by rw [List.length_append, List.length_singleton]; omega, hp, by rw [sumC_app]; omega⟩
theorem hO_app (w : List UInt8) : hO w = [lo w, uob 1 [lf w]] ++ [((3, inN (hp1 w) [], inT (hp1 w) []) : Ob)] := rfl
theorem h_adh : AdH xh (hp1 hw) [lo hw, uob 1 [lf hw]] 8 := by
  have hp : 1 ≤ (hp1 hw).2 ∧ (hp1 hw).2 ≤ 32768 := by rw [hp1_sz, hw_l]; decide
  have hi := inT0_len hp.2
  have h7 := cst_le (n := (inT (hp1 hw) []).length) (by omega)
  have h8 := sum3 hw_len
  obtain ⟨k1, k2, k3, k4, k5, k6⟩ := okT_h
  exact ⟨wr_h.2, h_of, by omega, k3, k4, fun o ho => hO_ok hw_len o ho, by show (hO hw).length ≤ 100; decide, hp, by rw [← hO_app]; omega⟩
abbrev stB (bd bs : Nat) (h : Int) : List Value := [.pointer (some ⟨bd, 0, none⟩), .pointer (some ⟨bs, 0, none⟩), .slice none 0 0, .slice none 0 0, .slice none 0 0, .slice none 0 0, .int .i64 h, .int .i64 0, .slice none 0 0, .slice none 0 0]


end Cv
