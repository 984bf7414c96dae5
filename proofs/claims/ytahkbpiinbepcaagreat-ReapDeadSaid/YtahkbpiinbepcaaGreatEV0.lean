/-
  What is evaluated: the gear table, the chunks, the names of the objects of the eight paths.
-/
import Derived.Test.YtahkbpiinbepcaaGreatBB15
set_option linter.unusedVariables false
set_option linter.unusedSimpArgs false
set_option linter.unusedSectionVars false
set_option maxRecDepth 100000
namespace Cv
open Go
/-! ## what is evaluated: names as numbers, chunks by their lengths -/
def idB (k : Nat) : List UInt8 := (List.range 32).map fun i => UInt8.ofNat (k / 256 ^ (31 - i) % 256)
theorem idB_len (k : Nat) : (idB k).length = 32 := by unfold idB; simp
def idL (k : Nat) : ID32 := ⟨idB k, idB_len k⟩
def valB (l : List UInt8) : Nat := l.foldl (fun a b => a * 256 + b.toNat) 0
theorem val_idB {k : Nat} (h : k < 2 ^ 256) : valB (idB k) = k := by
  have key : ∀ n, n ≤ 32 → ((List.range n).map fun i => UInt8.ofNat (k / 256 ^ (31 - i) % 256)).foldl (fun a b => a * 256 + b.toNat) 0 = k / 256 ^ (32 - n) := by
    intro n
    induction n with
    | zero =>
      intro _
      show 0 = k / 256 ^ 32
      exact (Nat.div_eq_of_lt (Nat.lt_of_lt_of_le h (by decide))).symm
    | succ n ih =>
      intro hn
      rw [List.range_succ, List.map_append, List.foldl_append, ih (by omega)]
      show k / 256 ^ (32 - n) * 256 + (UInt8.ofNat (k / 256 ^ (31 - n) % 256)).toNat = _
      have e1 : (UInt8.ofNat (k / 256 ^ (31 - n) % 256)).toNat = k / 256 ^ (31 - n) % 256 := by
        rw [UInt8.toNat_ofNat']; exact Nat.mod_eq_of_lt (Nat.mod_lt _ (by decide))
      have e2 : 256 ^ (32 - n) = 256 ^ (31 - n) * 256 := by rw [← Nat.pow_succ]; congr 1; omega
      rw [e1, e2, ← Nat.div_div_eq_div_mul, show 32 - (n + 1) = 31 - n by omega]
      omega
  have := key 32 (Nat.le_refl _)
  rw [Nat.sub_self, Nat.pow_zero, Nat.div_one] at this
  exact this
theorem idL_inj {a b : Nat} (ha : a < 2 ^ 256) (hb : b < 2 ^ 256) (e : idL a = idL b) : a = b := by
  have := congrArg (fun x : ID32 => valB x.1) e
  have h2 : valB (idB a) = valB (idB b) := this
  rwa [val_idB ha, val_idB hb] at h2
theorem idL_val (a : Nat) : (idL a).1 = idB a := rfl
theorem oI_lit {k : Int} {t : List UInt8} {a : Nat} (h : oidF k t = idB a) : oI k t = idL a := Subtype.ext (by rw [oI_val, idL_val]; exact h)
def lens (T : List Int) : Int → Nat → List UInt8 → List Nat
  | _, n, [] => if n = 0 then [] else [n]
  | h, n, c :: l => if endB (n + 1) (rollN T h c) = true then (n + 1) :: lens T 0 0 l else lens T (rollN T h c) (n + 1) l
def splitL : List UInt8 → List Nat → List (List UInt8)
  | _, [] => []
  | s, k :: ks => s.take k :: splitL (s.drop k) ks
theorem lens_eq {T : List Int} : ∀ (l : List UInt8) (u : List (List UInt8)) (q : List UInt8), (cutW T (u, q) l).1 ++ lastC (cutW T (u, q) l).2 = u ++ splitL (q ++ l) (lens T (rollL T q) q.length l)
  | [], u, q => by
    show u ++ lastC q = u ++ splitL (q ++ []) (lens T (rollL T q) q.length [])
    rw [List.append_nil, lens]
    unfold lastC
    by_cases h : q = []
    · rw [if_pos h, if_pos (by rw [h]; rfl)]; rfl
    · rw [if_neg h, if_neg (fun e => h (List.length_eq_zero_iff.1 e))]
      show _ = u ++ (q.take q.length :: _)
      rw [List.take_length]; rfl
  | c :: l, u, q => by
    rw [lens]
    show (cutW T (cutS T (u, q) c) l).1 ++ lastC (cutW T (cutS T (u, q) c) l).2 = _
    by_cases e : endB (q.length + 1) (rollN T (rollL T q) c) = true
    · rw [cutS_yes (s := (u, q)) e, if_pos e, lens_eq l]
      show u ++ [q ++ [c]] ++ splitL ([] ++ l) _ = u ++ ((q ++ c :: l).take (q.length + 1) :: splitL ((q ++ c :: l).drop (q.length + 1)) _)
      have e1 : (q ++ c :: l).take (q.length + 1) = q ++ [c] := by
        rw [show q ++ c :: l = (q ++ [c]) ++ l by simp]
        exact List.take_left' (by simp)
      have e2 : (q ++ c :: l).drop (q.length + 1) = l := by
        rw [show q ++ c :: l = (q ++ [c]) ++ l by simp]
        exact List.drop_left' (by simp)
      rw [e1, e2, List.append_assoc]; rfl
    · have e' : endB (q.length + 1) (rollN T (rollL T q) c) = false := by simpa using e
      rw [cutS_no (s := (u, q)) e', if_neg e, lens_eq l]
      show u ++ splitL (q ++ [c] ++ l) (lens T (rollL T (q ++ [c])) (q ++ [c]).length l) = _
      rw [rollL_s, List.length_append, List.length_singleton, List.append_assoc]; rfl
theorem chn_lens {T : List Int} (s : List UInt8) : chnF T s = splitL s (lens T 0 0 s) := by
  have := lens_eq (T := T) s [] []
  rw [List.nil_append, List.nil_append] at this
  exact this
def mdW (n : Nat) : List UInt8 := mark ++ (numB 1 ++ (numB (mdZ n) ++ mdB n))
theorem mdCh_is {n : Nat} (h : n < 8) : mdCh n = splitL (mdW n) (lens (gearT seedS) 0 0 (mdW n)) := by
  unfold mdCh
  rw [(wr_md h).1, put_md]
  exact chn_lens _
theorem lf_map : ∀ {cs : List (List UInt8)} {ks : List Nat}, cs.map (oidF 1) = ks.map idB → cs.map lf = (ks.zip (cs.map List.length)).map fun p => (idL p.1, (p.2 : Int))
  | [], [], _ => rfl
  | [], _ :: _, h => by cases h
  | _ :: _, [], h => by cases h
  | c :: cs, k :: ks, h => by
    rw [List.map_cons, List.map_cons] at h
    obtain ⟨h1, h2⟩ := List.cons.inj h
    rw [List.map_cons, List.map_cons, List.zip_cons_cons, List.map_cons, lf_map h2]
    have e : lf c = (idL k, (c.length : Int)) := by unfold lf; rw [oI_lit h1]
    rw [e]
theorem mdP_is {n : Nat} {cs : List (List UInt8)} {ks : List Nat} {ps : List Pt} (h1 : mdCh n = cs) (h2 : cs.map (oidF 1) = ks.map idB) (h3 : ((ks.zip (cs.map List.length)).map fun p => (idL p.1, (p.2 : Int))) = ps) : mdP n = ps := by
  unfold mdP; rw [h1, lf_map h2, h3]
theorem up_map {k : Nat} : ∀ {gs : List (List Pt)} {ks : List Nat}, gs.map (fun g => oidF 2 (nodeT k g)) = ks.map idB → gs.map (upt k) = (ks.zip (gs.map sizeP)).map fun p => (idL p.1, p.2)
  | [], [], _ => rfl
  | [], _ :: _, h => by cases h
  | _ :: _, [], h => by cases h
  | g :: gs, a :: ks, h => by
    rw [List.map_cons, List.map_cons] at h
    obtain ⟨h1, h2⟩ := List.cons.inj h
    rw [List.map_cons, List.map_cons, List.zip_cons_cons, List.map_cons, up_map h2]
    have e : upt k g = (idL a, sizeP g) := by unfold upt; rw [oI_lit h1]
    rw [e]
theorem upP_is {k : Nat} {ps up : List Pt} {ks : List Nat} (h : (grps ps).map (fun g => oidF 2 (nodeT k g)) = ks.map idB) (h3 : ((ks.zip ((grps ps).map sizeP)).map fun p => (idL p.1, p.2)) = up) : upP k ps = up := by
  unfold upP; rw [up_map h, h3]
theorem nm_is {n : Nat} {r : Pt} {rf : List ID32} {a : Nat} (h : n < 8) (h1 : rtP (mdP n) = r) (h2 : sortF ((pkF n 2).map nm) = rf) (h3 : oidF 3 (inT r rf) = idB a) : nm n = idL a := by
  rw [nm_eq, md_is h]
  show oI 3 (inT (rtP (mdP n)) (sortF ((pkF n 2).map nm))) = _
  rw [h1, h2]; exact oI_lit h3
abbrev Dat := Int × Nat × List UInt8
def obD (d : Dat) : Ob := (d.1, idL d.2.1, d.2.2)
def zipO (k : Int) : List Nat → List (List UInt8) → List Dat
  | a :: ns, t :: ts => (k, a, t) :: zipO k ns ts
  | _, _ => []
theorem zip_lo : ∀ {ks : List Nat} {cs : List (List UInt8)}, cs.map (oidF 1) = ks.map idB → cs.map lo = (zipO 1 ks cs).map obD
  | [], [], _ => rfl
  | _ :: _, [], h => by cases h
  | [], _ :: _, h => by cases h
  | a :: ks, c :: cs, h => by
    rw [List.map_cons, List.map_cons] at h
    obtain ⟨h1, h2⟩ := List.cons.inj h
    have e : lo c = obD (1, a, c) := by unfold lo obD; rw [oI_lit h1]
    rw [List.map_cons, zipO, List.map_cons, zip_lo h2, e]
theorem zip_up {k : Nat} {ps : List Pt} {ks : List Nat} (h : (grps ps).map (fun g => oidF 2 (nodeT k g)) = ks.map idB) : upO k ps = (zipO 2 ks ((grps ps).map (nodeT k))).map obD := by
  unfold upO
  have : ∀ {gs : List (List Pt)} {ks : List Nat}, gs.map (fun g => oidF 2 (nodeT k g)) = ks.map idB → gs.map (uob k) = (zipO 2 ks (gs.map (nodeT k))).map obD := by
    intro gs
    induction gs with
    | nil => intro ks _; cases ks <;> simp [zipO]
    | cons g gs ih =>
      intro ks h
      cases ks with
      | nil => cases h
      | cons a ks =>
        rw [List.map_cons, List.map_cons] at h
        obtain ⟨h1, h2⟩ := List.cons.inj h
        have e : uob k g = obD (2, a, nodeT k g) := by unfold uob obD; rw [oI_lit h1]
        rw [List.map_cons, List.map_cons, zipO, List.map_cons, ih h2, e]
  exact this h
theorem cons_eq {a : Ob} {d : Dat} {l : List Ob} {m : List Dat} (h : a = obD d) (k : l = m.map obD) : a :: l = (d :: m).map obD := by rw [h, k]; rfl
theorem app_eq {l k : List Ob} {m n : List Dat} (h : l = m.map obD) (g : k = n.map obD) : l ++ k = (m ++ n).map obD := by rw [h, g, List.map_append]
def conB (l : List Dat) : Bool := l.all fun a => l.all fun b => if a.2.1 = b.2.1 then decide (a.1 = b.1 ∧ a.2.2 = b.2.2) else true
theorem con_of {l : List Dat} (h : conB l = true) (k : l.all (fun d => decide (d.2.1 < 2 ^ 256 ∧ d.2.1 ≠ 9 * 256 ^ 31)) = true) {c d : Dat} (hc : c ∈ l) (hd : d ∈ l) (e : (obD c).2.1 = (obD d).2.1) : obD c = obD d := by
  have h1 := List.all_eq_true.1 (List.all_eq_true.1 h c hc) d hd
  have k1 := of_decide_eq_true (List.all_eq_true.1 k c hc)
  have k2 := of_decide_eq_true (List.all_eq_true.1 k d hd)
  have e2 := idL_inj k1.1 k2.1 e
  rw [if_pos e2] at h1
  have h2 := of_decide_eq_true h1
  unfold obD
  rw [h2.1, h2.2, e2]
end Cv
