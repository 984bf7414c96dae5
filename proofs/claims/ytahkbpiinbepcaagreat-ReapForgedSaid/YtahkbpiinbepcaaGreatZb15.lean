/-
  The walks: the law on forged objects.
-/
import Derived.Test.YtahkbpiinbepcaaGreatYc15
import Derived.Test.YtahkbpiinbepcaaGreatTT15
import Derived.Test.YtahkbpiinbepcaaGreatD05
import Derived.Test.YtahkbpiinbepcaaGreatProg
import Derived.KernelRfl
set_option linter.unusedVariables false
set_option linter.unusedSimpArgs false
set_option linter.unusedSectionVars false
set_option maxHeartbeats 400000
set_option maxRecDepth 10000
namespace Cv
open Go Go.Proofs
/-! ## how many steps a path takes that has nodes of two levels -/
theorem cst_1 {os : List Ob} {lv : Int} {p : Pt} (h : goF os p.1 = none ∨ lv = 0 ∨ ∃ o, goF os p.1 = some o ∧ (o.1 ≠ 2 ∨ (nodR o.2.2).2.2 ≠ 0 ∨ (0 < lv ∧ (((nodR o.2.2).1 : Nat) : Int) ≠ lv))) : cst os lv p = 1 := by
  show csF os (9 + 1) lv p = 1
  rw [csF]
  cases e : goF os p.1 with
  | none => rfl
  | some o =>
    dsimp only
    rw [if_pos]
    rcases h with h | h | ⟨q, g, h⟩
    · rw [e] at h; cases h
    · exact .inl h
    · rw [e] at g; injection g with g; subst g
      rcases h with h | h | h
      · exact .inr (.inl h)
      · exact .inr (.inr (.inl h))
      · exact .inr (.inr (.inr h))
theorem sum_le {f : Pt → Nat} {B : Nat} : ∀ {l : List Pt}, (∀ p ∈ l, f p ≤ B) → (l.map f).sum ≤ l.length * B
  | [], _ => by simp
  | p :: l, h => by
    have a := h p (List.mem_cons_self ..)
    have b := sum_le fun q hq => h q (List.mem_cons_of_mem _ hq)
    rw [List.map_cons, List.sum_cons, List.length_cons, Nat.add_mul, Nat.one_mul]; omega
def Two (os : List Ob) (a b : Nat) : Prop := ∀ o ∈ os, o.1 = 2 → (nodR o.2.2).2.2 = 0 → (nodR o.2.2).1 = a ∨ (nodR o.2.2).1 = b
theorem cst_step {os : List Ob} {lv : Int} {p : Pt} {B : Nat} (hl : -1 ≤ lv ∧ lv ≤ 8) (h : ∀ o, goF os p.1 = some o → o.1 = 2 → (nodR o.2.2).2.2 = 0 → lv ≠ 0 → (0 < lv → (((nodR o.2.2).1 : Nat) : Int) = lv) → ∀ q ∈ (nodR o.2.2).2.1, cst os ((((nodR o.2.2).1 : Nat) : Int) - 1) q ≤ B) : cst os lv p ≤ 1 + 8 * B := by
  cases e : goF os p.1 with
  | none => rw [cst_1 (.inl e)]; omega
  | some o =>
    by_cases c0 : lv = 0
    · rw [cst_1 (.inr (.inl c0))]; omega
    · by_cases c1 : o.1 = 2
      · by_cases c2 : (nodR o.2.2).2.2 = 0
        · by_cases c3 : 0 < lv ∧ (((nodR o.2.2).1 : Nat) : Int) ≠ lv
          · rw [cst_1 (.inr (.inr ⟨o, e, .inr (.inr c3)⟩))]; omega
          · rw [cst_n hl e c0 c1 rfl c2 c3]
            have a := sum_le (h o e c1 c2 c0 fun q => Classical.byContradiction fun k => c3 ⟨q, k⟩)
            have b := nodR_len o.2.2
            have : (nodR o.2.2).2.1.length * B ≤ 8 * B := Nat.mul_le_mul_right _ b
            omega
        · rw [cst_1 (.inr (.inr ⟨o, e, .inr (.inl c2)⟩))]; omega
      · rw [cst_1 (.inr (.inr ⟨o, e, .inl c1⟩))]; omega
theorem cst_73' {os : List Ob} {a b : Nat} (hab : a ≤ b) (h : Two os a b) (p : Pt) : cst os (-1) p ≤ 73 := by
  have z : ∀ (lv : Int) (q : Pt), 0 ≤ lv → lv ≤ 8 → lv ≠ a → lv ≠ b → cst os lv q = 1 := fun lv q h0 h8 ha hb => by
    cases e : goF os q.1 with
    | none => exact cst_1 (.inl e)
    | some o =>
      by_cases c0 : lv = 0
      · exact cst_1 (.inr (.inl c0))
      · by_cases c1 : o.1 = 2
        · by_cases c2 : (nodR o.2.2).2.2 = 0
          · have := h o (goF_mem e).1 c1 c2
            exact cst_1 (.inr (.inr ⟨o, e, .inr (.inr ⟨by omega, by omega⟩)⟩))
          · exact cst_1 (.inr (.inr ⟨o, e, .inr (.inl c2)⟩))
        · exact cst_1 (.inr (.inr ⟨o, e, .inl c1⟩))
  have y : ∀ (lv : Int) (q : Pt), 0 ≤ lv → lv ≤ 8 → lv < b → cst os lv q ≤ 9 := fun lv q h0 h8 hb => by
    refine cst_step (B := 1) (by omega) fun o e c1 c2 c0 c3 r hr => ?_
    have hk := chkN_0 (nodR_ok c2)
    have t := h o (goF_mem e).1 c1 c2
    have c4 := c3 (by omega)
    rw [z _ r (by omega) (by omega) (by omega) (by omega)]; omega
  refine cst_step (B := 9) (by decide) fun o e c1 c2 c0 c3 r hr => ?_
  have hk := chkN_0 (nodR_ok c2)
  have t := h o (goF_mem e).1 c1 c2
  exact y _ r (by omega) (by omega) (by omega)
theorem cst_73 {os : List Ob} {a b : Nat} (h : Two os a b) (p : Pt) : cst os (-1) p ≤ 73 := by
  rcases Nat.le_total a b with c | c
  · exact cst_73' c h p
  · exact cst_73' c (fun o ho h1 h2 => (h o ho h1 h2).symm) p
/-! ## forged objects -/
def fgP (x : ID32) (l : List Int) (i : Nat) : List Pt := (l.take i).map fun z => (x, z % 128)
theorem fgP_s {x : ID32} {l : List Int} {i : Nat} {z : Int} (h : l[i]? = some z) : fgP x l (i + 1) = fgP x l i ++ [(x, z % 128)] := by
  unfold fgP; rw [List.take_add_one, h, List.map_append]; rfl
theorem fgP_in {x : ID32} {l : List Int} {i : Nat} : (∀ p ∈ fgP x l i, 0 ≤ p.2 ∧ p.2 ≤ 127) ∧ (fgP x l i).length ≤ i := by
  unfold fgP
  refine ⟨fun p hp => ?_, by rw [List.length_map, List.length_take]; omega⟩
  obtain ⟨z, -, rfl⟩ := List.mem_map.1 hp
  show 0 ≤ z % 128 ∧ z % 128 ≤ 127; omega
theorem set_id {p : Pt} {x : ID32} {a : Option Addr} {n c : Nat} : SetAt (inC p a n c) 0 (x.1.map Y) (inC (x, p.2) a n c) := by
  have h : (x.1.map Y).length = (p.1.1.map Y).length := by rw [List.length_map, List.length_map, x.2, p.1.2]
  exact SetAt.left h
theorem two_fg {o1 o2 o3 : Ob} (h : o3.1 = 3) : Two [o1, o2, o3] (nodR o1.2.2).1 (nodR o2.2.2).1 := fun o ho h2 _ => by
  simp only [List.mem_cons, List.not_mem_nil, or_false] at ho
  rcases ho with e | e | e
  · rw [e]; exact .inl rfl
  · rw [e]; exact .inr rfl
  · rw [e, h] at h2; exact absurd h2 (by decide)
theorem nnd_le (os : List Ob) : nnd os ≤ os.length := List.length_filter_le _ _
theorem shf_3 {a b c : Ob} (h1 : a.2.2.length ≤ 1000000) (h2 : b.2.2.length ≤ 1000000) (h3 : c.2.2.length ≤ 1000000) : Shf [a, b, c] := fun o ho => by
  simp only [List.mem_cons, List.not_mem_nil, or_false] at ho
  rcases ho with e | e | e <;> rw [e] <;> assumption

theorem forged_law {za : Option Addr} {zn zc : Nat} {lv sz kd : Int} {zs : List Int} {tx0 : List UInt8} (hz : ∀ z ∈ zs, -9223372036854775808 ≤ z ∧ z ≤ 9223372036854775807) (hzn : zn ≤ 4611686018427387904) : Spec Tryz.prog 4 [.int .i64 lv, .slice za zn zc, .int .i64 sz, .int .i64 kd, S tx0] [rsl 1 za zn zc (zs.map e3)] [] (fun v D' M' => v = .bool true ∧ D' = [] ∧ M' = []) := by
 refine zH (n := 109) Tryz.func4 ?_
 intro σ D M
 obtain ⟨tx, htx⟩ : ∃ z, z = tx0.take 60 := ⟨_, rfl⟩
 have htl : tx.length ≤ 60 := by rw [htx, List.length_take]; omega
 obtain ⟨kn, hkn⟩ : ∃ kn : Nat, 1 + lv % 2 = (kn : Int) := ⟨(1 + lv % 2).toNat, by omega⟩
 obtain ⟨kk, hkk⟩ : ∃ kk : Int, 1 + kd % 2 = kk := ⟨_, rfl⟩
 refine yF (a := za) (len := zn) (cap := zc) (rows := zs.map e3) qM (fun hzl hzc => ?_)
 rw [List.length_map] at hzl
 refine yx (sz := 32) (e := 38) ?_
 refine zZ qP (show own 32 38 none 0 0 [] = own 32 38 none 0 0 (([] : List ID32).map iC) from rfl) ?_
 refine yE (rows := ([] : List ID32).map iC) qP ?_
 refine z6 (z8 (z9 rfl rfl (z7 (z4 (z6 (z6 (z8 (zV rfl (evs.nil) qD qS (awake15_spec) (by rintro u D1 M1 ⟨rfl, rfl, rfl⟩; exact ⟨rfl, _, qA, qF⟩) ?_))))))))
 refine yY rfl rfl (z7 (z4 (yP rfl rfl ?_)))
 refine zo (z4 (z6 (z8 (z5 rfl rfl (zV rfl (ev2 rfl rfl) qD qS (cut_spec (n := 60)) (by rintro u D1 M1 ⟨rfl, rfl, rfl⟩; exact ⟨rfl, _, qA, qF⟩) ?_)))))
 rw [← htx]
 refine z9 rfl rfl (z7 (z4 (z6 (z8 (z5 rfl rfl (L.andM rfl rfl rfl (k := 1) (by decide) (by decide) ?_))))))
 refine zE rfl rfl rfl (by omega) ?_
 refine zv (t := 25) (u := .int .i64 kk) rfl (congrArg (Value.int .i64) (by omega)) ?_
 refine z5 rfl rfl (zV rfl (ev2 rfl rfl) qD qS (make_spec (k := kk) (tx := tx) (by omega)) (by rintro u D1 M1 ⟨rfl, rfl, rfl⟩; exact ⟨rfl, _, qA, qF⟩) ?_)
 obtain ⟨ol, hol⟩ : ∃ z : Ob, z = (kk, oI (kk) (tx), tx) := ⟨_, rfl⟩
 rw [← hol]
 have hol3 := obC_len ol
 have hol2 := ol.2.1.2
 refine zN rfl ze45 (fun b11 => ?_)
 refine zF ag45 rfl rfl qL qO qU qW ?_
 refine z7 (ye (A := cl b11 45 (obC ol)) qP ?_)
 refine z4 (z6 (z8 (z5 rfl rfl (L.andM rfl rfl rfl (k := 1) (by decide) (by decide) ?_))))
 refine zE rfl rfl rfl (by omega) ?_
 refine zv (t := 30) (u := .int .i64 (kn : Int)) rfl (congrArg (Value.int .i64) (by omega)) ?_
 refine yg rfl bu49 (zx rfl rfl rfl <| zG (out := [Value.slice none 0 0]) rfl) ?_
 refine zN rfl ze49 (fun b12 => ?_)
 refine zF ag49 rfl rfl qL qO qU qW ?_
 refine z7 (yx (sz := 33) (e := 51) ?_)
 refine zZ qP (show own 33 51 none 0 0 [] = own 33 51 none 0 0 ((fgP ol.2.1 zs 0).map ptC) from rfl) ?_
 refine z4 (z6 (z6 (z8 (z9 rfl rfl (z7 (z4 (zt (zY (fun K' D' M' μ => ∃ (i n12 c12 : Nat) (a12 : Option Addr), (i ≤ zn ∧ i ≤ 4 ∧ (fgP ol.2.1 zs i).length = n12) ∧ K' = [(13, .int .i64 (i : Int))] ∧ D' = [] ∧ M' = [cl b12 49 [.int .i64 (kn : Int), .slice a12 n12 c12], own 33 51 a12 n12 c12 ((fgP ol.2.1 zs i).map ptC)] ∧ μ = zn - i) (.cons (t := 1) rfl <| .cons (t := 2) rfl <| .cons (t := 3) rfl <| .cons (t := 11) rfl <| .cons (t := 12) rfl <| zd _) (⟨0, 0, 0, none, ⟨Nat.zero_le _, Nat.zero_le _, rfl⟩, rfl, rfl, rfl, rfl⟩) (.cons (t := 13) rfl <| zd _) qD qS ?_))))))))
 rintro K1 D1 M1 m1 ⟨i, n12, c12, a12, ⟨hi, hi4, hn12⟩, rfl, rfl, rfl, rfl⟩
 refine zD qA qA qA ?_
 refine z6 (z6 (yi (fun K' D' M' => ∃ (w : Bool), (w = true ↔ (i < zn ∧ i < 4)) ∧ K' = [(39, .bool w)] ∧ D' = [] ∧ M' = []) (M0 := []) (.cons (t := 1) rfl <| .cons (t := 2) rfl <| .cons (t := 3) rfl <| .cons (t := 11) rfl <| .cons (t := 12) rfl <| .cons (t := 13) rfl <| zd _) qS ?_ ?_))
 ·skip
  refine z8 (z5 rfl rfl (z5 rfl rfl (y5 rfl xy rfl (zS rfl rfl rfl (z5 rfl rfl (yy (t := 36) rfl (fun h1 => ?_) (fun h1 => ?_)))))))
  ·try simp only [dq] at h1
   exact zg (dj := 36) rfl rfl rfl (z5 rfl rfl (zg (dj := 36) rfl rfl rfl (zS rfl rfl rfl (y2 rfl rfl rfl (z7 (z4 (zJ ⟨_, (by simp_all <;> omega), rfl, rfl, rfl⟩ (.cons (t := 39) rfl <| zd _) (.cons (t := 1) rfl <| .cons (t := 2) rfl <| .cons (t := 3) rfl <| .cons (t := 11) rfl <| .cons (t := 12) rfl <| .cons (t := 13) rfl <| zd _) qD qD qF)))))))
  ·try simp only [dq] at h1
   exact zh (dj := 36) (c := false) rfl rfl rfl rfl rfl (by decide) (zh (dj := 36) (c := false) rfl rfl rfl rfl rfl (by decide) (y3 rfl rfl rfl (z7 (z4 (zJ ⟨_, (by simp_all <;> omega), rfl, rfl, rfl⟩ (.cons (t := 39) rfl <| zd _) (.cons (t := 1) rfl <| .cons (t := 2) rfl <| .cons (t := 3) rfl <| .cons (t := 11) rfl <| .cons (t := 12) rfl <| .cons (t := 13) rfl <| zd _) qD qD qF)))))
 rintro _ _ _ ⟨w, hw, rfl, rfl, rfl⟩
 refine zD qA qA qA ?_
 refine z4 (zp rfl (fun h39 => ?_) (fun h39 => ?_))
 ·try simp only [dq] at h39
  have hwt := hw.1 h39
  refine zo (z4 (z6 (zt ?_)))
  have hgz : zs[i]? = some (gd zs i) := zL (by omega)
  obtain ⟨z, hz_⟩ : ∃ z, z = gd zs i := ⟨_, rfl⟩
  rw [← hz_] at hgz
  clear hz_
  have hrz : (zs.map e3)[i]? = some (e3 z) := zT hgz
  have hzb := hz z (List.mem_of_getElem? hgz)
  obtain ⟨hfi, hfl⟩ := @fgP_in ol.2.1 zs i
  have hp3 := ptC_len (ol.2.1, z % 128)
  refine T.rslAddr (a := za) (len := zn) (cap := zc) (rows := zs.map e3) qM (fun e => by have := congrArg List.length e; rw [List.length_map] at this; simp only [List.length_nil] at this; omega) (fun bo oo ha => ?_)
  subst ha
  refine yA (clsL [1, 2, 1, 1, 1, 1, 1, 1, 1, 1, 2, 2, 1, 2]) qk ?_
  refine zf 0 ?_
  refine zj rfl fo49_1 rfl ?_
  refine ze (zf 2 ?_)
  refine zj rfl fo45_1 rfl ?_
  refine ze (zf 3 ?_)
  refine zq rfl zC rfl qN ?_
  refine ze (zf 4 ?_)
  refine z5 rfl rfl (ze (zf 5 ?_))
  refine z5 rfl rfl (ze (zf 6 ?_))
  refine L.idxR (i := i) rfl xy sz3 rfl rfl qM (by first | rfl | omega | (simp; done)) qI qG ?_
  refine ze (zf 7 ?_)
  refine zi rfl sc3 rfl qC ?_
  refine ze (zf 8 ?_)
  refine L.andM rfl rfl rfl (k := 7) (by decide) (by decide) ?_
  refine ze (zf 9 ?_)
  refine yg rfl bu51 (yv rfl rfl (by first | with_reducible assumption | (simp; done) | (simp only [List.length_map]; with_reducible assumption) | (simp [*]; done) | rfl) (Nat.le_of_ble_eq_true rfl) qR <| zx rfl rfl rfl <| zG (out := []) rfl) ?_
  refine zv (t := 51) (u := .agg (ptC (ol.2.1, z % 128)).toArray) rfl (by first | rfl | simp) ?_
  refine ze (xm (is := [1, 10]) qk (by decide) (yU rfl ?_ <| yU rfl ?_ <| xn) )
  ·skip
   refine zi rfl sc47 rfl qC ?_
   refine zB rfl qD ?_
   refine zz 10 ?_
   refine y6 rfl bs47 (by decide) (yv rfl rfl (by first | with_reducible assumption | (simp; done) | (simp only [List.length_map]; with_reducible assumption) | (simp [*]; done) | rfl) (Nat.le_of_ble_eq_true rfl) qR <| zG (out := []) rfl) (fun b52 => ?_)
   refine zB rfl qD ?_
   refine zz 11 ?_
   refine yK rfl yT el51 rfl rfl qP qM (by rw [List.append_nil]; exact hp3) (fun u hu => by rw [List.append_nil] at hu; exact one_pt u hu) qI qI (fun a53 c53 => ?_)
   refine zB rfl qD ?_
   refine zf 12 ?_
   refine zj rfl fo49_1 rfl ?_
   refine ze (zz 13 ?_)
   refine yu sc47 rfl rfl rfl qU qE ?_
   refine zB rfl qD ?_
   refine yh qk ?_
   refine zK (z4 (z8 (z5 rfl rfl (zE rfl rfl rfl (by omega) ?_))))
   refine z9 rfl rfl (z7 (z4 (y8 _ ((fgP ol.2.1 zs (i + 1)).map ptC) qP (by rw [fgP_s hgz, List.map_append]; first | rfl | (rw [List.append_nil]; rfl)) ?_)))
   exact zM ⟨i + 1, n12 + 1, _, _, ⟨by omega, by omega, by rw [fgP_s hgz, List.length_append, hn12]; rfl⟩, rfl, rfl, rfl, rfl⟩ qI (.cons (t := 13) rfl <| zd _) (.cons (t := 1) rfl <| .cons (t := 2) rfl <| .cons (t := 3) rfl <| .cons (t := 11) rfl <| .cons (t := 12) rfl <| zd _) qD qD qF
  ·skip
   refine y6 rfl bs47 (by decide) (yv rfl rfl (by first | with_reducible assumption | (simp; done) | (simp only [List.length_map]; with_reducible assumption) | (simp [*]; done) | rfl) (Nat.le_of_ble_eq_true rfl) qR <| zG (out := []) rfl) (fun b52 => ?_)
   refine zB rfl qD ?_
   refine zz 1 ?_
   refine zi rfl sc47 rfl qC ?_
   refine zB rfl qD ?_
   refine zz 11 ?_
   refine yK rfl yT el51 rfl rfl qP qM (by rw [List.append_nil]; exact hp3) (fun u hu => by rw [List.append_nil] at hu; exact one_pt u hu) qI qI (fun a53 c53 => ?_)
   refine zB rfl qD ?_
   refine zf 12 ?_
   refine zj rfl fo49_1 rfl ?_
   refine ze (zz 13 ?_)
   refine yu sc47 rfl rfl rfl qU qE ?_
   refine zB rfl qD ?_
   refine yh qk ?_
   refine zK (z4 (z8 (z5 rfl rfl (zE rfl rfl rfl (by omega) ?_))))
   refine z9 rfl rfl (z7 (z4 (y8 _ ((fgP ol.2.1 zs (i + 1)).map ptC) qP (by rw [fgP_s hgz, List.map_append]; first | rfl | (rw [List.append_nil]; rfl)) ?_)))
   exact zM ⟨i + 1, n12 + 1, _, _, ⟨by omega, by omega, by rw [fgP_s hgz, List.length_append, hn12]; rfl⟩, rfl, rfl, rfl, rfl⟩ qI (.cons (t := 13) rfl <| zd _) (.cons (t := 1) rfl <| .cons (t := 2) rfl <| .cons (t := 3) rfl <| .cons (t := 11) rfl <| .cons (t := 12) rfl <| zd _) qD qD qF
 ·try simp only [dq] at h39
  obtain ⟨hfi, hfl⟩ := @fgP_in ol.2.1 zs i
  refine yE (rows := (fgP ol.2.1 zs i).map ptC) qP ?_
  refine zQ (zr (zr (zR (z4 (z6 (z8 (zq rfl ag49 rfl qN ?_)))))))
  refine zV rfl (ev1 rfl) qD qS (ntext_spec (k := kn) (ps := fgP ol.2.1 zs i) (by omega) (by omega) (fun p hp => by have := hfi p hp; omega)) (by rintro u D1 M1 ⟨rfl, rfl, rfl⟩; exact ⟨rfl, _, qA, qF⟩) ?_
  refine zV rfl (ev2 rfl rfl) qD qS (make_spec (k := 2) (tx := nodeT kn (fgP ol.2.1 zs i)) (by have := nodeP_len (k := kn) (ps := fgP ol.2.1 zs i) (by omega) (by omega) (fun p hp => by have := hfi p hp; omega) (fgP ol.2.1 zs i).length; unfold nodeT; omega)) (by rintro u D1 M1 ⟨rfl, rfl, rfl⟩; exact ⟨rfl, _, qA, qF⟩) ?_
  obtain ⟨on, hon⟩ : ∃ z : Ob, z = (2, oI (2) (nodeT kn (fgP ol.2.1 zs i)), nodeT kn (fgP ol.2.1 zs i)) := ⟨_, rfl⟩
  rw [← hon]
  have hon3 := obC_len on
  have hon2 := on.2.1.2
  refine zN rfl ze45 (fun b14 => ?_)
  refine zF ag45 rfl rfl qL qO qU qW ?_
  refine z7 (ye (A := cl b14 45 (obC on)) qP ?_)
  refine z4 (z6 ?_)
  have hp4 := ptC_len (on.2.1, 1 + sz % 256)
  refine z8 (zj rfl fo45_1 rfl ?_)
  refine zq rfl zC rfl qN ?_
  refine z5 rfl rfl (L.andM rfl rfl rfl (k := 8) (by decide) (by decide) ?_)
  refine zE rfl rfl rfl (by omega) ?_
  refine yg rfl bu51 (yv rfl rfl (by first | with_reducible assumption | (simp; done) | (simp only [List.length_map]; with_reducible assumption) | (simp [*]; done) | rfl) (Nat.le_of_ble_eq_true rfl) qR <| zx rfl rfl rfl <| zG (out := []) rfl) ?_
  refine zv (t := 63) (u := .agg (ptC (on.2.1, 1 + sz % 256)).toArray) rfl (by first | rfl | simp) ?_
  refine yg rfl bu54 (yv rfl rfl (by first | with_reducible assumption | (simp; done) | (simp only [List.length_map]; with_reducible assumption) | (simp [*]; done) | rfl) (Nat.le_of_ble_eq_true rfl) qR <| zG (out := [Value.slice none 0 0]) rfl) ?_
  refine zv (t := 64) (u := .agg (inC (on.2.1, 1 + sz % 256) none 0 0).toArray) rfl (by first | rfl | simp) ?_
  refine zN rfl ze54 (fun b15 => ?_)
  refine zF ag54 rfl rfl qL qO qU qW ?_
  refine z7 (z4 (z6 (z6 (z8 (z5 rfl rfl (L.andI rfl rfl rfl ?_))))))
  refine ym rfl rfl rfl (z7 (z4 (yi (fun K' D' M' => ∃ (r : Pt), (0 ≤ r.2 ∧ r.2 ≤ 256) ∧ K' = [] ∧ D' = [] ∧ M' = [cl b15 54 (inC r none 0 0)]) (M0 := [cl b15 54 (inC (on.2.1, 1 + sz % 256) none 0 0)]) (.cons (t := 11) rfl <| .cons (t := 14) rfl <| .cons (t := 15) rfl <| zd _) qS ?_ ?_)))
  ·skip
   refine zp rfl (fun h67 => ?_) (fun h67 => ?_)
   ·try simp only [dq] at h67
    refine z8 (zj rfl fo45_1 rfl ?_)
    refine zq rfl zC rfl qN ?_
    refine zj rfl fo54_0 rfl ?_
    refine zj rfl fo51_0 rfl ?_
    refine zF zC rfl rfl qL qO qU (set_id (p := (on.2.1, 1 + sz % 256)) (x := ol.2.1)) ?_
    exact z7 (z4 (zJ ⟨(ol.2.1, 1 + sz % 256), (by show 0 ≤ 1 + sz % 256 ∧ 1 + sz % 256 ≤ 256; omega), rfl, rfl, rfl⟩ (zd _) (.cons (t := 11) rfl <| .cons (t := 14) rfl <| .cons (t := 15) rfl <| zd _) qD qD qF))
   ·try simp only [dq] at h67
    exact zo (z4 (zJ ⟨(on.2.1, 1 + sz % 256), (by show 0 ≤ 1 + sz % 256 ∧ 1 + sz % 256 ≤ 256; omega), rfl, rfl, rfl⟩ (zd _) (.cons (t := 11) rfl <| .cons (t := 14) rfl <| .cons (t := 15) rfl <| zd _) qD qD qF))
  rintro _ _ _ ⟨r, hr, rfl, rfl, rfl⟩
  refine zD qA qA qA ?_
  refine ye (A := cl b15 54 (inC r none 0 0)) qP ?_
  have hin := inC_len r none 0 0
  have hr32 := r.1.2
  refine z4 (z6 ?_)
  have hit := inT_len (p := r) (l := []) (by omega) (by decide)
  simp only [List.length_nil] at hit
  refine z8 (zq rfl ag54 rfl qN ?_)
  refine zV rfl (ev1 rfl) qD qS (itext_spec (l := []) (p := r) (by decide) (by omega)) (by rintro u D1 M1 ⟨rfl, rfl, rfl⟩; exact ⟨rfl, _, qA, qF⟩) ?_
  refine zV rfl (ev2 rfl rfl) qD qS (make_spec (k := 3) (tx := inT r []) (by omega)) (by rintro u D1 M1 ⟨rfl, rfl, rfl⟩; exact ⟨rfl, _, qA, qF⟩) ?_
  obtain ⟨op, hop⟩ : ∃ z : Ob, z = (3, oI (3) (inT r []), inT r []) := ⟨_, rfl⟩
  rw [← hop]
  have hop3 := obC_len op
  have hop2 := op.2.1.2
  refine zN rfl ze45 (fun b16 => ?_)
  refine zF ag45 rfl rfl qL qO qU qW ?_
  refine z7 (ye (A := cl b16 45 (obC op)) qP ?_)
  refine z4 (z6 ?_)
  obtain ⟨os, hos⟩ : ∃ z, z = [ol, on, op] := ⟨_, rfl⟩
  have htw : Two os (nodR ol.2.2).1 (nodR on.2.2).1 := by rw [hos]; exact two_fg (by rw [hop])
  have hl3 : os.length = 3 := by rw [hos]; rfl
  have hnn : nnd os ≤ 249 := Nat.le_trans (nnd_le os) (by omega)
  have hsh : Shf os := by rw [hos]; exact shf_3 (by rw [hol]; show tx.length ≤ _; omega) (by rw [hon]; have := nodeP_len (k := kn) (ps := fgP ol.2.1 zs i) (by omega) (by omega) (fun p hp => by have := hfi p hp; omega) (fgP ol.2.1 zs i).length; show (nodeT kn (fgP ol.2.1 zs i)).length ≤ _; unfold nodeT; omega) (by rw [hop]; show (inT r []).length ≤ _; omega)
  refine z8 (zq rfl ag45 rfl qN ?_)
  refine zq rfl ag45 rfl qN ?_
  refine zq rfl ag45 rfl qN ?_
  refine y6 rfl bs24 (by decide) (yv (cs := obC on ++ (obC op ++ [])) rfl rfl hol3 (Nat.le_of_ble_eq_true rfl) AppL.refl <| yv (cs := obC op ++ []) rfl rfl hon3 (Nat.le_of_ble_eq_true rfl) AppL.refl <| yv (cs := []) rfl rfl hop3 (Nat.le_of_ble_eq_true rfl) AppL.refl <| zG (out := []) rfl) (fun b78 => ?_)
  refine yG (len := 3) qP (rows := os.map obC) (sz := 34) (by rw [hos]; rfl) (by rw [hos]; rfl) (by intro u hu; obtain ⟨x, -, rfl⟩ := List.mem_map.1 hu; exact obC_len x) ?_
  refine yM (rows := os.map obC) qP ?_
  refine yg rfl bu26 (zx rfl rfl rfl <| zG (out := []) rfl) ?_
  refine zN rfl ze26 (fun b17 => ?_)
  refine zF ag26 rfl rfl qL qO qU qW ?_
  refine z7 (ye (A := cl b17 26 [.slice (some ⟨b78, 0, none⟩) 3 3]) qP ?_)
  refine z4 (z6 (z8 (zj rfl fo26_0 rfl ?_)))
  refine zi rfl sc24 rfl qC ?_
  refine zA rfl (ev1 rfl) qD qS (told13_spec (os := os) (by decide)) ?_
  rintro _ _ _ ⟨ta, tc, rfl, rfl, rfl⟩
  refine zw qA qA ?_
  refine yM (rows := os.map obR) qP ?_
  refine z9 rfl rfl (z7 (z4 (z6 ?_)))
  obtain ⟨w, hw_⟩ : ∃ z, z = inN r [] := ⟨_, rfl⟩
  have hw2 := w.2
  have hw3 := y1 w
  refine yA (clsL [1, 1, 1, 2, 2, 1, 1, 2, 2, 2, 1, 1, 1, 1, 1, 2, 2, 2, 1, 1, 2, 2, 2, 2, 2, 1, 1]) qk ?_
  refine zf 0 ?_
  refine zq rfl ag26 rfl qN ?_
  refine ze (zf 1 ?_)
  refine L.mkIface rfl Tryz.underlying26 (by intro i q; cases q) rfl ?_
  refine ze (zf 2 ?_)
  refine zq rfl ag54 rfl qN ?_
  refine ze (zf 5 ?_)
  refine z5 rfl rfl (ze (zf 6 ?_))
  refine zq rfl ag54 rfl qN ?_
  refine ze (zz 3 ?_)
  refine zV rfl (ev1 rfl) qD qS (iname_spec (l := []) (p := r) (by decide) (by omega)) (by rintro u D1 M1 ⟨rfl, rfl, rfl⟩; exact ⟨rfl, _, qA, qF⟩) ?_
  rw [← hw_]
  refine zB rfl qD ?_
  refine zz 4 ?_
  refine zV rfl (ev2 rfl rfl) qD qS (whl_spec (os := os) (x := w) (by decide) hsh) (by rintro u D1 M1 ⟨rfl, rfl, rfl⟩; exact ⟨rfl, _, qA, qF⟩) ?_
  refine zB rfl qD ?_
  refine zz 7 ?_
  refine zV rfl (ev1 rfl) qD qS (iname_spec (l := []) (p := r) (by decide) (by omega)) (by rintro u D1 M1 ⟨rfl, rfl, rfl⟩; exact ⟨rfl, _, qA, qF⟩) ?_
  rw [← hw_]
  refine zB rfl qD ?_
  refine zz 8 ?_
  refine zV rfl (ev1 rfl) qD qS (obytes_spec (l := w.1) hw2) (by rintro u D1 M1 ⟨rfl, rfl, rfl⟩; exact ⟨rfl, _, qA, qF⟩) ?_
  refine zB rfl qD ?_
  refine zz 9 ?_
  refine zV rfl (ev2 rfl rfl) qD qS (rwhl_spec (os := os) (x := w) (by decide) hsh (Nat.le_trans (cst_73 htw _) (by decide))) (by rintro u D1 M1 ⟨rfl, rfl, rfl⟩; exact ⟨rfl, _, qA, qF⟩) ?_
  refine zB rfl qD ?_
  refine zf 10 ?_
  refine yz rfl rfl rfl (ze (zf 11 ?_))
  refine z5 rfl rfl (ze (A.known (t := 94) rfl (show _ = Value.bool true from congrArg Value.bool (decide_eq_true rfl)) ?_))
  refine zf 12 ?_
  refine zg (dj := 94) rfl rfl rfl (zq rfl ag26 rfl qN ?_)
  refine ze (zf 13 ?_)
  refine zg (dj := 94) rfl rfl rfl (L.mkIface rfl Tryz.underlying26 (by intro i q; cases q) rfl ?_)
  refine ze (zf 14 ?_)
  refine zg (dj := 94) rfl rfl rfl (zq rfl ag54 rfl qN ?_)
  refine ze (zf 18 ?_)
  refine zg (dj := 94) rfl rfl rfl (z5 rfl rfl (ze (zf 19 ?_)))
  refine zg (dj := 94) rfl rfl rfl (zq rfl ag54 rfl qN ?_)
  refine ze (zz 15 ?_)
  refine zg (dj := 94) rfl rfl rfl (zV rfl (ev1 rfl) qD qS (iname_spec (l := []) (p := r) (by decide) (by omega)) (by rintro u D1 M1 ⟨rfl, rfl, rfl⟩; exact ⟨rfl, _, qA, qF⟩) ?_)
  rw [← hw_]
  refine zB rfl qD ?_
  refine zz 16 ?_
  refine zg (dj := 94) rfl rfl rfl (y6 rfl bs30 (by decide) (yv rfl rfl (by first | with_reducible assumption | (simp; done) | (simp only [List.length_map]; with_reducible assumption) | (simp [*]; done) | rfl) (Nat.le_of_ble_eq_true rfl) qR <| zG (out := []) rfl) (fun b99 => ?_))
  refine yG (len := 1) qP (rows := [w].map iC) (sz := 32) (by simp) rfl (by simp [hw2]) ?_
  refine yM (rows := [w].map iC) qP ?_
  refine zB rfl qD ?_
  refine zz 17 ?_
  refine zg (dj := 94) rfl rfl rfl (zA rfl (ev2 rfl rfl) qD qS (objs_spec (os := os) (l := [w]) (by decide) hsh (by decide)) ?_)
  rintro _ _ _ ⟨qa, qn, qc, us, rfl, huf, hqn, rfl, rfl⟩
  refine zw qA qA ?_
  refine yM (rows := us.map iC) qP ?_
  refine zB rfl qD ?_
  refine zz 20 ?_
  refine zg (dj := 94) rfl rfl rfl (zV rfl (ev1 rfl) qD qS (iname_spec (l := []) (p := r) (by decide) (by omega)) (by rintro u D1 M1 ⟨rfl, rfl, rfl⟩; exact ⟨rfl, _, qA, qF⟩) ?_)
  rw [← hw_]
  refine zB rfl qD ?_
  refine zz 21 ?_
  refine zg (dj := 94) rfl rfl rfl (zV rfl (ev1 rfl) qD qS (obytes_spec (l := w.1) hw2) (by rintro u D1 M1 ⟨rfl, rfl, rfl⟩; exact ⟨rfl, _, qA, qF⟩) ?_)
  refine zB rfl qD ?_
  refine zz 22 ?_
  refine zg (dj := 94) rfl rfl rfl (y6 rfl bs31 (by decide) (zx rfl rfl rfl <| zG (out := []) rfl) (fun b105 => ?_))
  refine yG (len := 1) qP (rows := ([w].map (·.1)).map ys) (sz := 1) (by rfl) rfl (by simp) ?_
  refine yM (rows := ([w].map (·.1)).map ys) qP ?_
  refine zB rfl qD ?_
  refine zz 23 ?_
  refine zg (dj := 94) rfl rfl rfl (zA rfl (ev2 rfl rfl) qD qS (robjs_spec (os := os) (l := [w]) (by decide) hsh hnn (by decide)) ?_)
  rintro _ _ _ ⟨va, vn, vc, vs, rfl, hvf, hvn, rfl, rfl⟩
  refine zw qA qA ?_
  refine zB rfl qD ?_
  refine zz 24 ?_
  refine zg (dj := 94) rfl rfl rfl (zV rfl (ev2 rfl rfl) qD qS (same15_spec (xs := us) (us := vs.map (·.1)) (by have := huf.len; omega) (by have := hvf.len; omega)) (by rintro u D1 M1 ⟨rfl, rfl, rfl⟩; exact ⟨rfl, _, qA, qF⟩) ?_)
  refine zB rfl qD ?_
  refine zf 25 ?_
  refine y2 rfl rfl rfl (ze (zf 26 ?_))
  refine z9 rfl rfl (ze (yh qk ?_))
  exact z4 (zm (zy rfl rfl ⟨congrArg Value.bool (decide_eq_true (by rw [huf.uniq hvf])), rfl, rfl⟩ qD qF))
end Cv
