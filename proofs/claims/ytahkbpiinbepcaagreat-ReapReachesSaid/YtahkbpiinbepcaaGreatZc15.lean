/-
  The walks: the law on what is reached.
-/
import Derived.Test.YtahkbpiinbepcaaGreatZb15
import Derived.Test.YtahkbpiinbepcaaGreatZa15
import Derived.Test.YtahkbpiinbepcaaGreatProg
import Derived.KernelRfl
set_option linter.unusedVariables false
set_option linter.unusedSimpArgs false
set_option linter.unusedSectionVars false
set_option maxHeartbeats 400000
set_option maxRecDepth 10000
namespace Cv
open Go Go.Proofs
/-! ## stocks: of what they are -/
theorem stI_sub {ls : List Int} {os : List Ob} : ∀ i, i ≤ os.length → ∀ o ∈ stI ls os i, o ∈ os.take i
  | 0, _, o, h => by cases h
  | i + 1, hi, o, h => by
    have hg : os[i]? = some (gd os i) := zJ (by omega)
    rw [List.take_add_one, hg]
    rw [stI] at h
    split at h
    · rcases List.mem_append.1 h with q | q
      · exact List.mem_append_left _ (stI_sub i (by omega) o q)
      · exact List.mem_append_right _ (by simpa using q)
    · exact List.mem_append_left _ (stI_sub i (by omega) o h)
theorem stk_sub {ps ls : List Int} {o : Ob} (h : o ∈ stk ps ls) : ∃ z, o ∈ mo z := by
  have := stI_sub _ (Nat.le_refl _) o h
  rw [List.take_length] at this
  obtain ⟨l, hl, ho⟩ := List.mem_flatten.1 this
  obtain ⟨z, -, rfl⟩ := List.mem_map.1 hl
  exact ⟨z, ho⟩
theorem stk_uni (ps ls : List Int) : Uni (stk ps ls) := fun o ho => by
  obtain ⟨z, h⟩ := stk_sub ho
  exact ⟨(z % 8).toNat, by omega, h⟩
theorem stk_two (ps ls : List Int) : Two (stk ps ls) 1 2 := fun o ho h2 _ => by
  obtain ⟨n, hn, h⟩ := stk_uni ps ls o ho
  rcases (md_mem hn o).1 h with q | ⟨c, hc, q⟩ | ⟨g, hg, q⟩ | ⟨k, g, hg, q⟩
  · rw [q, pth_k] at h2; exact absurd h2 (by decide)
  · rw [q, lo_k] at h2; exact absurd h2 (by decide)
  · rw [q, uob_tx, nd1 hn hg]; exact .inl rfl
  · rw [q, uob_tx, nd2 hn hg]; exact .inr rfl
theorem nnd_app (a b : List Ob) : nnd (a ++ b) = nnd a + nnd b := by unfold nnd; rw [List.filter_append, List.length_append]
theorem md_nnd {n : Nat} (h : n < 8) : nnd (md n).2.2 ≤ 9 := by
  obtain ⟨h1, h2, h3, h4⟩ := mdCh_ok h
  rw [(pth_in h).2, show ∀ (a : Ob) (l : List Ob), a :: l = [a] ++ l from fun _ _ => rfl, nnd_app, nnd_app]
  have e1 : nnd [pth n] = 0 := by
    unfold nnd isN
    rw [List.filter_cons, pth_k]; rfl
  have e2 : nnd ((mdCh n).map lo) = 0 := by
    unfold nnd
    rw [List.length_eq_zero_iff, List.filter_eq_nil_iff]
    intro o ho
    obtain ⟨c, -, rfl⟩ := List.mem_map.1 ho
    unfold isN; rw [lo_k]; decide
  have hl : (mdP n).length = (mdCh n).length := List.length_map ..
  have hg : gN (mdP n).length = ((mdP n).length + 7) / 8 := rfl
  have hu := @upO_len 1 (mdP n)
  have hp := @upP_len 1 (mdP n)
  have hn : (ndO (mdP n)).length ≤ 9 := by
    unfold ndO
    rw [List.length_append]
    split
    · rw [List.length_nil]; omega
    · have hu2 := @upO_len 2 (upP 1 (mdP n))
      have hg2 : gN (upP 1 (mdP n)).length = ((upP 1 (mdP n)).length + 7) / 8 := rfl
      omega
  have := nnd_le (ndO (mdP n))
  omega
theorem nnd_flat : ∀ l : List Int, nnd ((l.map mo).flatten) ≤ 9 * l.length
  | [] => Nat.le_refl _
  | z :: l => by
    have a : nnd (mo z) ≤ 9 := md_nnd (by omega)
    have b := nnd_flat l
    rw [List.map_cons, List.flatten_cons, nnd_app, List.length_cons]; omega
theorem nnd_stI {ls : List Int} {os : List Ob} : ∀ i, i ≤ os.length → nnd (stI ls os i) ≤ nnd (os.take i)
  | 0, _ => Nat.zero_le _
  | i + 1, hi => by
    have hg : os[i]? = some (gd os i) := zJ (by omega)
    have ih := nnd_stI (ls := ls) (os := os) i (by omega)
    rw [List.take_add_one, hg]
    show _ ≤ nnd (os.take i ++ [gd os i])
    rw [nnd_app, stI]
    split
    · rw [nnd_app]; omega
    · omega
theorem stk_nnd (ps ls : List Int) : nnd (stk ps ls) ≤ 249 := by
  have a := nnd_stI (ls := ls) (os := stB ps 5) _ (Nat.le_refl _)
  rw [List.take_length] at a
  have b := nnd_flat (ps.take 5)
  rw [List.length_take] at b
  have c : nnd (stk ps ls) ≤ nnd (stB ps 5) := a
  unfold stB at c
  omega
def id9 : ID32 := idL (9 * 256 ^ 31)
theorem id9_v : iC id9 = ((9 : UInt8) :: List.replicate 31 0).map Y := congrArg (List.map Y) (show idB (9 * 256 ^ 31) = (9 : UInt8) :: List.replicate 31 0 from by decide +kernel)
theorem wh_9 (ps ls : List Int) : whE (stk ps ls) id9 = 7 := by
  have e : goF (stk ps ls) id9 = none := by
    cases e : goF (stk ps ls) id9 with
    | none => rfl
    | some o =>
      obtain ⟨h1, h2⟩ := goF_mem e
      obtain ⟨n, hn, h⟩ := stk_uni ps ls o h1
      exact absurd h2 (no9 hn h)
  unfold whE lkR
  rw [e]; rfl

theorem reaches_law {pa ba aa : Option Addr} {pn pc bn bc an ac : Nat} {ps ls la : List Int} (hzps : ∀ z ∈ ps, -9223372036854775808 ≤ z ∧ z ≤ 9223372036854775807) (hzla : ∀ z ∈ la, -9223372036854775808 ≤ z ∧ z ≤ 9223372036854775807) (hpn : pn ≤ 4611686018427387904) (hbn : bn ≤ 4611686018427387904) (han : an ≤ 4611686018427387904) : Spec Tryz.prog 3 [.slice pa pn pc, .slice ba bn bc, .slice aa an ac] [rsl 1 pa pn pc (ps.map e3), rsl 1 ba bn bc (ls.map e3), rsl 1 aa an ac (la.map e3)] [] (fun v D' M' => v = .bool true ∧ D' = [] ∧ M' = []) := by
 refine zE (n := 70) Tryz.func3 ?_
 intro σ D M
 skip
 refine z6 (z8 (z9 rfl rfl (z7 (z4 (z6 (z6 (z8 (zW rfl (evs.nil) qD qS (awake15_spec) jF ?_))))))))
 refine yW rfl rfl (z7 (z4 (yK rfl rfl ?_)))
 refine zj (z4 (z6 (z8 (z5 rfl rfl (z5 rfl rfl (zw rfl (ev2 rfl rfl) qD qS (stock_spec (ps := ps) (ls := ls) hzps hbn hpn) ?_))))))
 rintro _ _ _ ⟨sa, sb, sn, sc, sd, rfl, hsn, rfl, rfl⟩
 refine zu qA qA ?_
 have hsh := stk_shf ps ls
 have hsl := stk_len ps ls
 have htw := stk_two ps ls
 have hnn := stk_nnd ps ls
 have h97 := wh_9 ps ls
 obtain ⟨os, hos⟩ : ∃ z, z = stk ps ls := ⟨_, rfl⟩
 rw [← hos] at hsn hsh hsl htw hnn h97 ⊢
 refine z5 rfl rfl (zO rfl rfl rfl (zO rfl rfl rfl (zS rfl ze26 (fun b7 => ?_))))
 refine zC ag26 rfl rfl qL qO qU qW ?_
 refine z9 rfl rfl (z7 (y9 (A := cl b7 26 [.slice sa sn sc]) qP ?_))
 refine z4 (z6 (z8 (z5 rfl rfl (zw rfl (ev1 rfl) qD qS (names15_spec (ps := la) hzla han) ?_))))
 rintro _ _ _ ⟨xa, xb, xn, xc, xd, rfl, hxn, rfl, rfl⟩
 refine zu qA qA ?_
 obtain ⟨X, hX_⟩ : ∃ z, z = (la.take 5).map nz := ⟨_, rfl⟩
 have hX5 : X.length ≤ 5 := by rw [hX_, List.length_map, List.length_take]; omega
 rw [← hX_] at hxn ⊢
 refine z5 rfl rfl (zO rfl rfl rfl (zO rfl rfl rfl (z9 rfl rfl (z9 rfl rfl (z7 (z4 (z6 (z6 (z8 (zr rfl ag26 rfl qN ?_))))))))))
 refine L.mkIface rfl xz (by intro i q; cases q) rfl ?_
 refine z5 rfl rfl (zw rfl (ev2 rfl rfl) qD qS (reach_spec (os := os) (l := X) jO hsh jO) ?_)
 rintro _ _ _ ⟨ea, en, ec, u1, rfl, h1f, h1n, h1b, rfl, rfl⟩
 refine zu qA qA ?_
 refine yM (rows := u1.map iC) qP ?_
 refine z5 rfl rfl (z5 rfl rfl (zw rfl (ev2 rfl rfl) qD qS (rreach_spec (os := os) (l := X) jO hsh jO) ?_))
 rintro _ _ _ ⟨fa, fn, fc, v1, rfl, h2f, h2n, rfl, rfl⟩
 refine zu qA qA ?_
 obtain rfl := h1f.uniq h2f
 refine zW rfl (ev2 rfl rfl) qD qS (same15_spec (xs := u1) (us := u1.map (·.1)) jO jO) jF ?_
 refine yW rfl rfl (z5 rfl rfl (zv (t := 35) rfl (show _ = Value.bool false from congrArg Value.bool (by rw [decide_eq_true rfl]; rfl)) ?_))
 refine ze (dj := 35) rfl rfl rfl (zr rfl ag26 rfl qN ?_)
 refine ze (dj := 35) rfl rfl rfl (L.mkIface rfl xz (by intro i q; cases q) rfl ?_)
 refine ze (dj := 35) rfl rfl rfl (z5 rfl rfl (ze (dj := 35) rfl rfl rfl (zw rfl (ev2 rfl rfl) qD qS (objs_spec (os := os) (l := X) jO hsh jO) ?_)))
 rintro _ _ _ ⟨ga, gn, gc, u2, rfl, h3f, h3n, rfl, rfl⟩
 refine zu qA qA ?_
 have h3l := h3f.len
 refine yM (rows := u2.map iC) qP ?_
 refine ze (dj := 35) rfl rfl rfl (z5 rfl rfl (ze (dj := 35) rfl rfl rfl (z5 rfl rfl (ze (dj := 35) rfl rfl rfl (zw rfl (ev2 rfl rfl) qD qS (robjs_spec (os := os) (l := X) jO hsh hnn jO) ?_)))))
 rintro _ _ _ ⟨ia, im, ic, v2, rfl, h4f, h4n, rfl, rfl⟩
 refine zu qA qA ?_
 obtain rfl := h3f.uniq h4f
 refine ze (dj := 35) rfl rfl rfl (zW rfl (ev2 rfl rfl) qD qS (same15_spec (xs := u2) (us := u2.map (·.1)) jO jO) jF ?_)
 refine ze (dj := 35) rfl rfl rfl (yW rfl rfl (y3 rfl rfl rfl (z7 (z4 (yK rfl (by rw [decide_eq_true rfl]; rfl) ?_)))))
 refine zj (z4 (z6 (z6 (z8 (z5 rfl rfl (y1 rfl zF rfl (z5 rfl rfl (z7 (z4 (zq (zV (fun K' D' M' μ => ∃ (i : Nat), (i ≤ xn) ∧ K' = [(48, .int .i64 (i : Int))] ∧ D' = [] ∧ M' = [] ∧ μ = xn - i) (.cons (t := 7) rfl <| .cons (t := 8) rfl <| .cons (t := 10) rfl <| .cons (t := 46) rfl <| .cons (t := 47) rfl <| za _) (⟨0, Nat.zero_le _, rfl, rfl, rfl, rfl⟩) (.cons (t := 48) rfl <| za _) qD qS ?_)))))))))))
 rintro K1 D1 M1 m1 ⟨i, hi, rfl, rfl, rfl, rfl⟩
 refine zz qA qA qA ?_
 refine z6 (z8 (zQ rfl rfl rfl (z7 (z4 (z6 (zo rfl (fun h49 => ?_) (fun h49 => ?_)))))))
 ·try simp only [dq] at h49
  refine zj (z4 (z6 (zq (z6 ?_))))
  have hgx : X[i]? = some (gd X i) := zJ jO
  obtain ⟨x, hx_⟩ : ∃ z, z = gd X i := ⟨_, rfl⟩
  rw [← hx_] at hgx
  clear hx_
  have hrx : (X.map iC)[i]? = some (iC x) := zR hgx
  have hmx : (X.map (·.1))[i]? = some x.1 := zR hgx
  have hry : ((X.map (·.1)).map ys)[i]? = some (ys x.1) := zR hmx
  have hx2 := x.2
  have hx3 := zZ x
  refine z8 (z5 rfl rfl (yq (i := i) rfl zF zT rfl rfl qM jR qG (fun b51 o51 => ?_)))
  refine zr rfl zB rfl (yX qM hx3) ?_
  refine zS rfl ze38 (fun b12 => ?_)
  refine z9 rfl rfl (zC zB rfl rfl qL qO qU qW ?_)
  refine z7 (y9 (A := cl b12 38 (iC x)) qP ?_)
  refine z4 (z6 (T.rslAddr (a := xb) (len := xn) (cap := xd) (rows := (X.map (·.1)).map ys) qM (fun e => by have := congrArg List.length e; rw [List.length_map, List.length_map] at this; simp only [List.length_nil] at this; omega) (fun bo oo ha => ?_)))
  subst ha
  refine yv qk qk (zr rfl ag26 rfl qN ?_)
  refine L.mkIface rfl xz (by intro i q; cases q) rfl ?_
  refine zr rfl zB rfl qN ?_
  refine zW rfl (ev2 rfl rfl) qD qS (whl_spec (os := os) (x := x) jO hsh) jF ?_
  refine z5 rfl rfl (z5 rfl rfl (z5 rfl rfl (L.idxR (i := i) rfl yB sz9 rfl rfl qM jR qI qG ?_)))
  refine zh rfl sc9 rfl qC ?_
  refine zW rfl (ev2 rfl rfl) qD qS (rwhl_spec (os := os) (x := x) jO hsh (Nat.le_trans (cst_73 htw _) jD)) jF ?_
  refine yh rfl rfl rfl (yn (z4 (yK rfl (decide_eq_false (fun q => q rfl)) ?_)))
  refine zj (zI (z4 (z8 (zA rfl rfl rfl jO ?_))))
  exact z5 rfl rfl (z7 (z4 (zL ⟨i + 1, jO, rfl, rfl, rfl, rfl⟩ qI (.cons (t := 48) rfl <| za _) (.cons (t := 7) rfl <| .cons (t := 8) rfl <| .cons (t := 10) rfl <| .cons (t := 46) rfl <| .cons (t := 47) rfl <| za _) qD qD qF)))
 ·try simp only [dq] at h49
  refine zM (zp (zp (zN (z4 (z6 (z8 (zr rfl ag26 rfl qN ?_)))))))
  refine L.mkIface rfl xz (by intro i q; cases q) rfl ?_
  refine yf rfl bua38 (zx rfl rfl rfl <| zG (out := (Value.int .u8 0 :: Value.int .u8 0 :: Value.int .u8 0 :: Value.int .u8 0 :: Value.int .u8 0 :: Value.int .u8 0 :: Value.int .u8 0 :: Value.int .u8 0 :: Value.int .u8 0 :: Value.int .u8 0 :: Value.int .u8 0 :: Value.int .u8 0 :: Value.int .u8 0 :: Value.int .u8 0 :: Value.int .u8 0 :: Value.int .u8 0 :: Value.int .u8 0 :: Value.int .u8 0 :: Value.int .u8 0 :: Value.int .u8 0 :: Value.int .u8 0 :: Value.int .u8 0 :: Value.int .u8 0 :: Value.int .u8 0 :: Value.int .u8 0 :: Value.int .u8 0 :: Value.int .u8 0 :: Value.int .u8 0 :: Value.int .u8 0 :: Value.int .u8 0 :: Value.int .u8 0 :: [])) rfl) ?_
  refine zv (t := 67) (u := .agg (iC id9).toArray) rfl (by rw [id9_v]; rfl) ?_
  refine zW rfl (ev2 rfl rfl) qD qS (whl_spec (os := os) (x := id9) jO hsh) jF ?_
  rw [h97]
  exact yz rfl rfl rfl (z9 rfl rfl (z7 (z4 (zm (zy rfl rfl ⟨rfl, rfl, rfl⟩ qD qF)))))
end Cv
