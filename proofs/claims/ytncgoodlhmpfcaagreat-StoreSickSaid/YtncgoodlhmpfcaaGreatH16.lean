/-
  The walks: what is woven: builders.
-/
import Derived.Test.YtncgoodlhmpfcaaGreatGx16
set_option linter.all false
set_option maxHeartbeats 400000
set_option maxRecDepth 10000
namespace Cv
open Go Go.Proofs
/-! ## what is woven: the plain model -/
abbrev St := Pt × Int
@[reducible] def stC (s : St) : List Value := s.1.1.1.map Y ++ [.int .i64 s.1.2, .int .i64 s.2]
theorem stC_len (s : St) : (stC s).length = 34 := by rw [List.length_append, List.length_map, s.1.1.2]; rfl
theorem at_st (s : St) : AtN 33 (stC s) 0 (ptC s.1) := by
  show AtN 33 (s.1.1.1.map Y ++ [.int .i64 s.1.2, .int .i64 s.2]) 0 (s.1.1.1.map Y ++ [.int .i64 s.1.2])
  rw [show s.1.1.1.map Y ++ [.int .i64 s.1.2, .int .i64 s.2] = (s.1.1.1.map Y ++ [.int .i64 s.1.2]) ++ [.int .i64 s.2] by simp]
  exact AtN.left (by rw [List.length_append, List.length_map, s.1.1.2]; rfl)
theorem one_st {s : St} : ∀ u ∈ stC s, u.oneCell' = true := fun u hu => by
  rcases List.mem_append.1 hu with q | q
  · obtain ⟨y, _, rfl⟩ := List.mem_map.1 q; rfl
  · simp only [List.mem_cons, List.not_mem_nil, or_false] at q
    rcases q with rfl | rfl <;> rfl
def wkK (s : St) : Int := if s.2 = 0 then 1 else 2
@[reducible] def wtC (s : St) : List Value := .int .i64 (wkK s) :: ptC s.1
theorem one_ip {k : Int} {p : Pt} : ∀ u ∈ (.int .i64 k :: ptC p : List Value), u.oneCell' = true := fun u hu => by
  rcases List.mem_cons.1 hu with q | q
  · rw [q]; rfl
  · rcases List.mem_append.1 q with q | q
    · obtain ⟨y, _, rfl⟩ := List.mem_map.1 q; rfl
    · rw [List.mem_singleton.1 q]; rfl
theorem wtC_len (s : St) : (wtC s).length = 34 := by rw [List.length_cons, ptC_len]
def kidW (z : Nat × List Pt × Int) : List St := (z.2.1.map fun p => (p, (z.1 : Int) - 1)).reverse
def nodE (s : St) (z : Nat × List Pt × Int) : Int := if z.2.2 ≠ 0 then z.2.2 else if (0 < s.2 ∧ (z.1 : Int) ≠ s.2) ∨ sizeP z.2.1 ≠ s.1.2 then 2 else 0
def givE (s : St) (t : List UInt8) : Int := if oidF (wkK s) t ≠ s.1.1.1 then 3 else if s.2 = 0 then (if (t.length : Int) ≠ s.1.2 then 2 else 0) else nodE s (nodR t)
def givL (s : St) (t : List UInt8) : List St := if s.2 = 0 then [] else kidW (nodR t)
def givB (s : St) (t : List UInt8) : List UInt8 := if s.2 = 0 then t else []
inductive WvR (os : List Ob) : List St → List UInt8 → List UInt8 × Int → Prop
  | done (out : List UInt8) : WvR os [] out (out, 0)
  | miss {l : List St} {s : St} {out : List UInt8} (h : getE os s.1.1 ≠ 0) : WvR os (l ++ [s]) out ([], getE os s.1.1)
  | bad {l : List St} {s : St} {out : List UInt8} (h : getE os s.1.1 = 0) (k : givE s (getO os s.1.1).2.2 ≠ 0) : WvR os (l ++ [s]) out ([], givE s (getO os s.1.1).2.2)
  | step {l : List St} {s : St} {out : List UInt8} {r : List UInt8 × Int} (h : getE os s.1.1 = 0) (k : givE s (getO os s.1.1).2.2 = 0) (n : WvR os (l ++ givL s (getO os s.1.1).2.2) (out ++ givB s (getO os s.1.1).2.2) r) : WvR os (l ++ [s]) out r
theorem kid_len {z : Nat × List Pt × Int} : (kidW z).length = z.2.1.length := by unfold kidW; rw [List.length_reverse, List.length_map]
theorem kid_at {z : Nat × List Pt × Int} {j m : Nat} {p : Pt} (h : m + 1 + j = z.2.1.length) (hp : z.2.1[m]? = some p) : (kidW z).take (j + 1) = (kidW z).take j ++ [(p, (z.1 : Int) - 1)] := by
  rw [List.take_add_one]
  have : (kidW z)[j]? = some (p, (z.1 : Int) - 1) := by
    unfold kidW
    rw [List.getElem?_reverse (by rw [List.length_map]; omega), List.length_map, List.getElem?_map, show z.2.1.length - 1 - j = m by omega, hp]; rfl
  rw [this]; rfl
def wgt (l : Int) : Nat := if l = -1 then 9 ^ 9 else 9 ^ l.toNat
def wgS (l : List St) : Nat := (l.map fun s => wgt s.2).sum
def szS (l : List St) : Int := (l.map fun s => s.1.2).sum
theorem wgS_app {a b : List St} : wgS (a ++ b) = wgS a + wgS b := by unfold wgS; rw [List.map_append, List.sum_append]
theorem szS_app {a b : List St} : szS (a ++ b) = szS a + szS b := by unfold szS; rw [List.map_append, List.sum_append]
structure WvI (l : List St) (out : List UInt8) (N : Int) : Prop where
  lv : ∀ s ∈ l, -1 ≤ s.2 ∧ s.2 ≤ 8
  sz : ∀ s ∈ l, 1 ≤ s.1.2
  su : (out.length : Int) + szS l = N
theorem sz_len : ∀ {l : List St}, (∀ s ∈ l, 1 ≤ s.1.2) → (l.length : Int) ≤ szS l
  | [], _ => Int.le_refl _
  | s :: l, h => by
    have h1 := h s (List.mem_cons_self ..)
    have h2 := sz_len (l := l) fun x hx => h x (List.mem_cons_of_mem _ hx)
    have e : szS (s :: l) = s.1.2 + szS l := by unfold szS; rw [List.map_cons, List.sum_cons]
    rw [e, List.length_cons]; omega
theorem WvI.len {l : List St} {out : List UInt8} {N : Int} (h : WvI l out N) : (l.length : Int) ≤ N ∧ (out.length : Int) ≤ N := by
  have a := sz_len h.sz
  have b := h.su
  constructor <;> omega
theorem sum_sz {ps : List Pt} {c : Int} : szS (ps.map fun p => (p, c)).reverse = sizeP ps := by
  unfold szS
  rw [List.map_reverse, List.sum_reverse, List.map_map]
  induction ps with
  | nil => rfl
  | cons p ps ih =>
    have e : sizeP (p :: ps) = p.2 + sizeP ps := by
      rw [show p :: ps = [p] ++ ps from rfl, sizeI_app]; congr 1
      show 0 + p.2 = p.2; omega
    rw [List.map_cons, List.sum_cons, ih, e]; rfl
theorem wgt_kids {c : Int} : ∀ {ps : List Pt}, wgS ((ps.map fun p => (p, c)).reverse) = ps.length * wgt c
  | [] => by simp [wgS]
  | p :: ps => by
    have := @wgt_kids c ps
    unfold wgS at this ⊢
    rw [List.map_reverse, List.sum_reverse] at this ⊢
    rw [List.map_cons, List.map_cons, List.sum_cons, this, List.length_cons, Nat.succ_mul]; exact Nat.add_comm ..
theorem wgt_pos {c : Int} : 1 ≤ wgt c := by
  unfold wgt; split
  · exact Nat.one_le_pow _ _ (by decide)
  · exact Nat.one_le_pow _ _ (by decide)
theorem WvI.give {l : List St} {s : St} {out t : List UInt8} {N : Int} (h : WvI (l ++ [s]) out N) (k : givE s t = 0) : WvI (l ++ givL s t) (out ++ givB s t) N ∧ wgS (l ++ givL s t) < wgS (l ++ [s]) := by
  have hl := h.lv s (by simp)
  have hz := h.sz s (by simp)
  have hu := h.su
  rw [szS_app] at hu
  have hs1 : szS [s] = s.1.2 := by unfold szS; simp
  have hw1 : wgS [s] = wgt s.2 := by unfold wgS; simp
  rw [hs1] at hu
  unfold givE at k
  split at k
  · exact absurd k (by decide)
  · unfold givL givB
    by_cases c : s.2 = 0
    · rw [if_pos c] at k
      rw [if_pos c, if_pos c]
      have hn : (t.length : Int) = s.1.2 := Decidable.byContradiction fun q => by rw [if_pos q] at k; exact absurd k (by decide)
      refine ⟨⟨fun x hx => h.lv x (by simp at hx; simp [hx]), fun x hx => h.sz x (by simp at hx; simp [hx]), ?_⟩, ?_⟩
      · rw [List.append_nil, List.length_append]; omega
      · rw [List.append_nil, wgS_app, hw1]; have := @wgt_pos s.2; omega
    · rw [if_neg c] at k
      rw [if_neg c, if_neg c, List.append_nil]
      unfold nodE at k
      split at k
      · rename_i q; exact absurd k q
      · rename_i q
        have q : (nodR t).2.2 = 0 := Decidable.not_not.1 q
        split at k
        · exact absurd k (by decide)
        · rename_i r
          obtain ⟨c1, c2, -, c3, c5, -⟩ := chkN_0 (nodR_ok q)
          have hk := @kid_len (nodR t)
          have hlv : 0 < s.2 → ((nodR t).1 : Int) = s.2 := fun q => Decidable.byContradiction fun w => r (.inl ⟨q, w⟩)
          have hsz : sizeP (nodR t).2.1 = s.1.2 := Decidable.byContradiction fun w => r (.inr w)
          have hks : szS (kidW (nodR t)) = s.1.2 := by unfold kidW; rw [sum_sz]; exact hsz
          have hkw : wgS (kidW (nodR t)) = (nodR t).2.1.length * wgt ((nodR t).1 - 1 : Int) := by unfold kidW; exact wgt_kids
          have hkm : ∀ x ∈ kidW (nodR t), x.2 = (nodR t).1 - 1 ∧ x.1 ∈ (nodR t).2.1 := fun x hx => by
            unfold kidW at hx
            rw [List.mem_reverse] at hx
            obtain ⟨p, hp, rfl⟩ := List.mem_map.1 hx
            exact ⟨R, hp⟩
          refine ⟨⟨fun x hx => ?_, fun x hx => ?_, ?_⟩, ?_⟩
          · rcases List.mem_append.1 hx with w | w
            · exact h.lv x (by simp [w])
            · have := (hkm x w).1; omega
          · rcases List.mem_append.1 hx with w | w
            · exact h.sz x (by simp [w])
            · exact (c5 _ (hkm x w).2).1
          · rw [szS_app, hks]; exact hu
          · rw [wgS_app, wgS_app, hw1, hkw]
            have e1 : wgt ((nodR t).1 - 1 : Int) = 9 ^ ((nodR t).1 - 1) := by
              unfold wgt; rw [if_neg (by omega)]; congr 1; omega
            have e2 : 9 ^ (nodR t).1 ≤ wgt s.2 := by
              unfold wgt; split
              · exact Nat.pow_le_pow_right (by decide) (by omega)
              · rename_i w
                rw [show s.2.toNat = (nodR t).1 by have := hlv (by omega); omega]; exact Nat.le_refl _
            have e3 : 9 ^ (nodR t).1 = 9 * 9 ^ ((nodR t).1 - 1) := by
              rw [show (nodR t).1 = ((nodR t).1 - 1) + 1 by omega, Nat.pow_succ, Nat.add_sub_cancel]; omega
            have e4 : 1 ≤ 9 ^ ((nodR t).1 - 1) := Nat.one_le_pow _ _ (by decide)
            have e5 : (nodR t).2.1.length * 9 ^ ((nodR t).1 - 1) ≤ 8 * 9 ^ ((nodR t).1 - 1) := Nat.mul_le_mul_right _ c3
            rw [e1]; omega
theorem wv_start {p : Pt} (h : 1 ≤ p.2) : WvI [(p, -1)] [] p.2 := ⟨fun s hs => by rw [List.mem_singleton.1 hs]; exact ⟨Int.le_refl _, by show (-1 : Int) ≤ 8; decide⟩, fun s hs => by rw [List.mem_singleton.1 hs]; exact h, by unfold szS; simp⟩
structure WvX where
  pp : Option Addr
  la : Option Addr
  lc : Nat
  ba : Option Addr
  bc : Nat
  g : Int
def wvA (w : Nat) (lw : List St) (b : List UInt8) : Asn := exP (fun x : WvX => x.pp = none ∨ x.pp = some ⟨w, 1, none⟩) (fun x => [cl w 299 [.slice x.la (lw).length x.lc, .pointer (x.pp), .slice x.ba (b).length x.bc, .int .i64 (x.g)], own 34 296 x.la (lw).length x.lc ((lw).map stC), own 1 5 x.ba (b).length x.bc ((b).map yr)])
section
variable {σ : World} {n : Nat} {G : Act → World → Prop} {K : Env} {D M N : List Asn} {w : Nat} {lw : List St} {b : List UInt8}
theorem T.wvU (hM : Pull (wvA w lw b) M N) (next : ∀ (la : Option Addr) (lc : Nat) (pp ba : Option Addr) (bc : Nat) (g : Int), pp = none ∨ pp = some ⟨w, 1, none⟩ → T σ n G K D (cl w 299 [.slice la (lw).length lc, .pointer (pp), .slice ba (b).length bc, .int .i64 (g)] :: own 34 296 la (lw).length lc ((lw).map stC) :: own 1 5 ba (b).length bc ((b).map yr) :: N)) : T σ n G K D M := T.exU hM fun x h => next x.la x.lc x.pp x.ba x.bc x.g h
theorem T.wvF {la : Option Addr} {ln lc : Nat} {pp ba : Option Addr} {bn bc : Nat} {g : Int} (h : pp = none ∨ pp = some ⟨w, 1, none⟩) (h1 : lw.length = ln) (h2 : b.length = bn) (hM : Sel [cl w 299 [.slice la ln lc, .pointer (pp), .slice ba bn bc, .int .i64 (g)], own 34 296 la ln lc ((lw).map stC), own 1 5 ba bn bc ((b).map yr)] M N) (next : T σ n G K D (wvA w lw b :: N)) : T σ n G K D M := by
  subst h1; subst h2; exact T.exF (⟨pp, la, lc, ba, bc, g⟩ : WvX) h hM next
end

theorem wcc_spec {w ln lc bn bc : Nat} {la ba : Option Addr} {g : Int} {p : Option Addr} (hp : p = none ∨ p = some ⟨w, 1, none⟩)  : Spec Tryz.prog 175 [.pointer (some ⟨w, 1, none⟩)] [] [cl w 299 [.slice la ln lc, .pointer (p), .slice ba bn bc, .int .i64 g]] (fun v D' M' => v = .tuple #[] ∧ D' = [] ∧ M' = [cl w 299 [.slice la ln lc, .pointer (some ⟨w, 1, none⟩), .slice ba bn bc, .int .i64 g]]) := by
 refine zv (n := 20) Tryz.func175 ?_
 intro σ D M
 obtain ⟨jB, hj1, hj2⟩ := bld_info
 refine O (E R R (zJ R R ?_))
 refine zg R fo197_0 R ?_
 refine zf R sc195 R qC ?_
 refine L.eqlPtr R xS R R ?_
 refine I (zA R (fun h6 => ?_) (fun h6 => ?_))
 ·try simp only [dq] at h6
  obtain rfl : p = none := by cases p; rfl; cases h6
  refine zt (E R R (E R R (L.convToUo (T := 299) R xS Tryz.underlying307 hj1 hj2 R qM (by simp) ?_)))
  refine L.callX (v := .pointer (some ⟨w, 1, none⟩)) nex R (ev1 R) (fun w _ => Lib.run_noEscape w _) ?_
  refine L.convFromUo (T := 299) (k := 4) R Tryz.underlying307 xS hj1 R qM R qk ?_
  refine zJ R R ?_
  refine zg R fo197_0 R ?_
  refine yj sc195 R R R qU qE ?_
  exact zu (yS (by simp) R ⟨R, R, R⟩ qD qF)
 try simp only [dq] at h6
 obtain rfl : p = some ⟨w, 1, none⟩ := by rcases hp with q | q; subst q; cases h6; exact q
 refine O (E R R (zJ R R ?_))
 refine zg R fo197_0 R ?_
 refine zf R sc195 R qC ?_
 refine E R R (L.neqPtrSame R xS hj1 R R ?_)
 refine I (zR R R ?_)
 exact zq (yS (by simp) R ⟨R, R, R⟩ qD qF)
theorem wws_spec {w : Nat} {lw : List St} {b s : List UInt8} (hb : b.length + s.length ≤ 140737488355328) : Spec Tryz.prog 114 [.pointer (some ⟨w, 1, none⟩), S s] [] [wvA w lw b] (fun v D' M' => v = .tuple #[.int .i64 s.length, .nilIface] ∧ D' = [] ∧ M' = [wvA w lw (b ++ s)]) := by
 refine zv (n := 19) Tryz.func114 ?_
 intro σ D M
 refine T.wvU qP (fun la lc pp ba bc g hpp => ?_)
 refine O (V R R (V R R (I (O (E R R (zp R (ev1 R) qD qS (wcc_spec hpp) ?_))))))
 rintro _ _ _ ⟨rfl, rfl, rfl⟩
 refine zm qA qA ?_
 refine I (O (E R R (E R R (zJ R R ?_))))
 refine zg R fo197_1 R ?_
 refine zf R yZ R qC ?_
 refine E R R (L.appendS R yz ye el5 R R qP qI (fun a14 c14 => ?_))
 refine zJ R R ?_
 refine zg R fo197_1 R ?_
 refine yj yZ R R R qU qE ?_
 refine zu (yp _ ((b ++ s).map yr) qP (by rw [List.map_append]) ?_)
 refine T.wvF (lw := lw) (b := b ++ s) (.inr R) (R) (by rw [List.length_append]) qS ?_
 exact z8 (O (E R R (yL R ye R (V R R (V R R (I (zo (x8 R R R ⟨R, R, R⟩ qD qF))))))))
theorem wst_spec {w : Nat} {lw : List St} {b : List UInt8} (h0 : b ≠ []) (hb : b.length ≤ 140737488355328) : Spec Tryz.prog 117 [.pointer (some ⟨w, 1, none⟩)] [] [wvA w lw b] (fun v D' M' => v = S b ∧ D' = [] ∧ M' = []) := by
 refine zv (n := 14) Tryz.func117 ?_
 intro σ D M
 refine T.wvU qP (fun la lc pp ba bc g hpp => ?_)
 have hbp := List.length_pos_iff.2 h0
 refine T.ownNe (a := ba) (sz := 1) qM hbp (fun bo oo ha => ?_)
 subst ha
 refine xo (rows := b.map yr) qM (fun hbl hbc => ?_)
 refine O (V R R (I (ze (y7 (clsL [1, 0, 1, 0, 0, 1, 0, 1, 0, 1, 2, 1]) qk ?_))))
 refine z9 0 R R (E R R (z7 (z9 5 R R (E R R (z7 (yE (i := 1) R R qk qk qk qk R qD qF R ?_))))))
 refine z9 2 R R (zg R fo197_1 R ?_)
 refine z7 (zY (i := 3) R R R R qk qk qk qk R qD qF ?_)
 refine zf R yZ R qC ?_
 refine z7 (yE (i := 6) R R qk qk qk qk R qD qF R ?_)
 refine z9 7 R R (zg R fo197_1 R ?_)
 refine z7 (zY (i := 8) R R R R qk qk qk qk R qD qF ?_)
 refine zf R yZ R qC ?_
 refine z7 (z9 9 R R (yb R yz R (z7 (zi 4 R (L.sliceData R jO R ?_)))))
 refine yH R qD qF ?_
 refine zi 10 R (L.unsafeStr (l := b) R Tryz.underlying261 qk R R h0 jO qP ?_)
 refine zh R qD ?_
 refine z9 11 R R (V R R (z7 (zN qk ?_)))
 exact z8 (zo (zy R R ⟨R, R, R⟩ qD qF))
theorem wover_spec {w : Nat} {lw : List St} {b : List UInt8}  : Spec Tryz.prog 207 [.pointer (some ⟨w, 0, none⟩)] [] [wvA w lw b] (fun v D' M' => v = .bool (decide (lw.length = 0)) ∧ D' = [] ∧ M' = [wvA w lw b]) := by
 refine zv (n := 9) Tryz.func207 ?_
 intro σ D M
 refine T.wvU qP (fun la lc pp ba bc g hpp => ?_)
 refine O (V R R (I (O (E R R (zJ R R ?_)))))
 refine zg R fo299_0 R ?_
 refine zf R sc297 R qC ?_
 refine yb R xO R (yi R R R (V R R (I (zo (T.wvF (lw := lw) (b := b) (hpp) (R) (R) qS ?_)))))
 exact zy R R ⟨congrArg Value.bool (by simp), R, R⟩ qD qF
end Cv
set_option maxRecDepth 10000
namespace Cv
open Go Go.Proofs

theorem wnew_spec {p : Pt}  : Spec Tryz.prog 166 [.agg (ptC p).toArray] [] [] (fun v D' M' => ∃ (w : Nat), v = .pointer (some ⟨w, 0, none⟩) ∧ D' = [] ∧ M' = [wvA w [(p, -1)] []]) := by
 refine zv (n := 8) Tryz.func166 ?_
 intro σ D M
 have hp3 := ptC_len p
 have hp2 := p.1.2
 refine O (y6 R R R (fun b1 => ?_))
 refine V R R (zu (zO (A := cl b1 73 (ptC p)) qP ?_))
 refine z8 (O (zx R ag73 R qN ?_))
 refine yq R bu296 (yG R R j1 (Nat.le_of_ble_eq_true R) qR <| zF R R R <| zQ (out := []) R) ?_
 refine yl R bs297 jD (yG R R j1 (Nat.le_of_ble_eq_true R) qR <| zQ (out := []) R) (fun b5 => ?_)
 refine yR (len := 1) qP (rows := ([(p, -1)] : List St).map stC) (sz := 34) (by simp) R (fun r hr => by rw [List.mem_singleton.1 hr]; exact stC_len _) ?_
 refine yq R bu299 (zF R R R <| zQ (out := [Value.pointer none, Value.slice none 0 0, .int .i64 0]) R) ?_
 refine y6 R R R (fun b7 => ?_)
 refine V R R (I (zo (yM (sz := 1) (e := 5) ?_)))
 refine y3 qP (show own 1 5 none 0 0 [] = own 1 5 none 0 0 ((([] : List UInt8)).map yr) from R) ?_
 refine T.wvF (lw := [(p, -1)]) (b := []) (ln := 1) (bn := 0) (.inl R) R R qS ?_
 exact zy R R ⟨_, R, R, R⟩ qD qF
theorem wnext0_spec {w : Nat} {b : List UInt8}  : Spec Tryz.prog 167 [.pointer (some ⟨w, 0, none⟩)] [] [wvA w [] b] (fun v D' M' => v = .tuple #[.agg (.int .i64 0 :: ptC zP).toArray, .bool false] ∧ D' = [] ∧ M' = [wvA w [] b]) := by
 refine zv (n := 29) Tryz.func167 ?_
 intro σ D M
 refine O (zC R ze186 (fun b2 => ?_))
 refine V R R (I (ze (O (E R R (zH R (ev1 R) qD qS (wover_spec (lw := []) (b := b)) jF ?_)))))
 refine I (yV R R ?_)
 refine O (yq R bu186 (zQ (out := (Value.int .i64 0 :: j8 :: j8 :: j8 :: j8 :: j8 :: j8 :: j8 :: j8 :: j8 :: j8 :: j8 :: j8 :: j8 :: j8 :: j8 :: j8 :: j8 :: j8 :: j8 :: j8 :: j8 :: j8 :: j8 :: j8 :: j8 :: j8 :: j8 :: j8 :: j8 :: j8 :: j8 :: j8 :: .int .i64 0 :: [])) R) ?_)
 refine zz ag186 R R qL qO qU qW ?_
 exact V R R (I (zo (zL (yW R ag186 R qN R ⟨R, R, R⟩ qD qF))))
theorem wnext_spec {w : Nat} {l : List St} {s : St} {b : List UInt8} (hl : l.length ≤ 1000000) : Spec Tryz.prog 167 [.pointer (some ⟨w, 0, none⟩)] [] [wvA w (l ++ [s]) b] (fun v D' M' => v = .tuple #[.agg (wtC s).toArray, .bool true] ∧ D' = [] ∧ M' = [wvA w (l ++ [s]) b]) := by
 refine zv (n := 29) Tryz.func167 ?_
 intro σ D M
 have hle : (l ++ [s]).length ≠ 0 := by simp
 refine O (zC R ze186 (fun b2 => ?_))
 refine V R R (I (ze (O (E R R (zH R (ev1 R) qD qS (wover_spec (lw := (l ++ [s])) (b := b)) jF ?_)))))
 refine I (zR R (decide_eq_false hle) ?_)
 refine zq (z8 (ze (T.wvU qP (fun la lc pp ba bc g hpp => ?_))))
 refine xo (rows := (l ++ [s]).map stC) qM (fun hol hoc => ?_)
 refine T.ownNe (a := la) (sz := 34) qM (by rw [List.length_append, List.length_singleton]; omega) (fun bo oo ha => ?_)
 subst ha
 have hln : (l ++ [s]).length = l.length + 1 := by rw [List.length_append, List.length_singleton]
 have hgr : ((l ++ [s]).map stC)[l.length]? = some (stC s) := by rw [List.getElem?_map, List.getElem?_append_right (Nat.le_refl _), Nat.sub_self]; rfl
 have hs3 := stC_len s
 have hs33 := ptC_len s.1
 have hs32 := s.1.1.2
 refine y7 (clsL [1, 0, 1, 0, 1, 0, 1, 0, 1, 1, 1, 0, 0, 2]) qk ?_
 refine z9 0 R R (E R R (z7 (z9 4 R R (E R R (z7 (yE (i := 1) R R qk qk qk qk R qD qF R ?_))))))
 refine z9 2 R R (zg R fo299_0 R ?_)
 refine z7 (zY (i := 3) R R R R qk qk qk qk R qD qF ?_)
 refine zf R sc297 R qC ?_
 refine z7 (yE (i := 5) R R qk qk qk qk R qD qF R ?_)
 refine z9 6 R R (zg R fo299_0 R ?_)
 refine z7 (zY (i := 7) R R R R qk qk qk qk R qD qF ?_)
 refine zf R sc297 R qC ?_
 refine z7 (z9 8 R R (yb R xO R (z7 (z9 9 R R (yt R R R jO ?_)))))
 refine zE (t := 17) (u := .int .i64 ((l.length : Nat) : Int)) R (congrArg (Value.int .i64) jO) ?_
 refine z7 (z9 10 R R (yN (i := l.length) R xO sz296 R R jR qI ?_))
 refine z7 (zY (i := 11) R R R R qk qk qk qk R qD qF ?_)
 refine zx R ag296 R (xJ qM hgr hs3) ?_
 refine z7 (zi 12 R (zC R ze296 (fun b4 => ?_)))
 refine yH R qD qF ?_
 refine zi 13 R (zz ag296 R R qL qO qU qW ?_)
 refine zh R qD ?_
 refine zN qk ?_
 refine zO (A := cl b4 296 (stC s)) qP ?_
 refine z8 (ze (O (zg R fo296_1 R ?_)))
 refine zf R sc3 R qC ?_
 refine yi R R R (I (zA R (fun h22 => ?_) (fun h22 => ?_)))
 ·try simp only [dq] at h22
  have hk : wkK s = 1 := if_pos h22
  refine O (zg R fo296_0 R ?_)
  refine zx R ag73 R (CellsN.ofF qM (at_st s)) ?_
  refine yq R bu186 (zF R R R <| yG R R j1 (Nat.le_of_ble_eq_true R) qR <| zQ (out := []) R) ?_
  refine zz ag186 R R qL qO qU qW ?_
  refine V R R (I (zo (zL ?_)))
  rw [show wtC s = .int .i64 1 :: ptC s.1 from by unfold wtC; rw [hk]]
  refine T.wvF (lw := (l ++ [s])) (b := b) (hpp) (R) (R) qS ?_
  exact yW R ag186 R qN R ⟨R, R, R⟩ qD qF
 try simp only [dq] at h22
 have hk : wkK s = 2 := if_neg h22
 refine zq (z8 (O (zg R fo296_0 R ?_)))
 refine zx R ag73 R (CellsN.ofF qM (at_st s)) ?_
 refine yq R bu186 (zF R R R <| yG R R j1 (Nat.le_of_ble_eq_true R) qR <| zQ (out := []) R) ?_
 refine zz ag186 R R qL qO qU qW ?_
 refine V R R (I (zo ?_))
 rw [show wtC s = .int .i64 2 :: ptC s.1 from by unfold wtC; rw [hk]]
 refine T.wvF (lw := (l ++ [s])) (b := b) (hpp) (R) (R) qS ?_
 exact yW R ag186 R qN R ⟨R, R, R⟩ qD qF
theorem wnextB_spec {w : Nat} {lw : List St} {b : List UInt8} (hl : lw.length ≤ 1000000) : Spec Tryz.prog 167 [.pointer (some ⟨w, 0, none⟩)] [] [wvA w lw b] (fun v D' M' => ∃ (cs : List Value) (bb : Bool), v = .tuple #[.agg cs.toArray, .bool bb] ∧ cs.length = 34 ∧ (∀ u ∈ cs, u.oneCell' = true) ∧ ((lw = [] ∧ bb = false) ∨ ∃ l s, lw = l ++ [s] ∧ cs = wtC s ∧ bb = true) ∧ D' = [] ∧ M' = [wvA w lw b]) := by
 rcases List.eq_nil_or_concat lw with rfl | ⟨l, s, rfl⟩
 ·exact wnext0_spec.imp fun v D' M' ⟨h1, h2, h3⟩ => ⟨_, _, h1, by rw [List.length_cons, ptC_len], one_ip, .inl ⟨R, R⟩, h2, h3⟩
 rw [List.concat_eq_append] at hl ⊢
 rw [List.length_append] at hl
 exact (wnext_spec jO).imp fun v D' M' ⟨h1, h2, h3⟩ => ⟨_, _, h1, by rw [List.length_cons, ptC_len], one_ip, .inr ⟨l, s, R, R, R⟩, h2, h3⟩
theorem wtext_spec {w : Nat} {b : List UInt8} (h0 : b ≠ []) (hb : b.length ≤ 140737488355328) : Spec Tryz.prog 168 [.pointer (some ⟨w, 0, none⟩)] [] [wvA w [] b] (fun v D' M' => v = .tuple #[S b, .int .i64 0] ∧ D' = [] ∧ M' = []) := by
 refine zv (n := 11) Tryz.func168 ?_
 intro σ D M
 refine O (V R R (V R R (I (ze (O (E R R (zH R (ev1 R) qD qS (wover_spec (lw := []) (b := b)) jF ?_)))))))
 refine x7 R R (I (zR R R ?_))
 refine zq (z8 (O (E R R (zJ R R ?_))))
 refine zg R fo299_1 R ?_
 refine zp R (ev1 R) qD qS (wst_spec (lw := []) h0 hb) ?_
 rintro _ _ _ ⟨rfl, rfl, rfl⟩
 refine zm qA qA ?_
 exact V R R (V R R (I (zo (x8 R R R ⟨R, R, R⟩ qD qF))))
end Cv
set_option maxRecDepth 10000
namespace Cv
open Go Go.Proofs

theorem wnode_spec {w : Nat} {l : List St} {s : St} {b t : List UInt8} (hl : l.length ≤ 1000000) (ht : t.length ≤ 1000000000) (hs : -1 ≤ s.2 ∧ s.2 ≤ 8) : Spec Tryz.prog 208 [.pointer (some ⟨w, 0, none⟩), .agg (stC s).toArray, S t] [] [wvA w (l ++ [s]) b] (fun v D' M' => v = .int .i64 (nodE s (nodR t)) ∧ D' = [] ∧ M' = [wvA w (if nodE s (nodR t) = 0 then l ++ kidW (nodR t) else (l ++ [s])) b]) := by
 refine zv (n := 76) Tryz.func208 ?_
 intro σ D M
 have hs3 := stC_len s
 have hs33 := ptC_len s.1
 have hs32 := s.1.1.2
 refine O (y6 R R R (fun b4 => ?_))
 refine V R R (zu (zO (A := cl b4 296 (stC s)) qP ?_))
 refine z8 (O (E R R (zp R (ev1 R) qD qS (nparse_spec (s := t) jO) ?_)))
 rintro _ _ _ ⟨ka, kn, kc, rfl, hkn, rfl, rfl⟩
 refine zm qA qA ?_
 have hz8 := nodR_len t
 have hzi := nodR_in t
 obtain ⟨z, hz⟩ : ∃ z, z = nodR t := ⟨_, rfl⟩
 rw [← hz] at hkn hz8 hzi ⊢
 refine E R R (zr R R R (zr R R R (zC R ze266 (fun b7 => ?_))))
 refine zz ag266 R R qL qO qU qW ?_
 refine V R R (zu (zO (A := cl b7 266 [.int .i64 (z.1 : Int), .slice ka kn kc]) qP ?_))
 refine z8 (ze (zD (O (E R R (zZ R R R (V R R (I (zA R (fun h15 => ?_) (fun h15 => ?_)))))))))
 ·try simp only [dq] at h15
  have hne : nodE s z = z.2.2 := if_pos h15
  refine O (E R R (V R R (I (zo (yv (zL ?_))))))
  rw [if_neg (show nodE s z ≠ 0 by rw [hne]; exact h15), hne]
  exact zy R R ⟨R, R, R⟩ qD qF
 try simp only [dq] at h15
 refine ze (ze (yx (fun K' D' M' => ∃ (w1 : Bool), (w1 = true ↔ (0 < s.2 ∧ (z.1 : Int) ≠ s.2)) ∧ K' = [(19, .bool w1)] ∧ D' = [] ∧ M' = []) (M0 := []) (.c 0 R <| .c 4 R <| .c 7 R <| zd _) qS ?_ ?_))
 ·refine zt (zg R fo296_1 R ?_)
  refine zf R sc3 R qC ?_
  refine yy R R R (E R R (yT (t := 23) R (fun h1 => ?_) (fun h1 => ?_)))
  ·try simp only [dq] at h1
   refine zj 23 R R R (zg R fo266_0 R ?_)
   refine zj 23 R R R (zf R sc3 R qC ?_)
   refine zj 23 R R R (zg R fo296_1 R ?_)
   refine zj 23 R R R (zf R sc3 R qC ?_)
   exact zj 23 R R R (zZ R R R (ym R R R (V R R (I (zK ⟨_, (by rw [decide_eq_true_eq]; exact ⟨fun q => ⟨by omega, q⟩, fun q => q.2⟩), R, R, R⟩ (.c 19 R <| zd _) (.c 0 R <| .c 4 R <| .c 7 R <| zd _) qD qD qF)))))
  try simp only [dq] at h1
  exact zw 23 false R R R R R jD (zw 23 false R R R R R jD (zw 23 false R R R R R jD (zw 23 false R R R R R jD (zw 23 false R R R R R jD (yg R R R (V R R (I (zK ⟨_, ⟨fun q => (by cases q), fun q => absurd q.1 jO⟩, R, R, R⟩ (.c 19 R <| zd _) (.c 0 R <| .c 4 R <| .c 7 R <| zd _) qD qD qF))))))))
 rintro _ _ _ ⟨w1, hw1, rfl, rfl, rfl⟩
 refine zM qA qA qA ?_
 refine z8 (yx (fun K' D' M' => ∃ (w2 : Bool), (w2 = true ↔ ((0 < s.2 ∧ (z.1 : Int) ≠ s.2) ∨ sizeP z.2.1 ≠ s.1.2)) ∧ K' = [(19, .bool w2)] ∧ D' = [] ∧ M' = []) (M0 := []) (.c 0 R <| .c 7 R <| zd _) qS ?_ ?_)
 ·refine zA R (fun h19 => ?_) (fun h19 => ?_)
  ·try simp only [dq] at h19
   exact zq (z8 (zK ⟨w1, ⟨fun _ => .inl (hw1.1 h19), fun _ => h19⟩, R, R, R⟩ (.c 19 R <| zd _) (.c 0 R <| .c 7 R <| zd _) qD qD qF))
  try simp only [dq] at h19
  refine xg qk qk (zx R ag266 R qN ?_)
  refine zH R (ev1 R) qD qS (nsize_spec (k := z.1) (ps := z.2.1) jO (fun p hp => ⟨(hzi.2 p hp).1, Int.le_trans (hzi.2 p hp).2 jD⟩)) jF ?_
  refine zg R fo296_0 R ?_
  refine zg R fo73_1 R ?_
  refine zf R sc3 R qC ?_
  exact zZ R R R (V R R (yY (z8 (zK ⟨_, (by rw [decide_eq_true_eq]; exact ⟨.inr, fun q => q.elim (fun r => by have := hw1.2 r; rw [h19] at this; cases this) id⟩), R, R, R⟩ (.c 19 R <| zd _) (.c 0 R <| .c 7 R <| zd _) qD qD qF))))
 rintro _ _ _ ⟨w2, hw2, rfl, rfl, rfl⟩
 refine zM qA qA qA ?_
 refine z8 (zA R (fun h19 => ?_) (fun h19 => ?_))
 ·try simp only [dq] at h19
  refine O (V R R (I (zo (yv (zL ?_)))))
  have hne : nodE s z = 2 := by unfold nodE; rw [if_neg h15, if_pos (hw2.1 h19)]
  rw [hne, if_neg jD]
  exact zy R R ⟨R, R, R⟩ qD qF
 try simp only [dq] at h19
 refine zq (zS (z8 (ze (T.wvU qP (fun la lc pp ba bc g hpp => ?_)))))
 refine xo (rows := (l ++ [s]).map stC) qM (fun hol hoc => ?_)
 have hln : (l ++ [s]).length = l.length + 1 := by rw [List.length_append, List.length_singleton]
 refine y7 (clsL [1, 1, 0, 1, 0, 1, 0, 1, 0, 1, 1, 0, 0, 1, 2]) qk ?_
 refine z9 0 R R (E R R (z7 (z9 1 R R (E R R (z7 (z9 5 R R (E R R (z7 (yE (i := 2) R R qk qk qk qk R qD qF R ?_)))))))))
 refine z9 3 R R (zg R fo299_0 R ?_)
 refine z7 (zY (i := 4) R R R R qk qk qk qk R qD qF ?_)
 refine zf R sc297 R qC ?_
 refine z7 (yE (i := 6) R R qk qk qk qk R qD qF R ?_)
 refine z9 7 R R (zg R fo299_0 R ?_)
 refine z7 (zY (i := 8) R R R R qk qk qk qk R qD qF ?_)
 refine zf R sc297 R qC ?_
 refine z7 (z9 9 R R (yb R xO R (z7 (z9 10 R R (yt R R R jO ?_)))))
 refine zE (t := 46) (u := .int .i64 ((l.length : Nat) : Int)) R (congrArg (Value.int .i64) jO) ?_
 refine z7 (zY (i := 11) R R R R qk qk qk qk R qD qF ?_)
 refine L.sliceTo R xO sz296 R (Bd.at (x := l.length) R jR) qI ?_
 refine z7 (yE (i := 12) R R qk qk qk qk R qD qF R ?_)
 refine z9 13 R R (zg R fo299_0 R ?_)
 refine z7 (zi 14 R (yj sc297 R R R qU qE ?_))
 refine zh R qD ?_
 refine zN qk ?_
 refine T.ownTo (h := l.length) qP jO ?_
 refine yp _ (l.map stC) qP (by rw [List.map_append, List.take_left' (by rw [List.length_map])]) ?_
 refine z8 (ze (O (zg R fo266_1 R ?_)))
 refine zf R sc203 R qC ?_
 refine yb R xm R (yt R R R jO ?_)
 refine V R R (I (zD (yp _ ((l ++ (kidW z).take 0).map stC) qP (by rw [List.take_zero, List.append_nil]) ?_)))
 refine y8 (fun K' D' M' μ => ∃ (i : Int) (j ln2 lc2 : Nat) (la2 : Option Addr), ((-1 ≤ i ∧ i + 1 + j = kn) ∧ ln2 = l.length + j) ∧ K' = [(9, .int .i64 i)] ∧ D' = [] ∧ M' = [cl w 299 [.slice la2 ln2 lc2, .pointer (pp), .slice ba b.length bc, .int .i64 g], own 34 296 la2 ln2 lc2 ((l ++ ((kidW z).take j)).map stC), own 1 5 ba b.length bc ((b).map yr)] ∧ μ = (i + 1).toNat) (.c 0 R <| .c 7 R <| zd _) (⟨(kn : Int) - 1, 0, l.length, lc, la, ⟨⟨by omega, by omega⟩, R⟩, R, R, R, R⟩) (.c 9 R <| zd _) qD qS ?_
 rintro K1 D1 M1 m1 ⟨i, j, ln2, lc2, la2, ⟨⟨hi, hij⟩, hl2⟩, rfl, rfl, rfl, rfl⟩
 refine zM qA qA qA ?_
 refine ze (O (E R R (L.geI R R R (I (zA R (fun h55 => ?_) (fun h55 => ?_))))))
 ·try simp only [dq] at h55
  refine zq (z8 (ze (zD ?_)))
  obtain ⟨m, rfl⟩ : ∃ m : Nat, i = (m : Int) := ⟨i.toNat, by omega⟩
  have hgi : z.2.1[m]? = some (gd z.2.1 m) := y9 jO
  obtain ⟨p, hp_⟩ : ∃ y, y = gd z.2.1 m := ⟨_, rfl⟩
  rw [← hp_] at hgi
  clear hp_
  have hgr : (z.2.1.map ptC)[m]? = some (ptC p) := yJ hgi
  have hq3 := ptC_len p
  have hq2 := p.1.2
  refine xo (rows := (l ++ ((kidW z).take j)).map stC) qM (fun hol2 hoc2 => ?_)
  have hkl := @kid_len z
  refine T.rslAddr (a := ka) (rows := z.2.1.map ptC) qM (fun e => by rw [e] at hgr; simp at hgr) (fun bo oo ha => ?_)
  subst ha
  refine y7 (clsL [1, 1, 0, 1, 0, 1, 0, 1, 0, 0, 1, 0, 1, 1, 0, 2, 2, 1, 2]) qk ?_
  refine z9 0 R R (E R R (z7 (z9 1 R R (E R R (z7 (z9 5 R R (zg R fo266_1 R ?_)))))))
  refine z7 (z9 7 R R (E R R (z7 (z9 10 R R (zg R fo266_0 R ?_)))))
  refine z7 (yE (i := 2) R R qk qk qk qk R qD qF R ?_)
  refine z9 3 R R (zg R fo299_0 R ?_)
  refine z7 (zY (i := 4) R R R R qk qk qk qk R qD qF ?_)
  refine zf R sc297 R qC ?_
  refine z7 (zY (i := 6) R R R R qk qk qk qk R qD qF ?_)
  refine zf R sc203 R qC ?_
  refine z7 (zY (i := 8) R R R R qk qk qk qk R qD qF ?_)
  refine L.idxR (i := m) R xm sz73 R R qM jR qI qG ?_
  refine z7 (zY (i := 9) R R R R qk qk qk qk R qD qF ?_)
  refine zx R ag73 R (CellsN.ofRsl qM hgr hq3) ?_
  refine z7 (zY (i := 11) R R R R qk qk qk qk R qD qF ?_)
  refine zf R sc3 R qC ?_
  refine z7 (z9 12 R R (yt R R R jO ?_))
  refine z7 (z9 13 R R (yq R bu296 (yG R R j1 (Nat.le_of_ble_eq_true R) qR <| zF R R R <| zQ (out := []) R) ?_))
  refine zE (t := 71) (u := .agg (stC (p, (z.1 : Int) - 1)).toArray) R (by simp) ?_
  refine z7 (zi 14 R (yl R bs297 jD (yG R R j1 (Nat.le_of_ble_eq_true R) qR <| zQ (out := []) R) (fun b72 => ?_)))
  refine yH R qD qF ?_
  refine zi 15 R (x6 R xO el296 R R qP qM (by rw [List.append_nil]; exact stC_len (p, (z.1 : Int) - 1)) (fun u hu => by rw [List.append_nil] at hu; exact one_st (s := (p, (z.1 : Int) - 1)) u hu) qI qI (fun a73 c73 => ?_))
  refine zh R qD ?_
  refine zi 16 R (zJ R R ?_)
  refine zh R qD ?_
  refine z9 17 R R (zg R fo299_0 R ?_)
  refine z7 (zi 18 R (yj sc297 R R R qU qE ?_))
  refine zh R qD ?_
  refine zN qk ?_
  refine zS (z8 (zt (E R R (yt R R R jO ?_))))
  refine V R R (I (yp _ ((l ++ (kidW z).take (j + 1)).map stC) qP (by rw [kid_at (p := p) (m := m) jO hgi, ← List.append_assoc, List.map_append]; simp) ?_))
  exact zV ⟨(m : Int) - 1, j + 1, ln2 + 1, _, _, ⟨⟨by omega, by omega⟩, by omega⟩, R, R, R, R⟩ jO (.c 9 R <| zd _) (.c 0 R <| .c 7 R <| zd _) qD qD qF
 try simp only [dq] at h55
 refine y4 (zG (zG (y5 (z8 (O (V R R (I (zo ?_))))))))
 have hne : nodE s z = 0 := by
  unfold nodE
  rw [if_neg h15, if_neg (fun q => by have := hw2.2 q; rw [h19] at this; cases this)]
 rw [hne, if_pos rfl]
 obtain rfl : i = -1 := by omega
 have hkl := @kid_len z
 refine yp _ ((l ++ kidW z).map stC) qP (by rw [List.take_of_length_le jO]) ?_
 refine T.wvF (lw := l ++ kidW z) (b := b) (ln := ln2) (hpp) (by rw [List.length_append, hkl]; omega) (R) qS ?_
 exact zy R R ⟨R, R, R⟩ qD qF
end Cv
set_option maxRecDepth 10000
namespace Cv
open Go Go.Proofs

theorem wgive_spec {w : Nat} {l : List St} {s : St} {b t : List UInt8} (hl : l.length ≤ 1000000) (ht : t.length ≤ 1000000000) (hb : b.length + t.length ≤ 140737488355328) (hs : -1 ≤ s.2 ∧ s.2 ≤ 8) : Spec Tryz.prog 169 [.pointer (some ⟨w, 0, none⟩), S t] [] [wvA w (l ++ [s]) b] (fun v D' M' => v = .int .i64 (givE s t) ∧ D' = [] ∧ M' = [wvA w (if givE s t = 0 then l ++ givL s t else (l ++ [s])) (if givE s t = 0 then b ++ givB s t else b)]) := by
 refine zv (n := 86) Tryz.func169 ?_
 intro σ D M
 have hs3 := stC_len s
 have hs33 := ptC_len s.1
 have hs32 := s.1.1.2
 have ho7 := oidF_len (wkK s) t
 have hw3 : (wtC s).length = 34 := by rw [List.length_cons, ptC_len]
 refine O (V R R (I (O (E R R (zH R (ev1 R) qD qS (wnext_spec hl) jF ?_)))))
 refine E R R (zr R R R (zr R R R (zC R ze186 (fun b5 => ?_))))
 refine zz ag186 R R qL qO qU qW ?_
 refine V R R (zu (zO (A := cl b5 186 (wtC s)) qP ?_))
 refine z8 (ze (O (E R R (x7 R R (I (zR R R ?_))))))
 refine zq (z8 (ze (ze (y7 (clsL [1, 1, 1, 2, 2, 1, 1, 1, 1]) qk ?_))))
 refine z9 0 R R (zg R fo186_0 R ?_)
 refine z7 (z9 1 R R (zf R sc3 R qC ?_))
 refine z7 (z9 2 R R (E R R (z7 (z9 5 R R (zg R fo186_1 R ?_)))))
 refine z7 (z9 6 R R (zg R fo73_0 R ?_))
 refine z7 (z9 7 R R (zx R zI R qN ?_))
 refine z7 (zi 3 R (yl R bs27 jD (zF R R R <| zQ (out := []) R) (fun b19 => ?_)))
 refine yR (len := 1) qP (rows := ([t] : List (List UInt8)).map ys) (sz := 1) (by rfl) R (by simp) ?_
 refine yF qP ?_
 refine zh R qD ?_
 refine zi 4 R (zH R (ev2 R R) qD qS (oidof_spec (kind := wkK s) (ls := [t]) (by simp; omega) (by simp)) jF ?_)
 refine zh R qD ?_
 refine z9 8 R R (L.neqArrI qk R yf zX sc5 R R qL qL ?_)
 refine z7 (zN qk ?_)
 refine z8 (zA R (fun h24 => ?_) (fun h24 => ?_))
 ·try simp only [dq] at h24
  have hne : oidF (wkK s) t ≠ s.1.1.1 := by simpa using h24
  refine O (V R R (I (zo (zL ?_))))
  have hgE : givE s t = 3 := by unfold givE; rw [if_pos hne]
  rw [hgE]
  rw [if_neg jD, if_neg jD]
  exact zy R R ⟨R, R, R⟩ qD qF
 try simp only [dq] at h24
 have hne : ¬ oidF (wkK s) t ≠ s.1.1.1 := by simpa using h24
 refine zq (z8 (ze (T.wvU qP (fun la lc pp ba bc g hpp => ?_))))
 refine xo (rows := (l ++ [s]).map stC) qM (fun hol hoc => ?_)
 refine T.ownNe (a := la) (sz := 34) qM (by rw [List.length_append, List.length_singleton]; omega) (fun bo oo ha => ?_)
 subst ha
 have hln : (l ++ [s]).length = l.length + 1 := by rw [List.length_append, List.length_singleton]
 have hgr : ((l ++ [s]).map stC)[l.length]? = some (stC s) := by rw [List.getElem?_map, List.getElem?_append_right (Nat.le_refl _), Nat.sub_self]; rfl
 refine y7 (clsL [1, 0, 1, 0, 1, 0, 1, 0, 1, 1, 1, 0, 0, 2]) qk ?_
 refine z9 0 R R (E R R (z7 (z9 4 R R (E R R (z7 (yE (i := 1) R R qk qk qk qk R qD qF R ?_))))))
 refine z9 2 R R (zg R fo299_0 R ?_)
 refine z7 (zY (i := 3) R R R R qk qk qk qk R qD qF ?_)
 refine zf R sc297 R qC ?_
 refine z7 (yE (i := 5) R R qk qk qk qk R qD qF R ?_)
 refine z9 6 R R (zg R fo299_0 R ?_)
 refine z7 (zY (i := 7) R R R R qk qk qk qk R qD qF ?_)
 refine zf R sc297 R qC ?_
 refine z7 (z9 8 R R (yb R xO R (z7 (z9 9 R R (yt R R R jO ?_)))))
 refine zE (t := 34) (u := .int .i64 ((l.length : Nat) : Int)) R (congrArg (Value.int .i64) jO) ?_
 refine z7 (z9 10 R R (yN (i := l.length) R xO sz296 R R jR qI ?_))
 refine z7 (zY (i := 11) R R R R qk qk qk qk R qD qF ?_)
 refine zx R ag296 R (xJ qM hgr hs3) ?_
 refine z7 (zi 12 R (zC R ze296 (fun b7 => ?_)))
 refine yH R qD qF ?_
 refine zi 13 R (zz ag296 R R qL qO qU qW ?_)
 refine zh R qD ?_
 refine zN qk ?_
 refine zO (A := cl b7 296 (stC s)) qP ?_
 refine T.wvF (lw := (l ++ [s])) (b := b) (hpp) (R) (R) qS ?_
 refine z8 (ze (O (zg R fo186_0 R ?_)))
 refine zf R sc3 R qC ?_
 refine yi R R R (I (zA R (fun h39 => ?_) (fun h39 => ?_)))
 ·try simp only [dq] at h39
  have hs0 : s.2 ≠ 0 := fun e => by unfold wkK at h39; rw [if_pos e] at h39; exact absurd h39 jD
  refine ze (O (E R R (zx R ag296 R qN ?_)))
  refine E R R (zp R (ev3 R R R) qD qS (wnode_spec hl ht hs) ?_)
  rintro _ _ _ ⟨rfl, rfl, rfl⟩
  refine zm qA qA ?_
  refine V R R (I (O (E R R (zZ R R R (I (zA R (fun h45 => ?_) (fun h45 => ?_)))))))
  ·try simp only [dq] at h45
   rw [if_neg h45]
   refine O (E R R (V R R (I (zo (zL (zL ?_))))))
   have hgE : givE s t = nodE s (nodR t) := by unfold givE; rw [if_neg hne, if_neg hs0]
   rw [hgE]
   rw [if_neg h45, if_neg h45]
   exact zy R R ⟨R, R, R⟩ qD qF
  try simp only [dq] at h45
  rw [if_pos (Decidable.not_not.1 h45)]
  refine zq (z8 (ze (T.wvU qP (fun la lc pp ba bc g hpp => ?_))))
  refine zt (E R R (zJ R R ?_))
  refine zg R fo299_2 R ?_
  refine zf R sc3 R qC ?_
  refine L.addI R R R ?_
  refine zJ R R ?_
  refine zg R fo299_2 R ?_
  refine yj sc3 R R R qU qE ?_
  refine zu (T.wvF (lw := (l ++ kidW (nodR t))) (b := b) (hpp) (R) (R) qS ?_)
  refine z8 (O (V R R (I (zo (zL ?_)))))
  have hgE : givE s t = 0 := by unfold givE; rw [if_neg hne, if_neg hs0]; exact Decidable.not_not.1 h45
  rw [hgE]
  rw [if_pos rfl, if_pos rfl, show givL s t = kidW (nodR t) from if_neg hs0, show givB s t = [] from if_neg hs0, List.append_nil]
  exact zy R R ⟨R, R, R⟩ qD qF
 try simp only [dq] at h39
 have hs0 : s.2 = 0 := Decidable.byContradiction fun e => h39 (if_neg e)
 refine zq (z8 (ze (O (E R R (yL R ye R (zg R fo186_1 R ?_))))))
 refine zg R fo73_1 R ?_
 refine zf R sc3 R qC ?_
 refine zZ R R R (I (zA R (fun h59 => ?_) (fun h59 => ?_)))
 ·try simp only [dq] at h59
  refine O (V R R (I (zo (zL ?_))))
  have hgE : givE s t = 2 := by unfold givE; rw [if_neg hne, if_pos hs0, if_pos h59]
  rw [hgE]
  rw [if_neg jD, if_neg jD]
  exact zy R R ⟨R, R, R⟩ qD qF
 try simp only [dq] at h59
 refine zq (z8 (ze (T.wvU qP (fun la lc pp ba bc g hpp => ?_))))
 refine xo (rows := (l ++ [s]).map stC) qM (fun hol hoc => ?_)
 refine T.ownNe (a := la) (sz := 34) qM (by rw [List.length_append, List.length_singleton]; omega) (fun bo oo ha => ?_)
 subst ha
 have hln : (l ++ [s]).length = l.length + 1 := by rw [List.length_append, List.length_singleton]
 have hgr : ((l ++ [s]).map stC)[l.length]? = some (stC s) := by rw [List.getElem?_map, List.getElem?_append_right (Nat.le_refl _), Nat.sub_self]; rfl
 refine y7 (clsL [1, 1, 0, 1, 0, 1, 0, 1, 0, 1, 1, 0, 0, 1, 2]) qk ?_
 refine z9 0 R R (E R R (z7 (z9 1 R R (E R R (z7 (z9 5 R R (E R R (z7 (yE (i := 2) R R qk qk qk qk R qD qF R ?_)))))))))
 refine z9 3 R R (zg R fo299_0 R ?_)
 refine z7 (zY (i := 4) R R R R qk qk qk qk R qD qF ?_)
 refine zf R sc297 R qC ?_
 refine z7 (yE (i := 6) R R qk qk qk qk R qD qF R ?_)
 refine z9 7 R R (zg R fo299_0 R ?_)
 refine z7 (zY (i := 8) R R R R qk qk qk qk R qD qF ?_)
 refine zf R sc297 R qC ?_
 refine z7 (z9 9 R R (yb R xO R (z7 (z9 10 R R (yt R R R jO ?_)))))
 refine zE (t := 70) (u := .int .i64 ((l.length : Nat) : Int)) R (congrArg (Value.int .i64) jO) ?_
 refine z7 (zY (i := 11) R R R R qk qk qk qk R qD qF ?_)
 refine L.sliceTo R xO sz296 R (Bd.at (x := l.length) R jR) qI ?_
 refine z7 (yE (i := 12) R R qk qk qk qk R qD qF R ?_)
 refine z9 13 R R (zg R fo299_0 R ?_)
 refine z7 (zi 14 R (yj sc297 R R R qU qE ?_))
 refine zh R qD ?_
 refine zN qk ?_
 refine T.ownTo (h := l.length) qP jO ?_
 refine yp _ (l.map stC) qP (by rw [List.map_append, List.take_left' (by rw [List.length_map])]) ?_
 refine T.wvF (lw := l) (b := b) (hpp) (R) (R) qS ?_
 refine z8 (O (E R R (zJ R R ?_)))
 refine zg R fo299_1 R ?_
 refine E R R (zp R (ev2 R R) qD qS (wws_spec (lw := l) (b := b) (s := t) hb) ?_)
 rintro _ _ _ ⟨rfl, rfl, rfl⟩
 refine zm qA qA ?_
 refine I (ze (T.wvU qP (fun la lc pp ba bc g hpp => ?_)))
 refine zt (E R R (zJ R R ?_))
 refine zg R fo299_2 R ?_
 refine zf R sc3 R qC ?_
 refine L.addI R R R ?_
 refine zJ R R ?_
 refine zg R fo299_2 R ?_
 refine yj sc3 R R R qU qE ?_
 refine zu (T.wvF (lw := l) (b := (b ++ t)) (hpp) (R) (R) qS ?_)
 refine z8 (O (V R R (I (zo ?_))))
 have hgE : givE s t = 0 := by unfold givE; rw [if_neg hne, if_pos hs0, if_neg h59]
 rw [hgE]
 rw [if_pos rfl, if_pos rfl, show givL s t = [] from if_pos hs0, show givB s t = t from if_pos hs0, List.append_nil]
 exact zy R R ⟨R, R, R⟩ qD qF
end Cv
set_option maxRecDepth 10000
namespace Cv
open Go Go.Proofs

theorem tget_spec {bs br bd bb bq tn : Nat} {k : Dk} {rs : List Rc} {sk : Bool} {s : St}  : Spec Tryz.prog 105 [.agg (wtC s).toArray, .pointer (some ⟨bq, 0, none⟩)] [cl bq 24 [.pointer (some ⟨bs, 0, none⟩)], cl k.bd 51 [.pointer (some ⟨k.bf, 0, none⟩), .slice (some ⟨k.sb, 0, none⟩) k.n k.n, .map (some k.bl)]] [cl bs 66 [.pointer (some ⟨br, 0, none⟩), .pointer (some ⟨bd, 0, none⟩), .bool sk], dpA bd bb k none tn rs] (fun v D' M' => v = .tuple #[S (getO (osR rs) s.1.1).2.2, .int .i64 (getE (osR rs) s.1.1)] ∧ D' = [] ∧ M' = [cl bs 66 [.pointer (some ⟨br, 0, none⟩), .pointer (some ⟨bd, 0, none⟩), .bool sk], dpA bd bb k none tn rs]) := by
 refine zv (n := 18) Tryz.func105 ?_
 intro σ D M
 have hs32 := s.1.1.2
 have hs33 := ptC_len s.1
 have hw3 : (wtC s).length = 34 := by rw [List.length_cons, ptC_len]
 have hob := obC_len (getO (osR rs) s.1.1)
 have hoi := (getO (osR rs) s.1.1).2.1.2
 refine O (y6 R R R (fun b2 => ?_))
 refine V R R (V R R (zu (zO (A := cl b2 186 (wtC s)) qP ?_)))
 refine z8 (O (zf R sc24 R qC ?_))
 refine zg R fo186_1 R ?_
 refine zg R fo73_0 R ?_
 refine zx R zI R qN ?_
 refine zp R (ev2 R R) qD qS (sget_spec (x := s.1.1)) ?_
 rintro _ _ _ ⟨rfl, rfl, rfl⟩
 refine zm qA qA ?_
 refine E R R (zr R R R (zr R R R (zC R ze88 (fun b5 => ?_))))
 refine zz ag88 R R qL qO qU qW ?_
 refine V R R (zu (zO (A := cl b5 88 (obC (getO (osR rs) s.1.1))) qP ?_))
 refine z8 (O (zg R fo88_2 R ?_))
 refine zf R sc9 R qC ?_
 exact E R R (V R R (V R R (I (zo (x8 R R R ⟨R, R, R⟩ qD qF)))))
theorem wall_spec {bs br bd bb bq tn : Nat} {k : Dk} {rs : List Rc} {sk : Bool} {os : List Ob} {p : Pt} (hp : 1 ≤ p.2 ∧ p.2 ≤ 32768) (hsh : Shf os) (hos : osR rs = os) : Spec Tryz.prog 104 [.agg (ptC p).toArray, fnV 105 [.pointer (some ⟨bq, 0, none⟩)]] [cl bq 24 [.pointer (some ⟨bs, 0, none⟩)], cl k.bd 51 [.pointer (some ⟨k.bf, 0, none⟩), .slice (some ⟨k.sb, 0, none⟩) k.n k.n, .map (some k.bl)]] [cl bs 66 [.pointer (some ⟨br, 0, none⟩), .pointer (some ⟨bd, 0, none⟩), .bool sk], dpA bd bb k none tn rs] (fun v D' M' => ∃ (r : List UInt8 × Int), v = .tuple #[S r.1, .int .i64 r.2] ∧ (WvR os [(p, -1)] [] r) ∧ D' = [] ∧ M' = [cl bs 66 [.pointer (some ⟨br, 0, none⟩), .pointer (some ⟨bd, 0, none⟩), .bool sk], dpA bd bb k none tn rs]) := by
 refine zv (n := 40) Tryz.func104 ?_
 intro σ D M
 subst hos
 have hp3 := ptC_len p
 have hp2 := p.1.2
 refine O (y6 R R R (fun b2 => ?_))
 refine V R R (V R R (zu (zO (A := cl b2 73 (ptC p)) qP ?_)))
 refine z8 (O (zx R ag73 R qN ?_))
 refine zp R (ev1 R) qD qS (wnew_spec) ?_
 rintro _ _ _ ⟨w, rfl, rfl, rfl⟩
 refine zm qA qA ?_
 refine V R R (I (zD (y8 (fun K' D' M' μ => ∃ (lw : List St) (out : List UInt8), (WvI lw out p.2 ∧ ∀ r, WvR (osR rs) lw out r → WvR (osR rs) [(p, -1)] [] r) ∧ K' = [] ∧ D' = [] ∧ M' = [wvA w lw out] ∧ μ = wgS lw) (.c 1 R <| .c 6 R <| zd _) (⟨_, _, ⟨wv_start hp.1, fun r h => h⟩, R, R, R, R⟩) (zd _) qD qS ?_)))
 rintro K1 D1 M1 m1 ⟨lw, out, ⟨hI, hR⟩, rfl, rfl, rfl, rfl⟩
 refine zM qA qA qA ?_
 refine zD (O (E R R (zp R (ev1 R) qD qS (wnextB_spec (lw := lw) (b := out) (by have := (WvI.len hI).1; omega)) ?_)))
 rintro _ _ _ ⟨cs, bb2, rfl, hcs, hco, hcase, rfl, rfl⟩
 refine zm qA qA ?_
 refine E R R (zr R R R (zr R R R (zC R ze186 (fun b7 => ?_))))
 refine zz ag186 R R qL qO qU qW ?_
 refine V R R (zu (zO (A := cl b7 186 cs) qP ?_))
 refine z8 (ze (O (E R R (x7 R R (I (zA R (fun h20 => ?_) (fun h20 => ?_)))))))
 ·try simp only [dq] at h20
  obtain ⟨rfl, -⟩ : lw = [] ∧ bb2 = false := hcase.resolve_right (fun ⟨_, _, _, _, e⟩ => by rw [h20] at e; cases e)
  refine O (E R R (zp R (ev1 R) qD qS (wtext_spec (b := out) (fun e => by subst e; have := hI.su; simp [szS] at this; omega) (by have := (WvI.len hI).2; omega)) ?_))
  rintro _ _ _ ⟨rfl, rfl, rfl⟩
  refine zm qA qA ?_
  exact zr R R R (zr R R R (V R R (V R R (I (zo (zL (yv (zL (yv (x8 R R R ⟨(out, 0), R, hR _ (.done out), R, R⟩ qD qF))))))))))
 try simp only [dq] at h20
 obtain ⟨l, s, rfl, rfl, -⟩ := hcase.resolve_left (fun ⟨_, e⟩ => by rw [h20] at e; cases e)
 have hw3 := wtC_len s
 refine zq (z8 (O (E R R (zx R ag186 R (CellsN.ofF qM (AtN.all (wtC_len s))) ?_))))
 refine L.callV R R (ev1 R) qD qS (tget_spec (s := s)) ?_
 rintro _ _ _ ⟨rfl, rfl, rfl⟩
 refine zm qA qA ?_
 obtain ⟨t, ht_⟩ : ∃ t, t = (getO (osR rs) s.1.1).2.2 := ⟨_, rfl⟩
 obtain ⟨e, he_⟩ : ∃ e, e = getE (osR rs) s.1.1 := ⟨_, rfl⟩
 have hgb := hsh.get s.1.1
 rw [← ht_] at hgb ⊢
 rw [← he_]
 refine E R R (zr R R R (zr R R R (V R R (V R R (I (ze (O (E R R (zZ R R R (I (zA R (fun h32 => ?_) (fun h32 => ?_))))))))))))
 ·try simp only [dq] at h32
  exact O (E R R (V R R (V R R (I (zo (zL (yv (zL (yv (x8 R R R ⟨([], e), R, by rw [he_]; exact hR _ (.miss (by rw [← he_]; exact h32)), R, R⟩ qD qF))))))))))
 try simp only [dq] at h32
 refine zq (z8 (ze ?_))
 have hlt := WvI.len hI
 have hlv := hI.lv s (by simp)
 have hll : l.length + 1 ≤ 32768 := by have := hlt.1; rw [List.length_append, List.length_singleton] at this; omega
 refine zt (E R R (E R R (zp R (ev2 R R) qD qS (wgive_spec (l := l) (s := s) (b := out) (t := t) jO jO jO hlv) ?_)))
 rintro _ _ _ ⟨rfl, rfl, rfl⟩
 refine zm qA qA ?_
 obtain ⟨g, hg_⟩ : ∃ g, g = givE s t := ⟨_, rfl⟩
 rw [← hg_]
 refine V R R (I (O (E R R (zZ R R R (I (zA R (fun h38 => ?_) (fun h38 => ?_)))))))
 ·try simp only [dq] at h38
  rw [if_neg h38, if_neg h38]
  exact O (E R R (V R R (V R R (I (zo (yv (zL (yv (x8 R R R ⟨([], g), R, by rw [hg_, ht_]; exact hR _ (.bad (by rw [← he_]; exact Decidable.not_not.1 h32) (by rw [← ht_, ← hg_]; exact h38)), R, R⟩ qD qF)))))))))
 try simp only [dq] at h38
 have h38z := Decidable.not_not.1 h38
 rw [if_pos h38z, if_pos h38z]
 obtain ⟨hI2, hlt2⟩ := hI.give (hg_.symm.trans h38z)
 exact zq (zS (z8 (zV ⟨_, _, ⟨hI2, fun r h => hR r (.step (by rw [← he_]; exact Decidable.not_not.1 h32) (by rw [← ht_, ← hg_]; exact h38z) (by rw [← ht_]; exact h))⟩, R, R, R, R⟩ hlt2 (zd _) (.c 1 R <| .c 6 R <| zd _) qD qD qF)))
end Cv
