/-
  The walks: depots.
-/
import Derived.Test.YtncgoodlhmpfcaaGreatEx16
import Derived.Test.YtncgoodlhmpfcaaGreatHl16
set_option linter.all false
set_option maxHeartbeats 400000
set_option maxRecDepth 10000
namespace Cv
open Go Go.Proofs
/-! ## depots: the plain model -/
def rcO (r : Rc) : Option Ob := if r.1 = 1 then (match r.2 with | [] => none | b :: t => some ((b.toNat : Int), oI b.toNat t, t)) else none
def obO (r : Rc) : Ob := (rcO r).getD zOb
def osR (rs : List Rc) : List Ob := rs.filterMap rcO
def obRc (o : Ob) : Rc := (1, UInt8.ofNat o.1.toNat :: o.2.2)
def ObOk (o : Ob) : Prop := 1 ≤ o.1 ∧ o.1 ≤ 3 ∧ o.2.1 = oI o.1 o.2.2 ∧ o.2.2.length ≤ 4095
abbrev AtM := List (ID32 × Int)
def atF : Nat → List Rc → AtM → AtM
  | _, [], m => m
  | p, r :: rs, m => atF (p + cstB r.2.length) rs (match rcO r with | some o => put m o.2.1 (p : Int) | none => m)
abbrev oin (rs : List Rc) (x : ID32) : Prop := x ∈ (osR rs).map (·.2.1)
theorem osR_app {a b : List Rc} : osR (a ++ b) = osR a ++ osR b := List.filterMap_append ..
theorem obRc_o {o : Ob} (h : ObOk o) : rcO (obRc o) = some o := by
  obtain ⟨h1, h2, h3, h4⟩ := h
  obtain ⟨k, x, t⟩ := o
  dsimp only at h1 h2 h3 h4
  unfold rcO obRc
  rw [if_pos rfl]
  have e : ((UInt8.ofNat k.toNat).toNat : Int) = k := by
    have : (UInt8.ofNat k.toNat).toNat = k.toNat := by simp; omega
    rw [this]; omega
  dsimp only
  rw [h3, e]
theorem obRc_ok {o : Ob} (h : ObOk o) : RcOk (obRc o) := ⟨by show 1 ≤ 1; decide, by show 1 ≤ 200; decide, by show (_ :: o.2.2).length ≤ 4096; rw [List.length_cons]; have := h.2.2.2; omega⟩
theorem atF_app : ∀ {a b : List Rc} {p : Nat} {m : AtM}, atF p (a ++ b) m = atF (p + csts a) b (atF p a m)
  | [], b, p, m => rfl
  | r :: a, b, p, m => by rw [List.cons_append, atF, atF_app, atF, csts_cons, Nat.add_assoc]
theorem atF_no {x : ID32} : ∀ {rs : List Rc} {p : Nat} {m : AtM}, ¬ oin rs x → look (atF p rs m) x = look m x
  | [], _, _, _ => rfl
  | r :: rs, p, m, h => by
    rw [atF, atF_no (rs := rs) fun q => h (by unfold oin osR at q ⊢; rw [List.filterMap_cons]; split; exact q; exact List.mem_cons_of_mem _ q)]
    cases e : rcO r with
    | none => rfl
    | some o =>
      dsimp only
      rw [xH, if_neg]
      intro q
      exact h (by unfold oin osR; rw [List.filterMap_cons, e, q]; exact List.mem_cons_self ..)
def UqR (rs : List Rc) : Prop := ((osR rs).map (·.2.1)).Nodup
theorem go_split {x : ID32} {o : Ob} : ∀ {rs : List Rc}, goF (osR rs) x = some o → ∃ r1 r r2, rs = r1 ++ r :: r2 ∧ rcO r = some o
  | [], h => by cases h
  | r :: rs, h => by
    cases e : rcO r with
    | none =>
      rw [osR, List.filterMap_cons, e] at h
      obtain ⟨r1, q, r2, h1, h2⟩ := go_split (rs := rs) h
      exact ⟨r :: r1, q, r2, by rw [h1]; rfl, h2⟩
    | some o2 =>
      rw [osR, List.filterMap_cons, e] at h
      dsimp only [goF] at h
      by_cases c : o2.2.1 = x
      · rw [if_pos c] at h; injection h with h; subst h
        exact ⟨[], r, rs, R, e⟩
      · rw [if_neg c] at h
        obtain ⟨r1, q, r2, h1, h2⟩ := go_split (rs := rs) h
        exact ⟨r :: r1, q, r2, by rw [h1]; rfl, h2⟩
theorem go_at {x : ID32} {o : Ob} {rs : List Rc} {p : Nat} (hu : UqR rs) (h : goF (osR rs) x = some o) : ∃ r1 r r2, rs = r1 ++ r :: r2 ∧ rcO r = some o ∧ look (atF p rs []) x = some ((p + csts r1 : Nat) : Int) := by
  obtain ⟨r1, r, r2, e, h2⟩ := go_split h
  have hx := (goF_mem h).2
  refine ⟨r1, r, r2, e, h2, ?_⟩
  subst e
  have hn : ¬ oin r2 x := fun q => by
    unfold UqR at hu
    rw [osR_app, osR, osR, List.filterMap_cons, h2, List.map_append, List.map_cons] at hu
    have := (List.nodup_append.1 hu).2.1
    rw [hx] at this
    exact (List.nodup_cons.1 this).1 q
  rw [atF_app, atF, h2, atF_no hn]
  dsimp only
  rw [hx, xH, if_pos rfl]
theorem goF_miss2 {x : ID32} : ∀ {os : List Ob}, goF os x = none → ∀ y ∈ os, y.2.1 ≠ x
  | [], _, y, hy => by cases hy
  | q :: os, h, y, hy => by
    rw [goF] at h
    split at h
    · cases h
    · rename_i hne
      rcases List.mem_cons.1 hy with e | e
      · rw [e]; exact hne
      · exact goF_miss2 h y e
theorem go_oin {x : ID32} {rs : List Rc} : goF (osR rs) x = none ↔ ¬ oin rs x := by
  constructor
  · intro h q
    obtain ⟨o, ho, e⟩ := List.mem_map.1 q
    have := @goF_miss2 x (osR rs) h o ho
    exact this e
  · exact fun h => goF_miss fun y hy e => h (List.mem_map.2 ⟨y, hy, e⟩)
theorem atp_none {x : ID32} {rs : List Rc} {p : Nat} (h : ¬ oin rs x) : look (atF p rs []) x = none := atF_no h
theorem atp_some {x : ID32} {rs : List Rc} {p : Nat} (hu : UqR rs) (h : oin rs x) : (look (atF p rs []) x).isSome = true := by
  cases e : goF (osR rs) x with
  | none => exact absurd h (go_oin.1 e)
  | some o => obtain ⟨r1, r, r2, -, -, k⟩ := go_at (p := p) hu e; rw [k]; rfl
theorem atp_is {x : ID32} {rs : List Rc} {p : Nat} (hu : UqR rs) : (look (atF p rs []) x).isSome = true ↔ oin rs x := ⟨fun h => Decidable.byContradiction fun k => (by rw [atp_none k] at h; cases h), atp_some hu⟩
def DpOk (rs : List Rc) : Prop := UqR rs ∧ ∀ o ∈ osR rs, ObOk o
def putR : List Rc → List Ob → List Rc
  | rs, [] => rs
  | rs, o :: l => putR (if o.2.1 ∈ (osR rs).map (·.2.1) then rs else rs ++ [obRc o]) l
theorem putR_snoc {o : Ob} : ∀ {l : List Ob} {rs : List Rc}, putR rs (l ++ [o]) = if o.2.1 ∈ (osR (putR rs l)).map (·.2.1) then putR rs l else putR rs l ++ [obRc o]
  | [], rs => rfl
  | q :: l, rs => by rw [List.cons_append, putR, putR_snoc, putR]
theorem putR_s {l : List Ob} {i : Nat} {o : Ob} {rs : List Rc} (h : l[i]? = some o) : putR rs (l.take (i + 1)) = if oin (putR rs (l.take i)) o.2.1 then putR rs (l.take i) else putR rs (l.take i) ++ [obRc o] := by
  rw [List.take_add_one, h]; exact putR_snoc
theorem osR_1 {o : Ob} {rs : List Rc} (h : ObOk o) : osR (rs ++ [obRc o]) = osR rs ++ [o] := by
  rw [osR_app]; unfold osR; rw [List.filterMap_cons, obRc_o h]; rfl
theorem UqR.snoc {o : Ob} {rs : List Rc} (hu : UqR rs) (h : ObOk o) (hn : ¬ oin rs o.2.1) : UqR (rs ++ [obRc o]) := by
  unfold UqR
  rw [osR_1 h, List.map_append]
  refine List.nodup_append.2 ⟨hu, by simp, fun a ha c hc => ?_⟩
  simp at hc
  subst hc
  intro e
  exact hn (by rw [← e]; exact ha)
theorem atF_snoc {o : Ob} {rs : List Rc} {p : Nat} (h : ObOk o) : atF p (rs ++ [obRc o]) [] = put (atF p rs []) o.2.1 ((p + csts rs : Nat) : Int) := by
  rw [atF_app, atF, obRc_o h]; rfl
theorem atF_skip {r : Rc} {rs : List Rc} {p : Nat} (h : rcO r = none) : atF p (rs ++ [r]) [] = atF p rs [] := by
  rw [atF_app, atF, h]; rfl
theorem UqR.skip {r : Rc} {rs : List Rc} (hu : UqR rs) (h : rcO r = none) : UqR (rs ++ [r]) := by
  unfold UqR
  rw [osR_app, osR, osR, List.filterMap_cons, h, List.filterMap_nil, List.append_nil]; exact hu
def cO (o : Ob) : Nat := cstB (o.2.2.length + 1)
def sumC (l : List Ob) : Nat := (l.map cO).sum
theorem sumC_s {l : List Ob} {i : Nat} {o : Ob} (h : l[i]? = some o) : sumC (l.take (i + 1)) = sumC (l.take i) + cO o := by
  rw [List.take_add_one, h]; unfold sumC; rw [List.map_append, List.sum_append]; simp
theorem sumC_le : ∀ {l : List Ob} {i : Nat}, sumC (l.take i) ≤ sumC l
  | [], i => by rw [List.take_nil]; exact Nat.le_refl _
  | o :: l, 0 => Nat.zero_le _
  | o :: l, i + 1 => by
    have := @sumC_le l i
    unfold sumC at this ⊢
    rw [List.take_succ_cons, List.map_cons, List.sum_cons, List.map_cons, List.sum_cons]; omega
theorem put_csts {rs : List Rc} : ∀ {l : List Ob} {i : Nat}, i ≤ l.length → csts (putR rs (l.take i)) ≤ csts rs + sumC (l.take i)
  | l, 0, _ => Nat.le_refl _
  | l, i + 1, h => by
    have hg : l[i]? = some l[i] := List.getElem?_eq_getElem (by omega)
    have := @put_csts rs l i (by omega)
    rw [putR_s hg, sumC_s hg]
    split
    · omega
    · rw [csts_snoc]; show _ + cstB (_ :: _).length ≤ _; rw [List.length_cons]; unfold cO; omega
theorem DpOk.snoc {o : Ob} {rs : List Rc} (hu : DpOk rs) (h : ObOk o) (hn : ¬ oin rs o.2.1) : DpOk (rs ++ [obRc o]) := ⟨hu.1.snoc h hn, fun x hx => by
  rw [osR_1 h] at hx
  rcases List.mem_append.1 hx with q | q
  · exact hu.2 x q
  · rw [List.mem_singleton.1 q]; exact h⟩
theorem DpOk.skip {r : Rc} {rs : List Rc} (hu : DpOk rs) (h : rcO r = none) : DpOk (rs ++ [r]) := ⟨hu.1.skip h, fun x hx => by
  rw [osR_app, osR, osR, List.filterMap_cons, h, List.filterMap_nil, List.append_nil] at hx
  exact hu.2 x hx⟩
theorem DpOk.nil : DpOk [] := ⟨List.nodup_nil, fun o h => (by cases h)⟩
def dpA (bd bb : Nat) (k : Dk) (f : Fz) (tn : Nat) (rs : List Rc) : Asn := exP (fun _ : Nat => DpOk rs) (fun m => [cl bd 121 [.pointer (some ⟨bb, 0, none⟩), .map (some m)], mp m aK iK (atF (bsN k.n tn) rs []), bkA bb k f tn rs])
section
variable {σ : World} {n : Nat} {G : Act → World → Prop} {K : Env} {D M N : List Asn} {k : Dk} {f : Fz} {bd bb tn : Nat} {rs : List Rc}
theorem T.dpU (hM : Pull (dpA bd bb k f tn rs) M N) (next : ∀ m : Nat, DpOk rs → T σ n G K D (cl bd 121 [.pointer (some ⟨bb, 0, none⟩), .map (some m)] :: mp m aK iK (atF (bsN k.n tn) rs []) :: bkA bb k f tn rs :: N)) : T σ n G K D M := T.exU hM fun x h => next x h
theorem T.dpF {m : Nat} (h : DpOk rs) (hM : Sel [cl bd 121 [.pointer (some ⟨bb, 0, none⟩), .map (some m)], mp m aK iK (atF (bsN k.n tn) rs []), bkA bb k f tn rs] M N) (next : T σ n G K D (dpA bd bb k f tn rs :: N)) : T σ n G K D M := T.exF m h hM next
end

theorem dobj_spec {kd : Nat} {d : List UInt8} {p : Int} (hd : d.length ≤ 1000000) : Spec Tryz.prog 163 [.agg #[.int .i64 (kd : Int), S d, .int .i64 p]] [] [] (fun v D' M' => v = .tuple #[.agg (obC (obO (kd, d))).toArray, .bool (rcO (kd, d)).isSome] ∧ D' = [] ∧ M' = []) := by
 refine zv (n := 21) Tryz.func163 ?_
 intro σ D M
 refine O (y6 R R R (fun b1 => ?_))
 refine zC R ze88 (fun b2 => ?_)
 refine V R R (zu (zO (A := cl b1 85 [.int .i64 (kd : Int), S d, .int .i64 p]) qP ?_))
 refine z8 (ze (O (zg R x9 R ?_)))
 refine zf R sc3 R qC ?_
 refine zZ R R R (E R R (yT (t := 7) R (fun h1 => ?_) (fun h1 => ?_)))
 ·try simp only [dq] at h1
  refine zw 7 true R R R R R jD (zw 7 true R R R R R jD (zw 7 true R R R R R jD (ym R R R (I (yV R R ?_)))))
  refine O (yq R bu88 (zQ (out := (Value.int .i64 0 :: j8 :: j8 :: j8 :: j8 :: j8 :: j8 :: j8 :: j8 :: j8 :: j8 :: j8 :: j8 :: j8 :: j8 :: j8 :: j8 :: j8 :: j8 :: j8 :: j8 :: j8 :: j8 :: j8 :: j8 :: j8 :: j8 :: j8 :: j8 :: j8 :: j8 :: j8 :: j8 :: S [] :: [])) R) ?_)
  refine zz ag88 R R qL qO qU qW ?_
  refine V R R (I (zo (zL ?_)))
  have e1 : rcO (kd, d) = none := if_neg jO
  have e2 : obO (kd, d) = zOb := by unfold obO; rw [e1]; rfl
  rw [e1, e2]
  exact yW R ag88 R qN R ⟨R, R, R⟩ qD qF
 try simp only [dq] at h1
 refine zj 7 R R R (zg R fo85_1 R ?_)
 refine zj 7 R R R (zf R sc9 R qC ?_)
 refine zj 7 R R R (L.eqS R R R ?_)
 refine yg R R R (I (zA R (fun h11 => ?_) (fun h11 => ?_)))
 ·try simp only [dq] at h11
  refine O (yq R bu88 (zQ (out := (Value.int .i64 0 :: j8 :: j8 :: j8 :: j8 :: j8 :: j8 :: j8 :: j8 :: j8 :: j8 :: j8 :: j8 :: j8 :: j8 :: j8 :: j8 :: j8 :: j8 :: j8 :: j8 :: j8 :: j8 :: j8 :: j8 :: j8 :: j8 :: j8 :: j8 :: j8 :: j8 :: j8 :: j8 :: S [] :: [])) R) ?_)
  refine zz ag88 R R qL qO qU qW ?_
  refine V R R (I (zo (zL ?_)))
  subst h11
  have e1 : rcO (kd, []) = none := by unfold rcO; split <;> rfl
  have e2 : obO (kd, []) = zOb := by unfold obO; rw [e1]; rfl
  rw [e1, e2]
  exact yW R ag88 R qN R ⟨R, R, R⟩ qD qF
 try simp only [dq] at h11
 refine zq (z8 (ze ?_))
 obtain rfl : kd = 1 := by omega
 obtain ⟨b, t, rfl⟩ := List.exists_cons_of_ne_nil h11
 have hb8 := b.toNat_lt
 have hoi := (oI (b.toNat : Int) t).2
 have hob := obC_len ((b.toNat : Int), oI (b.toNat : Int) t, t)
 refine y7 (clsL [1, 0, 1, 1, 1, 0, 1, 2, 2, 1]) qk ?_
 refine z9 0 R R (zg R fo85_1 R ?_)
 refine z7 (z9 4 R R (zg R fo85_1 R ?_))
 refine z7 (zY (i := 1) R R R R qk qk qk qk R qD qF ?_)
 refine zf R sc9 R qC ?_
 refine z7 (z9 2 R R (L.indexS (i := 0) R ye R R jR R ?_))
 refine z7 (z9 3 R R (L.convN R zX xi R qI ?_))
 refine z7 (zY (i := 5) R R R R qk qk qk qk R qD qF ?_)
 refine zf R sc9 R qC ?_
 refine z7 (z9 6 R R (L.sliceS (a := 1) (b := (b :: t).length) R ye R ⟨_, (by first | rfl | (congr 2; omega))⟩ R qI qI ?_))
 refine zE (t := 19) (u := S (t)) R (congrArg S (by simp)) ?_
 refine z7 (zi 7 R (zH R (ev2 R R) qD qS (make_spec (k := (b.toNat : Int)) (tx := t) (by rw [List.length_cons] at hd; omega)) jF ?_))
 refine zh R qD ?_
 refine zi 8 R (zz ag88 R R qL qO qU qW ?_)
 refine zh R qD ?_
 refine z9 9 R R (V R R (z7 (zN qk ?_)))
 refine z8 (zo ?_)
 have e1 : obO (1, b :: t) = ((b.toNat : Int), oI (b.toNat : Int) t, t) := rfl
 have e2 : (rcO (1, b :: t)).isSome = true := rfl
 rw [e1, e2]
 exact yW R ag88 R qN R ⟨R, R, R⟩ qD qF
theorem drec_spec {o : Ob} (hk : 0 ≤ o.1 ∧ o.1 ≤ 255) (ht : o.2.2.length ≤ 1000000) : Spec Tryz.prog 79 [.agg (obC o).toArray] [] [] (fun v D' M' => v = .agg #[.int .i64 1, S (obRc o).2, .int .i64 0] ∧ D' = [] ∧ M' = []) := by
 refine zv (n := 12) Tryz.func79 ?_
 intro σ D M
 have ho32 := o.2.1.2
 have ho33 := obC_len o
 refine O (y6 R R R (fun b1 => ?_))
 refine zC R ze85 (fun b2 => ?_)
 refine zu (zO (A := cl b1 88 (obC o)) qP ?_)
 refine z8 (O (zg R fo88_0 R ?_))
 refine zf R sc3 R qC ?_
 refine L.convIY R xi zX R ?_
 refine zE (t := 5) (u := Y (UInt8.ofNat o.1.toNat)) R (by rw [show o.1 % 256 = o.1 by omega]) ?_
 refine yl R bs171 jD (zF R R R <| zQ (out := []) R) (fun b6 => ?_)
 refine yR (len := 1) qP (rows := ([UInt8.ofNat o.1.toNat] : List UInt8).map yr) (sz := 1) (by rfl) R (by simp) ?_
 refine yF qP ?_
 refine xL R yz zX ye R qM ?_
 refine zE (t := 7) (u := S ([UInt8.ofNat o.1.toNat])) R (congrArg S (R)) ?_
 refine zg R fo88_2 R ?_
 refine zf R sc9 R qC ?_
 refine L.addS R R R qI ?_
 refine yq R bu85 (zF R R R <| zF R R R <| zQ (out := [Value.int .i64 0]) R) ?_
 refine zz yD R R qL qO qU qW ?_
 exact I (zo (xt R yD R qN ⟨R, R, R⟩ qD qF))
theorem dhas_spec {bd bb tn c : Nat} {k : Dk} {rs : List Rc} {a : Option Addr} {f : Fz} {x : ID32}  : Spec Tryz.prog 76 [.pointer (some ⟨bd, 0, none⟩), .slice a 1 c] [rsl 32 a 1 c (([x] : List ID32).map iC)] [dpA bd bb k f tn rs] (fun v D' M' => v = .bool (decide (oin rs x)) ∧ D' = [] ∧ M' = [dpA bd bb k f tn rs]) := by
 refine zv (n := 27) Tryz.func76 ?_
 intro σ D M
 have hx2 := x.2
 have hx3 := yw x
 refine T.dpU qP (fun m hu => ?_)
 refine O (V R R (I (ze (O (E R R (yb R yh R (E R R (I (zD (y8 (fun K' D' M' μ => ∃ (i : Nat), (i ≤ 1 ∧ (i = 1 → oin rs x)) ∧ K' = [(11, .int .i64 (i : Int))] ∧ D' = [] ∧ M' = [cl bd 121 [.pointer (some ⟨bb, 0, none⟩), .map (some m)], mp m aK iK (atF (bsN k.n tn) rs []), bkA bb k f tn rs] ∧ μ = 1 - i) (.c 0 R <| .c 9 R <| .c 10 R <| zd _) (⟨0, ⟨Nat.zero_le _, fun e => by omega⟩, R, R, R, R⟩) (.c 11 R <| zd _) qD qS ?_))))))))))
 rintro K1 D1 M1 m1 ⟨i, ⟨hi, hH⟩, rfl, rfl, rfl, rfl⟩
 refine zM qA qA qA ?_
 refine O (zW R R R (I (ze (zA R (fun h12 => ?_) (fun h12 => ?_)))))
 ·try simp only [dq] at h12
  refine zq (z8 (ze (zD (ze ?_))))
  obtain rfl : i = 0 := by omega
  have hgr : (([x] : List ID32).map iC)[0]? = some (iC x) := rfl
  refine zt (yP (i := 0) R yh sz38 R R qM jR qG (fun b13 o13 => ?_))
  refine zx R zI R (xl qM hx3) ?_
  refine zC R ze38 (fun b6 => ?_)
  refine zz zI R R qL qO qU qW ?_
  refine zu (zO (A := cl b6 38 (iC x)) qP ?_)
  refine z8 (ze (xg qk qk (E R R (zJ R R ?_))))
  refine zg R fo121_1 R ?_
  refine zf R sc108 R qC ?_
  refine zx R zI R qN ?_
  refine L.lookup2 (kenc := aK) (venc := iK) (l := (atF (bsN k.n tn) rs [])) (k := x) R xd (yo yf zX sc5) zv3 R R qM ?_
  refine zE (t := 21) (u := .tuple #[.int .i64 ((look (atF (bsN k.n tn) rs []) x).getD 0), .bool (decide (oin rs x))]) R (by rw [show decide (oin rs x) = (look (atF (bsN k.n tn) rs []) x).isSome from by rw [Bool.eq_iff_iff, decide_eq_true_eq]; exact (atp_is hu.1).symm]; cases look (atF (bsN k.n tn) rs []) x <;> rfl) ?_
  refine E R R (zr R R R (zr R R R (V R R (V R R (yY (z8 (O (E R R (x7 R R (I (zA R (fun h25 => ?_) (fun h25 => ?_))))))))))))
  ·try simp only [dq] at h25
   refine O (V R R (I (zo (yv (zL (zL (yv (zL (T.dpF (m := m) (hu) qS ?_)))))))))
   exact zy R R ⟨congrArg Value.bool (decide_eq_false h25).symm, R, R⟩ qD qF
  try simp only [dq] at h25
  refine zq (zS (z8 (zt (zT R R R jO ?_))))
  exact E R R (I (zV ⟨1, ⟨by omega, fun _ => h25⟩, R, R, R, R⟩ qI (.c 11 R <| zd _) (.c 0 R <| .c 9 R <| .c 10 R <| zd _) qD qD qF))
 try simp only [dq] at h12
 refine y4 (zG (zG (y5 (z8 (O (V R R (I (zo (T.dpF (m := m) (hu) qS ?_)))))))))
 exact zy R R ⟨congrArg Value.bool (decide_eq_true (hH jO)).symm, R, R⟩ qD qF
set_option maxHeartbeats 1600000 in
theorem dput_spec {bd bb tn n c : Nat} {k : Dk} {rs : List Rc} {a : Option Addr} {l : List Ob} (hok : ∀ o ∈ l, ObOk o) (hc : csts rs + sumC l ≤ hfN k.n) (hn : n ≤ 1000000) : Spec Tryz.prog 36 [.pointer (some ⟨bd, 0, none⟩), .slice a n c] [cl k.bd 51 [.pointer (some ⟨k.bf, 0, none⟩), .slice (some ⟨k.sb, 0, none⟩) k.n k.n, .map (some k.bl)], rsl 34 a n c (l.map obC)] [dpA bd bb k none tn rs] (fun v D' M' => v = .int .i64 0 ∧ D' = [] ∧ M' = [dpA bd bb k none tn (putR rs l)]) := by
 refine zv (n := 73) Tryz.func36 ?_
 intro σ D M
 refine yU (a := a) (len := n) (cap := c) (rows := l.map obC) qM (fun hl hcp => ?_)
 rw [List.length_map] at hl
 refine O (V R R (I (ze (O (E R R (yb R xF R (E R R (I (zD (y8 (fun K' D' M' μ => ∃ (i : Nat), (i ≤ n) ∧ K' = [(12, .int .i64 (i : Int))] ∧ D' = [] ∧ M' = [dpA bd bb k none tn (putR rs (l.take i))] ∧ μ = n - i) (.c 0 R <| .c 10 R <| .c 11 R <| zd _) (⟨0, Nat.zero_le _, R, R, R, R⟩) (.c 12 R <| zd _) qD qS ?_))))))))))
 rintro K1 D1 M1 m1 ⟨i, hi, rfl, rfl, rfl, rfl⟩
 refine zM qA qA qA ?_
 refine O (zW R R R (I (ze (zA R (fun h13 => ?_) (fun h13 => ?_)))))
 ·try simp only [dq] at h13
  refine zq (z8 (ze (zD (ze ?_))))
  have hgi : l[i]? = some (gd l i) := y9 jO
  obtain ⟨o, ho_⟩ : ∃ z, z = gd l i := ⟨_, rfl⟩
  rw [← ho_] at hgi
  clear ho_
  have hgr : (l.map obC)[i]? = some (obC o) := yJ hgi
  have ho32 := o.2.1.2
  have ho33 := obC_len o
  have ho3 := yw o.2.1
  refine zt (yP (i := i) R xF sz88 R R qM jR qG (fun b14 o14 => ?_))
  refine zx R ag88 R (xl qM ho33) ?_
  refine zC R ze88 (fun b6 => ?_)
  refine zz ag88 R R qL qO qU qW ?_
  refine zu (zO (A := cl b6 88 (obC o)) qP ?_)
  refine z8 (ze (zD (ze ?_)))
  have hoo := hok o (List.mem_of_getElem? hgi)
  obtain ⟨ho1, ho2, ho4, ho5⟩ := id hoo
  have ho7 := oidF_len o.1 o.2.2
  have hcs := @put_csts rs l i jO
  have hcm := @sumC_le l (i + 1)
  rw [sumC_s hgi] at hcm
  have hco : cO o = cstB (obRc o).2.length := rfl
  refine zt (zg R fo88_2 R ?_)
  refine zf R sc9 R qC ?_
  refine yL R ye R (yy R R R (V R R (I (zR R (decide_eq_false jO) ?_))))
  refine ze (y7 (clsL [1, 1, 1, 1, 1, 1, 1, 1, 1, 1, 1, 1, 1, 2, 2, 1, 1, 1, 1, 1]) qk ?_)
  refine z9 0 R R (zg R fo88_0 R ?_)
  refine z7 (z9 1 R R (zf R sc3 R qC ?_))
  refine z7 (z9 2 R R (zW R R R (z7 (z9 3 R R (E R R (z7 (A.known (t := 25) R (show _ = Value.bool false from congrArg Value.bool (decide_eq_false jO)) ?_)))))))
  refine z9 4 R R (zj 25 R R R (zg R fo88_0 R ?_))
  refine z7 (z9 5 R R (zj 25 R R R (zf R sc3 R qC ?_)))
  refine z7 (z9 6 R R (zj 25 R R R (yy R R R (z7 (z9 7 R R (yg R R R (z7 (z9 8 R R (E R R (z7 (A.known (t := 30) R (show _ = Value.bool false from congrArg Value.bool (decide_eq_false jO)) ?_)))))))))))
  refine z9 9 R R (zj 30 R R R (zg R fo88_0 R ?_))
  refine z7 (z9 10 R R (zj 30 R R R (zf R sc3 R qC ?_)))
  refine z7 (z9 11 R R (zj 30 R R R (zg R fo88_2 R ?_)))
  refine z7 (z9 12 R R (zj 30 R R R (zf R sc9 R qC ?_)))
  refine z7 (z9 15 R R (zj 30 R R R (zg R fo88_1 R ?_)))
  refine z7 (z9 16 R R (zj 30 R R R (zx R zI R qN ?_)))
  refine z7 (zi 13 R (zj 30 R R R (yl R bs27 jD (zF R R R <| zQ (out := []) R) (fun b35 => ?_))))
  refine yR (len := 1) qP (rows := ([o.2.2] : List (List UInt8)).map ys) (sz := 1) (by rfl) R (by simp) ?_
  refine yF qP ?_
  refine zh R qD ?_
  refine zi 14 R (zj 30 R R R (zH R (ev2 R R) qD qS (oidof_spec (kind := o.1) (ls := [o.2.2]) (by simp; omega) (by simp)) jF ?_))
  refine zh R qD ?_
  refine z9 17 R R (zj 30 R R R (L.neqArrI qk R yf zX sc5 R R qL qL ?_))
  refine zE (t := 39) (u := .bool false) R (congrArg Value.bool (by rw [ho4]; simp [oI])) ?_
  refine z7 (z9 18 R R (yg R R R (z7 (z9 19 R R (V R R (z7 (zN qk ?_)))))))
  refine z8 (zR R R ?_)
  refine O (E R R (zg R fo88_1 R ?_))
  refine zx R zI R qN ?_
  refine yl R bs32 jD (yG R R j1 (Nat.le_of_ble_eq_true R) qR <| zQ (out := []) R) (fun b45 => ?_)
  refine yR (len := 1) qP (rows := ([o.2.1] : List ID32).map iC) (sz := 32) (by simp) R (fun r hr => by rw [List.mem_singleton.1 hr]; exact yw _) ?_
  refine yF qP ?_
  refine zH R (ev2 R R) qD qS (dhas_spec (x := o.2.1)) jF ?_
  refine V R R (I (zA R (fun h41 => ?_) (fun h41 => ?_)))
  ·try simp only [dq] at h41
   refine y4 (T.blkY R ?_)
   refine zG (y5 (z8 (zt (zT R R R jO ?_))))
   refine E R R (zu (z8 ?_))
   rw [show (putR rs (l.take i)) = putR rs (l.take (i + 1)) by rw [putR_s hgi, if_pos h41]]
   exact zV ⟨i + 1, jO, R, R, R, R⟩ qI (.c 12 R <| zd _) (.c 0 R <| .c 10 R <| .c 11 R <| zd _) qD qD qF
  try simp only [dq] at h41
  refine zq (zS (z8 (O (zx R ag88 R qN ?_))))
  refine zH R (ev1 R) qD qS (drec_spec (o := o) jO jO) jF ?_
  refine zC R ze85 (fun b7 => ?_)
  refine zz yD R R qL qO qU qW ?_
  refine zu (zO (A := cl b7 85 [.int .i64 1, S (obRc o).2, .int .i64 0]) qP ?_)
  refine T.dpU qP (fun m hu => ?_)
  refine z8 (ze (yx (fun K' D' M' => ∃ (b8 : Nat), K' = [(8, .pointer (some ⟨b8, 0, none⟩)), (9, .int .i64 0)] ∧ D' = [cl b8 85 (rcC ((1, (obRc o).2), ((bsN k.n tn + csts (putR rs (l.take i)) : Nat) : Int)))] ∧ M' = [cl bd 121 [.pointer (some ⟨bb, 0, none⟩), .map (some m)], mp m aK iK (atF (bsN k.n tn) (putR rs (l.take i)) []), bkA bb k none tn ((putR rs (l.take i)) ++ [(1, (obRc o).2)])]) (M0 := [cl bd 121 [.pointer (some ⟨bb, 0, none⟩), .map (some m)], mp m aK iK (atF (bsN k.n tn) (putR rs (l.take i)) []), bkA bb k none tn (putR rs (l.take i))]) (.c 0 R <| .c 6 R <| .c 10 R <| .c 11 R <| .c 12 R <| zd _) qS ?_ ?_))
  ·refine y7 (clsL [1, 1, 1, 2, 1, 1, 1, 1, 2, 1, 1, 1, 2, 2, 1]) qk ?_
   refine z9 0 R R (E R R (z7 (yX (i := 1) R R qk qk qk R qD R ?_)))
   refine z9 2 R R (zg R fo121_0 R ?_)
   refine z7 (z9 4 R R (zg R x9 R ?_))
   refine z7 (z9 5 R R (zf R sc3 R qC ?_))
   refine z7 (z9 6 R R (zg R fo85_1 R ?_))
   refine z7 (z9 7 R R (zf R sc9 R qC ?_))
   refine z7 (yA (is := [3, 12]) qk jD (zU R ?_ <| zU R ?_ <| yB) )
   ·refine zf R sc114 R qC ?_
    refine zh R qD ?_
    refine yA (is := [8, 12]) qk jD (zU R ?_ <| zU R ?_ <| yB) 
    ·refine zp R (ev3 R R R) qD qS (bapp0_spec (tn := tn) (rs := (putR rs (l.take i))) (kd := 1) (d := (obRc o).2) (obRc_ok (hok o (List.mem_of_getElem? hgi))) jO) ?_
     rintro _ _ _ ⟨rfl, rfl, rfl⟩
     refine zm qA qA ?_
     refine zh R qD ?_
     refine z9 9 R R (E R R (z7 (z9 10 R R (zr R R R (z7 (z9 11 R R (zr R R R (z7 (zi 12 R (zC R ze85 (fun b8 => ?_)))))))))))
     refine zh R qD ?_
     refine zi 13 R (zz yD R R qL qO qU qW ?_)
     refine zh R qD ?_
     refine z9 14 R R (V R R (z7 (zN qk ?_)))
     refine zO (A := cl b8 85 (rcC ((1, (obRc o).2), ((bsN k.n tn + csts (putR rs (l.take i)) : Nat) : Int)))) qP ?_
     exact z8 (zK ⟨_, R, R, R⟩ (.c 8 R <| .c 9 R <| zd _) (.c 0 R <| .c 6 R <| .c 10 R <| .c 11 R <| .c 12 R <| zd _) qD qD qF)
    refine zC R ze85 (fun b8 => ?_)
    refine zh R qD ?_
    refine zi 8 R (zp R (ev3 R R R) qD qS (bapp0_spec (tn := tn) (rs := (putR rs (l.take i))) (kd := 1) (d := (obRc o).2) (obRc_ok (hok o (List.mem_of_getElem? hgi))) jO) ?_)
    rintro _ _ _ ⟨rfl, rfl, rfl⟩
    refine zm qA qA ?_
    refine zh R qD ?_
    refine z9 9 R R (E R R (z7 (z9 10 R R (zr R R R (z7 (z9 11 R R (zr R R R (z7 (zi 13 R (zz yD R R qL qO qU qW ?_))))))))))
    refine zh R qD ?_
    refine z9 14 R R (V R R (z7 (zN qk ?_)))
    refine zO (A := cl b8 85 (rcC ((1, (obRc o).2), ((bsN k.n tn + csts (putR rs (l.take i)) : Nat) : Int)))) qP ?_
    exact z8 (zK ⟨_, R, R, R⟩ (.c 8 R <| .c 9 R <| zd _) (.c 0 R <| .c 6 R <| .c 10 R <| .c 11 R <| .c 12 R <| zd _) qD qD qF)
   refine zC R ze85 (fun b8 => ?_)
   refine zh R qD ?_
   refine zi 3 R (zf R sc114 R qC ?_)
   refine zh R qD ?_
   refine zi 8 R (zp R (ev3 R R R) qD qS (bapp0_spec (tn := tn) (rs := (putR rs (l.take i))) (kd := 1) (d := (obRc o).2) (obRc_ok (hok o (List.mem_of_getElem? hgi))) jO) ?_)
   rintro _ _ _ ⟨rfl, rfl, rfl⟩
   refine zm qA qA ?_
   refine zh R qD ?_
   refine z9 9 R R (E R R (z7 (z9 10 R R (zr R R R (z7 (z9 11 R R (zr R R R (z7 (zi 13 R (zz yD R R qL qO qU qW ?_))))))))))
   refine zh R qD ?_
   refine z9 14 R R (V R R (z7 (zN qk ?_)))
   refine zO (A := cl b8 85 (rcC ((1, (obRc o).2), ((bsN k.n tn + csts (putR rs (l.take i)) : Nat) : Int)))) qP ?_
   exact z8 (zK ⟨_, R, R, R⟩ (.c 8 R <| .c 9 R <| zd _) (.c 0 R <| .c 6 R <| .c 10 R <| .c 11 R <| .c 12 R <| zd _) qD qD qF)
  rintro _ _ _ ⟨b8, rfl, rfl, rfl⟩
  refine zM qA qA qA ?_
  refine y3 qP (show bkA bb k none tn ((putR rs (l.take i)) ++ [(1, (obRc o).2)]) = bkA bb k none tn ((putR rs (l.take i)) ++ [obRc o]) from R) ?_
  refine z8 (ze (O (E R R (zZ R R R (I (zR R (decide_eq_false (fun q => q R)) ?_))))))
  refine zq (z8 (y7 (clsL [1, 0, 1, 0, 1, 0, 1, 0, 2]) qk ?_))
  refine z9 0 R R (E R R (z7 (z9 4 R R (zg R fo88_1 R ?_))))
  refine z7 (z9 6 R R (zg R fo85_2 R ?_))
  refine z7 (yE (i := 1) R R qk qk qk qk R qD qF R ?_)
  refine z9 2 R R (zg R fo121_1 R ?_)
  refine z7 (zY (i := 3) R R R R qk qk qk qk R qD qF ?_)
  refine zf R sc108 R qC ?_
  refine z7 (zY (i := 5) R R R R qk qk qk qk R qD qF ?_)
  refine zx R zI R qN ?_
  refine z7 (zY (i := 7) R R R R qk qk qk qk R qD qF ?_)
  refine zf R sc3 R qC ?_
  refine z7 (zi 8 R (xQ (kenc := aK) (venc := iK) (l := (atF (bsN k.n tn) (putR rs (l.take i)) [])) (k := o.2.1) (v := ((bsN k.n tn + csts (putR rs (l.take i)) : Nat) : Int)) xd (yo yf zX sc5) R R R R qP ?_))
  refine L.eqv qP (show mp m aK iK _ = mp m aK iK (atF (bsN k.n tn) ((putR rs (l.take i)) ++ [obRc o]) []) from by rw [atF_snoc hoo]) ?_
  refine zh R qD ?_
  refine zN qk ?_
  refine zS (z8 (zt (zT R R R jO ?_)))
  refine E R R (I (T.dpF (m := m) (hu.snoc hoo h41) qS ?_))
  rw [show (putR rs (l.take i)) ++ [obRc o] = putR rs (l.take (i + 1)) by rw [putR_s hgi, if_neg h41]]
  exact zV ⟨i + 1, jO, R, R, R, R⟩ qI (.c 12 R <| zd _) (.c 0 R <| .c 10 R <| .c 11 R <| zd _) qD qD qF
 try simp only [dq] at h13
 obtain rfl : n = i := by omega
 rw [List.take_of_length_le jO]
 exact y4 (zG (zG (y5 (z8 (O (V R R (I (zo (zy R R ⟨R, R, R⟩ qD qF)))))))))
end Cv
set_option maxRecDepth 10000
namespace Cv
open Go Go.Proofs
/-! ## depots: packed -/
theorem posL_get : ∀ {rs : List Rc} {p i : Nat} {r : Rc}, rs[i]? = some r → (posL p rs)[i]? = some (r, ((p + csts (rs.take i) : Nat) : Int))
  | q :: rs, p, 0, r, h => by
    obtain rfl : q = r := by simpa using h
    rfl
  | q :: rs, p, i + 1, r, h => by
    have := posL_get (rs := rs) (p := p + cstB q.2.length) (i := i) (r := r) (by simpa using h)
    rw [posL, List.getElem?_cons_succ, this, List.take_succ_cons, csts_cons, Nat.add_assoc]
theorem atF_s {rs : List Rc} {i : Nat} {r : Rc} {p : Nat} (h : rs[i]? = some r) : atF p (rs.take (i + 1)) [] = (match rcO r with | some o => put (atF p (rs.take i) []) o.2.1 ((p + csts (rs.take i) : Nat) : Int) | none => atF p (rs.take i) []) := by
  rw [List.take_add_one, h]
  show atF p (rs.take i ++ [r]) [] = _
  rw [atF_app, atF]; rfl
theorem obO_is {r : Rc} {o : Ob} (h : rcO r = some o) : obO r = o := by unfold obO; rw [h]; rfl
theorem isS_ex {α : Type} {x : Option α} (h : x.isSome = true) : ∃ y, x = some y := by
  cases x with
  | none => cases h
  | some y => exact ⟨y, rfl⟩
theorem isS_no {α : Type} {x : Option α} (h : x.isSome = false) : x = none := by
  cases x with
  | none => rfl
  | some y => cases h
theorem go_isS {x : ID32} {rs : List Rc} {p : Nat} (hu : UqR rs) (h : (look (atF p rs []) x).isSome = false) : goF (osR rs) x = none := go_oin.2 fun q => by
  rw [atp_some hu q] at h; cases h
theorem go_isT {x : ID32} {rs : List Rc} {p : Nat} (h : (look (atF p rs []) x).isSome = true) : ∃ o, goF (osR rs) x = some o := by
  cases e : goF (osR rs) x with
  | some o => exact ⟨o, rfl⟩
  | none => rw [atp_none (go_oin.1 e)] at h; cases h
def pkO (os : List Ob) (xs : List ID32) : List Ob := xs.filterMap (goF os)
def pkA (os : List Ob) (xs : List ID32) : List RcA := (pkO os xs).map fun o => (obRc o, 0)
theorem pkO_t {os : List Ob} {xs : List ID32} {i : Nat} {x : ID32} {o : Ob} (h : xs[i]? = some x) (g : goF os x = some o) : pkO os (xs.take (i + 1)) = pkO os (xs.take i) ++ [o] := by
  unfold pkO; rw [List.take_add_one, h, List.filterMap_append]
  simp [g]
theorem pkO_f {os : List Ob} {xs : List ID32} {i : Nat} {x : ID32} (h : xs[i]? = some x) (g : goF os x = none) : pkO os (xs.take (i + 1)) = pkO os (xs.take i) := by
  unfold pkO; rw [List.take_add_one, h, List.filterMap_append]
  simp [g]
theorem pkA_t {os : List Ob} {xs : List ID32} {i : Nat} {x : ID32} {o : Ob} (h : xs[i]? = some x) (g : goF os x = some o) : pkA os (xs.take (i + 1)) = pkA os (xs.take i) ++ [(obRc o, 0)] := by
  unfold pkA; rw [pkO_t h g, List.map_append]; rfl
theorem pkA_f {os : List Ob} {xs : List ID32} {i : Nat} {x : ID32} (h : xs[i]? = some x) (g : goF os x = none) : pkA os (xs.take (i + 1)) = pkA os (xs.take i) := by
  unfold pkA; rw [pkO_f h g]
theorem pkA_len {os : List Ob} {xs : List ID32} : (pkA os xs).length ≤ xs.length := by
  unfold pkA pkO; rw [List.length_map]; exact List.length_filterMap_le ..
theorem pk_in {os : List Ob} {xs : List ID32} {o : Ob} (h : o ∈ pkO os xs) : o ∈ os ∧ o.2.1 ∈ xs := by
  obtain ⟨x, hx, hg⟩ := List.mem_filterMap.1 h
  have := goF_mem hg
  exact ⟨this.1, by rw [this.2]; exact hx⟩
theorem pk_nd {os : List Ob} : ∀ {xs : List ID32}, xs.Nodup → ((pkO os xs).map (·.2.1)).Nodup
  | [], _ => by simp [pkO]
  | x :: xs, h => by
    have h2 := List.nodup_cons.1 h
    have ih := pk_nd (os := os) h2.2
    unfold pkO at ih ⊢
    rw [List.filterMap_cons]
    cases e : goF os x with
    | none => exact ih
    | some o =>
      refine List.nodup_cons.2 ⟨fun q => ?_, ih⟩
      obtain ⟨o2, ho, he⟩ := List.mem_map.1 q
      exact h2.1 (by rw [← (goF_mem e).2, ← show o2.2.1 = o.2.1 from he]; exact (pk_in ho).2)
theorem osR_obs : ∀ {l : List Ob}, (∀ o ∈ l, ObOk o) → osR (l.map obRc) = l
  | [], _ => rfl
  | o :: l, h => by
    have := osR_obs (l := l) fun x hx => h x (List.mem_cons_of_mem _ hx)
    unfold osR at this ⊢
    rw [List.map_cons, List.filterMap_cons, obRc_o (h o (List.mem_cons_self ..))]
    dsimp only
    rw [this]
theorem osR_nil {ms : List Rc} (h : ∀ m ∈ ms, rcO m = none) : osR ms = [] := List.filterMap_eq_nil_iff.2 h
theorem pk_os {os : List Ob} {xs : List ID32} {ms : List Rc} (hb : ∀ o ∈ os, ObOk o) (h : ∀ m ∈ ms, rcO m = none) : osR ((pkO os xs).map obRc ++ ms) = pkO os xs := by
  rw [osR_app, osR_nil h, List.append_nil]; exact osR_obs fun o ho => hb o (pk_in ho).1
theorem DpOk.pk {rs ms : List Rc} {xs : List ID32} (h : DpOk rs) (hn : xs.Nodup) (hm : ∀ m ∈ ms, rcO m = none) : DpOk ((pkO (osR rs) xs).map obRc ++ ms) := by
  unfold DpOk UqR
  rw [pk_os h.2 hm]
  exact ⟨pk_nd hn, fun o ho => h.2 o (pk_in ho).1⟩
theorem pk_map {os : List Ob} {xs : List ID32} {ms : List RcA} : (pkA os xs ++ ms).map (·.1) = (pkO os xs).map obRc ++ ms.map (·.1) := by
  rw [List.map_append]; unfold pkA; rw [List.map_map]; rfl
theorem pk_ok {os : List Ob} {xs : List ID32} {ms : List RcA} (hb : ∀ o ∈ os, ObOk o) (hm : ∀ m ∈ ms, RcOk m.1) : ∀ r ∈ pkA os xs ++ ms, RcOk r.1 := fun r hr => by
  rcases List.mem_append.1 hr with q | q
  · obtain ⟨o, ho, rfl⟩ := List.mem_map.1 q
    exact obRc_ok (hb o (pk_in ho).1)
  · exact hm r q
theorem one_rc {r : RcA} : ∀ u ∈ rcC r, u.oneCell' = true := fun u hu => by
  simp only [rcC, List.mem_cons, List.not_mem_nil, or_false] at hu
  rcases hu with rfl | rfl | rfl <;> rfl
theorem one_rcs {l : List RcA} : ∀ u ∈ (l.map rcC).flatten, u.oneCell' = true := fun u hu => by
  obtain ⟨r, hr, hu⟩ := List.mem_flatten.1 hu
  obtain ⟨y, _, rfl⟩ := List.mem_map.1 hr
  exact one_rc u hu
theorem val_put {ml : SnM} {x y : ID32} {v : Int} : val0 (put ml x v) y = if y = x then v else val0 ml y := by
  unfold val0; rw [xH]; split <;> rfl
def CntI (ml : SnM) (i : Nat) : Prop := ∀ x, 0 ≤ val0 ml x ∧ val0 ml x ≤ i
theorem CntI.start : CntI [] 0 := fun _ => ⟨Int.le_refl _, Int.le_refl _⟩
theorem CntI.next {ml : SnM} {i : Nat} (h : CntI ml i) (x : ID32) : CntI (put ml x (val0 ml x + 1)) (i + 1) := fun y => by
  rw [val_put]
  have a := h x
  have b := h y
  split <;> omega

theorem dsee_spec {bd bb p n c : Nat} {v0 : Value} {rs : List Rc} {a : Option Addr} (hl : ∀ r ∈ rs, r.2.length ≤ 1000000) (hb : n ≤ 1000000) : Spec Tryz.prog 99 [.pointer (some ⟨bd, 0, none⟩), .slice a n c] [rsl 3 a n c ((posL p rs).map rcC)] [cl bd 121 [.pointer (some ⟨bb, 0, none⟩), v0]] (fun v D' M' => ∃ (m : Nat), v = .tuple #[] ∧ D' = [] ∧ M' = [cl bd 121 [.pointer (some ⟨bb, 0, none⟩), .map (some m)], mp m aK iK (atF p (rs) [])]) := by
 refine zv (n := 33) Tryz.func99 ?_
 intro σ D M
 refine yU (a := a) (len := n) (cap := c) (rows := (posL p rs).map rcC) qM (fun hln hcp => ?_)
 rw [List.length_map, posL_len] at hln
 refine O (E R R (xN aK iK R (fun m => ?_)))
 refine L.eqv qP (show mp m aK iK [] = mp m aK iK (atF p (rs.take 0) []) from R) ?_
 refine zJ R R ?_
 refine zg R fo121_1 R ?_
 refine yj sc108 R R R qU qE ?_
 refine I (O (E R R (yb R xz R (E R R (I (zD (y8 (fun K' D' M' μ => ∃ (i : Nat), (i ≤ n) ∧ K' = [(14, .int .i64 (i : Int))] ∧ D' = [] ∧ M' = [cl bd 121 [.pointer (some ⟨bb, 0, none⟩), .map (some m)], mp m aK iK (atF p (rs.take i) [])] ∧ μ = n - i) (.c 0 R <| .c 12 R <| .c 13 R <| zd _) (⟨0, Nat.zero_le _, R, R, R, R⟩) (.c 14 R <| zd _) qD qS ?_)))))))
 rintro K1 D1 M1 m1 ⟨i, hi, rfl, rfl, rfl, rfl⟩
 refine zM qA qA qA ?_
 refine O (zW R R R (I (ze (zA R (fun h15 => ?_) (fun h15 => ?_)))))
 ·try simp only [dq] at h15
  refine zq (z8 (ze (zD (ze ?_))))
  have hgi : rs[i]? = some (gd rs i) := y9 jO
  obtain ⟨r, hr_⟩ : ∃ z, z = gd rs i := ⟨_, rfl⟩
  rw [← hr_] at hgi
  clear hr_
  have hgr : ((posL p rs).map rcC)[i]? = some (rcC (r, ((p + csts (rs.take i) : Nat) : Int))) := yJ (posL_get hgi)
  have hrl := hl r (List.mem_of_getElem? hgi)
  have hob := obC_len (obO r)
  have hoi := (obO r).2.1.2
  refine zt (yP (i := i) R xz sz85 R R qM jR qG (fun b16 o16 => ?_))
  refine zx R yD R (xl qM R) ?_
  refine zC R ze85 (fun b5 => ?_)
  refine zz yD R R qL qO qU qW ?_
  refine zu (zO (A := cl b5 85 (rcC (r, ((p + csts (rs.take i) : Nat) : Int)))) qP ?_)
  refine z8 (O (zx R yD R qN ?_))
  refine zH R (ev1 R) qD qS (dobj_spec (kd := r.1) (d := r.2) hrl) jF ?_
  refine E R R (zr R R R (zr R R R (zC R ze88 (fun b6 => ?_))))
  refine zz ag88 R R qL qO qU qW ?_
  refine V R R (zu (zO (A := cl b6 88 (obC (obO r))) qP ?_))
  refine z8 (O (E R R (I (zA R (fun h23 => ?_) (fun h23 => ?_)))))
  ·try simp only [dq] at h23
   obtain ⟨o, hro⟩ := isS_ex h23
   have hro : rcO r = some o := hro
   rw [obO_is hro] at hob hoi
   refine T.derive (φ := cl b6 88 (obC (obO r))) (ψ := cl b6 88 (obC o)) qM (fun z H => by rw [← obO_is hro]; exact H) ?_
   refine y7 (clsL [1, 0, 1, 0, 1, 0, 1, 0, 2]) qk ?_
   refine z9 0 R R (E R R (z7 (z9 4 R R (zg R fo88_1 R ?_))))
   refine z7 (z9 6 R R (zg R fo85_2 R ?_))
   refine z7 (yE (i := 1) R R qk qk qk qk R qD qF R ?_)
   refine z9 2 R R (zg R fo121_1 R ?_)
   refine z7 (zY (i := 3) R R R R qk qk qk qk R qD qF ?_)
   refine zf R sc108 R qC ?_
   refine z7 (zY (i := 5) R R R R qk qk qk qk R qD qF ?_)
   refine zx R zI R qN ?_
   refine z7 (zY (i := 7) R R R R qk qk qk qk R qD qF ?_)
   refine zf R sc3 R qC ?_
   refine z7 (zi 8 R (xQ (kenc := aK) (venc := iK) (l := atF p (rs.take i) []) (k := o.2.1) (v := ((p + csts (rs.take i) : Nat) : Int)) xd (yo yf zX sc5) R R R R qP ?_))
   refine L.eqv qP (show mp m aK iK _ = mp m aK iK (atF p (rs.take (i + 1)) []) from by rw [atF_s hgi, hro]) ?_
   refine zh R qD ?_
   refine zN qk ?_
   refine zS (z8 (zt (zT R R R jO ?_)))
   exact E R R (I (zV ⟨i + 1, jO, R, R, R, R⟩ qI (.c 14 R <| zd _) (.c 0 R <| .c 12 R <| .c 13 R <| zd _) qD qD qF))
  try simp only [dq] at h23
  have hro : rcO r = none := isS_no (x := rcO r) h23
  refine zq (zS (z8 (zt (zT R R R jO ?_))))
  refine E R R (I (y3 qP (show mp m aK iK _ = mp m aK iK (atF p (rs.take (i + 1)) []) from by rw [atF_s hgi, hro]) ?_))
  exact zV ⟨i + 1, jO, R, R, R, R⟩ qI (.c 14 R <| zd _) (.c 0 R <| .c 12 R <| .c 13 R <| zd _) qD qD qF
 try simp only [dq] at h15
 obtain rfl : n = i := by omega
 rw [List.take_of_length_le jO]
 exact y4 (zG (zG (y5 (yS (by simp) R ⟨_, R, R, R⟩ qD qF))))
theorem dload_spec {bb tn n c : Nat} {k : Dk} {f : Fz} {rs : List Rc} {a : Option Addr} (hok : DpOk rs) (hl : ∀ r ∈ rs, r.2.length ≤ 1000000) (hb : n ≤ 1000000) : Spec Tryz.prog 52 [.pointer (some ⟨bb, 0, none⟩), .slice a n c] [rsl 3 a n c ((posL (bsN k.n tn) rs).map rcC)] [bkA bb k f tn rs] (fun v D' M' => ∃ (bd : Nat), v = .pointer (some ⟨bd, 0, none⟩) ∧ D' = [] ∧ M' = [dpA bd bb k f tn rs]) := by
 refine zv (n := 13) Tryz.func52 ?_
 intro σ D M
 refine O (V R R (I (O (E R R (yq R bu121 (zF R R R <| zQ (out := [Value.map none]) R) ?_)))))
 refine y6 R R R (fun b8 => ?_)
 refine V R R (I (O (E R R (E R R (zp R (ev2 R R) qD qS (dsee_spec (p := bsN k.n tn) hl hb) ?_)))))
 rintro _ _ _ ⟨m, rfl, rfl, rfl⟩
 refine zm qA qA ?_
 refine I (O (E R R (V R R (I (zo (T.dpF (m := m) (hok) qS ?_))))))
 exact zy R R ⟨b8, R, R, R⟩ qD qF
theorem dcost_spec {bd bb tn n c : Nat} {k : Dk} {rs : List Rc} {a : Option Addr} {f : Fz} {l : List Ob} (hs : sumC l ≤ 1000000) (hn : n ≤ 1000000) (hlb : ∀ o ∈ l, o.2.2.length ≤ 100000) : Spec Tryz.prog 33 [.pointer (some ⟨bd, 0, none⟩), .slice a n c] [rsl 34 a n c (l.map obC)] [dpA bd bb k f tn rs] (fun v D' M' => ∃ (z : Nat), v = .int .i64 (z : Int) ∧ (z ≤ sumC l) ∧ D' = [] ∧ M' = [dpA bd bb k f tn rs]) := by
 refine zv (n := 45) Tryz.func33 ?_
 intro σ D M
 refine yU (a := a) (len := n) (cap := c) (rows := l.map obC) qM (fun hl hcp => ?_)
 rw [List.length_map] at hl
 refine O (V R R (I (O (V R R (I (O (xN aK iK R (fun sm => ?_))))))))
 refine V R R (I (ze (O (E R R (yb R xF R (E R R (I (zD (y8 (fun K' D' M' μ => ∃ (i z : Nat) (ml : SnM), (i ≤ n ∧ z ≤ sumC (l.take i) ∧ CntI ml i) ∧ K' = [(12, .int .i64 (i : Int)), (5, .int .i64 (z : Int))] ∧ D' = [] ∧ M' = [dpA bd bb k f tn rs, mp sm aK iK ml] ∧ μ = n - i) (.c 0 R <| .c 6 R <| .c 10 R <| .c 11 R <| zd _) (⟨0, 0, [], ⟨Nat.zero_le _, Nat.zero_le _, .start⟩, R, R, R, R⟩) (.c 12 R <| .c 5 R <| zd _) qD qS ?_)))))))))
 rintro K1 D1 M1 m1 ⟨i, z, ml, ⟨hi, hz, hC⟩, rfl, rfl, rfl, rfl⟩
 refine zM qA qA qA ?_
 refine O (zW R R R (I (ze (zA R (fun h13 => ?_) (fun h13 => ?_)))))
 ·try simp only [dq] at h13
  refine zq (z8 (ze (zD (ze ?_))))
  have hgi : l[i]? = some (gd l i) := y9 jO
  obtain ⟨o, ho_⟩ : ∃ z, z = gd l i := ⟨_, rfl⟩
  rw [← ho_] at hgi
  clear ho_
  have hgr : (l.map obC)[i]? = some (obC o) := yJ hgi
  have ho32 := o.2.1.2
  have ho33 := obC_len o
  have ho3 := yw o.2.1
  refine zt (yP (i := i) R xF sz88 R R qM jR qG (fun b14 o14 => ?_))
  refine zx R ag88 R (xl qM ho33) ?_
  refine zC R ze88 (fun b8 => ?_)
  refine zz ag88 R R qL qO qU qW ?_
  refine zu (zO (A := cl b8 88 (obC o)) qP ?_)
  have hol := hlb o (List.mem_of_getElem? hgi)
  have hcm := @sumC_le l (i + 1)
  rw [sumC_s hgi] at hcm
  have hco : cO o = cstB (o.2.2.length + 1) := rfl
  have hC1 := hC o.2.1
  refine z8 (ze (yx (fun K' D' M' => K' = [] ∧ D' = [] ∧ M' = [mp sm aK iK (put ml o.2.1 (val0 ml o.2.1 + 1))]) (M0 := [mp sm aK iK ml]) (.c 0 R <| .c 5 R <| .c 6 R <| .c 8 R <| .c 10 R <| .c 11 R <| .c 12 R <| zd _) qS ?_ ?_))
  ·refine y7 (clsL [1, 1, 1, 2, 1, 2, 1, 2]) qk ?_
   refine z9 0 R R (E R R (z7 (z9 1 R R (zg R fo88_1 R ?_))))
   refine z7 (z9 2 R R (zx R zI R qN ?_))
   refine z7 (yA (is := [3, 5]) qk jD (zU R ?_ <| zU R ?_ <| yB) )
   ·refine L.lookup1 (kenc := aK) (venc := iK) (l := ml) (k := o.2.1) R xd (yo yf zX sc5) zv3 R R qM ?_
    refine zE (t := 19) (u := .int .i64 (val0 (ml) (o.2.1))) R (by unfold val0; cases look (ml) (o.2.1) <;> rfl) ?_
    refine zh R qD ?_
    refine z9 4 R R (zT R R R jO ?_)
    refine z7 (zi 5 R (L.mapEntry (kenc := aK) (venc := iK) (l := ml) (k := o.2.1) (z0 := 0) R xd (yo yf zX sc5) zv3 R R qP (fun mt => ?_)))
    refine zh R qD ?_
    refine z9 6 R R (zr R R R (z7 (zi 7 R (L.entryStore (kenc := aK) (venc := iK) (l := Cv.put ml o.2.1 ((look ml o.2.1).getD 0)) (k := o.2.1) (v := val0 ml o.2.1 + 1) R R R R qP ?_))))
    rw [put_put]
    refine zh R qD ?_
    refine zN qk ?_
    exact z8 (zK ⟨R, R, R⟩ (zd _) (.c 0 R <| .c 5 R <| .c 6 R <| .c 8 R <| .c 10 R <| .c 11 R <| .c 12 R <| zd _) qD qD qF)
   refine L.mapEntry (kenc := aK) (venc := iK) (l := ml) (k := o.2.1) (z0 := 0) R xd (yo yf zX sc5) zv3 R R qP (fun mt => ?_)
   refine zh R qD ?_
   refine z9 6 R R (zr R R R (z7 (zi 3 R (L.lookup1E (kenc := aK) (venc := iK) (l := Cv.put ml o.2.1 ((look ml o.2.1).getD 0)) (k := o.2.1) R xd (yo yf zX sc5) zv3 R R qM ?_))))
   refine zE (t := 19) (u := .int .i64 (val0 ml o.2.1)) R (by rw [xH, if_pos R]; rfl) ?_
   refine zh R qD ?_
   refine z9 4 R R (zT R R R jO ?_)
   refine z7 (zi 7 R (L.entryStore (kenc := aK) (venc := iK) (l := Cv.put ml o.2.1 ((look ml o.2.1).getD 0)) (k := o.2.1) (v := val0 ml o.2.1 + 1) R R R R qP ?_))
   rw [put_put]
   refine zh R qD ?_
   refine zN qk ?_
   exact z8 (zK ⟨R, R, R⟩ (zd _) (.c 0 R <| .c 5 R <| .c 6 R <| .c 8 R <| .c 10 R <| .c 11 R <| .c 12 R <| zd _) qD qD qF)
  rintro _ _ _ ⟨rfl, rfl, rfl⟩
  refine zM qA qA qA ?_
  refine z8 (O (E R R (zg R fo88_1 R ?_)))
  refine zx R zI R qN ?_
  refine L.lookup1 (kenc := aK) (venc := iK) (l := (put ml o.2.1 (val0 ml o.2.1 + 1))) (k := o.2.1) R xd (yo yf zX sc5) zv3 R R qM ?_
  refine zE (t := 26) (u := .int .i64 (val0 ml o.2.1 + 1)) R (by rw [xH, if_pos R]; rfl) ?_
  refine yi R R R (E R R (yT (t := 28) R (fun h1 => ?_) (fun h1 => ?_)))
  ·try simp only [dq] at h1
   refine zj 28 R R R (E R R (zj 28 R R R (zg R fo88_1 R ?_)))
   refine zj 28 R R R (zx R zI R qN ?_)
   refine zj 28 R R R (yl R bs32 jD (yG R R j1 (Nat.le_of_ble_eq_true R) qR <| zQ (out := []) R) (fun b32 => ?_))
   refine yR (len := 1) qP (rows := ([o.2.1] : List ID32).map iC) (sz := 32) (by simp) R (fun r hr => by rw [List.mem_singleton.1 hr]; exact yw _) ?_
   refine yF qP ?_
   refine zj 28 R R R (zH R (ev2 R R) qD qS (dhas_spec (x := o.2.1)) jF ?_)
   refine zj 28 R R R (x7 R R (ym R R R (I (zA R (fun h35 => ?_) (fun h35 => ?_)))))
   ·try simp only [dq] at h35
    refine zt (E R R (zg R fo88_2 R ?_))
    refine zf R sc9 R qC ?_
    refine yL R ye R (zT R R R jO ?_)
    refine zE (t := 40) (u := .int .i64 ((o.2.2.length + 1 : Nat) : Int)) R (congrArg (Value.int .i64) jO) ?_
    refine zH R (ev1 R) qD qS (cost_spec (d := o.2.2.length + 1) jO) jF ?_
    refine zT R R R jO ?_
    refine zE (t := 42) (u := .int .i64 ((z + cO o : Nat) : Int)) R (congrArg (Value.int .i64) jO) ?_
    refine V R R (zu (zS (z8 (zt (zT R R R jO ?_)))))
    exact E R R (I (zV ⟨i + 1, z + cO o, (put ml o.2.1 (val0 ml o.2.1 + 1)), ⟨by omega, by rw [sumC_s hgi]; omega, hC.next _⟩, R, R, R, R⟩ qI (.c 12 R <| .c 5 R <| zd _) (.c 0 R <| .c 6 R <| .c 10 R <| .c 11 R <| zd _) qD qD qF))
   try simp only [dq] at h35
   refine zq (zS (z8 (zt (zT R R R jO ?_))))
   exact E R R (I (zV ⟨i + 1, z, (put ml o.2.1 (val0 ml o.2.1 + 1)), ⟨by omega, by rw [sumC_s hgi]; omega, hC.next _⟩, R, R, R, R⟩ qI (.c 12 R <| .c 5 R <| zd _) (.c 0 R <| .c 6 R <| .c 10 R <| .c 11 R <| zd _) qD qD qF))
  try simp only [dq] at h1
  refine zw 28 false R R R R R jD (zw 28 false R R R R R jD (zw 28 false R R R R R jD (zw 28 false R R R R R jD (zw 28 false R R R R R jD (zw 28 false R R R R R jD (yg R R R (I (zR R R ?_))))))))
  refine zq (zS (z8 (zt (zT R R R jO ?_))))
  exact E R R (I (zV ⟨i + 1, z, (put ml o.2.1 (val0 ml o.2.1 + 1)), ⟨by omega, by rw [sumC_s hgi]; omega, hC.next _⟩, R, R, R, R⟩ qI (.c 12 R <| .c 5 R <| zd _) (.c 0 R <| .c 6 R <| .c 10 R <| .c 11 R <| zd _) qD qD qF))
 try simp only [dq] at h13
 obtain rfl : n = i := by omega
 rw [List.take_of_length_le jO] at hz
 exact y4 (zG (zG (y5 (z8 (O (E R R (V R R (I (zo (zy R R ⟨_, R, hz, R, R⟩ qD qF))))))))))
theorem dget_spec {bd bb tn : Nat} {k : Dk} {rs : List Rc} {x : ID32}  : Spec Tryz.prog 170 [.pointer (some ⟨bd, 0, none⟩), .agg (iC x).toArray] [cl k.bd 51 [.pointer (some ⟨k.bf, 0, none⟩), .slice (some ⟨k.sb, 0, none⟩) k.n k.n, .map (some k.bl)]] [dpA bd bb k none tn rs] (fun v D' M' => v = .tuple #[.agg (obC (getO (osR rs) x)).toArray, .int .i64 (getE (osR rs) x)] ∧ D' = [] ∧ M' = [dpA bd bb k none tn rs]) := by
 refine zv (n := 51) Tryz.func170 ?_
 intro σ D M
 have hx2 := x.2
 have hx3 := yw x
 refine T.dpU qP (fun m hu => ?_)
 refine O (y6 R R R (fun b3 => ?_))
 refine zC R ze88 (fun b4 => ?_)
 refine V R R (zu (zO (A := cl b3 38 (iC x)) qP ?_))
 refine z8 (ze (xg qk qk (E R R (zJ R R ?_))))
 refine zg R fo121_1 R ?_
 refine zf R sc108 R qC ?_
 refine zx R zI R qN ?_
 refine L.lookup2 (kenc := aK) (venc := iK) (l := (atF (bsN k.n tn) rs [])) (k := x) R xd (yo yf zX sc5) zv3 R R qM ?_
 refine zE (t := 17) (u := .tuple #[.int .i64 ((look (atF (bsN k.n tn) rs []) x).getD 0), .bool ((look (atF (bsN k.n tn) rs []) x).isSome)]) R (by skip; cases look (atF (bsN k.n tn) rs []) x <;> rfl) ?_
 refine E R R (zr R R R (zr R R R (V R R (V R R (yY (z8 (ze (O (E R R (x7 R R (I (zA R (fun h21 => ?_) (fun h21 => ?_)))))))))))))
 ·try simp only [dq] at h21
  have hgo := go_isS hu.1 h21
  refine O (yq R bu88 (zQ (out := (Value.int .i64 0 :: j8 :: j8 :: j8 :: j8 :: j8 :: j8 :: j8 :: j8 :: j8 :: j8 :: j8 :: j8 :: j8 :: j8 :: j8 :: j8 :: j8 :: j8 :: j8 :: j8 :: j8 :: j8 :: j8 :: j8 :: j8 :: j8 :: j8 :: j8 :: j8 :: j8 :: j8 :: j8 :: S [] :: [])) R) ?_)
  refine zz ag88 R R qL qO qU qW ?_
  refine V R R (I (zo (zL ?_)))
  rw [getO_miss hgo, getE_miss hgo]
  refine T.dpF (m := m) (hu) qS ?_
  exact yW R ag88 R qN R ⟨R, R, R⟩ qD qF
 try simp only [dq] at h21
 obtain ⟨o, hgo⟩ := go_isT (h21)
 obtain ⟨r1, r, r2, hrs, hrc, hlk⟩ := go_at (p := bsN k.n tn) hu.1 hgo
 refine T.bkU qP (fun x hx => ?_)
 have hrok := hx.2.2.2.1
 refine T.bkF (cur := x.cur) (pv := x.pv) (e := x.e) (sm := x.sm) (bp := x.bp) (hx) qS ?_
 subst hrs
 have hrl := (hrok r (by simp)).2.2
 have ho33 := obC_len o
 have ho32 := o.2.1.2
 have hox := (goF_mem hgo).2
 refine T.known (t := 6) (u := .int .i64 ((bsN k.n tn + csts r1 : Nat) : Int)) R (by rw [hlk]; rfl) ?_
 refine zq (z8 (O (E R R (zJ R R ?_))))
 refine zg R fo121_0 R ?_
 refine zf R sc114 R qC ?_
 refine E R R (zp R (ev2 R R) qD qS (bget_spec (r1 := r1) (r2 := r2) (kd := r.1) (d := r.2) (tn := tn)) ?_)
 rintro _ _ _ ⟨rfl, rfl, rfl⟩
 refine zm qA qA ?_
 refine E R R (zr R R R (zr R R R (zC R ze85 (fun b8 => ?_))))
 refine zz yD R R qL qO qU qW ?_
 refine V R R (zu (zO (A := cl b8 85 [.int .i64 (r.1 : Int), S r.2, .int .i64 ((bsN k.n tn + csts r1 : Nat) : Int)]) qP ?_))
 refine z8 (ze (O (E R R (zZ R R R (I (zR R (decide_eq_false (fun q => q R)) ?_))))))
 refine zq (z8 (O (zx R yD R qN ?_)))
 refine zH R (ev1 R) qD qS (dobj_spec (kd := r.1) (d := r.2) jO) jF ?_
 rw [show obO (r.1, r.2) = o from obO_is hrc, show (rcO (r.1, r.2)).isSome = true from by rw [show rcO (r.1, r.2) = some o from hrc]; rfl]
 refine E R R (zr R R R (zr R R R (zC R ze88 (fun b10 => ?_))))
 refine zz ag88 R R qL qO qU qW ?_
 refine V R R (zu (zO (A := cl b10 88 (obC o)) qP ?_))
 refine z8 (ze (O (E R R (x7 R R (E R R (zE (t := 43) R (show _ = Value.bool false from congrArg Value.bool (R)) ?_))))))
 refine zj 43 R R R (zg R fo88_1 R ?_)
 refine zj 43 R R R (zx R zI R qN ?_)
 refine zj 43 R R R (zx R zI R qN ?_)
 refine zj 43 R R R (L.neqArrI qk R yf zX sc5 R R qL qL ?_)
 refine yg R R R (I (zR R (by rw [hox]; simp) ?_))
 refine zq (z8 (O (zx R ag88 R qN ?_)))
 refine zz ag88 R R qL qO qU qW ?_
 refine V R R (I (zo ?_))
 rw [getO_hit hgo, getE_hit hgo]
 refine T.dpF (m := m) (hu) qS ?_
 exact yW R ag88 R qN R ⟨R, R, R⟩ qD qF
end Cv
set_option maxRecDepth 10000
namespace Cv
open Go Go.Proofs

theorem dpack_spec {bd bb tn n c n2 c2 : Nat} {k : Dk} {rs : List Rc} {a a2 : Option Addr} {xs : List ID32} {ms : List RcA} (hn : n ≤ 400000) (hn2 : n2 ≤ 400000) (hnd : xs.Nodup) (hmk : ∀ m ∈ ms, RcOk m.1) (hmo : ∀ m ∈ ms.map (·.1), rcO m = none) (hcs : csts ((pkO (osR rs) xs).map obRc ++ ms.map (·.1)) < hfN k.n) (htn : tn ≤ 900000) : Spec Tryz.prog 131 [.pointer (some ⟨bd, 0, none⟩), .slice a n c, .slice a2 n2 c2] [cl k.bd 51 [.pointer (some ⟨k.bf, 0, none⟩), .slice (some ⟨k.sb, 0, none⟩) k.n k.n, .map (some k.bl)], rsl 32 a n c (xs.map iC), rsl 3 a2 n2 c2 (ms.map rcC)] [dpA bd bb k none tn rs] (fun v D' M' => ∃ (a' : Option Addr) (n' c' : Nat), v = .tuple #[.slice a' n' c', .int .i64 0] ∧ D' = [] ∧ M' = [dpA bd bb k none (tn + 1) ((pkO (osR rs) xs).map obRc ++ ms.map (·.1))]) := by
 refine zv (n := 55) Tryz.func131 ?_
 intro σ D M
 refine yU (a := a) (len := n) (cap := c) (rows := xs.map iC) qM (fun hxl hxc => ?_)
 rw [List.length_map] at hxl
 refine yU (a := a2) (len := n2) (cap := c2) (rows := ms.map rcC) qM (fun hml hmc => ?_)
 rw [List.length_map] at hml
 refine T.dpU qP (fun m hu => ?_)
 refine T.dpF (m := m) (hu) qS ?_
 refine O (V R R (V R R (I (O (V R R (zu (yM (sz := 3) (e := 85) ?_)))))))
 refine y3 qP (show own 3 85 none 0 0 [] = own 3 85 none 0 0 (((pkA (osR rs) (xs.take 0))).map rcC) from R) ?_
 refine z8 (ze (O (E R R (yb R yh R (E R R (I (zD (y8 (fun K' D' M' μ => ∃ (i on_ oc : Nat) (oa : Option Addr), (i ≤ n ∧ (pkA (osR rs) (xs.take i)).length = on_) ∧ K' = [(16, .int .i64 (i : Int)), (8, .slice oa on_ oc)] ∧ D' = [] ∧ M' = [dpA bd bb k none tn rs, own 3 85 oa on_ oc (((pkA (osR rs) (xs.take i))).map rcC)] ∧ μ = n - i) (.c 0 R <| .c 2 R <| .c 14 R <| .c 15 R <| zd _) (⟨0, 0, 0, none, ⟨Nat.zero_le _, R⟩, R, R, R, R⟩) (.c 16 R <| .c 8 R <| zd _) qD qS ?_))))))))
 rintro K1 D1 M1 m1 ⟨i, on_, oc, oa, ⟨hi, hol⟩, rfl, rfl, rfl, rfl⟩
 refine zM qA qA qA ?_
 refine O (zW R R R (I (ze (zA R (fun h17 => ?_) (fun h17 => ?_)))))
 ·try simp only [dq] at h17
  refine zq (z8 (ze (zD (ze ?_))))
  have hgi : xs[i]? = some (gd xs i) := y9 jO
  obtain ⟨x, hx_⟩ : ∃ z, z = gd xs i := ⟨_, rfl⟩
  rw [← hx_] at hgi
  clear hx_
  have hgr : (xs.map iC)[i]? = some (iC x) := yJ hgi
  have hx2 := x.2
  have hx3 := yw x
  have hpl := @pkA_len (osR rs) (xs.take i)
  rw [List.length_take] at hpl
  refine zt (yP (i := i) R yh sz38 R R qM jR qG (fun b18 o18 => ?_))
  refine zx R zI R (xl qM hx3) ?_
  refine zC R ze38 (fun b10 => ?_)
  refine zz zI R R qL qO qU qW ?_
  refine zu (zO (A := cl b10 38 (iC x)) qP ?_)
  refine z8 (ze ?_)
  have hob := obC_len (getO (osR rs) x)
  have hoi := (getO (osR rs) x).2.1.2
  refine zt (E R R (zx R zI R qN ?_))
  refine zp R (ev2 R R) qD qS (dget_spec (x := x)) ?_
  rintro _ _ _ ⟨rfl, rfl, rfl⟩
  refine zm qA qA ?_
  refine E R R (zr R R R (zr R R R (zC R ze88 (fun b11 => ?_))))
  refine zz ag88 R R qL qO qU qW ?_
  refine V R R (zu (zO (A := cl b11 88 (obC (getO (osR rs) x))) qP ?_))
  refine z8 (O (E R R (yi R R R (I (zA R (fun h27 => ?_) (fun h27 => ?_))))))
  ·try simp only [dq] at h27
   have hgo := getE_0 h27
   have hoo := hu.2 _ (goF_mem hgo).1
   obtain ⟨ho1, ho2, -, ho5⟩ := id hoo
   refine zt (E R R (zx R ag88 R qN ?_))
   refine zH R (ev1 R) qD qS (drec_spec (o := getO (osR rs) x) jO jO) jF ?_
   refine yl R bs115 jD (yG R R j1 (Nat.le_of_ble_eq_true R) qR <| zQ (out := []) R) (fun b31 => ?_)
   refine x6 R xz el85 R R qP qM R qO1 qI qI (fun a32 c32 => ?_)
   refine V R R (zu (zS (z8 (zt (zT R R R jO ?_)))))
   refine E R R (I (yp _ ((pkA (osR rs) (xs.take (i + 1))).map rcC) qP (by rw [pkA_t hgi hgo, List.map_append]; rfl) ?_))
   exact zV ⟨i + 1, on_ + 1, _, _, ⟨by omega, by rw [pkA_t hgi hgo, List.length_append, hol]; rfl⟩, R, R, R, R⟩ qI (.c 16 R <| .c 8 R <| zd _) (.c 0 R <| .c 2 R <| .c 14 R <| .c 15 R <| zd _) qD qD qF
  try simp only [dq] at h27
  have hgo := getE_7 h27
  rw [getE_miss hgo]
  refine O (E R R (yi R R R (I (zR R (decide_eq_false jD) ?_))))
  refine zq (zS (z8 (zt (zT R R R jO ?_))))
  refine E R R (I (yp _ ((pkA (osR rs) (xs.take (i + 1))).map rcC) qP (by rw [pkA_f hgi hgo]) ?_))
  exact zV ⟨i + 1, on_, _, _, ⟨by omega, by rw [pkA_f hgi hgo]; exact hol⟩, R, R, R, R⟩ qI (.c 16 R <| .c 8 R <| zd _) (.c 0 R <| .c 2 R <| .c 14 R <| .c 15 R <| zd _) qD qD qF
 try simp only [dq] at h17
 obtain rfl : n = i := by omega
 rw [List.take_of_length_le jO] at hol ⊢
 have hpl := @pkA_len (osR rs) xs
 refine T.dpU qP (fun m hu => ?_)
 refine y4 (zG (zG (y5 (z8 (ze (yx (fun K' D' M' => ∃ (qa : Option Addr) (qn qc : Nat), (((pkO (osR rs) xs).map obRc ++ ms.map (·.1)).length = qn) ∧ K' = [(8, .slice qa qn qc), (13, .int .i64 0)] ∧ D' = [rsl 3 qa qn qc ((posL (bsN k.n (tn + 1)) ((pkO (osR rs) xs).map obRc ++ ms.map (·.1))).map rcC)] ∧ M' = [cl bd 121 [.pointer (some ⟨bb, 0, none⟩), .map (some m)], mp m aK iK (atF (bsN k.n tn) rs []), bkA bb k none (tn + 1) ((pkO (osR rs) xs).map obRc ++ ms.map (·.1))]) (M0 := [cl bd 121 [.pointer (some ⟨bb, 0, none⟩), .map (some m)], mp m aK iK (atF (bsN k.n tn) rs []), bkA bb k none tn rs, own 3 85 oa on_ oc ((pkA (osR rs) xs).map rcC)]) (.c 0 R <| zd _) qS ?_ ?_))))))
 ·refine y7 (clsL [1, 1, 1, 2, 1, 1, 2, 2, 1, 1, 1, 1, 1]) qk ?_
  refine z9 0 R R (E R R (z7 (yX (i := 1) R R qk qk qk R qD R ?_)))
  refine z9 2 R R (zg R fo121_0 R ?_)
  refine z7 (z9 4 R R (E R R (z7 (z9 5 R R (E R R (z7 (yA (is := [3, 6]) qk jD (zU R ?_ <| zU R ?_ <| yB) )))))))
  ·refine zf R sc114 R qC ?_
   refine zh R qD ?_
   refine zi 6 R (xC R xz xz el85 R R qP (rd_D qM) one_rcs qI qI (fun a44 c44 => ?_))
   refine L.ownEq _ ((pkA (osR rs) xs ++ ms).map rcC) qP (by rw [List.map_append]) ?_
   refine yF (rows := (pkA (osR rs) xs ++ ms).map rcC) qP ?_
   refine zh R qD ?_
   refine zi 7 R (zp R (ev2 R R) qD qS (brew_spec (tn := tn) (rs := rs) (l := pkA (osR rs) xs ++ ms) (pk_ok hu.2 hmk) (by rw [pk_map]; exact hcs) htn) ?_)
   rintro _ _ _ ⟨qa, qn, qc, rfl, hqn, rfl, rfl⟩
   refine zm qA qA ?_
   rw [pk_map]
   refine yF qP ?_
   refine zh R qD ?_
   refine z9 8 R R (E R R (z7 (z9 9 R R (zr R R R (z7 (z9 10 R R (zr R R R (z7 (z9 11 R R (V R R (z7 (z9 12 R R (V R R (z7 (zN qk ?_)))))))))))))))
   exact z8 (zK ⟨_, _, _, (by rw [← hqn, ← pk_map, List.length_map]), R, R, R⟩ (.c 8 R <| .c 13 R <| zd _) (.c 0 R <| zd _) qD qD qF)
  refine xC R xz xz el85 R R qP (rd_D qM) one_rcs qI qI (fun a44 c44 => ?_)
  refine L.ownEq _ ((pkA (osR rs) xs ++ ms).map rcC) qP (by rw [List.map_append]) ?_
  refine yF (rows := (pkA (osR rs) xs ++ ms).map rcC) qP ?_
  refine zh R qD ?_
  refine zi 3 R (zf R sc114 R qC ?_)
  refine zh R qD ?_
  refine zi 7 R (zp R (ev2 R R) qD qS (brew_spec (tn := tn) (rs := rs) (l := pkA (osR rs) xs ++ ms) (pk_ok hu.2 hmk) (by rw [pk_map]; exact hcs) htn) ?_)
  rintro _ _ _ ⟨qa, qn, qc, rfl, hqn, rfl, rfl⟩
  refine zm qA qA ?_
  rw [pk_map]
  refine yF qP ?_
  refine zh R qD ?_
  refine z9 8 R R (E R R (z7 (z9 9 R R (zr R R R (z7 (z9 10 R R (zr R R R (z7 (z9 11 R R (V R R (z7 (z9 12 R R (V R R (z7 (zN qk ?_)))))))))))))))
  exact z8 (zK ⟨_, _, _, (by rw [← hqn, ← pk_map, List.length_map]), R, R, R⟩ (.c 8 R <| .c 13 R <| zd _) (.c 0 R <| zd _) qD qD qF)
 rintro _ _ _ ⟨qa, qn, qc, hqn, rfl, rfl, rfl⟩
 refine zM qA qA qA ?_
 refine z8 (ze (O (E R R (yi R R R (I (yV R (decide_eq_true R) ?_))))))
 refine T.bkU qP (fun y hy => ?_)
 have hok2 := hy.2.2.2.1
 have hrl2 : ∀ r ∈ ((pkO (osR rs) xs).map obRc ++ ms.map (·.1)), r.2.length ≤ 1000000 := fun r hr => Nat.le_trans (hok2 r hr).2.2 jD
 have hq2 : qn ≤ 1000000 := by rw [← hqn, ← pk_map, List.length_map, List.length_append]; omega
 refine T.bkF (cur := y.cur) (pv := y.pv) (e := y.e) (sm := y.sm) (bp := y.bp) (hy) qS ?_
 refine zt (E R R (E R R (zp R (ev2 R R) qD qS (dsee_spec (p := bsN k.n (tn + 1)) (rs := ((pkO (osR rs) xs).map obRc ++ ms.map (·.1))) (fun r hr => hrl2 r hr) hq2) ?_)))
 rintro _ _ _ ⟨m2, rfl, rfl, rfl⟩
 refine zm qA qA ?_
 refine I (O (E R R (E R R (V R R (V R R (I (zo (T.dpF (m := m2) (hu.pk hnd hmo) qS ?_))))))))
 exact x8 R R R ⟨_, _, _, R, R, R⟩ qD qF
end Cv
