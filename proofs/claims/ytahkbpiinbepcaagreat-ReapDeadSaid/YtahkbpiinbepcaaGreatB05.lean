/-
  The walks: package strings, walked.
-/
import Derived.Test.YtahkbpiinbepcaaGreatFA11
import Derived.Test.YtahkbpiinbepcaaGreatProg
import Derived.KernelRfl
import Derived.Lib.IndexAny
import Derived.Shelf.Strings.IndexAnyAll
import Derived.Shelf.Lay
import Derived.Ground.NamesProg
set_option linter.unusedVariables false
set_option linter.unusedSimpArgs false
set_option linter.unusedSectionVars false
set_option maxHeartbeats 400000
set_option maxRecDepth 10000
namespace Cv
open Go Go.Proofs
/-! ## trees: how many, and whether they may be -/
mutual
def Tr.count : Tr → Nat
  | .mk _ _ _ ks => 1 + countL ks
def countL : List Tr → Nat
  | [] => 0
  | y :: ys => y.count + countL ys
end
theorem Tr.count_eq (x : Tr) : x.count = 1 + countL x.ks := by cases x; rw [Tr.count]; rfl
theorem countL_append : ∀ (xs ys : List Tr), countL (xs ++ ys) = countL xs + countL ys
  | [], ys => by simp [countL]
  | x :: xs, ys => by rw [List.cons_append, countL, countL, countL_append xs ys]; omega
theorem countL_step {ks : List Tr} {i : Nat} {y : Tr} (h : ks[i]? = some y) : countL (ks.take (i + 1)) = countL (ks.take i) + y.count ∧ countL (ks.take (i + 1)) ≤ countL ks := by
  have e : countL ks = countL (ks.take (i + 1)) + countL (ks.drop (i + 1)) := by rw [← countL_append, List.take_append_drop]
  rw [List.take_add_one, h] at *
  simp only [Option.toList_some, countL_append, countL] at *
  omega
theorem kid_mem {ks : List Tr} {i : Nat} {y : Tr} (h : ks[i]? = some y) : y ∈ ks := List.mem_of_getElem? h
theorem count_pos (x : Tr) : 0 < x.count := by rw [Tr.count_eq]; omega
theorem count_le_len : ∀ ks : List Tr, ks.length ≤ countL ks
  | [] => by simp [countL]
  | y :: ys => by have := count_pos y; have := count_le_len ys; simp [countL]; omega


end Cv
set_option maxRecDepth 10000
namespace Cv
open Go Go.Proofs
/-! ## bytes sought in strings -/
abbrev ibF (l : List UInt8) (c : UInt8) : Int := Go.Lib.indexByte l c
theorem ibF_lb (c : UInt8) : ∀ l, -1 ≤ ibF l c ∧ ibF l c < l.length
  | [] => by simp [ibF, Go.Lib.indexByte]
  | b :: l => by
    have ih := ibF_lb c l
    simp only [ibF, Go.Lib.indexByte, List.length_cons] at ih ⊢
    split
    · omega
    · split <;> omega
theorem ibF_ge {c : UInt8} : ∀ {l : List UInt8}, 0 ≤ ibF l c ↔ c ∈ l
  | [] => by simp [ibF, Go.Lib.indexByte]
  | b :: l => by
    have ih := ibF_ge (c := c) (l := l)
    have lb := ibF_lb c l
    simp only [ibF, Go.Lib.indexByte, beq_iff_eq, List.mem_cons] at ih lb ⊢
    by_cases h : b = c
    · simp [h]
    · rw [if_neg h]
      by_cases h2 : Go.Lib.indexByte l c = -1
      · rw [if_pos h2]
        have : ¬ c ∈ l := fun q => by have := ih.2 q; omega
        simp [this, Ne.symm h]
      · rw [if_neg h2]
        have : c ∈ l := ih.1 (by omega)
        simp [this]; omega
theorem ibF_no {l : List UInt8} {c : UInt8} (h : c ∉ l) : ibF l c = -1 := by
  have h1 := ibF_lb c l
  have h2 : ¬ 0 ≤ ibF l c := fun q => h (ibF_ge.1 q)
  omega
def Asc (l : List UInt8) : Prop := ∀ b ∈ l, b.toNat < 128
def irF (l : List UInt8) (r : Nat) : Int := if r < 128 then ibF l (UInt8.ofNat r) else -1
theorem asc_at {l : List UInt8} (h : Asc l) {p : Nat} (hp : p < l.length) : (l.getD p 0).toNat < 128 := h _ (by
  have : l.getD p 0 = l[p] := by simp [List.getD, hp]
  rw [this]; exact List.getElem_mem hp)
theorem ofNat_mod {r : Nat} (h : r < 128) : UInt8.ofNat ((r : Int) % 256).toNat = UInt8.ofNat r := by
  congr 1; omega
def badN (s : List UInt8) : Bool := s.any (fun b => b == 47 || b == 0)
theorem ir_47 {r : Nat} (h : r < 128) : 0 ≤ irF [47, 0] r ↔ r = 47 ∨ r = 0 := by
  unfold irF
  rw [if_pos h, ibF_ge]
  simp only [List.mem_cons, List.not_mem_nil, or_false]
  constructor
  · rintro (q | q)
    · left
      have := congrArg UInt8.toNat q
      rw [UInt8.toNat_ofNat'] at this
      simp at this; omega
    · right
      have := congrArg UInt8.toNat q
      rw [UInt8.toNat_ofNat'] at this
      simp at this; omega
  · rintro (q | q) <;> subst q <;> simp
def cleanTo (s : List UInt8) (p : Nat) : Prop := ∀ j, j < p → j < s.length → s.getD j 0 ≠ 47 ∧ s.getD j 0 ≠ 0
theorem badN_false {s : List UInt8} {p : Nat} (h : cleanTo s p) (hp : s.length ≤ p) : badN s = false := by
  rw [badN, List.any_eq_false]
  intro b hb
  obtain ⟨j, hj, rfl⟩ := List.getElem_of_mem hb
  have := h j (by omega) hj
  have e : s.getD j 0 = s[j] := by simp [List.getD, hj]
  rw [e] at this
  simp [this.1, this.2]
theorem badN_true {s : List UInt8} {p : Nat} (hp : p < s.length) (h : s.getD p 0 = 47 ∨ s.getD p 0 = 0) : badN s = true := by
  rw [badN, List.any_eq_true]
  have e : s.getD p 0 = s[p] := by simp [List.getD, hp]
  rw [e] at h
  exact ⟨s[p], List.getElem_mem hp, by simpa using h⟩
theorem byte_of {b : UInt8} (h : b.toNat = 47 ∨ b.toNat = 0) : b = 47 ∨ b = 0 := by
  rcases h with h | h
  · left; apply UInt8.toNat_inj.1; exact h
  · right; apply UInt8.toNat_inj.1; exact h
theorem to_byte {b : UInt8} (h : b = 47 ∨ b = 0) : b.toNat = 47 ∨ b.toNat = 0 := by rcases h with rfl | rfl <;> simp
theorem clean_step {s : List UInt8} {p : Nat} (hp : p < s.length) (h : cleanTo s p) (hno : ¬ 0 ≤ irF [47, 0] (decF s p).1) : cleanTo s (p + (decF s p).2) := by
  by_cases ha : (s.getD p 0).toNat < 128
  · rw [decF_ascii ha] at hno ⊢
    rw [ir_47 ha] at hno
    intro j hj hl
    by_cases e : j < p
    · exact h j e hl
    · obtain rfl : j = p := by simp only at hj; omega
      exact ⟨fun q => hno (to_byte (.inl q)), fun q => hno (to_byte (.inr q))⟩
  · obtain ⟨_, _, h3⟩ := decF_more ha
    intro j hj hl
    by_cases e : j < p
    · exact h j e hl
    · have h128 : 128 ≤ (s.getD j 0).toNat := by
        by_cases e2 : j = p
        · subst e2; omega
        · have := (h3 (j - p) (by omega) (by omega)).2
          rwa [show p + (j - p) = j by omega] at this
      constructor
      · intro q; rw [q] at h128; simp at h128
      · intro q; rw [q] at h128; simp at h128
theorem hit_step {s : List UInt8} {p : Nat} (hp : p < s.length) (hyes : 0 ≤ irF [47, 0] (decF s p).1) : badN s = true := by
  by_cases ha : (s.getD p 0).toNat < 128
  · rw [decF_ascii ha, ir_47 ha] at hyes
    exact badN_true hp (byte_of hyes)
  · obtain ⟨h1, _⟩ := decF_more ha
    unfold irF at hyes
    rw [if_neg (by have := h1.1; omega)] at hyes
    omega
theorem dec_ok {s : List UInt8} {p : Nat} : (decF s p).1 < 128 ∨ okR (decF s p).1 := by
  by_cases ha : (s.getD p 0).toNat < 128
  · left; rw [decF_ascii ha]; exact ha
  · exact .inr (decF_more ha).1
theorem indexAny_bad : ∀ {s : List UInt8}, 0 ≤ Go.Lib.indexAny s [47, 0] ↔ badN s = true
  | [] => by simp [Go.Lib.indexAny, badN]
  | b :: s => by
    have ih := indexAny_bad (s := s)
    have lb := Go.Lib.indexAny_ge [47, 0] s
    have e : badN (b :: s) = ((b == 47 || b == 0) || badN s) := by simp [badN]
    rw [e]
    unfold Go.Lib.indexAny
    have ec : ([47, 0] : List UInt8).contains b = (b == 47 || b == 0) := by simp [List.contains, List.elem]; cases b == 47 <;> cases b == 0 <;> rfl
    rw [ec]
    by_cases h : (b == 47 || b == 0) = true
    · simp [h]
    · rw [if_neg h]
      have h' : (b == 47 || b == 0) = false := by simpa using h
      rw [h', Bool.false_or, ← ih]
      by_cases h2 : Go.Lib.indexAny s [47, 0] = -1
      · simp [h2]
      · simp [h2]; omega
def nameB (s : List UInt8) : Bool := decide (s ≠ []) && decide (s.length ≤ 24) && decide (s ≠ [46]) && decide (s ≠ [46, 46]) && !badN s

theorem ibx : IsX Tryz.prog 199 Extern.BytealgIndexByte.indexByte := IsX.of Tryz.func199 qk qk qk qk
theorem L.idxByteX {P : Program} {σ : World} {n : Nat} {Q : Post} {K : Env} {D M : List Asn} {m : Option (List Asn × List Asn)} {ops : Array Oper} {rest : List Oper} {d : Nat} {ty : TypeId} {pos : String} {aft : Array Edge} {f : FuncId} {x y : Operand} {ats : Array TypeId} {l : List UInt8} {c : UInt8} (hX : IsX P f Extern.BytealgIndexByte.indexByte) (hd : Nat.blt d n = true) (hx : evs K [x, y] [S l, Y c])
  (next : TL m P σ n ops Q rest ((d, .int .i64 (ibF l c)) :: K) D M) : TL m P σ n ops Q (⟨some d, .call { callee := .value (.func f), args := [x, y].toArray, argTypes := ats }, ty, pos, aft, none⟩ :: rest) K D M :=
 L.callX hX hd hx (fun w ss => by
  have := Go.Lib.run_indexByteString (P := P) ⟨l.toArray⟩ (c.toNat : Int) w
  rw [show ((c.toNat : Int).toNat).toUInt8 = c from by simp] at this
  exact this) next
theorem slib_spec {l : List UInt8} {c : UInt8}  : Spec Tryz.prog 191 [S l, Y c] [] [] (fun v D' M' => v = .int .i64 (ibF l c) ∧ D' = [] ∧ M' = []) := by
 refine zC (n := 8) Tryz.func191 ?_
 intro σ D M
 refine z6 (z8 (z9 rfl rfl (z7 (z4 (z6 (z8 (z5 rfl rfl (z5 rfl rfl (L.idxByteX ibx rfl (ev2 rfl rfl) ?_)))))))))
 exact z9 rfl rfl (z7 (z4 (zi (zz rfl rfl ⟨rfl, rfl, rfl⟩ qD qF))))
theorem sib_spec {l : List UInt8} {c : UInt8}  : Spec Tryz.prog 201 [S l, Y c] [] [] (fun v D' M' => v = .int .i64 (ibF l c) ∧ D' = [] ∧ M' = []) := by
 refine zC (n := 8) Tryz.func201 ?_
 intro σ D M
 refine z6 (z8 (z9 rfl rfl (z7 (z4 (z6 (z8 (z5 rfl rfl (z5 rfl rfl (zW rfl (ev2 rfl rfl) qD qS (slib_spec) jF ?_)))))))))
 exact z9 rfl rfl (z7 (z4 (zi (zz rfl rfl ⟨rfl, rfl, rfl⟩ qD qF))))
theorem vr_spec {r : Nat} (hr : r < 1114112) : Spec Tryz.prog 202 [.int .i32 (r : Int)] [] [] (fun v D' M' => v = .bool (Utf8.valid (r : Int)) ∧ D' = [] ∧ M' = []) := by
 refine zC (n := 17) Tryz.func202 ?_
 intro σ D M
 refine z6 (z8 (z9 rfl rfl (z7 (z4 (z6 (zr (z6 (yu (fun K' D' M' => ∃ (w : Bool), (w = true ↔ r < 55296) ∧ K' = [(3, .bool w)] ∧ D' = [] ∧ M' = []) (M0 := []) (.c 0 rfl <| za _) qS ?_ ?_))))))))
 ·skip
  refine z8 (z5 rfl rfl (L.leI rfl rfl rfl (z5 rfl rfl (yM (t := 6) rfl (fun h1 => ?_) (fun h1 => ?_)))))
  ·try simp only [dq] at h1
   exact zf (dj := 6) rfl rfl rfl (z5 rfl rfl (zf (dj := 6) rfl rfl rfl (zQ rfl rfl rfl (ye rfl rfl rfl (z9 rfl rfl (z7 (z4 (zK ⟨_, (by simp <;> omega), rfl, rfl, rfl⟩ (.c 3 rfl <| za _) (.c 0 rfl <| za _) qD qD qF))))))))
  ·try simp only [dq] at h1
   exact zg (dj := 6) (c := false) rfl rfl rfl rfl rfl jD (zg (dj := 6) (c := false) rfl rfl rfl rfl rfl jD (y5 rfl rfl rfl (z9 rfl rfl (z7 (z4 (zK ⟨_, (by simp <;> omega), rfl, rfl, rfl⟩ (.c 3 rfl <| za _) (.c 0 rfl <| za _) qD qD qF))))))
 rintro _ _ _ ⟨w, hw, rfl, rfl, rfl⟩
 refine zF qA qA qA ?_
 refine z4 (zo rfl (fun h3 => ?_) (fun h3 => ?_))
 ·try simp only [dq] at h3
  have hq := hw.1 h3
  exact z6 (z8 (z9 rfl rfl (z7 (z4 (zi (y3 (zD (zz rfl rfl ⟨congrArg Value.bool (by unfold Utf8.valid; simp; omega), rfl, rfl⟩ qD qF))))))))
 ·try simp only [dq] at h3
  have hq : ¬ r < 55296 := fun e => by have := hw.2 e; rw [h3] at this; cases this
  refine z6 (yu (fun K' D' M' => ∃ (w : Bool), (w = true ↔ (57343 < r ∧ r ≤ 1114111)) ∧ K' = [(10, .bool w)] ∧ D' = [] ∧ M' = []) (M0 := []) (za _) qS ?_ ?_)
  ·skip
   refine z8 (z5 rfl rfl (zQ rfl rfl rfl (z5 rfl rfl (yM (t := 13) rfl (fun h2 => ?_) (fun h2 => ?_)))))
   ·try simp only [dq] at h2
    exact zf (dj := 13) rfl rfl rfl (z5 rfl rfl (zf (dj := 13) rfl rfl rfl (L.leI rfl rfl rfl (ye rfl rfl rfl (z9 rfl rfl (z7 (z4 (zK ⟨_, (by simp <;> omega), rfl, rfl, rfl⟩ (.c 10 rfl <| za _) (za _) qD qD qF))))))))
   ·try simp only [dq] at h2
    exact zg (dj := 13) (c := false) rfl rfl rfl rfl rfl jD (zg (dj := 13) (c := false) rfl rfl rfl rfl rfl jD (y5 rfl rfl rfl (z9 rfl rfl (z7 (z4 (zK ⟨_, (by simp <;> omega), rfl, rfl, rfl⟩ (.c 10 rfl <| za _) (za _) qD qD qF))))))
  rintro _ _ _ ⟨w, hw2, rfl, rfl, rfl⟩
  refine zF qA qA qA ?_
  refine z4 (zo rfl (fun h10 => ?_) (fun h10 => ?_))
  ·try simp only [dq] at h10
   have hq2 := hw2.1 h10
   exact z6 (z8 (z9 rfl rfl (z7 (z4 (zi (y3 (zD (zz rfl rfl ⟨congrArg Value.bool (by unfold Utf8.valid; simp; omega), rfl, rfl⟩ qD qF))))))))
  ·try simp only [dq] at h10
   have hq2 : ¬ (57343 < r ∧ r ≤ 1114111) := fun e => by have := hw2.2 e; rw [h10] at this; cases this
   exact zm (zI (z4 (z6 (z8 (z9 rfl rfl (z7 (z4 (zi (zz rfl rfl ⟨congrArg Value.bool (by unfold Utf8.valid; simp; omega), rfl, rfl⟩ qD qF)))))))))
theorem ir_spec {l : List UInt8} {r : Nat} (hl : Asc l) (hr : r < 128 ∨ okR r) (hlen : l.length ≤ 100) (hr2 : r < 1114112) : Spec Tryz.prog 195 [S l, .int .i32 (r : Int)] [] [] (fun v D' M' => v = .int .i64 (irF l r) ∧ D' = [] ∧ M' = []) := by
 refine zC (n := 187) Tryz.func195 ?_
 intro σ D M
 refine z6 (z8 (z9 rfl rfl (z7 (z4 (zr (z6 (z8 (z5 rfl rfl (L.leI rfl rfl rfl (z5 rfl rfl (zv (t := 163) rfl (show _ = Value.bool true from congrArg Value.bool (decide_eq_true jO)) ?_)))))))))))
 refine zf (dj := 163) rfl rfl rfl (z5 rfl rfl (zf (dj := 163) rfl rfl rfl (zQ rfl rfl rfl (ye rfl rfl rfl (z9 rfl rfl (z7 (z4 (zo rfl (fun h160 => ?_) (fun h160 => ?_)))))))))
 ·try simp only [dq] at h160
  refine z6 (z8 (z5 rfl rfl (z5 rfl rfl (L.convIY rfl Tryz.underlying21 zY rfl ?_))))
  rw [ofNat_mod (r := r) jO]
  refine zW rfl (ev2 rfl rfl) qD qS (sib_spec (l := l) (c := UInt8.ofNat r)) jF ?_
  exact z9 rfl rfl (z7 (z4 (zi (y3 (zz rfl rfl ⟨by unfold irF; rw [if_pos (show r < 128 by omega)], rfl, rfl⟩ qD qF)))))
 ·try simp only [dq] at h160
  have h128 : ¬ r < 128 := by omega
  have hirF : irF l r = -1 := by unfold irF; rw [if_neg h128]
  refine z6 (z8 (z5 rfl rfl (yj rfl rfl rfl (z9 rfl rfl (z7 (z4 (zo rfl (fun h171 => ?_) (fun h171 => ?_))))))))
  ·try simp only [dq] at h171
   refine z6 (z6 (z8 (z5 rfl rfl (L.rangeStr rfl yy rfl (fun it => ?_)))))
   refine z7 (z4 (zr (zX (fun K' D' M' μ => ∃ (p : Nat), (True) ∧ K' = [] ∧ D' = [] ∧ M' = [sit it l p] ∧ μ = l.length - p) (.c 175 rfl <| za _) (⟨_, trivial, rfl, rfl, rfl, rfl⟩) (za _) qD qS ?_)))
   rintro K1 D1 M1 m1 ⟨p, _, rfl, rfl, rfl, rfl⟩
   refine zF qA qA qA ?_
   refine z6 (z8 (L.nextStr rfl rfl qP (fun hre => ?_) (fun hp => ?_)))
   ·skip
    skip
    refine zG rfl rfl rfl (z7 (z4 (z6 (ym rfl rfl ?_))))
    exact zR (zq (zq (zS (z4 (z6 (z8 (z9 rfl rfl (z7 (z4 (zi (y3 (zz rfl rfl ⟨by rw [hirF], rfl, rfl⟩ qD qF))))))))))))
   ·skip
    skip
    refine zG rfl rfl rfl (z7 (z4 (z6 (xk rfl rfl ?_))))
    refine zm (z4 (zr (z6 (z8 (zG rfl rfl rfl (zG rfl rfl rfl (z9 rfl rfl (z9 rfl rfl (z7 (z4 (z6 (z8 (z5 rfl rfl (yj rfl rfl rfl (z7 (z4 (ym rfl (decide_eq_false (by have hd := decF_ascii (asc_at hl (by assumption)); rw [hd]; have := asc_at hl (p := p) (by assumption); simp only; omega)) ?_)))))))))))))))))
    exact zm (zI (z4 (zM ⟨p + (decF l p).2, trivial, rfl, rfl, rfl, rfl⟩ (by have := (decF_lt (l := l) (p := p)).2; omega) (za _) (.c 175 rfl <| za _) qD qD qF)))
  ·try simp only [dq] at h171
   have hok : okR r := by rcases hr with q | q; omega; exact q
   refine z6 (z8 (z5 rfl rfl (zW rfl (ev1 rfl) qD qS (vr_spec hr2) jF ?_)))
   refine yX rfl rfl (z9 rfl rfl (z7 (z4 (ym rfl (by rw [show Utf8.valid (r : Int) = true from by rcases hok.2 with q | q; exact absurd q jO; exact q]; rfl) ?_))))
   refine T.scope (z6 ?_)
   skip
   refine z8 (z5 rfl rfl (L.convRune rfl qk yy rfl (fun rs hrs => ?_)))
   refine z9 rfl rfl (z7 (z4 (z6 ?_)))
   have hlast0 := enc_last hok hrs
   refine z8 (z5 rfl rfl (xj rfl yy rfl (y7 rfl rfl rfl jO ?_)))
   refine z9 rfl rfl (z7 (z4 (z6 (z8 (z5 rfl rfl (z9 rfl rfl (z7 (z4 (z6 (z8 (z9 rfl rfl (z7 (z4 (z6 (zr (zX (fun K' D' M' μ => K' = [(9, .int .i64 ((rs.length : Int) - 1))] ∧ D' = [] ∧ M' = [] ∧ μ = 0) (.c 0 rfl <| .c 7 rfl <| .c 8 rfl <| za _) (⟨rfl, rfl, rfl, rfl⟩) (.c 9 rfl <| za _) qD qS ?_))))))))))))))))
   rintro K1 D1 M1 m1 ⟨rfl, rfl, rfl, rfl⟩
   refine zF qA qA qA ?_
   refine z6 (z6 (z8 (z5 rfl rfl (z5 rfl rfl (xj rfl yy rfl (zQ rfl rfl rfl (z7 (z4 (zo rfl (fun h26 => ?_) (fun h26 => ?_))))))))))
   ·try simp only [dq] at h26
    have hlast := enc_last hok hrs
    have hli : (l.getD (rs.length - 1) 0).toNat < 128 := asc_at hl jO
    have hge : 128 ≤ (gd rs (rs.length - 1)).toNat := hlast.2.2
    have hno : gd rs (rs.length - 1) ∉ l.drop (rs.length - 1 + 1) := fun q => by have := hl _ (List.mem_of_mem_drop q); omega
    refine zm (z4 (zr (T.scope (z6 (z6 (yC qk qk (z5 rfl rfl (z5 rfl rfl (L.indexS (i := rs.length - 1) rfl yy rfl rfl jR (zJ jO) ?_)))))))))
    refine z5 rfl rfl (z5 rfl rfl (L.indexS (i := rs.length - 1) rfl yy rfl rfl jR (zJ jO) ?_))
    refine yx rfl rfl rfl (yA (z4 (xk rfl (decide_eq_true (by intro q; have e1 : (gd l (rs.length - 1)).toNat < 128 := hli; have e2 : 128 ≤ (gd rs (rs.length - 1)).toNat := hlast.2.2; omega)) ?_)))
    refine z6 (yC qk qk (z5 rfl rfl (z5 rfl rfl (zH rfl rfl rfl jO ?_))))
    rw [show (rs.length : Int) - 1 + 1 = ((rs.length - 1 + 1 : Nat) : Int) from by omega]
    refine L.sliceS (a := rs.length - 1 + 1) (b := l.length) rfl yy rfl ⟨_, (by first | rfl | (congr 2; omega))⟩ rfl qI qI ?_
    rw [List.take_length]
    refine z5 rfl rfl (z5 rfl rfl (L.indexS (i := rs.length - 1) rfl yy rfl rfl jR (zJ jO) ?_))
    refine zW rfl (ev2 rfl rfl) qD qS (sib_spec (l := l.drop (rs.length - 1 + 1)) (c := gd rs (rs.length - 1))) jF ?_
    refine z9 rfl rfl (yA (z4 (z6 (z6 (z8 (z5 rfl rfl (zQ rfl rfl rfl (z7 (z4 (xk rfl (by rw [ibF_no hno]; rfl) ?_))))))))))
    exact z6 (z8 (z9 rfl rfl (z7 (z4 (zi (zD (zD (T.scR (y3 (zD (y3 (zD (T.scR (y3 (zz rfl rfl ⟨by rw [hirF], rfl, rfl⟩ qD qF)))))))))))))))
   ·try simp only [dq] at h26
    exact zR (zq (zq (zS (z4 (z6 (z6 (z8 (z9 rfl rfl (z7 (z4 (zi (zD (T.scR (y3 (zz rfl rfl ⟨by rw [hirF], rfl, rfl⟩ qD qF)))))))))))))))
end Cv
set_option maxRecDepth 10000
namespace Cv
open Go Go.Proofs

end Cv
namespace Go.Proofs
shelf_lay Lays.n153 Nm 153 at Tryz as Tryz.laysIA
end Go.Proofs
namespace Cv
open Go Go.Proofs
def RAny (s : List UInt8) : Value → List Asn → List Asn → Prop := fun v D' M' => ∃ (r : Int), v = .int .i64 r ∧ (0 ≤ r ↔ badN s = true) ∧ D' = [] ∧ M' = []
theorem any_long {s : List UInt8} (h8 : 8 < s.length) (hs : s.length ≤ 100000) : Spec Tryz.prog 190 [S s, S [47, 0]] [] [] (RAny s) where
 fn := IsFn.of Tryz.func190 rfl jD
 run σ D M w ss := by
  have hz : (Tryz.prog.info? (Tryz.laysIA_ren.t 116)).map (fun i => (i.zero, i.size)) = some (some (.agg (Array.replicate 256 (.bool false))), 256) := by kernel_rfl
  have hc := Any.strings_IndexAny_long Tryz.laysIA (zero_of_info hz).1 (zero_of_info hz).2 ⟨s.toArray⟩ ⟨[47, 0].toArray⟩ w jD h8 (by show s.length < _; omega) jD (fun j b hb => by
   match j, hb with
   | 0, hb => simp at hb; subst hb; decide
   | 1, hb => simp at hb; subst hb; decide
   | j + 2, hb => simp at hb)
  refine hc.mono ?_
  rintro e w' ⟨he, hw⟩
  subst hw
  exact ⟨_, [], [], he, ⟨_, rfl, indexAny_bad, rfl, rfl⟩, ((ss.alloc _).ent (Ent.skip (.refl _)) |>.alloc _).ent (Ent.skip (.refl _))⟩
theorem sua_spec {n : Int}  : Spec Tryz.prog 196 [.int .i64 n] [] [] (fun v D' M' => v = .bool (decide (8 < n)) ∧ D' = [] ∧ M' = []) := by
 refine zC (n := 5) Tryz.func196 ?_
 intro σ D M
 exact z6 (z8 (z9 rfl rfl (z7 (z4 (z6 (z8 (z5 rfl rfl (yB rfl rfl rfl (z9 rfl rfl (z7 (z4 (zi (zz rfl rfl ⟨congrArg Value.bool (by simp), rfl, rfl⟩ qD qF)))))))))))))
theorem any_short {s : List UInt8} (h8 : s.length ≤ 8) : Spec Tryz.prog 190 [S s, S [47, 0]] [] [] (fun v D' M' => ∃ (r : Int), v = .int .i64 r ∧ (0 ≤ r ↔ badN s = true) ∧ D' = [] ∧ M' = []) := by
 refine zC (n := 55) Tryz.func190 ?_
 intro σ D M
 refine z6 (z8 (z9 rfl rfl (z7 (z4 (z6 (z6 (z8 (z5 rfl rfl (L.eqS rfl rfl rfl ?_)))))))))
 refine z7 (z4 (ym rfl (decide_eq_false (by simp)) ?_))
 refine zm (z4 (z6 (z6 (z8 (z5 rfl rfl (xj rfl yy rfl (yj rfl rfl rfl (z7 (z4 (ym rfl (decide_eq_false (by simp)) ?_))))))))))
 refine zm (z4 (z6 (z6 (z8 (z5 rfl rfl (xj rfl yy rfl (zW rfl (ev1 rfl) qD qS (sua_spec) jF ?_)))))))
 refine z7 (z4 (ym rfl (decide_eq_false jO) ?_))
 refine zm (z4 (z6 (z6 (z8 (z5 rfl rfl (L.rangeStr rfl yy rfl (fun it => ?_)))))))
 refine z7 (z4 (zr (zX (fun K' D' M' μ => ∃ (p : Nat), (cleanTo s p) ∧ K' = [] ∧ D' = [] ∧ M' = [sit it s p] ∧ μ = s.length - p) (.c 1 rfl <| .c 45 rfl <| za _) (⟨0, fun j hj => absurd hj (Nat.not_lt_zero _), rfl, rfl, rfl, rfl⟩) (za _) qD qS ?_)))
 rintro K1 D1 M1 m1 ⟨p, hcl, rfl, rfl, rfl, rfl⟩
 refine zF qA qA qA ?_
 refine z6 (z8 (L.nextStr rfl rfl qP (fun hre => ?_) (fun hp => ?_)))
 ·skip
  skip
  refine zG rfl rfl rfl (z7 (z4 (z6 (ym rfl rfl ?_))))
  refine zR (zq (zq (zS (z4 (z6 (z8 (z9 rfl rfl (z7 (z4 (zi ?_))))))))))
  first | exact zz rfl rfl ⟨_, rfl, ⟨fun _ => hit_step hp h53, fun _ => by omega⟩, rfl, rfl⟩ qD qF | exact zz rfl rfl ⟨_, rfl, ⟨fun q => absurd q jD, fun q => by rw [badN_false hcl jO] at q; cases q⟩, rfl, rfl⟩ qD qF
 ·skip
  skip
  refine zG rfl rfl rfl (z7 (z4 (z6 (xk rfl rfl ?_))))
  refine zm (z4 (zr (z6 (z8 (zG rfl rfl rfl (zG rfl rfl rfl (z9 rfl rfl (z9 rfl rfl (z7 (z4 (z6 (z8 (z5 rfl rfl (z5 rfl rfl (zx rfl (ev2 rfl rfl) qD qS (ir_spec (l := [47, 0]) (r := (decF s p).1) (by intro b hb; simp at hb; rcases hb with rfl | rfl <;> decide) dec_ok jD (decF_lt).1) ?_)))))))))))))))
  rintro _ _ _ ⟨rfl, rfl, rfl⟩
  refine zt qA qA ?_
  refine x6 rfl rfl rfl (z7 (z4 (zo rfl (fun h53 => ?_) (fun h53 => ?_))))
  ·try simp only [dq] at h53
   refine z6 (z8 (z5 rfl rfl (z9 rfl rfl (z7 (z4 (zi (y3 (zD (y3 (zD ?_))))))))))
   first | exact zz rfl rfl ⟨_, rfl, ⟨fun _ => hit_step hp h53, fun _ => by omega⟩, rfl, rfl⟩ qD qF | exact zz rfl rfl ⟨_, rfl, ⟨fun q => absurd q jD, fun q => by rw [badN_false hcl jO] at q; cases q⟩, rfl, rfl⟩ qD qF
  ·try simp only [dq] at h53
   exact zm (zI (z4 (zM ⟨p + (decF s p).2, clean_step hp hcl h53, rfl, rfl, rfl, rfl⟩ (by have := (decF_lt (l := s) (p := p)).2; omega) (za _) (.c 1 rfl <| .c 45 rfl <| za _) qD qD qF)))
theorem any_spec {s : List UInt8} (hs : s.length ≤ 100000) : Spec Tryz.prog 190 [S s, S [47, 0]] [] [] (RAny s) := by
 by_cases h8 : s.length ≤ 8
 ·exact any_short h8
 ·exact any_long jO hs
theorem cany_spec {s : List UInt8} (hs : s.length ≤ 100000) : Spec Tryz.prog 186 [S s, S [47, 0]] [] [] (fun v D' M' => v = .bool (badN s) ∧ D' = [] ∧ M' = []) := by
 refine zC (n := 9) Tryz.func186 ?_
 intro σ D M
 refine z6 (z8 (z9 rfl rfl (z7 (z4 (z6 (z8 (z5 rfl rfl (z5 rfl rfl (zx rfl (ev2 rfl rfl) qD qS (any_spec hs) ?_)))))))))
 rintro _ _ _ ⟨r, rfl, hr, rfl, rfl⟩
 refine zt qA qA ?_
 exact x6 rfl rfl rfl (z9 rfl rfl (z7 (z4 (zi (zz rfl rfl ⟨congrArg Value.bool (by cases hb : badN s <;> simp_all), rfl, rfl⟩ qD qF)))))
theorem name_spec {s : List UInt8} (hs : s.length ≤ 100000) : Spec Tryz.prog 176 [S s] [] [] (fun v D' M' => v = .bool (nameB s) ∧ D' = [] ∧ M' = []) := by
 refine zC (n := 23) Tryz.func176 ?_
 intro σ D M
 refine z6 (z8 (z9 rfl rfl (z7 (z4 (z6 (z8 (z5 rfl rfl (L.neS rfl rfl rfl ?_))))))))
 refine z5 rfl rfl (yM (t := 5) rfl (fun h1 => ?_) (fun h1 => ?_))
 ·try simp only [dq] at h1
  refine zf (dj := 5) rfl rfl rfl (z5 rfl rfl (zf (dj := 5) rfl rfl rfl (xj rfl yy rfl (zf (dj := 5) rfl rfl rfl (L.leI rfl rfl rfl (ye rfl rfl rfl (z5 rfl rfl (yM (t := 10) rfl (fun h2 => ?_) (fun h2 => ?_)))))))))
  ·try simp only [dq] at h2
   refine zf (dj := 10) rfl rfl rfl (z5 rfl rfl (zf (dj := 10) rfl rfl rfl (L.neS rfl rfl rfl ?_)))
   refine ye rfl rfl rfl (z5 rfl rfl (yM (t := 14) rfl (fun h3 => ?_) (fun h3 => ?_)))
   ·try simp only [dq] at h3
    refine zf (dj := 14) rfl rfl rfl (z5 rfl rfl (zf (dj := 14) rfl rfl rfl (L.neS rfl rfl rfl ?_)))
    refine ye rfl rfl rfl (z5 rfl rfl (yM (t := 18) rfl (fun h4 => ?_) (fun h4 => ?_)))
    ·try simp only [dq] at h4
     refine zf (dj := 18) rfl rfl rfl (z5 rfl rfl (zf (dj := 18) rfl rfl rfl (zx rfl (ev2 rfl rfl) qD qS (cany_spec hs) ?_)))
     rintro _ _ _ ⟨rfl, rfl, rfl⟩
     refine zt qA qA ?_
     exact zf (dj := 18) rfl rfl rfl (yX rfl rfl (ye rfl rfl rfl (z9 rfl rfl (z7 (z4 (zi (zz rfl rfl ⟨congrArg Value.bool (by unfold nameB; simp_all <;> omega), rfl, rfl⟩ qD qF)))))))
    ·try simp only [dq] at h4
     exact zg (dj := 18) (c := false) rfl rfl rfl rfl rfl jD (zg (dj := 18) (c := false) rfl rfl rfl rfl rfl jD (zg (dj := 18) (c := false) rfl rfl rfl rfl rfl jD (y5 rfl rfl rfl (z9 rfl rfl (z7 (z4 (zi (zz rfl rfl ⟨congrArg Value.bool (by unfold nameB; simp_all <;> omega), rfl, rfl⟩ qD qF))))))))
   ·try simp only [dq] at h3
    exact zg (dj := 14) (c := false) rfl rfl rfl rfl rfl jD (zg (dj := 14) (c := false) rfl rfl rfl rfl rfl jD (y5 rfl rfl rfl (z5 rfl rfl (zg (dj := 18) (c := false) rfl rfl rfl rfl rfl jD (zg (dj := 18) (c := false) rfl rfl rfl rfl rfl jD (zg (dj := 18) (c := false) rfl rfl rfl rfl rfl jD (y5 rfl rfl rfl (z9 rfl rfl (z7 (z4 (zi (zz rfl rfl ⟨congrArg Value.bool (by unfold nameB; simp_all <;> omega), rfl, rfl⟩ qD qF))))))))))))
  ·try simp only [dq] at h2
   exact zg (dj := 10) (c := false) rfl rfl rfl rfl rfl jD (zg (dj := 10) (c := false) rfl rfl rfl rfl rfl jD (y5 rfl rfl rfl (z5 rfl rfl (zg (dj := 14) (c := false) rfl rfl rfl rfl rfl jD (zg (dj := 14) (c := false) rfl rfl rfl rfl rfl jD (y5 rfl rfl rfl (z5 rfl rfl (zg (dj := 18) (c := false) rfl rfl rfl rfl rfl jD (zg (dj := 18) (c := false) rfl rfl rfl rfl rfl jD (zg (dj := 18) (c := false) rfl rfl rfl rfl rfl jD (y5 rfl rfl rfl (z9 rfl rfl (z7 (z4 (zi (zz rfl rfl ⟨congrArg Value.bool (by unfold nameB; simp_all <;> omega), rfl, rfl⟩ qD qF))))))))))))))))
 ·try simp only [dq] at h1
  exact zg (dj := 5) (c := false) rfl rfl rfl rfl rfl jD (zg (dj := 5) (c := false) rfl rfl rfl rfl rfl jD (zg (dj := 5) (c := false) rfl rfl rfl rfl rfl jD (y5 rfl rfl rfl (z5 rfl rfl (zg (dj := 10) (c := false) rfl rfl rfl rfl rfl jD (zg (dj := 10) (c := false) rfl rfl rfl rfl rfl jD (y5 rfl rfl rfl (z5 rfl rfl (zg (dj := 14) (c := false) rfl rfl rfl rfl rfl jD (zg (dj := 14) (c := false) rfl rfl rfl rfl rfl jD (y5 rfl rfl rfl (z5 rfl rfl (zg (dj := 18) (c := false) rfl rfl rfl rfl rfl jD (zg (dj := 18) (c := false) rfl rfl rfl rfl rfl jD (zg (dj := 18) (c := false) rfl rfl rfl rfl rfl jD (y5 rfl rfl rfl (z9 rfl rfl (z7 (z4 (zi (zz rfl rfl ⟨congrArg Value.bool (by unfold nameB; simp_all <;> omega), rfl, rfl⟩ qD qF)))))))))))))))))))))
theorem sli_spec {l : List UInt8} {c : UInt8}  : Spec Tryz.prog 189 [S l, S [c]] [] [] (fun v D' M' => v = .int .i64 (ibF l c) ∧ D' = [] ∧ M' = []) := by
 refine zC (n := 143) Tryz.func189 ?_
 intro σ D M
 refine z6 (z8 (z9 rfl rfl (z7 (z4 (z6 (z8 (z5 rfl rfl (xj rfl yy rfl (z9 rfl rfl (z7 (z4 (z6 (zr (z6 (z8 (z5 rfl rfl (yj rfl rfl rfl (z5 rfl rfl (zv (t := 19) rfl (show _ = Value.bool false from rfl) ?_)))))))))))))))))))
 refine zf (dj := 19) rfl rfl rfl (z5 rfl rfl (zf (dj := 19) rfl rfl rfl (z5 rfl rfl (zf (dj := 19) rfl rfl rfl (L.eqS rfl rfl rfl ?_)))))
 refine y5 rfl rfl rfl (z9 rfl rfl (z7 (z4 (zo rfl (fun h16 => ?_) (fun h16 => ?_)))))
 ·try simp only [dq] at h16
  exact z6 (z8 (z9 rfl rfl (z7 (z4 (zi (y3 (zD (zz rfl rfl ⟨by subst h16; simp [ibF, Go.Lib.indexByte], rfl, rfl⟩ qD qF))))))))
 ·try simp only [dq] at h16
  refine z6 (z8 (z5 rfl rfl (yj rfl rfl rfl (z9 rfl rfl (z7 (z4 (xk rfl (decide_eq_true (by simp)) ?_)))))))
  refine z6 (z8 (z5 rfl rfl (z5 rfl rfl (L.indexS (i := 0) rfl yy rfl rfl jR (by rfl) ?_))))
  refine zW rfl (ev2 rfl rfl) qD qS (slib_spec) jF ?_
  exact z9 rfl rfl (z7 (z4 (zi (y3 (zD (zz rfl rfl ⟨rfl, rfl, rfl⟩ qD qF))))))
theorem sidx_spec {l : List UInt8} {c : UInt8}  : Spec Tryz.prog 185 [S l, S [c]] [] [] (fun v D' M' => v = .int .i64 (ibF l c) ∧ D' = [] ∧ M' = []) := by
 refine zC (n := 8) Tryz.func185 ?_
 intro σ D M
 refine z6 (z8 (z9 rfl rfl (z7 (z4 (z6 (z8 (z5 rfl rfl (z5 rfl rfl (zx rfl (ev2 rfl rfl) qD qS (sli_spec) ?_)))))))))
 rintro _ _ _ ⟨rfl, rfl, rfl⟩
 refine zt qA qA ?_
 exact z9 rfl rfl (z7 (z4 (zi (zz rfl rfl ⟨rfl, rfl, rfl⟩ qD qF))))
theorem scont_spec {l : List UInt8} {c : UInt8}  : Spec Tryz.prog 175 [S l, S [c]] [] [] (fun v D' M' => v = .bool (decide (0 ≤ ibF l c)) ∧ D' = [] ∧ M' = []) := by
 refine zC (n := 9) Tryz.func175 ?_
 intro σ D M
 refine z6 (z8 (z9 rfl rfl (z7 (z4 (z6 (z8 (z5 rfl rfl (z5 rfl rfl (zx rfl (ev2 rfl rfl) qD qS (sidx_spec) ?_)))))))))
 rintro _ _ _ ⟨rfl, rfl, rfl⟩
 refine zt qA qA ?_
 exact x6 rfl rfl rfl (z9 rfl rfl (z7 (z4 (zi (zz rfl rfl ⟨rfl, rfl, rfl⟩ qD qF)))))
end Cv
