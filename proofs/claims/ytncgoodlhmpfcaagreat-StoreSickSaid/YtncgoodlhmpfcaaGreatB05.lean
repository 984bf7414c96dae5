/-
  The walks: package strings, walked.
-/
import Derived.Test.YtncgoodlhmpfcaaGreatFA11
import Derived.Lib.IndexAny
import Derived.Shelf.Strings.IndexAnyAll
import Derived.Shelf.Lay
import Derived.Ground.NamesProg
set_option linter.all false
set_option maxHeartbeats 400000
set_option maxRecDepth 10000
namespace Cv
open Go Go.Proofs
/-! ## trees: how many, and whether they may be -/
mutual
def Tr.count : Tr → Nat
  | .mk _ _ _ ks => 1 + countL ks
def countL : List Tr → Nat
  | [] => 0
  | y :: ys => y.count + countL ys
end
theorem Tr.count_eq (x : Tr) : x.count = 1 + countL x.ks := by cases x; rw [Tr.count]; rfl
theorem countL_append : ∀ (xs ys : List Tr), countL (xs ++ ys) = countL xs + countL ys
  | [], ys => by simp [countL]
  | x :: xs, ys => by rw [List.cons_append, countL, countL, countL_append xs ys]; omega
theorem countL_step {ks : List Tr} {i : Nat} {y : Tr} (h : ks[i]? = some y) : countL (ks.take (i + 1)) = countL (ks.take i) + y.count ∧ countL (ks.take (i + 1)) ≤ countL ks := by
  have e : countL ks = countL (ks.take (i + 1)) + countL (ks.drop (i + 1)) := by rw [← countL_append, List.take_append_drop]
  rw [List.take_add_one, h] at *
  simp only [Option.toList_some, countL_append, countL] at *
  omega
theorem kid_mem {ks : List Tr} {i : Nat} {y : Tr} (h : ks[i]? = some y) : y ∈ ks := List.mem_of_getElem? h
theorem count_pos (x : Tr) : 0 < x.count := by rw [Tr.count_eq]; omega
theorem count_le_len : ∀ ks : List Tr, ks.length ≤ countL ks
  | [] => by simp [countL]
  | y :: ys => by have := count_pos y; have := count_le_len ys; simp [countL]; omega


end Cv
set_option maxRecDepth 10000
namespace Cv
open Go Go.Proofs
/-! ## bytes sought in strings -/
abbrev ibF (l : List UInt8) (c : UInt8) : Int := Go.Lib.indexByte l c
theorem ibF_lb (c : UInt8) : ∀ l, -1 ≤ ibF l c ∧ ibF l c < l.length
  | [] => by simp [ibF, Go.Lib.indexByte]
  | b :: l => by
    have ih := ibF_lb c l
    simp only [ibF, Go.Lib.indexByte, List.length_cons] at ih ⊢
    split
    · omega
    · split <;> omega
theorem ibF_ge {c : UInt8} : ∀ {l : List UInt8}, 0 ≤ ibF l c ↔ c ∈ l
  | [] => by simp [ibF, Go.Lib.indexByte]
  | b :: l => by
    have ih := ibF_ge (c := c) (l := l)
    have lb := ibF_lb c l
    simp only [ibF, Go.Lib.indexByte, beq_iff_eq, List.mem_cons] at ih lb ⊢
    by_cases h : b = c
    · simp [h]
    · rw [if_neg h]
      by_cases h2 : Go.Lib.indexByte l c = -1
      · rw [if_pos h2]
        have : ¬ c ∈ l := fun q => by have := ih.2 q; omega
        simp [this, Ne.symm h]
      · rw [if_neg h2]
        have : c ∈ l := ih.1 (by omega)
        simp [this]; omega
theorem ibF_no {l : List UInt8} {c : UInt8} (h : c ∉ l) : ibF l c = -1 := by
  have h1 := ibF_lb c l
  have h2 : ¬ 0 ≤ ibF l c := fun q => h (ibF_ge.1 q)
  omega
def Asc (l : List UInt8) : Prop := ∀ b ∈ l, b.toNat < 128
def irF (l : List UInt8) (r : Nat) : Int := if r < 128 then ibF l (UInt8.ofNat r) else -1
theorem asc_at {l : List UInt8} (h : Asc l) {p : Nat} (hp : p < l.length) : (l.getD p 0).toNat < 128 := h _ (by
  have : l.getD p 0 = l[p] := by simp [List.getD, hp]
  rw [this]; exact List.getElem_mem hp)
theorem ofNat_mod {r : Nat} (h : r < 128) : UInt8.ofNat ((r : Int) % 256).toNat = UInt8.ofNat r := by
  congr 1; omega
def badN (s : List UInt8) : Bool := s.any (fun b => b == 47 || b == 0)
theorem ir_47 {r : Nat} (h : r < 128) : 0 ≤ irF [47, 0] r ↔ r = 47 ∨ r = 0 := by
  unfold irF
  rw [if_pos h, ibF_ge]
  simp only [List.mem_cons, List.not_mem_nil, or_false]
  constructor
  · rintro (q | q)
    · left
      have := congrArg UInt8.toNat q
      rw [UInt8.toNat_ofNat'] at this
      simp at this; omega
    · right
      have := congrArg UInt8.toNat q
      rw [UInt8.toNat_ofNat'] at this
      simp at this; omega
  · rintro (q | q) <;> subst q <;> simp
def cleanTo (s : List UInt8) (p : Nat) : Prop := ∀ j, j < p → j < s.length → s.getD j 0 ≠ 47 ∧ s.getD j 0 ≠ 0
theorem badN_false {s : List UInt8} {p : Nat} (h : cleanTo s p) (hp : s.length ≤ p) : badN s = false := by
  rw [badN, List.any_eq_false]
  intro b hb
  obtain ⟨j, hj, rfl⟩ := List.getElem_of_mem hb
  have := h j (by omega) hj
  have e : s.getD j 0 = s[j] := by simp [List.getD, hj]
  rw [e] at this
  simp [this.1, this.2]
theorem badN_true {s : List UInt8} {p : Nat} (hp : p < s.length) (h : s.getD p 0 = 47 ∨ s.getD p 0 = 0) : badN s = true := by
  rw [badN, List.any_eq_true]
  have e : s.getD p 0 = s[p] := by simp [List.getD, hp]
  rw [e] at h
  exact ⟨s[p], List.getElem_mem hp, by simpa using h⟩
theorem byte_of {b : UInt8} (h : b.toNat = 47 ∨ b.toNat = 0) : b = 47 ∨ b = 0 := by
  rcases h with h | h
  · left; apply UInt8.toNat_inj.1; exact h
  · right; apply UInt8.toNat_inj.1; exact h
theorem to_byte {b : UInt8} (h : b = 47 ∨ b = 0) : b.toNat = 47 ∨ b.toNat = 0 := by rcases h with rfl | rfl <;> simp
theorem clean_step {s : List UInt8} {p : Nat} (hp : p < s.length) (h : cleanTo s p) (hno : ¬ 0 ≤ irF [47, 0] (decF s p).1) : cleanTo s (p + (decF s p).2) := by
  by_cases ha : (s.getD p 0).toNat < 128
  · rw [decF_ascii ha] at hno ⊢
    rw [ir_47 ha] at hno
    intro j hj hl
    by_cases e : j < p
    · exact h j e hl
    · obtain rfl : j = p := by simp only at hj; omega
      exact ⟨fun q => hno (to_byte (.inl q)), fun q => hno (to_byte (.inr q))⟩
  · obtain ⟨_, _, h3⟩ := decF_more ha
    intro j hj hl
    by_cases e : j < p
    · exact h j e hl
    · have h128 : 128 ≤ (s.getD j 0).toNat := by
        by_cases e2 : j = p
        · subst e2; omega
        · have := (h3 (j - p) (by omega) (by omega)).2
          rwa [show p + (j - p) = j by omega] at this
      constructor
      · intro q; rw [q] at h128; simp at h128
      · intro q; rw [q] at h128; simp at h128
theorem hit_step {s : List UInt8} {p : Nat} (hp : p < s.length) (hyes : 0 ≤ irF [47, 0] (decF s p).1) : badN s = true := by
  by_cases ha : (s.getD p 0).toNat < 128
  · rw [decF_ascii ha, ir_47 ha] at hyes
    exact badN_true hp (byte_of hyes)
  · obtain ⟨h1, _⟩ := decF_more ha
    unfold irF at hyes
    rw [if_neg (by have := h1.1; omega)] at hyes
    omega
theorem dec_ok {s : List UInt8} {p : Nat} : (decF s p).1 < 128 ∨ okR (decF s p).1 := by
  by_cases ha : (s.getD p 0).toNat < 128
  · left; rw [decF_ascii ha]; exact ha
  · exact .inr (decF_more ha).1
theorem indexAny_bad : ∀ {s : List UInt8}, 0 ≤ Go.Lib.indexAny s [47, 0] ↔ badN s = true
  | [] => by simp [Go.Lib.indexAny, badN]
  | b :: s => by
    have ih := indexAny_bad (s := s)
    have lb := Go.Lib.indexAny_ge [47, 0] s
    have e : badN (b :: s) = ((b == 47 || b == 0) || badN s) := by simp [badN]
    rw [e]
    unfold Go.Lib.indexAny
    have ec : ([47, 0] : List UInt8).contains b = (b == 47 || b == 0) := by simp [List.contains, List.elem]; cases b == 47 <;> cases b == 0 <;> rfl
    rw [ec]
    by_cases h : (b == 47 || b == 0) = true
    · simp [h]
    · rw [if_neg h]
      have h' : (b == 47 || b == 0) = false := by simpa using h
      rw [h', Bool.false_or, ← ih]
      by_cases h2 : Go.Lib.indexAny s [47, 0] = -1
      · simp [h2]
      · simp [h2]; omega
def nameB (s : List UInt8) : Bool := decide (s ≠ []) && decide (s.length ≤ 24) && decide (s ≠ [46]) && decide (s ≠ [46, 46]) && !badN s

theorem ibx : IsX Tryz.prog 248 Extern.BytealgIndexByte.indexByte := IsX.of Tryz.func248 qk qk qk qk
theorem csx : IsX Tryz.prog 196 Extern.BytealgCompare.compare := IsX.of Tryz.func196 qk qk qk qk
theorem L.idxByteX {P : Program} {σ : World} {n : Nat} {Q : Post} {K : Env} {D M : List Asn} {m : Option (List Asn × List Asn)} {ops : Array Oper} {rest : List Oper} {d : Nat} {ty : TypeId} {pos : String} {aft : Array Edge} {f : FuncId} {x y : Operand} {ats : Array TypeId} {l : List UInt8} {c : UInt8} (hX : IsX P f Extern.BytealgIndexByte.indexByte) (hd : Nat.blt d n = true) (hx : evs K [x, y] [S l, Y c])
  (next : TL m P σ n ops Q rest ((d, .int .i64 (ibF l c)) :: K) D M) : TL m P σ n ops Q (⟨some d, .call { callee := .value (.func f), args := [x, y].toArray, argTypes := ats }, ty, pos, aft, none⟩ :: rest) K D M :=
 L.callX hX hd hx (fun w ss => by
  have := Go.Lib.run_indexByteString (P := P) ⟨l.toArray⟩ (c.toNat : Int) w
  rw [show ((c.toNat : Int).toNat).toUInt8 = c from by simp] at this
  exact this) next
theorem slib_spec {l : List UInt8} {c : UInt8}  : Spec Tryz.prog 240 [S l, Y c] [] [] (fun v D' M' => v = .int .i64 (ibF l c) ∧ D' = [] ∧ M' = []) := by
 refine zv (n := 8) Tryz.func240 ?_
 intro σ D M
 refine O (V R R (I (O (E R R (E R R (L.idxByteX ibx R (ev2 R R) ?_))))))
 exact V R R (I (zo (zy R R ⟨R, R, R⟩ qD qF)))
theorem sib_spec {l : List UInt8} {c : UInt8}  : Spec Tryz.prog 250 [S l, Y c] [] [] (fun v D' M' => v = .int .i64 (ibF l c) ∧ D' = [] ∧ M' = []) := by
 refine zv (n := 8) Tryz.func250 ?_
 intro σ D M
 refine O (V R R (I (O (E R R (E R R (zH R (ev2 R R) qD qS (slib_spec) jF ?_))))))
 exact V R R (I (zo (zy R R ⟨R, R, R⟩ qD qF)))
theorem bcs_spec {p q : List UInt8}  : Spec Tryz.prog 137 [S p, S q] [] [] (fun v D' M' => v = .int .i64 (cmpB p q) ∧ D' = [] ∧ M' = []) := by
 refine zv (n := 8) Tryz.func137 ?_
 intro σ D M
 refine O (V R R (I (O (E R R (E R R (L.cmpStr csx R (ev2 R R) ?_))))))
 exact V R R (I (zo (zy R R ⟨R, R, R⟩ qD qF)))
theorem scmp_spec {p q : List UInt8}  : Spec Tryz.prog 84 [S p, S q] [] [] (fun v D' M' => v = .int .i64 (cmpB p q) ∧ D' = [] ∧ M' = []) := by
 refine zv (n := 8) Tryz.func84 ?_
 intro σ D M
 refine O (V R R (I (O (E R R (E R R (zH R (ev2 R R) qD qS (bcs_spec ) jF ?_))))))
 exact V R R (I (zo (zy R R ⟨R, R, R⟩ qD qF)))
theorem vr_spec {r : Nat} (hr : r < 1114112) : Spec Tryz.prog 251 [.int .i32 (r : Int)] [] [] (fun v D' M' => v = .bool (Utf8.valid (r : Int)) ∧ D' = [] ∧ M' = []) := by
 refine zv (n := 17) Tryz.func251 ?_
 intro σ D M
 refine O (V R R (I (ze (zD (ze (yx (fun K' D' M' => ∃ (w : Bool), (w = true ↔ r < 55296) ∧ K' = [(3, .bool w)] ∧ D' = [] ∧ M' = []) (M0 := []) (.c 0 R <| zd _) qS ?_ ?_))))))
 ·refine zt (E R R (L.leI R R R (E R R (yT (t := 6) R (fun h1 => ?_) (fun h1 => ?_)))))
  ·try simp only [dq] at h1
   exact zj 6 R R R (E R R (zj 6 R R R (zW R R R (ym R R R (V R R (I (zK ⟨_, (by simp <;> omega), R, R, R⟩ (.c 3 R <| zd _) (.c 0 R <| zd _) qD qD qF)))))))
  try simp only [dq] at h1
  exact zw 6 false R R R R R jD (zw 6 false R R R R R jD (yg R R R (V R R (I (zK ⟨_, (by simp <;> omega), R, R, R⟩ (.c 3 R <| zd _) (.c 0 R <| zd _) qD qD qF)))))
 rintro _ _ _ ⟨w, hw, rfl, rfl, rfl⟩
 refine zM qA qA qA ?_
 refine z8 (zA R (fun h3 => ?_) (fun h3 => ?_))
 ·try simp only [dq] at h3
  have hq := hw.1 h3
  exact O (V R R (I (zo (yv (zL (zy R R ⟨congrArg Value.bool (by unfold Utf8.valid; simp; omega), R, R⟩ qD qF))))))
 try simp only [dq] at h3
 have hq : ¬ r < 55296 := fun e => by have := hw.2 e; rw [h3] at this; cases this
 refine ze (yx (fun K' D' M' => ∃ (w : Bool), (w = true ↔ (57343 < r ∧ r ≤ 1114111)) ∧ K' = [(10, .bool w)] ∧ D' = [] ∧ M' = []) (M0 := []) (zd _) qS ?_ ?_)
 ·refine zt (E R R (zW R R R (E R R (yT (t := 13) R (fun h2 => ?_) (fun h2 => ?_)))))
  ·try simp only [dq] at h2
   exact zj 13 R R R (E R R (zj 13 R R R (L.leI R R R (ym R R R (V R R (I (zK ⟨_, (by simp <;> omega), R, R, R⟩ (.c 10 R <| zd _) (zd _) qD qD qF)))))))
  try simp only [dq] at h2
  exact zw 13 false R R R R R jD (zw 13 false R R R R R jD (yg R R R (V R R (I (zK ⟨_, (by simp <;> omega), R, R, R⟩ (.c 10 R <| zd _) (zd _) qD qD qF)))))
 rintro _ _ _ ⟨w, hw2, rfl, rfl, rfl⟩
 refine zM qA qA qA ?_
 refine z8 (zA R (fun h10 => ?_) (fun h10 => ?_))
 ·try simp only [dq] at h10
  have hq2 := hw2.1 h10
  exact O (V R R (I (zo (yv (zL (zy R R ⟨congrArg Value.bool (by unfold Utf8.valid; simp; omega), R, R⟩ qD qF))))))
 try simp only [dq] at h10
 have hq2 : ¬ (57343 < r ∧ r ≤ 1114111) := fun e => by have := hw2.2 e; rw [h10] at this; cases this
 exact zq (zS (z8 (O (V R R (I (zo (zy R R ⟨congrArg Value.bool (by unfold Utf8.valid; simp; omega), R, R⟩ qD qF)))))))
theorem ir_spec {l : List UInt8} {r : Nat} (hl : Asc l) (hr : r < 128 ∨ okR r) (hlen : l.length ≤ 100) (hr2 : r < 1114112) : Spec Tryz.prog 244 [S l, .int .i32 (r : Int)] [] [] (fun v D' M' => v = .int .i64 (irF l r) ∧ D' = [] ∧ M' = []) := by
 refine zv (n := 187) Tryz.func244 ?_
 intro σ D M
 refine O (V R R (I (zD (O (E R R (L.leI R R R (E R R (zE (t := 163) R (show _ = Value.bool true from congrArg Value.bool (decide_eq_true jO)) ?_))))))))
 refine zj 163 R R R (E R R (zj 163 R R R (zW R R R (ym R R R (V R R (I (zA R (fun h160 => ?_) (fun h160 => ?_))))))))
 ·try simp only [dq] at h160
  refine O (E R R (E R R (L.convIY R Tryz.underlying21 zX R ?_)))
  rw [ofNat_mod (r := r) jO]
  refine zH R (ev2 R R) qD qS (sib_spec (l := l) (c := UInt8.ofNat r)) jF ?_
  exact V R R (I (zo (yv (zy R R ⟨by unfold irF; rw [if_pos (show r < 128 by omega)], R, R⟩ qD qF))))
 try simp only [dq] at h160
 have h128 : ¬ r < 128 := by omega
 have hirF : irF l r = -1 := by unfold irF; rw [if_neg h128]
 refine O (E R R (yi R R R (V R R (I (zA R (fun h171 => ?_) (fun h171 => ?_))))))
 ·try simp only [dq] at h171
  refine ze (O (E R R (L.rangeStr R ye R (fun it => ?_))))
  refine I (zD (y8 (fun K' D' M' μ => ∃ (p : Nat), (True) ∧ K' = [] ∧ D' = [] ∧ M' = [sit it l p] ∧ μ = l.length - p) (.c 175 R <| zd _) (⟨_, trivial, R, R, R, R⟩) (zd _) qD qS ?_))
  rintro K1 D1 M1 m1 ⟨p, _, rfl, rfl, rfl, rfl⟩
  refine zM qA qA qA ?_
  refine O (L.nextStr R R qP (fun hre => ?_) (fun hp => ?_))
  ·skip
   refine zr R R R (I (ze (zR R R ?_)))
   exact y4 (zG (zG (y5 (z8 (O (V R R (I (zo (yv (zy R R ⟨by rw [hirF], R, R⟩ qD qF))))))))))
  skip
  refine zr R R R (I (ze (yV R R ?_)))
  refine zq (z8 (zD (O (zr R R R (zr R R R (V R R (V R R (I (O (E R R (yi R R R (I (zR R (decide_eq_false (by have hd := decF_ascii (asc_at hl (by assumption)); rw [hd]; have := asc_at hl (p := p) (by assumption); simp only; omega)) ?_)))))))))))))
  exact zq (zS (z8 (zV ⟨p + (decF l p).2, trivial, R, R, R, R⟩ (by have := (decF_lt (l := l) (p := p)).2; omega) (zd _) (.c 175 R <| zd _) qD qD qF)))
 try simp only [dq] at h171
 have hok : okR r := by rcases hr with q | q; omega; exact q
 refine O (E R R (zH R (ev1 R) qD qS (vr_spec hr2) jF ?_))
 refine x7 R R (V R R (I (zR R (by rw [show Utf8.valid (r : Int) = true from by rcases hok.2 with q | q; exact absurd q jO; exact q]; rfl) ?_)))
 refine T.scope (ze ?_)
 skip
 refine zt (E R R (L.convRune R qk ye R (fun rs hrs => ?_)))
 refine V R R (I (ze ?_))
 have hlast0 := enc_last hok hrs
 refine zt (E R R (yL R ye R (yt R R R jO ?_)))
 refine V R R (I (O (E R R (V R R (I (O (V R R (I (ze (zD (y8 (fun K' D' M' μ => K' = [(9, .int .i64 ((rs.length : Int) - 1))] ∧ D' = [] ∧ M' = [] ∧ μ = 0) (.c 0 R <| .c 7 R <| .c 8 R <| zd _) (⟨R, R, R, R⟩) (.c 9 R <| zd _) qD qS ?_)))))))))))
 rintro K1 D1 M1 m1 ⟨rfl, rfl, rfl, rfl⟩
 refine zM qA qA qA ?_
 refine ze (O (E R R (E R R (yL R ye R (zW R R R (I (zA R (fun h26 => ?_) (fun h26 => ?_))))))))
 ·try simp only [dq] at h26
  have hlast := enc_last hok hrs
  have hli : (l.getD (rs.length - 1) 0).toNat < 128 := asc_at hl jO
  have hge : 128 ≤ (gd rs (rs.length - 1)).toNat := hlast.2.2
  have hno : gd rs (rs.length - 1) ∉ l.drop (rs.length - 1 + 1) := fun q => by have := hl _ (List.mem_of_mem_drop q); omega
  refine zq (z8 (zD (T.scope (ze (ze (xg qk qk (E R R (E R R (L.indexS (i := rs.length - 1) R ye R R jR (y9 jO) ?_)))))))))
  refine E R R (E R R (L.indexS (i := rs.length - 1) R ye R R jR (y9 jO) ?_))
  refine zZ R R R (yY (z8 (yV R (decide_eq_true (by intro q; have e1 : (gd l (rs.length - 1)).toNat < 128 := hli; have e2 : 128 ≤ (gd rs (rs.length - 1)).toNat := hlast.2.2; omega)) ?_)))
  refine ze (xg qk qk (E R R (E R R (zT R R R jO ?_))))
  rw [show (rs.length : Int) - 1 + 1 = ((rs.length - 1 + 1 : Nat) : Int) from by omega]
  refine L.sliceS (a := rs.length - 1 + 1) (b := l.length) R ye R ⟨_, (by first | rfl | (congr 2; omega))⟩ R qI qI ?_
  rw [List.take_length]
  refine E R R (E R R (L.indexS (i := rs.length - 1) R ye R R jR (y9 jO) ?_))
  refine zH R (ev2 R R) qD qS (sib_spec (l := l.drop (rs.length - 1 + 1)) (c := gd rs (rs.length - 1))) jF ?_
  refine V R R (yY (z8 (ze (O (E R R (zW R R R (I (yV R (by rw [ibF_no hno]; rfl) ?_))))))))
  exact O (V R R (I (zo (zL (zL (T.scR (yv (zL (yv (zL (T.scR (yv (zy R R ⟨by rw [hirF], R, R⟩ qD qF)))))))))))))
 try simp only [dq] at h26
 exact y4 (zG (zG (y5 (z8 (ze (O (V R R (I (zo (zL (T.scR (yv (zy R R ⟨by rw [hirF], R, R⟩ qD qF)))))))))))))
end Cv
set_option maxRecDepth 10000
namespace Cv
open Go Go.Proofs

end Cv
namespace Go.Proofs
shelf_lay Lays.n153 Nm 153 at Tryz as Tryz.laysIA
end Go.Proofs
namespace Cv
open Go Go.Proofs
def RAny (s : List UInt8) : Value → List Asn → List Asn → Prop := fun v D' M' => ∃ (r : Int), v = .int .i64 r ∧ (0 ≤ r ↔ badN s = true) ∧ D' = [] ∧ M' = []
theorem any_long {s : List UInt8} (h8 : 8 < s.length) (hs : s.length ≤ 100000) : Spec Tryz.prog 238 [S s, S [47, 0]] [] [] (RAny s) where
 fn := IsFn.of Tryz.func238 rfl jD
 run σ D M w ss := by
  have hz : (Tryz.prog.info? (Tryz.laysIA_ren.t 116)).map (fun i => (i.zero, i.size)) = some (some (.agg (Array.replicate 256 (.bool false))), 256) := by kernel_rfl
  have hc := Any.strings_IndexAny_long Tryz.laysIA (zero_of_info hz).1 (zero_of_info hz).2 ⟨s.toArray⟩ ⟨[47, 0].toArray⟩ w jD h8 (by show s.length < _; omega) jD (fun j b hb => by
   match j, hb with
   | 0, hb => simp at hb; subst hb; decide
   | 1, hb => simp at hb; subst hb; decide
   | j + 2, hb => simp at hb)
  refine hc.mono ?_
  rintro e w' ⟨he, hw⟩
  subst hw
  exact ⟨_, [], [], he, ⟨_, R, indexAny_bad, R, R⟩, ((ss.alloc _).ent (Ent.skip (.refl _)) |>.alloc _).ent (Ent.skip (.refl _))⟩
theorem sua_spec {n : Int}  : Spec Tryz.prog 245 [.int .i64 n] [] [] (fun v D' M' => v = .bool (decide (8 < n)) ∧ D' = [] ∧ M' = []) := by
 refine zv (n := 5) Tryz.func245 ?_
 intro σ D M
 exact O (V R R (I (O (E R R (yy R R R (V R R (I (zo (zy R R ⟨congrArg Value.bool (by simp), R, R⟩ qD qF)))))))))
theorem any_short {s : List UInt8} (h8 : s.length ≤ 8) : Spec Tryz.prog 238 [S s, S [47, 0]] [] [] (fun v D' M' => ∃ (r : Int), v = .int .i64 r ∧ (0 ≤ r ↔ badN s = true) ∧ D' = [] ∧ M' = []) := by
 refine zv (n := 55) Tryz.func238 ?_
 intro σ D M
 refine O (V R R (I (ze (O (E R R (L.eqS R R R ?_))))))
 refine I (zR R (decide_eq_false (by simp)) ?_)
 refine zq (z8 (ze (O (E R R (yL R ye R (yi R R R (I (zR R (decide_eq_false (by simp)) ?_))))))))
 refine zq (z8 (ze (O (E R R (yL R ye R (zH R (ev1 R) qD qS (sua_spec) jF ?_))))))
 refine I (zR R (decide_eq_false jO) ?_)
 refine zq (z8 (ze (O (E R R (L.rangeStr R ye R (fun it => ?_))))))
 refine I (zD (y8 (fun K' D' M' μ => ∃ (p : Nat), (cleanTo s p) ∧ K' = [] ∧ D' = [] ∧ M' = [sit it s p] ∧ μ = s.length - p) (.c 1 R <| .c 45 R <| zd _) (⟨0, fun j hj => absurd hj (Nat.not_lt_zero _), R, R, R, R⟩) (zd _) qD qS ?_))
 rintro K1 D1 M1 m1 ⟨p, hcl, rfl, rfl, rfl, rfl⟩
 refine zM qA qA qA ?_
 refine O (L.nextStr R R qP (fun hre => ?_) (fun hp => ?_))
 ·skip
  refine zr R R R (I (ze (zR R R ?_)))
  refine y4 (zG (zG (y5 (z8 (O (V R R (I (zo ?_))))))))
  first | exact zy rfl rfl ⟨_, rfl, ⟨fun _ => hit_step hp h53, fun _ => by omega⟩, rfl, rfl⟩ qD qF | exact zy rfl rfl ⟨_, rfl, ⟨fun q => absurd q jD, fun q => by rw [badN_false hcl jO] at q; cases q⟩, rfl, rfl⟩ qD qF
 skip
 refine zr R R R (I (ze (yV R R ?_)))
 refine zq (z8 (zD (O (zr R R R (zr R R R (V R R (V R R (I (O (E R R (E R R (zp R (ev2 R R) qD qS (ir_spec (l := [47, 0]) (r := (decF s p).1) (by intro b hb; simp at hb; rcases hb with rfl | rfl <;> decide) dec_ok jD (decF_lt).1) ?_))))))))))))
 rintro _ _ _ ⟨rfl, rfl, rfl⟩
 refine zm qA qA ?_
 refine L.geI R R R (I (zA R (fun h53 => ?_) (fun h53 => ?_)))
 ·try simp only [dq] at h53
  refine O (E R R (V R R (I (zo (yv (zL (yv (zL ?_))))))))
  first | exact zy rfl rfl ⟨_, rfl, ⟨fun _ => hit_step hp h53, fun _ => by omega⟩, rfl, rfl⟩ qD qF | exact zy rfl rfl ⟨_, rfl, ⟨fun q => absurd q jD, fun q => by rw [badN_false hcl jO] at q; cases q⟩, rfl, rfl⟩ qD qF
 try simp only [dq] at h53
 exact zq (zS (z8 (zV ⟨p + (decF s p).2, clean_step hp hcl h53, R, R, R, R⟩ (by have := (decF_lt (l := s) (p := p)).2; omega) (zd _) (.c 1 R <| .c 45 R <| zd _) qD qD qF)))
theorem any_spec {s : List UInt8} (hs : s.length ≤ 100000) : Spec Tryz.prog 238 [S s, S [47, 0]] [] [] (RAny s) := by
 by_cases h8 : s.length ≤ 8
 ·exact any_short h8
 exact any_long jO hs
theorem cany_spec {s : List UInt8} (hs : s.length ≤ 100000) : Spec Tryz.prog 231 [S s, S [47, 0]] [] [] (fun v D' M' => v = .bool (badN s) ∧ D' = [] ∧ M' = []) := by
 refine zv (n := 9) Tryz.func231 ?_
 intro σ D M
 refine O (V R R (I (O (E R R (E R R (zp R (ev2 R R) qD qS (any_spec hs) ?_))))))
 rintro _ _ _ ⟨r, rfl, hr, rfl, rfl⟩
 refine zm qA qA ?_
 exact L.geI R R R (V R R (I (zo (zy R R ⟨congrArg Value.bool (by cases hb : badN s <;> simp_all), R, R⟩ qD qF))))
theorem name_spec {s : List UInt8} (hs : s.length ≤ 100000) : Spec Tryz.prog 213 [S s] [] [] (fun v D' M' => v = .bool (nameB s) ∧ D' = [] ∧ M' = []) := by
 refine zv (n := 23) Tryz.func213 ?_
 intro σ D M
 refine O (V R R (I (O (E R R (L.neS R R R ?_)))))
 refine E R R (yT (t := 5) R (fun h1 => ?_) (fun h1 => ?_))
 ·try simp only [dq] at h1
  refine zj 5 R R R (E R R (zj 5 R R R (yL R ye R (zj 5 R R R (L.leI R R R (ym R R R (E R R (yT (t := 10) R (fun h2 => ?_) (fun h2 => ?_)))))))))
  ·try simp only [dq] at h2
   refine zj 10 R R R (E R R (zj 10 R R R (L.neS R R R ?_)))
   refine ym R R R (E R R (yT (t := 14) R (fun h3 => ?_) (fun h3 => ?_)))
   ·try simp only [dq] at h3
    refine zj 14 R R R (E R R (zj 14 R R R (L.neS R R R ?_)))
    refine ym R R R (E R R (yT (t := 18) R (fun h4 => ?_) (fun h4 => ?_)))
    ·try simp only [dq] at h4
     refine zj 18 R R R (E R R (zj 18 R R R (zp R (ev2 R R) qD qS (cany_spec hs) ?_)))
     rintro _ _ _ ⟨rfl, rfl, rfl⟩
     refine zm qA qA ?_
     exact zj 18 R R R (x7 R R (ym R R R (V R R (I (zo (zy R R ⟨congrArg Value.bool (by unfold nameB; simp_all <;> omega), R, R⟩ qD qF))))))
    try simp only [dq] at h4
    exact zw 18 false R R R R R jD (zw 18 false R R R R R jD (zw 18 false R R R R R jD (yg R R R (V R R (I (zo (zy R R ⟨congrArg Value.bool (by unfold nameB; simp_all <;> omega), R, R⟩ qD qF)))))))
   try simp only [dq] at h3
   exact zw 14 false R R R R R jD (zw 14 false R R R R R jD (yg R R R (E R R (zw 18 false R R R R R jD (zw 18 false R R R R R jD (zw 18 false R R R R R jD (yg R R R (V R R (I (zo (zy R R ⟨congrArg Value.bool (by unfold nameB; simp_all <;> omega), R, R⟩ qD qF)))))))))))
  try simp only [dq] at h2
  exact zw 10 false R R R R R jD (zw 10 false R R R R R jD (yg R R R (E R R (zw 14 false R R R R R jD (zw 14 false R R R R R jD (yg R R R (E R R (zw 18 false R R R R R jD (zw 18 false R R R R R jD (zw 18 false R R R R R jD (yg R R R (V R R (I (zo (zy R R ⟨congrArg Value.bool (by unfold nameB; simp_all <;> omega), R, R⟩ qD qF)))))))))))))))
 try simp only [dq] at h1
 exact zw 5 false R R R R R jD (zw 5 false R R R R R jD (zw 5 false R R R R R jD (yg R R R (E R R (zw 10 false R R R R R jD (zw 10 false R R R R R jD (yg R R R (E R R (zw 14 false R R R R R jD (zw 14 false R R R R R jD (yg R R R (E R R (zw 18 false R R R R R jD (zw 18 false R R R R R jD (zw 18 false R R R R R jD (yg R R R (V R R (I (zo (zy R R ⟨congrArg Value.bool (by unfold nameB; simp_all <;> omega), R, R⟩ qD qF))))))))))))))))))))
theorem sli_spec {l : List UInt8} {c : UInt8}  : Spec Tryz.prog 237 [S l, S [c]] [] [] (fun v D' M' => v = .int .i64 (ibF l c) ∧ D' = [] ∧ M' = []) := by
 refine zv (n := 143) Tryz.func237 ?_
 intro σ D M
 refine O (V R R (I (O (E R R (yL R ye R (V R R (I (ze (zD (O (E R R (yi R R R (E R R (zE (t := 19) R (show _ = Value.bool false from R) ?_))))))))))))))
 refine zj 19 R R R (E R R (zj 19 R R R (E R R (zj 19 R R R (L.eqS R R R ?_)))))
 refine yg R R R (V R R (I (zA R (fun h16 => ?_) (fun h16 => ?_))))
 ·try simp only [dq] at h16
  exact O (V R R (I (zo (yv (zL (zy R R ⟨by subst h16; simp [ibF, Go.Lib.indexByte], R, R⟩ qD qF))))))
 try simp only [dq] at h16
 refine O (E R R (yi R R R (V R R (I (yV R (decide_eq_true (by simp)) ?_)))))
 refine O (E R R (E R R (L.indexS (i := 0) R ye R R jR (by rfl) ?_)))
 refine zH R (ev2 R R) qD qS (slib_spec) jF ?_
 exact V R R (I (zo (yv (zL (zy R R ⟨R, R, R⟩ qD qF)))))
theorem sidx_spec {l : List UInt8} {c : UInt8}  : Spec Tryz.prog 230 [S l, S [c]] [] [] (fun v D' M' => v = .int .i64 (ibF l c) ∧ D' = [] ∧ M' = []) := by
 refine zv (n := 8) Tryz.func230 ?_
 intro σ D M
 refine O (V R R (I (O (E R R (E R R (zp R (ev2 R R) qD qS (sli_spec) ?_))))))
 rintro _ _ _ ⟨rfl, rfl, rfl⟩
 refine zm qA qA ?_
 exact V R R (I (zo (zy R R ⟨R, R, R⟩ qD qF)))
theorem scont_spec {l : List UInt8} {c : UInt8}  : Spec Tryz.prog 212 [S l, S [c]] [] [] (fun v D' M' => v = .bool (decide (0 ≤ ibF l c)) ∧ D' = [] ∧ M' = []) := by
 refine zv (n := 9) Tryz.func212 ?_
 intro σ D M
 refine O (V R R (I (O (E R R (E R R (zp R (ev2 R R) qD qS (sidx_spec) ?_))))))
 rintro _ _ _ ⟨rfl, rfl, rfl⟩
 refine zm qA qA ?_
 exact L.geI R R R (V R R (I (zo (zy R R ⟨R, R, R⟩ qD qF))))
end Cv
