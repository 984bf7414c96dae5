/-
  The walks: shelves.
-/
import Derived.Test.YtncgoodlhmpfcaaGreatLa15
set_option linter.all false
set_option maxHeartbeats 400000
set_option maxRecDepth 10000
namespace Cv
open Go Go.Proofs
/-! ## objects on a shelf: the plain model -/
def zOb : Ob := (0, zID, [])
def goF : List Ob → ID32 → Option Ob
  | [], _ => none
  | o :: l, x => if o.2.1 = x then some o else goF l x
def getO (os : List Ob) (x : ID32) : Ob := (goF os x).getD zOb
def getE (os : List Ob) (x : ID32) : Int := if (goF os x).isSome then 0 else 7
theorem goF_miss {x : ID32} : ∀ {os : List Ob}, (∀ y ∈ os, y.2.1 ≠ x) → goF os x = none
  | [], _ => rfl
  | q :: os, h => by rw [goF, if_neg (h q (by simp))]; exact goF_miss fun y hy => h y (by simp [hy])
theorem goF_mem {x : ID32} {o : Ob} : ∀ {os : List Ob}, goF os x = some o → o ∈ os ∧ o.2.1 = x
  | [], h => by cases h
  | q :: os, h => by
    rw [goF] at h
    split at h
    · rename_i e; injection h with h; subst h; exact ⟨by simp, e⟩
    · exact ⟨List.mem_cons_of_mem _ (goF_mem h).1, (goF_mem h).2⟩
theorem getO_hit {os : List Ob} {x : ID32} {o : Ob} (h : goF os x = some o) : getO os x = o := by unfold getO; rw [h]; rfl
theorem getE_hit {os : List Ob} {x : ID32} {o : Ob} (h : goF os x = some o) : getE os x = 0 := by unfold getE; rw [h]; rfl
theorem getO_miss {os : List Ob} {x : ID32} (h : goF os x = none) : getO os x = zOb := by unfold getO; rw [h]; rfl
theorem getE_miss {os : List Ob} {x : ID32} (h : goF os x = none) : getE os x = 7 := by unfold getE; rw [h]; rfl
theorem getE_0 {os : List Ob} {x : ID32} (h : getE os x = 0) : goF os x = some (getO os x) := by
  unfold getE at h
  unfold getO
  cases e : goF os x with
  | none => rw [e] at h; exact absurd h (by decide)
  | some o => rfl
theorem getE_7 {os : List Ob} {x : ID32} (h : getE os x ≠ 0) : goF os x = none := by
  unfold getE at h
  cases e : goF os x with
  | none => rfl
  | some o => rw [e] at h; exact absurd rfl h
def Shf (os : List Ob) : Prop := ∀ o ∈ os, o.2.2.length ≤ 1000000
theorem Shf.get {os : List Ob} (h : Shf os) (x : ID32) : (getO os x).2.2.length ≤ 1000000 := by
  unfold getO
  cases e : goF os x with
  | none => exact Nat.zero_le _
  | some o => exact h o (goF_mem e).1
def lkR (os : List Ob) (x : ID32) : Pt × List ID32 × Bool :=
  match goF os x with
  | none => (zP, [], false)
  | some o => if o.1 = 3 then ((parI o.2.2).1, (parI o.2.2).2.1, decide ((parI o.2.2).2.2 = 0)) else (zP, [], false)
theorem lkR_no {os : List Ob} {x : ID32} (h : getE os x ≠ 0 ∨ (getO os x).1 ≠ 3) : lkR os x = (zP, [], false) := by
  unfold lkR
  cases e : goF os x with
  | none => rfl
  | some o =>
    rw [getE_hit e, getO_hit e] at h
    exact if_neg (h.resolve_left fun q => q R)
theorem lkR_yes {os : List Ob} {x : ID32} (h : getE os x = 0) (h3 : (getO os x).1 = 3) : lkR os x = ((parI (getO os x).2.2).1, (parI (getO os x).2.2).2.1, decide ((parI (getO os x).2.2).2.2 = 0)) := by
  have e := getE_0 h
  unfold lkR
  rw [e]
  exact if_pos h3
end Cv
set_option maxRecDepth 10000
namespace Cv
open Go Go.Proofs
theorem put_in {κ ν : Type} [DecidableEq κ] {l : List (κ × ν)} {k : κ} {v : ν} {p : κ × ν} (h : p ∈ put l k v) : p = (k, v) ∨ p ∈ l := by
  induction l with
  | nil => exact .inl (by simpa [put] using h)
  | cons q l ih =>
    obtain ⟨k1, u⟩ := q
    by_cases e : k1 = k
    · rw [put, if_pos e] at h
      rcases List.mem_cons.1 h with h | h
      · exact .inl h
      · exact .inr (List.mem_cons_of_mem _ h)
    · rw [put, if_neg e] at h
      rcases List.mem_cons.1 h with h | h
      · exact .inr (by rw [h]; exact List.mem_cons_self ..)
      · rcases ih h with h | h
        · exact .inl h
        · exact .inr (List.mem_cons_of_mem _ h)
/-! ## disks -/
abbrev Bk := {l : List UInt8 // l.length = 64}
@[reducible] def bC (b : Bk) : List Value := b.1.map Y
theorem bC_len (b : Bk) : (bC b).length = 64 := by rw [List.length_map]; exact b.2
def zB : Bk := ⟨List.replicate 64 0, rfl⟩
abbrev LoM := List (Int × Bk)
@[reducible] def bkV (b : Bk) : Value := .agg (bC b).toArray
abbrev Fz := Option Nat
def FzOk : Fz → Bool → Int → Prop
  | none, a, l => a = false
  | some k, a, l => a = true ∧ l = k ∧ k ≤ 1000000
def fzN (f : Fz) : Fz := f.map (· - 1)
def fzE (f : Fz) : Int := if f = some 0 then 13 else 0
structure DkX where
  sure : List Bk
  lo : LoM
  ar : Bool
  lf : Int
def NowOk (sure : List Bk) (lo : LoM) (cur : List Bk) : Prop := sure.length = cur.length ∧ (∀ e ∈ lo, 0 ≤ e.1 ∧ e.1 < cur.length) ∧ ∀ i : Nat, i < cur.length → cur[i]? = some ((look lo (i : Int)).getD (sure.getD i zB))
def padB (s : List UInt8) : Bk := ⟨(s ++ List.replicate 64 0).take 64, by simp⟩
def wrC (cur : List Bk) (at' : Nat) : List (List UInt8) → List Bk
  | [] => cur
  | t :: ts => wrC (cur.set at' (padB t)) (at' + 1) ts
theorem wrC_len : ∀ (ts : List (List UInt8)) (cur : List Bk) (p : Nat), (wrC cur p ts).length = cur.length
  | [], _, _ => rfl
  | t :: ts, cur, p => by rw [wrC, wrC_len ts, List.length_set]
theorem wrC_snoc : ∀ (ts : List (List UInt8)) (cur : List Bk) (p : Nat) (t : List UInt8), wrC cur p (ts ++ [t]) = (wrC cur p ts).set (p + ts.length) (padB t)
  | [], _, _, _ => rfl
  | u :: ts, cur, p, t => by rw [List.cons_append, wrC, wrC_snoc ts, wrC, List.length_cons, show p + 1 + ts.length = p + (ts.length + 1) by omega]
theorem wrC_s {ts : List (List UInt8)} {cur : List Bk} {p i : Nat} {t : List UInt8} (h : ts[i]? = some t) : wrC cur p (ts.take (i + 1)) = (wrC cur p (ts.take i)).set (p + i) (padB t) := by
  have hi : i < ts.length := (List.getElem?_eq_some_iff.1 h).1
  rw [List.take_add_one, h]
  show wrC cur p (ts.take i ++ [t]) = _
  rw [wrC_snoc, List.length_take, Nat.min_eq_left (by omega)]
theorem wrC_get : ∀ (ts : List (List UInt8)) (cur : List Bk) (p i : Nat), p + ts.length ≤ cur.length → (wrC cur p ts)[i]? = if p ≤ i ∧ i < p + ts.length then (ts[i - p]?).map padB else cur[i]?
  | [], cur, p, i, _ => by rw [if_neg (by simp only [List.length_nil]; omega)]; rfl
  | t :: ts, cur, p, i, h => by
    simp only [List.length_cons] at h ⊢
    rw [wrC, wrC_get ts _ _ _ (by rw [List.length_set]; omega)]
    by_cases e : i = p
    · subst e
      rw [if_neg (by omega), if_pos (by omega), Nat.sub_self, List.getElem?_set_self (by omega)]; rfl
    · rw [List.getElem?_set_ne (by omega)]
      by_cases c : p + 1 ≤ i ∧ i < p + 1 + ts.length
      · rw [if_pos c, if_pos (by omega), show i - p = (i - (p + 1)) + 1 by omega]; rfl
      · rw [if_neg c, if_neg (by omega)]
theorem NowOk.put {sure : List Bk} {lo : LoM} {cur : List Bk} (h : NowOk sure lo cur) {p : Nat} (hp : p < cur.length) (b : Bk) : NowOk sure (put lo (p : Int) b) (cur.set p b) := by
  refine ⟨by rw [List.length_set]; exact h.1, fun e he => ?_, fun i hi => ?_⟩
  · rw [List.length_set]
    rcases put_in he with q | q
    · rw [q]; exact ⟨by show 0 ≤ (p : Int); omega, by show (p : Int) < _; omega⟩
    · exact h.2.1 e q
  · rw [List.length_set] at hi
    rw [xH]
    by_cases e : i = p
    · subst e; rw [if_pos rfl, List.getElem?_set_self hi]; rfl
    · rw [if_neg (by omega), List.getElem?_set_ne (by omega)]; exact h.2.2 i hi
def SyI (cur : List Bk) (lo : LoM) (sure : List Bk) (rest : List Int) : Prop := sure.length = cur.length ∧ ∀ i : Nat, (i : Int) ∉ rest → sure[i]? = cur[i]?
theorem getD_get {α : Type} {l : List α} {i : Nat} {z : α} (h : i < l.length) : some (l.getD i z) = l[i]? := by
  rw [List.getD_eq_getElem?_getD, List.getElem?_eq_getElem h]; rfl
theorem SyI.start {sure : List Bk} {lo : LoM} {cur : List Bk} (h : NowOk sure lo cur) : SyI cur lo sure (lo.map Prod.fst) := ⟨h.1, fun i hi => by
  by_cases c : i < cur.length
  · rw [h.2.2 i c, look_none_iff.2 hi, Option.getD_none, getD_get (by have := h.1; omega)]
  · rw [List.getElem?_eq_none (by have := h.1; omega), List.getElem?_eq_none (by omega)]⟩
theorem SyI.next {sure0 sure : List Bk} {lo : LoM} {cur : List Bk} {rest rs : List Int} {p : Nat} {b : Bk} (h0 : NowOk sure0 lo cur) (h : SyI cur lo sure rest) (hnd : (lo.map Prod.fst).Nodup) (hp : rest.Perm ((p : Int) :: rs)) (hb : ((p : Int), b) ∈ lo) : SyI cur lo (sure.set p b) rs := by
  refine ⟨by rw [List.length_set]; exact h.1, fun i hi => ?_⟩
  have hl := (h0.2.1 _ hb).2
  dsimp only at hl
  by_cases e : i = p
  · subst e
    rw [List.getElem?_set_self (by have := h.1; omega), h0.2.2 i (by omega), look_of_mem hnd hb]; rfl
  · rw [List.getElem?_set_ne (by omega)]
    refine h.2 i fun q => ?_
    rcases List.mem_cons.1 (hp.mem_iff.1 q) with w | w
    · omega
    · exact hi w
theorem SyI.fin {sure : List Bk} {lo : LoM} {cur : List Bk} (h : SyI cur lo sure []) : sure = cur := List.ext_getElem? fun i => h.2 i (by simp)
theorem NowOk.sync (cur : List Bk) : NowOk cur [] cur := ⟨rfl, fun e he => (by cases he), fun i hi => (getD_get hi).symm⟩
theorem fz_call {f : Fz} {a : Bool} {l : Int} (h : FzOk f a l) : (a = true ∧ l = 0) ↔ f = some 0 := by
  cases f with
  | none => simp [FzOk] at h ⊢; intro e; rw [h] at e; cases e
  | some k => simp only [FzOk] at h; obtain ⟨e1, e2, e3⟩ := h; subst e1; subst e2; simp
theorem fz_next {f : Fz} {a : Bool} {l : Int} (h : FzOk f a l) (k : f ≠ some 0) : FzOk (fzN f) a (IntKind.i64.wrap (l - 1)) := by
  cases f with
  | none => exact h
  | some m =>
    simp only [FzOk, fzN, Option.map_some] at h ⊢
    obtain ⟨e1, e2, e3⟩ := h
    have : m ≠ 0 := fun q => k (by rw [q])
    subst e2
    rw [wrap_i64 (by omega) (by omega)]
    exact ⟨e1, by omega, by omega⟩
theorem fz_0 {a : Bool} {l : Int} (h : FzOk (some 0) a l) : FzOk (fzN (some 0)) a l := h
theorem fzE_n {f : Fz} (h : f ≠ some 0) : fzE f = 0 := if_neg h
structure Dk where
  bd : Nat
  bf : Nat
  bl : Nat
  n : Nat
  sb : Nat
def nowF (sure : List Bk) (lo : LoM) (i : Nat) : Bk := (look lo (i : Int)).getD (sure.getD i zB)
theorem now_eq {sure : List Bk} {lo : LoM} {cur : List Bk} (h : NowOk sure lo cur) {i : Nat} (hi : i < cur.length) : cur[i]? = some (nowF sure lo i) := h.2.2 i hi
def lkB (lo : LoM) (i : Nat) : Bk := (look lo (i : Int)).getD zB
theorem nowF_t {sure : List Bk} {lo : LoM} {i : Nat} (h : (look lo (i : Int)).isSome = true) : nowF sure lo i = lkB lo i := by
  unfold nowF lkB
  cases e : look lo (i : Int) with
  | none => rw [e] at h; cases h
  | some b => rfl
theorem nowF_f {sure : List Bk} {lo : LoM} {i : Nat} (h : (look lo (i : Int)).isSome = false) : nowF sure lo i = sure.getD i zB := by
  unfold nowF
  cases e : look lo (i : Int) with
  | none => rfl
  | some b => rw [e] at h; cases h
theorem get_getD {α : Type} {l : List α} {i : Nat} {z : α} (h : i < l.length) : l[i]? = some (l.getD i z) := (getD_get h).symm
theorem fzE_t {f : Fz} (h : fzE f ≠ 0) : f = some 0 := Decidable.byContradiction fun k => h (fzE_n k)
theorem fzE_f {f : Fz} (h : ¬ fzE f ≠ 0) : f ≠ some 0 := fun e => h (by rw [e]; decide)
theorem pad_set {t : List UInt8} (h : t.length ≤ 64) : SetAt ((List.replicate 64 (0 : UInt8)).map Y) 0 ((t.take t.length).map Y) ((padB t).1.map Y) := by
  rw [List.take_of_length_le (Nat.le_refl _)]
  refine ⟨by simp; omega, ?_⟩
  show ((t ++ List.replicate 64 0).take 64).map Y = _
  rw [List.take_append, List.take_of_length_le h, List.take_replicate, List.map_append, List.take_zero, List.nil_append, List.length_map, Nat.zero_add, ← List.map_drop, List.drop_replicate, Nat.min_eq_left (by omega)]
def rdB (cur : List Bk) (p n : Nat) : List UInt8 := ((cur.drop p).take n).flatMap (·.1)
theorem rdB_s {cur : List Bk} {p i : Nat} {b : Bk} (h : cur[p + i]? = some b) : rdB cur p (i + 1) = rdB cur p i ++ b.1 := by
  unfold rdB
  rw [List.take_add_one, List.getElem?_drop, h, List.flatMap_append]
  simp

theorem fcall_spec {bf : Nat} {f : Fz} {ar : Bool} {lf : Int} (hf : FzOk f ar lf) : Spec Tryz.prog 100 [.pointer (some ⟨bf, 0, none⟩)] [] [cl bf 101 [.bool ar, .int .i64 lf]] (fun v D' M' => ∃ (lf2 : Int), v = .int .i64 (fzE f) ∧ (FzOk (fzN f) ar lf2) ∧ D' = [] ∧ M' = [cl bf 101 [.bool ar, .int .i64 lf2]]) := by
 refine zv (n := 21) Tryz.func100 ?_
 intro σ D M
 refine O (V R R (I (ze (ze (yx (fun K' D' M' => ∃ (w : Bool), (w = true ↔ f = some 0) ∧ K' = [(13, .bool w)] ∧ D' = [] ∧ M' = [cl bf 101 [.bool ar, .int .i64 lf]]) (M0 := [cl bf 101 [.bool ar, .int .i64 lf]]) (.c 0 R <| zd _) qS ?_ ?_)))))
 ·refine zt (E R R (zJ R R ?_))
  refine zg R fo101_0 R ?_
  refine zf R sc4 R qC ?_
  refine E R R (yT (t := 7) R (fun h1 => ?_) (fun h1 => ?_))
  ·try simp only [dq] at h1
   refine zj 7 R R R (E R R (zj 7 R R R (zJ R R ?_)))
   refine zj 7 R R R (zg R fo101_1 R ?_)
   refine zj 7 R R R (zf R sc3 R qC ?_)
   exact zj 7 R R R (yi R R R (ym R R R (I (zK ⟨_, (by have q := fz_call hf; simp_all), R, R, R⟩ (.c 13 R <| zd _) (.c 0 R <| zd _) qD qD qF))))
  try simp only [dq] at h1
  exact zw 7 false R R R R R jD (zw 7 false R R R R R jD (zw 7 false R R R R R jD (zw 7 false R R R R R jD (zw 7 false R R R R R jD (yg R R R (I (zK ⟨_, (by have q := fz_call hf; simp_all), R, R, R⟩ (.c 13 R <| zd _) (.c 0 R <| zd _) qD qD qF)))))))
 rintro _ _ _ ⟨w, hw, rfl, rfl, rfl⟩
 refine zM qA qA qA ?_
 refine z8 (zA R (fun h13 => ?_) (fun h13 => ?_))
 ·try simp only [dq] at h13
  obtain rfl : f = some 0 := hw.1 h13
  exact O (V R R (I (zo (zL (zy R R ⟨_, R, fz_0 hf, R, R⟩ qD qF)))))
 try simp only [dq] at h13
 have hf0 : f ≠ some 0 := fun e => by have := hw.2 e; rw [h13] at this; cases this
 refine zq (z8 (O (E R R (zJ R R ?_))))
 refine zg R fo101_1 R ?_
 refine zf R sc3 R qC ?_
 refine L.subI R R R ?_
 refine zJ R R ?_
 refine zg R fo101_1 R ?_
 refine yj sc3 R R R qU qE ?_
 exact I (O (V R R (I (zo (zy R R ⟨_, by rw [fzE_n hf0], fz_next hf hf0, R, R⟩ qD qF)))))
theorem size3_spec {k : Dk}  : Spec Tryz.prog 152 [.pointer (some ⟨k.bd, 0, none⟩)] [cl k.bd 51 [.pointer (some ⟨k.bf, 0, none⟩), .slice (some ⟨k.sb, 0, none⟩) k.n k.n, .map (some k.bl)]] [] (fun v D' M' => v = .int .i64 (k.n : Int) ∧ D' = [] ∧ M' = []) := by
 refine zv (n := 8) Tryz.func152 ?_
 intro σ D M
 refine O (V R R (I (O (E R R (zJ R R ?_)))))
 refine zg R fo51_1 R ?_
 refine zf R sc48 R qC ?_
 exact yb R xV R (V R R (I (zo (zy R R ⟨R, R, R⟩ qD qF))))
theorem in3_spec {k : Dk} {p m : Nat} (hp : p + m ≤ k.n) (hn : k.n ≤ 1000000) : Spec Tryz.prog 153 [.pointer (some ⟨k.bd, 0, none⟩), .int .i64 (p : Int), .int .i64 (m : Int)] [cl k.bd 51 [.pointer (some ⟨k.bf, 0, none⟩), .slice (some ⟨k.sb, 0, none⟩) k.n k.n, .map (some k.bl)]] [] (fun v D' M' => v = .bool true ∧ D' = [] ∧ M' = []) := by
 refine zv (n := 29) Tryz.func153 ?_
 intro σ D M
 refine O (V R R (I (O (E R R (L.geI R R R (E R R (zE (t := 9) R (show _ = Value.bool true from congrArg Value.bool (decide_eq_true jO)) ?_)))))))
 refine zj 9 R R R (E R R (zj 9 R R R (E R R (zj 9 R R R (zJ R R ?_)))))
 refine zj 9 R R R (zg R fo51_1 R ?_)
 refine zj 9 R R R (zf R sc48 R qC ?_)
 refine zj 9 R R R (yb R xV R (zj 9 R R R (L.leI R R R (ym R R R (E R R (zE (t := 18) R (show _ = Value.bool true from congrArg Value.bool (decide_eq_true jO)) ?_))))))
 refine zj 18 R R R (E R R (zj 18 R R R (E R R (zj 18 R R R (zJ R R ?_)))))
 refine zj 18 R R R (zg R fo51_1 R ?_)
 refine zj 18 R R R (zf R sc48 R qC ?_)
 refine zj 18 R R R (yb R xV R (zj 18 R R R (E R R (zj 18 R R R (yt R R R jO ?_)))))
 exact zj 18 R R R (L.leI R R R (ym R R R (V R R (I (zo (zy R R ⟨congrArg Value.bool (decide_eq_true jO), R, R⟩ qD qF))))))
theorem now_spec {k : Dk} {p : Nat} {sure : List Bk} {lo : LoM} (hp : p < k.n) (hs : sure.length = k.n) : Spec Tryz.prog 154 [.pointer (some ⟨k.bd, 0, none⟩), .int .i64 (p : Int)] [cl k.bd 51 [.pointer (some ⟨k.bf, 0, none⟩), .slice (some ⟨k.sb, 0, none⟩) k.n k.n, .map (some k.bl)]] [own 64 179 (some ⟨k.sb, 0, none⟩) k.n k.n ((sure).map bC), mp k.bl iK bkV (lo)] (fun v D' M' => v = .agg (bC (nowF sure lo p)).toArray ∧ D' = [] ∧ M' = [own 64 179 (some ⟨k.sb, 0, none⟩) k.n k.n ((sure).map bC), mp k.bl iK bkV (lo)]) := by
 refine zv (n := 25) Tryz.func154 ?_
 intro σ D M
 have hq1 : (lkB lo p).1.length = 64 := (lkB lo p).2
 refine O (zC R ze179 (fun b4 => ?_))
 refine I (ze (O (E R R (zJ R R ?_))))
 refine zg R fo51_2 R ?_
 refine zf R sc49 R qC ?_
 refine E R R (L.lookup2 (kenc := iK) (venc := bkV) (l := lo) (k := (p : Int)) R Tryz.underlying49 (keyT_int xi) zv179 R R qM ?_)
 refine zE (t := 13) (u := .tuple #[bkV (lkB lo p), .bool (look lo (p : Int)).isSome]) R (by unfold lkB; cases look lo (p : Int) <;> rfl) ?_
 refine E R R (zr R R R (zr R R R (zC R ze179 (fun b5 => ?_))))
 refine zz ag179 R R qL qO qU qW ?_
 refine V R R (I (O (E R R (I (zA R (fun h16 => ?_) (fun h16 => ?_))))))
 ·try simp only [dq] at h16
  rw [nowF_t h16]
  refine O (zx R ag179 R qN ?_)
  refine zz ag179 R R qL qO qU qW ?_
  exact I (zo (zL (xt R ag179 R qN ⟨R, R, R⟩ qD qF)))
 try simp only [dq] at h16
 rw [nowF_f h16]
 refine zq (z8 (ze ?_))
 have hgd : sure[p]? = some (sure.getD p zB) := get_getD jO
 obtain ⟨B, hB⟩ : ∃ z, z = sure.getD p zB := ⟨_, rfl⟩
 rw [← hB] at hgd ⊢
 have hq2 : B.1.length = 64 := B.2
 refine zt (E R R (zJ R R ?_))
 refine zg R fo51_1 R ?_
 refine zf R sc48 R qC ?_
 refine E R R (yN (i := p) R xV sz179 R R jR qI ?_)
 refine zx R ag179 R (xJ qM (yJ hgd) (bC_len _)) ?_
 refine zz ag179 R R qL qO qU qW ?_
 exact I (zo (xt R ag179 R qN ⟨R, R, R⟩ qD qF))
end Cv
set_option maxRecDepth 10000
namespace Cv
open Go Go.Proofs
def dkA (k : Dk) (f : Fz) (cur : List Bk) : Asn := exP (fun x : DkX => FzOk f x.ar x.lf ∧ NowOk x.sure x.lo cur ∧ cur.length = k.n) (fun x => [cl k.bf 101 [.bool x.ar, .int .i64 x.lf], own 64 179 (some ⟨k.sb, 0, none⟩) k.n k.n ((x.sure).map bC), mp k.bl iK bkV (x.lo)])
section
variable {σ : World} {n : Nat} {G : Act → World → Prop} {K : Env} {D M N : List Asn} {k : Dk} {f : Fz} {cur : List Bk}
theorem T.dkU (hM : Pull (dkA k f cur) M N) (next : ∀ (sure : List Bk) (lo : LoM) (ar : Bool) (lf : Int), FzOk f ar lf → NowOk sure lo cur → cur.length = k.n → T σ n G K D (cl k.bf 101 [.bool ar, .int .i64 lf] :: own 64 179 (some ⟨k.sb, 0, none⟩) k.n k.n ((sure).map bC) :: mp k.bl iK bkV (lo) :: N)) : T σ n G K D M := T.exU hM fun x h => next x.sure x.lo x.ar x.lf h.1 h.2.1 h.2.2
theorem T.dkF {sure : List Bk} {lo : LoM} {ar : Bool} {lf : Int} (h1 : FzOk f ar lf) (h2 : NowOk sure lo cur) (h3 : cur.length = k.n) (hM : Sel [cl k.bf 101 [.bool ar, .int .i64 lf], own 64 179 (some ⟨k.sb, 0, none⟩) k.n k.n ((sure).map bC), mp k.bl iK bkV (lo)] M N) (next : T σ n G K D (dkA k f cur :: N)) : T σ n G K D M := T.exF (⟨sure, lo, ar, lf⟩ : DkX) ⟨h1, h2, h3⟩ hM next
end

theorem dread_spec {k : Dk} {p m : Nat} {cur : List Bk} (hp : p + m ≤ k.n) (hn : k.n ≤ 60000) : Spec Tryz.prog 94 [.pointer (some ⟨k.bd, 0, none⟩), .int .i64 (p : Int), .int .i64 (m : Int)] [cl k.bd 51 [.pointer (some ⟨k.bf, 0, none⟩), .slice (some ⟨k.sb, 0, none⟩) k.n k.n, .map (some k.bl)]] [dkA k none cur] (fun v D' M' => v = .tuple #[S (rdB cur p m), .int .i64 0] ∧ D' = [] ∧ M' = [dkA k none cur]) := by
 refine zv (n := 44) Tryz.func94 ?_
 intro σ D M
 refine T.dkU qP (fun sure lo ar lf hfz hnow hcl => ?_)
 have hsl := hnow.1
 refine O (V R R (V R R (I (ze (O (E R R (zW R R R (E R R (zE (t := 14) R (show _ = Value.bool false from congrArg Value.bool (decide_eq_false jO)) ?_)))))))))
 refine zj 14 R R R (E R R (zj 14 R R R (E R R (zj 14 R R R (E R R (zj 14 R R R (zH R (ev3 R R R) qD qS (in3_spec jO jO) jF ?_)))))))
 refine zj 14 R R R (x7 R R (yg R R R (I (zR R R ?_))))
 refine zq (z8 (ze (O (E R R (zJ R R ?_)))))
 refine zg R fo51_0 R ?_
 refine zf R sc47 R qC ?_
 refine zp R (ev1 R) qD qS (fcall_spec (f := none) hfz) ?_
 rintro _ _ _ ⟨lf2, rfl, hf2, rfl, rfl⟩
 refine zm qA qA ?_
 refine V R R (I (O (E R R (zZ R R R (I (zR R (decide_eq_false (fun q => q R)) ?_))))))
 refine zq (z8 (O (V R R (zu (yM (sz := 1) (e := 5) ?_)))))
 refine y3 qP (show own 1 5 none 0 0 [] = own 1 5 none 0 0 ((rdB cur p 0).map yr) from R) ?_
 refine z8 (ze (O (E R R (E R R (I (zD (y8 (fun K' D' M' μ => ∃ (i on_ oc : Nat) (oa : Option Addr), (i ≤ m ∧ on_ = 64 * i) ∧ K' = [(30, .int .i64 (i : Int)), (9, .slice oa on_ oc)] ∧ D' = [] ∧ M' = [cl k.bf 101 [.bool ar, .int .i64 lf2], own 64 179 (some ⟨k.sb, 0, none⟩) k.n k.n ((sure).map bC), mp k.bl iK bkV (lo), own 1 5 oa on_ oc ((rdB cur p i).map yr)] ∧ μ = m - i) (.c 0 R <| .c 1 R <| .c 29 R <| zd _) (⟨0, 0, 0, none, ⟨Nat.zero_le _, R⟩, R, R, R, R⟩) (.c 30 R <| .c 9 R <| zd _) qD qS ?_)))))))
 rintro K1 D1 M1 m1 ⟨i, on_, oc, oa, ⟨hi, hon⟩, rfl, rfl, rfl, rfl⟩
 refine zM qA qA qA ?_
 refine O (zW R R R (I (ze (zA R (fun h31 => ?_) (fun h31 => ?_)))))
 ·try simp only [dq] at h31
  refine zq (z8 (ze (zD (O (E R R (V R R (I (ze ?_))))))))
  have hb64 : (nowF sure lo (p + i)).1.length = 64 := (nowF sure lo (p + i)).2
  have hcg := now_eq hnow (i := p + i) jO
  refine zt (E R R (E R R (E R R (zT R R R jO ?_))))
  refine zE (t := 36) (u := .int .i64 ((p + i : Nat) : Int)) R (congrArg (Value.int .i64) jO) ?_
  refine zH R (ev2 R R) qD qS (now_spec (p := p + i) jO jO) jF ?_
  refine zC R ze179 (fun b11 => ?_)
  refine zz ag179 R R qL qO qU qW ?_
  refine I (zt (E R R (xB R Tryz.underlying179 sz5 R xb xb qI qI ?_)))
  refine zE (t := 39) (u := .slice (some ⟨b11, 0, none⟩) 64 64) R (by first | rfl | simp [cutA, Addr.add]) ?_
  refine yR (len := 64) qP (rows := (nowF sure lo (p + i)).1.map yr) (sz := 1) (yr_flat _) (by rw [List.length_map]; exact hb64) (by simp) ?_
  refine yF qP ?_
  refine xC R yz yz el5 R R qP (rd_D qM) (by first | with_reducible exact One.yr | (intro u hu; simp at hu; simp_all)) qI qI (fun a40 c40 => ?_)
  refine V R R (zu (zS (z8 (zt (zT R R R jO ?_)))))
  refine E R R (I (yp _ ((rdB cur p (i + 1)).map yr) qP (by rw [rdB_s hcg, List.map_append]) ?_))
  exact zV ⟨i + 1, on_ + 64, _, _, ⟨by omega, by omega⟩, R, R, R, R⟩ qI (.c 30 R <| .c 9 R <| zd _) (.c 0 R <| .c 1 R <| .c 29 R <| zd _) qD qD qF
 try simp only [dq] at h31
 obtain rfl : m = i := by omega
 refine yQ (rows := (rdB cur p m).map yr) qP ?_
 refine y4 (zG (zG (y5 (z8 (O (E R R (xL R yz zX ye R qM ?_)))))))
 refine V R R (V R R (I (zo (T.dkF (f := none) (hf2) (hnow) (hcl) qS ?_))))
 exact x8 R R R ⟨R, R, R⟩ qD qF
theorem dsync_spec {k : Dk} {f : Fz} {cur : List Bk} (hn : k.n ≤ 60000) : Spec Tryz.prog 54 [.pointer (some ⟨k.bd, 0, none⟩)] [cl k.bd 51 [.pointer (some ⟨k.bf, 0, none⟩), .slice (some ⟨k.sb, 0, none⟩) k.n k.n, .map (some k.bl)]] [dkA k f cur] (fun v D' M' => v = .int .i64 (fzE f) ∧ D' = [] ∧ M' = [dkA k (fzN f) cur]) := by
 refine zv (n := 35) Tryz.func54 ?_
 intro σ D M
 refine T.dkU qP (fun sure lo ar lf hfz hnow hcl => ?_)
 have hsl := hnow.1
 refine T.mpNodup (kenc := iK) (venc := bkV) qM (fun hnd => ?_)
 refine O (V R R (I (ze (O (E R R (zJ R R ?_))))))
 refine zg R fo51_0 R ?_
 refine zf R sc47 R qC ?_
 refine zp R (ev1 R) qD qS (fcall_spec (f := f) hfz) ?_
 rintro _ _ _ ⟨lf2, rfl, hf2, rfl, rfl⟩
 refine zm qA qA ?_
 refine V R R (I (O (E R R (zZ R R R (I (zA R (fun h12 => ?_) (fun h12 => ?_)))))))
 ·try simp only [dq] at h12
  have hff := fzE_t h12
  refine O (E R R (V R R (I (zo (zL (T.dkF (hf2) (hnow) (hcl) qS ?_))))))
  exact zy R R ⟨R, R, R⟩ qD qF
 try simp only [dq] at h12
 have hff := fzE_f h12
 refine zq (z8 (ze (O (E R R (zJ R R ?_)))))
 refine zg R fo51_2 R ?_
 refine zf R sc49 R qC ?_
 refine L.range R Tryz.underlying49 R qP (fun it => ?_)
 refine I (zD (y8 (fun K' D' M' μ => ∃ (rest : List Int) (cu : Option Int) (su : List Bk), (SyI cur lo su rest) ∧ K' = [] ∧ D' = [] ∧ M' = [cl k.bf 101 [.bool ar, .int .i64 lf2], own 64 179 (some ⟨k.sb, 0, none⟩) k.n k.n ((su).map bC), mpi k.bl it iK bkV lo rest cu] ∧ μ = rest.length) (.c 0 R <| .c 18 R <| zd _) (⟨_, _, _, SyI.start hnow, R, R, R, R⟩) (zd _) qD qS ?_))
 rintro K1 D1 M1 m1 ⟨rest, cu, su, hI, rfl, rfl, rfl, rfl⟩
 refine zM qA qA qA ?_
 refine O (L.next R R qP (fun hre => ?_) (fun kk b rs hpe hkv => ?_))
 ·skip
  refine zr R R R (I (ze (zR R R ?_)))
  refine y4 (zG (zG (y5 (z8 (ze ?_)))))
  subst hre
  obtain rfl := hI.fin
  refine T.mpiMp qP ?_
  refine zt (E R R (zJ R R ?_))
  refine zg R fo51_2 R ?_
  refine zf R sc49 R qC ?_
  refine L.clearM Tryz.underlying49 R qP ?_
  refine I (O (V R R (I (zo (T.dkF (hf2) (NowOk.sync _) (hcl) qS ?_)))))
  exact zy R R ⟨by rw [fzE_n hff], R, R⟩ qD qF
 skip
 refine zr R R R (I (ze (yV R R ?_)))
 refine zq (z8 (zD (ze ?_)))
 obtain ⟨hk0, hk1⟩ := hnow.2.1 _ hkv
 dsimp only at hk0 hk1
 obtain ⟨p, rfl⟩ : ∃ p : Nat, kk = p := ⟨kk.toNat, by omega⟩
 have hb64 : b.1.length = 64 := b.2
 have hsu := hI.1
 refine zt (L.entry (ent_inj iK_inj hnd hkv) R R qM hkv ?_)
 refine zr R R R (zr R R R (zC R ze179 (fun b5 => ?_)))
 refine V R R (zz ag179 R R qL qO qU qW ?_)
 refine I (y7 (clsL [1, 0, 1, 0, 1, 0, 1, 2]) qk ?_)
 refine z9 0 R R (E R R (z7 (z9 4 R R (E R R (z7 (yE (i := 1) R R qk qk qk qk R qD qF R ?_))))))
 refine z9 2 R R (zg R fo51_1 R ?_)
 refine z7 (zY (i := 3) R R R R qk qk qk qk R qD qF ?_)
 refine zf R sc48 R qC ?_
 refine z7 (zY (i := 5) R R R R qk qk qk qk R qD qF ?_)
 refine zx R ag179 R qN ?_
 refine z7 (z9 6 R R (yN (i := p) R xV sz179 R R jR qI ?_))
 refine z7 (zi 7 R (xK (p) ag179 R jR R qL qO qP qI ?_))
 refine zh R qD ?_
 refine zN qk ?_
 refine zS (z8 (yp _ ((su.set p b).map bC) qP (by rw [List.map_set]) ?_))
 exact zV ⟨rs, some (p : Int), su.set p b, hI.next hnow hnd hpe hkv, R, R, R, R⟩ (by have := hpe.length_eq; simp at this; omega) (zd _) (.c 0 R <| .c 18 R <| zd _) qD qD qF
end Cv
set_option maxRecDepth 10000
namespace Cv
open Go Go.Proofs

theorem wr1_spec {t : List UInt8} (ht : t.length ≤ 64) : Spec Tryz.prog 193 [S t] [] [] (fun v D' M' => v = .bool false ∧ D' = [] ∧ M' = []) := by
 refine zv (n := 6) Tryz.func193 ?_
 intro σ D M
 exact O (V R R (I (O (E R R (yL R ye R (yy R R R (V R R (I (zo (zy R R ⟨congrArg Value.bool (decide_eq_false jO), R, R⟩ qD qF))))))))))
theorem idxs_spec {a : Option Addr} {n c : Nat} {ts : List (List UInt8)} (ht : ∀ t ∈ ts, t.length ≤ 64) (hn : n ≤ 60000) : Spec Tryz.prog 225 [.slice a n c, fnV 193 []] [rsl 1 a n c (ts.map ys)] [] (fun v D' M' => v = .int .i64 (-1) ∧ D' = [] ∧ M' = []) := by
 refine zv (n := 19) Tryz.func225 ?_
 intro σ D M
 refine yU (a := a) (len := n) (cap := c) (rows := ts.map ys) qM (fun hl hc => ?_)
 rw [List.length_map] at hl
 refine O (V R R (I (ze (O (E R R (yb R xp R (E R R (I (zD (y8 (fun K' D' M' μ => ∃ (i : Nat), (i ≤ n) ∧ K' = [(8, .int .i64 (i : Int))] ∧ D' = [] ∧ M' = [] ∧ μ = n - i) (.c 0 R <| .c 1 R <| .c 7 R <| zd _) (⟨0, Nat.zero_le _, R, R, R, R⟩) (.c 8 R <| zd _) qD qS ?_))))))))))
 rintro K1 D1 M1 m1 ⟨i, hi, rfl, rfl, rfl, rfl⟩
 refine zM qA qA qA ?_
 refine O (zW R R R (I (ze (zA R (fun h9 => ?_) (fun h9 => ?_)))))
 ·try simp only [dq] at h9
  refine zq (z8 (ze (zD (O (E R R (V R R (I (ze ?_))))))))
  have hgd : ts[i]? = some (gd ts i) := y9 jO
  obtain ⟨t, ht_⟩ : ∃ z, z = gd ts i := ⟨_, rfl⟩
  rw [← ht_] at hgd
  clear ht_
  have hgr : (ts.map ys)[i]? = some (ys t) := yJ hgd
  refine zt (E R R (E R R (E R R (yP (i := i) R xp sz9 R R qM jR qG (fun b14 o14 => ?_)))))
  refine zf R sc9 R qC ?_
  refine L.callVF R R (ev1 R) qD qS (wr1_spec (ht t (List.mem_of_getElem? hgd))) jF ?_
  refine I (zR R R ?_)
  refine zq (zS (z8 (zt (zT R R R jO ?_))))
  exact E R R (I (zV ⟨i + 1, jO, R, R, R, R⟩ qI (.c 8 R <| zd _) (.c 0 R <| .c 1 R <| .c 7 R <| zd _) qD qD qF))
 try simp only [dq] at h9
 exact y4 (zG (zG (y5 (z8 (O (V R R (I (zo (zy R R ⟨R, R, R⟩ qD qF)))))))))
theorem cons_spec {a : Option Addr} {n c : Nat} {ts : List (List UInt8)} (ht : ∀ t ∈ ts, t.length ≤ 64) (hn : n ≤ 60000) : Spec Tryz.prog 192 [.slice a n c, fnV 193 []] [rsl 1 a n c (ts.map ys)] [] (fun v D' M' => v = .bool false ∧ D' = [] ∧ M' = []) := by
 refine zv (n := 9) Tryz.func192 ?_
 intro σ D M
 refine O (V R R (I (O (E R R (E R R (zH R (ev2 R R) qD qS (idxs_spec ht hn) jF ?_))))))
 exact L.geI R R R (V R R (I (zo (zy R R ⟨R, R, R⟩ qD qF))))
theorem dwrite_spec {k : Dk} {f : Fz} {p n c : Nat} {a : Option Addr} {ts : List (List UInt8)} {cur : List Bk} (hp : p + n ≤ k.n) (hn : k.n ≤ 60000) (ht : ∀ t ∈ ts, t.length ≤ 64) : Spec Tryz.prog 134 [.pointer (some ⟨k.bd, 0, none⟩), .int .i64 (p : Int), .slice a n c] [cl k.bd 51 [.pointer (some ⟨k.bf, 0, none⟩), .slice (some ⟨k.sb, 0, none⟩) k.n k.n, .map (some k.bl)], rsl 1 a n c (ts.map ys)] [dkA k f cur] (fun v D' M' => v = .int .i64 (fzE f) ∧ D' = [] ∧ M' = [dkA k (fzN f) (if f = some 0 then cur else wrC cur p ts)]) := by
 refine zv (n := 48) Tryz.func134 ?_
 intro σ D M
 refine T.dkU qP (fun sure lo ar lf hfz hnow hcl => ?_)
 have hsl := hnow.1
 refine yU (a := a) (len := n) (cap := c) (rows := ts.map ys) qM (fun hl hc => ?_)
 rw [List.length_map] at hl
 refine O (V R R (I (ze (O (E R R (E R R (E R R (yb R xp R (zH R (ev3 R R R) qD qS (in3_spec jO jO) jF ?_)))))))))
 refine x7 R R (E R R (zE (t := 17) R (show _ = Value.bool false from congrArg Value.bool (R)) ?_))
 refine zj 17 R R R (E R R (zj 17 R R R (zH R (ev2 R R) qD qS (cons_spec ht jO) jF ?_)))
 refine yg R R R (I (zR R R ?_))
 refine zq (z8 (ze (O (E R R (zJ R R ?_)))))
 refine zg R fo51_0 R ?_
 refine zf R sc47 R qC ?_
 refine zp R (ev1 R) qD qS (fcall_spec (f := f) hfz) ?_
 rintro _ _ _ ⟨lf2, rfl, hf2, rfl, rfl⟩
 refine zm qA qA ?_
 refine V R R (I (O (E R R (zZ R R R (I (zA R (fun h27 => ?_) (fun h27 => ?_)))))))
 ·try simp only [dq] at h27
  have hff := fzE_t h27
  refine O (E R R (V R R (I (zo (zL ?_)))))
  rw [if_pos hff]
  refine T.dkF (hf2) (hnow) (hcl) qS ?_
  exact zy R R ⟨R, R, R⟩ qD qF
 try simp only [dq] at h27
 have hff := fzE_f h27
 refine zq (z8 (ze (O (E R R (yb R xp R (E R R (I (zD (y8 (fun K' D' M' μ => ∃ (i : Nat) (lo2 : LoM), (i ≤ n ∧ NowOk sure lo2 (wrC cur p (ts.take i))) ∧ K' = [(31, .int .i64 (i : Int))] ∧ D' = [] ∧ M' = [cl k.bf 101 [.bool ar, .int .i64 lf2], own 64 179 (some ⟨k.sb, 0, none⟩) k.n k.n ((sure).map bC), mp k.bl iK bkV (lo2)] ∧ μ = n - i) (.c 0 R <| .c 1 R <| .c 29 R <| .c 30 R <| zd _) (⟨0, lo, ⟨Nat.zero_le _, hnow⟩, R, R, R, R⟩) (.c 31 R <| zd _) qD qS ?_)))))))))
 rintro K1 D1 M1 m1 ⟨i, lo2, ⟨hi, hI⟩, rfl, rfl, rfl, rfl⟩
 refine zM qA qA qA ?_
 refine O (zW R R R (I (ze (zA R (fun h32 => ?_) (fun h32 => ?_)))))
 ·try simp only [dq] at h32
  refine zq (z8 (ze (zD (ze ?_))))
  have hgd : ts[i]? = some (gd ts i) := y9 jO
  obtain ⟨t, ht_⟩ : ∃ z, z = gd ts i := ⟨_, rfl⟩
  rw [← ht_] at hgd
  clear ht_
  have hgr : (ts.map ys)[i]? = some (ys t) := yJ hgd
  have ht64 := ht t (List.mem_of_getElem? hgd)
  have hpd : (padB t).1.length = 64 := (padB t).2
  have hwl := wrC_len (ts.take i) cur p
  refine zt (E R R (yP (i := i) R xp sz9 R R qM jR qG (fun b34 o34 => ?_)))
  refine zf R sc9 R qC ?_
  refine V R R (V R R (I (O (zC R ze179 (fun b10 => ?_)))))
  refine I (O (xB R Tryz.underlying179 sz5 R xb xb qI qI ?_))
  refine E R R (L.copyStr R yz sz5 R R (show Nat.min t.length 64 = t.length from Nat.min_eq_left ht64) qU (pad_set ht64) ?_)
  refine I (y7 (clsL [1, 0, 1, 0, 1, 1, 1, 0, 2]) qk ?_)
  refine z9 0 R R (E R R (z7 (z9 4 R R (E R R (z7 (z9 5 R R (E R R (z7 (z9 6 R R (zT R R R jO ?_))))))))))
  refine zE (t := 45) (u := iK ((p + i : Nat) : Int)) R (congrArg (Value.int .i64) jO) ?_
  refine z7 (yE (i := 1) R R qk qk qk qk R qD qF R ?_)
  refine z9 2 R R (zg R fo51_2 R ?_)
  refine z7 (zY (i := 3) R R R R qk qk qk qk R qD qF ?_)
  refine zf R sc49 R qC ?_
  refine z7 (zY (i := 7) R R R R qk qk qk qk R qD qF ?_)
  refine zx R ag179 R qN ?_
  refine z7 (zi 8 R (xQ (kenc := iK) (venc := bkV) (l := lo2) (k := ((p + i : Nat) : Int)) (v := padB t) Tryz.underlying49 (keyT_int xi) R R R R qP ?_))
  refine zh R qD ?_
  refine zN qk ?_
  refine zS (z8 (zt (zT R R R jO ?_)))
  exact E R R (I (zV ⟨i + 1, put lo2 ((p + i : Nat) : Int) (padB t), ⟨by omega, by rw [wrC_s hgd]; exact hI.put jO _⟩, R, R, R, R⟩ qI (.c 31 R <| zd _) (.c 0 R <| .c 1 R <| .c 29 R <| .c 30 R <| zd _) qD qD qF))
 try simp only [dq] at h32
 obtain rfl : n = i := by omega
 rw [List.take_of_length_le jO] at hI
 refine y4 (zG (zG (y5 (z8 (O (V R R (I (zo ?_))))))))
 rw [if_neg hff]
 refine T.dkF (hf2) (hI) (by rw [wrC_len]; exact hcl) qS ?_
 exact zy R R ⟨by rw [fzE_n hff], R, R⟩ qD qF
theorem dnew_spec {m : Nat} (hm : m ≤ 60000) : Spec Tryz.prog 14 [.int .i64 (m : Int)] [] [] (fun v D' M' => ∃ (k : Dk), v = .pointer (some ⟨k.bd, 0, none⟩) ∧ (k.n = m) ∧ D' = [cl k.bd 51 [.pointer (some ⟨k.bf, 0, none⟩), .slice (some ⟨k.sb, 0, none⟩) k.n k.n, .map (some k.bl)]] ∧ M' = [dkA k none (List.replicate m zB)]) := by
 refine zv (n := 12) Tryz.func14 ?_
 intro σ D M
 refine O (V R R (I (O (yq R bu101 (zQ (out := [Value.bool false, Value.int .i64 0]) R) ?_))))
 refine y6 R R R (fun b4 => ?_)
 refine E R R (L.minI R R R ?_)
 refine zE (t := 6) (u := .int .i64 (m : Int)) R (congrArg (Value.int .i64) jO) ?_
 refine L.maxI R R R ?_
 refine zE (t := 7) (u := .int .i64 (m : Int)) R (congrArg (Value.int .i64) jO) ?_
 refine L.makeRows (k := m) (sz := 64) (bs := 64) (z := .agg ((List.replicate 64 (0 : UInt8)).map Y).toArray) (zs := (List.replicate 64 (0 : UInt8)).map Y) R R xV qk (by simp) R R R R jO jO (fun b8 => ?_)
 refine xN iK bkV R (fun b9 => ?_)
 refine yq R bu51 (zF R R R <| zF R R R <| zF R R R <| zQ (out := []) R) ?_
 refine y6 R R R (fun b11 => ?_)
 refine V R R (I (zo (zO (A := cl b11 51 [.pointer (some ⟨b4, 0, none⟩), .slice (some ⟨b8, 0, none⟩) m m, .map (some b9)]) qP ?_)))
 refine yp _ ((List.replicate m zB).map bC) qP (by simp [bC, zB]) ?_
 refine T.dkF (k := ⟨b11, b4, b9, m, b8⟩) (f := none) (cur := List.replicate m zB) (lo := ([] : LoM)) R (NowOk.sync _) List.length_replicate qS ?_
 exact zy R R ⟨⟨b11, b4, b9, m, b8⟩, R, R, R, R⟩ qD qF
end Cv
