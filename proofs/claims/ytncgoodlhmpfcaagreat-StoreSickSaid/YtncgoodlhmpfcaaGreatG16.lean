/-
  The walks: registries: records.
-/
import Derived.Test.YtncgoodlhmpfcaaGreatF16
set_option linter.all false
set_option maxHeartbeats 400000
set_option maxRecDepth 10000
namespace Cv
open Go Go.Proofs
/-! ## registries: the plain model -/
abbrev IV := (Pt × List ID32) × (Option Addr × Nat × Nat)
@[reducible] def ivC (v : IV) : List Value := inC v.1.1 v.2.1 v.2.2.1 v.2.2.2
@[reducible] def ivV (v : IV) : Value := .agg (ivC v).toArray
def iF (e : ID32 × IV) : Asn := rsl 32 e.2.2.1 e.2.2.2.1 e.2.2.2.2 (e.2.1.2.map iC)
abbrev IvM := List (ID32 × IV)
abbrev ifs (pl : IvM) : Asn := fcs (pl.map iF)
@[reducible] def rgC (bp bh ba : Nat) : List Value := [.map (some bp), .map (some bh), .map (some ba)]
theorem tk_set {l : List UInt8} (h : l.length = 32) : SetAt ((List.replicate 32 (0 : UInt8)).map Y) 0 ((l.take 32).map Y) (l.map Y) := by
  rw [List.take_of_length_le (by omega)]
  exact SetAt.whole (by simp [h])
def anyI (p : ID32 → Bool) (xs : List ID32) : Bool := xs.any p
theorem anyI_at {p : ID32 → Bool} {xs : List ID32} {k : Nat} {x : ID32} (h : xs[k]? = some x) (e : p x = true) : anyI p xs = true := List.any_eq_true.2 ⟨x, List.mem_of_getElem? h, e⟩
theorem anyI_no {p : ID32 → Bool} {xs : List ID32} (h : ∀ y ∈ xs, p y = false) : anyI p xs = false := by
  unfold anyI
  rw [List.any_eq_false]
  exact fun y hy => by rw [h y hy]; decide
theorem any_nx {p : ID32 → Bool} {xs : List ID32} {k : Nat} {x : ID32} (h : ∀ y ∈ xs.take k, p y = false) (g : xs[k]? = some x) (e : p x = false) : ∀ y ∈ xs.take (k + 1), p y = false := fun y hy => by
  rw [List.take_add_one, g] at hy
  rcases List.mem_append.1 hy with q | q
  · exact h y q
  · obtain rfl : y = x := by simpa using q
    exact e

theorem rgnew_spec   : Spec Tryz.prog 51 [] [] [] (fun v D' M' => ∃ (br bp bh ba : Nat), v = .pointer (some ⟨br, 0, none⟩) ∧ D' = [] ∧ M' = [cl br 128 (rgC bp bh ba), mp bp aK ivV [], mp bh aK iK [], mp ba aK iK []]) := by
 refine zv (n := 6) Tryz.func51 ?_
 intro σ D M
 refine O (V R R (I (O (xN aK ivV R (fun bp => ?_)))))
 refine xN aK iK R (fun bh => ?_)
 refine xN aK iK R (fun ba => ?_)
 refine yq R bu128 (zF R R R <| zF R R R <| zF R R R <| zQ (out := []) R) ?_
 refine y6 R R R (fun b5 => ?_)
 exact V R R (I (zo (zy R R ⟨b5, bp, bh, ba, R, R, R⟩ qD qF)))
theorem adds_spec {a : Option Addr} {n c : Nat} {p : Pt} {l : List ID32} (hn : n ≤ 1000000) (hp : p.2 ≤ 4611686018427387904) : Spec Tryz.prog 29 [.agg (inC p a n c).toArray] [rsl 32 a n c (l.map iC)] [] (fun v D' M' => v = .agg #[.int .i64 2, S (inT p l), .int .i64 0] ∧ D' = [] ∧ M' = []) := by
 refine zv (n := 6) Tryz.func29 ?_
 intro σ D M
 have hin := inC_len p a n c
 have hp32 := p.1.2
 refine O (y6 R R R (fun b1 => ?_))
 refine zC R ze85 (fun b2 => ?_)
 refine zu (zO (A := cl b1 75 (inC p a n c)) qP ?_)
 refine z8 (O (zx R yu R qN ?_))
 refine zH R (ev1 R) qD qS (itext_spec (l := l) (p := p) hn hp) jF ?_
 refine yq R bu85 (zF R R R <| zF R R R <| zQ (out := [Value.int .i64 0]) R) ?_
 refine zz yD R R qL qO qU qW ?_
 exact I (zo (xt R yD R qN ⟨R, R, R⟩ qD qF))
theorem record_spec {k : Int} {x : ID32}  : Spec Tryz.prog 41 [.int .i64 k, .agg (iC x).toArray] [] [] (fun v D' M' => v = .agg #[.int .i64 k, S x.1, .int .i64 0] ∧ D' = [] ∧ M' = []) := by
 refine zv (n := 9) Tryz.func41 ?_
 intro σ D M
 have hx2 := x.2
 have hx3 := yw x
 refine O (y6 R R R (fun b3 => ?_))
 refine zC R ze85 (fun b4 => ?_)
 refine zu (zO (A := cl b3 38 (iC x)) qP ?_)
 refine z8 (O (E R R (zx R zI R qN ?_)))
 refine zH R (ev1 R) qD qS (obytes_spec (l := x.1) hx2) jF ?_
 refine yq R bu85 (zF R R R <| zF R R R <| zQ (out := [Value.int .i64 0]) R) ?_
 refine zz yD R R qL qO qU qW ?_
 exact I (zo (xt R yD R qN ⟨R, R, R⟩ qD qF))
theorem otake_spec {x : ID32}  : Spec Tryz.prog 70 [S x.1] [] [] (fun v D' M' => v = .tuple #[.agg (iC x).toArray, .int .i64 0] ∧ D' = [] ∧ M' = []) := by
 refine zv (n := 13) Tryz.func70 ?_
 intro σ D M
 have hl := x.2
 have hlm : (x.1.map Y).length = 32 := by rw [List.length_map]; exact hl
 refine O (zC R ze38 (fun b2 => ?_))
 refine V R R (I (O (zC R ze38 (fun b4 => ?_))))
 refine I (ze (O (E R R (yL R ye R (zZ R R R (I (zR R (decide_eq_false jO) ?_)))))))
 refine zq (z8 (O (xB R yf sz5 R xb xb qI qI ?_)))
 refine zE (t := 9) (u := .slice (some ⟨b4, 0, none⟩) 32 32) R (by first | rfl | simp [cutA, Addr.add]) ?_
 refine E R R (L.copyStr R yz sz5 R R (show Nat.min x.1.length 32 = 32 by rw [hl]; rfl) qU (tk_set hl) ?_)
 refine I (O (zx R zI R qN ?_))
 refine zz zI R R qL qO qU qW ?_
 exact V R R (I (zo (yW R zI R qN R ⟨R, R, R⟩ qD qF)))
end Cv
set_option maxRecDepth 10000
namespace Cv
open Go Go.Proofs

theorem idxi_spec {a : Option Addr} {len cap g : Nat} {caps : List Value} {A d1 d2 : Asn} {p : ID32 → Bool} {xs : List ID32} (hp : ∀ x ∈ xs, Spec Tryz.prog g ([.agg (iC x).toArray] ++ caps) [d1, d2] [A] (fun u D' M' => u = .bool (p x) ∧ D' = [] ∧ M' = [A])) (hb : len ≤ 4611686018427387904) : Spec Tryz.prog 89 [.slice a len cap, fnV g caps] [rsl 32 a len cap (xs.map iC), d1, d2] [A] (fun v D' M' => ∃ (k : Int), v = .int .i64 k ∧ ((decide (0 ≤ k) = anyI p xs)) ∧ D' = [] ∧ M' = [A]) := by
 refine zv (n := 19) Tryz.func89 ?_
 intro σ D M
 refine yU (a := a) (len := len) (cap := cap) (rows := xs.map iC) qM (fun hl hc => ?_)
 rw [List.length_map] at hl
 refine O (V R R (I (ze (O (E R R (yb R yh R (E R R (I (zD (y8 (fun K' D' M' μ => ∃ (k : Nat), (k ≤ len ∧ ∀ y ∈ xs.take k, p y = false) ∧ K' = [(8, .int .i64 k)] ∧ D' = [] ∧ M' = [A] ∧ μ = len - k) (.c 0 R <| .c 1 R <| .c 7 R <| zd _) (⟨0, ⟨by omega, by simp⟩, R, R, R, R⟩) (.c 8 R <| zd _) qD qS ?_))))))))))
 rintro K1 D1 M1 m1 ⟨k, ⟨hk, hall⟩, rfl, rfl, rfl, rfl⟩
 refine zM qA qA qA ?_
 refine O (zW R R R (I (ze (zA R (fun h9 => ?_) (fun h9 => ?_)))))
 ·try simp only [dq] at h9
  refine zq (z8 (ze (zD (O (E R R (V R R (I (ze ?_))))))))
  have hgd : xs[k]? = some (gd xs k) := y9 jO
  obtain ⟨x, hx_⟩ : ∃ z, z = gd xs k := ⟨_, rfl⟩
  rw [← hx_] at hgd
  clear hx_
  have hgr : (xs.map iC)[k]? = some (iC x) := yJ hgd
  have hx3 := yw x
  refine zt (E R R (E R R (E R R (yP (i := k) R yh sz38 R R qM jR qG (fun b14 o14 => ?_)))))
  refine zx R zI R (xl qM hx3) ?_
  refine L.callV R R (ev1 R) qD qS (hp x (List.mem_of_getElem? hgd)) ?_
  rintro _ _ _ ⟨rfl, rfl, rfl⟩
  refine zm qA qA ?_
  refine I (zA R (fun h16 => ?_) (fun h16 => ?_))
  ·try simp only [dq] at h16
   exact O (E R R (V R R (I (zo (yv (zL (zL (yv (zL (zy R R ⟨_, R, by rw [anyI_at hgd h16]; exact decide_eq_true jO, R, R⟩ qD qF))))))))))
  try simp only [dq] at h16
  refine zq (zS (z8 (zt (zT R R R jO ?_))))
  exact E R R (I (zV ⟨k + 1, ⟨by omega, any_nx hall hgd h16⟩, R, R, R, R⟩ qI (.c 8 R <| zd _) (.c 0 R <| .c 1 R <| .c 7 R <| zd _) qD qD qF))
 try simp only [dq] at h9
 obtain rfl : len = k := by omega
 rw [List.take_of_length_le jO] at hall
 exact y4 (zG (zG (y5 (z8 (O (V R R (I (zo (zy R R ⟨_, R, by rw [anyI_no hall]; rfl, R, R⟩ qD qF)))))))))
theorem coni_spec {a : Option Addr} {len cap g : Nat} {caps : List Value} {A d1 d2 : Asn} {p : ID32 → Bool} {xs : List ID32} (hp : ∀ x ∈ xs, Spec Tryz.prog g ([.agg (iC x).toArray] ++ caps) [d1, d2] [A] (fun u D' M' => u = .bool (p x) ∧ D' = [] ∧ M' = [A])) (hb : len ≤ 4611686018427387904) : Spec Tryz.prog 45 [.slice a len cap, fnV g caps] [rsl 32 a len cap (xs.map iC), d1, d2] [A] (fun v D' M' => v = .bool (anyI p xs) ∧ D' = [] ∧ M' = [A]) := by
 refine zv (n := 9) Tryz.func45 ?_
 intro σ D M
 refine O (V R R (I (O (E R R (E R R (zp R (ev2 R R) qD qS (idxi_spec hp hb) ?_))))))
 rintro _ _ _ ⟨k, rfl, hk, rfl, rfl⟩
 refine zm qA qA ?_
 exact L.geI R R R (V R R (I (zo (zy R R ⟨congrArg Value.bool hk, R, R⟩ qD qF))))
end Cv
set_option maxRecDepth 10000
namespace Cv
open Go Go.Proofs
/-! ## registries: what happens -/
theorem parI_sz (s : List UInt8) : (parI s).1.2 ≤ 32768 := by
  have h : (parZ s).2.1.1 ≤ 32768 := int_le _ 32768
  unfold parI
  split
  · show (0 : Int) ≤ 32768; decide
  · split
    · show (0 : Int) ≤ 32768; decide
    · show ((parZ s).2.1.1 : Int) ≤ 32768
      omega
def lakI (pl : IvM) (r : ID32) : Bool := (look pl r).isNone
inductive AddP (pl : IvM) (s : List UInt8) : Int → IvM → Prop
  | bad (h : (parI s).2.2 ≠ 0) : AddP pl s (parI s).2.2 pl
  | lack (h : (parI s).2.2 = 0) (k : anyI (lakI pl) (parI s).2.1 = true) : AddP pl s 9 pl
  | add (h : (parI s).2.2 = 0) (k : anyI (lakI pl) (parI s).2.1 = false) (q : Option Addr × Nat × Nat) (hq : (parI s).2.1.length = q.2.1) : AddP pl s 0 (put pl (inN (parI s).1 (parI s).2.1) (((parI s).1, (parI s).2.1), q))
theorem ifs_put {pl : IvM} {k : ID32} {v : IV} : ∀ χ ∈ (put pl k v).map iF, χ ∈ iF (k, v) :: pl.map iF := fun χ hχ => by
  obtain ⟨e, he, rfl⟩ := List.mem_map.1 hχ
  rcases put_in he with q | q
  · rw [q]; exact List.mem_cons_self ..
  · exact List.mem_cons_of_mem _ (List.mem_map.2 ⟨e, q, R⟩)
def PlOk (pl : IvM) : Prop := ∀ e ∈ pl, e.2.1.2.Pairwise (fun x y => x.1 < y.1) ∧ e.2.2.2.1 ≤ 1000000
theorem iF_in {pl : IvM} {k : ID32} {v : IV} (h : (k, v) ∈ pl) : rsl 32 v.2.1 v.2.2.1 v.2.2.2 (v.1.2.map iC) ∈ pl.map iF := List.mem_map.2 ⟨(k, v), h, rfl⟩
def refBy (pl : IvM) (x : ID32) : Prop := ∃ e ∈ pl, x ∈ e.2.1.2
def NdI (pl : IvM) (x : ID32) (rest : List ID32) : Prop := ∀ e ∈ pl, e.1 ∉ rest → x ∉ e.2.1.2
theorem NdI.start {pl : IvM} {x : ID32} : NdI pl x (pl.map Prod.fst) := fun e he h => absurd (List.mem_map.2 ⟨e, he, rfl⟩) h
theorem NdI.next {pl : IvM} {x : ID32} {rest rs : List ID32} {k : ID32} {v : IV} (h : NdI pl x rest) (hnd : (pl.map Prod.fst).Nodup) (hp : rest.Perm (k :: rs)) (hv : (k, v) ∈ pl) (e : x ∉ v.1.2) : NdI pl x rs := fun q hq hr => by
  by_cases c : q.1 = k
  · have : q = (k, v) := by
      obtain ⟨q1, q2⟩ := q
      dsimp only at c
      subst c
      have a := look_of_mem hnd hq
      rw [look_of_mem hnd hv] at a
      injection a with a
      rw [a]
    rw [this]; exact e
  · exact h q hq fun z => by
      rcases List.mem_cons.1 (hp.mem_iff.1 z) with w | w
      · exact c w
      · exact hr w
theorem NdI.fin {pl : IvM} {x : ID32} (h : NdI pl x []) : ¬ refBy pl x := fun ⟨e, he, hx⟩ => h e he (by simp) hx

theorem lacks1_spec {br bp bh ba : Nat} {pl : IvM} {bq : Nat} {x : ID32}  : Spec Tryz.prog 189 [.agg (iC x).toArray, .pointer (some ⟨bq, 0, none⟩)] [cl bq 63 [.pointer (some ⟨br, 0, none⟩)], cl br 128 (rgC bp bh ba)] [mp bp aK ivV pl] (fun v D' M' => v = .bool (lakI pl x) ∧ D' = [] ∧ M' = [mp bp aK ivV pl]) := by
 refine zv (n := 17) Tryz.func189 ?_
 intro σ D M
 have hx2 := x.2
 have hx3 := yw x
 refine O (y6 R R R (fun b2 => ?_))
 refine V R R (zu (zO (A := cl b2 38 (iC x)) qP ?_))
 refine z8 (ze (yx (fun K' D' M' => ∃ (w : Bool), (w = !lakI pl x) ∧ K' = [(5, .bool w)] ∧ D' = [] ∧ M' = [mp bp aK ivV pl]) (M0 := [mp bp aK ivV pl]) (zd _) qS ?_ ?_))
 ·rcases hlk : look pl x with _ | v
  ·refine y7 (clsL [1, 1, 1, 1, 1, 2, 1, 1, 1, 2, 2, 1]) qk ?_
   refine z9 0 R R (zf R sc63 R qC ?_)
   refine z7 (yX (i := 1) R R qk qk qk R qD R ?_)
   refine z9 2 R R (zg R xy R ?_)
   refine z7 (z9 3 R R (zf R sc126 R qC ?_))
   refine z7 (z9 4 R R (zx R zI R qN ?_))
   refine z7 (yA (is := [5, 9]) qk jD (zU R ?_ <| zU R ?_ <| yB) )
   ·first | refine xw (kenc := aK) (venc := ivV) (l := pl) (k := x) (v := v) rfl yI (yo yf zX sc5) zv75 rfl rfl qM hlk ?_ | refine xA (kenc := aK) (venc := ivV) (l := pl) (k := x) rfl yI (yo yf zX sc5) zv75 rfl rfl qM hlk ?_
    refine zh R qD ?_
    refine z9 6 R R (E R R (z7 (z9 7 R R (zr R R R (z7 (z9 8 R R (zr R R R (z7 (zi 9 R (zC R ze75 (fun b4 => ?_)))))))))))
    refine zh R qD ?_
    refine zi 10 R (zz yu R R qL qO qU qW ?_)
    refine zh R qD ?_
    refine z9 11 R R (V R R (z7 (zN qk ?_)))
    exact z8 (zK ⟨_, (by unfold lakI; rw [hlk]; rfl), R, R, R⟩ (.c 5 R <| zd _) (zd _) qD qD qF)
   refine zC R ze75 (fun b4 => ?_)
   refine zh R qD ?_
   refine zi 5 R ?_
   first | refine xw (kenc := aK) (venc := ivV) (l := pl) (k := x) (v := v) rfl yI (yo yf zX sc5) zv75 rfl rfl qM hlk ?_ | refine xA (kenc := aK) (venc := ivV) (l := pl) (k := x) rfl yI (yo yf zX sc5) zv75 rfl rfl qM hlk ?_
   refine zh R qD ?_
   refine z9 6 R R (E R R (z7 (z9 7 R R (zr R R R (z7 (z9 8 R R (zr R R R (z7 (zi 10 R (zz yu R R qL qO qU qW ?_))))))))))
   refine zh R qD ?_
   refine z9 11 R R (V R R (z7 (zN qk ?_)))
   exact z8 (zK ⟨_, (by unfold lakI; rw [hlk]; rfl), R, R, R⟩ (.c 5 R <| zd _) (zd _) qD qD qF)
  have hv3 := inC_len v.1.1 v.2.1 v.2.2.1 v.2.2.2
  have hv32 := v.1.1.1.2
  refine y7 (clsL [1, 1, 1, 1, 1, 2, 1, 1, 1, 2, 2, 1]) qk ?_
  refine z9 0 R R (zf R sc63 R qC ?_)
  refine z7 (yX (i := 1) R R qk qk qk R qD R ?_)
  refine z9 2 R R (zg R xy R ?_)
  refine z7 (z9 3 R R (zf R sc126 R qC ?_))
  refine z7 (z9 4 R R (zx R zI R qN ?_))
  refine z7 (yA (is := [5, 9]) qk jD (zU R ?_ <| zU R ?_ <| yB) )
  ·first | refine xw (kenc := aK) (venc := ivV) (l := pl) (k := x) (v := v) rfl yI (yo yf zX sc5) zv75 rfl rfl qM hlk ?_ | refine xA (kenc := aK) (venc := ivV) (l := pl) (k := x) rfl yI (yo yf zX sc5) zv75 rfl rfl qM hlk ?_
   refine zh R qD ?_
   refine z9 6 R R (E R R (z7 (z9 7 R R (zr R R R (z7 (z9 8 R R (zr R R R (z7 (zi 9 R (zC R ze75 (fun b4 => ?_)))))))))))
   refine zh R qD ?_
   refine zi 10 R (zz yu R R qL qO qU qW ?_)
   refine zh R qD ?_
   refine z9 11 R R (V R R (z7 (zN qk ?_)))
   exact z8 (zK ⟨_, (by unfold lakI; rw [hlk]; rfl), R, R, R⟩ (.c 5 R <| zd _) (zd _) qD qD qF)
  refine zC R ze75 (fun b4 => ?_)
  refine zh R qD ?_
  refine zi 5 R ?_
  first | refine xw (kenc := aK) (venc := ivV) (l := pl) (k := x) (v := v) rfl yI (yo yf zX sc5) zv75 rfl rfl qM hlk ?_ | refine xA (kenc := aK) (venc := ivV) (l := pl) (k := x) rfl yI (yo yf zX sc5) zv75 rfl rfl qM hlk ?_
  refine zh R qD ?_
  refine z9 6 R R (E R R (z7 (z9 7 R R (zr R R R (z7 (z9 8 R R (zr R R R (z7 (zi 10 R (zz yu R R qL qO qU qW ?_))))))))))
  refine zh R qD ?_
  refine z9 11 R R (V R R (z7 (zN qk ?_)))
  exact z8 (zK ⟨_, (by unfold lakI; rw [hlk]; rfl), R, R, R⟩ (.c 5 R <| zd _) (zd _) qD qD qF)
 rintro _ _ _ ⟨w, hw, rfl, rfl, rfl⟩
 refine zM qA qA qA ?_
 exact z8 (O (E R R (x7 R R (V R R (I (zo (zy R R ⟨congrArg Value.bool (by rw [hw, Bool.not_not]), R, R⟩ qD qF)))))))
theorem lacks_spec {br bp bh ba : Nat} {pl : IvM} {a : Option Addr} {n c : Nat} {p : Pt} {l : List ID32} (hn : n ≤ 1000000) : Spec Tryz.prog 127 [.pointer (some ⟨br, 0, none⟩), .agg (inC p a n c).toArray] [cl br 128 (rgC bp bh ba), rsl 32 a n c (l.map iC)] [mp bp aK ivV pl] (fun v D' M' => v = .bool (anyI (lakI pl) l) ∧ D' = [] ∧ M' = [mp bp aK ivV pl]) := by
 refine zv (n := 9) Tryz.func127 ?_
 intro σ D M
 have hin := inC_len p a n c
 have hp32 := p.1.2
 refine O (y6 R R R (fun b2 => ?_))
 refine y6 R R R (fun b3 => ?_)
 refine V R R (zu (zO (A := cl b2 63 [.pointer (some ⟨br, 0, none⟩)]) qP ?_))
 refine zO (A := cl b3 75 (inC p a n c)) qP ?_
 refine z8 (O (zg R fo75_1 R ?_))
 refine zf R sc32 R qC ?_
 refine xP R (ev1 R) ?_
 refine zH R (ev2 R R) qD qS (coni_spec (g := 189) (caps := [.pointer (some ⟨b2, 0, none⟩)]) (A := mp bp aK ivV pl) (d1 := cl b2 63 [.pointer (some ⟨br, 0, none⟩)]) (d2 := cl br 128 (rgC bp bh ba)) (p := lakI pl) (xs := l) (fun x _ => lacks1_spec) jO) jF ?_
 exact V R R (I (zo (zy R R ⟨R, R, R⟩ qD qF)))
theorem rgadd_spec {br bp bh ba : Nat} {pl : IvM} {s : List UInt8} (hs : s.length ≤ 1000000) : Spec Tryz.prog 69 [.pointer (some ⟨br, 0, none⟩), S s] [cl br 128 (rgC bp bh ba), ifs pl] [mp bp aK ivV pl] (fun v D' M' => ∃ (e : Int) (pl2 : IvM), v = .int .i64 e ∧ (AddP pl s e pl2) ∧ D' = [ifs pl2] ∧ M' = [mp bp aK ivV pl2]) := by
 refine zv (n := 25) Tryz.func69 ?_
 intro σ D M
 refine O (V R R (I (O (E R R (zp R (ev1 R) qD qS (iparse_spec (s := s) jO) ?_)))))
 rintro _ _ _ ⟨qa, qn, qc, rfl, hqn, rfl, rfl⟩
 refine zm qA qA ?_
 have hql := parI_len s
 have hqs := parI_sz s
 obtain ⟨W, hW⟩ : ∃ z, z = parI s := ⟨_, rfl⟩
 rw [← hW] at hqn hql hqs ⊢
 have hin := inC_len W.1 qa qn qc
 have hr32 := W.1.1.2
 refine E R R (zr R R R (zr R R R (zC R ze75 (fun b5 => ?_))))
 refine zz yu R R qL qO qU qW ?_
 refine V R R (zu (zO (A := cl b5 75 (inC W.1 qa qn qc)) qP ?_))
 refine z8 (ze (O (E R R (zZ R R R (I (zA R (fun h13 => ?_) (fun h13 => ?_)))))))
 ·try simp only [dq] at h13
  have hP : AddP pl s W.2.2 pl := by rw [hW]; exact .bad (by rw [← hW]; exact h13)
  exact O (E R R (V R R (I (zo (zL (zy R R ⟨_, _, R, hP, R, R⟩ qD qF))))))
 try simp only [dq] at h13
 refine zq (z8 (ze (O (E R R (zx R yu R qN ?_)))))
 refine zH R (ev2 R R) qD qS (lacks_spec (l := W.2.1) (p := W.1) jO) jF ?_
 refine I (zA R (fun h17 => ?_) (fun h17 => ?_))
 ·try simp only [dq] at h17
  have hP : AddP pl s 9 pl := .lack (by rw [← hW]; exact Decidable.not_not.1 h13) (by rw [← hW]; exact h17)
  exact O (V R R (I (zo (zL (zy R R ⟨_, _, R, hP, R, R⟩ qD qF)))))
 try simp only [dq] at h17
 have hP : AddP pl s 0 (put pl (inN W.1 W.2.1) ((W.1, W.2.1), (qa, qn, qc))) := by rw [hW]; exact .add (by rw [← hW]; exact Decidable.not_not.1 h13) (by rw [← hW]; exact h17) _ (by rw [← hW]; exact hqn)
 refine zq (z8 (ze (y7 (clsL [1, 1, 1, 1, 1, 2, 1, 2]) qk ?_)))
 refine z9 0 R R (E R R (z7 (yX (i := 1) R R qk qk qk R qD R ?_)))
 refine z9 2 R R (zg R xy R ?_)
 refine z7 (z9 3 R R (zf R sc126 R qC ?_))
 refine z7 (z9 4 R R (zx R yu R qN ?_))
 refine z7 (z9 6 R R (zx R yu R qN ?_))
 refine z7 (zi 5 R (zH R (ev1 R) qD qS (iname_spec (l := W.2.1) (p := W.1) jO jO) jF ?_))
 have hnn := (inN W.1 W.2.1).2
 have hnn3 := yw (inN W.1 W.2.1)
 refine zh R qD ?_
 refine zi 7 R (xQ (kenc := aK) (venc := ivV) (l := pl) (k := inN W.1 W.2.1) (v := ((W.1, W.2.1), (qa, qn, qc))) yI (yo yf zX sc5) R R R R qP ?_)
 refine zh R qD ?_
 refine zN qk ?_
 refine z8 (O (V R R (I (zo (T.fcsAdd (φ := rsl 32 qa qn qc (W.2.1.map iC)) (L := pl.map iF) qM qM ?_)))))
 refine T.fcsSub (L := rsl 32 qa qn qc (W.2.1.map iC) :: pl.map iF) (L' := (put pl (inN W.1 W.2.1) ((W.1, W.2.1), (qa, qn, qc))).map iF) (fun χ hχ => ifs_put χ hχ) qM ?_
 exact zy R R ⟨_, _, R, hP, R, R⟩ qD qF
theorem needed_spec {br bp bh ba : Nat} {pl : IvM} {hl : SnM} {x : ID32} (hok : PlOk pl) : Spec Tryz.prog 71 [.pointer (some ⟨br, 0, none⟩), .agg (iC x).toArray] [cl br 128 (rgC bp bh ba), ifs pl] [mp bp aK ivV pl, mp bh aK iK hl] (fun v D' M' => ∃ (w : Bool), v = .bool w ∧ ((w = true ↔ refBy pl x ∨ look hl x ≠ none)) ∧ D' = [] ∧ M' = [mp bp aK ivV pl, mp bh aK iK hl]) := by
 refine zv (n := 31) Tryz.func71 ?_
 intro σ D M
 refine T.mpNodup (kenc := aK) (venc := ivV) qM (fun hnd => ?_)
 have hx2 := x.2
 have hx3 := yw x
 refine O (y6 R R R (fun b3 => ?_))
 refine V R R (zu (zO (A := cl b3 38 (iC x)) qP ?_))
 refine z8 (ze (O (E R R (zJ R R ?_))))
 refine zg R xy R ?_
 refine zf R sc126 R qC ?_
 refine L.range R yI R qP (fun it => ?_)
 refine I (zD (y8 (fun K' D' M' μ => ∃ (rest : List ID32) (cur : Option ID32), (NdI pl x rest) ∧ K' = [] ∧ D' = [] ∧ M' = [mpi bp it aK ivV pl rest cur, mp bh aK iK hl] ∧ μ = rest.length) (.c 0 R <| .c 3 R <| .c 13 R <| zd _) (⟨_, _, .start, R, R, R, R⟩) (zd _) qD qS ?_))
 rintro K1 D1 M1 m1 ⟨rest, cur, hI, rfl, rfl, rfl, rfl⟩
 refine zM qA qA qA ?_
 refine O (L.next R R qP (fun hre => ?_) (fun k v rs hpe hkv => ?_))
 ·skip
  refine zr R R R (I (ze (zR R R ?_)))
  refine y4 (zG (zG (y5 (z8 (ze ?_)))))
  subst hre
  refine T.mpiMp qP ?_
  refine xg qk qk (E R R (zJ R R ?_))
  refine zg R fo128_1 R ?_
  refine zf R sc108 R qC ?_
  refine zx R zI R qN ?_
  refine L.lookup2 (kenc := aK) (venc := iK) (l := hl) (k := x) R xd (yo yf zX sc5) zv3 R R qM ?_
  refine zE (t := 27) (u := .tuple #[.int .i64 (val0 hl x), .bool (look hl x).isSome]) R (by unfold val0; cases look hl x <;> rfl) ?_
  exact E R R (zr R R R (zr R R R (V R R (V R R (yY (z8 (O (E R R (V R R (I (zo (zy R R ⟨_, R, ⟨fun q => .inr (by rw [← Option.isSome_iff_ne_none]; exact q), fun q => q.elim (fun r => absurd r hI.fin) (fun r => Option.isSome_iff_ne_none.2 r)⟩, R, R⟩ qD qF))))))))))))
 skip
 refine zr R R R (I (ze (yV R R ?_)))
 refine zq (z8 (zD (ze ?_)))
 have hvo := hok (k, v) hkv
 have hv3 := inC_len v.1.1 v.2.1 v.2.2.1 v.2.2.2
 have hv32 := v.1.1.1.2
 refine T.fcsIn (L := pl.map iF) qM (iF_in hkv) ?_
 refine zt (L.entry (ent_inj aK_inj hnd hkv) R R qM hkv ?_)
 refine zr R R R (zC R ze75 (fun b6 => ?_))
 refine zz yu R R qL qO qU qW ?_
 refine zu (zO (A := cl b6 75 (ivC v)) qP ?_)
 refine z8 (O (zx R yu R qN ?_))
 refine zx R zI R qN ?_
 refine zH R (ev2 R R) qD qS (refers_spec (l := v.1.2) (p := v.1.1) (z := x) hvo.1 hvo.2) jF ?_
 refine I (zA R (fun h20 => ?_) (fun h20 => ?_))
 ·try simp only [dq] at h20
  refine O (V R R (I (zo (yv (zL (yv (zL (T.mpiMp qP ?_))))))))
  exact zy R R ⟨true, R, ⟨fun _ => .inl ⟨(k, v), hkv, h20⟩, fun _ => rfl⟩, R, R⟩ qD qF
 try simp only [dq] at h20
 exact zq (zS (z8 (zV ⟨rs, some k, hI.next hnd hpe hkv h20, R, R, R, R⟩ (by have := hpe.length_eq; simp at this; omega) (zd _) (.c 0 R <| .c 3 R <| .c 13 R <| zd _) qD qD qF)))
end Cv
set_option maxRecDepth 10000
namespace Cv
open Go Go.Proofs

theorem keysitR_spec {ml : List (ID32 × Int)} {m c l : Nat} {ψ : Asn} {J : List ID32 → Asn} (hY : ∀ pre x, (pre.length < ml.length) → YSpec Tryz.prog l [.agg (x.1.map Y).toArray] [ψ] [J pre] (fun v D' M' => v = .bool true ∧ D' = [] ∧ M' = [J (pre ++ [x])])) : Spec Tryz.prog 165 [fnY l, .pointer (some ⟨c, 0, none⟩)] [cl c 108 [.map (some m)], ψ] [mp m aK iK ml, J []] (fun v D' M' => ∃ (xs : List ID32), v = .tuple #[] ∧ (xs.Perm (ml.map Prod.fst)) ∧ D' = [] ∧ M' = [mp m aK iK ml, J xs]) := by
 refine zv (n := 14) Tryz.func165 ?_
 intro σ D M
 refine T.mpNodup (kenc := aK) (venc := iK) qM (fun hnd => ?_)
 refine O (zf R sc108 R qC ?_)
 refine L.range (kenc := aK) (venc := iK) R xd R qP (fun it => ?_)
 refine I (zD (y8 (fun K' D' M' μ => ∃ (pre rest : List ID32) (cur : Option ID32), ((pre ++ rest).Perm (ml.map Prod.fst)) ∧ K' = [] ∧ D' = [] ∧ M' = [mpi m it aK iK ml rest cur, J pre] ∧ μ = rest.length) (.c 0 R <| .c 5 R <| zd _) (⟨[], ml.map Prod.fst, none, (by simp), R, R, R, R⟩) (zd _) qD qS ?_))
 rintro K1 D1 M1 m1 ⟨pre, rest, cur, hP, rfl, rfl, rfl, rfl⟩
 refine zM qA qA qA ?_
 refine O (L.next R R qP (fun hre => ?_) (fun k v rs hpe hkv => ?_))
 ·skip
  refine zr R R R (I (ze (zR R R ?_)))
  refine y4 (zG (zG (y5 ?_)))
  subst hre
  refine T.mpiMp qP ?_
  exact yS (by simp) R ⟨pre, R, by simpa using hP, R, R⟩ qD qF
 skip
 refine zr R R R (I (ze (yV R R ?_)))
 refine zq (z8 (zD (O (L.entry (ent_inj aK_inj hnd hkv) R R qM hkv ?_))))
 refine zr R R R (zC R ze38 (fun b3 => ?_))
 refine zz zI R R qL qO qU qW ?_
 refine zu ?_
 have hlt : pre.length < ml.length := by have h2 := hpe.length_eq; have h3 := hP.length_eq; simp at h2 h3; omega
 have hk32 := k.2
 refine z8 (O (E R R (zx R zI R qN ?_)))
 refine L.callY (M0 := [J pre]) R R R (evs.cons R xu) qD qS (hY pre k hlt) ?_
 rintro _ _ _ ⟨rfl, rfl, rfl⟩
 refine zm qA qA ?_
 refine x7 R R (I (zR R R ?_))
 exact zq (zS (z8 (zV ⟨pre ++ [k], rs, some k, (by rw [List.append_assoc]; exact (List.Perm.append_left pre hpe.symm).trans hP), R, R, R, R⟩ (by have := hpe.length_eq; simp at this; omega) (zd _) (.c 0 R <| .c 5 R <| zd _) qD qD qF)))
theorem keys_iterR {ml : List (ID32 × Int)} {m c : Nat} : Iter Tryz.prog 165 [.pointer (some ⟨c, 0, none⟩)] (fun x : ID32 => [.agg (x.1.map Y).toArray]) (fun pre x => pre.length < ml.length) (cl c 108 [.map (some m)]) (mp m aK iK ml) (mp m aK iK ml) (fun xs => xs.Perm (ml.map Prod.fst)) :=
 ⟨fun l ψ J hY => (keysitR_spec hY).imp (fun v D' M' ⟨xs, _, h2, h3, h4⟩ => ⟨xs, h2, h3, h4⟩)⟩
theorem keysfR_spec {m : Nat}  : Spec Tryz.prog 102 [.map (some m)] [] [] (fun v D' M' => ∃ (c : Nat), v = fnV 165 [.pointer (some ⟨c, 0, none⟩)] ∧ D' = [cl c 108 [.map (some m)]] ∧ M' = []) := by
 refine zv (n := 4) Tryz.func102 ?_
 intro σ D M
 refine O (y6 R R R (fun b1 => ?_))
 refine V R R (zu (zO (A := cl b1 108 [.map (some m)]) qP ?_))
 refine z8 (O (xP R (ev1 R) ?_))
 exact V R R (I (zo (zy R R ⟨_, R, R, R⟩ qD qF)))
theorem appseqIR_spec {f : FuncId} {lb : List Value} {Ok : List ID32 → ID32 → Prop} {φ A0 A1 : Asn} {SS : List ID32 → Prop}  (hI : Iter Tryz.prog f lb (fun x : ID32 => [.agg (x.1.map Y).toArray]) Ok φ A0 A1 SS) (hOk : ∀ pre x, Ok pre x → pre.length < 1000000000) : Spec Tryz.prog 206 [.slice none 0 0, fnV f lb] [φ] [A0] (fun v D' M' => ∃ (a' : Option Addr) (n' c' : Nat) (xs : List ID32), v = .slice a' n' c' ∧ (SS xs) ∧ (xs.length = n') ∧ D' = [] ∧ M' = [A1, own 32 38 a' n' c' ((xs).map iC)]) := by
 refine zv (n := 13) Tryz.func206 ?_
 intro σ D M
 refine O (y6 R R R (fun b2 => ?_))
 refine V R R (zu (yM (sz := 32) (e := 38) ?_))
 refine z8 (ze (O (E R R (I (zD (T.mkJ (J := (fun (pre : List (ID32)) => exs fun (a8 : Option Addr) => exs fun (n8 : Nat) => exs fun (c8 : Nat) => pur (pre.length = n8) (all [cl b2 32 [.slice a8 n8 c8], own 32 38 a8 n8 c8 ((pre).map iC)]) : List (ID32) → Asn) []) (L := (fun (pre : List (ID32)) (a8 : Option Addr) (n8 : Nat) (c8 : Nat) => ([cl b2 32 [.slice a8 n8 c8], own 32 38 a8 n8 c8 ((pre).map iC)] : List Asn)) [] (none) (0) (0)) qS (yO (none) (yO (0) (yO (0) (pur.in R (Ent.refl _))))) ?_))))))
 refine T.rangeFunc (encs := fun x : ID32 => [.agg (x.1.map Y).toArray]) (hI) R qk (fun _ => rfl) jD (fun x => [(7, .agg (x.1.map Y).toArray)]) (fun _ => rfl) [] (fun (pre : List (ID32)) => exs fun (a8 : Option Addr) => exs fun (n8 : Nat) => exs fun (c8 : Nat) => pur (pre.length = n8) (all [cl b2 32 [.slice a8 n8 c8], own 32 38 a8 n8 c8 ((pre).map iC)]) : List (ID32) → Asn) (.c 2 R <| zd _) qD qD qS ?_ ?_
 ·intro σ1 l1 r1 pre x D1 M1 hok hr1
  refine T.norm2 qA qA ?_
  refine xk qP (fun a8 => ?_)
  refine xk qP (fun n8 => ?_)
  refine xk qP (fun c8 => ?_)
  refine T.pur qP (fun hJ => ?_)
  refine T.unfold _ qP R qA ?_
  have hol := hOk pre x hok
  have hx32 := x.2
  refine zt (zC R ze38 (fun b5 => ?_))
  refine zz zI R R qL qO qU qW ?_
  refine I (T.begin hr1.1 qP ?_)
  refine zD (zt (zf R sc32 R qC ?_))
  refine zx R zI R qN ?_
  refine yl R bs32 jD (yG R R j1 (Nat.le_of_ble_eq_true R) qR <| zQ (out := []) R) (fun b10 => ?_)
  refine x6 R yh el38 R R qP qM (by rw [List.append_nil, List.length_map]; exact hx32) (fun u hu => by rw [List.append_nil] at hu; obtain ⟨b, _, rfl⟩ := List.mem_map.1 hu; rfl) qI qI (fun a11 c11 => ?_)
  refine yj sc32 R R R qU qE ?_
  refine zu (zS (yp _ ((pre ++ [x]).map iC) qP (by rw [List.map_append, List.append_nil]; rfl) ?_))
  refine T.mkJ (J := (fun (pre : List (ID32)) => exs fun (a8 : Option Addr) => exs fun (n8 : Nat) => exs fun (c8 : Nat) => pur (pre.length = n8) (all [cl b2 32 [.slice a8 n8 c8], own 32 38 a8 n8 c8 ((pre).map iC)]) : List (ID32) → Asn) (pre ++ [x])) (L := (fun (pre : List (ID32)) (a8 : Option Addr) (n8 : Nat) (c8 : Nat) => ([cl b2 32 [.slice a8 n8 c8], own 32 38 a8 n8 c8 ((pre).map iC)] : List Asn)) (pre ++ [x]) (_) (n8 + 1) (_)) qS (yO (_) (yO (n8 + 1) (yO (_) (pur.in (by rw [List.length_append, hJ]; rfl) (Ent.refl _))))) ?_
  exact T.roundEnd hr1 qP qD qF
 intro b1 xs hxs
 refine xk qP (fun a8 => ?_)
 refine xk qP (fun n8 => ?_)
 refine xk qP (fun c8 => ?_)
 refine T.pur qP (fun hJ => ?_)
 refine T.unfold _ qP R qA ?_
 refine zS (z8 (O (zf R sc32 R qC ?_)))
 refine V R R (I (zo (T.unmark (.inl R) qP ?_)))
 exact zy R R ⟨_, _, _, xs, R, hxs, hJ, R, R⟩ qD qF
theorem collectIR_spec {f : FuncId} {lb : List Value} {Ok : List ID32 → ID32 → Prop} {φ A0 A1 : Asn} {SS : List ID32 → Prop}  (hI : Iter Tryz.prog f lb (fun x : ID32 => [.agg (x.1.map Y).toArray]) Ok φ A0 A1 SS) (hOk : ∀ pre x, Ok pre x → pre.length < 1000000000) : Spec Tryz.prog 164 [fnV f lb] [φ] [A0] (fun v D' M' => ∃ (a' : Option Addr) (n' c' : Nat) (xs : List ID32), v = .slice a' n' c' ∧ (SS xs) ∧ (xs.length = n') ∧ D' = [] ∧ M' = [A1, own 32 38 a' n' c' ((xs).map iC)]) := by
 refine zv (n := 5) Tryz.func164 ?_
 intro σ D M
 refine O (V R R (I (O (E R R (zp R (ev2 R R) qD qS (appseqIR_spec hI hOk) ?_)))))
 rintro _ _ _ ⟨sa, sn, sc, xs, rfl, hxs, hxl, rfl, rfl⟩
 refine zm qA qA ?_
 exact V R R (I (zo (zy R R ⟨_, _, _, xs, R, hxs, hxl, R, R⟩ qD qF)))
theorem sortedGR_spec {f : FuncId} {lb : List Value} {Ok : List ID32 → ID32 → Prop} {φ A0 A1 : Asn} {SS : List ID32 → Prop}  (hI : Iter Tryz.prog f lb (fun x : ID32 => [.agg (x.1.map Y).toArray]) Ok φ A0 A1 SS) (hOk : ∀ pre x, Ok pre x → pre.length < 1000000000) (hSl : ∀ xs, SS xs → xs.length ≤ 12) : Spec Tryz.prog 101 [fnV f lb, fnV 49 []] [φ] [A0] (fun v D' M' => ∃ (a' : Option Addr) (n' c' : Nat) (xs us : List ID32), v = .slice a' n' c' ∧ (SS xs) ∧ (us.Perm xs) ∧ (SrtP cfI us 0 us.length) ∧ (us.length = n') ∧ D' = [] ∧ M' = [A1, own 32 38 a' n' c' ((us).map iC)]) := by
 refine zv (n := 12) Tryz.func101 ?_
 intro σ D M
 refine O (V R R (I (O (E R R (zp R (ev1 R) qD qS (collectIR_spec hI hOk) ?_)))))
 rintro _ _ _ ⟨sa, sn, sc, xs, rfl, hxs, hxl, rfl, rfl⟩
 refine zm qA qA ?_
 have hsl := hSl xs hxs
 refine V R R (I (O (E R R (E R R (zp R (ev2 R R) qD qS (sortw_spec (cf := cfI) (xs := xs) cfI_swo cfI_irr (fun x y => ocmp_spec) jO) ?_)))))
 rintro _ _ _ ⟨us, rfl, hp, hs, rfl, rfl⟩
 refine zm qA qA ?_
 have hul := hp.length_eq
 exact I (O (E R R (V R R (I (zo (zy R R ⟨_, _, _, xs, us, R, hxs, hp, by rw [hul, hxl]; exact hs, by rw [hul, hxl], R, R⟩ qD qF))))))
end Cv
set_option maxRecDepth 10000
namespace Cv
open Go Go.Proofs

theorem keysitP_spec {ml : List (ID32 × IV)} {m c l : Nat} {ψ : Asn} {J : List ID32 → Asn} (hY : ∀ pre x, (pre.length < ml.length) → YSpec Tryz.prog l [.agg (x.1.map Y).toArray] [ψ] [J pre] (fun v D' M' => v = .bool true ∧ D' = [] ∧ M' = [J (pre ++ [x])])) : Spec Tryz.prog 173 [fnY l, .pointer (some ⟨c, 0, none⟩)] [cl c 126 [.map (some m)], ψ] [mp m aK ivV ml, J []] (fun v D' M' => ∃ (xs : List ID32), v = .tuple #[] ∧ (xs.Perm (ml.map Prod.fst)) ∧ D' = [] ∧ M' = [mp m aK ivV ml, J xs]) := by
 refine zv (n := 14) Tryz.func173 ?_
 intro σ D M
 refine T.mpNodup (kenc := aK) (venc := ivV) qM (fun hnd => ?_)
 refine O (zf R sc126 R qC ?_)
 refine L.range (kenc := aK) (venc := ivV) R yI R qP (fun it => ?_)
 refine I (zD (y8 (fun K' D' M' μ => ∃ (pre rest : List ID32) (cur : Option ID32), ((pre ++ rest).Perm (ml.map Prod.fst)) ∧ K' = [] ∧ D' = [] ∧ M' = [mpi m it aK ivV ml rest cur, J pre] ∧ μ = rest.length) (.c 0 R <| .c 5 R <| zd _) (⟨[], ml.map Prod.fst, none, (by simp), R, R, R, R⟩) (zd _) qD qS ?_))
 rintro K1 D1 M1 m1 ⟨pre, rest, cur, hP, rfl, rfl, rfl, rfl⟩
 refine zM qA qA qA ?_
 refine O (L.next R R qP (fun hre => ?_) (fun k v rs hpe hkv => ?_))
 ·skip
  refine zr R R R (I (ze (zR R R ?_)))
  refine y4 (zG (zG (y5 ?_)))
  subst hre
  refine T.mpiMp qP ?_
  exact yS (by simp) R ⟨pre, R, by simpa using hP, R, R⟩ qD qF
 skip
 refine zr R R R (I (ze (yV R R ?_)))
 refine zq (z8 (zD (O (L.entry (ent_inj aK_inj hnd hkv) R R qM hkv ?_))))
 refine zr R R R (zC R ze38 (fun b3 => ?_))
 refine zz zI R R qL qO qU qW ?_
 refine zu ?_
 have hlt : pre.length < ml.length := by have h2 := hpe.length_eq; have h3 := hP.length_eq; simp at h2 h3; omega
 have hk32 := k.2
 refine z8 (O (E R R (zx R zI R qN ?_)))
 refine L.callY (M0 := [J pre]) R R R (evs.cons R xu) qD qS (hY pre k hlt) ?_
 rintro _ _ _ ⟨rfl, rfl, rfl⟩
 refine zm qA qA ?_
 refine x7 R R (I (zR R R ?_))
 exact zq (zS (z8 (zV ⟨pre ++ [k], rs, some k, (by rw [List.append_assoc]; exact (List.Perm.append_left pre hpe.symm).trans hP), R, R, R, R⟩ (by have := hpe.length_eq; simp at this; omega) (zd _) (.c 0 R <| .c 5 R <| zd _) qD qD qF)))
theorem keys_iterP {ml : List (ID32 × IV)} {m c : Nat} : Iter Tryz.prog 173 [.pointer (some ⟨c, 0, none⟩)] (fun x : ID32 => [.agg (x.1.map Y).toArray]) (fun pre x => pre.length < ml.length) (cl c 126 [.map (some m)]) (mp m aK ivV ml) (mp m aK ivV ml) (fun xs => xs.Perm (ml.map Prod.fst)) :=
 ⟨fun l ψ J hY => (keysitP_spec hY).imp (fun v D' M' ⟨xs, _, h2, h3, h4⟩ => ⟨xs, h2, h3, h4⟩)⟩
theorem keysfP_spec {m : Nat}  : Spec Tryz.prog 112 [.map (some m)] [] [] (fun v D' M' => ∃ (c : Nat), v = fnV 173 [.pointer (some ⟨c, 0, none⟩)] ∧ D' = [cl c 126 [.map (some m)]] ∧ M' = []) := by
 refine zv (n := 4) Tryz.func112 ?_
 intro σ D M
 refine O (y6 R R R (fun b1 => ?_))
 refine V R R (zu (zO (A := cl b1 126 [.map (some m)]) qP ?_))
 refine z8 (O (xP R (ev1 R) ?_))
 exact V R R (I (zo (zy R R ⟨_, R, R, R⟩ qD qF)))
theorem srtint_spec {m : Nat} {ml : List (ID32 × Int)} (hm : ml.length ≤ 12) : Spec Tryz.prog 55 [.map (some m)] [] [mp m aK iK ml] (fun v D' M' => ∃ (a' : Option Addr) (n' c' : Nat) (us : List ID32), v = .slice a' n' c' ∧ (KeysF (ml.map Prod.fst) us) ∧ (us.length = n') ∧ D' = [] ∧ M' = [mp m aK iK ml, own 32 38 a' n' c' ((us).map iC)]) := by
 refine zv (n := 6) Tryz.func55 ?_
 intro σ D M
 refine T.mpNodup (kenc := aK) (venc := iK) qM (fun hnd => ?_)
 refine O (V R R (I (O (E R R (zp R (ev1 R) qD qS (keysfR_spec) ?_)))))
 rintro _ _ _ ⟨kc, rfl, rfl, rfl⟩
 refine zm qA qA ?_
 refine zp R (ev2 R R) qD qS (sortedGR_spec (keys_iterR (ml := ml) (m := m) (c := kc)) (fun pre x h => by omega) (fun xs h => by have := h.length_eq; rw [List.length_map] at this; omega)) ?_
 rintro _ _ _ ⟨ga, gn, gc, xs, us, rfl, hxs, hup, hus, hun, rfl, rfl⟩
 refine zm qA qA ?_
 exact V R R (I (zo (zy R R ⟨_, _, _, us, R, keys_of hnd hxs hup hus, hun, R, R⟩ qD qF)))
theorem srtinf_spec {m : Nat} {ml : List (ID32 × IV)} (hm : ml.length ≤ 12) : Spec Tryz.prog 60 [.map (some m)] [] [mp m aK ivV ml] (fun v D' M' => ∃ (a' : Option Addr) (n' c' : Nat) (us : List ID32), v = .slice a' n' c' ∧ (KeysF (ml.map Prod.fst) us) ∧ (us.length = n') ∧ D' = [] ∧ M' = [mp m aK ivV ml, own 32 38 a' n' c' ((us).map iC)]) := by
 refine zv (n := 6) Tryz.func60 ?_
 intro σ D M
 refine T.mpNodup (kenc := aK) (venc := ivV) qM (fun hnd => ?_)
 refine O (V R R (I (O (E R R (zp R (ev1 R) qD qS (keysfP_spec) ?_)))))
 rintro _ _ _ ⟨kc, rfl, rfl, rfl⟩
 refine zm qA qA ?_
 refine zp R (ev2 R R) qD qS (sortedGR_spec (keys_iterP (ml := ml) (m := m) (c := kc)) (fun pre x h => by omega) (fun xs h => by have := h.length_eq; rw [List.length_map] at this; omega)) ?_
 rintro _ _ _ ⟨ga, gn, gc, xs, us, rfl, hxs, hup, hus, hun, rfl, rfl⟩
 refine zm qA qA ?_
 exact V R R (I (zo (zy R R ⟨_, _, _, us, R, keys_of hnd hxs hup hus, hun, R, R⟩ qD qF)))
theorem held_spec {br bp bh ba : Nat} {hl : SnM} (hm : hl.length ≤ 12) : Spec Tryz.prog 19 [.pointer (some ⟨br, 0, none⟩)] [cl br 128 (rgC bp bh ba)] [mp bh aK iK hl] (fun v D' M' => ∃ (a' : Option Addr) (n' c' : Nat) (us : List ID32), v = .slice a' n' c' ∧ (KeysF (hl.map Prod.fst) us) ∧ (us.length = n') ∧ D' = [] ∧ M' = [mp bh aK iK hl, own 32 38 a' n' c' ((us).map iC)]) := by
 refine zv (n := 8) Tryz.func19 ?_
 intro σ D M
 refine O (V R R (I (O (E R R (zJ R R ?_)))))
 refine zg R fo128_1 R ?_
 refine zf R sc108 R qC ?_
 refine zp R (ev1 R) qD qS (srtint_spec hm) ?_
 rintro _ _ _ ⟨ga, gn, gc, us, rfl, hkf, hun, rfl, rfl⟩
 refine zm qA qA ?_
 exact V R R (I (zo (zy R R ⟨_, _, _, us, R, hkf, hun, R, R⟩ qD qF)))
theorem asked_spec {br bp bh ba : Nat} {al : SnM} (hm : al.length ≤ 12) : Spec Tryz.prog 139 [.pointer (some ⟨br, 0, none⟩)] [cl br 128 (rgC bp bh ba)] [mp ba aK iK al] (fun v D' M' => ∃ (a' : Option Addr) (n' c' : Nat) (us : List ID32), v = .slice a' n' c' ∧ (KeysF (al.map Prod.fst) us) ∧ (us.length = n') ∧ D' = [] ∧ M' = [mp ba aK iK al, own 32 38 a' n' c' ((us).map iC)]) := by
 refine zv (n := 8) Tryz.func139 ?_
 intro σ D M
 refine O (V R R (I (O (E R R (zJ R R ?_)))))
 refine zg R fo128_2 R ?_
 refine zf R sc108 R qC ?_
 refine zp R (ev1 R) qD qS (srtint_spec hm) ?_
 rintro _ _ _ ⟨ga, gn, gc, us, rfl, hkf, hun, rfl, rfl⟩
 refine zm qA qA ?_
 exact V R R (I (zo (zy R R ⟨_, _, _, us, R, hkf, hun, R, R⟩ qD qF)))
theorem paths_spec {br bp bh ba : Nat} {pl : IvM} (hm : pl.length ≤ 12) : Spec Tryz.prog 23 [.pointer (some ⟨br, 0, none⟩)] [cl br 128 (rgC bp bh ba)] [mp bp aK ivV pl] (fun v D' M' => ∃ (a' : Option Addr) (n' c' : Nat) (us : List ID32), v = .slice a' n' c' ∧ (KeysF (pl.map Prod.fst) us) ∧ (us.length = n') ∧ D' = [] ∧ M' = [mp bp aK ivV pl, own 32 38 a' n' c' ((us).map iC)]) := by
 refine zv (n := 8) Tryz.func23 ?_
 intro σ D M
 refine O (V R R (I (O (E R R (zJ R R ?_)))))
 refine zg R xy R ?_
 refine zf R sc126 R qC ?_
 refine zp R (ev1 R) qD qS (srtinf_spec hm) ?_
 rintro _ _ _ ⟨ga, gn, gc, us, rfl, hkf, hun, rfl, rfl⟩
 refine zm qA qA ?_
 exact V R R (I (zo (zy R R ⟨_, _, _, us, R, hkf, hun, R, R⟩ qD qF)))
end Cv
set_option maxRecDepth 10000
namespace Cv
open Go Go.Proofs

theorem do2_spec {br bp bh ba : Nat} {pl : IvM} {hl al : SnM} {q : Int} {s : List UInt8} (hs : s.length ≤ 1000000) : Spec Tryz.prog 28 [.pointer (some ⟨br, 0, none⟩), .agg #[.int .i64 2, S s, .int .i64 q]] [cl br 128 (rgC bp bh ba), ifs pl] [mp bp aK ivV pl] (fun v D' M' => ∃ (e : Int) (pl2 : IvM), v = .int .i64 e ∧ (AddP pl s e pl2) ∧ D' = [ifs pl2] ∧ M' = [mp bp aK ivV pl2]) := by
 refine zv (n := 109) Tryz.func28 ?_
 intro σ D M
 refine O (y6 R R R (fun b3 => ?_))
 refine V R R (zu (zO (A := cl b3 85 [.int .i64 2, S s, .int .i64 q]) qP ?_))
 refine z8 (ze (O (zg R x9 R ?_)))
 refine zf R sc3 R qC ?_
 refine yi R R R (I (yV R (decide_eq_true R) ?_))
 refine O (E R R (zg R fo85_1 R ?_))
 refine zf R sc9 R qC ?_
 refine zp R (ev2 R R) qD qS (rgadd_spec hs) ?_
 rintro _ _ _ ⟨e, pl2, rfl, hadd, rfl, rfl⟩
 refine zm qA qA ?_
 exact V R R (I (zo (zL (zy R R ⟨_, _, R, hadd, R, R⟩ qD qF))))
theorem do4_spec {br bp bh ba : Nat} {pl : IvM} {hl al : SnM} {q : Int} {x : ID32}  : Spec Tryz.prog 28 [.pointer (some ⟨br, 0, none⟩), .agg #[.int .i64 4, S x.1, .int .i64 q]] [cl br 128 (rgC bp bh ba)] [mp bp aK ivV pl, mp bh aK iK hl] (fun v D' M' => v = .int .i64 (if look pl x = none then 7 else 0) ∧ D' = [] ∧ M' = [mp bp aK ivV pl, mp bh aK iK (if look pl x = none then hl else put hl x 1)]) := by
 refine zv (n := 109) Tryz.func28 ?_
 intro σ D M
 have hx2 := x.2
 have hx3 := yw x
 refine O (y6 R R R (fun b3 => ?_))
 refine V R R (zu (zO (A := cl b3 85 [.int .i64 4, S x.1, .int .i64 q]) qP ?_))
 refine z8 (ze (O (zg R x9 R ?_)))
 refine zf R sc3 R qC ?_
 refine yi R R R (I (zR R (decide_eq_false jD) ?_))
 refine zq (z8 (ze (O (zg R x9 R ?_))))
 refine zf R sc3 R qC ?_
 refine zW R R R (E R R (zE (t := 19) R (show _ = Value.bool false from congrArg Value.bool (decide_eq_false jD)) ?_))
 refine zj 19 R R R (zg R x9 R ?_)
 refine zj 19 R R R (zf R sc3 R qC ?_)
 refine zj 19 R R R (yy R R R (yg R R R (I (zR R (decide_eq_false jD) ?_))))
 refine zq (z8 (O (zg R fo85_1 R ?_)))
 refine zf R sc9 R qC ?_
 refine zH R (ev1 R) qD qS (otake_spec (x := x)) jF ?_
 refine E R R (zr R R R (zr R R R (zC R ze38 (fun b5 => ?_))))
 refine zz zI R R qL qO qU qW ?_
 refine V R R (zu (zO (A := cl b5 38 (iC x)) qP ?_))
 refine z8 (ze (O (E R R (zZ R R R (I (zR R (decide_eq_false (fun q => q R)) ?_))))))
 refine zq (z8 (ze (yx (fun K' D' M' => ∃ (w : Bool), (w = (look pl x).isSome) ∧ K' = [(8, .bool w)] ∧ D' = [] ∧ M' = [mp bp aK ivV pl]) (M0 := [mp bp aK ivV pl]) (.c 0 R <| .c 3 R <| .c 5 R <| zd _) qS ?_ ?_)))
 ·rcases hlk : look pl x with _ | v
  ·refine y7 (clsL [1, 1, 1, 1, 1, 2, 1, 1, 1, 2, 2, 1]) qk ?_
   refine z9 0 R R (E R R (z7 (yX (i := 1) R R qk qk qk R qD R ?_)))
   refine z9 2 R R (zg R xy R ?_)
   refine z7 (z9 3 R R (zf R sc126 R qC ?_))
   refine z7 (z9 4 R R (zx R zI R qN ?_))
   refine z7 (yA (is := [5, 9]) qk jD (zU R ?_ <| zU R ?_ <| yB) )
   ·first | refine xw (kenc := aK) (venc := ivV) (l := pl) (k := x) (v := v) rfl yI (yo yf zX sc5) zv75 rfl rfl qM hlk ?_ | refine xA (kenc := aK) (venc := ivV) (l := pl) (k := x) rfl yI (yo yf zX sc5) zv75 rfl rfl qM hlk ?_
    refine zh R qD ?_
    refine z9 6 R R (E R R (z7 (z9 7 R R (zr R R R (z7 (z9 8 R R (zr R R R (z7 (zi 9 R (zC R ze75 (fun b7 => ?_)))))))))))
    refine zh R qD ?_
    refine zi 10 R (zz yu R R qL qO qU qW ?_)
    refine zh R qD ?_
    refine z9 11 R R (V R R (z7 (zN qk ?_)))
    exact z8 (zK ⟨_, (by first | rfl | (rw [hlk]; rfl)), R, R, R⟩ (.c 8 R <| zd _) (.c 0 R <| .c 3 R <| .c 5 R <| zd _) qD qD qF)
   refine zC R ze75 (fun b7 => ?_)
   refine zh R qD ?_
   refine zi 5 R ?_
   first | refine xw (kenc := aK) (venc := ivV) (l := pl) (k := x) (v := v) rfl yI (yo yf zX sc5) zv75 rfl rfl qM hlk ?_ | refine xA (kenc := aK) (venc := ivV) (l := pl) (k := x) rfl yI (yo yf zX sc5) zv75 rfl rfl qM hlk ?_
   refine zh R qD ?_
   refine z9 6 R R (E R R (z7 (z9 7 R R (zr R R R (z7 (z9 8 R R (zr R R R (z7 (zi 10 R (zz yu R R qL qO qU qW ?_))))))))))
   refine zh R qD ?_
   refine z9 11 R R (V R R (z7 (zN qk ?_)))
   exact z8 (zK ⟨_, (by first | rfl | (rw [hlk]; rfl)), R, R, R⟩ (.c 8 R <| zd _) (.c 0 R <| .c 3 R <| .c 5 R <| zd _) qD qD qF)
  have hv3 := inC_len v.1.1 v.2.1 v.2.2.1 v.2.2.2
  have hv32 := v.1.1.1.2
  refine y7 (clsL [1, 1, 1, 1, 1, 2, 1, 1, 1, 2, 2, 1]) qk ?_
  refine z9 0 R R (E R R (z7 (yX (i := 1) R R qk qk qk R qD R ?_)))
  refine z9 2 R R (zg R xy R ?_)
  refine z7 (z9 3 R R (zf R sc126 R qC ?_))
  refine z7 (z9 4 R R (zx R zI R qN ?_))
  refine z7 (yA (is := [5, 9]) qk jD (zU R ?_ <| zU R ?_ <| yB) )
  ·first | refine xw (kenc := aK) (venc := ivV) (l := pl) (k := x) (v := v) rfl yI (yo yf zX sc5) zv75 rfl rfl qM hlk ?_ | refine xA (kenc := aK) (venc := ivV) (l := pl) (k := x) rfl yI (yo yf zX sc5) zv75 rfl rfl qM hlk ?_
   refine zh R qD ?_
   refine z9 6 R R (E R R (z7 (z9 7 R R (zr R R R (z7 (z9 8 R R (zr R R R (z7 (zi 9 R (zC R ze75 (fun b7 => ?_)))))))))))
   refine zh R qD ?_
   refine zi 10 R (zz yu R R qL qO qU qW ?_)
   refine zh R qD ?_
   refine z9 11 R R (V R R (z7 (zN qk ?_)))
   exact z8 (zK ⟨_, (by first | rfl | (rw [hlk]; rfl)), R, R, R⟩ (.c 8 R <| zd _) (.c 0 R <| .c 3 R <| .c 5 R <| zd _) qD qD qF)
  refine zC R ze75 (fun b7 => ?_)
  refine zh R qD ?_
  refine zi 5 R ?_
  first | refine xw (kenc := aK) (venc := ivV) (l := pl) (k := x) (v := v) rfl yI (yo yf zX sc5) zv75 rfl rfl qM hlk ?_ | refine xA (kenc := aK) (venc := ivV) (l := pl) (k := x) rfl yI (yo yf zX sc5) zv75 rfl rfl qM hlk ?_
  refine zh R qD ?_
  refine z9 6 R R (E R R (z7 (z9 7 R R (zr R R R (z7 (z9 8 R R (zr R R R (z7 (zi 10 R (zz yu R R qL qO qU qW ?_))))))))))
  refine zh R qD ?_
  refine z9 11 R R (V R R (z7 (zN qk ?_)))
  exact z8 (zK ⟨_, (by first | rfl | (rw [hlk]; rfl)), R, R, R⟩ (.c 8 R <| zd _) (.c 0 R <| .c 3 R <| .c 5 R <| zd _) qD qD qF)
 rintro _ _ _ ⟨w, hwl, rfl, rfl, rfl⟩
 refine zM qA qA qA ?_
 refine z8 (ze (zD (O (zg R x9 R ?_))))
 refine zf R sc3 R qC ?_
 refine yi R R R (E R R (zE (t := 52) R (show _ = Value.bool false from congrArg Value.bool (decide_eq_false jD)) ?_))
 refine zw 52 false R R R R R jD (zw 52 false R R R R R jD (zw 52 false R R R R R jD (yg R R R (V R R (I (zR R R ?_))))))
 refine ze (O (zg R x9 R ?_))
 refine zf R sc3 R qC ?_
 refine yi R R R (E R R (zE (t := 61) R (show _ = Value.bool false from congrArg Value.bool (decide_eq_false jD)) ?_))
 refine zw 61 false R R R R R jD (zw 61 false R R R R R jD (yg R R R (V R R (I (zR R R ?_)))))
 refine zt (zg R x9 R ?_)
 refine zf R sc3 R qC ?_
 refine yi R R R (E R R (zE (t := 68) R (show _ = Value.bool true from congrArg Value.bool (decide_eq_true R)) ?_))
 refine zj 68 R R R (E R R (zj 68 R R R (x7 R R (ym R R R (V R R (I (zA R (fun h57 => ?_) (fun h57 => ?_))))))))
 ·try simp only [dq] at h57
  have hno : look pl x = none := by cases e : look pl x with
   | none => rfl
   | some v => rw [e] at hwl; subst hwl; cases h57
  refine O (V R R (I (zo (yv (zL ?_)))))
  rw [if_pos hno, if_pos hno]
  exact zy R R ⟨R, R, R⟩ qD qF
 try simp only [dq] at h57
 have hno : look pl x ≠ none := fun e => by rw [e] at hwl; subst hwl; cases h57
 refine O (zg R x9 R ?_)
 refine zf R sc3 R qC ?_
 refine yi R R R (V R R (I (zR R (decide_eq_false jD) ?_)))
 refine O (zg R x9 R ?_)
 refine zf R sc3 R qC ?_
 refine yi R R R (V R R (I (yV R (decide_eq_true R) ?_)))
 refine y7 (clsL [1, 1, 1, 1, 1, 2]) qk ?_
 refine z9 0 R R (E R R (z7 (yX (i := 1) R R qk qk qk R qD R ?_)))
 refine z9 2 R R (zg R fo128_1 R ?_)
 refine z7 (z9 3 R R (zf R sc108 R qC ?_))
 refine z7 (z9 4 R R (zx R zI R qN ?_))
 refine z7 (zi 5 R (xQ (kenc := aK) (venc := iK) (l := hl) (k := x) (v := 1) xd (yo yf zX sc5) R R R R qP ?_))
 refine zh R qD ?_
 refine zN qk ?_
 refine zS (z8 (O (V R R (I (zo ?_)))))
 rw [if_neg hno, if_neg hno]
 exact zy R R ⟨R, R, R⟩ qD qF
theorem do3_spec {br bp bh ba : Nat} {pl : IvM} {hl al : SnM} {q : Int} {x : ID32} (hok : PlOk pl) (hrf : ¬ refBy pl x) (hhl : look hl x = none) (hpl : look pl x ≠ none) : Spec Tryz.prog 28 [.pointer (some ⟨br, 0, none⟩), .agg #[.int .i64 3, S x.1, .int .i64 q]] [cl br 128 (rgC bp bh ba), ifs pl] [mp bp aK ivV pl, mp bh aK iK hl] (fun v D' M' => v = .int .i64 0 ∧ D' = [] ∧ M' = [mp bp aK ivV (del pl x), mp bh aK iK hl]) := by
 refine zv (n := 109) Tryz.func28 ?_
 intro σ D M
 have hx2 := x.2
 have hx3 := yw x
 refine O (y6 R R R (fun b3 => ?_))
 refine V R R (zu (zO (A := cl b3 85 [.int .i64 3, S x.1, .int .i64 q]) qP ?_))
 refine z8 (ze (O (zg R x9 R ?_)))
 refine zf R sc3 R qC ?_
 refine yi R R R (I (zR R (decide_eq_false jD) ?_))
 refine zq (z8 (ze (O (zg R x9 R ?_))))
 refine zf R sc3 R qC ?_
 refine zW R R R (E R R (zE (t := 19) R (show _ = Value.bool false from congrArg Value.bool (decide_eq_false jD)) ?_))
 refine zj 19 R R R (zg R x9 R ?_)
 refine zj 19 R R R (zf R sc3 R qC ?_)
 refine zj 19 R R R (yy R R R (yg R R R (I (zR R (decide_eq_false jD) ?_))))
 refine zq (z8 (O (zg R fo85_1 R ?_)))
 refine zf R sc9 R qC ?_
 refine zH R (ev1 R) qD qS (otake_spec (x := x)) jF ?_
 refine E R R (zr R R R (zr R R R (zC R ze38 (fun b5 => ?_))))
 refine zz zI R R qL qO qU qW ?_
 refine V R R (zu (zO (A := cl b5 38 (iC x)) qP ?_))
 refine z8 (ze (O (E R R (zZ R R R (I (zR R (decide_eq_false (fun q => q R)) ?_))))))
 refine zq (z8 (ze (yx (fun K' D' M' => ∃ (w : Bool), (w = (look pl x).isSome) ∧ K' = [(8, .bool w)] ∧ D' = [] ∧ M' = [mp bp aK ivV pl]) (M0 := [mp bp aK ivV pl]) (.c 0 R <| .c 3 R <| .c 5 R <| zd _) qS ?_ ?_)))
 ·rcases hlk : look pl x with _ | v
  ·refine y7 (clsL [1, 1, 1, 1, 1, 2, 1, 1, 1, 2, 2, 1]) qk ?_
   refine z9 0 R R (E R R (z7 (yX (i := 1) R R qk qk qk R qD R ?_)))
   refine z9 2 R R (zg R xy R ?_)
   refine z7 (z9 3 R R (zf R sc126 R qC ?_))
   refine z7 (z9 4 R R (zx R zI R qN ?_))
   refine z7 (yA (is := [5, 9]) qk jD (zU R ?_ <| zU R ?_ <| yB) )
   ·first | refine xw (kenc := aK) (venc := ivV) (l := pl) (k := x) (v := v) rfl yI (yo yf zX sc5) zv75 rfl rfl qM hlk ?_ | refine xA (kenc := aK) (venc := ivV) (l := pl) (k := x) rfl yI (yo yf zX sc5) zv75 rfl rfl qM hlk ?_
    refine zh R qD ?_
    refine z9 6 R R (E R R (z7 (z9 7 R R (zr R R R (z7 (z9 8 R R (zr R R R (z7 (zi 9 R (zC R ze75 (fun b7 => ?_)))))))))))
    refine zh R qD ?_
    refine zi 10 R (zz yu R R qL qO qU qW ?_)
    refine zh R qD ?_
    refine z9 11 R R (V R R (z7 (zN qk ?_)))
    exact z8 (zK ⟨_, (by first | rfl | (rw [hlk]; rfl)), R, R, R⟩ (.c 8 R <| zd _) (.c 0 R <| .c 3 R <| .c 5 R <| zd _) qD qD qF)
   refine zC R ze75 (fun b7 => ?_)
   refine zh R qD ?_
   refine zi 5 R ?_
   first | refine xw (kenc := aK) (venc := ivV) (l := pl) (k := x) (v := v) rfl yI (yo yf zX sc5) zv75 rfl rfl qM hlk ?_ | refine xA (kenc := aK) (venc := ivV) (l := pl) (k := x) rfl yI (yo yf zX sc5) zv75 rfl rfl qM hlk ?_
   refine zh R qD ?_
   refine z9 6 R R (E R R (z7 (z9 7 R R (zr R R R (z7 (z9 8 R R (zr R R R (z7 (zi 10 R (zz yu R R qL qO qU qW ?_))))))))))
   refine zh R qD ?_
   refine z9 11 R R (V R R (z7 (zN qk ?_)))
   exact z8 (zK ⟨_, (by first | rfl | (rw [hlk]; rfl)), R, R, R⟩ (.c 8 R <| zd _) (.c 0 R <| .c 3 R <| .c 5 R <| zd _) qD qD qF)
  have hv3 := inC_len v.1.1 v.2.1 v.2.2.1 v.2.2.2
  have hv32 := v.1.1.1.2
  refine y7 (clsL [1, 1, 1, 1, 1, 2, 1, 1, 1, 2, 2, 1]) qk ?_
  refine z9 0 R R (E R R (z7 (yX (i := 1) R R qk qk qk R qD R ?_)))
  refine z9 2 R R (zg R xy R ?_)
  refine z7 (z9 3 R R (zf R sc126 R qC ?_))
  refine z7 (z9 4 R R (zx R zI R qN ?_))
  refine z7 (yA (is := [5, 9]) qk jD (zU R ?_ <| zU R ?_ <| yB) )
  ·first | refine xw (kenc := aK) (venc := ivV) (l := pl) (k := x) (v := v) rfl yI (yo yf zX sc5) zv75 rfl rfl qM hlk ?_ | refine xA (kenc := aK) (venc := ivV) (l := pl) (k := x) rfl yI (yo yf zX sc5) zv75 rfl rfl qM hlk ?_
   refine zh R qD ?_
   refine z9 6 R R (E R R (z7 (z9 7 R R (zr R R R (z7 (z9 8 R R (zr R R R (z7 (zi 9 R (zC R ze75 (fun b7 => ?_)))))))))))
   refine zh R qD ?_
   refine zi 10 R (zz yu R R qL qO qU qW ?_)
   refine zh R qD ?_
   refine z9 11 R R (V R R (z7 (zN qk ?_)))
   exact z8 (zK ⟨_, (by first | rfl | (rw [hlk]; rfl)), R, R, R⟩ (.c 8 R <| zd _) (.c 0 R <| .c 3 R <| .c 5 R <| zd _) qD qD qF)
  refine zC R ze75 (fun b7 => ?_)
  refine zh R qD ?_
  refine zi 5 R ?_
  first | refine xw (kenc := aK) (venc := ivV) (l := pl) (k := x) (v := v) rfl yI (yo yf zX sc5) zv75 rfl rfl qM hlk ?_ | refine xA (kenc := aK) (venc := ivV) (l := pl) (k := x) rfl yI (yo yf zX sc5) zv75 rfl rfl qM hlk ?_
  refine zh R qD ?_
  refine z9 6 R R (E R R (z7 (z9 7 R R (zr R R R (z7 (z9 8 R R (zr R R R (z7 (zi 10 R (zz yu R R qL qO qU qW ?_))))))))))
  refine zh R qD ?_
  refine z9 11 R R (V R R (z7 (zN qk ?_)))
  exact z8 (zK ⟨_, (by first | rfl | (rw [hlk]; rfl)), R, R, R⟩ (.c 8 R <| zd _) (.c 0 R <| .c 3 R <| .c 5 R <| zd _) qD qD qF)
 rintro _ _ _ ⟨w, hwl, rfl, rfl, rfl⟩
 refine zM qA qA qA ?_
 refine z8 (ze (zD (O (zg R x9 R ?_))))
 refine zf R sc3 R qC ?_
 refine yi R R R (E R R (zE (t := 52) R (show _ = Value.bool true from congrArg Value.bool (decide_eq_true R)) ?_))
 refine zj 52 R R R (E R R (zj 52 R R R (zx R zI R qN ?_)))
 refine zj 52 R R R (zp R (ev2 R R) qD qS (needed_spec (hl := hl) (x := x) hok) ?_)
 rintro _ _ _ ⟨w2, rfl, hw2, rfl, rfl⟩
 refine zm qA qA ?_
 obtain rfl : w2 = false := by cases w2 with
  | false => rfl
  | true => exact ((hw2.1 rfl).elim (fun e => absurd e hrf) (fun e => absurd hhl e))
 have hwt : w = true := by cases e : look pl x with
  | none => exact absurd e hpl
  | some v => rw [hwl, e]; rfl
 subst hwt
 refine ym R R R (V R R (I (zR R R ?_)))
 refine ze (O (zg R x9 R ?_))
 refine zf R sc3 R qC ?_
 refine yi R R R (E R R (zE (t := 61) R (show _ = Value.bool true from congrArg Value.bool (decide_eq_true R)) ?_))
 refine zj 61 R R R (E R R (zj 61 R R R (x7 R R (ym R R R (V R R (I (zR R R ?_)))))))
 refine zt (zg R x9 R ?_)
 refine zf R sc3 R qC ?_
 refine yi R R R (E R R (zE (t := 68) R (show _ = Value.bool false from congrArg Value.bool (decide_eq_false jD)) ?_))
 refine zw 68 false R R R R R jD (zw 68 false R R R R R jD (yg R R R (V R R (I (zR R R ?_)))))
 refine O (zg R x9 R ?_)
 refine zf R sc3 R qC ?_
 refine yi R R R (V R R (I (yV R (decide_eq_true R) ?_)))
 refine y7 (clsL [1, 1, 1, 1, 1, 2]) qk ?_
 refine z9 0 R R (E R R (z7 (yX (i := 1) R R qk qk qk R qD R ?_)))
 refine z9 2 R R (zg R xy R ?_)
 refine z7 (z9 3 R R (zf R sc126 R qC ?_))
 refine z7 (z9 4 R R (zx R zI R qN ?_))
 refine z7 (zi 5 R (L.delete (kenc := aK) (venc := ivV) (l := pl) (k := x) yI (yo yf zX sc5) R R qP ?_))
 refine zh R qD ?_
 refine zN qk ?_
 exact zS (z8 (O (V R R (I (zo (zy R R ⟨R, R, R⟩ qD qF))))))
end Cv
