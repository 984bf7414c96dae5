/-
  The walks: registries: records.
-/
import Derived.Test.YtahkbpiinbepcaaGreatYc15
import Derived.Test.YtahkbpiinbepcaaGreatTT15
import Derived.Test.YtahkbpiinbepcaaGreatProg
import Derived.KernelRfl
import Derived.Test.YtahkbpiinbepcaaGreatM05
import Derived.Test.YtahkbpiinbepcaaGreatZa15
import Derived.Test.YtahkbpiinbepcaaGreatCvLc
import Derived.Test.YtahkbpiinbepcaaGreatCvLd
set_option linter.unusedVariables false
set_option linter.unusedSimpArgs false
set_option linter.unusedSectionVars false
set_option maxHeartbeats 400000
set_option maxRecDepth 10000
namespace Cv
open Go Go.Proofs
/-! ## registries: the plain model -/
abbrev IV := (Pt × List ID32) × (Option Addr × Nat × Nat)
@[reducible] def ivC (v : IV) : List Value := inC v.1.1 v.2.1 v.2.2.1 v.2.2.2
@[reducible] def ivV (v : IV) : Value := .agg (ivC v).toArray
def iF (e : ID32 × IV) : Asn := rsl 32 e.2.2.1 e.2.2.2.1 e.2.2.2.2 (e.2.1.2.map iC)
abbrev IvM := List (ID32 × IV)
abbrev ifs (pl : IvM) : Asn := fcs (pl.map iF)
@[reducible] def rgC (bp bh ba : Nat) : List Value := [.map (some bp), .map (some bh), .map (some ba)]
theorem tk_set {l : List UInt8} (h : l.length = 32) : SetAt ((List.replicate 32 (0 : UInt8)).map Y) 0 ((l.take 32).map Y) (l.map Y) := by
  rw [List.take_of_length_le (by omega)]
  exact SetAt.whole (by simp [h])
def anyI (p : ID32 → Bool) (xs : List ID32) : Bool := xs.any p
theorem anyI_at {p : ID32 → Bool} {xs : List ID32} {k : Nat} {x : ID32} (h : xs[k]? = some x) (e : p x = true) : anyI p xs = true := List.any_eq_true.2 ⟨x, List.mem_of_getElem? h, e⟩
theorem anyI_no {p : ID32 → Bool} {xs : List ID32} (h : ∀ y ∈ xs, p y = false) : anyI p xs = false := by
  unfold anyI
  rw [List.any_eq_false]
  exact fun y hy => by rw [h y hy]; decide
theorem any_nx {p : ID32 → Bool} {xs : List ID32} {k : Nat} {x : ID32} (h : ∀ y ∈ xs.take k, p y = false) (g : xs[k]? = some x) (e : p x = false) : ∀ y ∈ xs.take (k + 1), p y = false := fun y hy => by
  rw [List.take_add_one, g] at hy
  rcases List.mem_append.1 hy with q | q
  · exact h y q
  · obtain rfl : y = x := by simpa using q
    exact e
theorem zv136 : ∀ w, (zeroValue 136).run Tryz.prog w = .ok (Value.agg #[Value.map none, Value.map none, Value.map none]) w := fun w => by kernel_rfl
theorem bu136 : Bu Tryz.prog 136 [Value.map none, Value.map none, Value.map none] (fun (i : Nat) => ([(0, 1), (1, 1), (2, 1)] : List (Nat × Nat))[i]?) := bu_of Tryz.underlying136 zv136 rfl (fun w => by kernel_rfl)
theorem zv69 : ∀ w, (zeroValue 69).run Tryz.prog w = .ok (Value.agg #[.int .i64 0, S [], Value.int .i64 0]) w := fun w => by kernel_rfl
theorem ze69 : Ze Tryz.prog 69 [Value.int .i64 0, S [], Value.int .i64 0] := ⟨_, rfl, zv69⟩
theorem bu69 : Bu Tryz.prog 69 [Value.int .i64 0, S [], Value.int .i64 0] (fun (i : Nat) => ([(0, 1), (1, 1), (2, 1)] : List (Nat × Nat))[i]?) := bu_of Tryz.underlying69 zv69 rfl (fun w => by kernel_rfl)
theorem ag69 : Ag Tryz.prog 69 3 := fun w => ⟨by kernel_rfl, by kernel_rfl⟩
theorem rgnew_spec   : Spec Tryz.prog 32 [] [] [] (fun v D' M' => ∃ (br bp bh ba : Nat), v = .pointer (some ⟨br, 0, none⟩) ∧ D' = [] ∧ M' = [cl br 136 (rgC bp bh ba), mp bp aK ivV [], mp bh aK iK [], mp ba aK iK []]) := by
 refine zC (n := 6) Tryz.func32 ?_
 intro σ D M
 refine z6 (z8 (z9 rfl rfl (z7 (z4 (z6 (z8 (L.makeMap aK ivV rfl (fun bp => ?_))))))))
 refine L.makeMap aK iK rfl (fun bh => ?_)
 refine L.makeMap aK iK rfl (fun ba => ?_)
 refine yw rfl bu136 (zB rfl rfl rfl <| zB rfl rfl rfl <| zB rfl rfl rfl <| zO (out := []) rfl) ?_
 refine yq rfl rfl rfl (fun b5 => ?_)
 exact z9 rfl rfl (z7 (z4 (zi (zz rfl rfl ⟨b5, bp, bh, ba, rfl, rfl, rfl⟩ qD qF))))
theorem adds_spec {a : Option Addr} {n c : Nat} {p : Pt} {l : List ID32} (hn : n ≤ 1000000) (hp : p.2 ≤ 4611686018427387904) : Spec Tryz.prog 34 [.agg (inC p a n c).toArray] [rsl 32 a n c (l.map iC)] [] (fun v D' M' => v = .agg #[.int .i64 2, S (inT p l), .int .i64 0] ∧ D' = [] ∧ M' = []) := by
 refine zC (n := 6) Tryz.func34 ?_
 intro σ D M
 have hin := inC_len p a n c
 have hp32 := p.1.2
 refine z6 (z8 (yq rfl rfl rfl (fun b1 => ?_)))
 refine zL rfl ze69 (fun b2 => ?_)
 refine z7 (y1 (A := cl b1 54 (inC p a n c)) qP ?_)
 refine z4 (z6 (z8 (zp rfl y9 rfl qN ?_)))
 refine zW rfl (ev1 rfl) qD qS (itext_spec (l := l) (p := p) hn hp) jF ?_
 refine yw rfl bu69 (zB rfl rfl rfl <| zB rfl rfl rfl <| zO (out := [Value.int .i64 0]) rfl) ?_
 refine zE ag69 rfl rfl qL qO qU qW ?_
 exact z7 (z4 (zi (T.retA rfl ag69 rfl qN ⟨rfl, rfl, rfl⟩ qD qF)))
theorem record_spec {k : Int} {x : ID32}  : Spec Tryz.prog 35 [.int .i64 k, .agg (iC x).toArray] [] [] (fun v D' M' => v = .agg #[.int .i64 k, S x.1, .int .i64 0] ∧ D' = [] ∧ M' = []) := by
 refine zC (n := 9) Tryz.func35 ?_
 intro σ D M
 have hx2 := x.2
 have hx3 := zT x
 refine z6 (z8 (yq rfl rfl rfl (fun b3 => ?_)))
 refine zL rfl ze69 (fun b4 => ?_)
 refine z7 (y1 (A := cl b3 38 (iC x)) qP ?_)
 refine z4 (z6 (z8 (z5 rfl rfl (zp rfl zu rfl qN ?_))))
 refine zW rfl (ev1 rfl) qD qS (obytes_spec (l := x.1) hx2) jF ?_
 refine yw rfl bu69 (zB rfl rfl rfl <| zB rfl rfl rfl <| zO (out := [Value.int .i64 0]) rfl) ?_
 refine zE ag69 rfl rfl qL qO qU qW ?_
 exact z7 (z4 (zi (T.retA rfl ag69 rfl qN ⟨rfl, rfl, rfl⟩ qD qF)))
theorem otake_spec {x : ID32}  : Spec Tryz.prog 70 [S x.1] [] [] (fun v D' M' => v = .tuple #[.agg (iC x).toArray, .int .i64 0] ∧ D' = [] ∧ M' = []) := by
 refine zC (n := 13) Tryz.func70 ?_
 intro σ D M
 have hl := x.2
 have hlm : (x.1.map Y).length = 32 := by rw [List.length_map]; exact hl
 refine z6 (z8 (zL rfl ze38 (fun b2 => ?_)))
 refine z9 rfl rfl (z7 (z4 (z6 (z8 (zL rfl ze38 (fun b4 => ?_))))))
 refine z7 (z4 (z6 (z6 (z8 (z5 rfl rfl (xj rfl yy rfl (yx rfl rfl rfl (z7 (z4 (ym rfl (decide_eq_false jO) ?_))))))))))
 refine zm (z4 (z6 (z8 (xD rfl yf sz5 rfl Bd.no Bd.no qI qI ?_))))
 refine zv (t := 9) (u := .slice (some ⟨b4, 0, none⟩) 32 32) rfl (by first | rfl | simp [cutA, Addr.add]) ?_
 refine z5 rfl rfl (L.copyStr rfl yz sz5 rfl rfl (show Nat.min x.1.length 32 = 32 by rw [hl]; rfl) qU (tk_set hl) ?_)
 refine z7 (z4 (z6 (z8 (zp rfl zu rfl qN ?_))))
 refine zE zu rfl rfl qL qO qU qW ?_
 exact z9 rfl rfl (z7 (z4 (zi (yN rfl zu rfl qN rfl ⟨rfl, rfl, rfl⟩ qD qF))))
end Cv
set_option maxRecDepth 10000
namespace Cv
open Go Go.Proofs

theorem idxi_spec {a : Option Addr} {len cap g : Nat} {caps : List Value} {A d1 d2 : Asn} {p : ID32 → Bool} {xs : List ID32} (hp : ∀ x ∈ xs, Spec Tryz.prog g ([.agg (iC x).toArray] ++ caps) [d1, d2] [A] (fun u D' M' => u = .bool (p x) ∧ D' = [] ∧ M' = [A])) (hb : len ≤ 4611686018427387904) : Spec Tryz.prog 167 [.slice a len cap, fnV g caps] [rsl 32 a len cap (xs.map iC), d1, d2] [A] (fun v D' M' => ∃ (k : Int), v = .int .i64 k ∧ ((decide (0 ≤ k) = anyI p xs)) ∧ D' = [] ∧ M' = [A]) := by
 refine zC (n := 19) Tryz.func167 ?_
 intro σ D M
 refine yH (a := a) (len := len) (cap := cap) (rows := xs.map iC) qM (fun hl hc => ?_)
 rw [List.length_map] at hl
 refine z6 (z8 (z9 rfl rfl (z7 (z4 (z6 (z6 (z8 (z5 rfl rfl (y2 rfl zA rfl (z5 rfl rfl (z7 (z4 (zr (zX (fun K' D' M' μ => ∃ (k : Nat), (k ≤ len ∧ ∀ y ∈ xs.take k, p y = false) ∧ K' = [(8, .int .i64 k)] ∧ D' = [] ∧ M' = [A] ∧ μ = len - k) (.c 0 rfl <| .c 1 rfl <| .c 7 rfl <| za _) (⟨0, ⟨by omega, by simp⟩, rfl, rfl, rfl, rfl⟩) (.c 8 rfl <| za _) qD qS ?_))))))))))))))
 rintro K1 D1 M1 m1 ⟨k, ⟨hk, hall⟩, rfl, rfl, rfl, rfl⟩
 refine zF qA qA qA ?_
 refine z6 (z8 (zQ rfl rfl rfl (z7 (z4 (z6 (zo rfl (fun h9 => ?_) (fun h9 => ?_)))))))
 ·try simp only [dq] at h9
  refine zm (z4 (z6 (zr (z6 (z8 (z5 rfl rfl (z9 rfl rfl (z7 (z4 (z6 ?_))))))))))
  have hgd : xs[k]? = some (gd xs k) := zJ jO
  obtain ⟨x, hx_⟩ : ∃ z, z = gd xs k := ⟨_, rfl⟩
  rw [← hx_] at hgd
  clear hx_
  have hgr : (xs.map iC)[k]? = some (iC x) := zU hgd
  have hx3 := zT x
  refine z8 (z5 rfl rfl (z5 rfl rfl (z5 rfl rfl (yI (i := k) rfl zA zN rfl rfl qM jR qG (fun b14 o14 => ?_)))))
  refine zp rfl zu rfl (x8 qM hx3) ?_
  refine L.callV rfl rfl (ev1 rfl) qD qS (hp x (List.mem_of_getElem? hgd)) ?_
  rintro _ _ _ ⟨rfl, rfl, rfl⟩
  refine zt qA qA ?_
  refine z7 (z4 (zo rfl (fun h16 => ?_) (fun h16 => ?_)))
  ·try simp only [dq] at h16
   exact z6 (z8 (z5 rfl rfl (z9 rfl rfl (z7 (z4 (zi (y3 (zD (zD (y3 (zD (zz rfl rfl ⟨_, rfl, by rw [anyI_at hgd h16]; exact decide_eq_true jO, rfl, rfl⟩ qD qF))))))))))))
  ·try simp only [dq] at h16
   refine zm (zI (z4 (z8 (zH rfl rfl rfl jO ?_))))
   exact z5 rfl rfl (z7 (z4 (zM ⟨k + 1, ⟨by omega, any_nx hall hgd h16⟩, rfl, rfl, rfl, rfl⟩ qI (.c 8 rfl <| za _) (.c 0 rfl <| .c 1 rfl <| .c 7 rfl <| za _) qD qD qF)))
 ·try simp only [dq] at h9
  obtain rfl : len = k := by omega
  rw [List.take_of_length_le jO] at hall
  exact zR (zq (zq (zS (z4 (z6 (z8 (z9 rfl rfl (z7 (z4 (zi (zz rfl rfl ⟨_, rfl, by rw [anyI_no hall]; rfl, rfl, rfl⟩ qD qF)))))))))))
theorem coni_spec {a : Option Addr} {len cap g : Nat} {caps : List Value} {A d1 d2 : Asn} {p : ID32 → Bool} {xs : List ID32} (hp : ∀ x ∈ xs, Spec Tryz.prog g ([.agg (iC x).toArray] ++ caps) [d1, d2] [A] (fun u D' M' => u = .bool (p x) ∧ D' = [] ∧ M' = [A])) (hb : len ≤ 4611686018427387904) : Spec Tryz.prog 138 [.slice a len cap, fnV g caps] [rsl 32 a len cap (xs.map iC), d1, d2] [A] (fun v D' M' => v = .bool (anyI p xs) ∧ D' = [] ∧ M' = [A]) := by
 refine zC (n := 9) Tryz.func138 ?_
 intro σ D M
 refine z6 (z8 (z9 rfl rfl (z7 (z4 (z6 (z8 (z5 rfl rfl (z5 rfl rfl (zx rfl (ev2 rfl rfl) qD qS (idxi_spec hp hb) ?_)))))))))
 rintro _ _ _ ⟨k, rfl, hk, rfl, rfl⟩
 refine zt qA qA ?_
 exact x6 rfl rfl rfl (z9 rfl rfl (z7 (z4 (zi (zz rfl rfl ⟨congrArg Value.bool hk, rfl, rfl⟩ qD qF)))))
end Cv
set_option maxRecDepth 10000
namespace Cv
open Go Go.Proofs
/-! ## registries: what happens -/
theorem parI_sz (s : List UInt8) : (parI s).1.2 ≤ 32768 := by
  have h : (parZ s).2.1.1 ≤ 32768 := int_le _ 32768
  unfold parI
  split
  · show (0 : Int) ≤ 32768; decide
  · split
    · show (0 : Int) ≤ 32768; decide
    · show ((parZ s).2.1.1 : Int) ≤ 32768
      omega
def lakI (pl : IvM) (r : ID32) : Bool := (look pl r).isNone
inductive AddP (pl : IvM) (s : List UInt8) : Int → IvM → Prop
  | bad (h : (parI s).2.2 ≠ 0) : AddP pl s (parI s).2.2 pl
  | lack (h : (parI s).2.2 = 0) (k : anyI (lakI pl) (parI s).2.1 = true) : AddP pl s 9 pl
  | add (h : (parI s).2.2 = 0) (k : anyI (lakI pl) (parI s).2.1 = false) (q : Option Addr × Nat × Nat) (hq : (parI s).2.1.length = q.2.1) : AddP pl s 0 (put pl (inN (parI s).1 (parI s).2.1) (((parI s).1, (parI s).2.1), q))
theorem put_in {κ ν : Type} [DecidableEq κ] {l : List (κ × ν)} {k : κ} {v : ν} {p : κ × ν} (h : p ∈ put l k v) : p = (k, v) ∨ p ∈ l := by
  induction l with
  | nil => exact .inl (by simpa [put] using h)
  | cons q l ih =>
    obtain ⟨k1, u⟩ := q
    by_cases e : k1 = k
    · rw [put, if_pos e] at h
      rcases List.mem_cons.1 h with h | h
      · exact .inl h
      · exact .inr (List.mem_cons_of_mem _ h)
    · rw [put, if_neg e] at h
      rcases List.mem_cons.1 h with h | h
      · exact .inr (by rw [h]; exact List.mem_cons_self ..)
      · rcases ih h with h | h
        · exact .inl h
        · exact .inr (List.mem_cons_of_mem _ h)
theorem ifs_put {pl : IvM} {k : ID32} {v : IV} : ∀ χ ∈ (put pl k v).map iF, χ ∈ iF (k, v) :: pl.map iF := fun χ hχ => by
  obtain ⟨e, he, rfl⟩ := List.mem_map.1 hχ
  rcases put_in he with q | q
  · rw [q]; exact List.mem_cons_self ..
  · exact List.mem_cons_of_mem _ (List.mem_map.2 ⟨e, q, rfl⟩)
def PlOk (pl : IvM) : Prop := ∀ e ∈ pl, e.2.1.2.Pairwise (fun x y => x.1 < y.1) ∧ e.2.2.2.1 ≤ 1000000
theorem iF_in {pl : IvM} {k : ID32} {v : IV} (h : (k, v) ∈ pl) : rsl 32 v.2.1 v.2.2.1 v.2.2.2 (v.1.2.map iC) ∈ pl.map iF := List.mem_map.2 ⟨(k, v), h, rfl⟩
def refBy (pl : IvM) (x : ID32) : Prop := ∃ e ∈ pl, x ∈ e.2.1.2
def NdI (pl : IvM) (x : ID32) (rest : List ID32) : Prop := ∀ e ∈ pl, e.1 ∉ rest → x ∉ e.2.1.2
theorem NdI.start {pl : IvM} {x : ID32} : NdI pl x (pl.map Prod.fst) := fun e he h => absurd (List.mem_map.2 ⟨e, he, rfl⟩) h
theorem NdI.next {pl : IvM} {x : ID32} {rest rs : List ID32} {k : ID32} {v : IV} (h : NdI pl x rest) (hnd : (pl.map Prod.fst).Nodup) (hp : rest.Perm (k :: rs)) (hv : (k, v) ∈ pl) (e : x ∉ v.1.2) : NdI pl x rs := fun q hq hr => by
  by_cases c : q.1 = k
  · have : q = (k, v) := by
      obtain ⟨q1, q2⟩ := q
      dsimp only at c
      subst c
      have a := look_of_mem hnd hq
      rw [look_of_mem hnd hv] at a
      injection a with a
      rw [a]
    rw [this]; exact e
  · exact h q hq fun z => by
      rcases List.mem_cons.1 (hp.mem_iff.1 z) with w | w
      · exact c w
      · exact hr w
theorem NdI.fin {pl : IvM} {x : ID32} (h : NdI pl x []) : ¬ refBy pl x := fun ⟨e, he, hx⟩ => h e he (by simp) hx
theorem sc65 : Sc Tryz.prog 65 := fun w => ⟨by kernel_rfl, by kernel_rfl⟩
theorem fo136_0 : Fo Tryz.prog 136 0 0 := fun a w => by kernel_rfl
theorem sc134 : Sc Tryz.prog 134 := fun w => ⟨by kernel_rfl, by kernel_rfl⟩
theorem fo136_1 : Fo Tryz.prog 136 1 1 := fun a w => by kernel_rfl
theorem lacks1_spec {br bp bh ba : Nat} {pl : IvM} {bq : Nat} {x : ID32}  : Spec Tryz.prog 139 [.agg (iC x).toArray, .pointer (some ⟨bq, 0, none⟩)] [cl bq 65 [.pointer (some ⟨br, 0, none⟩)], cl br 136 (rgC bp bh ba)] [mp bp aK ivV pl] (fun v D' M' => v = .bool (lakI pl x) ∧ D' = [] ∧ M' = [mp bp aK ivV pl]) := by
 refine zC (n := 17) Tryz.func139 ?_
 intro σ D M
 have hx2 := x.2
 have hx3 := zT x
 refine z6 (z8 (yq rfl rfl rfl (fun b2 => ?_)))
 refine z9 rfl rfl (z7 (y1 (A := cl b2 38 (iC x)) qP ?_))
 refine z4 (z6 (yu (fun K' D' M' => ∃ (w : Bool), (w = !lakI pl x) ∧ K' = [(5, .bool w)] ∧ D' = [] ∧ M' = [mp bp aK ivV pl]) (M0 := [mp bp aK ivV pl]) (za _) qS ?_ ?_))
 ·skip
  rcases hlk : look pl x with _ | v
  ·skip
   refine yt (clsL [1, 1, 1, 1, 1, 2, 1, 1, 1, 2, 2, 1]) qk ?_
   refine ze 0 rfl rfl (zh rfl sc65 rfl qC ?_)
   refine zd (xB (i := 1) rfl rfl qk qk qk rfl qD rfl ?_)
   refine ze 2 rfl rfl (zj rfl fo136_0 rfl ?_)
   refine zd (ze 3 rfl rfl (zh rfl sc134 rfl qC ?_))
   refine zd (ze 4 rfl rfl (zp rfl zu rfl qN ?_))
   refine zd (xg (is := [5, 9]) qk jD (yE rfl ?_ <| yE rfl ?_ <| xh) )
   ·skip
    first | refine xw (kenc := aK) (venc := ivV) (l := pl) (k := x) (v := v) rfl yJ (yp yf zY sc5) zv54 rfl rfl qM hlk ?_ | refine xx (kenc := aK) (venc := ivV) (l := pl) (k := x) rfl yJ (yp yf zY sc5) zv54 rfl rfl qM hlk ?_
    refine zw rfl qD ?_
    refine ze 6 rfl rfl (z5 rfl rfl (zd (ze 7 rfl rfl (zG rfl rfl rfl (zd (ze 8 rfl rfl (zG rfl rfl rfl (zd (zy 9 rfl (zL rfl ze54 (fun b4 => ?_)))))))))))
    refine zw rfl qD ?_
    refine zy 10 rfl (zE y9 rfl rfl qL qO qU qW ?_)
    refine zw rfl qD ?_
    refine ze 11 rfl rfl (z9 rfl rfl (zd (y6 qk ?_)))
    exact z4 (zK ⟨_, (by unfold lakI; rw [hlk]; rfl), rfl, rfl, rfl⟩ (.c 5 rfl <| za _) (za _) qD qD qF)
   ·skip
    refine zL rfl ze54 (fun b4 => ?_)
    refine zw rfl qD ?_
    refine zy 5 rfl ?_
    first | refine xw (kenc := aK) (venc := ivV) (l := pl) (k := x) (v := v) rfl yJ (yp yf zY sc5) zv54 rfl rfl qM hlk ?_ | refine xx (kenc := aK) (venc := ivV) (l := pl) (k := x) rfl yJ (yp yf zY sc5) zv54 rfl rfl qM hlk ?_
    refine zw rfl qD ?_
    refine ze 6 rfl rfl (z5 rfl rfl (zd (ze 7 rfl rfl (zG rfl rfl rfl (zd (ze 8 rfl rfl (zG rfl rfl rfl (zd (zy 10 rfl (zE y9 rfl rfl qL qO qU qW ?_))))))))))
    refine zw rfl qD ?_
    refine ze 11 rfl rfl (z9 rfl rfl (zd (y6 qk ?_)))
    exact z4 (zK ⟨_, (by unfold lakI; rw [hlk]; rfl), rfl, rfl, rfl⟩ (.c 5 rfl <| za _) (za _) qD qD qF)
  ·skip
   have hv3 := inC_len v.1.1 v.2.1 v.2.2.1 v.2.2.2
   have hv32 := v.1.1.1.2
   refine yt (clsL [1, 1, 1, 1, 1, 2, 1, 1, 1, 2, 2, 1]) qk ?_
   refine ze 0 rfl rfl (zh rfl sc65 rfl qC ?_)
   refine zd (xB (i := 1) rfl rfl qk qk qk rfl qD rfl ?_)
   refine ze 2 rfl rfl (zj rfl fo136_0 rfl ?_)
   refine zd (ze 3 rfl rfl (zh rfl sc134 rfl qC ?_))
   refine zd (ze 4 rfl rfl (zp rfl zu rfl qN ?_))
   refine zd (xg (is := [5, 9]) qk jD (yE rfl ?_ <| yE rfl ?_ <| xh) )
   ·skip
    first | refine xw (kenc := aK) (venc := ivV) (l := pl) (k := x) (v := v) rfl yJ (yp yf zY sc5) zv54 rfl rfl qM hlk ?_ | refine xx (kenc := aK) (venc := ivV) (l := pl) (k := x) rfl yJ (yp yf zY sc5) zv54 rfl rfl qM hlk ?_
    refine zw rfl qD ?_
    refine ze 6 rfl rfl (z5 rfl rfl (zd (ze 7 rfl rfl (zG rfl rfl rfl (zd (ze 8 rfl rfl (zG rfl rfl rfl (zd (zy 9 rfl (zL rfl ze54 (fun b4 => ?_)))))))))))
    refine zw rfl qD ?_
    refine zy 10 rfl (zE y9 rfl rfl qL qO qU qW ?_)
    refine zw rfl qD ?_
    refine ze 11 rfl rfl (z9 rfl rfl (zd (y6 qk ?_)))
    exact z4 (zK ⟨_, (by unfold lakI; rw [hlk]; rfl), rfl, rfl, rfl⟩ (.c 5 rfl <| za _) (za _) qD qD qF)
   ·skip
    refine zL rfl ze54 (fun b4 => ?_)
    refine zw rfl qD ?_
    refine zy 5 rfl ?_
    first | refine xw (kenc := aK) (venc := ivV) (l := pl) (k := x) (v := v) rfl yJ (yp yf zY sc5) zv54 rfl rfl qM hlk ?_ | refine xx (kenc := aK) (venc := ivV) (l := pl) (k := x) rfl yJ (yp yf zY sc5) zv54 rfl rfl qM hlk ?_
    refine zw rfl qD ?_
    refine ze 6 rfl rfl (z5 rfl rfl (zd (ze 7 rfl rfl (zG rfl rfl rfl (zd (ze 8 rfl rfl (zG rfl rfl rfl (zd (zy 10 rfl (zE y9 rfl rfl qL qO qU qW ?_))))))))))
    refine zw rfl qD ?_
    refine ze 11 rfl rfl (z9 rfl rfl (zd (y6 qk ?_)))
    exact z4 (zK ⟨_, (by unfold lakI; rw [hlk]; rfl), rfl, rfl, rfl⟩ (.c 5 rfl <| za _) (za _) qD qD qF)
 rintro _ _ _ ⟨w, hw, rfl, rfl, rfl⟩
 refine zF qA qA qA ?_
 exact z4 (z6 (z8 (z5 rfl rfl (yX rfl rfl (z9 rfl rfl (z7 (z4 (zi (zz rfl rfl ⟨congrArg Value.bool (by rw [hw, Bool.not_not]), rfl, rfl⟩ qD qF)))))))))
theorem lacks_spec {br bp bh ba : Nat} {pl : IvM} {a : Option Addr} {n c : Nat} {p : Pt} {l : List ID32} (hn : n ≤ 1000000) : Spec Tryz.prog 103 [.pointer (some ⟨br, 0, none⟩), .agg (inC p a n c).toArray] [cl br 136 (rgC bp bh ba), rsl 32 a n c (l.map iC)] [mp bp aK ivV pl] (fun v D' M' => v = .bool (anyI (lakI pl) l) ∧ D' = [] ∧ M' = [mp bp aK ivV pl]) := by
 refine zC (n := 9) Tryz.func103 ?_
 intro σ D M
 have hin := inC_len p a n c
 have hp32 := p.1.2
 refine z6 (z8 (yq rfl rfl rfl (fun b2 => ?_)))
 refine yq rfl rfl rfl (fun b3 => ?_)
 refine z9 rfl rfl (z7 (y1 (A := cl b2 65 [.pointer (some ⟨br, 0, none⟩)]) qP ?_))
 refine y1 (A := cl b3 54 (inC p a n c)) qP ?_
 refine z4 (z6 (z8 (zj rfl fo54_1 rfl ?_)))
 refine zh rfl sc30 rfl qC ?_
 refine L.makeFunc rfl (ev1 rfl) ?_
 refine zW rfl (ev2 rfl rfl) qD qS (coni_spec (g := 139) (caps := [.pointer (some ⟨b2, 0, none⟩)]) (A := mp bp aK ivV pl) (d1 := cl b2 65 [.pointer (some ⟨br, 0, none⟩)]) (d2 := cl br 136 (rgC bp bh ba)) (p := lakI pl) (xs := l) (fun x _ => lacks1_spec) jO) jF ?_
 exact z9 rfl rfl (z7 (z4 (zi (zz rfl rfl ⟨rfl, rfl, rfl⟩ qD qF))))
theorem rgadd_spec {br bp bh ba : Nat} {pl : IvM} {s : List UInt8} (hs : s.length ≤ 1000000) : Spec Tryz.prog 69 [.pointer (some ⟨br, 0, none⟩), S s] [cl br 136 (rgC bp bh ba), ifs pl] [mp bp aK ivV pl] (fun v D' M' => ∃ (e : Int) (pl2 : IvM), v = .int .i64 e ∧ (AddP pl s e pl2) ∧ D' = [ifs pl2] ∧ M' = [mp bp aK ivV pl2]) := by
 refine zC (n := 25) Tryz.func69 ?_
 intro σ D M
 refine z6 (z8 (z9 rfl rfl (z7 (z4 (z6 (z8 (z5 rfl rfl (zx rfl (ev1 rfl) qD qS (iparse_spec (s := s) jO) ?_))))))))
 rintro _ _ _ ⟨qa, qn, qc, rfl, hqn, rfl, rfl⟩
 refine zt qA qA ?_
 have hql := parI_len s
 have hqs := parI_sz s
 obtain ⟨W, hW⟩ : ∃ z, z = parI s := ⟨_, rfl⟩
 rw [← hW] at hqn hql hqs ⊢
 have hin := inC_len W.1 qa qn qc
 have hr32 := W.1.1.2
 refine z5 rfl rfl (zG rfl rfl rfl (zG rfl rfl rfl (zL rfl ze54 (fun b5 => ?_))))
 refine zE y9 rfl rfl qL qO qU qW ?_
 refine z9 rfl rfl (z7 (y1 (A := cl b5 54 (inC W.1 qa qn qc)) qP ?_))
 refine z4 (z6 (z6 (z8 (z5 rfl rfl (yx rfl rfl rfl (z7 (z4 (zo rfl (fun h13 => ?_) (fun h13 => ?_)))))))))
 ·try simp only [dq] at h13
  have hP : AddP pl s W.2.2 pl := by rw [hW]; exact .bad (by rw [← hW]; exact h13)
  exact z6 (z8 (z5 rfl rfl (z9 rfl rfl (z7 (z4 (zi (zD (zz rfl rfl ⟨_, _, rfl, hP, rfl, rfl⟩ qD qF))))))))
 ·try simp only [dq] at h13
  refine zm (z4 (z6 (z6 (z8 (z5 rfl rfl (zp rfl y9 rfl qN ?_))))))
  refine zW rfl (ev2 rfl rfl) qD qS (lacks_spec (l := W.2.1) (p := W.1) jO) jF ?_
  refine z7 (z4 (zo rfl (fun h17 => ?_) (fun h17 => ?_)))
  ·try simp only [dq] at h17
   have hP : AddP pl s 9 pl := .lack (by rw [← hW]; exact Decidable.not_not.1 h13) (by rw [← hW]; exact h17)
   exact z6 (z8 (z9 rfl rfl (z7 (z4 (zi (zD (zz rfl rfl ⟨_, _, rfl, hP, rfl, rfl⟩ qD qF)))))))
  ·try simp only [dq] at h17
   have hP : AddP pl s 0 (put pl (inN W.1 W.2.1) ((W.1, W.2.1), (qa, qn, qc))) := by rw [hW]; exact .add (by rw [← hW]; exact Decidable.not_not.1 h13) (by rw [← hW]; exact h17) _ (by rw [← hW]; exact hqn)
   refine zm (z4 (z6 (yt (clsL [1, 1, 1, 1, 1, 2, 1, 2]) qk ?_)))
   refine ze 0 rfl rfl (z5 rfl rfl (zd (xB (i := 1) rfl rfl qk qk qk rfl qD rfl ?_)))
   refine ze 2 rfl rfl (zj rfl fo136_0 rfl ?_)
   refine zd (ze 3 rfl rfl (zh rfl sc134 rfl qC ?_))
   refine zd (ze 4 rfl rfl (zp rfl y9 rfl qN ?_))
   refine zd (ze 6 rfl rfl (zp rfl y9 rfl qN ?_))
   refine zd (zy 5 rfl (zW rfl (ev1 rfl) qD qS (iname_spec (l := W.2.1) (p := W.1) jO jO) jF ?_))
   have hnn := (inN W.1 W.2.1).2
   have hnn3 := zT (inN W.1 W.2.1)
   refine zw rfl qD ?_
   refine zy 7 rfl (L.mapUpdate (kenc := aK) (venc := ivV) (l := pl) (k := inN W.1 W.2.1) (v := ((W.1, W.2.1), (qa, qn, qc))) yJ (yp yf zY sc5) rfl rfl rfl rfl qP ?_)
   refine zw rfl qD ?_
   refine y6 qk ?_
   refine z4 (z6 (z8 (z9 rfl rfl (z7 (z4 (zi (T.fcsAdd (φ := rsl 32 qa qn qc (W.2.1.map iC)) (L := pl.map iF) qM qM ?_)))))))
   refine T.fcsSub (L := rsl 32 qa qn qc (W.2.1.map iC) :: pl.map iF) (L' := (put pl (inN W.1 W.2.1) ((W.1, W.2.1), (qa, qn, qc))).map iF) (fun χ hχ => ifs_put χ hχ) qM ?_
   exact zz rfl rfl ⟨_, _, rfl, hP, rfl, rfl⟩ qD qF
theorem needed_spec {br bp bh ba : Nat} {pl : IvM} {hl : SnM} {x : ID32} (hok : PlOk pl) : Spec Tryz.prog 71 [.pointer (some ⟨br, 0, none⟩), .agg (iC x).toArray] [cl br 136 (rgC bp bh ba), ifs pl] [mp bp aK ivV pl, mp bh aK iK hl] (fun v D' M' => ∃ (w : Bool), v = .bool w ∧ ((w = true ↔ refBy pl x ∨ look hl x ≠ none)) ∧ D' = [] ∧ M' = [mp bp aK ivV pl, mp bh aK iK hl]) := by
 refine zC (n := 31) Tryz.func71 ?_
 intro σ D M
 refine T.mpNodup (kenc := aK) (venc := ivV) qM (fun hnd => ?_)
 have hx2 := x.2
 have hx3 := zT x
 refine z6 (z8 (yq rfl rfl rfl (fun b3 => ?_)))
 refine z9 rfl rfl (z7 (y1 (A := cl b3 38 (iC x)) qP ?_))
 refine z4 (z6 (z6 (z8 (z5 rfl rfl (yi rfl rfl ?_)))))
 refine zj rfl fo136_0 rfl ?_
 refine zh rfl sc134 rfl qC ?_
 refine L.range rfl yJ rfl qP (fun it => ?_)
 refine z7 (z4 (zr (zX (fun K' D' M' μ => ∃ (rest : List ID32) (cur : Option ID32), (NdI pl x rest) ∧ K' = [] ∧ D' = [] ∧ M' = [mpi bp it aK ivV pl rest cur, mp bh aK iK hl] ∧ μ = rest.length) (.c 0 rfl <| .c 3 rfl <| .c 13 rfl <| za _) (⟨_, _, .start, rfl, rfl, rfl, rfl⟩) (za _) qD qS ?_)))
 rintro K1 D1 M1 m1 ⟨rest, cur, hI, rfl, rfl, rfl, rfl⟩
 refine zF qA qA qA ?_
 refine z6 (z8 (L.next rfl rfl qP (fun hre => ?_) (fun k v rs hpe hkv => ?_)))
 ·skip
  skip
  refine zG rfl rfl rfl (z7 (z4 (z6 (ym rfl rfl ?_))))
  refine zR (zq (zq (zS (z4 (z6 ?_)))))
  subst hre
  refine T.mpiMp qP ?_
  refine yC qk qk (z5 rfl rfl (yi rfl rfl ?_))
  refine zj rfl fo136_1 rfl ?_
  refine zh rfl sc64 rfl qC ?_
  refine zp rfl zu rfl qN ?_
  refine L.lookup2 (kenc := aK) (venc := iK) (l := hl) (k := x) rfl xm (yp yf zY sc5) zv3 rfl rfl qM ?_
  refine zv (t := 27) (u := .tuple #[.int .i64 (val0 hl x), .bool (look hl x).isSome]) rfl (by unfold val0; cases look hl x <;> rfl) ?_
  exact z5 rfl rfl (zG rfl rfl rfl (zG rfl rfl rfl (z9 rfl rfl (z9 rfl rfl (yA (z4 (z6 (z8 (z5 rfl rfl (z9 rfl rfl (z7 (z4 (zi (zz rfl rfl ⟨_, rfl, ⟨fun q => .inr (by rw [← Option.isSome_iff_ne_none]; exact q), fun q => q.elim (fun r => absurd r hI.fin) (fun r => Option.isSome_iff_ne_none.2 r)⟩, rfl, rfl⟩ qD qF))))))))))))))
 ·skip
  skip
  refine zG rfl rfl rfl (z7 (z4 (z6 (xk rfl rfl ?_))))
  refine zm (z4 (zr (z6 ?_)))
  have hvo := hok (k, v) hkv
  have hv3 := inC_len v.1.1 v.2.1 v.2.2.1 v.2.2.2
  have hv32 := v.1.1.1.2
  refine T.fcsIn (L := pl.map iF) qM (iF_in hkv) ?_
  refine z8 (L.entry (ent_inj aK_inj hnd hkv) rfl rfl qM hkv ?_)
  refine zG rfl rfl rfl (zL rfl ze54 (fun b6 => ?_))
  refine zE y9 rfl rfl qL qO qU qW ?_
  refine z7 (y1 (A := cl b6 54 (ivC v)) qP ?_)
  refine z4 (z6 (z8 (zp rfl y9 rfl qN ?_)))
  refine zp rfl zu rfl qN ?_
  refine zW rfl (ev2 rfl rfl) qD qS (refers_spec (l := v.1.2) (p := v.1.1) (z := x) hvo.1 hvo.2) jF ?_
  refine z7 (z4 (zo rfl (fun h20 => ?_) (fun h20 => ?_)))
  ·try simp only [dq] at h20
   refine z6 (z8 (z9 rfl rfl (z7 (z4 (zi (y3 (zD (y3 (zD (T.mpiMp qP ?_))))))))))
   exact zz rfl rfl ⟨true, rfl, ⟨fun _ => .inl ⟨(k, v), hkv, h20⟩, fun _ => rfl⟩, rfl, rfl⟩ qD qF
  ·try simp only [dq] at h20
   exact zm (zI (z4 (zM ⟨rs, some k, hI.next hnd hpe hkv h20, rfl, rfl, rfl, rfl⟩ (by have := hpe.length_eq; simp at this; omega) (za _) (.c 0 rfl <| .c 3 rfl <| .c 13 rfl <| za _) qD qD qF)))
end Cv
set_option maxRecDepth 10000
namespace Cv
open Go Go.Proofs
theorem fo136_2 : Fo Tryz.prog 136 2 2 := fun a w => by kernel_rfl
theorem keysitP_spec {ml : List (ID32 × IV)} {m c l : Nat} {ψ : Asn} {J : List ID32 → Asn} (hY : ∀ pre x, (pre.length < ml.length) → YSpec Tryz.prog l [.agg (x.1.map Y).toArray] [ψ] [J pre] (fun v D' M' => v = .bool true ∧ D' = [] ∧ M' = [J (pre ++ [x])])) : Spec Tryz.prog 140 [fnY l, .pointer (some ⟨c, 0, none⟩)] [cl c 134 [.map (some m)], ψ] [mp m aK ivV ml, J []] (fun v D' M' => ∃ (xs : List ID32), v = .tuple #[] ∧ (xs.Perm (ml.map Prod.fst)) ∧ D' = [] ∧ M' = [mp m aK ivV ml, J xs]) := by
 refine zC (n := 14) Tryz.func140 ?_
 intro σ D M
 refine T.mpNodup (kenc := aK) (venc := ivV) qM (fun hnd => ?_)
 refine z6 (z8 (zh rfl sc134 rfl qC ?_))
 refine L.range (kenc := aK) (venc := ivV) rfl yJ rfl qP (fun it => ?_)
 refine z7 (z4 (zr (zX (fun K' D' M' μ => ∃ (pre rest : List ID32) (cur : Option ID32), ((pre ++ rest).Perm (ml.map Prod.fst)) ∧ K' = [] ∧ D' = [] ∧ M' = [mpi m it aK ivV ml rest cur, J pre] ∧ μ = rest.length) (.c 0 rfl <| .c 5 rfl <| za _) (⟨[], ml.map Prod.fst, none, (by simp), rfl, rfl, rfl, rfl⟩) (za _) qD qS ?_)))
 rintro K1 D1 M1 m1 ⟨pre, rest, cur, hP, rfl, rfl, rfl, rfl⟩
 refine zF qA qA qA ?_
 refine z6 (z8 (L.next rfl rfl qP (fun hre => ?_) (fun k v rs hpe hkv => ?_)))
 ·skip
  skip
  refine zG rfl rfl rfl (z7 (z4 (z6 (ym rfl rfl ?_))))
  refine zR (zq (zq (zS ?_)))
  subst hre
  refine T.mpiMp qP ?_
  exact yW (by simp) rfl ⟨pre, rfl, by simpa using hP, rfl, rfl⟩ qD qF
 ·skip
  skip
  refine zG rfl rfl rfl (z7 (z4 (z6 (xk rfl rfl ?_))))
  refine zm (z4 (zr (z6 (z8 (L.entry (ent_inj aK_inj hnd hkv) rfl rfl qM hkv ?_)))))
  refine zG rfl rfl rfl (zL rfl ze38 (fun b3 => ?_))
  refine zE zu rfl rfl qL qO qU qW ?_
  refine z7 ?_
  have hlt : pre.length < ml.length := by have h2 := hpe.length_eq; have h3 := hP.length_eq; simp at h2 h3; omega
  have hk32 := k.2
  refine z4 (z6 (z8 (z5 rfl rfl (zp rfl zu rfl qN ?_))))
  refine L.callY (M0 := [J pre]) rfl rfl rfl (evs.cons rfl xu) qD qS (hY pre k hlt) ?_
  rintro _ _ _ ⟨rfl, rfl, rfl⟩
  refine zt qA qA ?_
  refine yX rfl rfl (z7 (z4 (ym rfl rfl ?_)))
  exact zm (zI (z4 (zM ⟨pre ++ [k], rs, some k, (by rw [List.append_assoc]; exact (List.Perm.append_left pre hpe.symm).trans hP), rfl, rfl, rfl, rfl⟩ (by have := hpe.length_eq; simp at this; omega) (za _) (.c 0 rfl <| .c 5 rfl <| za _) qD qD qF)))
theorem keys_iterP {ml : List (ID32 × IV)} {m c : Nat} : Iter Tryz.prog 140 [.pointer (some ⟨c, 0, none⟩)] (fun x : ID32 => [.agg (x.1.map Y).toArray]) (fun pre x => pre.length < ml.length) (cl c 134 [.map (some m)]) (mp m aK ivV ml) (mp m aK ivV ml) (fun xs => xs.Perm (ml.map Prod.fst)) :=
 ⟨fun l ψ J hY => (keysitP_spec hY).imp (fun v D' M' ⟨xs, _, h2, h3, h4⟩ => ⟨xs, h2, h3, h4⟩)⟩
theorem keysfP_spec {m : Nat}  : Spec Tryz.prog 106 [.map (some m)] [] [] (fun v D' M' => ∃ (c : Nat), v = fnV 140 [.pointer (some ⟨c, 0, none⟩)] ∧ D' = [cl c 134 [.map (some m)]] ∧ M' = []) := by
 refine zC (n := 4) Tryz.func106 ?_
 intro σ D M
 refine z6 (z8 (yq rfl rfl rfl (fun b1 => ?_)))
 refine z9 rfl rfl (z7 (y1 (A := cl b1 134 [.map (some m)]) qP ?_))
 refine z4 (z6 (z8 (L.makeFunc rfl (ev1 rfl) ?_)))
 exact z9 rfl rfl (z7 (z4 (zi (zz rfl rfl ⟨_, rfl, rfl, rfl⟩ qD qF))))
theorem srtint_spec {m : Nat} {ml : List (ID32 × Int)} (hm : ml.length ≤ 60000) : Spec Tryz.prog 73 [.map (some m)] [] [mp m aK iK ml] (fun v D' M' => ∃ (a' : Option Addr) (n' c' : Nat) (us : List ID32), v = .slice a' n' c' ∧ (KeysF (ml.map Prod.fst) us) ∧ (us.length = n') ∧ D' = [] ∧ M' = [mp m aK iK ml, own 32 38 a' n' c' ((us).map iC)]) := by
 refine zC (n := 6) Tryz.func73 ?_
 intro σ D M
 refine T.mpNodup (kenc := aK) (venc := iK) qM (fun hnd => ?_)
 refine z6 (z8 (z9 rfl rfl (z7 (z4 (z6 (z8 (z5 rfl rfl (zx rfl (ev1 rfl) qD qS (keysfR_spec) ?_))))))))
 rintro _ _ _ ⟨kc, rfl, rfl, rfl⟩
 refine zt qA qA ?_
 refine zx rfl (ev2 rfl rfl) qD qS (sortedGR_spec (keys_iterR (ml := ml) (m := m) (c := kc)) (fun pre x h => by omega) (fun xs h => by have := h.length_eq; rw [List.length_map] at this; omega)) ?_
 rintro _ _ _ ⟨ga, gn, gc, xs, us, rfl, hxs, hup, hus, hun, rfl, rfl⟩
 refine zt qA qA ?_
 exact z9 rfl rfl (z7 (z4 (zi (zz rfl rfl ⟨_, _, _, us, rfl, keys_of hnd hxs hup hus, hun, rfl, rfl⟩ qD qF))))
theorem srtinf_spec {m : Nat} {ml : List (ID32 × IV)} (hm : ml.length ≤ 60000) : Spec Tryz.prog 77 [.map (some m)] [] [mp m aK ivV ml] (fun v D' M' => ∃ (a' : Option Addr) (n' c' : Nat) (us : List ID32), v = .slice a' n' c' ∧ (KeysF (ml.map Prod.fst) us) ∧ (us.length = n') ∧ D' = [] ∧ M' = [mp m aK ivV ml, own 32 38 a' n' c' ((us).map iC)]) := by
 refine zC (n := 6) Tryz.func77 ?_
 intro σ D M
 refine T.mpNodup (kenc := aK) (venc := ivV) qM (fun hnd => ?_)
 refine z6 (z8 (z9 rfl rfl (z7 (z4 (z6 (z8 (z5 rfl rfl (zx rfl (ev1 rfl) qD qS (keysfP_spec) ?_))))))))
 rintro _ _ _ ⟨kc, rfl, rfl, rfl⟩
 refine zt qA qA ?_
 refine zx rfl (ev2 rfl rfl) qD qS (sortedGR_spec (keys_iterP (ml := ml) (m := m) (c := kc)) (fun pre x h => by omega) (fun xs h => by have := h.length_eq; rw [List.length_map] at this; omega)) ?_
 rintro _ _ _ ⟨ga, gn, gc, xs, us, rfl, hxs, hup, hus, hun, rfl, rfl⟩
 refine zt qA qA ?_
 exact z9 rfl rfl (z7 (z4 (zi (zz rfl rfl ⟨_, _, _, us, rfl, keys_of hnd hxs hup hus, hun, rfl, rfl⟩ qD qF))))
theorem held_spec {br bp bh ba : Nat} {hl : SnM} (hm : hl.length ≤ 60000) : Spec Tryz.prog 37 [.pointer (some ⟨br, 0, none⟩)] [cl br 136 (rgC bp bh ba)] [mp bh aK iK hl] (fun v D' M' => ∃ (a' : Option Addr) (n' c' : Nat) (us : List ID32), v = .slice a' n' c' ∧ (KeysF (hl.map Prod.fst) us) ∧ (us.length = n') ∧ D' = [] ∧ M' = [mp bh aK iK hl, own 32 38 a' n' c' ((us).map iC)]) := by
 refine zC (n := 8) Tryz.func37 ?_
 intro σ D M
 refine z6 (z8 (z9 rfl rfl (z7 (z4 (z6 (z8 (z5 rfl rfl (yi rfl rfl ?_))))))))
 refine zj rfl fo136_1 rfl ?_
 refine zh rfl sc64 rfl qC ?_
 refine zx rfl (ev1 rfl) qD qS (srtint_spec hm) ?_
 rintro _ _ _ ⟨ga, gn, gc, us, rfl, hkf, hun, rfl, rfl⟩
 refine zt qA qA ?_
 exact z9 rfl rfl (z7 (z4 (zi (zz rfl rfl ⟨_, _, _, us, rfl, hkf, hun, rfl, rfl⟩ qD qF))))
theorem asked_spec {br bp bh ba : Nat} {al : SnM} (hm : al.length ≤ 60000) : Spec Tryz.prog 38 [.pointer (some ⟨br, 0, none⟩)] [cl br 136 (rgC bp bh ba)] [mp ba aK iK al] (fun v D' M' => ∃ (a' : Option Addr) (n' c' : Nat) (us : List ID32), v = .slice a' n' c' ∧ (KeysF (al.map Prod.fst) us) ∧ (us.length = n') ∧ D' = [] ∧ M' = [mp ba aK iK al, own 32 38 a' n' c' ((us).map iC)]) := by
 refine zC (n := 8) Tryz.func38 ?_
 intro σ D M
 refine z6 (z8 (z9 rfl rfl (z7 (z4 (z6 (z8 (z5 rfl rfl (yi rfl rfl ?_))))))))
 refine zj rfl fo136_2 rfl ?_
 refine zh rfl sc64 rfl qC ?_
 refine zx rfl (ev1 rfl) qD qS (srtint_spec hm) ?_
 rintro _ _ _ ⟨ga, gn, gc, us, rfl, hkf, hun, rfl, rfl⟩
 refine zt qA qA ?_
 exact z9 rfl rfl (z7 (z4 (zi (zz rfl rfl ⟨_, _, _, us, rfl, hkf, hun, rfl, rfl⟩ qD qF))))
theorem paths_spec {br bp bh ba : Nat} {pl : IvM} (hm : pl.length ≤ 60000) : Spec Tryz.prog 40 [.pointer (some ⟨br, 0, none⟩)] [cl br 136 (rgC bp bh ba)] [mp bp aK ivV pl] (fun v D' M' => ∃ (a' : Option Addr) (n' c' : Nat) (us : List ID32), v = .slice a' n' c' ∧ (KeysF (pl.map Prod.fst) us) ∧ (us.length = n') ∧ D' = [] ∧ M' = [mp bp aK ivV pl, own 32 38 a' n' c' ((us).map iC)]) := by
 refine zC (n := 8) Tryz.func40 ?_
 intro σ D M
 refine z6 (z8 (z9 rfl rfl (z7 (z4 (z6 (z8 (z5 rfl rfl (yi rfl rfl ?_))))))))
 refine zj rfl fo136_0 rfl ?_
 refine zh rfl sc134 rfl qC ?_
 refine zx rfl (ev1 rfl) qD qS (srtinf_spec hm) ?_
 rintro _ _ _ ⟨ga, gn, gc, us, rfl, hkf, hun, rfl, rfl⟩
 refine zt qA qA ?_
 exact z9 rfl rfl (z7 (z4 (zi (zz rfl rfl ⟨_, _, _, us, rfl, hkf, hun, rfl, rfl⟩ qD qF))))
end Cv
set_option maxRecDepth 10000
namespace Cv
open Go Go.Proofs
theorem fo69_0 : Fo Tryz.prog 69 0 0 := fun a w => by kernel_rfl
theorem fo69_1 : Fo Tryz.prog 69 1 1 := fun a w => by kernel_rfl
theorem do2_spec {br bp bh ba : Nat} {pl : IvM} {hl al : SnM} {q : Int} {s : List UInt8} (hs : s.length ≤ 1000000) : Spec Tryz.prog 33 [.pointer (some ⟨br, 0, none⟩), .agg #[.int .i64 2, S s, .int .i64 q]] [cl br 136 (rgC bp bh ba), ifs pl] [mp bp aK ivV pl] (fun v D' M' => ∃ (e : Int) (pl2 : IvM), v = .int .i64 e ∧ (AddP pl s e pl2) ∧ D' = [ifs pl2] ∧ M' = [mp bp aK ivV pl2]) := by
 refine zC (n := 109) Tryz.func33 ?_
 intro σ D M
 refine z6 (z8 (yq rfl rfl rfl (fun b3 => ?_)))
 refine z9 rfl rfl (z7 (y1 (A := cl b3 69 [.int .i64 2, S s, .int .i64 q]) qP ?_))
 refine z4 (z6 (z6 (z8 (zj rfl fo69_0 rfl ?_))))
 refine zh rfl sc3 rfl qC ?_
 refine yj rfl rfl rfl (z7 (z4 (xk rfl (decide_eq_true rfl) ?_)))
 refine z6 (z8 (z5 rfl rfl (zj rfl fo69_1 rfl ?_)))
 refine zh rfl sc9 rfl qC ?_
 refine zx rfl (ev2 rfl rfl) qD qS (rgadd_spec hs) ?_
 rintro _ _ _ ⟨e, pl2, rfl, hadd, rfl, rfl⟩
 refine zt qA qA ?_
 exact z9 rfl rfl (z7 (z4 (zi (zD (zz rfl rfl ⟨_, _, rfl, hadd, rfl, rfl⟩ qD qF)))))
theorem do4_spec {br bp bh ba : Nat} {pl : IvM} {hl al : SnM} {q : Int} {x : ID32}  : Spec Tryz.prog 33 [.pointer (some ⟨br, 0, none⟩), .agg #[.int .i64 4, S x.1, .int .i64 q]] [cl br 136 (rgC bp bh ba)] [mp bp aK ivV pl, mp bh aK iK hl] (fun v D' M' => v = .int .i64 (if look pl x = none then 7 else 0) ∧ D' = [] ∧ M' = [mp bp aK ivV pl, mp bh aK iK (if look pl x = none then hl else put hl x 1)]) := by
 refine zC (n := 109) Tryz.func33 ?_
 intro σ D M
 have hx2 := x.2
 have hx3 := zT x
 refine z6 (z8 (yq rfl rfl rfl (fun b3 => ?_)))
 refine z9 rfl rfl (z7 (y1 (A := cl b3 69 [.int .i64 4, S x.1, .int .i64 q]) qP ?_))
 refine z4 (z6 (z6 (z8 (zj rfl fo69_0 rfl ?_))))
 refine zh rfl sc3 rfl qC ?_
 refine yj rfl rfl rfl (z7 (z4 (ym rfl (decide_eq_false jD) ?_)))
 refine zm (z4 (z6 (z6 (z8 (zj rfl fo69_0 rfl ?_)))))
 refine zh rfl sc3 rfl qC ?_
 refine zQ rfl rfl rfl (z5 rfl rfl (zv (t := 19) rfl (show _ = Value.bool false from congrArg Value.bool (decide_eq_false jD)) ?_))
 refine zf (dj := 19) rfl rfl rfl (zj rfl fo69_0 rfl ?_)
 refine zf (dj := 19) rfl rfl rfl (zh rfl sc3 rfl qC ?_)
 refine zf (dj := 19) rfl rfl rfl (yB rfl rfl rfl (y5 rfl rfl rfl (z7 (z4 (ym rfl (decide_eq_false jD) ?_)))))
 refine zm (z4 (z6 (z8 (zj rfl fo69_1 rfl ?_))))
 refine zh rfl sc9 rfl qC ?_
 refine zW rfl (ev1 rfl) qD qS (otake_spec (x := x)) jF ?_
 refine z5 rfl rfl (zG rfl rfl rfl (zG rfl rfl rfl (zL rfl ze38 (fun b5 => ?_))))
 refine zE zu rfl rfl qL qO qU qW ?_
 refine z9 rfl rfl (z7 (y1 (A := cl b5 38 (iC x)) qP ?_))
 refine z4 (z6 (z6 (z8 (z5 rfl rfl (yx rfl rfl rfl (z7 (z4 (ym rfl (decide_eq_false (fun q => q rfl)) ?_))))))))
 refine zm (z4 (z6 (yu (fun K' D' M' => ∃ (w : Bool), (w = (look pl x).isSome) ∧ K' = [(8, .bool w)] ∧ D' = [] ∧ M' = [mp bp aK ivV pl]) (M0 := [mp bp aK ivV pl]) (.c 0 rfl <| .c 3 rfl <| .c 5 rfl <| za _) qS ?_ ?_)))
 ·skip
  rcases hlk : look pl x with _ | v
  ·skip
   refine yt (clsL [1, 1, 1, 1, 1, 2, 1, 1, 1, 2, 2, 1]) qk ?_
   refine ze 0 rfl rfl (z5 rfl rfl (zd (xB (i := 1) rfl rfl qk qk qk rfl qD rfl ?_)))
   refine ze 2 rfl rfl (zj rfl fo136_0 rfl ?_)
   refine zd (ze 3 rfl rfl (zh rfl sc134 rfl qC ?_))
   refine zd (ze 4 rfl rfl (zp rfl zu rfl qN ?_))
   refine zd (xg (is := [5, 9]) qk jD (yE rfl ?_ <| yE rfl ?_ <| xh) )
   ·skip
    first | refine xw (kenc := aK) (venc := ivV) (l := pl) (k := x) (v := v) rfl yJ (yp yf zY sc5) zv54 rfl rfl qM hlk ?_ | refine xx (kenc := aK) (venc := ivV) (l := pl) (k := x) rfl yJ (yp yf zY sc5) zv54 rfl rfl qM hlk ?_
    refine zw rfl qD ?_
    refine ze 6 rfl rfl (z5 rfl rfl (zd (ze 7 rfl rfl (zG rfl rfl rfl (zd (ze 8 rfl rfl (zG rfl rfl rfl (zd (zy 9 rfl (zL rfl ze54 (fun b7 => ?_)))))))))))
    refine zw rfl qD ?_
    refine zy 10 rfl (zE y9 rfl rfl qL qO qU qW ?_)
    refine zw rfl qD ?_
    refine ze 11 rfl rfl (z9 rfl rfl (zd (y6 qk ?_)))
    exact z4 (zK ⟨_, (by first | rfl | (rw [hlk]; rfl)), rfl, rfl, rfl⟩ (.c 8 rfl <| za _) (.c 0 rfl <| .c 3 rfl <| .c 5 rfl <| za _) qD qD qF)
   ·skip
    refine zL rfl ze54 (fun b7 => ?_)
    refine zw rfl qD ?_
    refine zy 5 rfl ?_
    first | refine xw (kenc := aK) (venc := ivV) (l := pl) (k := x) (v := v) rfl yJ (yp yf zY sc5) zv54 rfl rfl qM hlk ?_ | refine xx (kenc := aK) (venc := ivV) (l := pl) (k := x) rfl yJ (yp yf zY sc5) zv54 rfl rfl qM hlk ?_
    refine zw rfl qD ?_
    refine ze 6 rfl rfl (z5 rfl rfl (zd (ze 7 rfl rfl (zG rfl rfl rfl (zd (ze 8 rfl rfl (zG rfl rfl rfl (zd (zy 10 rfl (zE y9 rfl rfl qL qO qU qW ?_))))))))))
    refine zw rfl qD ?_
    refine ze 11 rfl rfl (z9 rfl rfl (zd (y6 qk ?_)))
    exact z4 (zK ⟨_, (by first | rfl | (rw [hlk]; rfl)), rfl, rfl, rfl⟩ (.c 8 rfl <| za _) (.c 0 rfl <| .c 3 rfl <| .c 5 rfl <| za _) qD qD qF)
  ·skip
   have hv3 := inC_len v.1.1 v.2.1 v.2.2.1 v.2.2.2
   have hv32 := v.1.1.1.2
   refine yt (clsL [1, 1, 1, 1, 1, 2, 1, 1, 1, 2, 2, 1]) qk ?_
   refine ze 0 rfl rfl (z5 rfl rfl (zd (xB (i := 1) rfl rfl qk qk qk rfl qD rfl ?_)))
   refine ze 2 rfl rfl (zj rfl fo136_0 rfl ?_)
   refine zd (ze 3 rfl rfl (zh rfl sc134 rfl qC ?_))
   refine zd (ze 4 rfl rfl (zp rfl zu rfl qN ?_))
   refine zd (xg (is := [5, 9]) qk jD (yE rfl ?_ <| yE rfl ?_ <| xh) )
   ·skip
    first | refine xw (kenc := aK) (venc := ivV) (l := pl) (k := x) (v := v) rfl yJ (yp yf zY sc5) zv54 rfl rfl qM hlk ?_ | refine xx (kenc := aK) (venc := ivV) (l := pl) (k := x) rfl yJ (yp yf zY sc5) zv54 rfl rfl qM hlk ?_
    refine zw rfl qD ?_
    refine ze 6 rfl rfl (z5 rfl rfl (zd (ze 7 rfl rfl (zG rfl rfl rfl (zd (ze 8 rfl rfl (zG rfl rfl rfl (zd (zy 9 rfl (zL rfl ze54 (fun b7 => ?_)))))))))))
    refine zw rfl qD ?_
    refine zy 10 rfl (zE y9 rfl rfl qL qO qU qW ?_)
    refine zw rfl qD ?_
    refine ze 11 rfl rfl (z9 rfl rfl (zd (y6 qk ?_)))
    exact z4 (zK ⟨_, (by first | rfl | (rw [hlk]; rfl)), rfl, rfl, rfl⟩ (.c 8 rfl <| za _) (.c 0 rfl <| .c 3 rfl <| .c 5 rfl <| za _) qD qD qF)
   ·skip
    refine zL rfl ze54 (fun b7 => ?_)
    refine zw rfl qD ?_
    refine zy 5 rfl ?_
    first | refine xw (kenc := aK) (venc := ivV) (l := pl) (k := x) (v := v) rfl yJ (yp yf zY sc5) zv54 rfl rfl qM hlk ?_ | refine xx (kenc := aK) (venc := ivV) (l := pl) (k := x) rfl yJ (yp yf zY sc5) zv54 rfl rfl qM hlk ?_
    refine zw rfl qD ?_
    refine ze 6 rfl rfl (z5 rfl rfl (zd (ze 7 rfl rfl (zG rfl rfl rfl (zd (ze 8 rfl rfl (zG rfl rfl rfl (zd (zy 10 rfl (zE y9 rfl rfl qL qO qU qW ?_))))))))))
    refine zw rfl qD ?_
    refine ze 11 rfl rfl (z9 rfl rfl (zd (y6 qk ?_)))
    exact z4 (zK ⟨_, (by first | rfl | (rw [hlk]; rfl)), rfl, rfl, rfl⟩ (.c 8 rfl <| za _) (.c 0 rfl <| .c 3 rfl <| .c 5 rfl <| za _) qD qD qF)
 rintro _ _ _ ⟨w, hwl, rfl, rfl, rfl⟩
 refine zF qA qA qA ?_
 refine z4 (z6 (zr (z6 (z8 (zj rfl fo69_0 rfl ?_)))))
 refine zh rfl sc3 rfl qC ?_
 refine yj rfl rfl rfl (z5 rfl rfl (zv (t := 52) rfl (show _ = Value.bool false from congrArg Value.bool (decide_eq_false jD)) ?_))
 refine zg (dj := 52) (c := false) rfl rfl rfl rfl rfl jD (zg (dj := 52) (c := false) rfl rfl rfl rfl rfl jD (zg (dj := 52) (c := false) rfl rfl rfl rfl rfl jD (y5 rfl rfl rfl (z9 rfl rfl (z7 (z4 (ym rfl rfl ?_)))))))
 refine z6 (z6 (z8 (zj rfl fo69_0 rfl ?_)))
 refine zh rfl sc3 rfl qC ?_
 refine yj rfl rfl rfl (z5 rfl rfl (zv (t := 61) rfl (show _ = Value.bool false from congrArg Value.bool (decide_eq_false jD)) ?_))
 refine zg (dj := 61) (c := false) rfl rfl rfl rfl rfl jD (zg (dj := 61) (c := false) rfl rfl rfl rfl rfl jD (y5 rfl rfl rfl (z9 rfl rfl (z7 (z4 (ym rfl rfl ?_))))))
 refine z8 (zj rfl fo69_0 rfl ?_)
 refine zh rfl sc3 rfl qC ?_
 refine yj rfl rfl rfl (z5 rfl rfl (zv (t := 68) rfl (show _ = Value.bool true from congrArg Value.bool (decide_eq_true rfl)) ?_))
 refine zf (dj := 68) rfl rfl rfl (z5 rfl rfl (zf (dj := 68) rfl rfl rfl (yX rfl rfl (ye rfl rfl rfl (z9 rfl rfl (z7 (z4 (zo rfl (fun h57 => ?_) (fun h57 => ?_)))))))))
 ·try simp only [dq] at h57
  have hno : look pl x = none := by cases e : look pl x with
   | none => rfl
   | some v => rw [e] at hwl; subst hwl; cases h57
  refine z6 (z8 (z9 rfl rfl (z7 (z4 (zi (y3 (zD ?_)))))))
  rw [if_pos hno, if_pos hno]
  exact zz rfl rfl ⟨rfl, rfl, rfl⟩ qD qF
 ·try simp only [dq] at h57
  have hno : look pl x ≠ none := fun e => by rw [e] at hwl; subst hwl; cases h57
  refine z6 (z8 (zj rfl fo69_0 rfl ?_))
  refine zh rfl sc3 rfl qC ?_
  refine yj rfl rfl rfl (z9 rfl rfl (z7 (z4 (ym rfl (decide_eq_false jD) ?_))))
  refine z6 (z8 (zj rfl fo69_0 rfl ?_))
  refine zh rfl sc3 rfl qC ?_
  refine yj rfl rfl rfl (z9 rfl rfl (z7 (z4 (xk rfl (decide_eq_true rfl) ?_))))
  refine yt (clsL [1, 1, 1, 1, 1, 2]) qk ?_
  refine ze 0 rfl rfl (z5 rfl rfl (zd (xB (i := 1) rfl rfl qk qk qk rfl qD rfl ?_)))
  refine ze 2 rfl rfl (zj rfl fo136_1 rfl ?_)
  refine zd (ze 3 rfl rfl (zh rfl sc64 rfl qC ?_))
  refine zd (ze 4 rfl rfl (zp rfl zu rfl qN ?_))
  refine zd (zy 5 rfl (L.mapUpdate (kenc := aK) (venc := iK) (l := hl) (k := x) (v := 1) xm (yp yf zY sc5) rfl rfl rfl rfl qP ?_))
  refine zw rfl qD ?_
  refine y6 qk ?_
  refine zI (z4 (z6 (z8 (z9 rfl rfl (z7 (z4 (zi ?_)))))))
  rw [if_neg hno, if_neg hno]
  exact zz rfl rfl ⟨rfl, rfl, rfl⟩ qD qF
theorem do6_spec {br bp bh ba : Nat} {pl : IvM} {hl al : SnM} {q : Int} {x : ID32}  : Spec Tryz.prog 33 [.pointer (some ⟨br, 0, none⟩), .agg #[.int .i64 6, S x.1, .int .i64 q]] [cl br 136 (rgC bp bh ba)] [mp bp aK ivV pl, mp ba aK iK al] (fun v D' M' => v = .int .i64 0 ∧ D' = [] ∧ M' = [mp bp aK ivV pl, mp ba aK iK (put al x 1)]) := by
 refine zC (n := 109) Tryz.func33 ?_
 intro σ D M
 have hx2 := x.2
 have hx3 := zT x
 refine z6 (z8 (yq rfl rfl rfl (fun b3 => ?_)))
 refine z9 rfl rfl (z7 (y1 (A := cl b3 69 [.int .i64 6, S x.1, .int .i64 q]) qP ?_))
 refine z4 (z6 (z6 (z8 (zj rfl fo69_0 rfl ?_))))
 refine zh rfl sc3 rfl qC ?_
 refine yj rfl rfl rfl (z7 (z4 (ym rfl (decide_eq_false jD) ?_)))
 refine zm (z4 (z6 (z6 (z8 (zj rfl fo69_0 rfl ?_)))))
 refine zh rfl sc3 rfl qC ?_
 refine zQ rfl rfl rfl (z5 rfl rfl (zv (t := 19) rfl (show _ = Value.bool false from congrArg Value.bool (decide_eq_false jD)) ?_))
 refine zf (dj := 19) rfl rfl rfl (zj rfl fo69_0 rfl ?_)
 refine zf (dj := 19) rfl rfl rfl (zh rfl sc3 rfl qC ?_)
 refine zf (dj := 19) rfl rfl rfl (yB rfl rfl rfl (y5 rfl rfl rfl (z7 (z4 (ym rfl (decide_eq_false jD) ?_)))))
 refine zm (z4 (z6 (z8 (zj rfl fo69_1 rfl ?_))))
 refine zh rfl sc9 rfl qC ?_
 refine zW rfl (ev1 rfl) qD qS (otake_spec (x := x)) jF ?_
 refine z5 rfl rfl (zG rfl rfl rfl (zG rfl rfl rfl (zL rfl ze38 (fun b5 => ?_))))
 refine zE zu rfl rfl qL qO qU qW ?_
 refine z9 rfl rfl (z7 (y1 (A := cl b5 38 (iC x)) qP ?_))
 refine z4 (z6 (z6 (z8 (z5 rfl rfl (yx rfl rfl rfl (z7 (z4 (ym rfl (decide_eq_false (fun q => q rfl)) ?_))))))))
 refine zm (z4 (z6 (yu (fun K' D' M' => ∃ (w : Bool), (w = (look pl x).isSome) ∧ K' = [(8, .bool w)] ∧ D' = [] ∧ M' = [mp bp aK ivV pl]) (M0 := [mp bp aK ivV pl]) (.c 0 rfl <| .c 3 rfl <| .c 5 rfl <| za _) qS ?_ ?_)))
 ·skip
  rcases hlk : look pl x with _ | v
  ·skip
   refine yt (clsL [1, 1, 1, 1, 1, 2, 1, 1, 1, 2, 2, 1]) qk ?_
   refine ze 0 rfl rfl (z5 rfl rfl (zd (xB (i := 1) rfl rfl qk qk qk rfl qD rfl ?_)))
   refine ze 2 rfl rfl (zj rfl fo136_0 rfl ?_)
   refine zd (ze 3 rfl rfl (zh rfl sc134 rfl qC ?_))
   refine zd (ze 4 rfl rfl (zp rfl zu rfl qN ?_))
   refine zd (xg (is := [5, 9]) qk jD (yE rfl ?_ <| yE rfl ?_ <| xh) )
   ·skip
    first | refine xw (kenc := aK) (venc := ivV) (l := pl) (k := x) (v := v) rfl yJ (yp yf zY sc5) zv54 rfl rfl qM hlk ?_ | refine xx (kenc := aK) (venc := ivV) (l := pl) (k := x) rfl yJ (yp yf zY sc5) zv54 rfl rfl qM hlk ?_
    refine zw rfl qD ?_
    refine ze 6 rfl rfl (z5 rfl rfl (zd (ze 7 rfl rfl (zG rfl rfl rfl (zd (ze 8 rfl rfl (zG rfl rfl rfl (zd (zy 9 rfl (zL rfl ze54 (fun b7 => ?_)))))))))))
    refine zw rfl qD ?_
    refine zy 10 rfl (zE y9 rfl rfl qL qO qU qW ?_)
    refine zw rfl qD ?_
    refine ze 11 rfl rfl (z9 rfl rfl (zd (y6 qk ?_)))
    exact z4 (zK ⟨_, (by first | rfl | (rw [hlk]; rfl)), rfl, rfl, rfl⟩ (.c 8 rfl <| za _) (.c 0 rfl <| .c 3 rfl <| .c 5 rfl <| za _) qD qD qF)
   ·skip
    refine zL rfl ze54 (fun b7 => ?_)
    refine zw rfl qD ?_
    refine zy 5 rfl ?_
    first | refine xw (kenc := aK) (venc := ivV) (l := pl) (k := x) (v := v) rfl yJ (yp yf zY sc5) zv54 rfl rfl qM hlk ?_ | refine xx (kenc := aK) (venc := ivV) (l := pl) (k := x) rfl yJ (yp yf zY sc5) zv54 rfl rfl qM hlk ?_
    refine zw rfl qD ?_
    refine ze 6 rfl rfl (z5 rfl rfl (zd (ze 7 rfl rfl (zG rfl rfl rfl (zd (ze 8 rfl rfl (zG rfl rfl rfl (zd (zy 10 rfl (zE y9 rfl rfl qL qO qU qW ?_))))))))))
    refine zw rfl qD ?_
    refine ze 11 rfl rfl (z9 rfl rfl (zd (y6 qk ?_)))
    exact z4 (zK ⟨_, (by first | rfl | (rw [hlk]; rfl)), rfl, rfl, rfl⟩ (.c 8 rfl <| za _) (.c 0 rfl <| .c 3 rfl <| .c 5 rfl <| za _) qD qD qF)
  ·skip
   have hv3 := inC_len v.1.1 v.2.1 v.2.2.1 v.2.2.2
   have hv32 := v.1.1.1.2
   refine yt (clsL [1, 1, 1, 1, 1, 2, 1, 1, 1, 2, 2, 1]) qk ?_
   refine ze 0 rfl rfl (z5 rfl rfl (zd (xB (i := 1) rfl rfl qk qk qk rfl qD rfl ?_)))
   refine ze 2 rfl rfl (zj rfl fo136_0 rfl ?_)
   refine zd (ze 3 rfl rfl (zh rfl sc134 rfl qC ?_))
   refine zd (ze 4 rfl rfl (zp rfl zu rfl qN ?_))
   refine zd (xg (is := [5, 9]) qk jD (yE rfl ?_ <| yE rfl ?_ <| xh) )
   ·skip
    first | refine xw (kenc := aK) (venc := ivV) (l := pl) (k := x) (v := v) rfl yJ (yp yf zY sc5) zv54 rfl rfl qM hlk ?_ | refine xx (kenc := aK) (venc := ivV) (l := pl) (k := x) rfl yJ (yp yf zY sc5) zv54 rfl rfl qM hlk ?_
    refine zw rfl qD ?_
    refine ze 6 rfl rfl (z5 rfl rfl (zd (ze 7 rfl rfl (zG rfl rfl rfl (zd (ze 8 rfl rfl (zG rfl rfl rfl (zd (zy 9 rfl (zL rfl ze54 (fun b7 => ?_)))))))))))
    refine zw rfl qD ?_
    refine zy 10 rfl (zE y9 rfl rfl qL qO qU qW ?_)
    refine zw rfl qD ?_
    refine ze 11 rfl rfl (z9 rfl rfl (zd (y6 qk ?_)))
    exact z4 (zK ⟨_, (by first | rfl | (rw [hlk]; rfl)), rfl, rfl, rfl⟩ (.c 8 rfl <| za _) (.c 0 rfl <| .c 3 rfl <| .c 5 rfl <| za _) qD qD qF)
   ·skip
    refine zL rfl ze54 (fun b7 => ?_)
    refine zw rfl qD ?_
    refine zy 5 rfl ?_
    first | refine xw (kenc := aK) (venc := ivV) (l := pl) (k := x) (v := v) rfl yJ (yp yf zY sc5) zv54 rfl rfl qM hlk ?_ | refine xx (kenc := aK) (venc := ivV) (l := pl) (k := x) rfl yJ (yp yf zY sc5) zv54 rfl rfl qM hlk ?_
    refine zw rfl qD ?_
    refine ze 6 rfl rfl (z5 rfl rfl (zd (ze 7 rfl rfl (zG rfl rfl rfl (zd (ze 8 rfl rfl (zG rfl rfl rfl (zd (zy 10 rfl (zE y9 rfl rfl qL qO qU qW ?_))))))))))
    refine zw rfl qD ?_
    refine ze 11 rfl rfl (z9 rfl rfl (zd (y6 qk ?_)))
    exact z4 (zK ⟨_, (by first | rfl | (rw [hlk]; rfl)), rfl, rfl, rfl⟩ (.c 8 rfl <| za _) (.c 0 rfl <| .c 3 rfl <| .c 5 rfl <| za _) qD qD qF)
 rintro _ _ _ ⟨w, hwl, rfl, rfl, rfl⟩
 refine zF qA qA qA ?_
 refine z4 (z6 (zr (z6 (z8 (zj rfl fo69_0 rfl ?_)))))
 refine zh rfl sc3 rfl qC ?_
 refine yj rfl rfl rfl (z5 rfl rfl (zv (t := 52) rfl (show _ = Value.bool false from congrArg Value.bool (decide_eq_false jD)) ?_))
 refine zg (dj := 52) (c := false) rfl rfl rfl rfl rfl jD (zg (dj := 52) (c := false) rfl rfl rfl rfl rfl jD (zg (dj := 52) (c := false) rfl rfl rfl rfl rfl jD (y5 rfl rfl rfl (z9 rfl rfl (z7 (z4 (ym rfl rfl ?_)))))))
 refine z6 (z6 (z8 (zj rfl fo69_0 rfl ?_)))
 refine zh rfl sc3 rfl qC ?_
 refine yj rfl rfl rfl (z5 rfl rfl (zv (t := 61) rfl (show _ = Value.bool false from congrArg Value.bool (decide_eq_false jD)) ?_))
 refine zg (dj := 61) (c := false) rfl rfl rfl rfl rfl jD (zg (dj := 61) (c := false) rfl rfl rfl rfl rfl jD (y5 rfl rfl rfl (z9 rfl rfl (z7 (z4 (ym rfl rfl ?_))))))
 refine z8 (zj rfl fo69_0 rfl ?_)
 refine zh rfl sc3 rfl qC ?_
 refine yj rfl rfl rfl (z5 rfl rfl (zv (t := 68) rfl (show _ = Value.bool false from congrArg Value.bool (decide_eq_false jD)) ?_))
 refine zg (dj := 68) (c := false) rfl rfl rfl rfl rfl jD (zg (dj := 68) (c := false) rfl rfl rfl rfl rfl jD (y5 rfl rfl rfl (z9 rfl rfl (z7 (z4 (ym rfl rfl ?_))))))
 refine z6 (z8 (zj rfl fo69_0 rfl ?_))
 refine zh rfl sc3 rfl qC ?_
 refine yj rfl rfl rfl (z9 rfl rfl (z7 (z4 (ym rfl (decide_eq_false jD) ?_))))
 refine z6 (z8 (zj rfl fo69_0 rfl ?_))
 refine zh rfl sc3 rfl qC ?_
 refine yj rfl rfl rfl (z9 rfl rfl (z7 (z4 (ym rfl (decide_eq_false jD) ?_))))
 refine z6 (z8 (zj rfl fo69_0 rfl ?_))
 refine zh rfl sc3 rfl qC ?_
 refine yj rfl rfl rfl (z9 rfl rfl (z7 (z4 (xk rfl (decide_eq_true rfl) ?_))))
 refine yt (clsL [1, 1, 1, 1, 1, 2]) qk ?_
 refine ze 0 rfl rfl (z5 rfl rfl (zd (xB (i := 1) rfl rfl qk qk qk rfl qD rfl ?_)))
 refine ze 2 rfl rfl (zj rfl fo136_2 rfl ?_)
 refine zd (ze 3 rfl rfl (zh rfl sc64 rfl qC ?_))
 refine zd (ze 4 rfl rfl (zp rfl zu rfl qN ?_))
 refine zd (zy 5 rfl (L.mapUpdate (kenc := aK) (venc := iK) (l := al) (k := x) (v := 1) xm (yp yf zY sc5) rfl rfl rfl rfl qP ?_))
 refine zw rfl qD ?_
 refine y6 qk ?_
 exact zI (z4 (z6 (z8 (z9 rfl rfl (z7 (z4 (zi (zz rfl rfl ⟨rfl, rfl, rfl⟩ qD qF))))))))
theorem do3_spec {br bp bh ba : Nat} {pl : IvM} {hl al : SnM} {q : Int} {x : ID32} (hok : PlOk pl) (hrf : ¬ refBy pl x) (hhl : look hl x = none) (hpl : look pl x ≠ none) : Spec Tryz.prog 33 [.pointer (some ⟨br, 0, none⟩), .agg #[.int .i64 3, S x.1, .int .i64 q]] [cl br 136 (rgC bp bh ba), ifs pl] [mp bp aK ivV pl, mp bh aK iK hl] (fun v D' M' => v = .int .i64 0 ∧ D' = [] ∧ M' = [mp bp aK ivV (del pl x), mp bh aK iK hl]) := by
 refine zC (n := 109) Tryz.func33 ?_
 intro σ D M
 have hx2 := x.2
 have hx3 := zT x
 refine z6 (z8 (yq rfl rfl rfl (fun b3 => ?_)))
 refine z9 rfl rfl (z7 (y1 (A := cl b3 69 [.int .i64 3, S x.1, .int .i64 q]) qP ?_))
 refine z4 (z6 (z6 (z8 (zj rfl fo69_0 rfl ?_))))
 refine zh rfl sc3 rfl qC ?_
 refine yj rfl rfl rfl (z7 (z4 (ym rfl (decide_eq_false jD) ?_)))
 refine zm (z4 (z6 (z6 (z8 (zj rfl fo69_0 rfl ?_)))))
 refine zh rfl sc3 rfl qC ?_
 refine zQ rfl rfl rfl (z5 rfl rfl (zv (t := 19) rfl (show _ = Value.bool false from congrArg Value.bool (decide_eq_false jD)) ?_))
 refine zf (dj := 19) rfl rfl rfl (zj rfl fo69_0 rfl ?_)
 refine zf (dj := 19) rfl rfl rfl (zh rfl sc3 rfl qC ?_)
 refine zf (dj := 19) rfl rfl rfl (yB rfl rfl rfl (y5 rfl rfl rfl (z7 (z4 (ym rfl (decide_eq_false jD) ?_)))))
 refine zm (z4 (z6 (z8 (zj rfl fo69_1 rfl ?_))))
 refine zh rfl sc9 rfl qC ?_
 refine zW rfl (ev1 rfl) qD qS (otake_spec (x := x)) jF ?_
 refine z5 rfl rfl (zG rfl rfl rfl (zG rfl rfl rfl (zL rfl ze38 (fun b5 => ?_))))
 refine zE zu rfl rfl qL qO qU qW ?_
 refine z9 rfl rfl (z7 (y1 (A := cl b5 38 (iC x)) qP ?_))
 refine z4 (z6 (z6 (z8 (z5 rfl rfl (yx rfl rfl rfl (z7 (z4 (ym rfl (decide_eq_false (fun q => q rfl)) ?_))))))))
 refine zm (z4 (z6 (yu (fun K' D' M' => ∃ (w : Bool), (w = (look pl x).isSome) ∧ K' = [(8, .bool w)] ∧ D' = [] ∧ M' = [mp bp aK ivV pl]) (M0 := [mp bp aK ivV pl]) (.c 0 rfl <| .c 3 rfl <| .c 5 rfl <| za _) qS ?_ ?_)))
 ·skip
  rcases hlk : look pl x with _ | v
  ·skip
   refine yt (clsL [1, 1, 1, 1, 1, 2, 1, 1, 1, 2, 2, 1]) qk ?_
   refine ze 0 rfl rfl (z5 rfl rfl (zd (xB (i := 1) rfl rfl qk qk qk rfl qD rfl ?_)))
   refine ze 2 rfl rfl (zj rfl fo136_0 rfl ?_)
   refine zd (ze 3 rfl rfl (zh rfl sc134 rfl qC ?_))
   refine zd (ze 4 rfl rfl (zp rfl zu rfl qN ?_))
   refine zd (xg (is := [5, 9]) qk jD (yE rfl ?_ <| yE rfl ?_ <| xh) )
   ·skip
    first | refine xw (kenc := aK) (venc := ivV) (l := pl) (k := x) (v := v) rfl yJ (yp yf zY sc5) zv54 rfl rfl qM hlk ?_ | refine xx (kenc := aK) (venc := ivV) (l := pl) (k := x) rfl yJ (yp yf zY sc5) zv54 rfl rfl qM hlk ?_
    refine zw rfl qD ?_
    refine ze 6 rfl rfl (z5 rfl rfl (zd (ze 7 rfl rfl (zG rfl rfl rfl (zd (ze 8 rfl rfl (zG rfl rfl rfl (zd (zy 9 rfl (zL rfl ze54 (fun b7 => ?_)))))))))))
    refine zw rfl qD ?_
    refine zy 10 rfl (zE y9 rfl rfl qL qO qU qW ?_)
    refine zw rfl qD ?_
    refine ze 11 rfl rfl (z9 rfl rfl (zd (y6 qk ?_)))
    exact z4 (zK ⟨_, (by first | rfl | (rw [hlk]; rfl)), rfl, rfl, rfl⟩ (.c 8 rfl <| za _) (.c 0 rfl <| .c 3 rfl <| .c 5 rfl <| za _) qD qD qF)
   ·skip
    refine zL rfl ze54 (fun b7 => ?_)
    refine zw rfl qD ?_
    refine zy 5 rfl ?_
    first | refine xw (kenc := aK) (venc := ivV) (l := pl) (k := x) (v := v) rfl yJ (yp yf zY sc5) zv54 rfl rfl qM hlk ?_ | refine xx (kenc := aK) (venc := ivV) (l := pl) (k := x) rfl yJ (yp yf zY sc5) zv54 rfl rfl qM hlk ?_
    refine zw rfl qD ?_
    refine ze 6 rfl rfl (z5 rfl rfl (zd (ze 7 rfl rfl (zG rfl rfl rfl (zd (ze 8 rfl rfl (zG rfl rfl rfl (zd (zy 10 rfl (zE y9 rfl rfl qL qO qU qW ?_))))))))))
    refine zw rfl qD ?_
    refine ze 11 rfl rfl (z9 rfl rfl (zd (y6 qk ?_)))
    exact z4 (zK ⟨_, (by first | rfl | (rw [hlk]; rfl)), rfl, rfl, rfl⟩ (.c 8 rfl <| za _) (.c 0 rfl <| .c 3 rfl <| .c 5 rfl <| za _) qD qD qF)
  ·skip
   have hv3 := inC_len v.1.1 v.2.1 v.2.2.1 v.2.2.2
   have hv32 := v.1.1.1.2
   refine yt (clsL [1, 1, 1, 1, 1, 2, 1, 1, 1, 2, 2, 1]) qk ?_
   refine ze 0 rfl rfl (z5 rfl rfl (zd (xB (i := 1) rfl rfl qk qk qk rfl qD rfl ?_)))
   refine ze 2 rfl rfl (zj rfl fo136_0 rfl ?_)
   refine zd (ze 3 rfl rfl (zh rfl sc134 rfl qC ?_))
   refine zd (ze 4 rfl rfl (zp rfl zu rfl qN ?_))
   refine zd (xg (is := [5, 9]) qk jD (yE rfl ?_ <| yE rfl ?_ <| xh) )
   ·skip
    first | refine xw (kenc := aK) (venc := ivV) (l := pl) (k := x) (v := v) rfl yJ (yp yf zY sc5) zv54 rfl rfl qM hlk ?_ | refine xx (kenc := aK) (venc := ivV) (l := pl) (k := x) rfl yJ (yp yf zY sc5) zv54 rfl rfl qM hlk ?_
    refine zw rfl qD ?_
    refine ze 6 rfl rfl (z5 rfl rfl (zd (ze 7 rfl rfl (zG rfl rfl rfl (zd (ze 8 rfl rfl (zG rfl rfl rfl (zd (zy 9 rfl (zL rfl ze54 (fun b7 => ?_)))))))))))
    refine zw rfl qD ?_
    refine zy 10 rfl (zE y9 rfl rfl qL qO qU qW ?_)
    refine zw rfl qD ?_
    refine ze 11 rfl rfl (z9 rfl rfl (zd (y6 qk ?_)))
    exact z4 (zK ⟨_, (by first | rfl | (rw [hlk]; rfl)), rfl, rfl, rfl⟩ (.c 8 rfl <| za _) (.c 0 rfl <| .c 3 rfl <| .c 5 rfl <| za _) qD qD qF)
   ·skip
    refine zL rfl ze54 (fun b7 => ?_)
    refine zw rfl qD ?_
    refine zy 5 rfl ?_
    first | refine xw (kenc := aK) (venc := ivV) (l := pl) (k := x) (v := v) rfl yJ (yp yf zY sc5) zv54 rfl rfl qM hlk ?_ | refine xx (kenc := aK) (venc := ivV) (l := pl) (k := x) rfl yJ (yp yf zY sc5) zv54 rfl rfl qM hlk ?_
    refine zw rfl qD ?_
    refine ze 6 rfl rfl (z5 rfl rfl (zd (ze 7 rfl rfl (zG rfl rfl rfl (zd (ze 8 rfl rfl (zG rfl rfl rfl (zd (zy 10 rfl (zE y9 rfl rfl qL qO qU qW ?_))))))))))
    refine zw rfl qD ?_
    refine ze 11 rfl rfl (z9 rfl rfl (zd (y6 qk ?_)))
    exact z4 (zK ⟨_, (by first | rfl | (rw [hlk]; rfl)), rfl, rfl, rfl⟩ (.c 8 rfl <| za _) (.c 0 rfl <| .c 3 rfl <| .c 5 rfl <| za _) qD qD qF)
 rintro _ _ _ ⟨w, hwl, rfl, rfl, rfl⟩
 refine zF qA qA qA ?_
 refine z4 (z6 (zr (z6 (z8 (zj rfl fo69_0 rfl ?_)))))
 refine zh rfl sc3 rfl qC ?_
 refine yj rfl rfl rfl (z5 rfl rfl (zv (t := 52) rfl (show _ = Value.bool true from congrArg Value.bool (decide_eq_true rfl)) ?_))
 refine zf (dj := 52) rfl rfl rfl (z5 rfl rfl (zf (dj := 52) rfl rfl rfl (zp rfl zu rfl qN ?_)))
 refine zf (dj := 52) rfl rfl rfl (zx rfl (ev2 rfl rfl) qD qS (needed_spec (hl := hl) (x := x) hok) ?_)
 rintro _ _ _ ⟨w2, rfl, hw2, rfl, rfl⟩
 refine zt qA qA ?_
 obtain rfl : w2 = false := by cases w2 with
  | false => rfl
  | true => exact ((hw2.1 rfl).elim (fun e => absurd e hrf) (fun e => absurd hhl e))
 have hwt : w = true := by cases e : look pl x with
  | none => exact absurd e hpl
  | some v => rw [hwl, e]; rfl
 subst hwt
 refine ye rfl rfl rfl (z9 rfl rfl (z7 (z4 (ym rfl rfl ?_))))
 refine z6 (z6 (z8 (zj rfl fo69_0 rfl ?_)))
 refine zh rfl sc3 rfl qC ?_
 refine yj rfl rfl rfl (z5 rfl rfl (zv (t := 61) rfl (show _ = Value.bool true from congrArg Value.bool (decide_eq_true rfl)) ?_))
 refine zf (dj := 61) rfl rfl rfl (z5 rfl rfl (zf (dj := 61) rfl rfl rfl (yX rfl rfl (ye rfl rfl rfl (z9 rfl rfl (z7 (z4 (ym rfl rfl ?_))))))))
 refine z8 (zj rfl fo69_0 rfl ?_)
 refine zh rfl sc3 rfl qC ?_
 refine yj rfl rfl rfl (z5 rfl rfl (zv (t := 68) rfl (show _ = Value.bool false from congrArg Value.bool (decide_eq_false jD)) ?_))
 refine zg (dj := 68) (c := false) rfl rfl rfl rfl rfl jD (zg (dj := 68) (c := false) rfl rfl rfl rfl rfl jD (y5 rfl rfl rfl (z9 rfl rfl (z7 (z4 (ym rfl rfl ?_))))))
 refine z6 (z8 (zj rfl fo69_0 rfl ?_))
 refine zh rfl sc3 rfl qC ?_
 refine yj rfl rfl rfl (z9 rfl rfl (z7 (z4 (xk rfl (decide_eq_true rfl) ?_))))
 refine yt (clsL [1, 1, 1, 1, 1, 2]) qk ?_
 refine ze 0 rfl rfl (z5 rfl rfl (zd (xB (i := 1) rfl rfl qk qk qk rfl qD rfl ?_)))
 refine ze 2 rfl rfl (zj rfl fo136_0 rfl ?_)
 refine zd (ze 3 rfl rfl (zh rfl sc134 rfl qC ?_))
 refine zd (ze 4 rfl rfl (zp rfl zu rfl qN ?_))
 refine zd (zy 5 rfl (L.delete (kenc := aK) (venc := ivV) (l := pl) (k := x) yJ (yp yf zY sc5) rfl rfl qP ?_))
 refine zw rfl qD ?_
 refine y6 qk ?_
 exact zI (z4 (z6 (z8 (z9 rfl rfl (z7 (z4 (zi (zz rfl rfl ⟨rfl, rfl, rfl⟩ qD qF))))))))
end Cv
