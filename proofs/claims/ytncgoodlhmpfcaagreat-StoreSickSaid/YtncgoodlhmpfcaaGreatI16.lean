/-
  The walks: registries: copied.
-/
import Derived.Test.YtncgoodlhmpfcaaGreatH16
set_option linter.all false
set_option maxHeartbeats 400000
set_option maxRecDepth 10000
namespace Cv
open Go Go.Proofs
/-! ## registries: copied, told -/
def ivZ (pl : IvM) (x : ID32) : List Value := match look pl x with
  | some v => ivC v
  | none => inC zP none 0 0
theorem ivC_len (v : IV) : (ivC v).length = 34 := inC_len v.1.1 v.2.1 v.2.2.1 v.2.2.2
theorem ivZ_len (pl : IvM) (x : ID32) : (ivZ pl x).length = 34 := by
  unfold ivZ; split
  · exact ivC_len _
  · exact inC_len ..
theorem one_inC {p : Pt} {a : Option Addr} {n c : Nat} : ∀ u ∈ inC p a n c, u.oneCell' = true := fun u hu => by
  rcases List.mem_append.1 hu with q | q
  · obtain ⟨y, _, rfl⟩ := List.mem_map.1 q; rfl
  · simp only [List.mem_cons, List.not_mem_nil, or_false] at q
    rcases q with rfl | rfl <;> rfl
theorem one_ivZ {pl : IvM} {x : ID32} : ∀ u ∈ ivZ pl x, u.oneCell' = true := by
  unfold ivZ; split <;> exact one_inC
theorem ivZ_some {pl : IvM} {x : ID32} {v : IV} (h : look pl x = some v) : ivZ pl x = ivC v := by unfold ivZ; rw [h]
def ivT (pl : IvM) (x : ID32) : List UInt8 := match look pl x with
  | some v => inT v.1.1 v.1.2
  | none => []
def rcT (pl : IvM) (x : ID32) : RcA := ((2, ivT pl x), 0)
def rcK (k : Nat) (x : ID32) : RcA := ((k, x.1), 0)
def recL (pl : IvM) (us hs qs : List ID32) : List RcA := us.map (rcT pl) ++ hs.map (rcK 4) ++ qs.map (rcK 6)
theorem ivT_some {pl : IvM} {x : ID32} {v : IV} (h : look pl x = some v) : ivT pl x = inT v.1.1 v.1.2 := by unfold ivT; rw [h]
theorem map_s {α β : Type} {f : α → β} {l : List α} {i : Nat} {x : α} (h : l[i]? = some x) : (l.take (i + 1)).map f = (l.take i).map f ++ [f x] := by
  rw [List.take_add_one, h, List.map_append]; rfl
structure TlF (pl : IvM) (hl al : SnM) (us hs qs : List ID32) : Prop where
  or : OrdF pl us
  hk : KeysF (hl.map Prod.fst) hs
  ak : KeysF (al.map Prod.fst) qs
theorem clX : IsX Tryz.prog 125 Extern.MapsClone.clone := IsX.of Tryz.func125 (by kernel_rfl) (by kernel_rfl) (by kernel_rfl) (by kernel_rfl)

theorem path_spec {br bp bh ba : Nat} {pl : IvM} {x : ID32}  : Spec Tryz.prog 26 [.pointer (some ⟨br, 0, none⟩), .agg (iC x).toArray] [cl br 128 (rgC bp bh ba)] [mp bp aK ivV pl] (fun v D' M' => v = .tuple #[.agg (ivZ pl x).toArray, .bool (look pl x).isSome] ∧ D' = [] ∧ M' = [mp bp aK ivV pl]) := by
 refine zv (n := 19) Tryz.func26 ?_
 intro σ D M
 have hx2 := x.2
 have hx3 := yw x
 have hz3 := ivZ_len pl x
 have hz1 := @one_ivZ pl x
 refine O (y6 R R R (fun b3 => ?_))
 refine zC R ze75 (fun b4 => ?_)
 refine V R R (zu (zO (A := cl b3 38 (iC x)) qP ?_))
 refine z8 (ze (yx (fun K' D' M' => ∃ (b6 : Nat), K' = [(6, .pointer (some ⟨b6, 0, none⟩)), (7, .bool (look pl x).isSome)] ∧ D' = [cl b6 75 (ivZ pl x)] ∧ M' = [mp bp aK ivV pl]) (M0 := [mp bp aK ivV pl]) (.c 4 R <| zd _) qS ?_ ?_))
 ·refine y7 (clsL [1, 1, 1, 1, 1, 2, 1, 1, 1, 2, 2, 1]) qk ?_
  refine z9 0 R R (E R R (z7 (yX (i := 1) R R qk qk qk R qD R ?_)))
  refine z9 2 R R (zg R xy R ?_)
  refine z7 (z9 3 R R (zf R sc126 R qC ?_))
  refine z7 (z9 4 R R (zx R zI R qN ?_))
  refine z7 (yA (is := [5, 9]) qk jD (zU R ?_ <| zU R ?_ <| yB) )
  ·refine L.lookup2 (kenc := aK) (venc := ivV) (l := pl) (k := x) R yI (yo yf zX sc5) zv75 R R qM ?_
   refine zE (t := 14) (u := .tuple #[.agg (ivZ pl x).toArray, .bool (look pl x).isSome]) R (by unfold ivZ; cases look pl x <;> rfl) ?_
   refine zh R qD ?_
   refine z9 6 R R (E R R (z7 (z9 7 R R (zr R R R (z7 (z9 8 R R (zr R R R (z7 (zi 9 R (zC R ze75 (fun b6 => ?_)))))))))))
   refine zh R qD ?_
   refine zi 10 R (zz yu R R qL qO qU qW ?_)
   refine zh R qD ?_
   refine z9 11 R R (V R R (z7 (zN qk ?_)))
   refine zO (A := cl b6 75 (ivZ pl x)) qP ?_
   exact z8 (zK ⟨_, R, R, R⟩ (.c 6 R <| .c 7 R <| zd _) (.c 4 R <| zd _) qD qD qF)
  refine zC R ze75 (fun b6 => ?_)
  refine zh R qD ?_
  refine zi 5 R (L.lookup2 (kenc := aK) (venc := ivV) (l := pl) (k := x) R yI (yo yf zX sc5) zv75 R R qM ?_)
  refine zE (t := 14) (u := .tuple #[.agg (ivZ pl x).toArray, .bool (look pl x).isSome]) R (by unfold ivZ; cases look pl x <;> rfl) ?_
  refine zh R qD ?_
  refine z9 6 R R (E R R (z7 (z9 7 R R (zr R R R (z7 (z9 8 R R (zr R R R (z7 (zi 10 R (zz yu R R qL qO qU qW ?_))))))))))
  refine zh R qD ?_
  refine z9 11 R R (V R R (z7 (zN qk ?_)))
  refine zO (A := cl b6 75 (ivZ pl x)) qP ?_
  exact z8 (zK ⟨_, R, R, R⟩ (.c 6 R <| .c 7 R <| zd _) (.c 4 R <| zd _) qD qD qF)
 rintro _ _ _ ⟨b6, rfl, rfl, rfl⟩
 refine zM qA qA qA ?_
 refine z8 (O (zx R yu R (CellsN.ofF qM (AtN.all hz3)) ?_))
 refine E R R (zz yu R R qL qO qU qW ?_)
 exact V R R (I (zo (yW R yu R qN R ⟨R, R, R⟩ qD qF)))
theorem mclP_spec {m : Nat} {l : IvM}  : Spec Tryz.prog 67 [.map (some m)] [] [mp m aK ivV l] (fun v D' M' => ∃ (c : Nat), v = .map (some c) ∧ D' = [] ∧ M' = [mp m aK ivV l, mp c aK ivV l]) := by
 refine zv (n := 9) Tryz.func67 ?_
 intro σ D M
 refine O (V R R (I (ze (O (E R R (L.eqlMap R yI R R ?_))))))
 refine I (zR R R ?_)
 refine zq (z8 (O (E R R (L.mkIface R yI (by intro i q; cases q) R ?_))))
 refine L.cloneM (kenc := aK) (venc := ivV) clX R (ev1 R) qM (fun c => ?_)
 refine L.assertM R yI R ?_
 exact V R R (I (zo (zy R R ⟨_, R, R, R⟩ qD qF)))
theorem mclI_spec {m : Nat} {l : SnM}  : Spec Tryz.prog 68 [.map (some m)] [] [mp m aK iK l] (fun v D' M' => ∃ (c : Nat), v = .map (some c) ∧ D' = [] ∧ M' = [mp m aK iK l, mp c aK iK l]) := by
 refine zv (n := 9) Tryz.func68 ?_
 intro σ D M
 refine O (V R R (I (ze (O (E R R (L.eqlMap R xd R R ?_))))))
 refine I (zR R R ?_)
 refine zq (z8 (O (E R R (L.mkIface R xd (by intro i q; cases q) R ?_))))
 refine L.cloneM (kenc := aK) (venc := iK) clX R (ev1 R) qM (fun c => ?_)
 refine L.assertM R xd R ?_
 exact V R R (I (zo (zy R R ⟨_, R, R, R⟩ qD qF)))
theorem rgclone_spec {br bp bh ba : Nat} {pl : IvM} {hl al : SnM}  : Spec Tryz.prog 27 [.pointer (some ⟨br, 0, none⟩)] [cl br 128 (rgC bp bh ba)] [mp bp aK ivV pl, mp bh aK iK hl, mp ba aK iK al] (fun v D' M' => ∃ (b2 p2 h2 a2 : Nat), v = .pointer (some ⟨b2, 0, none⟩) ∧ D' = [cl b2 128 (rgC p2 h2 a2)] ∧ M' = [mp bp aK ivV pl, mp bh aK iK hl, mp ba aK iK al, mp p2 aK ivV pl, mp h2 aK iK hl, mp a2 aK iK al]) := by
 refine zv (n := 20) Tryz.func27 ?_
 intro σ D M
 refine O (V R R (I (ze (yx (fun K' D' M' => ∃ (b2 p2 h2 a2 : Nat), K' = [(2, .pointer (some ⟨b2, 0, none⟩))] ∧ D' = [cl b2 128 (rgC p2 h2 a2)] ∧ M' = [mp bp aK ivV pl, mp bh aK iK hl, mp ba aK iK al, mp p2 aK ivV pl, mp h2 aK iK hl, mp a2 aK iK al]) (M0 := [mp bp aK ivV pl, mp bh aK iK hl, mp ba aK iK al]) (zd _) qS ?_ ?_))))
 ·refine y7 (clsL [1, 1, 1, 1, 2, 1, 1, 1, 1, 2, 1, 1, 1, 1, 2, 1, 2, 1]) qk ?_
  refine z9 0 R R (E R R (z7 (yX (i := 1) R R qk qk qk R qD R ?_)))
  refine z9 2 R R (zg R xy R ?_)
  refine z7 (z9 3 R R (zf R sc126 R qC ?_))
  refine z7 (z9 5 R R (E R R (z7 (yX (i := 6) R R qk qk qk R qD R ?_))))
  refine z9 7 R R (zg R fo128_1 R ?_)
  refine z7 (z9 8 R R (zf R sc108 R qC ?_))
  refine z7 (z9 10 R R (E R R (z7 (yX (i := 11) R R qk qk qk R qD R ?_))))
  refine z9 12 R R (zg R fo128_2 R ?_)
  refine z7 (z9 13 R R (zf R sc108 R qC ?_))
  refine z7 (zi 4 R (zp R (ev1 R) qD qS (mclP_spec) ?_))
  rintro _ _ _ ⟨p2, rfl, rfl, rfl⟩
  refine zm qA qA ?_
  refine zh R qD ?_
  refine zi 9 R (zp R (ev1 R) qD qS (mclI_spec (l := hl)) ?_)
  rintro _ _ _ ⟨h2, rfl, rfl, rfl⟩
  refine zm qA qA ?_
  refine zh R qD ?_
  refine zi 14 R (zp R (ev1 R) qD qS (mclI_spec (l := al)) ?_)
  rintro _ _ _ ⟨a2, rfl, rfl, rfl⟩
  refine zm qA qA ?_
  refine zh R qD ?_
  refine z9 15 R R (yq R bu128 (zF R R R <| zF R R R <| zF R R R <| zQ (out := []) R) ?_)
  refine z7 (zi 16 R (y6 R R R (fun b19 => ?_)))
  refine zh R qD ?_
  refine z9 17 R R (V R R (z7 (zN qk ?_)))
  refine zO (A := cl b19 128 (rgC p2 h2 a2)) qP ?_
  exact z8 (zK ⟨_, _, _, _, R, R, R⟩ (.c 2 R <| zd _) (zd _) qD qD qF)
 rintro _ _ _ ⟨b2, p2, h2, a2, rfl, rfl, rfl⟩
 refine zM qA qA qA ?_
 exact z8 (zo (zy R R ⟨_, _, _, _, R, R, R⟩ qD qF))
end Cv
set_option maxRecDepth 10000
namespace Cv
open Go Go.Proofs

theorem drop_spec {m : Nat} {ml : SnM} {x : ID32} (hx : look ml x ≠ none) : Spec Tryz.prog 72 [.map (some m), .agg (iC x).toArray] [] [mp m aK iK ml] (fun v D' M' => v = .int .i64 0 ∧ D' = [] ∧ M' = [mp m aK iK (del ml x)]) := by
 refine zv (n := 17) Tryz.func72 ?_
 intro σ D M
 have hx2 := x.2
 have hx3 := yw x
 obtain ⟨v, hv⟩ := Option.ne_none_iff_exists'.1 hx
 refine O (y6 R R R (fun b3 => ?_))
 refine V R R (zu (zO (A := cl b3 38 (iC x)) qP ?_))
 refine z8 (ze (O (E R R (zx R zI R qN ?_))))
 refine xw (kenc := aK) (venc := iK) (l := ml) (k := x) (v := v) R xd (yo yf zX sc5) zv3 R R qM hv ?_
 refine E R R (zr R R R (zr R R R (V R R (V R R (I (O (E R R (x7 R R (I (zR R R ?_))))))))))
 refine zq (z8 (O (E R R (zx R zI R qN ?_))))
 refine L.delete (kenc := aK) (venc := iK) (l := ml) (k := x) xd (yo yf zX sc5) R R qP ?_
 exact I (O (V R R (I (zo (zy R R ⟨R, R, R⟩ qD qF)))))
theorem do5_spec {br bp bh ba : Nat} {pl : IvM} {hl : SnM} {q : Int} {x : ID32} (hx : look hl x ≠ none) : Spec Tryz.prog 28 [.pointer (some ⟨br, 0, none⟩), .agg #[.int .i64 5, S x.1, .int .i64 q]] [cl br 128 (rgC bp bh ba)] [mp bp aK ivV pl, mp bh aK iK hl] (fun v D' M' => v = .int .i64 0 ∧ D' = [] ∧ M' = [mp bp aK ivV pl, mp bh aK iK (del hl x)]) := by
 refine zv (n := 109) Tryz.func28 ?_
 intro σ D M
 have hx2 := x.2
 have hx3 := yw x
 refine O (y6 R R R (fun b3 => ?_))
 refine V R R (zu (zO (A := cl b3 85 [.int .i64 5, S x.1, .int .i64 q]) qP ?_))
 refine z8 (ze (O (zg R x9 R ?_)))
 refine zf R sc3 R qC ?_
 refine yi R R R (I (zR R (decide_eq_false jD) ?_))
 refine zq (z8 (ze (O (zg R x9 R ?_))))
 refine zf R sc3 R qC ?_
 refine zW R R R (E R R (zE (t := 19) R (show _ = Value.bool false from congrArg Value.bool (decide_eq_false jD)) ?_))
 refine zj 19 R R R (zg R x9 R ?_)
 refine zj 19 R R R (zf R sc3 R qC ?_)
 refine zj 19 R R R (yy R R R (yg R R R (I (zR R (decide_eq_false jD) ?_))))
 refine zq (z8 (O (zg R fo85_1 R ?_)))
 refine zf R sc9 R qC ?_
 refine zH R (ev1 R) qD qS (otake_spec (x := x)) jF ?_
 refine E R R (zr R R R (zr R R R (zC R ze38 (fun b5 => ?_))))
 refine zz zI R R qL qO qU qW ?_
 refine V R R (zu (zO (A := cl b5 38 (iC x)) qP ?_))
 refine z8 (ze (O (E R R (zZ R R R (I (zR R (decide_eq_false (fun q => q R)) ?_))))))
 refine zq (z8 (ze (yx (fun K' D' M' => ∃ (w : Bool), K' = [(8, .bool w)] ∧ D' = [] ∧ M' = [mp bp aK ivV pl]) (M0 := [mp bp aK ivV pl]) (.c 0 R <| .c 3 R <| .c 5 R <| zd _) qS ?_ ?_)))
 ·rcases hlk : look pl x with _ | v
  ·refine y7 (clsL [1, 1, 1, 1, 1, 2, 1, 1, 1, 2, 2, 1]) qk ?_
   refine z9 0 R R (E R R (z7 (yX (i := 1) R R qk qk qk R qD R ?_)))
   refine z9 2 R R (zg R xy R ?_)
   refine z7 (z9 3 R R (zf R sc126 R qC ?_))
   refine z7 (z9 4 R R (zx R zI R qN ?_))
   refine z7 (yA (is := [5, 9]) qk jD (zU R ?_ <| zU R ?_ <| yB) )
   ·first | refine xw (kenc := aK) (venc := ivV) (l := pl) (k := x) (v := v) rfl yI (yo yf zX sc5) zv75 rfl rfl qM hlk ?_ | refine xA (kenc := aK) (venc := ivV) (l := pl) (k := x) rfl yI (yo yf zX sc5) zv75 rfl rfl qM hlk ?_
    refine zh R qD ?_
    refine z9 6 R R (E R R (z7 (z9 7 R R (zr R R R (z7 (z9 8 R R (zr R R R (z7 (zi 9 R (zC R ze75 (fun b7 => ?_)))))))))))
    refine zh R qD ?_
    refine zi 10 R (zz yu R R qL qO qU qW ?_)
    refine zh R qD ?_
    refine z9 11 R R (V R R (z7 (zN qk ?_)))
    exact z8 (zK ⟨_, R, R, R⟩ (.c 8 R <| zd _) (.c 0 R <| .c 3 R <| .c 5 R <| zd _) qD qD qF)
   refine zC R ze75 (fun b7 => ?_)
   refine zh R qD ?_
   refine zi 5 R ?_
   first | refine xw (kenc := aK) (venc := ivV) (l := pl) (k := x) (v := v) rfl yI (yo yf zX sc5) zv75 rfl rfl qM hlk ?_ | refine xA (kenc := aK) (venc := ivV) (l := pl) (k := x) rfl yI (yo yf zX sc5) zv75 rfl rfl qM hlk ?_
   refine zh R qD ?_
   refine z9 6 R R (E R R (z7 (z9 7 R R (zr R R R (z7 (z9 8 R R (zr R R R (z7 (zi 10 R (zz yu R R qL qO qU qW ?_))))))))))
   refine zh R qD ?_
   refine z9 11 R R (V R R (z7 (zN qk ?_)))
   exact z8 (zK ⟨_, R, R, R⟩ (.c 8 R <| zd _) (.c 0 R <| .c 3 R <| .c 5 R <| zd _) qD qD qF)
  have hv3 := inC_len v.1.1 v.2.1 v.2.2.1 v.2.2.2
  have hv32 := v.1.1.1.2
  refine y7 (clsL [1, 1, 1, 1, 1, 2, 1, 1, 1, 2, 2, 1]) qk ?_
  refine z9 0 R R (E R R (z7 (yX (i := 1) R R qk qk qk R qD R ?_)))
  refine z9 2 R R (zg R xy R ?_)
  refine z7 (z9 3 R R (zf R sc126 R qC ?_))
  refine z7 (z9 4 R R (zx R zI R qN ?_))
  refine z7 (yA (is := [5, 9]) qk jD (zU R ?_ <| zU R ?_ <| yB) )
  ·first | refine xw (kenc := aK) (venc := ivV) (l := pl) (k := x) (v := v) rfl yI (yo yf zX sc5) zv75 rfl rfl qM hlk ?_ | refine xA (kenc := aK) (venc := ivV) (l := pl) (k := x) rfl yI (yo yf zX sc5) zv75 rfl rfl qM hlk ?_
   refine zh R qD ?_
   refine z9 6 R R (E R R (z7 (z9 7 R R (zr R R R (z7 (z9 8 R R (zr R R R (z7 (zi 9 R (zC R ze75 (fun b7 => ?_)))))))))))
   refine zh R qD ?_
   refine zi 10 R (zz yu R R qL qO qU qW ?_)
   refine zh R qD ?_
   refine z9 11 R R (V R R (z7 (zN qk ?_)))
   exact z8 (zK ⟨_, R, R, R⟩ (.c 8 R <| zd _) (.c 0 R <| .c 3 R <| .c 5 R <| zd _) qD qD qF)
  refine zC R ze75 (fun b7 => ?_)
  refine zh R qD ?_
  refine zi 5 R ?_
  first | refine xw (kenc := aK) (venc := ivV) (l := pl) (k := x) (v := v) rfl yI (yo yf zX sc5) zv75 rfl rfl qM hlk ?_ | refine xA (kenc := aK) (venc := ivV) (l := pl) (k := x) rfl yI (yo yf zX sc5) zv75 rfl rfl qM hlk ?_
  refine zh R qD ?_
  refine z9 6 R R (E R R (z7 (z9 7 R R (zr R R R (z7 (z9 8 R R (zr R R R (z7 (zi 10 R (zz yu R R qL qO qU qW ?_))))))))))
  refine zh R qD ?_
  refine z9 11 R R (V R R (z7 (zN qk ?_)))
  exact z8 (zK ⟨_, R, R, R⟩ (.c 8 R <| zd _) (.c 0 R <| .c 3 R <| .c 5 R <| zd _) qD qD qF)
 rintro _ _ _ ⟨w, rfl, rfl, rfl⟩
 refine zM qA qA qA ?_
 refine z8 (ze (zD (O (zg R x9 R ?_))))
 refine zf R sc3 R qC ?_
 refine yi R R R (E R R (zE (t := 52) R (show _ = Value.bool false from congrArg Value.bool (decide_eq_false jD)) ?_))
 refine zw 52 false R R R R R jD (zw 52 false R R R R R jD (zw 52 false R R R R R jD (yg R R R (V R R (I (zR R R ?_))))))
 refine ze (O (zg R x9 R ?_))
 refine zf R sc3 R qC ?_
 refine yi R R R (E R R (zE (t := 61) R (show _ = Value.bool false from congrArg Value.bool (decide_eq_false jD)) ?_))
 refine zw 61 false R R R R R jD (zw 61 false R R R R R jD (yg R R R (V R R (I (zR R R ?_)))))
 refine zt (zg R x9 R ?_)
 refine zf R sc3 R qC ?_
 refine yi R R R (E R R (zE (t := 68) R (show _ = Value.bool false from congrArg Value.bool (decide_eq_false jD)) ?_))
 refine zw 68 false R R R R R jD (zw 68 false R R R R R jD (yg R R R (V R R (I (zR R R ?_)))))
 refine O (zg R x9 R ?_)
 refine zf R sc3 R qC ?_
 refine yi R R R (V R R (I (zR R (decide_eq_false jD) ?_)))
 refine O (zg R x9 R ?_)
 refine zf R sc3 R qC ?_
 refine yi R R R (V R R (I (zR R (decide_eq_false jD) ?_)))
 refine O (zg R x9 R ?_)
 refine zf R sc3 R qC ?_
 refine yi R R R (V R R (I (zR R (decide_eq_false jD) ?_)))
 refine O (zg R x9 R ?_)
 refine zf R sc3 R qC ?_
 refine yi R R R (V R R (I (yV R (decide_eq_true R) ?_)))
 refine ze (y7 (clsL [1, 0, 1, 0, 0, 2, 1]) qk ?_)
 refine z9 0 R R (E R R (z7 (yE (i := 1) R R qk qk qk qk R qD qF R ?_)))
 refine z9 2 R R (zg R fo128_1 R ?_)
 refine z7 (zY (i := 3) R R R R qk qk qk qk R qD qF ?_)
 refine zf R sc108 R qC ?_
 refine z7 (zY (i := 4) R R R R qk qk qk qk R qD qF ?_)
 refine zx R zI R qN ?_
 refine z7 (zi 5 R (zp R (ev2 R R) qD qS (drop_spec (x := x) hx) ?_))
 rintro _ _ _ ⟨rfl, rfl, rfl⟩
 refine zm qA qA ?_
 refine zh R qD ?_
 refine z9 6 R R (V R R (z7 (zN qk ?_)))
 exact z8 (zo (yv (zL (zy R R ⟨R, R, R⟩ qD qF))))
theorem rgall0_spec {br : Nat} {a : Option Addr} {c : Nat}  : Spec Tryz.prog 53 [.pointer (some ⟨br, 0, none⟩), .slice a 0 c] [] [] (fun v D' M' => v = .bool true ∧ D' = [] ∧ M' = []) := by
 refine zv (n := 28) Tryz.func53 ?_
 intro σ D M
 refine O (V R R (I (ze (O (E R R (yb R xz R (E R R (I (zD (y8 (fun K' D' M' μ => K' = [(9, .int .i64 0)] ∧ D' = [] ∧ M' = [] ∧ μ = 0) (.c 0 R <| .c 7 R <| .c 8 R <| zd _) (⟨R, R, R, R⟩) (.c 9 R <| zd _) qD qS ?_))))))))))
 rintro K1 D1 M1 m1 ⟨rfl, rfl, rfl, rfl⟩
 refine zM qA qA qA ?_
 refine O (zW R R R (I (ze (zR R (decide_eq_false jD) ?_))))
 exact y4 (zG (zG (y5 (z8 (O (V R R (I (zo (zy R R ⟨R, R, R⟩ qD qF)))))))))
theorem records_spec {br bp bh ba : Nat} {pl : IvM} {hl al : SnM} (hm : pl.length ≤ 12) (h8 : R8 pl) (hd : ∀ x ∈ pl.map Prod.fst, VD pl 9 x) (hus : ∀ us, OrdF pl us → us.length ≤ 60000 ∧ ∀ x ∈ us, look pl x ≠ none) (hpl : ∀ e ∈ pl, e.2.2.2.1 ≤ 1000000 ∧ e.2.1.1.2 ≤ 4611686018427387904) (hh : hl.length ≤ 12) (ha : al.length ≤ 12) : Spec Tryz.prog 132 [.pointer (some ⟨br, 0, none⟩)] [cl br 128 (rgC bp bh ba), ifs pl] [mp bp aK ivV pl, mp bh aK iK hl, mp ba aK iK al] (fun v D' M' => ∃ (a' : Option Addr) (n' c' : Nat) (us hs qs : List ID32), v = .slice a' n' c' ∧ (TlF pl hl al us hs qs) ∧ ((recL pl us hs qs).length = n') ∧ D' = [] ∧ M' = [mp bp aK ivV pl, mp bh aK iK hl, mp ba aK iK al, own 3 85 a' n' c' ((recL pl us hs qs).map rcC)]) := by
 refine zv (n := 55) Tryz.func132 ?_
 intro σ D M
 refine O (V R R (I (O (V R R (zu (yM (sz := 3) (e := 85) ?_))))))
 refine y3 qP (show own 3 85 none 0 0 [] = own 3 85 none 0 0 (((([] : List ID32).take 0).map (rcT pl)).map rcC) from R) ?_
 refine z8 (ze (O (E R R (zp R (ev1 R) qD qS (order_spec (pl := pl) hm h8 hd) ?_))))
 rintro _ _ _ ⟨ua, un, uc, us, rfl, hof, hun, rfl, rfl⟩
 refine zm qA qA ?_
 refine yF (rows := us.map iC) qP ?_
 obtain ⟨hu1, hu2⟩ := hus us hof
 refine yb R yh R (E R R (I (zD (y8 (fun K' D' M' μ => ∃ (i on_ oc : Nat) (oa : Option Addr), (i ≤ un ∧ ((us.take i).map (rcT pl)).length = on_) ∧ K' = [(13, .int .i64 (i : Int)), (3, .slice oa on_ oc)] ∧ D' = [] ∧ M' = [mp bp aK ivV pl, mp bh aK iK hl, mp ba aK iK al, own 3 85 oa on_ oc (((us.take i).map (rcT pl)).map rcC)] ∧ μ = un - i) (.c 0 R <| .c 11 R <| .c 12 R <| zd _) (⟨0, 0, 0, none, ⟨Nat.zero_le _, R⟩, R, R, R, R⟩) (.c 13 R <| .c 3 R <| zd _) qD qS ?_))))
 rintro K1 D1 M1 m1 ⟨i, on_, oc, oa, ⟨hi, hol⟩, rfl, rfl, rfl, rfl⟩
 refine zM qA qA qA ?_
 refine O (zW R R R (I (ze (zA R (fun h14 => ?_) (fun h14 => ?_)))))
 ·try simp only [dq] at h14
  refine zq (z8 (ze (zD (ze ?_))))
  have hgi : us[i]? = some (gd us i) := y9 jO
  obtain ⟨x, hx_⟩ : ∃ z, z = gd us i := ⟨_, rfl⟩
  rw [← hx_] at hgi
  clear hx_
  have hgr : (us.map iC)[i]? = some (iC x) := yJ hgi
  have hx2 := x.2
  have hx3 := yw x
  obtain ⟨v, hlk⟩ := Option.ne_none_iff_exists'.1 (hu2 x (List.mem_of_getElem? hgi))
  have hv3 := ivC_len v
  refine T.fcsIn (L := pl.map iF) qM (iF_in (xR hlk)) ?_
  have hol2 := hol
  rw [List.length_map, List.length_take] at hol2
  refine zt (yP (i := i) R yh sz38 R R qM jR qG (fun b15 o15 => ?_))
  refine zx R zI R (xl qM hx3) ?_
  refine zC R ze38 (fun b5 => ?_)
  refine zz zI R R qL qO qU qW ?_
  refine zu (zO (A := cl b5 38 (iC x)) qP ?_)
  refine z8 (y7 (clsL [1, 1, 1, 1, 2, 1, 2, 2, 2, 2, 1]) qk ?_)
  refine z9 0 R R (E R R (z7 (z9 1 R R (E R R (z7 (yX (i := 2) R R qk qk qk R qD R ?_))))))
  refine z9 3 R R (zg R xy R ?_)
  refine z7 (z9 5 R R (zx R zI R qN ?_))
  refine z7 (zi 4 R (zf R sc126 R qC ?_))
  refine zh R qD ?_
  refine zi 6 R (L.look1S (kenc := aK) (venc := ivV) (l := pl) (k := x) (v := v) R yI (yo yf zX sc5) zv75 R R qM hlk ?_)
  refine zh R qD ?_
  refine zi 7 R (zH R (ev1 R) qD qS (adds_spec (l := v.1.2) (p := v.1.1) (hpl _ (xR hlk)).1 (hpl _ (xR hlk)).2) jF ?_)
  refine zh R qD ?_
  refine zi 8 R (yl R bs115 jD (yG R R j1 (Nat.le_of_ble_eq_true R) qR <| zQ (out := []) R) (fun b25 => ?_))
  refine zh R qD ?_
  refine zi 9 R (x6 R xz el85 R R qP qM R qO1 qI qI (fun a26 c26 => ?_))
  refine zh R qD ?_
  refine z9 10 R R (V R R (z7 (zN qk ?_)))
  refine zS (z8 (zt (zT R R R jO ?_)))
  refine E R R (I (yp _ (((us.take (i + 1)).map (rcT pl)).map rcC) qP (by rw [map_s hgi, List.map_append, show rcT pl x = ((2, inT v.1.1 v.1.2), 0) from by unfold rcT; rw [ivT_some hlk]]; rfl) ?_))
  exact zV ⟨i + 1, on_ + 1, _, _, ⟨by omega, by rw [show (us.take i).map (rcT pl) = (us.take i).map (rcT pl) from R] at hol; rw [map_s hgi]; simp at hol ⊢; omega⟩, R, R, R, R⟩ qI (.c 13 R <| .c 3 R <| zd _) (.c 0 R <| .c 11 R <| .c 12 R <| zd _) qD qD qF
 try simp only [dq] at h14
 obtain rfl : un = i := by omega
 rw [List.take_of_length_le jO] at hol ⊢
 refine y4 (zG (zG (y5 (z8 (ze (O (E R R (zp R (ev1 R) qD qS (held_spec (hl := hl) hh) ?_))))))))
 rintro _ _ _ ⟨ha_, hn, hc, hs, rfl, hhf, hhn, rfl, rfl⟩
 refine zm qA qA ?_
 refine yF (rows := hs.map iC) qP ?_
 have hhl := hhf.len
 rw [List.length_map] at hhl
 refine yb R yh R (E R R (I (zD (yp _ ((us.map (rcT pl) ++ (hs.take 0).map (rcK 4)).map rcC) qP (by simp) ?_))))
 refine y8 (fun K' D' M' μ => ∃ (i on_ oc : Nat) (oa : Option Addr), (i ≤ hn ∧ (us.map (rcT pl) ++ (hs.take i).map (rcK 4)).length = on_) ∧ K' = [(31, .int .i64 (i : Int)), (3, .slice oa on_ oc)] ∧ D' = [] ∧ M' = [mp bp aK ivV pl, mp bh aK iK hl, mp ba aK iK al, own 3 85 oa on_ oc ((us.map (rcT pl) ++ (hs.take i).map (rcK 4)).map rcC)] ∧ μ = hn - i) (.c 0 R <| .c 29 R <| .c 30 R <| zd _) (⟨0, on_, oc, oa, ⟨Nat.zero_le _, by simpa using hol⟩, R, R, R, R⟩) (.c 31 R <| .c 3 R <| zd _) qD qS ?_
 rintro K1 D1 M1 m1 ⟨i, on_, oc, oa, ⟨hi, hol⟩, rfl, rfl, rfl, rfl⟩
 refine zM qA qA qA ?_
 refine O (zW R R R (I (ze (zA R (fun h32 => ?_) (fun h32 => ?_)))))
 ·try simp only [dq] at h32
  refine zq (z8 (ze (zD (ze ?_))))
  have hgi : hs[i]? = some (gd hs i) := y9 jO
  obtain ⟨x, hx_⟩ : ∃ z, z = gd hs i := ⟨_, rfl⟩
  rw [← hx_] at hgi
  clear hx_
  have hgr : (hs.map iC)[i]? = some (iC x) := yJ hgi
  have hx2 := x.2
  have hx3 := yw x
  have hol2 := hol
  rw [List.length_append, List.length_map, List.length_map, List.length_take] at hol2
  refine zt (yP (i := i) R yh sz38 R R qM jR qG (fun b33 o33 => ?_))
  refine zx R zI R (xl qM hx3) ?_
  refine zC R ze38 (fun b7 => ?_)
  refine zz zI R R qL qO qU qW ?_
  refine zu (zO (A := cl b7 38 (iC x)) qP ?_)
  refine z8 (zt (E R R (zx R zI R qN ?_)))
  refine zH R (ev2 R R) qD qS (record_spec (k := 4) (x := x)) jF ?_
  refine yl R bs115 jD (yG R R j1 (Nat.le_of_ble_eq_true R) qR <| zQ (out := []) R) (fun b38 => ?_)
  refine x6 R xz el85 R R qP qM R qO1 qI qI (fun a39 c39 => ?_)
  refine V R R (zu (zS (z8 (zt (zT R R R jO ?_)))))
  refine E R R (I (yp _ ((us.map (rcT pl) ++ (hs.take (i + 1)).map (rcK 4)).map rcC) qP (by rw [map_s hgi]; simp [rcK]) ?_))
  exact zV ⟨i + 1, on_ + 1, _, _, ⟨by omega, by rw [show us.map (rcT pl) ++ (hs.take i).map (rcK 4) = us.map (rcT pl) ++ (hs.take i).map (rcK 4) from R] at hol; rw [map_s hgi]; simp at hol ⊢; omega⟩, R, R, R, R⟩ qI (.c 31 R <| .c 3 R <| zd _) (.c 0 R <| .c 29 R <| .c 30 R <| zd _) qD qD qF
 try simp only [dq] at h32
 obtain rfl : hn = i := by omega
 rw [List.take_of_length_le jO] at hol ⊢
 refine y4 (zG (zG (y5 (z8 (ze (O (E R R (zp R (ev1 R) qD qS (asked_spec (al := al) ha) ?_))))))))
 rintro _ _ _ ⟨qa, qn, qc, qs, rfl, hqf, hqn, rfl, rfl⟩
 refine zm qA qA ?_
 refine yF (rows := qs.map iC) qP ?_
 have hql := hqf.len
 rw [List.length_map] at hql
 refine yb R yh R (E R R (I (zD (yp _ ((us.map (rcT pl) ++ hs.map (rcK 4) ++ (qs.take 0).map (rcK 6)).map rcC) qP (by simp) ?_))))
 refine y8 (fun K' D' M' μ => ∃ (i on_ oc : Nat) (oa : Option Addr), (i ≤ qn ∧ (us.map (rcT pl) ++ hs.map (rcK 4) ++ (qs.take i).map (rcK 6)).length = on_) ∧ K' = [(44, .int .i64 (i : Int)), (3, .slice oa on_ oc)] ∧ D' = [] ∧ M' = [mp bp aK ivV pl, mp bh aK iK hl, mp ba aK iK al, own 3 85 oa on_ oc ((us.map (rcT pl) ++ hs.map (rcK 4) ++ (qs.take i).map (rcK 6)).map rcC)] ∧ μ = qn - i) (.c 42 R <| .c 43 R <| zd _) (⟨0, on_, oc, oa, ⟨Nat.zero_le _, by simpa using hol⟩, R, R, R, R⟩) (.c 44 R <| .c 3 R <| zd _) qD qS ?_
 rintro K1 D1 M1 m1 ⟨i, on_, oc, oa, ⟨hi, hol⟩, rfl, rfl, rfl, rfl⟩
 refine zM qA qA qA ?_
 refine O (zW R R R (I (ze (zA R (fun h45 => ?_) (fun h45 => ?_)))))
 ·try simp only [dq] at h45
  refine zq (z8 (ze (zD (ze ?_))))
  have hgi : qs[i]? = some (gd qs i) := y9 jO
  obtain ⟨x, hx_⟩ : ∃ z, z = gd qs i := ⟨_, rfl⟩
  rw [← hx_] at hgi
  clear hx_
  have hgr : (qs.map iC)[i]? = some (iC x) := yJ hgi
  have hx2 := x.2
  have hx3 := yw x
  have hol2 := hol
  rw [List.length_append, List.length_append, List.length_map, List.length_map, List.length_map, List.length_take] at hol2
  refine zt (yP (i := i) R yh sz38 R R qM jR qG (fun b46 o46 => ?_))
  refine zx R zI R (xl qM hx3) ?_
  refine zC R ze38 (fun b9 => ?_)
  refine zz zI R R qL qO qU qW ?_
  refine zu (zO (A := cl b9 38 (iC x)) qP ?_)
  refine z8 (zt (E R R (zx R zI R qN ?_)))
  refine zH R (ev2 R R) qD qS (record_spec (k := 6) (x := x)) jF ?_
  refine yl R bs115 jD (yG R R j1 (Nat.le_of_ble_eq_true R) qR <| zQ (out := []) R) (fun b51 => ?_)
  refine x6 R xz el85 R R qP qM R qO1 qI qI (fun a52 c52 => ?_)
  refine V R R (zu (zS (z8 (zt (zT R R R jO ?_)))))
  refine E R R (I (yp _ ((us.map (rcT pl) ++ hs.map (rcK 4) ++ (qs.take (i + 1)).map (rcK 6)).map rcC) qP (by rw [map_s hgi]; simp [rcK]) ?_))
  exact zV ⟨i + 1, on_ + 1, _, _, ⟨by omega, by rw [show us.map (rcT pl) ++ hs.map (rcK 4) ++ (qs.take i).map (rcK 6) = us.map (rcT pl) ++ hs.map (rcK 4) ++ (qs.take i).map (rcK 6) from R] at hol; rw [map_s hgi]; simp at hol ⊢; omega⟩, R, R, R, R⟩ qI (.c 44 R <| .c 3 R <| zd _) (.c 42 R <| .c 43 R <| zd _) qD qD qF
 try simp only [dq] at h45
 obtain rfl : qn = i := by omega
 rw [List.take_of_length_le jO] at hol ⊢
 refine y4 (zG (zG (y5 (z8 (O (E R R (V R R (I (zo (yp _ ((recL pl us hs qs).map rcC) qP (by rfl) ?_))))))))))
 exact zy R R ⟨_, _, _, us, hs, qs, R, ⟨hof, hhf, hqf⟩, hol, R, R⟩ qD qF
end Cv
