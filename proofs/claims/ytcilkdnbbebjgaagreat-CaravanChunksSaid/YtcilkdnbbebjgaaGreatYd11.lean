/-
  The walks: the law on chunks.
-/
import Derived.Test.YtcilkdnbbebjgaaGreatYc11
import Derived.Test.YtcilkdnbbebjgaaGreatProg
import Derived.KernelRfl
set_option linter.unusedVariables false
set_option linter.unusedSimpArgs false
set_option linter.unusedSectionVars false
set_option maxRecDepth 10000
namespace Cv
open Go Go.Proofs
/-! ## a path's chunks: plain laws; digits of sums -/
def dgS : List UInt8 := [48, 49, 50, 51, 52, 53, 54, 55, 56, 57, 97, 98, 99, 100, 101, 102]
def hex2 (c : UInt8) : List UInt8 := [gd dgS (c.toNat / 16), gd dgS (c.toNat % 16)]
def hexF (l : List UInt8) : List UInt8 := l.flatMap hex2
theorem hexF_s {l : List UInt8} {i : Nat} {c : UInt8} (h : l[i]? = some c) : hexF (l.take (i + 1)) = hexF (l.take i) ++ hex2 c := by
  unfold hexF; rw [List.take_add_one, h, List.flatMap_append]; simp
theorem hexF_len (l : List UInt8) : (hexF l).length = 2 * l.length := by
  induction l with
  | nil => rfl
  | cons c l ih => show (hex2 c ++ hexF l).length = _; rw [List.length_append, ih, List.length_cons]; show 2 + _ = _; omega
theorem and_15 (c : UInt8) : bitsAnd .u8 (c.toNat : Int) 15 = ((c.toNat % 16 : Nat) : Int) := by
  have h : ∀ n : Nat, n < 256 → bitsAnd .u8 (n : Int) 15 = ((n % 16 : Nat) : Int) := by decide +kernel
  exact h _ (by have := c.toNat_lt; simpa using this)
theorem shr_4 (c : UInt8) : Int.fdiv (c.toNat : Int) (2 ^ (min (4 : Int).toNat IntKind.u8.bits)) = ((c.toNat / 16 : Nat) : Int) := by
  show Int.fdiv (c.toNat : Int) 16 = _
  rw [Int.fdiv_eq_ediv_of_nonneg _ (by decide)]; omega
theorem hex_nil : (hexF (digest ([[]] : List (List UInt8)).flatten)).take 8 = [101, 51, 98, 48, 99, 52, 52, 50] := by decide +kernel
def xh : Tr := .mk [] 1 [104, 101, 108, 108, 111] []
theorem okT_h : OkT xh := ⟨by decide +kernel, by show (Tr.mk [] 1 [104, 101, 108, 108, 111] []).count ≤ _; rw [Tr.count_eq]; decide, tall_leaf, by decide, tall_leaf, by decide⟩
theorem put_h : (putT xh).length = 9 := by
  rw [putT_eq]
  show (numB 1 ++ (if (1 : Int) ≠ 4 then strB [104, 101, 108, 108, 111] else _)).length = _
  rw [if_pos (by decide), strB, List.length_append, List.length_append]
  have h : ∀ n, 0 < n → n < 256 → (numB n).length = 2 := by
    intro n h0 h1
    rw [numB, beB_pos h0, show n / 256 = 0 by omega, beB_0]; rfl
  rw [h _ (by decide) (by decide), h _ (by decide) (by decide)]; rfl
theorem wr_h : (wrS xh).length = 13 ∧ wrE xh = 0 := by
  obtain ⟨h1, h2⟩ := wr_ok okT_h.1 (by rw [put_h]; decide)
  exact ⟨by rw [h1, List.length_append, put_h]; rfl, h2⟩
theorem of_h {p : Pt} {os : List Ob} (h : (p, os, (0 : Int)) = ofB xh) : os.length = 2 ∧ p.2 = ((wrS xh).length : Int) := by
  have hw := wr_h.1
  have h0 : wrS xh ≠ [] := fun q => by rw [q] at hw; simp at hw
  have e : ofB xh = (upt 1 [lf (wrS xh)], [lo (wrS xh), uob 1 [lf (wrS xh)]], 0) := by
    unfold ofB
    rw [chnF_short (by omega) h0]
    exact bld_one h0 (by omega)
  obtain ⟨q, ns, ⟨e1, -⟩, e2, -⟩ := ofB_out (x := xh) (by omega)
  have h1 : os = [lo (wrS xh), uob 1 [lf (wrS xh)]] := by rw [e] at h; exact congrArg (·.2.1) h
  have h2 : p = q := by rw [e1] at h; exact congrArg (·.1) h
  exact ⟨by rw [h1]; rfl, by rw [h2, e2]⟩
theorem lo_get {cs : List (List UInt8)} {ns : List Ob} {i : Nat} {x : List UInt8} (h : cs[i]? = some x) : (cs.map lo ++ ns)[i]? = some (lo x) := by
  have hl := (List.getElem?_eq_some_iff.1 h).1
  rw [List.getElem?_append_left (by rw [List.length_map]; exact hl), List.getElem?_map, h]; rfl
theorem last_ob {A ns : List Ob} {p : Pt} (hn : ns ≠ []) (h : (ns.getLast?).map (·.2.1) = some p.1) : ∃ o : Ob, (A ++ ns)[(A ++ ns).length - 1]? = some o ∧ o.2.1 = p.1 := by
  have e : (A ++ ns).getLast? = ns.getLast? := by
    rw [List.getLast?_append]
    cases hq : ns.getLast? with
    | none => exact absurd (List.getLast?_eq_none_iff.1 hq) hn
    | some v => rfl
  rw [List.getLast?_eq_getElem?] at e
  cases hq : ns.getLast? with
  | none => exact absurd (List.getLast?_eq_none_iff.1 hq) hn
  | some v => rw [hq] at e h; exact ⟨v, e, by simpa using h⟩

set_option maxHeartbeats 400000 in
theorem hex_spec {l : List UInt8} (hl : l.length = 32) : Spec Tryz.prog 68 [.agg (l.map Y).toArray] [] [] (fun v D' M' => v = S (hexF l) ∧ D' = [] ∧ M' = []) := by
 refine Spec.intro (n := 22) Tryz.func68 rfl rfl (by decide) (Nat.le_of_ble_eq_true rfl) rfl (fun _ => qA) (fun _ => qA) ?_
 intro σ D M
 refine T.seq (T.region ?_)
 refine L.box rfl rfl rfl (fun b1 => ?_)
 refine L.assign rfl rfl ?_
 refine L.nil ?_
 refine T.thenN (T.seq (T.region ?_))
 refine L.assign rfl rfl ?_
 refine L.nil ?_
 refine T.newOwn (sz := 1) (e := 5) ?_
 refine T.eqv qP (show own 1 5 none 0 0 [] = own 1 5 none 0 0 ((hexF (l.take 0)).map yr) from rfl) ?_
 refine T.thenN (T.seq (T.seq (T.region ?_)))
 refine L.loadA rfl ag30 rfl qN ?_
 refine L.move rfl rfl ?_
 refine L.nil ?_
 refine T.thenN (T.block ?_)
 refine T.loop (fun K' D' M' μ => ∃ (i n3 c3 : Nat) (a3 : Option Addr), (i ≤ 32 ∧ n3 ≤ 2 * i) ∧ K' = [(7, .int .i64 (i : Int)), (3, .slice a3 n3 c3)] ∧ D' = [] ∧ M' = [own 1 5 a3 n3 c3 ((hexF (l.take i)).map yr)] ∧ μ = 32 - i) (.cons (t := 6) rfl <| SubK.nil _) (⟨0, 0, 0, none, ⟨Nat.zero_le _, Nat.zero_le _⟩, rfl, rfl, rfl, rfl⟩) (.cons (t := 7) rfl <| .cons (t := 3) rfl <| SubK.nil _) qD qS ?_
 rintro K1 D1 M1 m1 ⟨i, n3, c3, a3, ⟨hi, hn3⟩, rfl, rfl, rfl, rfl⟩
 refine T.norm3 qA qA qA ?_
 refine T.seq (T.region ?_)
 refine L.ltI rfl rfl rfl ?_
 refine L.nil ?_
 refine T.thenN (T.seq ?_)
 refine T.cond rfl (fun h8 => ?_) (fun h8 => ?_)
 ·try simp only [dq] at h8
  refine T.skip (T.thenN (T.seq (T.block (T.seq ?_))))
  have hgi : l[i]? = some (gd l i) := gd_get (by omega)
  refine T.region ?_
  refine L.indexV (i := i) rfl Tryz.underlying30 sc5 rfl rfl (by first | rfl | omega | (simp; done)) qI (by first | exact map_get (gd_get qL) | assumption | rfl) ?_
  refine L.assign rfl rfl ?_
  refine L.nil ?_
  refine T.thenN ?_
  obtain ⟨c, hc⟩ : ∃ c, c = gd l i := ⟨_, rfl⟩
  rw [← hc] at hgi ⊢
  have hc256 : c.toNat < 256 := by have := c.toNat_lt; simpa using this
  refine T.regionA (clsL [1, 1, 1, 1, 1, 1, 1, 2, 2, 1]) qk ?_
  refine A.takeP (i := 0) rfl rfl rfl rfl qk qk qk rfl qD ?_
  refine L.move rfl rfl ?_
  refine A.took ?_
  refine A.takeP (i := 1) rfl rfl rfl rfl qk qk qk rfl qD ?_
  refine L.move rfl rfl ?_
  refine A.took ?_
  refine A.takeP (i := 2) rfl rfl rfl rfl qk qk qk rfl qD ?_
  refine L.shrI rfl rfl rfl qI ?_
  refine L.known (t := 12) (u := .int .u8 ((c.toNat / 16 : Nat) : Int)) rfl (congrArg (Value.int .u8) (shr_4 c)) ?_
  refine A.took ?_
  refine A.takeP (i := 3) rfl rfl rfl rfl qk qk qk rfl qD ?_
  refine L.indexS (i := c.toNat / 16) rfl Tryz.underlying9 rfl rfl (by first | rfl | omega | (simp; done)) (gd_get (l := dgS) (by show c.toNat / 16 < 16; omega)) ?_
  refine A.took ?_
  refine A.takeP (i := 4) rfl rfl rfl rfl qk qk qk rfl qD ?_
  refine L.move rfl rfl ?_
  refine A.took ?_
  refine A.takeP (i := 5) rfl rfl rfl rfl qk qk qk rfl qD ?_
  refine L.andI rfl rfl rfl ?_
  refine L.known (t := 15) (u := .int .u8 ((c.toNat % 16 : Nat) : Int)) rfl (congrArg (Value.int .u8) (and_15 c)) ?_
  refine A.took ?_
  refine A.takeP (i := 6) rfl rfl rfl rfl qk qk qk rfl qD ?_
  refine L.indexS (i := c.toNat % 16) rfl Tryz.underlying9 rfl rfl (by first | rfl | omega | (simp; done)) (gd_get (l := dgS) (by show c.toNat % 16 < 16; omega)) ?_
  refine A.took ?_
  refine A.branch (is := [7]) qk (by decide) (Each.cons rfl ?_ <| Each.nil) 
  refine L.buildSlice rfl bs97 (by decide) (BP.one rfl rfl rfl <| BP.one rfl rfl rfl <| BP.doneE (out := []) rfl) (fun b17 => ?_)
  refine L.toOwn (len := 2) qP (rows := (hex2 c).map yr) (sz := 1) (by rfl) rfl (by simp [hex2]) ?_
  refine A.backT rfl qD ?_
  refine A.branch (is := [8]) qk (by decide) (Each.cons rfl ?_ <| Each.nil) 
  refine L.appendR rfl Tryz.underlying97 Tryz.underlying97 el5 rfl rfl qP (rd_M qM) (by first | with_reducible exact One.yr | (intro u hu; simp at hu; simp_all)) qI qI (fun a18 c18 => ?_)
  refine A.backT rfl qD ?_
  refine A.takeP (i := 9) rfl rfl rfl rfl qk qk qk rfl qD ?_
  refine L.assign rfl rfl ?_
  refine A.took ?_
  refine A.done qk ?_
  refine T.blkN (T.thenN (T.region ?_))
  refine L.addN rfl rfl rfl (by omega) ?_
  refine L.move rfl rfl ?_
  refine L.nil ?_
  refine T.thenN ?_
  refine T.ownEq _ ((hexF (l.take (i + 1))).map yr) qP (by rw [hexF_s hgi, List.map_append]) ?_
  exact T.back ⟨i + 1, n3 + 2, _, _, ⟨by omega, by omega⟩, rfl, rfl, rfl, rfl⟩ qI (.cons (t := 7) rfl <| .cons (t := 3) rfl <| SubK.nil _) (.cons (t := 6) rfl <| SubK.nil _) qD qD qF
 ·try simp only [dq] at h8
  obtain rfl : i = 32 := by omega
  rw [List.take_of_length_le (by omega)]
  refine T.exit (T.thenX (T.thenX (T.blkX (T.thenN (T.seq (T.region ?_))))))
  refine L.move rfl rfl ?_
  refine L.bytesStrO rfl Tryz.underlying97 Tryz.underlying5 Tryz.underlying9 rfl qM ?_
  refine L.assign rfl rfl ?_
  refine L.nil ?_
  refine T.thenN (T.ret ?_)
  exact T.ret1 rfl rfl ⟨rfl, rfl, rfl⟩ qD qF
set_option maxHeartbeats 400000 in
theorem live_spec   : Spec Tryz.prog 32 [] [] [] (fun v D' M' => v = .bool true ∧ D' = [] ∧ M' = []) := by
 refine Spec.intro (n := 49) Tryz.func32 rfl rfl (by decide) (Nat.le_of_ble_eq_true rfl) rfl (fun _ => qA) (fun _ => qA) ?_
 intro σ D M
 have hwh := wr_h
 refine T.seq (T.region ?_)
 refine L.assign rfl rfl ?_
 refine L.nil ?_
 refine T.thenN (T.seq (T.region ?_))
 refine L.build rfl bu24 (BP.one rfl rfl rfl <| BP.one rfl rfl rfl <| BP.doneE (out := [Value.slice none 0 0]) rfl) ?_
 refine L.alloc rfl ze24 (fun b1 => ?_)
 refine L.storeA ag24 rfl rfl qL qO qU qW ?_
 refine L.nil ?_
 refine T.clEq b1 (iRow xh none 0 0) qP (by rfl) ?_
 refine T.freeze (A := cl b1 24 (iRow xh none 0 0)) qP ?_
 refine T.fact0 (φ := rtr xh (eRow xh none 0 0)) (fun z => rt_leaf) ?_
 refine T.thenN (T.seq (T.region ?_))
 refine L.loadA rfl ag24 rfl qN ?_
 refine L.callF rfl (evs.cons rfl <| evs.nil) qD qS (write_spec (x := xh) none 0 0 (by have := okT_h.2.1; omega) tall_leaf (by decide)) (by rintro u D1 M1 ⟨rfl, rfl, rfl⟩; exact ⟨rfl, _, qA, qF⟩) ?_
 rw [hwh.2]
 refine L.move rfl rfl ?_
 refine L.extract rfl rfl rfl ?_
 refine L.extract rfl rfl rfl ?_
 refine L.assign rfl rfl ?_
 refine L.assign rfl rfl ?_
 refine L.nil ?_
 refine T.thenN (T.seq ?_)
 refine T.newOwn (sz := 32) (e := 31) ?_
 refine T.eqv qP (show own 32 31 none 0 0 [] = own 32 31 none 0 0 (([] : List ID32).map iC) from rfl) ?_
 refine T.ownRsl (rows := ([] : List ID32).map iC) qP ?_
 refine T.region ?_
 refine L.loadA rfl ag24 rfl qN ?_
 refine L.call rfl (evs.cons rfl <| evs.cons rfl <| evs.nil) qD qS (iof_y none 0 0 okT_h) ?_
 rintro _ _ _ ⟨ia, oa, ic, on, oc, p, os, rfl, ⟨hpo, hon⟩, rfl, rfl⟩
 refine L.norm qA qA ?_
 obtain ⟨hol, hps⟩ := of_h hpo
 obtain rfl : on = 2 := by omega
 have hin := inC_len p ia 0 ic
 have hp32 := p.1.2
 refine L.move rfl rfl ?_
 refine L.extract rfl rfl rfl ?_
 refine L.extract rfl rfl rfl ?_
 refine L.extract rfl rfl rfl ?_
 refine L.alloc rfl ze35 (fun b4 => ?_)
 refine L.storeA ag35 rfl rfl qL qO qU qW ?_
 refine L.assign rfl rfl ?_
 refine L.assign rfl rfl ?_
 refine L.nil ?_
 refine T.freeze (A := cl b4 35 (inC p ia 0 ic)) qP ?_
 refine T.thenN (T.seq (T.region ?_))
 refine L.move rfl rfl ?_
 refine L.eqI rfl rfl rfl ?_
 refine L.move rfl rfl ?_
 refine L.known (t := 21) rfl (show _ = Value.bool true from congrArg Value.bool (by decide)) ?_
 refine L.guardT (dj := 21) rfl rfl rfl ?_
 refine L.move rfl rfl ?_
 refine L.guardT (dj := 21) rfl rfl rfl ?_
 refine L.eqI rfl rfl rfl ?_
 refine L.pickT rfl rfl rfl ?_
 refine L.move rfl rfl ?_
 refine L.known (t := 25) rfl (show _ = Value.bool true from congrArg Value.bool (by decide)) ?_
 refine L.guardT (dj := 25) rfl rfl rfl ?_
 refine L.move rfl rfl ?_
 refine L.guardT (dj := 25) rfl rfl rfl ?_
 refine L.lenSl rfl Tryz.underlying36 rfl ?_
 refine L.guardT (dj := 25) rfl rfl rfl ?_
 refine L.eqI rfl rfl rfl ?_
 refine L.pickT rfl rfl rfl ?_
 refine L.move rfl rfl ?_
 refine L.known (t := 30) rfl (show _ = Value.bool true from congrArg Value.bool (by decide)) ?_
 refine L.guardT (dj := 30) rfl rfl rfl ?_
 first | refine L.field0 rfl fo35_0 rfl ?_ | refine L.field rfl fo35_0 rfl ?_
 refine L.guardT (dj := 30) rfl rfl rfl ?_
 first | refine L.field0 rfl fo33_1 rfl ?_ | refine L.field rfl fo33_1 rfl ?_
 refine L.guardT (dj := 30) rfl rfl rfl ?_
 refine L.load rfl sc3 rfl qC ?_
 refine L.guardT (dj := 30) rfl rfl rfl ?_
 refine L.move rfl rfl ?_
 refine L.guardT (dj := 30) rfl rfl rfl ?_
 refine L.lenStr rfl Tryz.underlying9 rfl ?_
 refine L.guardT (dj := 30) rfl rfl rfl ?_
 refine L.eqI rfl rfl rfl ?_
 refine L.pickT rfl rfl rfl ?_
 refine L.move rfl rfl ?_
 refine L.known (t := 38) rfl (show _ = Value.bool true from congrArg Value.bool (by rw [hps]; simp)) ?_
 refine L.guardT (dj := 38) rfl rfl rfl ?_
 refine L.buildSlice rfl bs25 (by decide) (BP.one rfl rfl rfl <| BP.doneE (out := []) rfl) (fun b39 => ?_)
 refine L.toOwn (len := 1) qP (rows := ([[]] : List (List UInt8)).map ys) (sz := 1) (by rfl) rfl (by simp) ?_
 refine L.ownRsl qP ?_
 refine L.guardT (dj := 38) rfl rfl rfl ?_
 refine L.call rfl (evs.cons rfl <| evs.nil) qD qS (hof_spec (ls := [[]]) (by decide) (by decide)) ?_
 rintro _ _ _ ⟨rfl, rfl, rfl⟩
 refine L.norm qA qA ?_
 have h32 := digest_len ([[]] : List (List UInt8)).flatten
 refine L.guardT (dj := 38) rfl rfl rfl ?_
 refine L.callF rfl (evs.cons rfl <| evs.nil) qD qS (hex_spec (l := digest ([[]] : List (List UInt8)).flatten) h32) (by rintro u D1 M1 ⟨rfl, rfl, rfl⟩; exact ⟨rfl, _, qA, qF⟩) ?_
 have hxl := hexF_len (digest ([[]] : List (List UInt8)).flatten)
 refine L.guardT (dj := 38) rfl rfl rfl ?_
 refine L.sliceS (a := 0) (b := 8) rfl Tryz.underlying9 rfl rfl ⟨_, (by first | rfl | (congr 2; omega))⟩ qI qI ?_
 refine L.guardT (dj := 38) rfl rfl rfl ?_
 refine L.eqS rfl rfl rfl ?_
 refine L.pickT rfl rfl rfl ?_
 refine L.move rfl rfl ?_
 refine L.known (t := 45) rfl (show _ = Value.bool true from congrArg Value.bool (decide_eq_true hex_nil)) ?_
 refine L.guardT (dj := 45) rfl rfl rfl ?_
 refine L.call rfl (evs.cons rfl <| evs.nil) qD qS (gnew_spec (seed := seedS) (by decide)) ?_
 rintro _ _ _ ⟨tb, rfl, rfl, rfl⟩
 refine L.norm qA qA ?_
 refine L.guardT (dj := 45) rfl rfl rfl ?_
 refine L.neqPtr rfl Tryz.underlying80 rfl rfl ?_
 refine L.pickT rfl rfl rfl ?_
 refine L.assign rfl rfl ?_
 refine L.nil ?_
 refine T.thenN (T.ret ?_)
 exact T.ret1 rfl rfl ⟨rfl, rfl, rfl⟩ qD qF
set_option maxHeartbeats 400000 in
theorem caravanChunks_spec {x : Tr} (a : Option Addr) (len cap : Nat)  : Spec Tryz.prog 7 [.agg (iRow x a len cap).toArray] [rtr x (eRow x a len cap)] [] (fun v D' M' => v = .bool true ∧ D' = [] ∧ M' = []) := by
 refine Spec.intro (n := 105) Tryz.func7 rfl rfl (by decide) (Nat.le_of_ble_eq_true rfl) rfl (fun _ => qA) (fun _ => qA) ?_
 intro σ D M
 refine T.seq (T.region ?_)
 refine L.box rfl rfl rfl (fun b1 => ?_)
 refine L.assign rfl rfl ?_
 refine L.nil ?_
 refine T.thenN (T.seq (T.region ?_))
 refine L.loadA rfl ag24 rfl qN ?_
 refine L.call rfl (evs.cons rfl <| evs.nil) qD qS (Right_spec (x := x) a len cap) ?_
 rintro _ _ _ ⟨Y, ya, yl, yc, rfl, hyo, rfl, rfl⟩
 refine L.norm qA qA ?_
 have hyc := hyo.2.1
 have hyw := small_wr hyo.1 hyo.2.1 hyo.2.2.2.2.1 hyo.2.2.2.2.2
 have hml : (wrS Y).length = 4 + (putT Y).length := by rw [hyw.1, List.length_append]; rfl
 obtain ⟨pp, ns, ⟨hof, hol⟩, hps, hnk, hnn, hla⟩ := ofB_out (x := Y) (by omega)
 refine L.storeA ag24 rfl rfl qL qO qU qW ?_
 refine L.nil ?_
 refine T.thenN (T.seq (T.seq (T.region ?_)))
 refine L.callF rfl (evs.nil) qD qS (live_spec) (by rintro u D1 M1 ⟨rfl, rfl, rfl⟩; exact ⟨rfl, _, qA, qF⟩) ?_
 refine L.notB rfl rfl ?_
 refine L.nil ?_
 refine T.thenN ?_
 refine T.condF rfl rfl ?_
 refine T.skip (T.thenN (T.seq (T.region ?_)))
 refine L.loadA rfl ag24 rfl qN ?_
 refine L.callF rfl (evs.cons rfl <| evs.nil) qD qS (write_spec (x := Y) _ _ _ (by omega) hyo.2.2.1 hyo.2.2.2.1) (by rintro u D1 M1 ⟨rfl, rfl, rfl⟩; exact ⟨rfl, _, qA, qF⟩) ?_
 rw [hyw.2.1]
 refine L.move rfl rfl ?_
 refine L.extract rfl rfl rfl ?_
 refine L.extract rfl rfl rfl ?_
 refine L.assign rfl rfl ?_
 refine L.assign rfl rfl ?_
 refine L.nil ?_
 refine T.thenN (T.seq ?_)
 refine T.newOwn (sz := 32) (e := 31) ?_
 refine T.eqv qP (show own 32 31 none 0 0 [] = own 32 31 none 0 0 (([] : List ID32).map iC) from rfl) ?_
 refine T.ownRsl (rows := ([] : List ID32).map iC) qP ?_
 refine T.region ?_
 refine L.loadA rfl ag24 rfl qN ?_
 refine L.call rfl (evs.cons rfl <| evs.cons rfl <| evs.nil) qD qS (iof_y ya yl yc hyo) ?_
 rintro _ _ _ ⟨ia, oa, ic, on, oc, p, os, rfl, ⟨hpo, hon⟩, rfl, rfl⟩
 refine L.norm qA qA ?_
 rw [hof] at hpo
 obtain ⟨rfl, hos, -⟩ : p = pp ∧ os = (chnF (gearT seedS) (wrS Y)).map lo ++ ns ∧ True := ⟨congrArg (·.1) hpo, congrArg (·.2.1) hpo, trivial⟩
 rw [← hos] at hol
 have hin := inC_len p ia 0 ic
 have hp32 := p.1.2
 refine L.move rfl rfl ?_
 refine L.extract rfl rfl rfl ?_
 refine L.extract rfl rfl rfl ?_
 refine L.extract rfl rfl rfl ?_
 refine L.alloc rfl ze35 (fun b5 => ?_)
 refine L.storeA ag35 rfl rfl qL qO qU qW ?_
 refine L.assign rfl rfl ?_
 refine L.assign rfl rfl ?_
 refine L.nil ?_
 refine T.freeze (A := cl b5 35 (inC p ia 0 ic)) qP ?_
 refine T.thenN (T.seq (T.seq (T.region ?_)))
 refine L.move rfl rfl ?_
 refine L.neI rfl rfl rfl ?_
 refine L.move rfl rfl ?_
 refine L.known (t := 31) rfl (show _ = Value.bool false from congrArg Value.bool (by decide)) ?_
 refine L.guardT (dj := 31) rfl rfl rfl ?_
 refine L.move rfl rfl ?_
 refine L.guardT (dj := 31) rfl rfl rfl ?_
 refine L.neI rfl rfl rfl ?_
 refine L.pickF rfl rfl rfl ?_
 refine L.nil ?_
 refine T.thenN ?_
 refine T.condF rfl (by decide) ?_
 refine T.skip (T.thenN (T.seq (T.region ?_)))
 refine L.call rfl (evs.cons rfl <| evs.nil) qD qS (gnew_spec (seed := seedS) (by decide)) ?_
 rintro _ _ _ ⟨tb, rfl, rfl, rfl⟩
 refine L.norm qA qA ?_
 refine L.move rfl rfl ?_
 refine L.call rfl (evs.cons rfl <| evs.cons rfl <| evs.nil) qD qS (cut2_spec (tt := gearT seedS) (s := wrS Y) gearT_len (by omega)) ?_
 rintro _ _ _ ⟨ka, kn, kc, rfl, hkn, rfl, rfl⟩
 refine L.norm qA qA ?_
 obtain ⟨cs, hcs⟩ : ∃ z, z = (chnF (gearT seedS) (wrS Y)) := ⟨_, rfl⟩
 rw [← hcs] at hkn hos ⊢
 refine L.ownRsl (rows := cs.map ys) qP ?_
 have hln : cs.length + ns.length = on := by rw [← hon, hos, List.length_append, List.length_map]
 refine L.assign rfl rfl ?_
 refine L.nil ?_
 refine T.thenN (T.seq (T.seq (T.region ?_)))
 refine L.move rfl rfl ?_
 refine L.lenSl rfl Tryz.underlying25 rfl ?_
 refine L.move rfl rfl ?_
 refine L.nil ?_
 refine T.thenN (T.block ?_)
 refine T.loop (fun K' D' M' μ => ∃ (i : Nat), (i ≤ kn) ∧ K' = [(40, .int .i64 (i : Int))] ∧ D' = [] ∧ M' = [] ∧ μ = kn - i) (.cons (t := 3) rfl <| .cons (t := 5) rfl <| .cons (t := 6) rfl <| .cons (t := 8) rfl <| .cons (t := 38) rfl <| .cons (t := 39) rfl <| SubK.nil _) (⟨0, Nat.zero_le _, rfl, rfl, rfl, rfl⟩) (.cons (t := 40) rfl <| SubK.nil _) qD qS ?_
 rintro K1 D1 M1 m1 ⟨i, hi, rfl, rfl, rfl, rfl⟩
 refine T.norm3 qA qA qA ?_
 refine T.seq (T.region ?_)
 refine L.ltI rfl rfl rfl ?_
 refine L.nil ?_
 refine T.thenN (T.seq ?_)
 refine T.cond rfl (fun h41 => ?_) (fun h41 => ?_)
 ·try simp only [dq] at h41
  refine T.skip (T.thenN (T.seq (T.block (T.seq ?_))))
  have hgi : cs[i]? = some (gd cs i) := gd_get (by omega)
  obtain ⟨x, hx_⟩ : ∃ x, x = gd cs i := ⟨_, rfl⟩
  rw [← hx_] at hgi
  have hgr : (cs.map ys)[i]? = some (ys x) := map_get hgi
  obtain ⟨o1, ho1, hk1, ht1⟩ : ∃ z : Ob, (os.map obC)[i]? = some (obC z) ∧ z.1 = 1 ∧ z.2.2 = x := ⟨lo x, map_get (by rw [hos]; exact lo_get hgi), rfl, rfl⟩
  have ho34 := obC_len o1
  have ho32 := o1.2.1.2
  have hilt : i < on := by have := (List.getElem?_eq_some_iff.1 ho1).1; rw [List.length_map] at this; omega
  refine T.rslAddr (rows := os.map obC) qM (fun e => by have := congrArg List.length e; rw [List.length_map] at this; simp only [List.length_nil] at this; omega) (fun ob_ oo_ ha => ?_)
  subst ha
  refine T.region ?_
  refine L.move rfl rfl ?_
  refine L.idx (i := i) rfl Tryz.underlying25 sz9 rfl rfl qM (by first | rfl | omega | (simp; done)) qG (fun b43 o43 => ?_)
  refine L.load rfl sc9 rfl qC ?_
  refine L.assign rfl rfl ?_
  refine L.assign rfl rfl ?_
  refine L.nil ?_
  refine T.thenN (T.seq (T.region ?_))
  refine L.move rfl rfl ?_
  refine L.move rfl rfl ?_
  refine L.lenSl rfl Tryz.underlying36 rfl ?_
  refine L.geI rfl rfl rfl ?_
  refine L.move rfl rfl ?_
  refine L.known (t := 49) rfl (show _ = Value.bool false from congrArg Value.bool (decide_eq_false (by omega))) ?_
  refine L.guardT (dj := 49) rfl rfl rfl ?_
  refine L.move rfl rfl ?_
  refine L.guardT (dj := 49) rfl rfl rfl ?_
  refine L.move rfl rfl ?_
  refine L.guardT (dj := 49) rfl rfl rfl ?_
  refine L.idx (i := i) rfl Tryz.underlying36 sz56 rfl rfl qM (by first | rfl | omega | (simp; done)) qG (fun b52 o52 => ?_)
  refine L.guardT (dj := 49) rfl rfl rfl ?_
  first | refine L.field0 rfl fo56_0 rfl ?_ | refine L.field rfl fo56_0 rfl ?_
  refine L.guardT (dj := 49) rfl rfl rfl ?_
  refine L.load rfl sc3 rfl qC ?_
  refine L.guardT (dj := 49) rfl rfl rfl ?_
  refine L.neI rfl rfl rfl ?_
  refine L.pickF rfl rfl rfl ?_
  refine L.move rfl rfl ?_
  refine L.known (t := 57) rfl (show _ = Value.bool false from congrArg Value.bool (by rw [hk1]; simp)) ?_
  refine L.guardT (dj := 57) rfl rfl rfl ?_
  refine L.move rfl rfl ?_
  refine L.guardT (dj := 57) rfl rfl rfl ?_
  refine L.move rfl rfl ?_
  refine L.guardT (dj := 57) rfl rfl rfl ?_
  refine L.idx (i := i) rfl Tryz.underlying36 sz56 rfl rfl qM (by first | rfl | omega | (simp; done)) qG (fun b60 o60 => ?_)
  refine L.guardT (dj := 57) rfl rfl rfl ?_
  first | refine L.field0 rfl fo56_2 rfl ?_ | refine L.field rfl fo56_2 rfl ?_
  refine L.guardT (dj := 57) rfl rfl rfl ?_
  refine L.load rfl sc9 rfl qC ?_
  refine L.guardT (dj := 57) rfl rfl rfl ?_
  refine L.move rfl rfl ?_
  refine L.guardT (dj := 57) rfl rfl rfl ?_
  refine L.neS rfl rfl rfl ?_
  refine L.pickF rfl rfl rfl ?_
  refine L.nil ?_
  refine T.thenN ?_
  refine T.condF rfl (by rw [ht1]; simp) ?_
  refine T.skip (T.blkN (T.thenN (T.region ?_)))
  refine L.addN rfl rfl rfl (by omega) ?_
  refine L.move rfl rfl ?_
  refine L.nil ?_
  refine T.thenN ?_
  exact T.back ⟨i + 1, (by omega), rfl, rfl, rfl, rfl⟩ qI (.cons (t := 40) rfl <| SubK.nil _) (.cons (t := 3) rfl <| .cons (t := 5) rfl <| .cons (t := 6) rfl <| .cons (t := 8) rfl <| .cons (t := 38) rfl <| .cons (t := 39) rfl <| SubK.nil _) qD qD qF
 ·try simp only [dq] at h41
  obtain rfl : kn = i := by omega
  refine T.rslLen2 (rows := os.map obC) qM (fun hol2 hoc => ?_)
  refine T.exit (T.thenX (T.thenX (T.blkX (T.thenN (T.seq (T.region ?_))))))
  refine L.assign rfl rfl ?_
  refine L.nil ?_
  refine T.thenN (T.seq (T.seq (T.region ?_)))
  refine L.move rfl rfl ?_
  refine L.move rfl rfl ?_
  refine L.lenSl rfl Tryz.underlying25 rfl ?_
  refine L.sliceR rfl Tryz.underlying36 sz56 rfl (Bd.at (x := kn) rfl (by first | rfl | omega | (simp; done))) Bd.no qM qI qI qI (fun a70 => ?_)
  refine L.derive (φ := rsl 34 a70 (on - kn) (oc - kn) (((os.map obC).drop kn).take (on - kn))) (ψ := rsl 34 a70 (on - kn) (oc - kn) (ns.map obC)) qM (fun z H => by rw [hos, List.map_append, List.drop_left' (by rw [List.length_map, List.length_map]; exact hkn), List.take_of_length_le (by rw [List.length_map]; omega)] at H; exact H) ?_
  refine L.lenSl rfl Tryz.underlying36 rfl ?_
  refine L.move rfl rfl ?_
  refine L.nil ?_
  refine T.thenN (T.block ?_)
  refine T.loop (fun K' D' M' μ => ∃ (j : Nat), (j ≤ ns.length) ∧ K' = [(72, .int .i64 (j : Int)), (11, .int .i64 (j : Int))] ∧ D' = [] ∧ M' = [] ∧ μ = ns.length - j) (.cons (t := 3) rfl <| .cons (t := 5) rfl <| .cons (t := 6) rfl <| .cons (t := 70) rfl <| .cons (t := 71) rfl <| SubK.nil _) (⟨0, Nat.zero_le _, rfl, rfl, rfl, rfl⟩) (.cons (t := 72) rfl <| .cons (t := 11) rfl <| SubK.nil _) qD qS ?_
  rintro K1 D1 M1 m1 ⟨j, hj, rfl, rfl, rfl, rfl⟩
  refine T.norm3 qA qA qA ?_
  refine T.seq (T.region ?_)
  refine L.ltI rfl rfl rfl ?_
  refine L.nil ?_
  refine T.thenN (T.seq ?_)
  refine T.cond rfl (fun h73 => ?_) (fun h73 => ?_)
  ·try simp only [dq] at h73
   refine T.skip (T.thenN (T.seq (T.block (T.seq ?_))))
   have hgj : ns[j]? = some (gd ns j) := gd_get (by omega)
   obtain ⟨o, ho_⟩ : ∃ x, x = gd ns j := ⟨_, rfl⟩
   rw [← ho_] at hgj
   have hgo : (ns.map obC)[j]? = some (obC o) := map_get hgj
   have ho34 := obC_len o
   have hok := hnk o (List.mem_of_getElem? hgj)
   refine T.region ?_
   refine L.idx (i := j) rfl Tryz.underlying36 sz56 rfl rfl qM (by first | rfl | omega | (simp; done)) qG (fun b74 o74 => ?_)
   refine L.loadA rfl ag56 rfl (CellsN.ofD qM ho34) ?_
   refine L.alloc rfl ze56 (fun b13 => ?_)
   refine L.storeA ag56 rfl rfl qL qO qU qW ?_
   refine L.nil ?_
   refine T.freeze (A := cl b13 56 (obC o)) qP ?_
   refine T.thenN (T.seq (T.seq (T.region ?_)))
   first | refine L.field0 rfl fo56_0 rfl ?_ | refine L.field rfl fo56_0 rfl ?_
   refine L.load rfl sc3 rfl qC ?_
   refine L.neI rfl rfl rfl ?_
   refine L.nil ?_
   refine T.thenN ?_
   refine T.condF rfl (decide_eq_false (by rw [hok]; decide)) ?_
   refine T.skip (T.thenN (T.region ?_))
   refine L.move rfl rfl ?_
   refine L.addN rfl rfl rfl (by omega) ?_
   refine L.assign rfl rfl ?_
   refine L.nil ?_
   refine T.blkN (T.thenN (T.region ?_))
   refine L.addN rfl rfl rfl (by omega) ?_
   refine L.move rfl rfl ?_
   refine L.nil ?_
   refine T.thenN ?_
   exact T.back ⟨j + 1, (by omega), rfl, rfl, rfl, rfl⟩ qI (.cons (t := 72) rfl <| .cons (t := 11) rfl <| SubK.nil _) (.cons (t := 3) rfl <| .cons (t := 5) rfl <| .cons (t := 6) rfl <| .cons (t := 70) rfl <| .cons (t := 71) rfl <| SubK.nil _) qD qD qF
  ·try simp only [dq] at h73
   obtain hjn : j = ns.length := by omega
   refine T.exit (T.thenX (T.thenX (T.blkX (T.thenN (T.seq ?_)))))
   obtain ⟨ol, hol1, hol2⟩ := last_ob (A := cs.map lo) hnn hla
   rw [← hos, hon] at hol1
   have hgo : (os.map obC)[on - 1]? = some (obC ol) := map_get hol1
   have hl34 := obC_len ol
   have hl32 := ol.2.1.2
   have hp32 := p.1.2
   have hnl1 : 1 ≤ ns.length := List.length_pos_iff.2 hnn
   refine T.rslAddr (rows := os.map obC) qM (fun e => by have := congrArg List.length e; rw [List.length_map] at this; simp only [List.length_nil] at this; omega) (fun ob_ oo_ ha => ?_)
   subst ha
   refine T.regionQ qk qk ?_
   refine L.move rfl rfl ?_
   refine L.gtI rfl rfl rfl ?_
   refine L.move rfl rfl ?_
   refine L.known (t := 84) rfl (show _ = Value.bool true from congrArg Value.bool (decide_eq_true (by omega))) ?_
   refine L.guardT (dj := 84) rfl rfl rfl ?_
   first | refine L.field0 rfl fo35_0 rfl ?_ | refine L.field rfl fo35_0 rfl ?_
   refine L.guardT (dj := 84) rfl rfl rfl ?_
   first | refine L.field0 rfl fo33_1 rfl ?_ | refine L.field rfl fo33_1 rfl ?_
   refine L.guardT (dj := 84) rfl rfl rfl ?_
   refine L.load rfl sc3 rfl qC ?_
   refine L.guardT (dj := 84) rfl rfl rfl ?_
   refine L.move rfl rfl ?_
   refine L.guardT (dj := 84) rfl rfl rfl ?_
   refine L.lenStr rfl Tryz.underlying9 rfl ?_
   refine L.guardT (dj := 84) rfl rfl rfl ?_
   refine L.eqI rfl rfl rfl ?_
   refine L.pickT rfl rfl rfl ?_
   refine L.move rfl rfl ?_
   refine L.known (t := 92) rfl (show _ = Value.bool true from congrArg Value.bool (by rw [hps]; simp)) ?_
   refine L.guardT (dj := 92) rfl rfl rfl ?_
   first | refine L.field0 rfl fo35_0 rfl ?_ | refine L.field rfl fo35_0 rfl ?_
   refine L.guardT (dj := 92) rfl rfl rfl ?_
   first | refine L.field0 rfl fo33_0 rfl ?_ | refine L.field rfl fo33_0 rfl ?_
   refine L.guardT (dj := 92) rfl rfl rfl ?_
   refine L.loadA rfl ag31 rfl qN ?_
   refine L.guardT (dj := 92) rfl rfl rfl ?_
   refine L.move rfl rfl ?_
   refine L.guardT (dj := 92) rfl rfl rfl ?_
   refine L.move rfl rfl ?_
   refine L.guardT (dj := 92) rfl rfl rfl ?_
   refine L.lenSl rfl Tryz.underlying36 rfl ?_
   refine L.guardT (dj := 92) rfl rfl rfl ?_
   refine L.subN rfl rfl rfl (by omega) ?_
   refine L.guardT (dj := 92) rfl rfl rfl ?_
   refine L.idxR (i := on - 1) rfl Tryz.underlying36 sz56 rfl rfl qM (by first | rfl | omega | (simp; done)) qI qG ?_
   refine L.guardT (dj := 92) rfl rfl rfl ?_
   first | refine L.field0 rfl fo56_1 rfl ?_ | refine L.field rfl fo56_1 rfl ?_
   refine L.guardT (dj := 92) rfl rfl rfl ?_
   refine L.loadA rfl ag31 rfl qN ?_
   refine L.guardT (dj := 92) rfl rfl rfl ?_
   refine L.eqlArrI qk rfl Tryz.underlying31 Tryz.underlying5 sc5 rfl rfl qL qL ?_
   refine L.pickT rfl rfl rfl ?_
   refine L.assign rfl rfl ?_
   refine L.nilQ ?_
   refine T.thenN (T.ret ?_)
   exact T.ret1 rfl rfl ⟨congrArg Value.bool (decide_eq_true (by rw [hol2])), rfl, rfl⟩ qD qF
end Cv
