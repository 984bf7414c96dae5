/-
  The walks of the laws over repute.
-/
import Derived.Test.YtodalpmgmmobbaaM23
import Derived.Test.YtodalpmgmmobbaaProg
import Derived.KernelRfl
set_option maxRecDepth 10000
set_option linter.unusedSimpArgs false
set_option linter.unusedVariables false
namespace Cv
open Go Go.Proofs
theorem ban_no {b : Nat} {n k : Int} {id tx : List UInt8} {F : Int → Mind} (hid : id.length = 32) (htx : tx.length ≤ 35184372088832) (h : oidF k tx = id) :
    Spec Try.prog 16 [.pointer (some ⟨b, 0, none⟩), .int .i64 n, .agg (pcells (k, id, tx)).toArray] [] [bookA b F] (fun v D' M' => v = .int .i64 10 ∧ D' = [] ∧ M' = [bookA b F]) :=
  (ban_spec hid htx).imp (by rintro _ _ _ ⟨rfl, rfl, rfl⟩; exact ⟨by rw [if_pos h], rfl, by rw [banB, if_pos h]⟩)
theorem ban_yes {b : Nat} {n k : Int} {id tx : List UInt8} {F : Int → Mind} (hid : id.length = 32) (htx : tx.length ≤ 35184372088832) (h : ¬ oidF k tx = id) :
    Spec Try.prog 16 [.pointer (some ⟨b, 0, none⟩), .int .i64 n, .agg (pcells (k, id, tx)).toArray] [] [bookA b F] (fun v D' M' => v = .int .i64 0 ∧ D' = [] ∧ M' = [bookA b (updM F n (banM (F n) (k, id, tx)))]) :=
  (ban_spec hid htx).imp (by rintro _ _ _ ⟨rfl, rfl, rfl⟩; exact ⟨by rw [if_neg h], rfl, by rw [banB, if_neg h]⟩)
theorem hab : ¬ oidF 1 [98] = oidF 1 [97] := by
  unfold oidF
  rw [digest_short (by decide), digest_short (by decide)]
  decide +kernel
theorem T.bookEq {σ : World} {sn : Nat} {G : Act → World → Prop} {K : Env} {D M N : List Asn} {b : Nat} {F : Int → Mind} (F' : Int → Mind) (hM : Pull (bookA b F) M N) (h : ∀ k, F k = F' k) (next : T σ sn G K D (bookA b F' :: N)) : T σ sn G K D M := by
  obtain rfl : F = F' := funext h
  exact T.drop hM next
def AK (k : Int) : Mind := if k = 3 then (-3, 8, 8, none) else if k = 2 then (0, 0, 0, some (1, oidF 1 [97], [98])) else zM
theorem updM_at {F : Int → Mind} {n : Int} {m : Mind} : updM F n m n = m := by simp [updM]
theorem updM_ne {F : Int → Mind} {n k : Int} {m : Mind} (h : k ≠ n) : updM F n m k = F k := by simp [updM, h]
def WInv (F : Int → Mind) (k : Nat) (now wt : Int) : Prop := wt = silW (F 3) ∧ (F 3).2.2.1 ≤ now ∧ (F 3).2.2.2 = none ∧ F 4 = zM ∧ 0 ≤ now ∧ now ≤ 100000 + 32 * (k : Int) ∧ k ≤ 12
theorem winv_0 {t : Int} (h : 0 ≤ t ∧ t < 100000) : WInv (fun _ => zM) 0 t 2 := ⟨rfl, h.1, rfl, rfl, h.1, by omega, by omega⟩
theorem winv_step {F F2 : Int → Mind} {k : Nat} {now wt : Int} (h : WInv F k now wt) (hk : k < 12) (e : F2 = updM F 3 (silM (F 3) now)) :
    (F2 3).2.2.1 = now + wt ∧ mayB F2 3 (now + wt - 1) = false ∧ mayB F2 3 (now + wt) = true ∧ WInv F2 (k + 1) (now + wt) (min (2 * wt) 32) ∧ 2 ≤ wt ∧ wt ≤ 32 := by
  obtain ⟨h1, h2, h3, h4, h5, h6, h7⟩ := h
  have e3 : F2 3 = silM (F 3) now := by rw [e, updM_at]
  have e4 : F2 4 = zM := by rw [e, updM_ne (by decide), h4]
  have w1 : 2 ≤ wt ∧ wt ≤ 32 := by simp only [silW] at h1; omega
  have u : (F2 3).2.2.1 = now + wt := by rw [e3]; simp only [silM, ← h1]; omega
  have p : (F2 3).2.2.2 = none := by rw [e3]; exact h3
  have w2 : (F2 3).2.1 = wt := by rw [e3]; exact h1.symm
  refine ⟨u, ?_, ?_, ⟨?_, by omega, p, e4, by omega, by omega, by omega⟩, w1.1, w1.2⟩
  · simp only [mayB, u, p]; simp; omega
  · simp only [mayB, u, p]; simp
  · simp only [silW, w2]; omega
theorem tmod_bd (x : Int) : -100000 < x.tmod 100000 ∧ x.tmod 100000 < 100000 := by
  have h1 := Int.tmod_lt_of_pos x (b := 100000) (by decide)
  have h2 := Int.lt_tmod_of_pos x (b := 100000) (by decide)
  omega
theorem tick_eq (x : Int) : (x.tmod 100000 + 100000) % 100000 = x % 100000 := by
  have := Int.tmod_eq_emod (a := x) (b := 100000)
  split at this <;> omega
theorem wfin {F : Int → Mind} {k : Nat} {now wt : Int} (h : WInv F k now wt) :
    (updM (updM F 3 (goodM (F 3))) 3 (silM ((updM F 3 (goodM (F 3))) 3) now) 3).2.2.1 = now + 2 ∧ (updM (updM F 3 (goodM (F 3))) 3 (silM ((updM F 3 (goodM (F 3))) 3) now) 4).2.2.1 = 0 := by
  obtain ⟨h1, h2, h3, h4, h5, h6, h7⟩ := h
  constructor
  · simp only [updM_at, goodM, silM, silW]; omega
  · rw [updM_ne (by decide), updM_ne (by decide), h4]
    rfl
def BG (k : Nat) (x : Int) : Mind := if x = 1 then (min (k : Int) 20, 0, 0, none) else zM
theorem bg_0 (x : Int) : zM = BG 0 x := by unfold BG zM; split <;> first | rfl | decide
theorem bg_s (k : Nat) (x : Int) : updM (BG k) 1 (goodM (BG k 1)) x = BG (k + 1) x := by
  unfold updM BG
  split <;> rename_i h
  · simp [goodM]; omega
  · rfl
def SInv (F : Int → Mind) (up : Int) (j : Nat) : Prop := (F 1).1 = max (up - j) (-20) ∧ F 2 = zM ∧ up ≤ 20 ∧ 0 ≤ up
theorem sinv_0 {k : Nat} : SInv (BG k) (min (k : Int) 20) 0 := ⟨by simp [BG]; omega, by simp [BG], by omega, by omega⟩
theorem sinv_s {F : Int → Mind} {up : Int} {j : Nat} (h : SInv F up j) : SInv (updM F 1 (silM (F 1) 0)) up (j + 1) :=
  ⟨by rw [updM_at]; have := h.1; simp only [silM]; omega, by rw [updM_ne (by decide)]; exact h.2.1, h.2.2⟩
def lv (l : List (Int × Int)) (n : Int) : Int := (look l n).getD 0
theorem lv_eq {l : List (Int × Int)} {n : Int} : ((look l n).map iK).getD (Value.int .i64 0) = .int .i64 (lv l n) := by
  unfold lv; cases look l n <;> rfl
theorem lv_put {l : List (Int × Int)} {n v k : Int} : lv (put l n v) k = if k = n then v else lv l k := by
  unfold lv; rw [look_put]; split <;> rfl
def JInv (F : Int → Mind) (l : List (Int × Int)) (now : Int) : Prop := (∀ n, (F n).2.2.1 ≤ lv l n + 32) ∧ (F 0).2.2.2 = none ∧ (∀ n, 0 ≤ lv l n ∧ lv l n ≤ now)
theorem jinv_0 : JInv (fun _ => zM) [] 0 := ⟨fun n => by simp [lv, look, zM], rfl, fun n => by simp [lv, look]⟩
theorem jinv_now {F : Int → Mind} {l : List (Int × Int)} {now now' : Int} (h : JInv F l now) (e : now ≤ now') : JInv F l now' := ⟨h.1, h.2.1, fun n => ⟨(h.2.2 n).1, by have := (h.2.2 n).2; omega⟩⟩
theorem jinv_ban {F : Int → Mind} {l : List (Int × Int)} {now n : Int} {p : PF} (h : JInv F l now) (e : n ≠ 0) : JInv (banB F n p) l now := by
  unfold banB
  split
  · exact h
  · refine ⟨fun k => ?_, by rw [updM_ne (Ne.symm e)]; exact h.2.1, h.2.2⟩
    unfold updM
    split
    · rename_i hk; subst hk; exact h.1 k
    · exact h.1 k
theorem jinv_sil {F : Int → Mind} {l : List (Int × Int)} {now n : Int} (h : JInv F l now) (h0 : 0 ≤ now) : JInv (updM F n (silM (F n) now)) (put l n now) now := by
  have h1 := h.1; have h3 := h.2.2
  refine ⟨fun k => ?_, ?_, fun k => ?_⟩
  · rw [lv_put]
    unfold updM
    split
    · rename_i hk; subst hk
      have := h1 k; have := h3 k
      simp only [silM, silW]; omega
    · exact h1 k
  · unfold updM
    split
    · rename_i hk; subst hk; exact h.2.1
    · exact h.2.1
  · rw [lv_put]
    split
    · omega
    · exact h3 k
theorem jinv_good {F : Int → Mind} {l : List (Int × Int)} {now n : Int} (h : JInv F l now) : JInv (updM F n (goodM (F n))) l now := by
  have h3 := h.2.2
  refine ⟨fun k => ?_, ?_, h3⟩
  · unfold updM
    split
    · have := h3 k; simp only [goodM]; omega
    · exact h.1 k
  · unfold updM
    split
    · rename_i hk; subst hk; exact h.2.1
    · exact h.2.1
theorem zv38 : ∀ w, (zeroValue 38).run Try.prog w = .ok (Value.agg #[Value.int .i64 0, S [], S []]) w := fun w => by kernel_rfl
theorem ze38 : Ze Try.prog 38 [Value.int .i64 0, S [], S []] := ⟨_, rfl, zv38⟩
theorem fo32_3 : Fo Try.prog 32 3 3 := fun a w => by kernel_rfl
theorem fo32_4 : Fo Try.prog 32 4 4 := fun a w => by kernel_rfl
theorem bu38 : Bu Try.prog 38 [Value.int .i64 0, S [], S []] (fun (i : Nat) => ([(0, 1), (1, 1), (2, 1)] : List (Nat × Nat))[i]?) := bu_of Try.underlying38 zv38 rfl (fun w => by kernel_rfl)
theorem ag38 : Ag Try.prog 38 3 := fun w => ⟨by kernel_rfl, by kernel_rfl⟩
@[reducible] def e9 : List UInt8 → List Value | a => [S a]
def g9 : List UInt8 → Prop | a => a.length ≤ maxLen
theorem el9z {H : Type} {enc : TypeId × Value → H} {W : World} {base : Nat} {sp : Nat → Bool} {held : Bool} {n : Nat} {cs : List Value} {y : DataW H × List MemPlace} (h : DataW.trod enc Try.prog W base sp held n 9 cs = some y) : ∃ z, cs = e9 z ∧ g9 z := by
  obtain ⟨n, rfl, -, hw⟩ := DataW.trod_string Try.underlying9 h
  exact ⟨n.data.toList, rfl, hw⟩
@[reducible] def e32 : Int × Int × Int × List UInt8 × List UInt8 → List Value | (a_0, a_1, a_2, a_3, a_4) => [.int .i64 a_0, .int .i64 a_1, .int .i64 a_2, S a_3, S a_4]
def g32 : Int × Int × Int × List UInt8 × List UInt8 → Prop | (a_0, a_1, a_2, a_3, a_4) => (-9223372036854775808 ≤ a_0 ∧ a_0 ≤ 9223372036854775807) ∧ (-9223372036854775808 ≤ a_1 ∧ a_1 ≤ 9223372036854775807) ∧ (-9223372036854775808 ≤ a_2 ∧ a_2 ≤ 9223372036854775807) ∧ a_3.length ≤ maxLen ∧ a_4.length ≤ maxLen
theorem el32z {H : Type} {enc : TypeId × Value → H} {W : World} {base : Nat} {sp : Nat → Bool} {held : Bool} {n : Nat} {cs : List Value} {y : DataW H × List MemPlace} (h : DataW.trod enc Try.prog W base sp held n 32 cs = some y) : ∃ z, cs = e32 z ∧ g32 z := by
  obtain ⟨xs, m, -, -, hl, hx, hf⟩ := DataW.trod_struct Try.underlying32 h
  rw [show Try.prog.cellsOf 32 = 5 from by kernel_rfl] at hl
  match cs, hl with
  | [c0, c1, c2, c3, c4], _ =>
    obtain ⟨y0, h0⟩ := Cv.el_field (o := 0) hx hf 0 _ rfl rfl (show Try.prog.cellsOf 3 = 1 from by kernel_rfl)
    obtain ⟨a_0, e0, w0⟩ := el3z h0
    simp only [e3, List.drop, List.take, List.cons.injEq, and_true] at e0
    obtain rfl := e0
    simp only [g3] at w0
    obtain ⟨y1, h1⟩ := Cv.el_field (o := 1) hx hf 1 _ rfl rfl (show Try.prog.cellsOf 3 = 1 from by kernel_rfl)
    obtain ⟨a_1, e1, w1⟩ := el3z h1
    simp only [e3, List.drop, List.take, List.cons.injEq, and_true] at e1
    obtain rfl := e1
    simp only [g3] at w1
    obtain ⟨y2, h2⟩ := Cv.el_field (o := 2) hx hf 2 _ rfl rfl (show Try.prog.cellsOf 3 = 1 from by kernel_rfl)
    obtain ⟨a_2, e2, w2⟩ := el3z h2
    simp only [e3, List.drop, List.take, List.cons.injEq, and_true] at e2
    obtain rfl := e2
    simp only [g3] at w2
    obtain ⟨y3, h3⟩ := Cv.el_field (o := 3) hx hf 3 _ rfl rfl (show Try.prog.cellsOf 9 = 1 from by kernel_rfl)
    obtain ⟨a_3, e3, w3⟩ := el9z h3
    simp only [e9, List.drop, List.take, List.cons.injEq, and_true] at e3
    obtain rfl := e3
    simp only [g9] at w3
    obtain ⟨y4, h4⟩ := Cv.el_field (o := 4) hx hf 4 _ rfl rfl (show Try.prog.cellsOf 9 = 1 from by kernel_rfl)
    obtain ⟨a_4, e4, w4⟩ := el9z h4
    simp only [e9, List.drop, List.take, List.cons.injEq, and_true] at e4
    obtain rfl := e4
    simp only [g9] at w4
    exact ⟨(a_0, a_1, a_2, a_3, a_4), rfl, ⟨w0, w1, w2, w3, w4⟩⟩
theorem sz32 : Sz Try.prog 32 5 := fun w => by kernel_rfl
theorem ag32 : Ag Try.prog 32 5 := fun w => ⟨by kernel_rfl, by kernel_rfl⟩
theorem zv32 : ∀ w, (zeroValue 32).run Try.prog w = .ok (Value.agg #[Value.int .i64 0, Value.int .i64 0, Value.int .i64 0, S [], S []]) w := fun w => by kernel_rfl
theorem ze32 : Ze Try.prog 32 [Value.int .i64 0, Value.int .i64 0, Value.int .i64 0, S [], S []] := ⟨_, rfl, zv32⟩
theorem fo32_1 : Fo Try.prog 32 1 1 := fun a w => by kernel_rfl
theorem fo32_2 : Fo Try.prog 32 2 2 := fun a w => by kernel_rfl
theorem fo32_0 : Fo Try.prog 32 0 0 := fun a w => by kernel_rfl
set_option maxHeartbeats 400000 in
theorem awake_spec   : Spec Try.prog 8 [] [] [] (fun v D' M' => v = .bool true ∧ D' = [] ∧ M' = []) := by
  refine Spec.intro (n := 54) Try.func8 rfl rfl (by decide) (Nat.le_of_ble_eq_true rfl) rfl (fun _ => qA) (fun _ => qA) ?_
  intro σ D M
  refine T.seq ?_
  refine T.region ?_
  refine L.assign rfl rfl ?_
  refine L.nil ?_
  refine T.thenN ?_
  refine T.seq ?_
  refine T.region ?_
  refine L.call rfl (evs.nil) qD qS (rnew_spec) ?_
  rintro _ _ _ ⟨b, rfl, rfl, rfl⟩
  refine L.norm qA qA ?_
  refine L.assign rfl rfl ?_
  refine L.nil ?_
  refine T.thenN ?_
  refine T.seq ?_
  refine T.seq ?_
  refine T.region ?_
  refine L.move rfl rfl ?_
  refine L.eqlPtr rfl Try.underlying23 rfl rfl ?_
  refine L.nil ?_
  refine T.thenN ?_
  refine T.condF rfl rfl ?_
  refine T.skip ?_
  refine T.thenN ?_
  refine T.seq ?_
  refine T.region ?_
  refine L.move rfl rfl ?_
  refine L.call rfl (evs.cons rfl <| evs.cons rfl <| evs.cons rfl <| evs.nil) qD qS (silent_spec (by omega) (by omega)) ?_
  rintro _ _ _ ⟨rfl, rfl, rfl⟩
  refine L.norm qA qA ?_
  refine L.nil ?_
  refine T.thenN ?_
  refine T.seq ?_
  refine T.region ?_
  refine L.move rfl rfl ?_
  refine L.call rfl (evs.cons rfl <| evs.cons rfl <| evs.cons rfl <| evs.nil) qD qS (silent_spec (by omega) (by omega)) ?_
  rintro _ _ _ ⟨rfl, rfl, rfl⟩
  refine L.norm qA qA ?_
  refine L.nil ?_
  refine T.thenN ?_
  refine T.seq ?_
  refine T.region ?_
  refine L.move rfl rfl ?_
  refine L.call rfl (evs.cons rfl <| evs.cons rfl <| evs.cons rfl <| evs.nil) qD qS (silent_spec (by omega) (by omega)) ?_
  rintro _ _ _ ⟨rfl, rfl, rfl⟩
  refine L.norm qA qA ?_
  refine L.nil ?_
  refine T.thenN ?_
  refine T.seq ?_
  refine T.region ?_
  refine L.move rfl rfl ?_
  refine L.buildSlice rfl bs81 (by decide) (BP.one rfl rfl rfl <| BP.doneE (out := []) rfl) (fun b16 => ?_)
  refine L.toOwn (len := 1) qP (rows := [[97]].map ys) (sz := 1) (by rfl) rfl (by simp) ?_
  refine L.ownRsl qP ?_
  refine L.call rfl (evs.cons rfl <| evs.cons rfl <| evs.nil) qD qS (oidof_spec (ls := [[97]]) (by simp) (by simp)) ?_
  rintro _ _ _ ⟨rfl, rfl, rfl⟩
  refine L.norm qA qA ?_
  rw [show oidF 1 [[97]].flatten = oidF 1 [97] from rfl]
  have h32 := oidF_len 1 [97]
  refine L.build rfl bu36 (BP.one rfl rfl rfl <| BP.agg rfl rfl (by first | with_reducible assumption | (simp; done) | (simp only [List.length_map]; with_reducible assumption) | (simp [*]; done) | rfl) (Nat.le_of_ble_eq_true rfl) qR <| BP.one rfl rfl rfl <| BP.doneE (out := []) rfl) ?_
  refine L.call rfl (evs.cons rfl <| evs.cons rfl <| evs.cons rfl <| evs.nil) qD qS (ban_no (k := 1) (id := oidF 1 [97]) (tx := [97]) h32 (by simp) rfl) ?_
  rintro _ _ _ ⟨rfl, rfl, rfl⟩
  refine L.norm qA qA ?_
  refine L.assign rfl rfl ?_
  refine L.nil ?_
  refine T.thenN ?_
  refine T.seq ?_
  refine T.region ?_
  refine L.move rfl rfl ?_
  refine L.buildSlice rfl bs81 (by decide) (BP.one rfl rfl rfl <| BP.doneE (out := []) rfl) (fun b21 => ?_)
  refine L.toOwn (len := 1) qP (rows := [[97]].map ys) (sz := 1) (by rfl) rfl (by simp) ?_
  refine L.ownRsl qP ?_
  refine L.call rfl (evs.cons rfl <| evs.cons rfl <| evs.nil) qD qS (oidof_spec (ls := [[97]]) (by simp) (by simp)) ?_
  rintro _ _ _ ⟨rfl, rfl, rfl⟩
  refine L.norm qA qA ?_
  rw [show oidF 1 [[97]].flatten = oidF 1 [97] from rfl]
  have h32 := oidF_len 1 [97]
  refine L.build rfl bu36 (BP.one rfl rfl rfl <| BP.agg rfl rfl (by first | with_reducible assumption | (simp; done) | (simp only [List.length_map]; with_reducible assumption) | (simp [*]; done) | rfl) (Nat.le_of_ble_eq_true rfl) qR <| BP.one rfl rfl rfl <| BP.doneE (out := []) rfl) ?_
  refine L.call rfl (evs.cons rfl <| evs.cons rfl <| evs.cons rfl <| evs.nil) qD qS (ban_yes (k := 1) (id := oidF 1 [97]) (tx := [98]) h32 (by simp) hab) ?_
  rintro _ _ _ ⟨rfl, rfl, rfl⟩
  refine L.norm qA qA ?_
  refine L.assign rfl rfl ?_
  refine L.nil ?_
  refine T.bookEq AK qP (fun k => by
    by_cases h3 : k = 3
    · subst h3; rfl
    · by_cases h2 : k = 2
      · subst h2; rfl
      · simp [updM, AK, h2, h3]) ?_
  have h34 : (pcells ((AK 2).2.2.2.getD zP)).length = 34 := by simp [AK, oidF_len]
  refine T.thenN ?_
  refine T.seq ?_
  refine T.region ?_
  refine L.move rfl rfl ?_
  refine L.callF rfl (evs.cons rfl <| evs.cons rfl <| evs.nil) qD qS (banned_spec ) (by rintro u D1 M1 ⟨rfl, rfl, rfl⟩; exact ⟨rfl, _, qA, qF⟩) ?_
  refine L.move rfl rfl ?_
  refine L.extract rfl rfl rfl ?_
  refine L.extract rfl rfl rfl ?_
  refine L.alloc rfl ze36 (fun b4 => ?_)
  refine L.storeA ag36 rfl rfl qL qO qU qW ?_
  refine L.assign rfl rfl ?_
  refine L.nil ?_
  refine T.thenN ?_
  refine T.seq ?_
  refine T.region ?_
  refine L.move rfl rfl ?_
  refine L.callF rfl (evs.cons rfl <| evs.cons rfl <| evs.nil) qD qS (until_spec ) (by rintro u D1 M1 ⟨rfl, rfl, rfl⟩; exact ⟨rfl, _, qA, qF⟩) ?_
  refine L.eqI rfl rfl rfl ?_
  refine L.move rfl rfl ?_
  refine L.known (t := 33) rfl (show _ = Value.bool true from congrArg Value.bool (by first | rfl | decide)) ?_
  refine L.guardT (dj := 33) rfl rfl rfl ?_
  refine L.move rfl rfl ?_
  refine L.guardT (dj := 33) rfl rfl rfl ?_
  refine L.callF rfl (evs.cons rfl <| evs.cons rfl <| evs.nil) qD qS (score_spec ) (by rintro u D1 M1 ⟨rfl, rfl, rfl⟩; exact ⟨rfl, _, qA, qF⟩) ?_
  refine L.guardT (dj := 33) rfl rfl rfl ?_
  refine L.eqI rfl rfl rfl ?_
  refine L.pickT rfl rfl rfl ?_
  refine L.move rfl rfl ?_
  refine L.known (t := 38) rfl (show _ = Value.bool true from congrArg Value.bool (by first | rfl | decide)) ?_
  refine L.guardT (dj := 38) rfl rfl rfl ?_
  refine L.move rfl rfl ?_
  refine L.guardT (dj := 38) rfl rfl rfl ?_
  refine L.eqI rfl rfl rfl ?_
  refine L.pickT rfl rfl rfl ?_
  refine L.move rfl rfl ?_
  refine L.known (t := 42) rfl (show _ = Value.bool true from congrArg Value.bool (by first | rfl | decide)) ?_
  refine L.guardT (dj := 42) rfl rfl rfl ?_
  refine L.move rfl rfl ?_
  refine L.guardT (dj := 42) rfl rfl rfl ?_
  refine L.eqI rfl rfl rfl ?_
  refine L.pickT rfl rfl rfl ?_
  refine L.move rfl rfl ?_
  refine L.known (t := 46) rfl (show _ = Value.bool true from congrArg Value.bool (by first | rfl | decide)) ?_
  refine L.guardT (dj := 46) rfl rfl rfl ?_
  refine L.move rfl rfl ?_
  refine L.pickT rfl rfl rfl ?_
  refine L.move rfl rfl ?_
  refine L.known (t := 49) rfl (show _ = Value.bool true from congrArg Value.bool (by first | rfl | decide)) ?_
  refine L.guardT (dj := 49) rfl rfl rfl ?_
  refine L.move rfl rfl ?_
  refine L.guardT (dj := 49) rfl rfl rfl ?_
  refine L.callF rfl (evs.cons rfl <| evs.cons rfl <| evs.cons rfl <| evs.nil) qD qS (may_spec ) (by rintro u D1 M1 ⟨rfl, rfl, rfl⟩; exact ⟨rfl, _, qA, qF⟩) ?_
  refine L.guardT (dj := 49) rfl rfl rfl ?_
  refine L.notB rfl rfl ?_
  refine L.pickT rfl rfl rfl ?_
  refine L.assign rfl rfl ?_
  refine L.nil ?_
  refine T.thenN ?_
  refine T.ret ?_
  exact T.ret1 rfl rfl ⟨congrArg Value.bool (by first | rfl | decide), rfl, rfl⟩ qD qF
set_option maxHeartbeats 400000 in
theorem proof_spec {k n by_ : Int} {tx re : List UInt8}  : Spec Try.prog 15 [.agg [.int .i64 k, .int .i64 n, .int .i64 by_, S tx, S re].toArray] [] [] (fun v D' M' => v = .tuple #[.agg (pcells (1, oidF 1 (re.take 30), tx.take 30)).toArray, .agg [.int .i64 1, S (oidF 1 (re.take 30)), S (tx.take 30)].toArray] ∧ D' = [] ∧ M' = []) := by
  refine Spec.intro (n := 23) Try.func15 rfl rfl (by decide) (Nat.le_of_ble_eq_true rfl) rfl (fun _ => qA) (fun _ => qA) ?_
  intro σ D M
  have ho32 := oidF_len 1 (re.take 30)
  have h34 : (pcells (1, oidF 1 (re.take 30), tx.take 30)).length = 34 := by simp [ho32]
  refine T.seq ?_
  refine T.region ?_
  refine L.box rfl rfl rfl (fun b1 => ?_)
  refine L.alloc rfl ze36 (fun b2 => ?_)
  refine L.alloc rfl ze38 (fun b3 => ?_)
  refine L.nil ?_
  refine T.thenN ?_
  refine T.seq ?_
  refine T.regionQ (by kernel_rfl) (by kernel_rfl) ?_
  first | refine L.field0 rfl fo32_3 rfl ?_ | refine L.field rfl fo32_3 rfl ?_
  refine L.load rfl sc9 rfl qC ?_
  refine L.callF rfl (evs.cons rfl <| evs.cons rfl <| evs.nil) qD qS (cut_spec (n := 30)) (by rintro u D1 M1 ⟨rfl, rfl, rfl⟩; exact ⟨rfl, _, qA, qF⟩) ?_
  first | refine L.field0 rfl fo32_4 rfl ?_ | refine L.field rfl fo32_4 rfl ?_
  refine L.load rfl sc9 rfl qC ?_
  refine L.callF rfl (evs.cons rfl <| evs.cons rfl <| evs.nil) qD qS (cut_spec (n := 30)) (by rintro u D1 M1 ⟨rfl, rfl, rfl⟩; exact ⟨rfl, _, qA, qF⟩) ?_
  refine L.assign rfl rfl ?_
  refine L.assign rfl rfl ?_
  refine L.nilQ ?_
  refine T.thenN ?_
  refine T.seq ?_
  refine T.region ?_
  refine L.move rfl rfl ?_
  refine L.buildSlice rfl bs81 (by decide) (BP.one rfl rfl rfl <| BP.doneE (out := []) rfl) (fun b14 => ?_)
  refine L.toOwn (len := 1) qP (rows := [re.take 30].map ys) (sz := 1) (by rfl) rfl (by simp) ?_
  refine L.ownRsl qP ?_
  refine L.call rfl (evs.cons rfl <| evs.cons rfl <| evs.nil) qD qS (oidof_spec (ls := [re.take 30]) (by simp; omega) (by simp)) ?_
  rintro _ _ _ ⟨rfl, rfl, rfl⟩
  refine L.norm qA qA ?_
  rw [show oidF 1 [re.take 30].flatten = oidF 1 (re.take 30) from by simp]
  refine L.alloc rfl ze34 (fun b6 => ?_)
  refine L.storeA ag34 rfl rfl qL qO qU qW ?_
  refine L.nil ?_
  refine T.thenN ?_
  refine T.seq ?_
  refine T.regionA (clsL [0, 1, 1, 0, 0, 1, 1, 2, 2]) (by kernel_rfl) ?_
  refine A.takeP (i := 1) rfl rfl rfl rfl (by kernel_rfl) (by kernel_rfl) (by kernel_rfl) rfl ?_
  refine L.move rfl rfl ?_
  refine A.took ?_
  refine A.takeP (i := 5) rfl rfl rfl rfl (by kernel_rfl) (by kernel_rfl) (by kernel_rfl) rfl ?_
  refine L.move rfl rfl ?_
  refine A.took ?_
  refine A.take (i := 0) rfl rfl rfl rfl (by kernel_rfl) (by kernel_rfl) (by kernel_rfl) (by kernel_rfl) rfl qD qF ?_
  refine L.loadA rfl ag34 rfl qN ?_
  refine A.took ?_
  refine A.takeP (i := 2) rfl rfl rfl rfl (by kernel_rfl) (by kernel_rfl) (by kernel_rfl) rfl ?_
  refine L.build rfl bu36 (BP.one rfl rfl rfl <| BP.agg rfl rfl (by first | with_reducible assumption | (simp; done) | (simp only [List.length_map]; with_reducible assumption) | (simp [*]; done) | rfl) (Nat.le_of_ble_eq_true rfl) qR <| BP.one rfl rfl rfl <| BP.doneE (out := []) rfl) ?_
  refine A.took ?_
  refine A.take (i := 3) rfl rfl rfl rfl (by kernel_rfl) (by kernel_rfl) (by kernel_rfl) (by kernel_rfl) rfl qD qF ?_
  refine L.loadA rfl ag34 rfl qN ?_
  refine A.took ?_
  refine A.branch (is := [4]) (by kernel_rfl) (by decide) (Each.cons rfl ?_ <| Each.nil) 
  refine L.call rfl (evs.cons rfl <| evs.nil) qD qS (obytes_spec (l := oidF 1 (re.take 30)) ho32) ?_
  rintro _ _ _ ⟨rfl, rfl, rfl⟩
  refine L.norm qA qA ?_
  refine A.back rfl qD qF ?_
  refine A.takeP (i := 6) rfl rfl rfl rfl (by kernel_rfl) (by kernel_rfl) (by kernel_rfl) rfl ?_
  refine L.build rfl bu38 (BP.one rfl rfl rfl <| BP.one rfl rfl rfl <| BP.one rfl rfl rfl <| BP.doneE (out := []) rfl) ?_
  refine A.took ?_
  refine A.branch (is := [7]) (by kernel_rfl) (by decide) (Each.cons rfl ?_ <| Each.nil) 
  refine L.storeA ag36 rfl rfl qL qO qU qW ?_
  refine A.backT rfl ?_
  refine A.branch (is := [8]) (by kernel_rfl) (by decide) (Each.cons rfl ?_ <| Each.nil) 
  refine L.storeA ag38 rfl rfl qL qO qU qW ?_
  refine A.backT rfl ?_
  refine A.done (by kernel_rfl) ?_
  refine T.thenN ?_
  refine T.ret ?_
  exact T.retAA rfl ag36 ag38 rfl rfl qN qN ⟨rfl, rfl, rfl⟩ qD qF
set_option maxHeartbeats 400000 in
theorem waits_law (a0 now : Int)  : Spec Try.prog 3 [.int .i64 a0, .int .i64 now] [] [] (fun v D' M' => v = .bool true ∧ D' = [] ∧ M' = []) := by
  refine Spec.intro (n := 65) Try.func3 rfl rfl (by decide) (Nat.le_of_ble_eq_true rfl) rfl (fun _ => qA) (fun _ => qA) ?_
  intro σ D M
  have q1 := tmod_bd now
  refine T.seq ?_
  refine T.region ?_
  refine L.assign rfl rfl ?_
  refine L.nil ?_
  refine T.thenN ?_
  refine T.seq ?_
  refine T.seq ?_
  refine T.region ?_
  refine L.call rfl (evs.nil) qD qS (awake_spec) ?_
  rintro _ _ _ ⟨rfl, rfl, rfl⟩
  refine L.norm qA qA ?_
  refine L.notB rfl rfl ?_
  refine L.nil ?_
  refine T.thenN ?_
  refine T.condF rfl rfl ?_
  refine T.skip ?_
  refine T.thenN ?_
  refine T.seq ?_
  refine T.region ?_
  refine L.call rfl (evs.nil) qD qS (rnew_spec) ?_
  rintro _ _ _ ⟨b, rfl, rfl, rfl⟩
  refine L.norm qA qA ?_
  refine L.assign rfl rfl ?_
  refine L.nil ?_
  refine T.thenN ?_
  refine T.seq ?_
  refine T.region ?_
  refine L.move rfl rfl ?_
  refine L.remI rfl rfl rfl (by decide) ?_
  refine L.addN rfl rfl rfl (by omega) ?_
  refine L.remN rfl rfl rfl (by omega) ?_
  refine L.assign rfl rfl ?_
  rw [tick_eq now]
  obtain ⟨t, ht, ht1, ht2⟩ : ∃ t : Int, t = now % 100000 ∧ 0 ≤ t ∧ t < 100000 := ⟨_, rfl, by omega, by omega⟩
  rw [← ht]
  refine L.nil ?_
  refine T.thenN ?_
  refine T.seq ?_
  refine T.region ?_
  refine L.assign rfl rfl ?_
  refine L.nil ?_
  refine T.thenN ?_
  refine T.seq ?_
  refine T.seq ?_
  refine T.region ?_
  refine L.move rfl rfl ?_
  refine L.maxI rfl rfl rfl ?_
  refine L.minI rfl rfl rfl ?_
  refine L.move rfl rfl ?_
  refine L.nil ?_
  refine T.thenN ?_
  refine T.block ?_
  refine T.loop (fun K' D' M' μ => ∃ (k : Nat) (nw wt : Int) (F : Int → Mind), (WInv F k nw wt) ∧ K' = [(17, .int .i64 k), (1, .int .i64 nw), (6, .int .i64 wt)] ∧ D' = [] ∧ M' = [bookA b F] ∧ μ = 12 - k) (.cons (t := 5) rfl <| .cons (t := 16) rfl <| SubK.nil _) (⟨0, t, 2, (fun _ => zM), winv_0 ⟨ht1, ht2⟩, rfl, rfl, rfl, rfl⟩) (.cons (t := 17) rfl <| .cons (t := 1) rfl <| .cons (t := 6) rfl <| SubK.nil _) qD qS ?_
  rintro K1 D1 M1 m1 ⟨k, nw, wt, F, hI, rfl, rfl, rfl, rfl⟩
  refine T.norm3 qA qA qA ?_
  have hk12 := hI.2.2.2.2.2.2
  refine T.seq ?_
  refine T.region ?_
  refine L.ltI rfl rfl rfl ?_
  refine L.nil ?_
  refine T.thenN ?_
  refine T.seq ?_
  refine T.cond rfl (fun h18 => ?_) (fun h18 => ?_)
  · try simp only [decide_eq_true_eq, decide_eq_false_iff_not, Bool.not_eq_true', Bool.not_eq_false', Bool.and_eq_true, Bool.or_eq_true] at h18
    refine T.skip ?_
    refine T.thenN ?_
    refine T.seq ?_
    refine T.block ?_
    refine T.seq ?_
    refine T.region ?_
    refine L.move rfl rfl ?_
    refine L.move rfl rfl ?_
    refine L.call rfl (evs.cons rfl <| evs.cons rfl <| evs.cons rfl <| evs.nil) qD qS (silent_spec (by have := hI.2.2.2.2.1; omega) (by have := hI.2.2.2.2.2; omega)) ?_
    rintro _ _ _ ⟨rfl, rfl, rfl⟩
    refine L.norm qA qA ?_
    obtain ⟨F2, hF2⟩ : ∃ G, G = updM F 3 (silM (F 3) nw) := ⟨_, rfl⟩
    rw [← hF2]
    obtain ⟨hw1, hw2, hw3, hw4, hw5, hw6⟩ := winv_step hI (by omega) hF2
    have hn0 := hI.2.2.2.2.1
    have hn1 := hI.2.2.2.2.2.1
    refine L.nil ?_
    refine T.thenN ?_
    refine T.seq ?_
    refine T.seq ?_
    refine T.region ?_
    refine L.move rfl rfl ?_
    refine L.callF rfl (evs.cons rfl <| evs.cons rfl <| evs.nil) qD qS (until_spec) (by rintro u D1 M1 ⟨rfl, rfl, rfl⟩; exact ⟨rfl, _, qA, qF⟩) ?_
    rw [hw1]
    refine L.move rfl rfl ?_
    refine L.move rfl rfl ?_
    refine L.addN rfl rfl rfl (by omega) ?_
    refine L.neI rfl rfl rfl ?_
    refine L.move rfl rfl ?_
    refine L.known (t := 28) rfl (show _ = Value.bool false from congrArg Value.bool (decide_eq_false (by simp))) ?_
    refine L.guardT (dj := 28) rfl rfl rfl ?_
    refine L.move rfl rfl ?_
    refine L.guardT (dj := 28) rfl rfl rfl ?_
    refine L.move rfl rfl ?_
    refine L.guardT (dj := 28) rfl rfl rfl ?_
    refine L.move rfl rfl ?_
    refine L.guardT (dj := 28) rfl rfl rfl ?_
    refine L.addN rfl rfl rfl (by omega) ?_
    refine L.guardT (dj := 28) rfl rfl rfl ?_
    refine L.subN rfl rfl rfl (by omega) ?_
    refine L.guardT (dj := 28) rfl rfl rfl ?_
    refine L.callF rfl (evs.cons rfl <| evs.cons rfl <| evs.cons rfl <| evs.nil) qD qS (may_spec) (by rintro u D1 M1 ⟨rfl, rfl, rfl⟩; exact ⟨rfl, _, qA, qF⟩) ?_
    rw [hw2]
    refine L.pickF rfl rfl rfl ?_
    refine L.move rfl rfl ?_
    refine L.guardT (dj := 36) rfl rfl rfl ?_
    refine L.move rfl rfl ?_
    refine L.guardT (dj := 36) rfl rfl rfl ?_
    refine L.move rfl rfl ?_
    refine L.guardT (dj := 36) rfl rfl rfl ?_
    refine L.move rfl rfl ?_
    refine L.guardT (dj := 36) rfl rfl rfl ?_
    refine L.addN rfl rfl rfl (by omega) ?_
    refine L.guardT (dj := 36) rfl rfl rfl ?_
    refine L.callF rfl (evs.cons rfl <| evs.cons rfl <| evs.cons rfl <| evs.nil) qD qS (may_spec) (by rintro u D1 M1 ⟨rfl, rfl, rfl⟩; exact ⟨rfl, _, qA, qF⟩) ?_
    rw [hw3]
    refine L.guardT (dj := 36) rfl rfl rfl ?_
    refine L.notB rfl rfl ?_
    refine L.pickF rfl rfl rfl ?_
    refine L.nil ?_
    refine T.thenN ?_
    refine T.condF rfl rfl ?_
    refine T.skip ?_
    refine T.thenN ?_
    refine T.seq ?_
    refine T.region ?_
    refine L.move rfl rfl ?_
    refine L.callF rfl (evs.cons rfl <| evs.cons rfl <| evs.nil) qD qS (until_spec) (by rintro u D1 M1 ⟨rfl, rfl, rfl⟩; exact ⟨rfl, _, qA, qF⟩) ?_
    rw [hw1]
    refine L.assign rfl rfl ?_
    refine L.nil ?_
    refine T.thenN ?_
    refine T.region ?_
    refine L.move rfl rfl ?_
    refine L.mulN rfl rfl rfl (by omega) ?_
    refine L.minI rfl rfl rfl ?_
    refine L.assign rfl rfl ?_
    refine L.nil ?_
    refine T.blkN ?_
    refine T.thenN ?_
    refine T.region ?_
    refine L.addN rfl rfl rfl (by omega) ?_
    refine L.move rfl rfl ?_
    refine L.nil ?_
    refine T.thenN ?_
    exact T.back ⟨k + 1, _, _, _, hw4, rfl, rfl, rfl, rfl⟩ qI (.cons (t := 17) rfl <| .cons (t := 1) rfl <| .cons (t := 6) rfl <| SubK.nil _) (.cons (t := 5) rfl <| .cons (t := 16) rfl <| SubK.nil _) qD qD qF
  · try simp only [decide_eq_true_eq, decide_eq_false_iff_not, Bool.not_eq_true', Bool.not_eq_false', Bool.and_eq_true, Bool.or_eq_true] at h18
    refine T.exit ?_
    refine T.thenX ?_
    refine T.thenX ?_
    refine T.blkX ?_
    refine T.thenN ?_
    refine T.seq ?_
    refine T.region ?_
    refine L.move rfl rfl ?_
    refine L.call rfl (evs.cons rfl <| evs.cons rfl <| evs.nil) qD qS (good_spec ) ?_
    rintro _ _ _ ⟨rfl, rfl, rfl⟩
    refine L.norm qA qA ?_
    refine L.nil ?_
    refine T.thenN ?_
    refine T.seq ?_
    refine T.region ?_
    refine L.move rfl rfl ?_
    refine L.move rfl rfl ?_
    refine L.call rfl (evs.cons rfl <| evs.cons rfl <| evs.cons rfl <| evs.nil) qD qS (silent_spec (by have := hI.2.2.2.2.1; omega) (by have := hI.2.2.2.2.2; omega)) ?_
    rintro _ _ _ ⟨rfl, rfl, rfl⟩
    refine L.norm qA qA ?_
    have hf := wfin hI
    have hn0 := hI.2.2.2.2.1
    have hn1 := hI.2.2.2.2.2
    refine L.nil ?_
    refine T.thenN ?_
    refine T.seq ?_
    refine T.region ?_
    refine L.move rfl rfl ?_
    refine L.callF rfl (evs.cons rfl <| evs.cons rfl <| evs.nil) qD qS (until_spec) (by rintro u D1 M1 ⟨rfl, rfl, rfl⟩; exact ⟨rfl, _, qA, qF⟩) ?_
    rw [hf.1]
    refine L.move rfl rfl ?_
    refine L.addN rfl rfl rfl (by omega) ?_
    refine L.eqI rfl rfl rfl ?_
    refine L.move rfl rfl ?_
    refine L.known (t := 60) rfl (show _ = Value.bool true from congrArg Value.bool (decide_eq_true rfl)) ?_
    refine L.guardT (dj := 60) rfl rfl rfl ?_
    refine L.move rfl rfl ?_
    refine L.guardT (dj := 60) rfl rfl rfl ?_
    refine L.callF rfl (evs.cons rfl <| evs.cons rfl <| evs.nil) qD qS (until_spec) (by rintro u D1 M1 ⟨rfl, rfl, rfl⟩; exact ⟨rfl, _, qA, qF⟩) ?_
    rw [hf.2]
    refine L.guardT (dj := 60) rfl rfl rfl ?_
    refine L.eqI rfl rfl rfl ?_
    refine L.pickT rfl rfl rfl ?_
    refine L.assign rfl rfl ?_
    refine L.nil ?_
    refine T.thenN ?_
    refine T.ret ?_
    exact T.ret1 rfl rfl ⟨congrArg Value.bool (decide_eq_true rfl), rfl, rfl⟩ qD qF
set_option maxHeartbeats 400000 in
theorem bounds_law (g0 b0 : Int)  : Spec Try.prog 4 [.int .i64 g0, .int .i64 b0] [] [] (fun v D' M' => v = .bool true ∧ D' = [] ∧ M' = []) := by
  refine Spec.intro (n := 53) Try.func4 rfl rfl (by decide) (Nat.le_of_ble_eq_true rfl) rfl (fun _ => qA) (fun _ => qA) ?_
  intro σ D M
  refine T.seq ?_
  refine T.region ?_
  refine L.assign rfl rfl ?_
  refine L.nil ?_
  refine T.thenN ?_
  refine T.seq ?_
  refine T.seq ?_
  refine T.region ?_
  refine L.call rfl (evs.nil) qD qS (awake_spec) ?_
  rintro _ _ _ ⟨rfl, rfl, rfl⟩
  refine L.norm qA qA ?_
  refine L.notB rfl rfl ?_
  refine L.nil ?_
  refine T.thenN ?_
  refine T.condF rfl rfl ?_
  refine T.skip ?_
  refine T.thenN ?_
  refine T.seq ?_
  refine T.region ?_
  refine L.call rfl (evs.nil) qD qS (rnew_spec) ?_
  rintro _ _ _ ⟨b, rfl, rfl, rfl⟩
  refine L.norm qA qA ?_
  refine L.assign rfl rfl ?_
  refine L.nil ?_
  refine T.thenN ?_
  refine T.seq ?_
  refine T.region ?_
  refine L.move rfl rfl ?_
  refine L.maxI rfl rfl rfl ?_
  refine L.minI rfl rfl rfl ?_
  refine L.move rfl rfl ?_
  refine L.maxI rfl rfl rfl ?_
  refine L.minI rfl rfl rfl ?_
  refine L.assign rfl rfl ?_
  refine L.assign rfl rfl ?_
  obtain ⟨g, hg⟩ : ∃ g : Nat, min (max g0 0) 60 = (g : Int) := ⟨(min (max g0 0) 60).toNat, by omega⟩
  obtain ⟨bd, hbd⟩ : ∃ g : Nat, min (max b0 0) 60 = (g : Int) := ⟨(min (max b0 0) 60).toNat, by omega⟩
  rw [hg, hbd]
  refine L.nil ?_
  refine T.thenN ?_
  refine T.seq ?_
  refine T.seq ?_
  refine T.region ?_
  refine L.move rfl rfl ?_
  refine L.move rfl rfl ?_
  refine L.nil ?_
  refine T.thenN ?_
  refine T.block ?_
  refine T.bookEq (BG 0) qP bg_0 ?_
  refine T.loop (fun K' D' M' μ => ∃ (k : Nat), (k ≤ g) ∧ K' = [(17, .int .i64 k)] ∧ D' = [] ∧ M' = [bookA b (BG k)] ∧ μ = g - k) (.cons (t := 0) rfl <| .cons (t := 1) rfl <| .cons (t := 5) rfl <| .cons (t := 16) rfl <| SubK.nil _) (⟨0, qT, rfl, rfl, rfl, rfl⟩) (.cons (t := 17) rfl <| SubK.nil _) qD qS ?_
  rintro K1 D1 M1 m1 ⟨k, hinv, rfl, rfl, rfl, rfl⟩
  refine T.norm3 qA qA qA ?_
  refine T.seq ?_
  refine T.region ?_
  refine L.ltI rfl rfl rfl ?_
  refine L.nil ?_
  refine T.thenN ?_
  refine T.seq ?_
  refine T.cond rfl (fun h18 => ?_) (fun h18 => ?_)
  · try simp only [decide_eq_true_eq, decide_eq_false_iff_not, Bool.not_eq_true', Bool.not_eq_false', Bool.and_eq_true, Bool.or_eq_true] at h18
    refine T.skip ?_
    refine T.thenN ?_
    refine T.seq ?_
    refine T.block ?_
    refine T.region ?_
    refine L.move rfl rfl ?_
    refine L.call rfl (evs.cons rfl <| evs.cons rfl <| evs.nil) qD qS (good_spec ) ?_
    rintro _ _ _ ⟨rfl, rfl, rfl⟩
    refine L.norm qA qA ?_
    refine L.nil ?_
    refine T.blkN ?_
    refine T.thenN ?_
    refine T.region ?_
    refine L.addN rfl rfl rfl (by omega) ?_
    refine L.move rfl rfl ?_
    refine L.nil ?_
    refine T.thenN ?_
    refine T.bookEq (BG (k + 1)) qP (bg_s k) ?_
    exact T.back ⟨k + 1, qT, rfl, rfl, rfl, rfl⟩ qI (.cons (t := 17) rfl <| SubK.nil _) (.cons (t := 0) rfl <| .cons (t := 1) rfl <| .cons (t := 5) rfl <| .cons (t := 16) rfl <| SubK.nil _) qD qD qF
  · try simp only [decide_eq_true_eq, decide_eq_false_iff_not, Bool.not_eq_true', Bool.not_eq_false', Bool.and_eq_true, Bool.or_eq_true] at h18
    obtain rfl : g = k := by omega
    refine T.exit ?_
    refine T.thenX ?_
    refine T.thenX ?_
    refine T.blkX ?_
    refine T.thenN ?_
    refine T.seq ?_
    refine T.region ?_
    refine L.move rfl rfl ?_
    refine L.callF rfl (evs.cons rfl <| evs.cons rfl <| evs.nil) qD qS (score_spec) (by rintro u D1 M1 ⟨rfl, rfl, rfl⟩; exact ⟨rfl, _, qA, qF⟩) ?_
    rw [show (BG g 1).1 = min (g : Int) 20 from rfl]
    refine L.assign rfl rfl ?_
    refine L.nil ?_
    refine T.thenN ?_
    refine T.seq ?_
    refine T.seq ?_
    refine T.region ?_
    refine L.move rfl rfl ?_
    refine L.move rfl rfl ?_
    refine L.nil ?_
    refine T.thenN ?_
    refine T.block ?_
    refine T.loop (fun K' D' M' μ => ∃ (j : Nat) (F : Int → Mind), (j ≤ bd ∧ SInv F (min (g : Int) 20) j) ∧ K' = [(25, .int .i64 j)] ∧ D' = [] ∧ M' = [bookA b F] ∧ μ = bd - j) (.cons (t := 0) rfl <| .cons (t := 1) rfl <| .cons (t := 5) rfl <| .cons (t := 6) rfl <| .cons (t := 24) rfl <| SubK.nil _) (⟨0, _, ⟨by omega, sinv_0⟩, rfl, rfl, rfl, rfl⟩) (.cons (t := 25) rfl <| SubK.nil _) qD qS ?_
    rintro K1 D1 M1 m1 ⟨j, F, ⟨hj, hS⟩, rfl, rfl, rfl, rfl⟩
    refine T.norm3 qA qA qA ?_
    refine T.seq ?_
    refine T.region ?_
    refine L.ltI rfl rfl rfl ?_
    refine L.nil ?_
    refine T.thenN ?_
    refine T.seq ?_
    refine T.cond rfl (fun h26 => ?_) (fun h26 => ?_)
    · try simp only [decide_eq_true_eq, decide_eq_false_iff_not, Bool.not_eq_true', Bool.not_eq_false', Bool.and_eq_true, Bool.or_eq_true] at h26
      refine T.skip ?_
      refine T.thenN ?_
      refine T.seq ?_
      refine T.block ?_
      refine T.region ?_
      refine L.move rfl rfl ?_
      refine L.call rfl (evs.cons rfl <| evs.cons rfl <| evs.cons rfl <| evs.nil) qD qS (silent_spec (by omega) (by omega)) ?_
      rintro _ _ _ ⟨rfl, rfl, rfl⟩
      refine L.norm qA qA ?_
      refine L.nil ?_
      refine T.blkN ?_
      refine T.thenN ?_
      refine T.region ?_
      refine L.addN rfl rfl rfl (by omega) ?_
      refine L.move rfl rfl ?_
      refine L.nil ?_
      refine T.thenN ?_
      exact T.back ⟨j + 1, _, ⟨by omega, sinv_s hS⟩, rfl, rfl, rfl, rfl⟩ qI (.cons (t := 25) rfl <| SubK.nil _) (.cons (t := 0) rfl <| .cons (t := 1) rfl <| .cons (t := 5) rfl <| .cons (t := 6) rfl <| .cons (t := 24) rfl <| SubK.nil _) qD qD qF
    · try simp only [decide_eq_true_eq, decide_eq_false_iff_not, Bool.not_eq_true', Bool.not_eq_false', Bool.and_eq_true, Bool.or_eq_true] at h26
      obtain rfl : j = bd := by omega
      refine T.exit ?_
      refine T.thenX ?_
      refine T.thenX ?_
      refine T.blkX ?_
      refine T.thenN ?_
      refine T.seq ?_
      refine T.region ?_
      refine L.move rfl rfl ?_
      refine L.move rfl rfl ?_
      refine L.minI rfl rfl rfl ?_
      refine L.eqI rfl rfl rfl ?_
      refine L.move rfl rfl ?_
      refine L.known (t := 34) rfl (show _ = Value.bool true from congrArg Value.bool (decide_eq_true rfl)) ?_
      refine L.guardT (dj := 34) rfl rfl rfl ?_
      refine L.move rfl rfl ?_
      refine L.guardT (dj := 34) rfl rfl rfl ?_
      refine L.callF rfl (evs.cons rfl <| evs.cons rfl <| evs.nil) qD qS (score_spec) (by rintro u D1 M1 ⟨rfl, rfl, rfl⟩; exact ⟨rfl, _, qA, qF⟩) ?_
      rw [hS.1]
      refine L.guardT (dj := 34) rfl rfl rfl ?_
      refine L.move rfl rfl ?_
      refine L.guardT (dj := 34) rfl rfl rfl ?_
      refine L.move rfl rfl ?_
      refine L.guardT (dj := 34) rfl rfl rfl ?_
      refine L.subN rfl rfl rfl (by omega) ?_
      refine L.guardT (dj := 34) rfl rfl rfl ?_
      refine L.maxI rfl rfl rfl ?_
      refine L.guardT (dj := 34) rfl rfl rfl ?_
      refine L.eqI rfl rfl rfl ?_
      refine L.pickT rfl rfl rfl ?_
      refine L.move rfl rfl ?_
      refine L.known (t := 43) rfl (show _ = Value.bool true from congrArg Value.bool (decide_eq_true rfl)) ?_
      refine L.guardT (dj := 43) rfl rfl rfl ?_
      refine L.move rfl rfl ?_
      refine L.guardT (dj := 43) rfl rfl rfl ?_
      refine L.callF rfl (evs.cons rfl <| evs.cons rfl <| evs.nil) qD qS (score_spec) (by rintro u D1 M1 ⟨rfl, rfl, rfl⟩; exact ⟨rfl, _, qA, qF⟩) ?_
      rw [hS.2.1]
      refine L.guardT (dj := 43) rfl rfl rfl ?_
      refine L.eqI rfl rfl rfl ?_
      refine L.pickT rfl rfl rfl ?_
      refine L.move rfl rfl ?_
      refine L.known (t := 48) rfl (show _ = Value.bool true from congrArg Value.bool (by first | rfl | decide)) ?_
      refine L.guardT (dj := 48) rfl rfl rfl ?_
      refine L.move rfl rfl ?_
      refine L.guardT (dj := 48) rfl rfl rfl ?_
      refine L.callF rfl (evs.cons rfl <| evs.cons rfl <| evs.nil) qD qS (until_spec) (by rintro u D1 M1 ⟨rfl, rfl, rfl⟩; exact ⟨rfl, _, qA, qF⟩) ?_
      rw [hS.2.1]
      refine L.guardT (dj := 48) rfl rfl rfl ?_
      refine L.eqI rfl rfl rfl ?_
      refine L.pickT rfl rfl rfl ?_
      refine L.assign rfl rfl ?_
      refine L.nil ?_
      refine T.thenN ?_
      refine T.ret ?_
      exact T.ret1 rfl rfl ⟨congrArg Value.bool (by first | rfl | decide), rfl, rfl⟩ qD qF
set_option maxHeartbeats 2000000 in
theorem just_law (a : Option Addr) (len cap : Nat) (xs : List (Int × Int × Int × List UInt8 × List UInt8)) (hx : xs.length = len) (hg : ∀ x ∈ xs, g32 x) (hb : len ≤ 4611686018427387904)  : Spec Try.prog 5 [.slice a len cap] [rsl 5 a len cap (xs.map e32)] [] (fun v D' M' => v = .bool true ∧ D' = [] ∧ M' = []) := by
  refine Spec.intro (n := 114) Try.func5 rfl rfl (by decide) (Nat.le_of_ble_eq_true rfl) rfl (fun _ => qA) (fun _ => qA) ?_
  intro σ D M
  refine T.seq ?_
  refine T.region ?_
  refine L.assign rfl rfl ?_
  refine L.nil ?_
  refine T.thenN ?_
  refine T.seq ?_
  refine T.seq ?_
  refine T.region ?_
  refine L.call rfl (evs.nil) qD qS (awake_spec) ?_
  rintro _ _ _ ⟨rfl, rfl, rfl⟩
  refine L.norm qA qA ?_
  refine L.notB rfl rfl ?_
  refine L.nil ?_
  refine T.thenN ?_
  refine T.condF rfl rfl ?_
  refine T.skip ?_
  refine T.thenN ?_
  refine T.seq ?_
  refine T.region ?_
  refine L.call rfl (evs.nil) qD qS (rnew_spec) ?_
  rintro _ _ _ ⟨b, rfl, rfl, rfl⟩
  refine L.norm qA qA ?_
  refine L.assign rfl rfl ?_
  refine L.nil ?_
  refine T.thenN ?_
  refine T.seq ?_
  refine T.region ?_
  refine L.assign rfl rfl ?_
  refine L.nil ?_
  refine T.thenN ?_
  refine T.seq ?_
  refine T.region ?_
  refine L.makeMap iK iK rfl (fun lb => ?_)
  refine L.assign rfl rfl ?_
  refine L.nil ?_
  refine T.thenN ?_
  refine T.seq ?_
  refine T.seq ?_
  refine T.region ?_
  refine L.assign rfl rfl ?_
  refine L.nil ?_
  refine T.thenN ?_
  refine T.block ?_
  refine T.loop (fun K' D' M' μ => ∃ (i : Nat) (now : Int) (F : Int → Mind) (lm : List (Int × Int)), ((i ≤ len ∧ i ≤ 60 ∧ 0 ≤ now ∧ now ≤ 15 * (i : Int)) ∧ JInv F lm now) ∧ K' = [(6, .int .i64 i), (4, .int .i64 now)] ∧ D' = [] ∧ M' = [bookA b F, mp lb iK iK lm] ∧ μ = 60 - i) (.cons (t := 0) rfl <| .cons (t := 3) rfl <| .cons (t := 5) rfl <| SubK.nil _) (⟨0, 0, _, [], ⟨by omega, jinv_0⟩, rfl, rfl, rfl, rfl⟩) (.cons (t := 6) rfl <| .cons (t := 4) rfl <| SubK.nil _) qD qS ?_
  rintro K1 D1 M1 m1 ⟨i, now, F, lm, ⟨⟨hi1, hi2, hi3, hi4⟩, hI⟩, rfl, rfl, rfl, rfl⟩
  refine T.norm3 qA qA qA ?_
  refine T.seq ?_
  refine T.seq ?_
  refine T.region ?_
  refine L.move rfl rfl ?_
  refine L.move rfl rfl ?_
  refine L.lenSl rfl Try.underlying29 rfl ?_
  refine L.ltI rfl rfl rfl ?_
  refine L.move rfl rfl ?_
  refine L.part (t := 24) rfl (fun h1 => ?_) (fun h1 => ?_)
  · try simp only [decide_eq_true_eq, decide_eq_false_iff_not, Bool.not_eq_true', Bool.not_eq_false', Bool.and_eq_true, Bool.or_eq_true] at h1
    refine L.guardT (dj := 24) rfl rfl rfl ?_
    refine L.move rfl rfl ?_
    refine L.guardT (dj := 24) rfl rfl rfl ?_
    refine L.ltI rfl rfl rfl ?_
    refine L.pickT rfl rfl rfl ?_
    refine L.nil ?_
    refine T.thenN ?_
    refine T.cond rfl (fun h27 => ?_) (fun h27 => ?_)
    · try simp only [decide_eq_true_eq, decide_eq_false_iff_not, Bool.not_eq_true', Bool.not_eq_false', Bool.and_eq_true, Bool.or_eq_true] at h27
      refine T.skip ?_
      refine T.thenN ?_
      refine T.seq ?_
      refine T.block ?_
      refine T.seq ?_
      refine T.region ?_
      refine L.move rfl rfl ?_
      refine L.move rfl rfl ?_
      obtain ⟨⟨ak, an, ay, tx, re⟩, hxk⟩ := ex_get (l := xs) (k := i) (by omega)
      obtain ⟨hg1, hg2, hg3, -⟩ := hg _ (List.mem_of_getElem? hxk)
      refine L.idx (i := i) rfl Try.underlying29 sz32 rfl rfl qM (by first | rfl | omega | (simp; done)) qG (fun b32 o32 => ?_)
      refine L.loadA rfl ag32 rfl qN ?_
      refine L.alloc rfl ze32 (fun b7 => ?_)
      refine L.storeA ag32 rfl rfl qL qO qU qW ?_
      refine L.nil ?_
      refine T.clEq b7 [.int .i64 ak, .int .i64 an, .int .i64 ay, S tx, S re] qP rfl ?_
      refine T.thenN ?_
      refine T.seq ?_
      refine T.region ?_
      first | refine L.field0 rfl fo32_1 rfl ?_ | refine L.field rfl fo32_1 rfl ?_
      refine L.load rfl sc3 rfl qC ?_
      refine L.andM rfl rfl rfl (k := 3) (by decide) (by decide) ?_
      refine L.assign rfl rfl ?_
      refine L.nil ?_
      refine T.thenN ?_
      refine T.seq ?_
      refine T.region ?_
      refine L.move rfl rfl ?_
      first | refine L.field0 rfl fo32_2 rfl ?_ | refine L.field rfl fo32_2 rfl ?_
      refine L.load rfl sc3 rfl qC ?_
      refine L.andM rfl rfl rfl (k := 4) (by decide) (by decide) ?_
      refine L.addN rfl rfl rfl (by omega) ?_
      refine L.assign rfl rfl ?_
      refine L.nil ?_
      obtain ⟨nn, hnn, hn1, hn2⟩ : ∃ m : Int, m = an % (7 + 1) ∧ 0 ≤ m ∧ m ≤ 7 := ⟨_, rfl, by omega, by omega⟩
      rw [← hnn]
      obtain ⟨nw, hnw, hw1, hw2⟩ : ∃ m : Int, m = now + ay % (15 + 1) ∧ now ≤ m ∧ m ≤ now + 15 := ⟨_, rfl, by omega, by omega⟩
      rw [← hnw]
      replace hI := jinv_now hI hw1
      refine T.thenN ?_
      refine T.seq ?_
      refine T.cutC (fun K' D' M' => ∃ (F : Int → Mind) (lm : List (Int × Int)) (c7 : List Value), (JInv F lm nw) ∧ K' = [] ∧ D' = [] ∧ M' = [bookA b F, mp lb iK iK lm, cl b7 32 c7]) (M0 := [bookA b F, mp lb iK iK lm, cl b7 32 [.int .i64 ak, .int .i64 an, .int .i64 ay, S tx, S re]]) (.cons (t := 0) rfl <| .cons (t := 3) rfl <| .cons (t := 4) rfl <| .cons (t := 5) rfl <| .cons (t := 6) rfl <| SubK.nil _) qS ?_ ?_
      · skip
        refine T.block ?_
        refine T.seq ?_
        refine T.region ?_
        first | refine L.field0 rfl fo32_0 rfl ?_ | refine L.field rfl fo32_0 rfl ?_
        refine L.load rfl sc3 rfl qC ?_
        refine L.eqI rfl rfl rfl ?_
        refine L.move rfl rfl ?_
        refine L.part (t := 49) rfl (fun h2 => ?_) (fun h2 => ?_)
        · try simp only [decide_eq_true_eq, decide_eq_false_iff_not, Bool.not_eq_true', Bool.not_eq_false', Bool.and_eq_true, Bool.or_eq_true] at h2
          refine L.guardT (dj := 49) rfl rfl rfl ?_
          refine L.move rfl rfl ?_
          refine L.guardT (dj := 49) rfl rfl rfl ?_
          refine L.neI rfl rfl rfl ?_
          refine L.pickT rfl rfl rfl ?_
          refine L.assign rfl rfl ?_
          refine L.nil ?_
          refine T.thenN ?_
          refine T.cond rfl (fun h45 => ?_) (fun h45 => ?_)
          · try simp only [decide_eq_true_eq, decide_eq_false_iff_not, Bool.not_eq_true', Bool.not_eq_false', Bool.and_eq_true, Bool.or_eq_true] at h45
            refine T.seq ?_
            refine T.region ?_
            refine L.loadA rfl ag32 rfl qN ?_
            refine L.call rfl (evs.cons rfl <| evs.nil) qD qS (proof_spec (tx := tx) (re := re)) ?_
            rintro _ _ _ ⟨rfl, rfl, rfl⟩
            refine L.norm qA qA ?_
            have ho32 := oidF_len 1 (re.take 30)
            have h34 : (pcells (1, oidF 1 (re.take 30), tx.take 30)).length = 34 := by simp [ho32]
            refine L.move rfl rfl ?_
            refine L.extract rfl rfl rfl ?_
            refine L.extract rfl rfl rfl ?_
            refine L.alloc rfl ze36 (fun b9 => ?_)
            refine L.alloc rfl ze38 (fun b10 => ?_)
            refine L.storeA ag36 rfl rfl qL qO qU qW ?_
            refine L.storeA ag38 rfl rfl qL qO qU qW ?_
            refine L.nil ?_
            refine T.thenN ?_
            refine T.region ?_
            refine L.move rfl rfl ?_
            refine L.move rfl rfl ?_
            refine L.loadA rfl ag36 rfl qN ?_
            refine L.call rfl (evs.cons rfl <| evs.cons rfl <| evs.cons rfl <| evs.nil) qD qS (ban_spec (k := 1) (id := oidF 1 (re.take 30)) (tx := tx.take 30) ho32 (by simp; omega)) ?_
            rintro _ _ _ ⟨rfl, rfl, rfl⟩
            refine L.norm qA qA ?_
            refine L.nil ?_
            refine T.blkN ?_
            refine T.thenN ?_
            exact T.toJoin ⟨_, _, _, (by first | (have := (show nn ≠ 0 from h45); exact jinv_ban (p := (1, oidF 1 (re.take 30), tx.take 30)) hI this) | (have := (show ak = 2 from h78); exact jinv_sil (n := nn) hI (by omega)) | (have := (show ¬ ak = 2 from h78); exact jinv_good (n := nn) hI) | exact hI), rfl, rfl, rfl⟩ (SubK.nil _) (.cons (t := 0) rfl <| .cons (t := 3) rfl <| .cons (t := 4) rfl <| .cons (t := 5) rfl <| .cons (t := 6) rfl <| SubK.nil _) qD qD qF
          · try simp only [decide_eq_true_eq, decide_eq_false_iff_not, Bool.not_eq_true', Bool.not_eq_false', Bool.and_eq_true, Bool.or_eq_true] at h45
            refine T.seq ?_
            refine T.region ?_
            first | refine L.field0 rfl fo32_0 rfl ?_ | refine L.field rfl fo32_0 rfl ?_
            refine L.load rfl sc3 rfl qC ?_
            refine L.eqI rfl rfl rfl ?_
            refine L.assign rfl rfl ?_
            refine L.nil ?_
            refine T.thenN ?_
            refine T.cond rfl (fun h62 => ?_) (fun h62 => ?_)
            · try simp only [decide_eq_true_eq, decide_eq_false_iff_not, Bool.not_eq_true', Bool.not_eq_false', Bool.and_eq_true, Bool.or_eq_true] at h62
              refine T.seq ?_
              refine T.region ?_
              first | refine L.field0 rfl fo32_3 rfl ?_ | refine L.field rfl fo32_3 rfl ?_
              refine L.load rfl sc9 rfl qC ?_
              first | refine L.field0 rfl fo32_4 rfl ?_ | refine L.field rfl fo32_4 rfl ?_
              refine L.store sc9 rfl rfl rfl qU qE ?_
              refine L.nil ?_
              refine T.thenN ?_
              refine T.seq ?_
              refine T.region ?_
              refine L.loadA rfl ag32 rfl qN ?_
              refine L.call rfl (evs.cons rfl <| evs.nil) qD qS (proof_spec (tx := tx) (re := tx)) ?_
              rintro _ _ _ ⟨rfl, rfl, rfl⟩
              refine L.norm qA qA ?_
              have ho32 := oidF_len 1 (tx.take 30)
              have h34 : (pcells (1, oidF 1 (tx.take 30), tx.take 30)).length = 34 := by simp [ho32]
              refine L.move rfl rfl ?_
              refine L.extract rfl rfl rfl ?_
              refine L.extract rfl rfl rfl ?_
              refine L.alloc rfl ze36 (fun b11 => ?_)
              refine L.alloc rfl ze38 (fun b12 => ?_)
              refine L.storeA ag36 rfl rfl qL qO qU qW ?_
              refine L.storeA ag38 rfl rfl qL qO qU qW ?_
              refine L.nil ?_
              refine T.thenN ?_
              refine T.seq ?_
              refine T.region ?_
              refine L.move rfl rfl ?_
              refine L.loadA rfl ag36 rfl qN ?_
              refine L.call rfl (evs.cons rfl <| evs.cons rfl <| evs.cons rfl <| evs.nil) qD qS (ban_no (k := 1) (id := oidF 1 (tx.take 30)) (tx := tx.take 30) ho32 (by simp; omega) rfl) ?_
              rintro _ _ _ ⟨rfl, rfl, rfl⟩
              refine L.norm qA qA ?_
              refine L.neI rfl rfl rfl ?_
              refine L.nil ?_
              refine T.thenN ?_
              refine T.condF rfl rfl ?_
              refine T.skip ?_
              refine T.blkN ?_
              refine T.thenN ?_
              exact T.toJoin ⟨_, _, _, (by first | (have := (show nn ≠ 0 from h45); exact jinv_ban (p := (1, oidF 1 (re.take 30), tx.take 30)) hI this) | (have := (show ak = 2 from h78); exact jinv_sil (n := nn) hI (by omega)) | (have := (show ¬ ak = 2 from h78); exact jinv_good (n := nn) hI) | exact hI), rfl, rfl, rfl⟩ (SubK.nil _) (.cons (t := 0) rfl <| .cons (t := 3) rfl <| .cons (t := 4) rfl <| .cons (t := 5) rfl <| .cons (t := 6) rfl <| SubK.nil _) qD qD qF
            · try simp only [decide_eq_true_eq, decide_eq_false_iff_not, Bool.not_eq_true', Bool.not_eq_false', Bool.and_eq_true, Bool.or_eq_true] at h62
              refine T.seq ?_
              refine T.region ?_
              first | refine L.field0 rfl fo32_0 rfl ?_ | refine L.field rfl fo32_0 rfl ?_
              refine L.load rfl sc3 rfl qC ?_
              refine L.eqI rfl rfl rfl ?_
              refine L.assign rfl rfl ?_
              refine L.nil ?_
              refine T.thenN ?_
              refine T.cond rfl (fun h78 => ?_) (fun h78 => ?_)
              · try simp only [decide_eq_true_eq, decide_eq_false_iff_not, Bool.not_eq_true', Bool.not_eq_false', Bool.and_eq_true, Bool.or_eq_true] at h78
                refine T.seq ?_
                refine T.region ?_
                refine L.move rfl rfl ?_
                refine L.move rfl rfl ?_
                refine L.move rfl rfl ?_
                refine L.call rfl (evs.cons rfl <| evs.cons rfl <| evs.cons rfl <| evs.nil) qD qS (silent_spec (by omega) (by omega)) ?_
                rintro _ _ _ ⟨rfl, rfl, rfl⟩
                refine L.norm qA qA ?_
                refine L.nil ?_
                refine T.thenN ?_
                refine T.region ?_
                refine L.move rfl rfl ?_
                refine L.move rfl rfl ?_
                refine L.move rfl rfl ?_
                refine L.mapUpdate (venc := iK) (v := nw) Try.underlying30 kt3 rfl rfl rfl rfl qP ?_
                refine L.nil ?_
                refine T.blkN ?_
                refine T.thenN ?_
                exact T.toJoin ⟨_, _, _, (by first | (have := (show nn ≠ 0 from h45); exact jinv_ban (p := (1, oidF 1 (re.take 30), tx.take 30)) hI this) | (have := (show ak = 2 from h78); exact jinv_sil (n := nn) hI (by omega)) | (have := (show ¬ ak = 2 from h78); exact jinv_good (n := nn) hI) | exact hI), rfl, rfl, rfl⟩ (SubK.nil _) (.cons (t := 0) rfl <| .cons (t := 3) rfl <| .cons (t := 4) rfl <| .cons (t := 5) rfl <| .cons (t := 6) rfl <| SubK.nil _) qD qD qF
              · try simp only [decide_eq_true_eq, decide_eq_false_iff_not, Bool.not_eq_true', Bool.not_eq_false', Bool.and_eq_true, Bool.or_eq_true] at h78
                refine T.region ?_
                refine L.move rfl rfl ?_
                refine L.move rfl rfl ?_
                refine L.call rfl (evs.cons rfl <| evs.cons rfl <| evs.nil) qD qS (good_spec ) ?_
                rintro _ _ _ ⟨rfl, rfl, rfl⟩
                refine L.norm qA qA ?_
                refine L.nil ?_
                refine T.blkN ?_
                refine T.thenN ?_
                exact T.toJoin ⟨_, _, _, (by first | (have := (show nn ≠ 0 from h45); exact jinv_ban (p := (1, oidF 1 (re.take 30), tx.take 30)) hI this) | (have := (show ak = 2 from h78); exact jinv_sil (n := nn) hI (by omega)) | (have := (show ¬ ak = 2 from h78); exact jinv_good (n := nn) hI) | exact hI), rfl, rfl, rfl⟩ (SubK.nil _) (.cons (t := 0) rfl <| .cons (t := 3) rfl <| .cons (t := 4) rfl <| .cons (t := 5) rfl <| .cons (t := 6) rfl <| SubK.nil _) qD qD qF
        · try simp only [decide_eq_true_eq, decide_eq_false_iff_not, Bool.not_eq_true', Bool.not_eq_false', Bool.and_eq_true, Bool.or_eq_true] at h2
          refine L.guardF (dj := 49) (c := false) rfl rfl rfl rfl rfl (by decide) ?_
          refine L.guardF (dj := 49) (c := false) rfl rfl rfl rfl rfl (by decide) ?_
          refine L.pickF rfl rfl rfl ?_
          refine L.assign rfl rfl ?_
          refine L.nil ?_
          refine T.thenN ?_
          refine T.condF rfl rfl ?_
          refine T.seq ?_
          refine T.region ?_
          first | refine L.field0 rfl fo32_0 rfl ?_ | refine L.field rfl fo32_0 rfl ?_
          refine L.load rfl sc3 rfl qC ?_
          refine L.eqI rfl rfl rfl ?_
          refine L.assign rfl rfl ?_
          refine L.nil ?_
          refine T.thenN ?_
          refine T.cond rfl (fun h62 => ?_) (fun h62 => ?_)
          · try simp only [decide_eq_true_eq, decide_eq_false_iff_not, Bool.not_eq_true', Bool.not_eq_false', Bool.and_eq_true, Bool.or_eq_true] at h62
            refine T.seq ?_
            refine T.region ?_
            first | refine L.field0 rfl fo32_3 rfl ?_ | refine L.field rfl fo32_3 rfl ?_
            refine L.load rfl sc9 rfl qC ?_
            first | refine L.field0 rfl fo32_4 rfl ?_ | refine L.field rfl fo32_4 rfl ?_
            refine L.store sc9 rfl rfl rfl qU qE ?_
            refine L.nil ?_
            refine T.thenN ?_
            refine T.seq ?_
            refine T.region ?_
            refine L.loadA rfl ag32 rfl qN ?_
            refine L.call rfl (evs.cons rfl <| evs.nil) qD qS (proof_spec (tx := tx) (re := tx)) ?_
            rintro _ _ _ ⟨rfl, rfl, rfl⟩
            refine L.norm qA qA ?_
            have ho32 := oidF_len 1 (tx.take 30)
            have h34 : (pcells (1, oidF 1 (tx.take 30), tx.take 30)).length = 34 := by simp [ho32]
            refine L.move rfl rfl ?_
            refine L.extract rfl rfl rfl ?_
            refine L.extract rfl rfl rfl ?_
            refine L.alloc rfl ze36 (fun b11 => ?_)
            refine L.alloc rfl ze38 (fun b12 => ?_)
            refine L.storeA ag36 rfl rfl qL qO qU qW ?_
            refine L.storeA ag38 rfl rfl qL qO qU qW ?_
            refine L.nil ?_
            refine T.thenN ?_
            refine T.seq ?_
            refine T.region ?_
            refine L.move rfl rfl ?_
            refine L.loadA rfl ag36 rfl qN ?_
            refine L.call rfl (evs.cons rfl <| evs.cons rfl <| evs.cons rfl <| evs.nil) qD qS (ban_no (k := 1) (id := oidF 1 (tx.take 30)) (tx := tx.take 30) ho32 (by simp; omega) rfl) ?_
            rintro _ _ _ ⟨rfl, rfl, rfl⟩
            refine L.norm qA qA ?_
            refine L.neI rfl rfl rfl ?_
            refine L.nil ?_
            refine T.thenN ?_
            refine T.condF rfl rfl ?_
            refine T.skip ?_
            refine T.blkN ?_
            refine T.thenN ?_
            exact T.toJoin ⟨_, _, _, (by first | (have := (show nn ≠ 0 from h45); exact jinv_ban (p := (1, oidF 1 (re.take 30), tx.take 30)) hI this) | (have := (show ak = 2 from h78); exact jinv_sil (n := nn) hI (by omega)) | (have := (show ¬ ak = 2 from h78); exact jinv_good (n := nn) hI) | exact hI), rfl, rfl, rfl⟩ (SubK.nil _) (.cons (t := 0) rfl <| .cons (t := 3) rfl <| .cons (t := 4) rfl <| .cons (t := 5) rfl <| .cons (t := 6) rfl <| SubK.nil _) qD qD qF
          · try simp only [decide_eq_true_eq, decide_eq_false_iff_not, Bool.not_eq_true', Bool.not_eq_false', Bool.and_eq_true, Bool.or_eq_true] at h62
            refine T.seq ?_
            refine T.region ?_
            first | refine L.field0 rfl fo32_0 rfl ?_ | refine L.field rfl fo32_0 rfl ?_
            refine L.load rfl sc3 rfl qC ?_
            refine L.eqI rfl rfl rfl ?_
            refine L.assign rfl rfl ?_
            refine L.nil ?_
            refine T.thenN ?_
            refine T.cond rfl (fun h78 => ?_) (fun h78 => ?_)
            · try simp only [decide_eq_true_eq, decide_eq_false_iff_not, Bool.not_eq_true', Bool.not_eq_false', Bool.and_eq_true, Bool.or_eq_true] at h78
              refine T.seq ?_
              refine T.region ?_
              refine L.move rfl rfl ?_
              refine L.move rfl rfl ?_
              refine L.move rfl rfl ?_
              refine L.call rfl (evs.cons rfl <| evs.cons rfl <| evs.cons rfl <| evs.nil) qD qS (silent_spec (by omega) (by omega)) ?_
              rintro _ _ _ ⟨rfl, rfl, rfl⟩
              refine L.norm qA qA ?_
              refine L.nil ?_
              refine T.thenN ?_
              refine T.region ?_
              refine L.move rfl rfl ?_
              refine L.move rfl rfl ?_
              refine L.move rfl rfl ?_
              refine L.mapUpdate (venc := iK) (v := nw) Try.underlying30 kt3 rfl rfl rfl rfl qP ?_
              refine L.nil ?_
              refine T.blkN ?_
              refine T.thenN ?_
              exact T.toJoin ⟨_, _, _, (by first | (have := (show nn ≠ 0 from h45); exact jinv_ban (p := (1, oidF 1 (re.take 30), tx.take 30)) hI this) | (have := (show ak = 2 from h78); exact jinv_sil (n := nn) hI (by omega)) | (have := (show ¬ ak = 2 from h78); exact jinv_good (n := nn) hI) | exact hI), rfl, rfl, rfl⟩ (SubK.nil _) (.cons (t := 0) rfl <| .cons (t := 3) rfl <| .cons (t := 4) rfl <| .cons (t := 5) rfl <| .cons (t := 6) rfl <| SubK.nil _) qD qD qF
            · try simp only [decide_eq_true_eq, decide_eq_false_iff_not, Bool.not_eq_true', Bool.not_eq_false', Bool.and_eq_true, Bool.or_eq_true] at h78
              refine T.region ?_
              refine L.move rfl rfl ?_
              refine L.move rfl rfl ?_
              refine L.call rfl (evs.cons rfl <| evs.cons rfl <| evs.nil) qD qS (good_spec ) ?_
              rintro _ _ _ ⟨rfl, rfl, rfl⟩
              refine L.norm qA qA ?_
              refine L.nil ?_
              refine T.blkN ?_
              refine T.thenN ?_
              exact T.toJoin ⟨_, _, _, (by first | (have := (show nn ≠ 0 from h45); exact jinv_ban (p := (1, oidF 1 (re.take 30), tx.take 30)) hI this) | (have := (show ak = 2 from h78); exact jinv_sil (n := nn) hI (by omega)) | (have := (show ¬ ak = 2 from h78); exact jinv_good (n := nn) hI) | exact hI), rfl, rfl, rfl⟩ (SubK.nil _) (.cons (t := 0) rfl <| .cons (t := 3) rfl <| .cons (t := 4) rfl <| .cons (t := 5) rfl <| .cons (t := 6) rfl <| SubK.nil _) qD qD qF
      rintro _ _ _ ⟨F, lm, c7, hI, rfl, rfl, rfl⟩
      refine T.norm3 qA qA qA ?_
      refine T.thenN ?_
      refine T.seq ?_
      refine T.region ?_
      refine L.move rfl rfl ?_
      refine L.nil ?_
      refine T.thenN ?_
      refine T.block ?_
      refine T.loop (fun K' D' M' μ => ∃ (j : Nat), (j ≤ 8) ∧ K' = [(89, .int .i64 j)] ∧ D' = [] ∧ M' = [] ∧ μ = 8 - j) (.cons (t := 0) rfl <| .cons (t := 3) rfl <| .cons (t := 4) rfl <| .cons (t := 5) rfl <| .cons (t := 6) rfl <| SubK.nil _) (⟨0, qT, rfl, rfl, rfl, rfl⟩) (.cons (t := 89) rfl <| SubK.nil _) qD qS ?_
      rintro K1 D1 M1 m1 ⟨j, hj, rfl, rfl, rfl, rfl⟩
      refine T.norm3 qA qA qA ?_
      refine T.seq ?_
      refine T.region ?_
      refine L.ltI rfl rfl rfl ?_
      refine L.nil ?_
      refine T.thenN ?_
      refine T.seq ?_
      refine T.cond rfl (fun h90 => ?_) (fun h90 => ?_)
      · try simp only [decide_eq_true_eq, decide_eq_false_iff_not, Bool.not_eq_true', Bool.not_eq_false', Bool.and_eq_true, Bool.or_eq_true] at h90
        refine T.skip ?_
        refine T.thenN ?_
        refine T.seq ?_
        refine T.block ?_
        refine T.seq ?_
        refine T.region ?_
        refine L.move rfl rfl ?_
        refine L.assign rfl rfl ?_
        refine L.nil ?_
        refine T.thenN ?_
        refine T.seq ?_
        refine T.regionQ (by kernel_rfl) (by kernel_rfl) ?_
        refine L.move rfl rfl ?_
        refine L.move rfl rfl ?_
        refine L.callF rfl (evs.cons rfl <| evs.cons rfl <| evs.nil) qD qS (until_spec ) (by rintro u D1 M1 ⟨rfl, rfl, rfl⟩; exact ⟨rfl, _, qA, qF⟩) ?_
        refine L.move rfl rfl ?_
        refine L.move rfl rfl ?_
        refine L.lookup1 rfl Try.underlying30 kt3 zv3 rfl rfl qM ?_
        rw [lv_eq]
        have hlk := hI.2.2 j
        refine L.addN rfl rfl rfl (by omega) ?_
        refine L.gtI rfl rfl rfl ?_
        refine L.nilQ ?_
        refine T.thenN ?_
        refine T.condF rfl (decide_eq_false (by have := hI.1 j; omega)) ?_
        refine T.skip ?_
        refine T.blkN ?_
        refine T.thenN ?_
        refine T.region ?_
        refine L.addN rfl rfl rfl (by omega) ?_
        refine L.move rfl rfl ?_
        refine L.nil ?_
        refine T.thenN ?_
        exact T.back ⟨j + 1, qT, rfl, rfl, rfl, rfl⟩ qI (.cons (t := 89) rfl <| SubK.nil _) (.cons (t := 0) rfl <| .cons (t := 3) rfl <| .cons (t := 4) rfl <| .cons (t := 5) rfl <| .cons (t := 6) rfl <| SubK.nil _) qD qD qF
      · try simp only [decide_eq_true_eq, decide_eq_false_iff_not, Bool.not_eq_true', Bool.not_eq_false', Bool.and_eq_true, Bool.or_eq_true] at h90
        refine T.exit ?_
        refine T.thenX ?_
        refine T.thenX ?_
        refine T.blkX ?_
        refine T.blkN ?_
        refine T.thenN ?_
        refine T.region ?_
        refine L.move rfl rfl ?_
        refine L.addN rfl rfl rfl (by omega) ?_
        refine L.assign rfl rfl ?_
        refine L.nil ?_
        refine T.thenN ?_
        exact T.back ⟨i + 1, _, _, _, ⟨by omega, hI⟩, rfl, rfl, rfl, rfl⟩ qI (.cons (t := 6) rfl <| .cons (t := 4) rfl <| SubK.nil _) (.cons (t := 0) rfl <| .cons (t := 3) rfl <| .cons (t := 5) rfl <| SubK.nil _) qD qD qF
    · try simp only [decide_eq_true_eq, decide_eq_false_iff_not, Bool.not_eq_true', Bool.not_eq_false', Bool.and_eq_true, Bool.or_eq_true] at h27
      refine T.exit ?_
      refine T.thenX ?_
      refine T.thenX ?_
      refine T.blkX ?_
      refine T.thenN ?_
      refine T.seq ?_
      refine T.region ?_
      refine L.move rfl rfl ?_
      refine L.callF rfl (evs.cons rfl <| evs.cons rfl <| evs.nil) qD qS (banned_spec ) (by rintro u D1 M1 ⟨rfl, rfl, rfl⟩; exact ⟨rfl, _, qA, qF⟩) ?_
      have h34 : (pcells ((F 0).2.2.2.getD zP)).length = 34 := by rw [hI.2.1]; rfl
      refine L.move rfl rfl ?_
      refine L.extract rfl rfl rfl ?_
      refine L.extract rfl rfl rfl ?_
      refine L.alloc rfl ze36 (fun b14 => ?_)
      refine L.storeA ag36 rfl rfl qL qO qU qW ?_
      refine L.assign rfl rfl ?_
      refine L.nil ?_
      refine T.thenN ?_
      refine T.seq ?_
      refine T.region ?_
      refine L.move rfl rfl ?_
      refine L.notB rfl rfl ?_
      refine L.move rfl rfl ?_
      refine L.known (t := 108) rfl (show _ = Value.bool true from congrArg Value.bool (by rw [hI.2.1]; rfl)) ?_
      refine L.guardT (dj := 108) rfl rfl rfl ?_
      refine L.move rfl rfl ?_
      refine L.guardT (dj := 108) rfl rfl rfl ?_
      refine L.move rfl rfl ?_
      refine L.guardT (dj := 108) rfl rfl rfl ?_
      refine L.addN rfl rfl rfl (by omega) ?_
      refine L.guardT (dj := 108) rfl rfl rfl ?_
      refine L.callF rfl (evs.cons rfl <| evs.cons rfl <| evs.cons rfl <| evs.nil) qD qS (may_spec ) (by rintro u D1 M1 ⟨rfl, rfl, rfl⟩; exact ⟨rfl, _, qA, qF⟩) ?_
      refine L.pickT rfl rfl rfl ?_
      refine L.assign rfl rfl ?_
      refine L.nil ?_
      refine T.thenN ?_
      refine T.ret ?_
      exact T.ret1 rfl rfl ⟨congrArg Value.bool (by have h5 := hI.1 0; have h6 := hI.2.2 0; simp only [mayB, hI.2.1]; simp; omega), rfl, rfl⟩ qD qF
  · try simp only [decide_eq_true_eq, decide_eq_false_iff_not, Bool.not_eq_true', Bool.not_eq_false', Bool.and_eq_true, Bool.or_eq_true] at h1
    refine L.guardF (dj := 24) (c := false) rfl rfl rfl rfl rfl (by decide) ?_
    refine L.guardF (dj := 24) (c := false) rfl rfl rfl rfl rfl (by decide) ?_
    refine L.pickF rfl rfl rfl ?_
    refine L.nil ?_
    refine T.thenN ?_
    refine T.condF rfl rfl ?_
    refine T.exit ?_
    refine T.thenX ?_
    refine T.thenX ?_
    refine T.blkX ?_
    refine T.thenN ?_
    refine T.seq ?_
    refine T.region ?_
    refine L.move rfl rfl ?_
    refine L.callF rfl (evs.cons rfl <| evs.cons rfl <| evs.nil) qD qS (banned_spec ) (by rintro u D1 M1 ⟨rfl, rfl, rfl⟩; exact ⟨rfl, _, qA, qF⟩) ?_
    have h34 : (pcells ((F 0).2.2.2.getD zP)).length = 34 := by rw [hI.2.1]; rfl
    refine L.move rfl rfl ?_
    refine L.extract rfl rfl rfl ?_
    refine L.extract rfl rfl rfl ?_
    refine L.alloc rfl ze36 (fun b14 => ?_)
    refine L.storeA ag36 rfl rfl qL qO qU qW ?_
    refine L.assign rfl rfl ?_
    refine L.nil ?_
    refine T.thenN ?_
    refine T.seq ?_
    refine T.region ?_
    refine L.move rfl rfl ?_
    refine L.notB rfl rfl ?_
    refine L.move rfl rfl ?_
    refine L.known (t := 108) rfl (show _ = Value.bool true from congrArg Value.bool (by rw [hI.2.1]; rfl)) ?_
    refine L.guardT (dj := 108) rfl rfl rfl ?_
    refine L.move rfl rfl ?_
    refine L.guardT (dj := 108) rfl rfl rfl ?_
    refine L.move rfl rfl ?_
    refine L.guardT (dj := 108) rfl rfl rfl ?_
    refine L.addN rfl rfl rfl (by omega) ?_
    refine L.guardT (dj := 108) rfl rfl rfl ?_
    refine L.callF rfl (evs.cons rfl <| evs.cons rfl <| evs.cons rfl <| evs.nil) qD qS (may_spec ) (by rintro u D1 M1 ⟨rfl, rfl, rfl⟩; exact ⟨rfl, _, qA, qF⟩) ?_
    refine L.pickT rfl rfl rfl ?_
    refine L.assign rfl rfl ?_
    refine L.nil ?_
    refine T.thenN ?_
    refine T.ret ?_
    exact T.ret1 rfl rfl ⟨congrArg Value.bool (by have h5 := hI.1 0; have h6 := hI.2.2 0; simp only [mayB, hI.2.1]; simp; omega), rfl, rfl⟩ qD qF
end Cv
