/-
  The walks: awake.
-/
import Derived.Test.YtcilkdnbbebjgaaGreatOa11
import Derived.Test.YtcilkdnbbebjgaaGreatP06
import Derived.Test.YtcilkdnbbebjgaaGreatProg
import Derived.KernelRfl
set_option linter.unusedVariables false
set_option linter.unusedSimpArgs false
set_option linter.unusedSectionVars false
set_option maxRecDepth 10000
namespace Cv
open Go Go.Proofs
/-! ## what awake of chapter 11 asks: plain laws -/
theorem asc_uniq : ∀ {l m : List ID32}, l.Pairwise (fun x y => x.1 < y.1) → m.Pairwise (fun x y => x.1 < y.1) → (∀ z, z ∈ l ↔ z ∈ m) → l = m
  | [], [], _, _, _ => rfl
  | [], y :: m, _, _, h => absurd ((h y).2 (List.mem_cons_self ..)) (by simp)
  | x :: l, [], _, _, h => absurd ((h x).1 (List.mem_cons_self ..)) (by simp)
  | x :: l, y :: m, hl, hm, h => by
    obtain ⟨l1, l2⟩ := List.pairwise_cons.1 hl
    obtain ⟨m1, m2⟩ := List.pairwise_cons.1 hm
    have irr : ∀ {a b : ID32}, a.1 < b.1 → a ≠ b := fun {a b} k e => by
      subst e; exact cfI_irr a (cmpB_lt.2 k)
    have e : x = y := by
      rcases List.mem_cons.1 ((h x).1 (List.mem_cons_self ..)) with a | a
      · exact a
      · rcases List.mem_cons.1 ((h y).2 (List.mem_cons_self ..)) with b | b
        · exact b.symm
        · exact absurd (cmpB_lt.2 (l1 y b)) (cfI_swo.asym _ _ (cmpB_lt.2 (m1 x a)))
    subst e
    congr 1
    refine asc_uniq l2 m2 fun z => ⟨fun hz => ?_, fun hz => ?_⟩
    · rcases List.mem_cons.1 ((h z).1 (List.mem_cons_of_mem _ hz)) with a | a
      · exact absurd a.symm (irr (l1 z hz))
      · exact a
    · rcases List.mem_cons.1 ((h z).2 (List.mem_cons_of_mem _ hz)) with a | a
      · exact absurd a.symm (irr (m1 z hz))
      · exact a
theorem names_uniq {xs l m : List ID32} (h : NamesF xs l) (k : NamesF xs m) : l = m := asc_uniq h.asc k.asc fun z => (h.mem z).trans (k.mem z).symm
theorem cutW_short {tt : List Int} : ∀ (s q : List UInt8), q.length + s.length < 32 → cutW tt ([], q) s = ([], q ++ s)
  | [], q, _ => by show ([], q) = _; simp
  | c :: s, q, h => by
    simp only [List.length_cons] at h
    have e : cutS tt ([], q) c = ([], q ++ [c]) := cutS_no (decide_eq_false (by show ¬ (32 ≤ q.length + 1 ∧ _); omega))
    show cutW tt (cutS tt ([], q) c) s = _
    rw [e, cutW_short s (q ++ [c]) (by rw [List.length_append]; simp only [List.length_singleton]; omega)]
    simp
theorem chnF_short {tt : List Int} {s : List UInt8} (h : s.length < 32) (h0 : s ≠ []) : chnF tt s = [s] := by
  unfold chnF
  rw [cutW_short s [] (by simpa using h), List.nil_append]
  show [] ++ lastC s = [s]
  unfold lastC; rw [if_neg h0]; rfl
theorem grps_one (p : Pt) : grps [p] = [[p]] := by simp [grps, grI, gN, grp]
theorem upP_one (k : Nat) (p : Pt) : upP k [p] = [upt k [p]] := by unfold upP; rw [grps_one]; simp only [List.map_cons, List.map_nil]
theorem upO_one (k : Nat) (p : Pt) : upO k [p] = [uob k [p]] := by unfold upO; rw [grps_one]; simp only [List.map_cons, List.map_nil]
theorem bld_one {s : List UInt8} (h0 : s ≠ []) (h : s.length ≤ 256) : bldM [s] = (upt 1 [lf s], [lo s, uob 1 [lf s]], 0) := by
  have hp := List.length_pos_iff.2 h0
  have hz : sizeI ([s].map lf) [s].length = (s.length : Int) := by show (0 : Int) + (s.length : Int) = _; omega
  refine bld_ok (fun c hc => ?_) (by rw [hz]; omega) (by rw [hz]; omega) ?_
  · have : c = s := by simpa using hc
    subst this
    simp only [badC, not_or]; exact ⟨h0, by omega⟩
  · show lvR (1 + 1) 1 [lf s] [lo s] = _
    rw [lvR_s (.inl rfl)]
    rw [upP_one, upO_one]
    exact lvR_z (f := 1) (k := 2) (ps := [upt 1 [lf s]]) (os := [lo s, uob 1 [lf s]]) (by simp)
def idA : ID32 := ⟨1 :: List.replicate 31 0, rfl⟩
def idBb : ID32 := ⟨2 :: List.replicate 31 0, rfl⟩
def xa1 : Tr := .mk [] 1 [97] []
def tA : List UInt8 := [99, 114, 118, 1, 1, 1, 1, 1, 97]
def pA : Pt := upt 1 [lf tA]
theorem put_a1 : putT xa1 = [1, 1, 1, 1, 97] := by
  rw [putT_eq]
  show numB 1 ++ (if (1 : Int) ≠ 4 then strB [97] else _) = _
  rw [if_pos (by decide), strB]
  show numB 1 ++ (numB 1 ++ [97]) = _
  rw [num_1']; rfl
theorem chk_a1 : chkE xa1 = 0 := by decide +kernel
theorem wr_a1 : wrS xa1 = tA ∧ wrE xa1 = 0 := by
  obtain ⟨h1, h2⟩ := wr_ok chk_a1 (by rw [put_a1]; decide)
  exact ⟨by rw [h1, put_a1]; rfl, h2⟩
theorem of_a1 : ofB xa1 = (pA, [lo tA, uob 1 [lf tA]], 0) := by
  unfold ofB
  rw [wr_a1.1, chnF_short (by decide) (by decide)]
  exact bld_one (by decide) (by decide)
theorem ofI_a1 : ofI xa1 [idA, idBb] = (pA, [idA, idBb], [lo tA, uob 1 [lf tA]], 0) := by
  unfold ofI
  rw [if_neg (by rw [wr_a1.2]; decide), if_neg (by decide), of_a1, if_neg (by decide)]
theorem names_a1 : NamesF [idBb, idA, idBb] [idA, idBb] where
  asc := by decide
  mem z := by
    simp only [List.mem_cons, List.not_mem_nil, or_false]
    constructor
    · rintro (h | h) <;> simp [h]
    · rintro (h | h | h) <;> simp [h]
theorem sz_a1 : pA.2 = 9 := rfl
theorem chk_pa : chkI pA [idA, idBb] = 0 := chk_0 (by rw [sz_a1]; decide) (by rw [sz_a1]; decide) (by decide +kernel)
theorem oid_a1 : oidF 1 tA = [177, 16, 225, 71, 238, 235, 237, 19, 31, 251, 173, 81, 171, 48, 115, 212, 71, 82, 136, 60, 46, 117, 155, 173, 138, 104, 7, 48, 0, 174, 216, 250] := by decide +kernel
theorem oid_a2 : oidF 2 ([1, 1, 1, 1] ++ [177, 16, 225, 71, 238, 235, 237, 19, 31, 251, 173, 81, 171, 48, 115, 212, 71, 82, 136, 60, 46, 117, 155, 173, 138, 104, 7, 48, 0, 174, 216, 250] ++ [1, 9]) = [125, 113, 214, 45, 38, 107, 210, 37, 157, 239, 104, 132, 84, 135, 21, 69, 152, 223, 114, 133, 141, 120, 102, 74, 108, 157, 250, 208, 187, 249, 90, 126] := by decide +kernel
theorem oid_a3 : ¬ oidF 3 ([125, 113, 214, 45, 38, 107, 210, 37, 157, 239, 104, 132, 84, 135, 21, 69, 152, 223, 114, 133, 141, 120, 102, 74, 108, 157, 250, 208, 187, 249, 90, 126] ++ [1, 9] ++ ([1, 2] ++ ((1 :: List.replicate 31 0) ++ (2 :: List.replicate 31 0)))) = List.replicate 32 0 := by decide +kernel
theorem num_9' : numB 9 = [1, 9] := by decide +kernel
theorem num_2q : numB 2 = [1, 2] := by decide +kernel
theorem num_1q : numB 1 = [1, 1] := by decide +kernel
theorem pa_id : pA.1.1 = [125, 113, 214, 45, 38, 107, 210, 37, 157, 239, 104, 132, 84, 135, 21, 69, 152, 223, 114, 133, 141, 120, 102, 74, 108, 157, 250, 208, 187, 249, 90, 126] := by
  have h : nodeT 1 [lf tA] = [1, 1, 1, 1] ++ [177, 16, 225, 71, 238, 235, 237, 19, 31, 251, 173, 81, 171, 48, 115, 212, 71, 82, 136, 60, 46, 117, 155, 173, 138, 104, 7, 48, 0, 174, 216, 250] ++ [1, 9] := by
    have h1 : nodeT 1 [lf tA] = numB 1 ++ numB 1 ++ ((oI 1 tA).1 ++ numB 9 ++ []) := rfl
    rw [h1, oI_val, oid_a1, num_9', num_1q]; rfl
  show (oI 2 (nodeT 1 [lf tA])).1 = _
  rw [h, oI_val, oid_a2]
theorem nm_a1 : ¬ (inN pA [idA, idBb]).1 = zID.1 := by
  have h : inT pA [idA, idBb] = pA.1.1 ++ numB 9 ++ (numB 2 ++ ((1 :: List.replicate 31 0) ++ (2 :: List.replicate 31 0))) := rfl
  unfold inN
  rw [oI_val, h, pa_id, num_9', num_2q]
  exact oid_a3
theorem bua31 : Bu Tryz.prog 31 [Value.int .u8 0, Value.int .u8 0, Value.int .u8 0, Value.int .u8 0, Value.int .u8 0, Value.int .u8 0, Value.int .u8 0, Value.int .u8 0, Value.int .u8 0, Value.int .u8 0, Value.int .u8 0, Value.int .u8 0, Value.int .u8 0, Value.int .u8 0, Value.int .u8 0, Value.int .u8 0, Value.int .u8 0, Value.int .u8 0, Value.int .u8 0, Value.int .u8 0, Value.int .u8 0, Value.int .u8 0, Value.int .u8 0, Value.int .u8 0, Value.int .u8 0, Value.int .u8 0, Value.int .u8 0, Value.int .u8 0, Value.int .u8 0, Value.int .u8 0, Value.int .u8 0, Value.int .u8 0] (fun (i : Nat) => some (i * 1, 1)) := bua_of Tryz.underlying31 zv31 rfl sz5
theorem iof_a {a : Option Addr} {c : Nat} {xA xB : ID32} (eA : xA = idA) (eB : xB = idBb) : Spec Tryz.prog 10 [.agg (iRow xa1 none 0 0).toArray, .slice a 3 c] [rtr xa1 (eRow xa1 none 0 0), rsl 32 a 3 c ([xB, xA, xB].map iC)] [] (fun v D' M' => ∃ (a1 a2 : Option Addr) (c1 c2 : Nat), v = .tuple #[.agg (inC pA a1 2 c1).toArray, .slice a2 2 c2, .int .i64 0] ∧ D' = [rsl 32 a1 2 c1 ([xA, xB].map iC), rsl 34 a2 2 c2 ([lo tA, uob 1 [lf tA]].map obC)] ∧ M' = []) := by
 subst eA eB
 exact (iof_spec (x := xa1) none 0 0 (by show (Tr.mk [] 1 [97] []).count ≤ _; rw [Tr.count_eq]; decide) tall_leaf (by decide) (by decide)).imp (by
  rintro v D M ⟨a1, a2, n1, c1, n2, c2, l, rfl, hnf, h1, h2, rfl, rfl⟩
  obtain rfl : l = [idA, idBb] := names_uniq (hnf.resolve_right (fun k => k wr_a1.2)) names_a1
  rw [ofI_a1] at h1 h2 ⊢
  obtain rfl : 2 = n1 := h1
  obtain rfl : 2 = n2 := h2
  exact ⟨a1, a2, c1, c2, rfl, rfl, rfl⟩)
set_option maxHeartbeats 400000 in
theorem awake11_spec   : Spec Tryz.prog 13 [] [] [] (fun v D' M' => v = .bool true ∧ D' = [] ∧ M' = []) := by
 refine Spec.intro (n := 55) Tryz.func13 rfl rfl (by decide) (Nat.le_of_ble_eq_true rfl) rfl (fun _ => qA) (fun _ => qA) ?_
 intro σ D M
 obtain ⟨xA, eA⟩ : ∃ x, x = idA := ⟨_, rfl⟩
 obtain ⟨xB, eB⟩ : ∃ x, x = idBb := ⟨_, rfl⟩
 have hA := xA.2
 have hB := xB.2
 have hA3 := iC_len xA
 have hB3 := iC_len xB
 have hz2 := zID.2
 have hp32 := pA.1.2
 refine T.seq (T.region ?_)
 refine L.assign rfl rfl ?_
 refine L.nil ?_
 refine T.thenN (T.seq (T.region ?_))
 refine L.build rfl bua31 (BP.one rfl rfl rfl <| BP.doneE (out := (Value.int .u8 0 :: Value.int .u8 0 :: Value.int .u8 0 :: Value.int .u8 0 :: Value.int .u8 0 :: Value.int .u8 0 :: Value.int .u8 0 :: Value.int .u8 0 :: Value.int .u8 0 :: Value.int .u8 0 :: Value.int .u8 0 :: Value.int .u8 0 :: Value.int .u8 0 :: Value.int .u8 0 :: Value.int .u8 0 :: Value.int .u8 0 :: Value.int .u8 0 :: Value.int .u8 0 :: Value.int .u8 0 :: Value.int .u8 0 :: Value.int .u8 0 :: Value.int .u8 0 :: Value.int .u8 0 :: Value.int .u8 0 :: Value.int .u8 0 :: Value.int .u8 0 :: Value.int .u8 0 :: Value.int .u8 0 :: Value.int .u8 0 :: Value.int .u8 0 :: Value.int .u8 0 :: [])) rfl) ?_
 refine L.build rfl bua31 (BP.one rfl rfl rfl <| BP.doneE (out := (Value.int .u8 0 :: Value.int .u8 0 :: Value.int .u8 0 :: Value.int .u8 0 :: Value.int .u8 0 :: Value.int .u8 0 :: Value.int .u8 0 :: Value.int .u8 0 :: Value.int .u8 0 :: Value.int .u8 0 :: Value.int .u8 0 :: Value.int .u8 0 :: Value.int .u8 0 :: Value.int .u8 0 :: Value.int .u8 0 :: Value.int .u8 0 :: Value.int .u8 0 :: Value.int .u8 0 :: Value.int .u8 0 :: Value.int .u8 0 :: Value.int .u8 0 :: Value.int .u8 0 :: Value.int .u8 0 :: Value.int .u8 0 :: Value.int .u8 0 :: Value.int .u8 0 :: Value.int .u8 0 :: Value.int .u8 0 :: Value.int .u8 0 :: Value.int .u8 0 :: Value.int .u8 0 :: [])) rfl) ?_
 refine L.alloc rfl ze31 (fun b1 => ?_)
 refine L.alloc rfl ze31 (fun b2 => ?_)
 refine L.storeA ag31 rfl rfl qL qO qU qW ?_
 refine L.storeA ag31 rfl rfl qL qO qU qW ?_
 refine L.nil ?_
 refine T.clEq b1 (iC xA) qP (by rw [eA]; rfl) ?_
 refine T.freeze (A := cl b1 31 (iC xA)) qP ?_
 refine T.clEq b2 (iC xB) qP (by rw [eB]; rfl) ?_
 refine T.freeze (A := cl b2 31 (iC xB)) qP ?_
 refine T.fact0 (φ := rtr xa1 (eRow xa1 none 0 0)) (fun z => rt_leaf) ?_
 refine T.thenN (T.seq (T.region ?_))
 refine L.build rfl bu24 (BP.one rfl rfl rfl <| BP.one rfl rfl rfl <| BP.doneE (out := [Value.slice none 0 0]) rfl) ?_
 refine L.known (t := 9) (u := .agg (iRow xa1 none 0 0).toArray) rfl (by rfl) ?_
 refine L.loadA rfl ag31 rfl qN ?_
 refine L.loadA rfl ag31 rfl qN ?_
 refine L.loadA rfl ag31 rfl qN ?_
 refine L.buildSlice rfl bs27 (by decide) (BP.agg (cs := iC xA ++ (iC xB ++ [])) rfl rfl hB3 (Nat.le_of_ble_eq_true rfl) AppL.refl <| BP.agg (cs := iC xB ++ []) rfl rfl hA3 (Nat.le_of_ble_eq_true rfl) AppL.refl <| BP.agg (cs := []) rfl rfl hB3 (Nat.le_of_ble_eq_true rfl) AppL.refl <| BP.doneE (out := []) rfl) (fun b13 => ?_)
 refine L.toOwn (len := 3) qP (rows := [xB, xA, xB].map iC) (sz := 32) (by rfl) rfl (by simp [hA, hB]) ?_
 refine L.ownRsl qP ?_
 refine L.call rfl (evs.cons rfl <| evs.cons rfl <| evs.nil) qD qS (iof_a eA eB) ?_
 rintro _ _ _ ⟨ia, oa, ic, oc, rfl, rfl, rfl⟩
 refine L.norm qA qA ?_
 have hin := inC_len pA ia 2 ic
 refine L.move rfl rfl ?_
 refine L.extract rfl rfl rfl ?_
 refine L.extract rfl rfl rfl ?_
 refine L.extract rfl rfl rfl ?_
 refine L.alloc rfl ze35 (fun b3 => ?_)
 refine L.storeA ag35 rfl rfl qL qO qU qW ?_
 refine L.assign rfl rfl ?_
 refine L.assign rfl rfl ?_
 refine L.nil ?_
 refine T.freeze (A := cl b3 35 (inC pA ia 2 ic)) qP ?_
 refine T.rslAddr (rows := [xA, xB].map iC) qM (by simp) (fun bo oo ha => ?_)
 subst ha
 have hgr0 : ([xA, xB].map iC)[0]? = some (iC xA) := rfl
 refine T.thenN (T.seq ?_)
 refine T.regionQ qk qk ?_
 refine L.move rfl rfl ?_
 refine L.eqI rfl rfl rfl ?_
 refine L.move rfl rfl ?_
 refine L.known (t := 20) rfl (show _ = Value.bool true from congrArg Value.bool (by decide)) ?_
 refine L.guardT (dj := 20) rfl rfl rfl ?_
 refine L.move rfl rfl ?_
 refine L.guardT (dj := 20) rfl rfl rfl ?_
 refine L.lenSl rfl Tryz.underlying36 rfl ?_
 refine L.guardT (dj := 20) rfl rfl rfl ?_
 refine L.eqI rfl rfl rfl ?_
 refine L.pickT rfl rfl rfl ?_
 refine L.move rfl rfl ?_
 refine L.known (t := 25) rfl (show _ = Value.bool true from congrArg Value.bool (by decide)) ?_
 refine L.guardT (dj := 25) rfl rfl rfl ?_
 first | refine L.field0 rfl fo35_1 rfl ?_ | refine L.field rfl fo35_1 rfl ?_
 refine L.guardT (dj := 25) rfl rfl rfl ?_
 refine L.load rfl sc27 rfl qC ?_
 refine L.guardT (dj := 25) rfl rfl rfl ?_
 refine L.lenSl rfl Tryz.underlying27 rfl ?_
 refine L.guardT (dj := 25) rfl rfl rfl ?_
 refine L.eqI rfl rfl rfl ?_
 refine L.pickT rfl rfl rfl ?_
 refine L.move rfl rfl ?_
 refine L.known (t := 31) rfl (show _ = Value.bool true from congrArg Value.bool (by decide)) ?_
 refine L.guardT (dj := 31) rfl rfl rfl ?_
 first | refine L.field0 rfl fo35_1 rfl ?_ | refine L.field rfl fo35_1 rfl ?_
 refine L.guardT (dj := 31) rfl rfl rfl ?_
 refine L.load rfl sc27 rfl qC ?_
 refine L.guardT (dj := 31) rfl rfl rfl ?_
 refine L.idxR (i := 0) rfl Tryz.underlying27 sz31 rfl rfl qM (by first | rfl | omega | (simp; done)) qI qG ?_
 refine L.guardT (dj := 31) rfl rfl rfl ?_
 refine L.loadA rfl ag31 rfl (CellsN.ofD qM hA3) ?_
 refine L.guardT (dj := 31) rfl rfl rfl ?_
 refine L.loadA rfl ag31 rfl qN ?_
 refine L.guardT (dj := 31) rfl rfl rfl ?_
 refine L.eqlArrI qk rfl Tryz.underlying31 Tryz.underlying5 sc5 rfl rfl qL qL ?_
 refine L.pickT rfl rfl rfl ?_
 refine L.move rfl rfl ?_
 refine L.known (t := 39) rfl (show _ = Value.bool true from congrArg Value.bool (by simp)) ?_
 refine L.guardT (dj := 39) rfl rfl rfl ?_
 refine L.loadA rfl ag35 rfl qN ?_
 refine L.guardT (dj := 39) rfl rfl rfl ?_
 refine L.loadA rfl ag31 rfl qN ?_
 refine L.guardT (dj := 39) rfl rfl rfl ?_
 refine L.callF rfl (evs.cons rfl <| evs.cons rfl <| evs.nil) qD qS (refers_spec (l := [xA, xB]) (p := pA) (z := xB) (by rw [eA, eB]; exact names_a1.asc) (by decide)) (by rintro u D1 M1 ⟨rfl, rfl, rfl⟩; exact ⟨rfl, _, qA, qF⟩) ?_
 refine L.pickT rfl rfl rfl ?_
 refine L.move rfl rfl ?_
 refine L.known (t := 44) rfl (show _ = Value.bool true from congrArg Value.bool (by simp)) ?_
 refine L.guardT (dj := 44) rfl rfl rfl ?_
 refine L.loadA rfl ag35 rfl qN ?_
 refine L.guardT (dj := 44) rfl rfl rfl ?_
 refine L.callF rfl (evs.cons rfl <| evs.nil) qD qS (iname_spec (l := [xA, xB]) (p := pA) (by decide) (by rw [sz_a1]; decide)) (by rintro u D1 M1 ⟨rfl, rfl, rfl⟩; exact ⟨rfl, _, qA, qF⟩) ?_
 have hnn := (inN pA [xA, xB]).2
 refine L.guardT (dj := 44) rfl rfl rfl ?_
 refine L.build rfl bua31 (BP.doneE (out := (Value.int .u8 0 :: Value.int .u8 0 :: Value.int .u8 0 :: Value.int .u8 0 :: Value.int .u8 0 :: Value.int .u8 0 :: Value.int .u8 0 :: Value.int .u8 0 :: Value.int .u8 0 :: Value.int .u8 0 :: Value.int .u8 0 :: Value.int .u8 0 :: Value.int .u8 0 :: Value.int .u8 0 :: Value.int .u8 0 :: Value.int .u8 0 :: Value.int .u8 0 :: Value.int .u8 0 :: Value.int .u8 0 :: Value.int .u8 0 :: Value.int .u8 0 :: Value.int .u8 0 :: Value.int .u8 0 :: Value.int .u8 0 :: Value.int .u8 0 :: Value.int .u8 0 :: Value.int .u8 0 :: Value.int .u8 0 :: Value.int .u8 0 :: Value.int .u8 0 :: Value.int .u8 0 :: Value.int .u8 0 :: [])) rfl) ?_
 refine L.known (t := 47) (u := .agg (iC zID).toArray) rfl (by rfl) ?_
 refine L.guardT (dj := 44) rfl rfl rfl ?_
 refine L.neqArrI qk rfl Tryz.underlying31 Tryz.underlying5 sc5 rfl rfl qL qL ?_
 refine L.pickT rfl rfl rfl ?_
 refine L.move rfl rfl ?_
 refine L.known (t := 50) rfl (show _ = Value.bool true from congrArg Value.bool (decide_eq_true (by rw [eA, eB]; exact nm_a1))) ?_
 refine L.guardT (dj := 50) rfl rfl rfl ?_
 refine L.loadA rfl ag35 rfl qN ?_
 refine L.guardT (dj := 50) rfl rfl rfl ?_
 refine L.callF rfl (evs.cons rfl <| evs.nil) qD qS (icheck_spec (l := [xA, xB]) (p := pA) (by decide)) (by rintro u D1 M1 ⟨rfl, rfl, rfl⟩; exact ⟨rfl, _, qA, qF⟩) ?_
 refine L.guardT (dj := 50) rfl rfl rfl ?_
 refine L.eqI rfl rfl rfl ?_
 refine L.pickT rfl rfl rfl ?_
 refine L.assign rfl rfl ?_
 refine L.nilQ ?_
 refine T.thenN (T.ret ?_)
 exact T.ret1 rfl rfl ⟨congrArg Value.bool (decide_eq_true (by rw [eA, eB]; exact chk_pa)), rfl, rfl⟩ qD qF
end Cv
