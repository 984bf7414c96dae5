/-
  The walks: the walks of the document's search.
-/
import Derived.Test.YtjacegfanhejdaaV20
import Derived.Test.YtjacegfanhejdaaX20
import Derived.Test.YtjacegfanhejdaaProg
import Derived.KernelRfl
set_option linter.unusedVariables false
set_option linter.unusedSimpArgs false
set_option linter.unusedSectionVars false
set_option maxRecDepth 10000
namespace Cv
open Go Go.Proofs
/-! ## the document's search: the model -/
abbrev XP := (Option Addr × Nat) × (Option Addr × Nat) × (Option Addr × Nat)
@[reducible] def xV (g : List UInt8) (o : Int) (p : XP) : List Value := [S g, .int .i64 o, .slice p.1.1 64 p.1.2, .slice p.2.1.1 64 p.2.1.2, .slice p.2.2.1 64 p.2.2.2]
def rmeet1 (o : Int) (st : List Int) (n : Int) : List Int := if May o n ∧ gd st n.toNat < 0 then st.set n.toNat 0 else st
def rmeetF (o : Int) (st : List Int) (ns : List Int) : List Int := ns.foldl (rmeet1 o) st
theorem rmeet_len {o : Int} : ∀ {ns st : List Int}, (rmeetF o st ns).length = st.length
  | [], _ => rfl
  | n :: ns, st => by
    have e : rmeetF o st (n :: ns) = rmeetF o (rmeet1 o st n) ns := rfl
    rw [e, rmeet_len]
    unfold rmeet1
    split <;> simp
def rhas1 (o : Int) (hv : List Bool) (n : Int) : List Bool := if May o n then hv.set n.toNat true else hv
def rhasF (o : Int) (hv : List Bool) (ns : List Int) : List Bool := ns.foldl (rhas1 o) hv
theorem rhas_len {o : Int} : ∀ {ns : List Int} {hv : List Bool}, (rhasF o hv ns).length = hv.length
  | [], _ => rfl
  | n :: ns, hv => by
    have e : rhasF o hv (n :: ns) = rhasF o (rhas1 o hv n) ns := rfl
    rw [e, rhas_len]
    unfold rhas1
    split <;> simp
def liveB (st : List Int) (n : Int) : Bool := decide (0 ≤ gd st n.toNat ∧ gd st n.toNat < 3)
def liveR (st : List Int) (i : Nat) : List Int := ((List.range i).map fun n : Nat => (n : Int)).filter (liveB st)
theorem range_s {α : Type} {f : Int → Bool} {i : Nat} : ((List.range (i + 1)).map fun n : Nat => (n : Int)).filter f = ((List.range i).map fun n : Nat => (n : Int)).filter f ++ if f (i : Int) = true then [(i : Int)] else [] := by
  rw [List.range_succ, List.map_append, List.filter_append]
  simp [List.filter_cons]
theorem liveR_s {st : List Int} {i : Nat} : liveR st (i + 1) = liveR st i ++ if 0 ≤ gd st i ∧ gd st i < 3 then [(i : Int)] else [] := by
  unfold liveR
  rw [range_s (α := Int)]
  unfold liveB
  simp
theorem liveR_len {st : List Int} {i : Nat} : (liveR st i).length ≤ i := by
  have := List.length_filter_le (liveB st) ((List.range i).map fun n : Nat => (n : Int))
  rw [List.length_map, List.length_range] at this
  exact this
def haveR (hv : List Bool) (i : Nat) : List Int := ((List.range i).map fun n : Nat => (n : Int)).filter fun n => gd hv n.toNat
theorem haveR_s {hv : List Bool} {i : Nat} : haveR hv (i + 1) = haveR hv i ++ if gd hv i = true then [(i : Int)] else [] := by
  unfold haveR
  rw [range_s (α := Int)]
  simp
theorem haveR_len {hv : List Bool} {i : Nat} : (haveR hv i).length ≤ i := by
  have := List.length_filter_le (fun n : Int => gd hv n.toNat) ((List.range i).map fun n : Nat => (n : Int))
  rw [List.length_map, List.length_range] at this
  exact this
theorem range_in {f : Int → Bool} {i : Nat} (hi : i ≤ 64) : InR (((List.range i).map fun n : Nat => (n : Int)).filter f) := fun x hx => by
  obtain ⟨n, hn, rfl⟩ := List.mem_map.1 (List.mem_filter.1 hx).1
  rw [List.mem_range] at hn; omega
/-- those that were waited for too long -/
def rlateF (now : Int) (si st : List Int) : Nat → List Int
  | 0 => st
  | i + 1 => if gd (rlateF now si st i) i = 1 ∧ 8 ≤ now - gd si i then (rlateF now si st i).set i 3 else rlateF now si st i
theorem rlate_len {now : Int} {si st : List Int} : ∀ {i : Nat}, (rlateF now si st i).length = st.length
  | 0 => rfl
  | i + 1 => by
    have := rlate_len (now := now) (si := si) (st := st) (i := i)
    unfold rlateF; split
    · rw [List.length_set]; exact this
    · exact this
theorem gd_setJ {α : Type} [Inhabited α] {l : List α} {i j : Nat} {v : α} (hi : i < l.length) : gd (l.set i v) j = if j = i then v else gd l j := by
  unfold gd
  simp only [List.getD_eq_getElem?_getD, List.getElem?_set]
  by_cases h : i = j
  · subst h; simp [hi]
  · simp [h, Ne.symm h]
theorem rlate_gd {now : Int} {si st : List Int} (hl : st.length = 64) : ∀ {i : Nat}, i ≤ 64 → ∀ j, gd (rlateF now si st i) j = if j < i ∧ gd st j = 1 ∧ 8 ≤ now - gd si j then 3 else gd st j
  | 0, _, j => by simp [rlateF]
  | i + 1, hi, j => by
    have ih := rlate_gd (now := now) (si := si) hl (i := i) (by omega)
    have hi0 : gd (rlateF now si st i) i = gd st i := by rw [ih i, if_neg (by omega)]
    unfold rlateF
    rw [hi0]
    by_cases h : gd st i = 1 ∧ 8 ≤ now - gd si i
    · rw [if_pos h, gd_setJ (by rw [rlate_len, hl]; omega), ih j]
      by_cases e : j = i
      · subst e; rw [if_pos rfl, if_pos ⟨by omega, h⟩]
      · rw [if_neg e]
        by_cases e2 : j < i ∧ gd st j = 1 ∧ 8 ≤ now - gd si j
        · rw [if_pos e2, if_pos ⟨by omega, e2.2⟩]
        · rw [if_neg e2, if_neg (fun q => e2 ⟨by omega, q.2⟩)]
    · rw [if_neg h, ih j]
      by_cases e : j = i
      · subst e; rw [if_neg (by omega), if_neg (fun q => h q.2)]
      · by_cases e2 : j < i ∧ gd st j = 1 ∧ 8 ≤ now - gd si j
        · rw [if_pos e2, if_pos ⟨by omega, e2.2⟩]
        · rw [if_neg e2, if_neg (fun q => e2 ⟨by omega, q.2⟩)]
/-- how many are being asked -/
def oneR (st : List Int) (i : Nat) : Nat := (((List.range i).map fun n : Nat => (n : Int)).filter fun n => decide (gd st n.toNat = 1)).length
theorem oneR_s {st : List Int} {i : Nat} : oneR st (i + 1) = oneR st i + if gd st i = 1 then 1 else 0 := by
  unfold oneR
  rw [range_s (α := Int), List.length_append]
  congr 1
  by_cases h : gd st i = 1
  · rw [if_pos h, if_pos (by simpa using h)]; rfl
  · rw [if_neg h, if_neg (by simpa using h)]; rfl
theorem oneR_le {st : List Int} {i : Nat} : oneR st i ≤ i := by
  have := List.length_filter_le (fun n : Int => decide (gd st n.toNat = 1)) ((List.range i).map fun n : Nat => (n : Int))
  rw [List.length_map, List.length_range] at this
  exact this
theorem oneR_late {now : Int} {si st : List Int} (hl : st.length = 64) {i : Nat} (hi : i < 64) : oneR (rlateF now si st (i + 1)) i = oneR (rlateF now si st i) i := by
  unfold oneR
  congr 1
  refine List.filter_congr fun n hn => ?_
  obtain ⟨m, hm, rfl⟩ := List.mem_map.1 hn
  rw [List.mem_range] at hm
  have h1 := rlate_gd (now := now) (si := si) hl (i := i + 1) (by omega) m
  have h2 := rlate_gd (now := now) (si := si) hl (i := i) (by omega) m
  have e : gd (rlateF now si st (i + 1)) m = gd (rlateF now si st i) m := by
    rw [h1, h2]
    by_cases q : gd st m = 1 ∧ 8 ≤ now - gd si m
    · rw [if_pos ⟨by omega, q⟩, if_pos ⟨by omega, q⟩]
    · rw [if_neg (fun e => q e.2), if_neg (fun e => q e.2)]
  rw [show ((m : Int)).toNat = m from rfl, e]
def raskF (now : Int) : List Int → List Int → List Int → Nat → List Int → List Int × List Int × List Int
  | [], st, si, _, out => (st, si, out)
  | n :: ns, st, si, b, out => if gd st n.toNat = 0 ∧ b < 3 then raskF now ns (st.set n.toNat 1) (si.set n.toNat now) (b + 1) (out ++ [n]) else raskF now ns st si b out
theorem raskF_drop {now : Int} {ys : List Int} {i : Nat} {n : Int} (h : ys[i]? = some n) (st si : List Int) (b : Nat) (out : List Int) : raskF now (ys.drop i) st si b out = if gd st n.toNat = 0 ∧ b < 3 then raskF now (ys.drop (i + 1)) (st.set n.toNat 1) (si.set n.toNat now) (b + 1) (out ++ [n]) else raskF now (ys.drop (i + 1)) st si b out := by
  have hi := (List.getElem?_eq_some_iff.1 h).1
  have e : ys.drop i = n :: ys.drop (i + 1) := by rw [List.drop_eq_getElem_cons hi]; congr 1; exact (List.getElem?_eq_some_iff.1 h).2
  rw [e, raskF]
/-- an answer, to the document -/
def RAns (g id : List UInt8) (st : List Int) (fr : Int) : Prop := id = g ∧ 0 ≤ fr ∧ fr ≤ 63 ∧ gd st fr.toNat = 1
instance (g id : List UInt8) (st : List Int) (fr : Int) : Decidable (RAns g id st fr) := by unfold RAns; infer_instance
def tellR (st : List Int) (xs : List Int) : List Int := (xs.filter fun n => decide (gd st n.toNat = 2)).take 6
theorem tellR_take {st xs : List Int} {i : Nat} {n : Int} (h : xs[i]? = some n) : tellR st (xs.take (i + 1)) = if gd st n.toNat = 2 ∧ (tellR st (xs.take i)).length < 6 then tellR st (xs.take i) ++ [n] else tellR st (xs.take i) := by
  have hx : xs.take (i + 1) = xs.take i ++ [n] := by rw [List.take_add_one, h]; rfl
  unfold tellR
  rw [hx, List.filter_append]
  simp only [List.filter_cons, List.filter_nil]
  by_cases h1 : gd st n.toNat = 2
  · rw [if_pos (decide_eq_true h1)]
    by_cases h2 : ((xs.take i).filter fun n => decide (gd st n.toNat = 2)).length < 6
    · rw [if_pos ⟨h1, by rw [List.length_take]; omega⟩]
      generalize ((xs.take i).filter fun n => decide (gd st n.toNat = 2)) = L at h2 ⊢
      rw [List.take_of_length_le (l := L ++ [n]) (by simp; omega), List.take_of_length_le (l := L) (by omega)]
    · rw [if_neg (fun e => h2 (by have := e.2; rw [List.length_take] at this; omega)), List.take_append_of_le_length (by omega)]
  · rw [if_neg (by simpa using h1), if_neg (fun e => h1 e.1), List.append_nil]
theorem srtG_perm {g : List UInt8} {xs : List Int} : (srtG g xs).Perm xs := by
  unfold srtG
  have := sortR_perm (c := cG g) (may := yes) (all := xs) xs.length (Nat.le_refl _)
  rw [List.take_length, List.filter_eq_self.2 (fun _ _ => (rfl : yes _ = true))] at this
  exact this
theorem may5 (o n : Int) : ¬ 0 ≤ n ∨ (0 ≤ n ∧ ¬ n < 64) ∨ (0 ≤ n ∧ n < 64) := by omega
@[reducible] def e4 : Bool → List Value | a => [.bool a]
def g4 : Bool → Prop | a => True
theorem el4z {H : Type} {enc : TypeId × Value → H} {W : World} {base : Nat} {sp : Nat → Bool} {held : Bool} {n : Nat} {cs : List Value} {y : DataW H × List MemPlace} (h : DataW.trod enc Try.prog W base sp held n 4 cs = some y) : ∃ z, cs = e4 z ∧ g4 z := by
  obtain ⟨n, rfl, -⟩ := DataW.trod_bool Try.underlying4 h
  exact ⟨n, rfl, trivial⟩
theorem fo46_1 : Fo Try.prog 46 1 1 := fun a w => by kernel_rfl
theorem zv46 : ∀ w, (zeroValue 46).run Try.prog w = .ok (Value.agg #[S [], Value.int .i64 0, Value.slice none 0 0, Value.slice none 0 0, Value.slice none 0 0]) w := fun w => by kernel_rfl
theorem ze46 : Ze Try.prog 46 [S [], Value.int .i64 0, Value.slice none 0 0, Value.slice none 0 0, Value.slice none 0 0] := ⟨_, rfl, zv46⟩
theorem fo46_2 : Fo Try.prog 46 2 2 := fun a w => by kernel_rfl
theorem ag46 : Ag Try.prog 46 5 := fun w => ⟨by kernel_rfl, by kernel_rfl⟩
theorem one_bool {xs : List Bool} : ∀ u ∈ (xs.map e4).flatten, u.oneCell' = true := by
  intro u hu
  obtain ⟨r, hr, hu⟩ := List.mem_flatten.1 hu
  obtain ⟨x, _, rfl⟩ := List.mem_map.1 hr
  simp only [e4, List.mem_singleton] at hu
  subst hu; rfl
set_option maxHeartbeats 400000 in
theorem rin_spec {g : List UInt8} {o : Int} {p : XP} {n : Int}  : Spec Try.prog 43 [.agg (xV g o p).toArray, .int .i64 n] [] [] (fun v D' M' => v = .bool (decide (May o n)) ∧ D' = [] ∧ M' = []) := by
  refine Spec.intro (n := 17) Try.func43 rfl rfl (by decide) (Nat.le_of_ble_eq_true rfl) rfl (fun _ => qA) (fun _ => qA) ?_
  intro σ D M
  refine T.seq ?_
  refine T.region ?_
  refine L.box rfl rfl rfl (fun b2 => ?_)
  refine L.assign rfl rfl ?_
  refine L.nil ?_
  refine T.freeze (A := cl b2 46 (xV g o p)) qP ?_
  refine T.thenN ?_
  refine T.seq ?_
  rcases may5 o n with hs | ⟨hs, hs2⟩ | ⟨hs, hs2⟩
  · skip
    refine T.region ?_
    refine L.move rfl rfl ?_
    refine L.geI rfl rfl rfl ?_
    refine L.move rfl rfl ?_
    refine L.known (t := 7) rfl (show _ = Value.bool false from congrArg Value.bool (decide_eq_false hs)) ?_
    refine L.guardF (dj := 7) (c := false) rfl rfl rfl rfl rfl (by decide) ?_
    refine L.guardF (dj := 7) (c := false) rfl rfl rfl rfl rfl (by decide) ?_
    refine L.pickF rfl rfl rfl ?_
    refine L.move rfl rfl ?_
    refine L.guardF (dj := 11) (c := false) rfl rfl rfl rfl rfl (by decide) ?_
    refine L.guardF (dj := 11) (c := false) rfl rfl rfl rfl rfl (by decide) ?_
    refine L.guardF (dj := 11) (c := false) rfl rfl rfl rfl rfl (by decide) ?_
    refine L.guardF (dj := 11) (c := false) rfl rfl rfl rfl rfl (by decide) ?_
    refine L.pickF rfl rfl rfl ?_
    refine L.assign rfl rfl ?_
    refine L.nil ?_
    refine T.thenN ?_
    refine T.ret ?_
    exact T.ret1 rfl rfl ⟨congrArg Value.bool (decide_eq_false (fun h => hs h.2.1)).symm, rfl, rfl⟩ qD qF
  · skip
    refine T.region ?_
    refine L.move rfl rfl ?_
    refine L.geI rfl rfl rfl ?_
    refine L.move rfl rfl ?_
    refine L.known (t := 7) rfl (show _ = Value.bool true from congrArg Value.bool (decide_eq_true hs)) ?_
    refine L.guardT (dj := 7) rfl rfl rfl ?_
    refine L.move rfl rfl ?_
    refine L.guardT (dj := 7) rfl rfl rfl ?_
    refine L.ltI rfl rfl rfl ?_
    refine L.pickT rfl rfl rfl ?_
    refine L.move rfl rfl ?_
    refine L.known (t := 11) rfl (show _ = Value.bool false from congrArg Value.bool (decide_eq_false hs2)) ?_
    refine L.guardF (dj := 11) (c := false) rfl rfl rfl rfl rfl (by decide) ?_
    refine L.guardF (dj := 11) (c := false) rfl rfl rfl rfl rfl (by decide) ?_
    refine L.guardF (dj := 11) (c := false) rfl rfl rfl rfl rfl (by decide) ?_
    refine L.guardF (dj := 11) (c := false) rfl rfl rfl rfl rfl (by decide) ?_
    refine L.pickF rfl rfl rfl ?_
    refine L.assign rfl rfl ?_
    refine L.nil ?_
    refine T.thenN ?_
    refine T.ret ?_
    exact T.ret1 rfl rfl ⟨congrArg Value.bool (decide_eq_false (fun h => hs2 h.2.2)).symm, rfl, rfl⟩ qD qF
  · skip
    refine T.region ?_
    refine L.move rfl rfl ?_
    refine L.geI rfl rfl rfl ?_
    refine L.move rfl rfl ?_
    refine L.known (t := 7) rfl (show _ = Value.bool true from congrArg Value.bool (decide_eq_true hs)) ?_
    refine L.guardT (dj := 7) rfl rfl rfl ?_
    refine L.move rfl rfl ?_
    refine L.guardT (dj := 7) rfl rfl rfl ?_
    refine L.ltI rfl rfl rfl ?_
    refine L.pickT rfl rfl rfl ?_
    refine L.move rfl rfl ?_
    refine L.known (t := 11) rfl (show _ = Value.bool true from congrArg Value.bool (decide_eq_true hs2)) ?_
    refine L.guardT (dj := 11) rfl rfl rfl ?_
    refine L.move rfl rfl ?_
    refine L.guardT (dj := 11) rfl rfl rfl ?_
    first | refine L.field0 rfl fo46_1 rfl ?_ | refine L.field rfl fo46_1 rfl ?_
    refine L.guardT (dj := 11) rfl rfl rfl ?_
    refine L.load rfl sc3 rfl qC ?_
    refine L.guardT (dj := 11) rfl rfl rfl ?_
    refine L.neI rfl rfl rfl ?_
    refine L.pickT rfl rfl rfl ?_
    refine L.assign rfl rfl ?_
    refine L.nil ?_
    refine T.thenN ?_
    refine T.ret ?_
    exact T.ret1 rfl rfl ⟨congrArg Value.bool (decide_eq_decide.2 ⟨fun h => ⟨h, hs, hs2⟩, fun h => h.1⟩), rfl, rfl⟩ qD qF
set_option maxHeartbeats 400000 in
theorem rmeet_spec {g : List UInt8} {o : Int} {p : XP} {st : List Int} {a : Option Addr} {len cap : Nat} {ns : List Int} (hb : len ≤ 4611686018427387000) : Spec Try.prog 41 [.agg (xV g o p).toArray, .slice a len cap] [rsl 1 p.1.1 64 p.1.2 (st.map e3), rsl 1 a len cap (ns.map e3)] [] (fun v D' M' => ∃ (a' : Option Addr) (c' : Nat), v = .agg (xV g o ((a', c'), p.2)).toArray ∧ D' = [rsl 1 a' 64 c' ((rmeetF o st ns).map e3)] ∧ M' = []) := by
  refine Spec.intro (n := 35) Try.func41 rfl rfl (by decide) (Nat.le_of_ble_eq_true rfl) rfl (fun _ => qA) (fun _ => qA) ?_
  intro σ D M
  refine T.rslLen2 (rows := st.map e3) qM (fun hst hstc => ?_)
  rw [List.length_map] at hst
  refine T.rslLen2 (rows := ns.map e3) qM (fun hnl hnc => ?_)
  rw [List.length_map] at hnl
  refine T.seq ?_
  refine T.region ?_
  refine L.box rfl rfl rfl (fun b2 => ?_)
  refine L.alloc rfl ze46 (fun b4 => ?_)
  refine L.nil ?_
  refine T.thenN ?_
  refine T.seq ?_
  refine T.region ?_
  refine L.buildSlice rfl bs22 (by decide) (BP.doneE (out := []) rfl) (fun b8 => ?_)
  refine L.toOwn (len := 0) qP (rows := []) (sz := 1) (by rfl) rfl (by simp) ?_
  first | refine L.field0 rfl fo46_2 rfl ?_ | refine L.field rfl fo46_2 rfl ?_
  refine L.load rfl sc22 rfl qC ?_
  refine L.appendR rfl Try.underlying22 Try.underlying22 el3 rfl rfl qP (rd_D qM) one_int qI qI (fun a11 c11 => ?_)
  refine L.assign rfl rfl ?_
  refine L.nil ?_
  simp only [Nat.zero_add, List.nil_append]
  refine T.ownNe qM (by omega) (fun ob oo ha => ?_)
  subst ha
  refine T.thenN ?_
  refine T.seq ?_
  refine T.seq ?_
  refine T.region ?_
  refine L.move rfl rfl ?_
  refine L.lenSl rfl Try.underlying22 rfl ?_
  refine L.move rfl rfl ?_
  refine L.nil ?_
  refine T.thenN ?_
  refine T.block ?_
  refine T.ownEq _ ((rmeetF o st (ns.take 0)).map e3) qP (by rw [List.take_zero]; rfl) ?_
  refine T.loop (fun K' D' M' μ => ∃ (i : Nat), (i ≤ len) ∧ K' = [(14, .int .i64 i)] ∧ D' = [] ∧ M' = [own 1 3 (some ⟨ob, oo, none⟩) 64 c11 ((rmeetF o st (ns.take i)).map e3)] ∧ μ = len - i) (.cons (t := 2) rfl <| .cons (t := 4) rfl <| .cons (t := 5) rfl <| .cons (t := 12) rfl <| .cons (t := 13) rfl <| SubK.nil _) (⟨0, Nat.zero_le _, rfl, rfl, rfl, rfl⟩) (.cons (t := 14) rfl <| SubK.nil _) qD qS ?_
  rintro K1 D1 M1 m1 ⟨i, hi, rfl, rfl, rfl, rfl⟩
  refine T.norm3 qA qA qA ?_
  refine T.seq ?_
  refine T.region ?_
  refine L.ltI rfl rfl rfl ?_
  refine L.nil ?_
  refine T.thenN ?_
  refine T.seq ?_
  refine T.cond rfl (fun h15 => ?_) (fun h15 => ?_)
  · try simp only [decide_eq_true_eq, decide_eq_false_iff_not, Bool.not_eq_true', Bool.not_eq_false', Bool.and_eq_true, Bool.or_eq_true] at h15
    refine T.skip ?_
    refine T.thenN ?_
    refine T.seq ?_
    refine T.block ?_
    refine T.seq ?_
    have hn0 : ns[i]? = some (gd ns i) := gd_get (by omega)
    obtain ⟨n, hnn⟩ : ∃ n, n = gd ns i := ⟨_, rfl⟩
    rw [← hnn] at hn0
    obtain ⟨cs, hcs⟩ : ∃ cs, cs = rmeetF o st (ns.take i) := ⟨_, rfl⟩
    rw [← hcs]
    have hcl : cs.length = 64 := by rw [hcs, rmeet_len, hst]
    refine T.region ?_
    refine L.idx (i := i) rfl Try.underlying22 sz3 rfl rfl qM (by first | rfl | omega | (simp; done)) qG (fun b16 o16 => ?_)
    refine L.load rfl sc3 rfl qC ?_
    refine L.assign rfl rfl ?_
    refine L.nil ?_
    refine T.thenN ?_
    refine T.seq ?_
    refine T.cutC (fun K' D' M' => ∃ (w : Bool), (w = true ↔ (May o n ∧ gd cs n.toNat < 0)) ∧ K' = [(27, .bool w)] ∧ D' = [] ∧ M' = [own 1 3 (some ⟨ob, oo, none⟩) 64 c11 (cs.map e3)]) (M0 := [own 1 3 (some ⟨ob, oo, none⟩) 64 c11 (cs.map e3)]) (.cons (t := 2) rfl <| .cons (t := 4) rfl <| .cons (t := 5) rfl <| .cons (t := 7) rfl <| .cons (t := 12) rfl <| .cons (t := 13) rfl <| .cons (t := 14) rfl <| SubK.nil _) qS ?_ ?_
    · skip
      rcases Decidable.em (May o n) with hs | hs
      · skip
        have hs0 := hs.2.1
        have hs1 := hs.2.2
        have hgc : cs[n.toNat]? = some (gd cs n.toNat) := gd_get (by omega)
        refine T.region ?_
        refine L.loadA rfl ag46 rfl qN ?_
        refine L.move rfl rfl ?_
        refine L.callF rfl (evs.cons rfl <| evs.cons rfl <| evs.nil) qD qS (rin_spec (n := n)) (by rintro u D1 M1 ⟨rfl, rfl, rfl⟩; exact ⟨rfl, _, qA, qF⟩) ?_
        refine L.move rfl rfl ?_
        refine L.known (t := 21) rfl (show _ = Value.bool true from congrArg Value.bool (decide_eq_true hs)) ?_
        refine L.guardT (dj := 21) rfl rfl rfl ?_
        refine L.move rfl rfl ?_
        refine L.guardT (dj := 21) rfl rfl rfl ?_
        refine L.move rfl rfl ?_
        refine L.guardT (dj := 21) rfl rfl rfl ?_
        refine L.idxG (i := n.toNat) rfl Try.underlying22 sz3 rfl rfl (by first | rfl | omega | (simp; done)) qI ?_
        refine L.guardT (dj := 21) rfl rfl rfl ?_
        refine L.load rfl sc3 rfl qC ?_
        refine L.guardT (dj := 21) rfl rfl rfl ?_
        refine L.ltI rfl rfl rfl ?_
        refine L.pickT rfl rfl rfl ?_
        refine L.nil ?_
        refine T.thenN ?_
        exact T.toJoin ⟨_, (by rw [decide_eq_true_eq]; exact ⟨fun h => ⟨hs, h⟩, fun h => h.2⟩), rfl, rfl, rfl⟩ (.cons (t := 27) rfl <| SubK.nil _) (.cons (t := 2) rfl <| .cons (t := 4) rfl <| .cons (t := 5) rfl <| .cons (t := 7) rfl <| .cons (t := 12) rfl <| .cons (t := 13) rfl <| .cons (t := 14) rfl <| SubK.nil _) qD qD qF
      · skip
        refine T.region ?_
        refine L.loadA rfl ag46 rfl qN ?_
        refine L.move rfl rfl ?_
        refine L.callF rfl (evs.cons rfl <| evs.cons rfl <| evs.nil) qD qS (rin_spec (n := n)) (by rintro u D1 M1 ⟨rfl, rfl, rfl⟩; exact ⟨rfl, _, qA, qF⟩) ?_
        refine L.move rfl rfl ?_
        refine L.known (t := 21) rfl (show _ = Value.bool false from congrArg Value.bool (decide_eq_false hs)) ?_
        refine L.guardF (dj := 21) (c := false) rfl rfl rfl rfl rfl (by decide) ?_
        refine L.guardF (dj := 21) (c := false) rfl rfl rfl rfl rfl (by decide) ?_
        refine L.guardF (dj := 21) (c := false) rfl rfl rfl rfl rfl (by decide) ?_
        refine L.guardF (dj := 21) (c := false) rfl rfl rfl rfl rfl (by decide) ?_
        refine L.guardF (dj := 21) (c := false) rfl rfl rfl rfl rfl (by decide) ?_
        refine L.pickF rfl rfl rfl ?_
        refine L.nil ?_
        refine T.thenN ?_
        exact T.toJoin ⟨_, ⟨(fun h => by cases h), (fun h => absurd h.1 hs)⟩, rfl, rfl, rfl⟩ (.cons (t := 27) rfl <| SubK.nil _) (.cons (t := 2) rfl <| .cons (t := 4) rfl <| .cons (t := 5) rfl <| .cons (t := 7) rfl <| .cons (t := 12) rfl <| .cons (t := 13) rfl <| .cons (t := 14) rfl <| SubK.nil _) qD qD qF
    rintro _ _ _ ⟨w, hw, rfl, rfl, rfl⟩
    refine T.norm3 qA qA qA ?_
    refine T.thenN ?_
    refine T.cond rfl (fun h27 => ?_) (fun h27 => ?_)
    · try simp only [decide_eq_true_eq, decide_eq_false_iff_not, Bool.not_eq_true', Bool.not_eq_false', Bool.and_eq_true, Bool.or_eq_true] at h27
      have hy := hw.1 h27
      have hs0 := hy.1.2.1
      have hs1 := hy.1.2.2
      refine T.region ?_
      refine L.move rfl rfl ?_
      refine L.move rfl rfl ?_
      refine L.idxG (i := n.toNat) rfl Try.underlying22 sz3 rfl rfl (by first | rfl | omega | (simp; done)) qI ?_
      refine L.storeO (n.toNat) sc3 rfl (by first | rfl | omega | (simp; done)) rfl rfl qP qI ?_
      refine L.nil ?_
      refine T.blkN ?_
      refine T.thenN ?_
      refine T.region ?_
      refine L.addN rfl rfl rfl (by omega) ?_
      refine L.move rfl rfl ?_
      refine L.nil ?_
      refine T.thenN ?_
      refine T.ownEq _ ((rmeetF o st (ns.take (i + 1))).map e3) qP (by rw [rmeetF, fold_snoc hn0, ← rmeetF, ← hcs, rmeet1, if_pos hy, List.map_set]) ?_
      exact T.back ⟨i + 1, (by omega), rfl, rfl, rfl, rfl⟩ qI (.cons (t := 14) rfl <| SubK.nil _) (.cons (t := 2) rfl <| .cons (t := 4) rfl <| .cons (t := 5) rfl <| .cons (t := 12) rfl <| .cons (t := 13) rfl <| SubK.nil _) qD qD qF
    · try simp only [decide_eq_true_eq, decide_eq_false_iff_not, Bool.not_eq_true', Bool.not_eq_false', Bool.and_eq_true, Bool.or_eq_true] at h27
      refine T.skip ?_
      refine T.blkN ?_
      refine T.thenN ?_
      refine T.region ?_
      refine L.addN rfl rfl rfl (by omega) ?_
      refine L.move rfl rfl ?_
      refine L.nil ?_
      refine T.thenN ?_
      refine T.ownEq _ ((rmeetF o st (ns.take (i + 1))).map e3) qP (by rw [rmeetF, fold_snoc hn0, ← rmeetF, ← hcs, rmeet1, if_neg (fun e => by rw [hw.2 e] at h27; cases h27)]) ?_
      exact T.back ⟨i + 1, (by omega), rfl, rfl, rfl, rfl⟩ qI (.cons (t := 14) rfl <| SubK.nil _) (.cons (t := 2) rfl <| .cons (t := 4) rfl <| .cons (t := 5) rfl <| .cons (t := 12) rfl <| .cons (t := 13) rfl <| SubK.nil _) qD qD qF
  · try simp only [decide_eq_true_eq, decide_eq_false_iff_not, Bool.not_eq_true', Bool.not_eq_false', Bool.and_eq_true, Bool.or_eq_true] at h15
    obtain rfl : len = i := by omega
    rw [List.take_of_length_le (by omega)]
    refine T.exit ?_
    refine T.thenX ?_
    refine T.thenX ?_
    refine T.blkX ?_
    refine T.thenN ?_
    refine T.seq ?_
    refine T.region ?_
    refine L.move rfl rfl ?_
    first | refine L.field0 rfl fo46_2 rfl ?_ | refine L.field rfl fo46_2 rfl ?_
    refine L.store sc22 rfl rfl rfl qU qE ?_
    refine L.nil ?_
    refine T.thenN ?_
    refine T.seq ?_
    refine T.region ?_
    refine L.loadA rfl ag46 rfl qN ?_
    refine L.storeA ag46 rfl rfl qL qO qU qW ?_
    refine L.nil ?_
    refine T.thenN ?_
    refine T.ret ?_
    refine T.ownRsl (rows := (rmeetF o st ns).map e3) qP ?_
    exact T.retA rfl ag46 rfl qN ⟨_, _, rfl, rfl, rfl⟩ qD qF
end Cv
