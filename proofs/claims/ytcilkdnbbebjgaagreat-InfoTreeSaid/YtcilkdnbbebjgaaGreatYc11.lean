/-
  The walks: the law on trees of infos.
-/
import Derived.Test.YtcilkdnbbebjgaaGreatQa11
import Derived.Test.YtcilkdnbbebjgaaGreatK06
import Derived.Test.YtcilkdnbbebjgaaGreatProg
import Derived.KernelRfl
set_option linter.unusedVariables false
set_option linter.unusedSimpArgs false
set_option linter.unusedSectionVars false
set_option maxRecDepth 10000
namespace Cv
open Go Go.Proofs
/-! ## chunks and levels: plain laws -/
/-- a cutter in the midst of its bytes -/
structure CutO (s : CutS) (l : List UInt8) : Prop where
  good : ∀ c ∈ s.1, ¬ badC c
  open_ : s.2.length < 256
  all : s.1.flatten ++ s.2 = l
theorem cut_o {T : List Int} : ∀ {l : List UInt8} {s : CutS} {p : List UInt8}, CutO s p → CutO (cutW T s l) (p ++ l)
  | [], s, p, h => by rw [List.append_nil]; exact h
  | c :: l, s, p, h => by
    have h1 : CutO (cutS T s c) (p ++ [c]) := by
      by_cases e : endB (s.2.length + 1) (rollN T (rollL T s.2) c) = true
      · rw [cutS_yes e]
        refine ⟨fun x hx => ?_, by show 0 < 256; decide, ?_⟩
        · rcases List.mem_append.1 hx with q | q
          · exact h.good x q
          · obtain rfl : x = s.2 ++ [c] := by simpa using q
            have := h.open_
            simp only [badC, not_or]
            exact ⟨by simp, by rw [List.length_append]; simp only [List.length_singleton]; omega⟩
        · rw [← h.all]; simp
      · have e' : endB (s.2.length + 1) (rollN T (rollL T s.2) c) = false := by simpa using e
        rw [cutS_no e']
        refine ⟨h.good, ?_, by rw [← h.all]; simp⟩
        have h2 := of_decide_eq_false e'
        have := h.open_
        show (s.2 ++ [c]).length < 256
        rw [List.length_append]; simp only [List.length_singleton]
        omega
    have h2 := cut_o (T := T) (l := l) h1
    rw [List.append_assoc] at h2
    exact h2
theorem chn_good {T : List Int} {s : List UInt8} : (∀ c ∈ chnF T s, ¬ badC c) ∧ (chnF T s).flatten = s := by
  have h := cut_o (T := T) (l := s) (s := ([], [])) (p := []) ⟨by simp, by show 0 < 256; decide, rfl⟩
  rw [List.nil_append] at h
  constructor
  · intro c hc
    unfold chnF at hc
    rcases List.mem_append.1 hc with q | q
    · exact h.good c q
    · unfold lastC at q
      split at q
      · simp at q
      · rename_i hq
        obtain rfl : c = _ := by simpa using q
        have := h.open_
        simp only [badC, not_or]
        exact ⟨hq, by omega⟩
  · unfold chnF
    rw [List.flatten_append]
    have e : (lastC (cutW T ([], []) s).2).flatten = (cutW T ([], []) s).2 := by
      unfold lastC
      split
      · rename_i hq; rw [hq]; rfl
      · simp
    rw [e, h.all]
theorem size_flat (cs : List (List UInt8)) : sizeP (cs.map lf) = (cs.flatten.length : Int) := by
  induction cs with
  | nil => rfl
  | cons c cs ih =>
    rw [show (c :: cs).map lf = [lf c] ++ cs.map lf from rfl, sizeI_app, ih, List.flatten_cons, List.length_append]
    have : sizeP [lf c] = (c.length : Int) := by show (0 : Int) + (c.length : Int) = _; omega
    rw [this]; omega
/-- the levels end in one root -/
theorem lvR_out : ∀ (f k : Nat) (ps : List Pt) (os : List Ob), 1 ≤ ps.length → (k = 1 ∧ ps.length + 1 ≤ f) ∨ (2 ≤ k ∧ ps.length ≤ f) →
    ∃ p ns, (lvR f k ps os = ([p], os ++ ns) ∧ ns.length ≤ f * ps.length) ∧ p.2 = sizeP ps ∧ (∀ o ∈ ns, o.1 = 2) ∧ (k = 1 → ns ≠ []) ∧ (ns = [] → ps = [p]) ∧ (ns ≠ [] → (ns.getLast?).map (·.2.1) = some p.1)
  | 0, k, ps, os, h1, h => by omega
  | f + 1, k, ps, os, h1, h => by
    by_cases c : k = 1 ∨ 1 < ps.length
    · have hg : gN ps.length = (ps.length + 7) / 8 := rfl
      have hu := @upP_len k ps
      have hv := @upO_len k ps
      obtain ⟨p, ns, ⟨e1, e0⟩, e2, e3, e4, e5, e6⟩ := lvR_out f (k + 1) (upP k ps) (os ++ upO k ps) (by rw [hu, hg]; omega) (.inr ⟨by omega, by rw [hu, hg]; omega⟩)
      have hne : upO k ps ≠ [] := fun q => by rw [q] at hv; simp only [List.length_nil] at hv; omega
      have hle : gN ps.length ≤ ps.length := by rw [hg]; omega
      have hmul : f * gN ps.length ≤ f * ps.length := Nat.mul_le_mul_left _ hle
      refine ⟨p, upO k ps ++ ns, ⟨by rw [lvR_s c, e1, List.append_assoc], by rw [List.length_append, hv, Nat.add_mul, Nat.one_mul]; rw [hu] at e0; omega⟩, by rw [e2, size_up], fun o ho => ?_, fun _ q => hne (List.append_eq_nil_iff.1 q).1, fun q => absurd (List.append_eq_nil_iff.1 q).1 hne, fun _ => ?_⟩
      · rcases List.mem_append.1 ho with q | q
        · obtain ⟨g, _, rfl⟩ := List.mem_map.1 q; rfl
        · exact e3 o q
      · by_cases hn : ns = []
        · subst hn
          have h5 := e5 rfl
          rw [List.append_nil]
          have hl1 : (upP k ps).length = 1 := by rw [h5]; rfl
          have e : grps ps = [grp ps 0] := by
            rw [hu] at hl1
            show (List.range (gN ps.length)).map (grp ps) = _
            rw [hl1]; rfl
          unfold upO
          unfold upP at h5
          rw [e] at h5 ⊢
          have h6 : upt k (grp ps 0) = p := by simpa using h5
          show some (uob k (grp ps 0)).2.1 = some p.1
          rw [← h6]; rfl
        · have : (upO k ps ++ ns).getLast? = ns.getLast? := by
            rw [List.getLast?_append]
            cases hq : ns.getLast? with
            | none => exact absurd (List.getLast?_eq_none_iff.1 hq) hn
            | some v => rfl
          rw [this]; exact e6 hn
    · refine ⟨gd ps 0, [], ⟨?_, by simp⟩, ?_, by simp, fun q => absurd (.inl q) c, fun _ => ?_, fun q => absurd rfl q⟩
      · rw [lvR_z c, List.append_nil]
        match ps, h1, c with
        | [p], _, _ => rfl
        | p :: q :: l, _, c => exact absurd (.inr (by simp only [List.length_cons]; omega)) c
      · match ps, h1, c with
        | [p], _, _ => show p.2 = 0 + p.2; omega
        | p :: q :: l, _, c => exact absurd (.inr (by simp only [List.length_cons]; omega)) c
      · match ps, h1, c with
        | [p], _, _ => rfl
        | p :: q :: l, _, c => exact absurd (.inr (by simp only [List.length_cons]; omega)) c
theorem bld_out {cs : List (List UInt8)} (h : ∀ c ∈ cs, ¬ badC c) (h0 : 1 ≤ cs.flatten.length) (h1 : cs.flatten.length ≤ 32768) :
    ∃ p ns, (bldM cs = (p, cs.map lo ++ ns, 0) ∧ (cs.map lo ++ ns).length ≤ 2000000000) ∧ p.2 = (cs.flatten.length : Int) ∧ (∀ o ∈ ns, o.1 = 2) ∧ ns ≠ [] ∧ (ns.getLast?).map (·.2.1) = some p.1 := by
  have hz : sizeI (cs.map lf) cs.length = (cs.flatten.length : Int) := by
    rw [← size_flat]; unfold sizeP; rw [List.length_map]
  have hl : 1 ≤ cs.length := Nat.pos_of_ne_zero fun q => by
    obtain rfl : cs = [] := List.length_eq_zero_iff.1 q
    simp at h0
  obtain ⟨p, ns, ⟨e1, e0⟩, e2, e3, e4, -, e6⟩ := lvR_out (cs.length + 1) 1 (cs.map lf) (cs.map lo) (by rw [List.length_map]; exact hl) (.inl ⟨rfl, by rw [List.length_map]; omega⟩)
  have hge := size_ge (ps := cs.map lf) (fun p hp => (good_size h p hp).1) cs.length (by rw [List.length_map]; exact Nat.le_refl _)
  have hcl : cs.length ≤ 32768 := by omega
  have hm : (cs.length + 1) * cs.length ≤ 32769 * 32768 := Nat.mul_le_mul (by omega) hcl
  rw [List.length_map] at e0
  exact ⟨p, ns, ⟨bld_ok h (by omega) (by omega) e1, by rw [List.length_append, List.length_map]; omega⟩, by rw [e2, size_flat], e3, e4 rfl, e6 (e4 rfl)⟩
theorem ofB_out {x : Tr} (h : 1 ≤ (wrS x).length) : ∃ p ns, (ofB x = (p, (chnF (gearT seedS) (wrS x)).map lo ++ ns, 0) ∧ ((chnF (gearT seedS) (wrS x)).map lo ++ ns).length ≤ 2000000000) ∧ p.2 = ((wrS x).length : Int) ∧ (∀ o ∈ ns, o.1 = 2) ∧ ns ≠ [] ∧ (ns.getLast?).map (·.2.1) = some p.1 := by
  obtain ⟨h1, h2⟩ := chn_good (T := gearT seedS) (s := wrS x)
  have h3 := wrS_len x
  have := bld_out h1 (by rw [h2]; exact h) (by rw [h2]; exact h3)
  rw [h2] at this
  exact this
/-- the texts of objects that are chunks -/
def chT (os : List Ob) : List UInt8 := os.flatMap fun o => if o.1 = 1 then o.2.2 else []
theorem chT_s {os : List Ob} {i : Nat} {o : Ob} (h : os[i]? = some o) : chT (os.take (i + 1)) = chT (os.take i) ++ (if o.1 = 1 then o.2.2 else []) := by
  unfold chT; rw [List.take_add_one, h, List.flatMap_append]; simp
theorem chT_lo (cs : List (List UInt8)) : chT (cs.map lo) = cs.flatten := by
  induction cs with
  | nil => rfl
  | cons c cs ih =>
    show chT (lo c :: cs.map lo) = _
    unfold chT at ih ⊢
    rw [List.flatMap_cons, ih, List.flatten_cons]; rfl
theorem chT_node {ns : List Ob} (h : ∀ o ∈ ns, o.1 = 2) : chT ns = [] := by
  unfold chT
  rw [List.flatMap_eq_nil_iff]
  intro o ho
  rw [if_neg (by rw [h o ho]; decide)]
theorem chT_all {T : List Int} {s : List UInt8} {ns : List Ob} (h : ∀ o ∈ ns, o.1 = 2) : chT ((chnF T s).map lo ++ ns) = s := by
  have e : chT ((chnF T s).map lo ++ ns) = chT ((chnF T s).map lo) ++ chT ns := by unfold chT; rw [List.flatMap_append]
  rw [e, chT_lo, chT_node h, List.append_nil, chn_good.2]
theorem chT_le {os : List Ob} {i : Nat} (h : i ≤ os.length) : (chT (os.take i)).length ≤ (chT os).length := by
  have e : chT os = chT (os.take i) ++ chT (os.drop i) := by unfold chT; rw [← List.flatMap_append, List.take_append_drop]
  rw [e, List.length_append]; omega
/-- the tree of an archive's bytes, of so many -/
def trF (z : Int) (s : List UInt8) : Tr × Int := if (s.length : Int) ≠ z then (.mk [] 0 [] [], 2) else parF s
theorem sz56 : Sz Tryz.prog 56 34 := fun w => by kernel_rfl
theorem fo56_0 : Fo Tryz.prog 56 0 0 := fun a w => by kernel_rfl
theorem fo56_2 : Fo Tryz.prog 56 2 33 := fun a w => by kernel_rfl
set_option maxHeartbeats 400000 in
theorem itree_spec {a : Option Addr} {n c : Nat} {p : Pt} {s : List UInt8} (hs : s.length ≤ 1000000000) : Spec Tryz.prog 30 [.agg (inC p a n c).toArray, S s] [] [] (fun v D' M' => ∃ (a' : Option Addr) (len' cap' : Nat), v = .tuple #[.agg (iRow (trF p.2 s).1 a' len' cap').toArray, .int .i64 (trF p.2 s).2] ∧ D' = [rtr (trF p.2 s).1 (eRow (trF p.2 s).1 a' len' cap')] ∧ M' = []) := by
 refine Spec.intro (n := 17) Tryz.func30 rfl rfl (by decide) (Nat.le_of_ble_eq_true rfl) rfl (fun _ => qA) (fun _ => qA) ?_
 intro σ D M
 have hp3 := inC_len p a n c
 have hp32 := p.1.2
 refine T.seq (T.region ?_)
 refine L.box rfl rfl rfl (fun b2 => ?_)
 refine L.alloc rfl ze24 (fun b4 => ?_)
 refine L.assign rfl rfl ?_
 refine L.nil ?_
 refine T.freeze (A := cl b2 35 (inC p a n c)) qP ?_
 refine T.thenN (T.seq (T.seq (T.region ?_)))
 refine L.move rfl rfl ?_
 refine L.lenStr rfl Tryz.underlying9 rfl ?_
 first | refine L.field0 rfl fo35_0 rfl ?_ | refine L.field rfl fo35_0 rfl ?_
 first | refine L.field0 rfl fo33_1 rfl ?_ | refine L.field rfl fo33_1 rfl ?_
 refine L.load rfl sc3 rfl qC ?_
 refine L.neI rfl rfl rfl ?_
 refine L.nil ?_
 refine T.thenN ?_
 refine T.cond rfl (fun h11 => ?_) (fun h11 => ?_)
 ·try simp only [dq] at h11
  refine T.seq (T.region ?_)
  refine L.build rfl bu24 (BP.doneE (out := [Value.int .i64 0, S [], Value.slice none 0 0]) rfl) ?_
  refine L.storeA ag24 rfl rfl qL qO qU qW ?_
  refine L.assign rfl rfl ?_
  refine L.nil ?_
  refine T.thenN (T.ret ?_)
  refine T.thenR ?_
  have e0 : trF p.2 s = (.mk [] 0 [] [], 2) := if_pos h11
  rw [e0]
  refine T.fact0 (φ := rtr (.mk [] 0 [] []) (eRow (.mk [] 0 [] []) none 0 0)) (fun z => rt_leaf) ?_
  exact T.retAT rfl ag24 rfl qN rfl ⟨none, 0, 0, rfl, rfl, rfl⟩ qD qF
 ·try simp only [dq] at h11
  refine T.skip (T.thenN (T.seq (T.region ?_)))
  refine L.move rfl rfl ?_
  refine L.call rfl (evs.cons rfl <| evs.nil) qD qS (parse_spec (s := s) hs) ?_
  rintro _ _ _ ⟨pa, pl, pc, rfl, rfl, rfl⟩
  refine L.norm qA qA ?_
  refine L.extract rfl rfl rfl ?_
  refine L.extract rfl rfl rfl ?_
  refine L.storeA ag24 rfl rfl qL qO qU qW ?_
  refine L.assign rfl rfl ?_
  refine L.nil ?_
  refine T.thenN (T.ret ?_)
  have e0 : trF p.2 s = parF s := if_neg h11
  rw [e0]
  exact T.retAT rfl ag24 rfl qN rfl ⟨_, _, _, rfl, rfl, rfl⟩ qD qF
theorem iof_y {Y : Tr} (ta : Option Addr) (tl tc : Nat) (h : OkT Y) : Spec Tryz.prog 10 [.agg (iRow Y ta tl tc).toArray, .slice none 0 0] [rtr Y (eRow Y ta tl tc), rsl 32 none 0 0 (([] : List ID32).map iC)] [] (fun v D' M' => ∃ (a1 a2 : Option Addr) (c1 n2 c2 : Nat) (p : Pt) (os : List Ob), v = .tuple #[.agg (inC p a1 0 c1).toArray, .slice a2 n2 c2, .int .i64 0] ∧ ((p, os, (0 : Int)) = ofB Y ∧ os.length = n2) ∧ D' = [rsl 32 a1 0 c1 (([] : List ID32).map iC), rsl 34 a2 n2 c2 (os.map obC)] ∧ M' = []) := by
 have hc := h.2.1
 have hw := small_wr h.1 h.2.1 h.2.2.2.2.1 h.2.2.2.2.2
 refine (iof_spec (x := Y) ta tl tc (a := none) (n := 0) (c := 0) (xs := []) (by omega) h.2.2.1 h.2.2.2.1 (by decide)).imp ?_
 rintro v D M ⟨a1, a2, n1, c1, n2, c2, l, rfl, hnf, h1, h2, rfl, rfl⟩
 have hl : l = [] := by
  rcases hnf with q | q
  ·exact List.eq_nil_iff_forall_not_mem.2 fun z hz => by have := (q.mem z).1 hz; simp at this
  ·exact absurd hw.2.1 q
 subst hl
 have hml : (wrS Y).length = 4 + (putT Y).length := by rw [hw.1, List.length_append]; rfl
 obtain ⟨p, ns, ⟨e1, -⟩, -⟩ := ofB_out (x := Y) (by omega)
 have e2 : ofI Y [] = (p, [], (chnF (gearT seedS) (wrS Y)).map lo ++ ns, 0) := by unfold ofI; rw [if_neg (fun q => q hw.2.1), if_neg (by decide), e1, if_neg (fun q => q rfl)]
 rw [e2] at h1 h2 ⊢
 obtain rfl : 0 = n1 := h1
 exact ⟨a1, a2, c1, n2, c2, p, _, rfl, ⟨e1.symm, h2⟩, rfl, rfl⟩
set_option maxHeartbeats 400000 in
theorem infoTree_spec {x : Tr} (a : Option Addr) (len cap : Nat) {s : List UInt8}  : Spec Tryz.prog 6 [.agg (iRow x a len cap).toArray, S s] [rtr x (eRow x a len cap)] [] (fun v D' M' => v = .bool true ∧ D' = [] ∧ M' = []) := by
 refine Spec.intro (n := 88) Tryz.func6 rfl rfl (by decide) (Nat.le_of_ble_eq_true rfl) rfl (fun _ => qA) (fun _ => qA) ?_
 intro σ D M
 refine T.seq (T.region ?_)
 refine L.box rfl rfl rfl (fun b2 => ?_)
 refine L.assign rfl rfl ?_
 refine L.nil ?_
 refine T.thenN (T.seq (T.region ?_))
 refine L.loadA rfl ag24 rfl qN ?_
 refine L.call rfl (evs.cons rfl <| evs.nil) qD qS (Right_spec (x := x) a len cap) ?_
 rintro _ _ _ ⟨Y, ya, yl, yc, rfl, hyo, rfl, rfl⟩
 refine L.norm qA qA ?_
 have hyc := hyo.2.1
 have hyw := small_wr hyo.1 hyo.2.1 hyo.2.2.2.2.1 hyo.2.2.2.2.2
 have hml : (wrS Y).length = 4 + (putT Y).length := by rw [hyw.1, List.length_append]; rfl
 obtain ⟨pp, ns, ⟨hof, hol⟩, hps, hnk, -⟩ := ofB_out (x := Y) (by omega)
 refine L.storeA ag24 rfl rfl qL qO qU qW ?_
 refine L.nil ?_
 refine T.thenN (T.seq ?_)
 refine T.newOwn (sz := 32) (e := 31) ?_
 refine T.eqv qP (show own 32 31 none 0 0 [] = own 32 31 none 0 0 (([] : List ID32).map iC) from rfl) ?_
 refine T.ownRsl (rows := ([] : List ID32).map iC) qP ?_
 refine T.region ?_
 refine L.loadA rfl ag24 rfl qN ?_
 refine L.call rfl (evs.cons rfl <| evs.cons rfl <| evs.nil) qD qS (iof_y ya yl yc hyo) ?_
 rintro _ _ _ ⟨ia, oa, ic, on, oc, p, os, rfl, ⟨hpo, hon⟩, rfl, rfl⟩
 refine L.norm qA qA ?_
 rw [hof] at hpo
 obtain ⟨rfl, hos, -⟩ : p = pp ∧ os = (chnF (gearT seedS) (wrS Y)).map lo ++ ns ∧ True := ⟨congrArg (·.1) hpo, congrArg (·.2.1) hpo, trivial⟩
 have hch : chT os = wrS Y := by rw [hos]; exact chT_all hnk
 have hchl := congrArg List.length hch
 rw [← hos] at hol
 have hin := inC_len p ia 0 ic
 refine L.move rfl rfl ?_
 refine L.extract rfl rfl rfl ?_
 refine L.extract rfl rfl rfl ?_
 refine L.extract rfl rfl rfl ?_
 refine L.alloc rfl ze35 (fun b5 => ?_)
 refine L.storeA ag35 rfl rfl qL qO qU qW ?_
 refine L.assign rfl rfl ?_
 refine L.assign rfl rfl ?_
 refine L.nil ?_
 refine T.freeze (A := cl b5 35 (inC p ia 0 ic)) qP ?_
 refine T.thenN (T.seq (T.seq (T.region ?_)))
 refine L.callF rfl (evs.nil) qD qS (awake11_spec) (by rintro u D1 M1 ⟨rfl, rfl, rfl⟩; exact ⟨rfl, _, qA, qF⟩) ?_
 refine L.notB rfl rfl ?_
 refine L.move rfl rfl ?_
 refine L.known (t := 27) rfl (show _ = Value.bool false from rfl) ?_
 refine L.guardT (dj := 27) rfl rfl rfl ?_
 refine L.move rfl rfl ?_
 refine L.guardT (dj := 27) rfl rfl rfl ?_
 refine L.neI rfl rfl rfl ?_
 refine L.pickF rfl rfl rfl ?_
 refine L.nil ?_
 refine T.thenN ?_
 refine T.condF rfl (by simp) ?_
 refine T.skip (T.thenN (T.seq (T.region ?_)))
 refine L.assign rfl rfl ?_
 refine L.nil ?_
 refine T.thenN (T.seq (T.seq (T.region ?_)))
 refine L.move rfl rfl ?_
 refine L.lenSl rfl Tryz.underlying36 rfl ?_
 refine L.move rfl rfl ?_
 refine L.nil ?_
 refine T.thenN (T.block ?_)
 refine T.loop (fun K' D' M' μ => ∃ (i : Nat), (i ≤ on) ∧ K' = [(33, .int .i64 (i : Int)), (8, S (chT (os.take i)))] ∧ D' = [] ∧ M' = [] ∧ μ = on - i) (.cons (t := 1) rfl <| .cons (t := 2) rfl <| .cons (t := 5) rfl <| .cons (t := 31) rfl <| .cons (t := 32) rfl <| SubK.nil _) (⟨0, Nat.zero_le _, rfl, rfl, rfl, rfl⟩) (.cons (t := 33) rfl <| .cons (t := 8) rfl <| SubK.nil _) qD qS ?_
 rintro K1 D1 M1 m1 ⟨i, hi, rfl, rfl, rfl, rfl⟩
 refine T.norm3 qA qA qA ?_
 have hci := chT_le (os := os) (i := i) (by omega)
 refine T.seq (T.region ?_)
 refine L.ltI rfl rfl rfl ?_
 refine L.nil ?_
 refine T.thenN (T.seq ?_)
 refine T.cond rfl (fun h34 => ?_) (fun h34 => ?_)
 ·try simp only [dq] at h34
  refine T.skip (T.thenN (T.seq (T.block (T.seq ?_))))
  have hgi : os[i]? = some (gd os i) := gd_get (by omega)
  obtain ⟨o, ho_⟩ : ∃ x, x = gd os i := ⟨_, rfl⟩
  rw [← ho_] at hgi
  have hgr : (os.map obC)[i]? = some (obC o) := map_get hgi
  have ho34 := obC_len o
  have ho32 := o.2.1.2
  have hcs := chT_s hgi
  have hci2 := chT_le (os := os) (i := i + 1) (by omega)
  refine T.region ?_
  refine L.idx (i := i) rfl Tryz.underlying36 sz56 rfl rfl qM (by first | rfl | omega | (simp; done)) qG (fun b35 o35 => ?_)
  refine L.loadA rfl ag56 rfl (CellsN.ofD qM ho34) ?_
  refine L.alloc rfl ze56 (fun b10 => ?_)
  refine L.storeA ag56 rfl rfl qL qO qU qW ?_
  refine L.nil ?_
  refine T.freeze (A := cl b10 56 (obC o)) qP ?_
  refine T.thenN (T.seq (T.region ?_))
  first | refine L.field0 rfl fo56_0 rfl ?_ | refine L.field rfl fo56_0 rfl ?_
  refine L.load rfl sc3 rfl qC ?_
  refine L.eqI rfl rfl rfl ?_
  refine L.nil ?_
  refine T.thenN ?_
  refine T.cutC (fun K' D' M' => K' = [(8, S (chT (os.take (i + 1))))] ∧ D' = [] ∧ M' = []) (M0 := []) (.cons (t := 1) rfl <| .cons (t := 2) rfl <| .cons (t := 5) rfl <| .cons (t := 31) rfl <| .cons (t := 32) rfl <| .cons (t := 33) rfl <| SubK.nil _) qS ?_ ?_
  ·skip
   refine T.cond rfl (fun h39 => ?_) (fun h39 => ?_)
   ·try simp only [dq] at h39
    have hcsl := congrArg List.length hcs
    rw [if_pos (by simpa using h39), List.length_append] at hcsl
    refine T.region ?_
    refine L.move rfl rfl ?_
    first | refine L.field0 rfl fo56_2 rfl ?_ | refine L.field rfl fo56_2 rfl ?_
    refine L.load rfl sc9 rfl qC ?_
    refine L.addS rfl rfl rfl qI ?_
    refine L.known (t := 43) (u := S (chT (os.take (i + 1)))) rfl (congrArg S (by rw [hcs, if_pos (by simpa using h39)])) ?_
    refine L.assign rfl rfl ?_
    refine L.nil ?_
    refine T.thenN ?_
    exact T.toJoin ⟨rfl, rfl, rfl⟩ (.cons (t := 8) rfl <| SubK.nil _) (.cons (t := 1) rfl <| .cons (t := 2) rfl <| .cons (t := 5) rfl <| .cons (t := 31) rfl <| .cons (t := 32) rfl <| .cons (t := 33) rfl <| SubK.nil _) qD qD qF
   ·try simp only [dq] at h39
    refine T.known (t := 8) (u := S (chT (os.take (i + 1)))) rfl (congrArg S (by rw [hcs, if_neg (by simpa using h39), List.append_nil])) ?_
    refine T.skip (T.thenN ?_)
    exact T.toJoin ⟨rfl, rfl, rfl⟩ (.cons (t := 8) rfl <| SubK.nil _) (.cons (t := 1) rfl <| .cons (t := 2) rfl <| .cons (t := 5) rfl <| .cons (t := 31) rfl <| .cons (t := 32) rfl <| .cons (t := 33) rfl <| SubK.nil _) qD qD qF
  rintro _ _ _ ⟨rfl, rfl, rfl⟩
  refine T.norm3 qA qA qA ?_
  refine T.blkN (T.thenN (T.region ?_))
  refine L.addN rfl rfl rfl (by omega) ?_
  refine L.move rfl rfl ?_
  refine L.nil ?_
  refine T.thenN ?_
  exact T.back ⟨i + 1, (by omega), rfl, rfl, rfl, rfl⟩ qI (.cons (t := 33) rfl <| .cons (t := 8) rfl <| SubK.nil _) (.cons (t := 1) rfl <| .cons (t := 2) rfl <| .cons (t := 5) rfl <| .cons (t := 31) rfl <| .cons (t := 32) rfl <| SubK.nil _) qD qD qF
 ·try simp only [dq] at h34
  obtain rfl : i = on := by omega
  rw [List.take_of_length_le (by omega), hch]
  have ht1 : trF p.2 (wrS Y) = (Y.named [], 0) := by unfold trF; rw [if_neg (fun q => q hps.symm), hyw.1]; exact par_put hyo.1 (by omega)
  refine T.exit (T.thenX (T.thenX (T.blkX (T.thenN (T.seq (T.region ?_))))))
  refine L.loadA rfl ag35 rfl qN ?_
  refine L.move rfl rfl ?_
  refine L.call rfl (evs.cons rfl <| evs.cons rfl <| evs.nil) qD qS (itree_spec (p := p) (s := wrS Y) (by omega)) ?_
  rintro _ _ _ ⟨pa, pl, pc, rfl, rfl, rfl⟩
  refine L.norm qA qA ?_
  rw [ht1]
  refine L.move rfl rfl ?_
  refine L.extract rfl rfl rfl ?_
  refine L.extract rfl rfl rfl ?_
  refine L.alloc rfl ze24 (fun b11 => ?_)
  refine L.storeA ag24 rfl rfl qL qO qU qW ?_
  refine L.assign rfl rfl ?_
  refine L.nil ?_
  refine T.thenN (T.seq ?_)
  have ht2 : trF p.2 (wrS Y ++ [120]) = (.mk [] 0 [] [], 2) := if_pos (by rw [hps, List.length_append]; simp only [List.length_singleton]; omega)
  refine T.region ?_
  refine L.loadA rfl ag35 rfl qN ?_
  refine L.move rfl rfl ?_
  refine L.addS rfl rfl rfl qI ?_
  refine L.call rfl (evs.cons rfl <| evs.cons rfl <| evs.nil) qD qS (itree_spec (p := p) (s := wrS Y ++ [120]) (by rw [List.length_append]; simp only [List.length_singleton]; omega)) ?_
  rintro _ _ _ ⟨pa2, pl2, pc2, rfl, rfl, rfl⟩
  refine L.norm qA qA ?_
  rw [ht2]
  refine L.move rfl rfl ?_
  refine L.extract rfl rfl rfl ?_
  refine L.extract rfl rfl rfl ?_
  refine L.alloc rfl ze24 (fun b13 => ?_)
  refine L.storeA ag24 rfl rfl qL qO qU qW ?_
  refine L.assign rfl rfl ?_
  refine L.nil ?_
  refine T.thenN (T.seq (T.region ?_))
  refine L.move rfl rfl ?_
  refine L.callF rfl (evs.cons rfl <| evs.cons rfl <| evs.nil) qD qS (cut_spec (n := 30)) (by rintro u D1 M1 ⟨rfl, rfl, rfl⟩; exact ⟨rfl, _, qA, qF⟩) ?_
  refine L.assign rfl rfl ?_
  refine L.nil ?_
  refine T.thenN (T.seq ?_)
  have hsl : (s.take 30).length ≤ 30 := by rw [List.length_take]; omega
  refine T.region ?_
  refine L.loadA rfl ag35 rfl qN ?_
  refine L.move rfl rfl ?_
  refine L.call rfl (evs.cons rfl <| evs.cons rfl <| evs.nil) qD qS (itree_spec (p := p) (s := s.take 30) (by omega)) ?_
  rintro _ _ _ ⟨pa3, pl3, pc3, rfl, rfl, rfl⟩
  refine L.norm qA qA ?_
  refine L.move rfl rfl ?_
  refine L.extract rfl rfl rfl ?_
  refine L.extract rfl rfl rfl ?_
  refine L.alloc rfl ze24 (fun b15 => ?_)
  refine L.storeA ag24 rfl rfl qL qO qU qW ?_
  refine L.assign rfl rfl ?_
  refine L.nil ?_
  refine T.thenN (T.seq (T.region ?_))
  refine L.move rfl rfl ?_
  refine L.eqI rfl rfl rfl ?_
  refine L.move rfl rfl ?_
  refine L.known (t := 68) rfl (show _ = Value.bool true from congrArg Value.bool (by simp)) ?_
  refine L.guardT (dj := 68) rfl rfl rfl ?_
  refine L.loadA rfl ag24 rfl qN ?_
  refine L.guardT (dj := 68) rfl rfl rfl ?_
  refine L.loadA rfl ag24 rfl qN ?_
  refine L.guardT (dj := 68) rfl rfl rfl ?_
  refine L.callF rfl (evs.cons rfl <| evs.cons rfl <| evs.nil) qD qS (same_spec (x := Y) (z := Y.named []) (by omega)) (by rintro u D1 M1 ⟨rfl, rfl, rfl⟩; exact ⟨rfl, _, qA, qF⟩) ?_
  refine L.pickT rfl rfl rfl ?_
  refine L.move rfl rfl ?_
  refine L.known (t := 73) rfl (show _ = Value.bool true from congrArg Value.bool (by rw [named_same]; rfl)) ?_
  refine L.guardT (dj := 73) rfl rfl rfl ?_
  refine L.move rfl rfl ?_
  refine L.guardT (dj := 73) rfl rfl rfl ?_
  refine L.eqI rfl rfl rfl ?_
  refine L.pickT rfl rfl rfl ?_
  refine L.move rfl rfl ?_
  refine L.known (t := 77) rfl (show _ = Value.bool true from congrArg Value.bool (by simp)) ?_
  refine L.guardT (dj := 77) rfl rfl rfl ?_
  refine L.move rfl rfl ?_
  refine L.guardT (dj := 77) rfl rfl rfl ?_
  refine L.lenStr rfl Tryz.underlying9 rfl ?_
  refine L.guardT (dj := 77) rfl rfl rfl ?_
  refine L.move rfl rfl ?_
  refine L.guardT (dj := 77) rfl rfl rfl ?_
  refine L.lenStr rfl Tryz.underlying9 rfl ?_
  refine L.guardT (dj := 77) rfl rfl rfl ?_
  refine L.eqI rfl rfl rfl ?_
  refine L.guardT (dj := 77) rfl rfl rfl ?_
  refine L.move rfl rfl ?_
  refine L.part (t := 83) rfl (fun h1 => ?_) (fun h1 => ?_)
  ·try simp only [dq] at h1
   refine L.guardF (dj := 83) (c := true) rfl rfl rfl rfl rfl (by decide) ?_
   refine L.guardF (dj := 83) (c := true) rfl rfl rfl rfl rfl (by decide) ?_
   refine L.guardT (dj := 77) rfl rfl rfl ?_
   refine L.pickT rfl rfl rfl ?_
   refine L.pickT rfl rfl rfl ?_
   refine L.assign rfl rfl ?_
   refine L.nil ?_
   refine T.thenN (T.ret ?_)
   exact T.ret1 rfl rfl ⟨rfl, rfl, rfl⟩ qD qF
  ·try simp only [dq] at h1
   refine L.guardT (dj := 83) rfl rfl rfl ?_
   refine L.move rfl rfl ?_
   refine L.guardT (dj := 83) rfl rfl rfl ?_
   refine L.eqI rfl rfl rfl ?_
   refine L.guardT (dj := 77) rfl rfl rfl ?_
   refine L.pickF rfl rfl rfl ?_
   refine L.pickT rfl rfl rfl ?_
   refine L.assign rfl rfl ?_
   refine L.nil ?_
   refine T.thenN (T.ret ?_)
   exact T.ret1 rfl rfl ⟨congrArg Value.bool (decide_eq_true (by unfold trF; rw [if_pos (by rw [hps]; omega)])), rfl, rfl⟩ qD qF
end Cv
