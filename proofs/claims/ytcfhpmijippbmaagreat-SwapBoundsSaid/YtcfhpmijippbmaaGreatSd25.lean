/-
  The walks: answers that come.
-/
import Derived.Test.YtcfhpmijippbmaaGreatSc25
import Derived.Test.YtcfhpmijippbmaaGreatProg
import Derived.KernelRfl
set_option linter.unusedVariables false
set_option linter.unusedSimpArgs false
set_option linter.unusedSectionVars false
set_option maxRecDepth 10000
namespace Cv
open Go Go.Proofs
/-! ### answers that come: plain laws -/
def txK (id t0 : List UInt8) : Nat → List UInt8
  | 0 => t0
  | k + 1 => if (chI (k : Int)).1 = id then chT (k : Int) else txK id t0 k
theorem txK_len {id t0 : List UInt8} (h : t0.length ≤ 20) : ∀ k, (txK id t0 k).length ≤ 20
  | 0 => h
  | k + 1 => by
    unfold txK
    split
    · simp [chT]
    · exact txK_len h k
theorem txK_ok {id t0 : List UInt8} : ∀ {k : Nat}, (∃ m : Nat, m < k ∧ (chI (m : Int)).1 = id) → oidF 1 (txK id t0 k) = id
  | 0, ⟨m, hm, _⟩ => absurd hm (Nat.not_lt_zero _)
  | k + 1, ⟨m, hm, e⟩ => by
    unfold txK
    split
    · rename_i h; rw [chI_eq]; exact h
    · rename_i h
      refine txK_ok ⟨m, ?_, e⟩
      rcases Nat.lt_or_ge m k with q | q
      · exact q
      · have : m = k := by omega
        subst this; exact absurd e h
theorem n20_id {k : Nat} (h : k < 20) : n20 (k : Int) = (k : Int) := by
  unfold n20
  rw [Int.tmod_eq_emod_of_nonneg (show (0 : Int) ≤ (k : Int) by omega), Int.tmod_eq_emod_of_nonneg (by omega)]
  omega
theorem ans_lt {ol : List Ord} {sq n b : Int} (h : OInv ol sq) {r : Ans} (hr : r = ansF ol n b) : r.2.2.2.2 < (ol.length : Int) := by
  rcases ans_sim h hr with ⟨h1, _⟩ | ⟨j, x, h1, h2, -⟩
  · omega
  · omega
theorem ans_chunk {ol : List Ord} {sq n b : Int} (h : OInv ol sq) {r : Ans} (hr : r = ansF ol n b) (h0 : 0 ≤ r.2.2.2.2) : r.2.2.2.1 = 1 ∧ ∃ m : Nat, m < 20 ∧ (chI (m : Int)).1 = r.2.2.1.1 := by
  rcases ans_sim h hr with ⟨h1, _⟩ | ⟨j, x, h1, h2, h3, h4, -, h5, h6, h7, -⟩
  · omega
  · obtain ⟨m, m0, m1, e⟩ := h.chunk x (List.mem_of_getElem? h3)
    rw [h7, h6, e]
    refine ⟨rfl, m.toNat, by omega, ?_⟩
    rw [show ((m.toNat : Nat) : Int) = m by omega]
    rfl
theorem blk_p34 {ol : List Ord} {lk ll : List (LK × Int)} {ml : List (Int × Mind)} {r : Ans} {tx : List UInt8} {B : BlkR} {R : RBlk} (h : BSim ol lk ll ml r tx B R) : (pcells B.1).length = 34 := by
  rcases Decidable.em (B.2.1 = 0) with e | e
  · rw [(h.good e).1]
    have := r.2.2.1.2
    simp [this]
  · rw [h.bad e]; rfl
theorem come_five {s : SS} {i : Nat} {z : AR25} {r : Ans} {tx : List UInt8} {B : BlkR} {R : RBlk} (hI : SInv s i) (hr : r = ansF s.ol z.1.2.1 z.1.2.2) (hk : z.1.1 = 2) (htx : z.2.2.2 = [] → 0 ≤ r.2.2.2.2 → oidF r.2.2.2.1 tx = r.2.2.1.1) (hS : BSim s.ol s.lk s.ll s.ml r tx B R) : JOk s z R.2.2.1 := by
  intro H h5
  refine hS.five (fun j x h1 h2 h3 => ?_) h5
  rcases ans_sim hI.o hr with ⟨q1, _⟩ | ⟨j', x', q1, q2, q3, q4, q5, q6, -⟩
  · omega
  · have : j' = j := by omega
    subst this
    rw [h2, q5] at h3
    exact htx (H hk (by omega) h3) (by omega)
theorem come_inv {s : SS} {i : Nat} {r : Ans} {tx : List UInt8} {B : BlkR} {R : RBlk} (hI : SInv s i) (hS : BSim s.ol s.lk s.ll s.ml r tx B R) : SInv ⟨R.1, R.2.2.1, B.2.2.2.2, R.2.1, s.sq, s.now⟩ (i + 1) where
  o := hI.o.sub hS.sub
  lm := by have := hS.lenm; have := hI.lm; show R.2.2.1.length ≤ _; omega
  lc := by have := hS.len; have := hI.lc; show R.2.1.length ≤ _; omega
  ok := hS.ok
  same := hS.same
  ndl := hS.ndl
  ndk := hS.ndk
  sq0 := by have := hI.sq0; show 0 ≤ s.sq ∧ s.sq ≤ _; omega
  now0 := by have := hI.now0; show 0 ≤ s.now ∧ s.now ≤ _; omega
theorem miss_inv {s : SS} {i : Nat} {n b : Int} (hI : SInv s i) {r : Ans} (hr : r = ansF s.ol n b) {B : Bool × List Ord × List (LK × Int)} (hB : B = missF s.ol s.lk r.1 r.2.1 r.2.2.1 r.2.2.2.1 s.now) {R : List Ord × List (LK × Int)} (hR : R = rmissF s.ol s.ll r.2.2.2.2 s.now) :
    B.1 = decide (0 ≤ r.2.2.2.2) ∧ B.2.1 = R.1 ∧ SInv ⟨R.1, s.ml, B.2.2, R.2, s.sq, s.now⟩ (i + 1) := by
  obtain ⟨h1, h2, h3, h4, h5, h6, h7⟩ := miss_sim hI.o hI.same hI.ndl hI.ndk hr hB hR
  exact ⟨h1, h2, { o := hI.o.sub h6, lm := by have := hI.lm; show s.ml.length ≤ _; omega, lc := by have := hI.lc; show R.2.length ≤ _; omega, ok := hI.ok, same := h3, ndl := h4, ndk := h5, sq0 := by have := hI.sq0; show 0 ≤ s.sq ∧ s.sq ≤ _; omega, now0 := by have := hI.now0; show 0 ≤ s.now ∧ s.now ≤ _; omega }⟩
theorem tk20 {l : List UInt8} : (l.take 20).length ≤ 20 := by rw [List.length_take]; omega
theorem tk20_nil {l : List UInt8} (h : (20 : Nat) = 20) : l.take 20 = l.take 20 := rfl
theorem fo41_0 : Fo Tryz.prog 41 0 0 := fun a w => by kernel_rfl
theorem ag41 : Ag Tryz.prog 41 6 := fun w => ⟨by kernel_rfl, by kernel_rfl⟩
theorem fo41_5 : Fo Tryz.prog 41 5 5 := fun a w => by kernel_rfl
theorem fo81_0 : Fo Tryz.prog 81 0 0 := fun a w => by kernel_rfl
set_option maxHeartbeats 1000000 in
theorem comes_spec {b bb q lm i sn sc on oc ln lc mn mc : Nat} {sa oa la ma : Option Addr} {s : SS} {z : AR25} (hI : SInv s i) (hi : i ≤ 60) (hk : z.1.1 = 2 ∨ z.1.1 = 3) : Spec Tryz.prog 27 [.agg (stC b 1 s.sq oa on oc la ln lc ma mn mc s.now).toArray, .agg (aE z).toArray] [rsl 6 oa on oc (s.ol.map oR), rsl 3 la ln lc (s.ll.map kR), rsl 8 ma mn mc (s.ml.map rrow)] [cl b 59 (swC bb q 1 sa sn sc lm s.sq), own 37 96 sa sn sc ((s.ol).map oC), bookA bb (atM s.ml), mp lm lkK iK s.lk] (fun v D' M' => ∃ (t : SS) (sa2 oa2 la2 ma2 : Option Addr) (sn2 sc2 on2 oc2 ln2 lc2 mn2 mc2 : Nat), v = .tuple #[.agg (stC b 1 t.sq oa2 on2 oc2 la2 ln2 lc2 ma2 mn2 mc2 t.now).toArray, .bool true] ∧ (SInv t (i + 1)) ∧ (JOk s z t.ml) ∧ D' = [rsl 6 oa2 on2 oc2 (t.ol.map oR), rsl 3 la2 ln2 lc2 (t.ll.map kR), rsl 8 ma2 mn2 mc2 (t.ml.map rrow)] ∧ M' = [cl b 59 (swC bb q 1 sa2 sn2 sc2 lm t.sq), own 37 96 sa2 sn2 sc2 ((t.ol).map oC), bookA bb (atM t.ml), mp lm lkK iK t.lk]) := by
  refine Spec.intro (n := 135) Tryz.func27 rfl rfl (by decide) (Nat.le_of_ble_eq_true rfl) rfl (fun _ => qA) (fun _ => qA) ?_
  intro σ D M
  have hI0 := hI
  obtain ⟨hO, hlm, hlc, hok, hsame, hndl, hndk, hsq0, hnow0⟩ := hI
  have hO8 := hO.lo
  refine T.ownLen (a := sa) (rows := s.ol.map oC) qM (fun hsl hsc => ?_)
  rw [List.length_map] at hsl
  refine T.rslLen2 (rows := s.ol.map oR) qM (fun hol hoc => ?_)
  rw [List.length_map] at hol
  refine T.rslLen2 (rows := s.ll.map kR) qM (fun hll hlcc => ?_)
  rw [List.length_map] at hll
  have hsx : ∀ x ∈ s.ol, 0 ≤ x.2.1 ∧ x.2.1 ≤ 15 ∧ 0 ≤ x.2.2.1 ∧ x.2.2.1 ≤ 1000000 := fun x hx => by have h1 := hO.of_ x hx; have h2 := hO.sqs x hx; omega
  refine T.seq ?_
  refine T.region ?_
  refine L.box rfl rfl rfl (fun b2 => ?_)
  refine L.box rfl rfl rfl (fun b3 => ?_)
  refine L.alloc rfl ze36 (fun b4 => ?_)
  refine L.assign rfl rfl ?_
  refine L.nil ?_
  refine T.thenN ?_
  refine T.seq ?_
  refine T.seq ?_
  refine T.region ?_
  first | refine L.field0 rfl fo41_0 rfl ?_ | refine L.field rfl fo41_0 rfl ?_
  refine L.load rfl sc3 rfl qC ?_
  refine L.eqI rfl rfl rfl ?_
  refine L.nil ?_
  refine T.thenN ?_
  refine T.cond rfl (fun h20 => ?_) (fun h20 => ?_)
  · try simp only [decide_eq_true_eq, decide_eq_false_iff_not, Bool.not_eq_true', Bool.not_eq_false', Bool.and_eq_true, Bool.or_eq_true] at h20
    refine T.seq ?_
    refine T.region ?_
    refine L.loadA rfl ag36 rfl qN ?_
    refine L.loadA rfl ag41 rfl qN ?_
    refine L.call rfl (evs.cons rfl <| evs.cons rfl <| evs.cons rfl <| evs.nil) qD qS (answer_spec (ol := s.ol) (z := z) (kd := 9) (by omega) hsx) ?_
    rintro _ _ _ ⟨r, rfl, hr, rfl, rfl⟩
    refine L.norm qA qA ?_
    have hr32 := r.2.2.1.2
    have hrl := @letV_len 9 r.1 1 r.2.1 r.2.2.2.1 r.2.2.1.1 [] none none 0 0 0 0 hr32
    have hrlt := ans_lt hO hr
    refine L.move rfl rfl ?_
    refine L.extract rfl rfl rfl ?_
    refine L.extract rfl rfl rfl ?_
    refine L.alloc rfl ze77 (fun b6 => ?_)
    refine L.storeA ag77 rfl rfl qL qO qU qW ?_
    refine L.assign rfl rfl ?_
    refine L.nil ?_
    refine T.thenN ?_
    refine T.seq ?_
    refine T.region ?_
    first | refine L.field0 rfl fo36_0 rfl ?_ | refine L.field rfl fo36_0 rfl ?_
    refine L.load rfl sc24 rfl qC ?_
    refine L.loadA rfl ag77 rfl qN ?_
    first | refine L.field0 rfl fo36_2 rfl ?_ | refine L.field rfl fo36_2 rfl ?_
    refine L.load rfl sc3 rfl qC ?_
    refine L.call rfl (evs.cons rfl <| evs.cons rfl <| evs.cons rfl <| evs.nil) qD qS (miss_spec (b := b) (bb := bb) (q := q) (lm := lm) (o := 1) (sq := s.sq) (F := atM s.ml) (lk := s.lk) (ol := s.ol) (fr := r.1) (to_ := 1) (sq_ := r.2.1) (what := r.2.2.2.1) (id := r.2.2.1) (tx := []) (now := s.now) (by omega) (by omega) (by omega)) ?_
    rintro _ _ _ ⟨B, sa2, sn2, sc2, rfl, hB, hsn2, rfl, rfl⟩
    refine L.norm qA qA ?_
    refine L.assign rfl rfl ?_
    refine L.nil ?_
    refine T.thenN ?_
    refine T.seq ?_
    refine T.region ?_
    first | refine L.field0 rfl fo36_1 rfl ?_ | refine L.field rfl fo36_1 rfl ?_
    refine L.loadA rfl ag34 rfl qN ?_
    refine L.move rfl rfl ?_
    first | refine L.field0 rfl fo36_2 rfl ?_ | refine L.field rfl fo36_2 rfl ?_
    refine L.load rfl sc3 rfl qC ?_
    refine L.call rfl (evs.cons rfl <| evs.cons rfl <| evs.cons rfl <| evs.nil) qD qS (rmiss_spec (o := 1) (sq := s.sq) (ol := s.ol) (ll := s.ll) (i := r.2.2.2.2) (now := s.now) (by omega) (by omega) (by omega) (by omega) (by omega)) ?_
    rintro _ _ _ ⟨R, oa2, la2, on2, oc2, ln2, lc2, rfl, hR, hx1, hx2, rfl, rfl⟩
    refine L.norm qA qA ?_
    obtain ⟨hm1, hm2, hI2⟩ := miss_inv hI0 hr hB hR
    rw [hm2]
    first | refine L.field0 rfl fo36_1 rfl ?_ | refine L.field rfl fo36_1 rfl ?_
    refine L.storeA ag34 rfl rfl qL qO qU qW ?_
    refine L.nil ?_
    refine T.thenN ?_
    refine T.seq ?_
    refine T.region ?_
    refine L.loadA rfl ag36 rfl qN ?_
    refine L.move rfl rfl ?_
    refine L.move rfl rfl ?_
    refine L.geI rfl rfl rfl ?_
    refine L.eqlB Tryz.underlying4 rfl rfl rfl ?_
    refine L.known (t := 44) (u := .bool true) rfl (by rw [hm1]; exact congrArg Value.bool (decide_eq_true rfl)) ?_
    refine L.storeA ag36 rfl rfl qL qO qU qW ?_
    refine L.assign rfl rfl ?_
    refine L.nil ?_
    refine T.thenN ?_
    refine T.ret ?_
    refine T.thenR ?_
    exact T.retAT rfl ag36 rfl qN rfl ⟨⟨R.1, s.ml, B.2.2, R.2, s.sq, s.now⟩, _, _, _, _, _, _, _, _, _, _, _, _, rfl, hI2, fun _ h => h, rfl, rfl⟩ qD qF
  · try simp only [decide_eq_true_eq, decide_eq_false_iff_not, Bool.not_eq_true', Bool.not_eq_false', Bool.and_eq_true, Bool.or_eq_true] at h20
    have hk2 : z.1.1 = 2 := by omega
    refine T.skip ?_
    refine T.thenN ?_
    refine T.seq ?_
    refine T.region ?_
    refine L.loadA rfl ag36 rfl qN ?_
    refine L.loadA rfl ag41 rfl qN ?_
    refine L.call rfl (evs.cons rfl <| evs.cons rfl <| evs.cons rfl <| evs.nil) qD qS (answer_spec (ol := s.ol) (z := z) (kd := 8) (by omega) hsx) ?_
    rintro _ _ _ ⟨r, rfl, hr, rfl, rfl⟩
    refine L.norm qA qA ?_
    have hr32 := r.2.2.1.2
    have hrl := @letV_len 8 r.1 1 r.2.1 r.2.2.2.1 r.2.2.1.1 [] none none 0 0 0 0 hr32
    have hrlt := ans_lt hO hr
    refine L.move rfl rfl ?_
    refine L.extract rfl rfl rfl ?_
    refine L.extract rfl rfl rfl ?_
    refine L.alloc rfl ze77 (fun b9 => ?_)
    refine L.storeA ag77 rfl rfl qL qO qU qW ?_
    refine L.assign rfl rfl ?_
    refine L.nil ?_
    refine T.thenN ?_
    refine T.seq ?_
    refine T.region ?_
    first | refine L.field0 rfl fo41_5 rfl ?_ | refine L.field rfl fo41_5 rfl ?_
    refine L.load rfl sc9 rfl qC ?_
    refine L.callF rfl (evs.cons rfl <| evs.cons rfl <| evs.nil) qD qS (cut_spec (n := 20)) (by rintro u D1 M1 ⟨rfl, rfl, rfl⟩; exact ⟨rfl, _, qA, qF⟩) ?_
    first | refine L.field0 rfl fo77_6 rfl ?_ | refine L.field rfl fo77_6 rfl ?_
    refine L.store sc9 rfl rfl rfl qU qE ?_
    refine L.nil ?_
    refine T.thenN ?_
    refine T.seq ?_
    refine T.seq ?_
    refine T.cutC (fun K' D' M' => ∃ (wb : Bool), (wb = true ↔ (z.2.2.2 = [] ∧ 0 ≤ r.2.2.2.2)) ∧ K' = [(61, .bool wb)] ∧ D' = [] ∧ M' = []) (M0 := []) (.cons (t := 2) rfl <| .cons (t := 4) rfl <| .cons (t := 9) rfl <| .cons (t := 10) rfl <| SubK.nil _) qS ?_ ?_
    · skip
      rcases Decidable.em (z.2.2.2 = []) with h1 | h1
      · skip
        refine T.region ?_
        first | refine L.field0 rfl fo41_5 rfl ?_ | refine L.field rfl fo41_5 rfl ?_
        refine L.load rfl sc9 rfl qC ?_
        refine L.eqS rfl rfl rfl ?_
        refine L.move rfl rfl ?_
        refine L.known (t := 58) rfl (show _ = Value.bool true from congrArg Value.bool (decide_eq_true h1)) ?_
        refine L.guardT (dj := 58) rfl rfl rfl ?_
        refine L.move rfl rfl ?_
        refine L.guardT (dj := 58) rfl rfl rfl ?_
        refine L.geI rfl rfl rfl ?_
        refine L.pickT rfl rfl rfl ?_
        refine L.nil ?_
        refine T.thenN ?_
        exact T.toJoin ⟨_, ⟨fun e => ⟨h1, of_decide_eq_true e⟩, fun e => decide_eq_true e.2⟩, rfl, rfl, rfl⟩ (.cons (t := 61) rfl <| SubK.nil _) (.cons (t := 2) rfl <| .cons (t := 4) rfl <| .cons (t := 9) rfl <| .cons (t := 10) rfl <| SubK.nil _) qD qD qF
      · skip
        refine T.region ?_
        first | refine L.field0 rfl fo41_5 rfl ?_ | refine L.field rfl fo41_5 rfl ?_
        refine L.load rfl sc9 rfl qC ?_
        refine L.eqS rfl rfl rfl ?_
        refine L.move rfl rfl ?_
        refine L.known (t := 58) rfl (show _ = Value.bool false from congrArg Value.bool (decide_eq_false h1)) ?_
        refine L.guardF (dj := 58) (c := false) rfl rfl rfl rfl rfl (by decide) ?_
        refine L.guardF (dj := 58) (c := false) rfl rfl rfl rfl rfl (by decide) ?_
        refine L.pickF rfl rfl rfl ?_
        refine L.nil ?_
        refine T.thenN ?_
        exact T.toJoin ⟨_, ⟨fun e => (by cases e), fun e => absurd e.1 h1⟩, rfl, rfl, rfl⟩ (.cons (t := 61) rfl <| SubK.nil _) (.cons (t := 2) rfl <| .cons (t := 4) rfl <| .cons (t := 9) rfl <| .cons (t := 10) rfl <| SubK.nil _) qD qD qF
    rintro _ _ _ ⟨wb, hwb, rfl, rfl, rfl⟩
    refine T.norm3 qA qA qA ?_
    refine T.thenN ?_
    refine T.cutC (fun K' D' M' => ∃ (tx : List UInt8), (tx.length ≤ 20 ∧ (wb = true → oidF r.2.2.2.1 tx = r.2.2.1.1)) ∧ K' = [] ∧ D' = [] ∧ M' = [cl b9 77 (letV 8 r.1 1 r.2.1 r.2.2.1.1 r.2.2.2.1 (tx) none 0 0 none 0 0)]) (M0 := [cl b9 77 (letV 8 r.1 1 r.2.1 r.2.2.1.1 r.2.2.2.1 (z.2.2.2.take 20) none 0 0 none 0 0)]) (.cons (t := 2) rfl <| .cons (t := 4) rfl <| .cons (t := 9) rfl <| .cons (t := 10) rfl <| SubK.nil _) qS ?_ ?_
    · skip
      refine T.cond rfl (fun h61 => ?_) (fun h61 => ?_)
      · try simp only [decide_eq_true_eq, decide_eq_false_iff_not, Bool.not_eq_true', Bool.not_eq_false', Bool.and_eq_true, Bool.or_eq_true] at h61
        refine T.seq ?_
        refine T.region ?_
        refine L.move rfl rfl ?_
        refine L.nil ?_
        refine T.thenN ?_
        refine T.block ?_
        refine T.loop (fun K' D' M' μ => ∃ (k : Nat), (k ≤ 20) ∧ K' = [(62, .int .i64 k)] ∧ D' = [] ∧ M' = [cl b9 77 (letV 8 r.1 1 r.2.1 r.2.2.1.1 r.2.2.2.1 (txK r.2.2.1.1 (z.2.2.2.take 20) k) none 0 0 none 0 0)] ∧ μ = 20 - k) (.cons (t := 2) rfl <| .cons (t := 4) rfl <| .cons (t := 9) rfl <| .cons (t := 10) rfl <| SubK.nil _) (⟨0, Nat.zero_le _, rfl, rfl, rfl, rfl⟩) (.cons (t := 62) rfl <| SubK.nil _) qD qS ?_
        rintro K1 D1 M1 m1 ⟨k, hk20, rfl, rfl, rfl, rfl⟩
        refine T.norm3 qA qA qA ?_
        refine T.seq ?_
        refine T.region ?_
        refine L.ltI rfl rfl rfl ?_
        refine L.nil ?_
        refine T.thenN ?_
        refine T.seq ?_
        refine T.cond rfl (fun h63 => ?_) (fun h63 => ?_)
        · try simp only [decide_eq_true_eq, decide_eq_false_iff_not, Bool.not_eq_true', Bool.not_eq_false', Bool.and_eq_true, Bool.or_eq_true] at h63
          refine T.skip ?_
          refine T.thenN ?_
          refine T.seq ?_
          refine T.block ?_
          refine T.seq ?_
          refine T.region ?_
          refine L.move rfl rfl ?_
          refine L.assign rfl rfl ?_
          refine L.nil ?_
          refine T.thenN ?_
          refine T.seq ?_
          refine T.region ?_
          refine L.move rfl rfl ?_
          refine L.callF rfl (evs.cons rfl <| evs.nil) qD qS (chunk_spec (n := (k : Int))) (by rintro u D1 M1 ⟨rfl, rfl, rfl⟩; exact ⟨rfl, _, qA, qF⟩) ?_
          rw [n20_id (show k < 20 by omega)]
          have hi32 := (chI (k : Int)).2
          have hq32 := (chW (k : Int)).2.1.2
          have hw34 := wC_len (chW (k : Int))
          have hc34 : (pcells (1, (chI (k : Int)).1, chT (k : Int))).length = 34 := by simp [hi32]
          refine L.move rfl rfl ?_
          refine L.extract rfl rfl rfl ?_
          refine L.extract rfl rfl rfl ?_
          refine L.alloc rfl ze52 (fun b12 => ?_)
          refine L.alloc rfl ze81 (fun b13 => ?_)
          refine L.storeA ag52 rfl rfl qL qO qU qW ?_
          refine L.storeA ag81 rfl rfl qL qO qU qW ?_
          refine L.nil ?_
          refine T.thenN ?_
          refine T.seq ?_
          refine T.region ?_
          first | refine L.field0 rfl fo52_1 rfl ?_ | refine L.field rfl fo52_1 rfl ?_
          refine L.loadA rfl ag50 rfl qN ?_
          first | refine L.field0 rfl fo77_4 rfl ?_ | refine L.field rfl fo77_4 rfl ?_
          refine L.loadA rfl ag50 rfl qN ?_
          refine L.eqlArrI (by kernel_rfl) rfl Tryz.underlying50 Tryz.underlying5 sc5 rfl rfl qL qL ?_
          refine L.nil ?_
          refine T.thenN ?_
          refine T.cond rfl (fun h74 => ?_) (fun h74 => ?_)
          · try simp only [decide_eq_true_eq, decide_eq_false_iff_not, Bool.not_eq_true', Bool.not_eq_false', Bool.and_eq_true, Bool.or_eq_true] at h74
            have h74 : (chI (k : Int)).1 = r.2.2.1.1 := h74
            refine T.region ?_
            first | refine L.field0 rfl fo81_2 rfl ?_ | refine L.field rfl fo81_2 rfl ?_
            refine L.load rfl sc9 rfl qC ?_
            first | refine L.field0 rfl fo77_6 rfl ?_ | refine L.field rfl fo77_6 rfl ?_
            refine L.store sc9 rfl rfl rfl qU qE ?_
            refine L.nil ?_
            refine T.blkN ?_
            refine T.thenN ?_
            refine T.region ?_
            refine L.addN rfl rfl rfl (by omega) ?_
            refine L.move rfl rfl ?_
            refine L.nil ?_
            refine T.thenN ?_
            refine T.eqv qP (show cl b9 77 (letV 8 r.1 1 r.2.1 r.2.2.1.1 r.2.2.2.1 (chT (k : Int)) none 0 0 none 0 0) = cl b9 77 (letV 8 r.1 1 r.2.1 r.2.2.1.1 r.2.2.2.1 (txK r.2.2.1.1 (z.2.2.2.take 20) (k + 1)) none 0 0 none 0 0) from by rw [txK, if_pos h74]) ?_
            exact T.back ⟨k + 1, (by omega), rfl, rfl, rfl, rfl⟩ qI (.cons (t := 62) rfl <| SubK.nil _) (.cons (t := 2) rfl <| .cons (t := 4) rfl <| .cons (t := 9) rfl <| .cons (t := 10) rfl <| SubK.nil _) qD qD qF
          · try simp only [decide_eq_true_eq, decide_eq_false_iff_not, Bool.not_eq_true', Bool.not_eq_false', Bool.and_eq_true, Bool.or_eq_true] at h74
            have h74 : ¬ (chI (k : Int)).1 = r.2.2.1.1 := h74
            refine T.skip ?_
            refine T.blkN ?_
            refine T.thenN ?_
            refine T.region ?_
            refine L.addN rfl rfl rfl (by omega) ?_
            refine L.move rfl rfl ?_
            refine L.nil ?_
            refine T.thenN ?_
            refine T.eqv qP (show cl b9 77 (letV 8 r.1 1 r.2.1 r.2.2.1.1 r.2.2.2.1 (txK r.2.2.1.1 (z.2.2.2.take 20) k) none 0 0 none 0 0) = cl b9 77 (letV 8 r.1 1 r.2.1 r.2.2.1.1 r.2.2.2.1 (txK r.2.2.1.1 (z.2.2.2.take 20) (k + 1)) none 0 0 none 0 0) from by rw [txK, if_neg h74]) ?_
            exact T.back ⟨k + 1, (by omega), rfl, rfl, rfl, rfl⟩ qI (.cons (t := 62) rfl <| SubK.nil _) (.cons (t := 2) rfl <| .cons (t := 4) rfl <| .cons (t := 9) rfl <| .cons (t := 10) rfl <| SubK.nil _) qD qD qF
        · try simp only [decide_eq_true_eq, decide_eq_false_iff_not, Bool.not_eq_true', Bool.not_eq_false', Bool.and_eq_true, Bool.or_eq_true] at h63
          obtain rfl : k = 20 := by omega
          refine T.exit ?_
          refine T.thenX ?_
          refine T.thenX ?_
          refine T.blkX ?_
          refine T.thenN ?_
          exact T.toJoin ⟨txK r.2.2.1.1 (z.2.2.2.take 20) 20, ⟨txK_len tk20 20, fun _ => by obtain ⟨e1, e2⟩ := ans_chunk hO hr (hwb.1 h61).2; rw [e1]; exact txK_ok e2⟩, rfl, rfl, rfl⟩ (SubK.nil _) (.cons (t := 2) rfl <| .cons (t := 4) rfl <| .cons (t := 9) rfl <| .cons (t := 10) rfl <| SubK.nil _) qD qD qF
      · try simp only [decide_eq_true_eq, decide_eq_false_iff_not, Bool.not_eq_true', Bool.not_eq_false', Bool.and_eq_true, Bool.or_eq_true] at h61
        refine T.skip ?_
        refine T.thenN ?_
        exact T.toJoin ⟨z.2.2.2.take 20, ⟨tk20, fun e => by rw [h61] at e; cases e⟩, rfl, rfl, rfl⟩ (SubK.nil _) (.cons (t := 2) rfl <| .cons (t := 4) rfl <| .cons (t := 9) rfl <| .cons (t := 10) rfl <| SubK.nil _) qD qD qF
    rintro _ _ _ ⟨tx, ⟨htl, htx⟩, rfl, rfl, rfl⟩
    refine T.norm3 qA qA qA ?_
    refine T.thenN ?_
    refine T.seq ?_
    refine T.region ?_
    first | refine L.field0 rfl fo36_0 rfl ?_ | refine L.field rfl fo36_0 rfl ?_
    refine L.load rfl sc24 rfl qC ?_
    refine L.loadA rfl ag77 rfl qN ?_
    first | refine L.field0 rfl fo36_2 rfl ?_ | refine L.field rfl fo36_2 rfl ?_
    refine L.load rfl sc3 rfl qC ?_
    refine L.call rfl (evs.cons rfl <| evs.cons rfl <| evs.cons rfl <| evs.nil) qD qS (blk_spec (b := b) (bb := bb) (q := q) (lm := lm) (o := 1) (sq := s.sq) (F := atM s.ml) (lk := s.lk) (ol := s.ol) (fr := r.1) (to_ := 1) (sq_ := r.2.1) (what := r.2.2.2.1) (id := r.2.2.1) (tx := tx) (now := s.now) (by omega) (by omega) (by omega) (by omega)) ?_
    rintro _ _ _ ⟨B, sa2, sn2, sc2, rfl, hB, hsn2, rfl, rfl⟩
    refine L.norm qA qA ?_
    have hS := blk_sim (tx := tx) (now := s.now) hO hsame hndl hndk hok hr
    rw [← hB] at hS
    have hp34 := blk_p34 hS
    refine L.move rfl rfl ?_
    refine L.extract rfl rfl rfl ?_
    refine L.extract rfl rfl rfl ?_
    refine L.alloc rfl ze81 (fun b14 => ?_)
    refine L.storeA ag81 rfl rfl qL qO qU qW ?_
    refine L.assign rfl rfl ?_
    refine L.nil ?_
    refine T.thenN ?_
    refine T.seq ?_
    refine T.region ?_
    first | refine L.field0 rfl fo36_1 rfl ?_ | refine L.field rfl fo36_1 rfl ?_
    refine L.loadA rfl ag34 rfl qN ?_
    refine L.move rfl rfl ?_
    first | refine L.field0 rfl fo77_6 rfl ?_ | refine L.field rfl fo77_6 rfl ?_
    refine L.load rfl sc9 rfl qC ?_
    first | refine L.field0 rfl fo36_2 rfl ?_ | refine L.field rfl fo36_2 rfl ?_
    refine L.load rfl sc3 rfl qC ?_
    refine L.call rfl (evs.cons rfl <| evs.cons rfl <| evs.cons rfl <| evs.cons rfl <| evs.nil) qD qS (rblk_spec (o := 1) (sq := s.sq) (ol := s.ol) (ll := s.ll) (ml := s.ml) (i := r.2.2.2.2) (tx := tx) (now := s.now) (by omega) (by omega) (by omega) hok (by omega) (by omega) (by omega) (by omega)) ?_
    rintro _ _ _ ⟨R, oa2, la2, ma2, on2, oc2, ln2, lc2, mn2, mc2, rfl, hR, hx1, hx2, rfl, rfl⟩
    refine L.norm qA qA ?_
    rw [← hR] at hS
    rw [hS.ord, hS.mind]
    refine L.move rfl rfl ?_
    refine L.extract rfl rfl rfl ?_
    refine L.extract rfl rfl rfl ?_
    refine L.alloc rfl ze34 (fun b16 => ?_)
    refine L.storeA ag34 rfl rfl qL qO qU qW ?_
    refine L.assign rfl rfl ?_
    refine L.nil ?_
    refine T.thenN ?_
    refine T.seq ?_
    refine T.region ?_
    refine L.loadA rfl ag34 rfl qN ?_
    first | refine L.field0 rfl fo36_1 rfl ?_ | refine L.field rfl fo36_1 rfl ?_
    refine L.storeA ag34 rfl rfl qL qO qU qW ?_
    refine L.nil ?_
    refine T.thenN ?_
    refine T.seq ?_
    refine T.seq ?_
    refine T.freeze (A := cl b9 77 (letV 8 r.1 1 r.2.1 r.2.2.1.1 r.2.2.2.1 (tx) none 0 0 none 0 0)) qP ?_
    refine T.freeze (A := cl b14 81 (pcells B.1)) qP ?_
    rcases Decidable.em (B.2.1 = 0) with h0 | h0
    · skip
      obtain ⟨hb1, hb2⟩ := hS.good h0
      rw [hb1]
      refine T.regionA (clsL [1, 1, 1, 1, 1, 1, 1, 2, 2, 1, 1, 1, 1, 1, 1, 1, 1, 1, 1, 1, 1, 1, 1, 1, 1, 1, 1, 1, 1]) (by kernel_rfl) ?_
      refine A.takeP (i := 0) rfl rfl rfl rfl (by kernel_rfl) (by kernel_rfl) (by kernel_rfl) rfl qD ?_
      refine L.move rfl rfl ?_
      refine A.took ?_
      refine A.takeP (i := 1) rfl rfl rfl rfl (by kernel_rfl) (by kernel_rfl) (by kernel_rfl) rfl qD ?_
      refine L.eqI rfl rfl rfl ?_
      refine A.took ?_
      refine A.takeP (i := 2) rfl rfl rfl rfl (by kernel_rfl) (by kernel_rfl) (by kernel_rfl) rfl qD ?_
      refine L.move rfl rfl ?_
      refine A.took ?_
      refine A.known (t := 103) rfl (show _ = Value.bool true from congrArg Value.bool (decide_eq_true h0)) ?_
      refine A.takeP (i := 3) rfl rfl rfl rfl (by kernel_rfl) (by kernel_rfl) (by kernel_rfl) rfl qD ?_
      refine L.guardT (dj := 103) rfl rfl rfl ?_
      first | refine L.field0 rfl fo81_0 rfl ?_ | refine L.field rfl fo81_0 rfl ?_
      refine A.took ?_
      refine A.takeP (i := 4) rfl rfl rfl rfl (by kernel_rfl) (by kernel_rfl) (by kernel_rfl) rfl qD ?_
      refine L.guardT (dj := 103) rfl rfl rfl ?_
      refine L.load rfl sc3 rfl qC ?_
      refine A.took ?_
      refine A.takeP (i := 5) rfl rfl rfl rfl (by kernel_rfl) (by kernel_rfl) (by kernel_rfl) rfl qD ?_
      refine L.guardT (dj := 103) rfl rfl rfl ?_
      first | refine L.field0 rfl fo81_2 rfl ?_ | refine L.field rfl fo81_2 rfl ?_
      refine A.took ?_
      refine A.takeP (i := 6) rfl rfl rfl rfl (by kernel_rfl) (by kernel_rfl) (by kernel_rfl) rfl qD ?_
      refine L.guardT (dj := 103) rfl rfl rfl ?_
      refine L.load rfl sc9 rfl qC ?_
      refine A.took ?_
      refine A.takeP (i := 9) rfl rfl rfl rfl (by kernel_rfl) (by kernel_rfl) (by kernel_rfl) rfl qD ?_
      refine L.guardT (dj := 103) rfl rfl rfl ?_
      first | refine L.field0 rfl fo77_4 rfl ?_ | refine L.field rfl fo77_4 rfl ?_
      refine A.took ?_
      refine A.takeP (i := 10) rfl rfl rfl rfl (by kernel_rfl) (by kernel_rfl) (by kernel_rfl) rfl qD ?_
      refine L.guardT (dj := 103) rfl rfl rfl ?_
      refine L.loadA rfl ag50 rfl qN ?_
      refine A.took ?_
      refine A.branch (is := [7]) (by kernel_rfl) (by decide) (Each.cons rfl ?_ <| Each.nil) 
      refine L.guardT (dj := 103) rfl rfl rfl ?_
      refine L.buildSlice rfl bs156 (by decide) (BP.one rfl rfl rfl <| BP.doneE (out := []) rfl) (fun b108 => ?_)
      refine L.toOwn (len := 1) qP (rows := [tx].map ys) (sz := 1) (by rfl) rfl (by simp) ?_
      refine L.ownRsl qP ?_
      refine A.backT rfl qD ?_
      refine A.branch (is := [8]) (by kernel_rfl) (by decide) (Each.cons rfl ?_ <| Each.nil) 
      refine L.guardT (dj := 103) rfl rfl rfl ?_
      refine L.call rfl (evs.cons rfl <| evs.cons rfl <| evs.nil) qD qS (oidof_spec (ls := [tx]) (by simpa using (show tx.length ≤ 35184372088832 by omega)) (by simp)) ?_
      rintro _ _ _ ⟨rfl, rfl, rfl⟩
      refine L.norm qA qA ?_
      rw [show oidF r.2.2.2.1 [tx].flatten = oidF r.2.2.2.1 tx from by simp]
      have h32 := oidF_len r.2.2.2.1 tx
      refine A.backT rfl qD ?_
      refine A.takeP (i := 11) rfl rfl rfl rfl (by kernel_rfl) (by kernel_rfl) (by kernel_rfl) rfl qD ?_
      refine L.guardT (dj := 103) rfl rfl rfl ?_
      refine L.neqArrI (by kernel_rfl) rfl Tryz.underlying50 Tryz.underlying5 sc5 rfl rfl qL qL ?_
      refine A.took ?_
      refine A.takeP (i := 12) rfl rfl rfl rfl (by kernel_rfl) (by kernel_rfl) (by kernel_rfl) rfl qD ?_
      refine L.guardT (dj := 103) rfl rfl rfl ?_
      refine L.move rfl rfl ?_
      refine A.took ?_
      refine A.known (t := 113) rfl (show _ = Value.bool false from congrArg Value.bool (decide_eq_false (fun e => e hb2))) ?_
      refine A.takeP (i := 13) rfl rfl rfl rfl (by kernel_rfl) (by kernel_rfl) (by kernel_rfl) rfl qD ?_
      refine L.guardT (dj := 113) rfl rfl rfl ?_
      first | refine L.field0 rfl fo81_2 rfl ?_ | refine L.field rfl fo81_2 rfl ?_
      refine A.took ?_
      refine A.takeP (i := 14) rfl rfl rfl rfl (by kernel_rfl) (by kernel_rfl) (by kernel_rfl) rfl qD ?_
      refine L.guardT (dj := 113) rfl rfl rfl ?_
      refine L.load rfl sc9 rfl qC ?_
      refine A.took ?_
      refine A.takeP (i := 15) rfl rfl rfl rfl (by kernel_rfl) (by kernel_rfl) (by kernel_rfl) rfl qD ?_
      refine L.guardT (dj := 113) rfl rfl rfl ?_
      first | refine L.field0 rfl fo77_6 rfl ?_ | refine L.field rfl fo77_6 rfl ?_
      refine A.took ?_
      refine A.takeP (i := 16) rfl rfl rfl rfl (by kernel_rfl) (by kernel_rfl) (by kernel_rfl) rfl qD ?_
      refine L.guardT (dj := 113) rfl rfl rfl ?_
      refine L.load rfl sc9 rfl qC ?_
      refine A.took ?_
      refine A.takeP (i := 17) rfl rfl rfl rfl (by kernel_rfl) (by kernel_rfl) (by kernel_rfl) rfl qD ?_
      refine L.guardT (dj := 113) rfl rfl rfl ?_
      refine L.neS rfl rfl rfl ?_
      refine A.took ?_
      refine A.takeP (i := 18) rfl rfl rfl rfl (by kernel_rfl) (by kernel_rfl) (by kernel_rfl) rfl qD ?_
      refine L.guardT (dj := 103) rfl rfl rfl ?_
      refine L.pickF rfl rfl rfl ?_
      refine A.took ?_
      refine A.takeP (i := 19) rfl rfl rfl rfl (by kernel_rfl) (by kernel_rfl) (by kernel_rfl) rfl qD ?_
      refine L.pickT rfl rfl rfl ?_
      refine A.took ?_
      refine A.takeP (i := 20) rfl rfl rfl rfl (by kernel_rfl) (by kernel_rfl) (by kernel_rfl) rfl qD ?_
      refine L.move rfl rfl ?_
      refine A.took ?_
      refine A.known (t := 121) rfl (show _ = Value.bool false from congrArg Value.bool (by simp)) ?_
      refine A.takeP (i := 21) rfl rfl rfl rfl (by kernel_rfl) (by kernel_rfl) (by kernel_rfl) rfl qD ?_
      refine L.guardT (dj := 121) rfl rfl rfl ?_
      refine L.move rfl rfl ?_
      refine A.took ?_
      refine A.takeP (i := 22) rfl rfl rfl rfl (by kernel_rfl) (by kernel_rfl) (by kernel_rfl) rfl qD ?_
      refine L.guardT (dj := 121) rfl rfl rfl ?_
      refine L.neI rfl rfl rfl ?_
      refine A.took ?_
      refine A.takeP (i := 23) rfl rfl rfl rfl (by kernel_rfl) (by kernel_rfl) (by kernel_rfl) rfl qD ?_
      refine L.guardT (dj := 121) rfl rfl rfl ?_
      refine L.move rfl rfl ?_
      refine A.took ?_
      refine A.known (t := 124) rfl (show _ = Value.bool false from congrArg Value.bool (by simp [h0])) ?_
      refine A.takeP (i := 24) rfl rfl rfl rfl (by kernel_rfl) (by kernel_rfl) (by kernel_rfl) rfl qD ?_
      refine L.guardF (dj := 124) (c := false) rfl rfl rfl rfl rfl (by decide) ?_
      refine A.took ?_
      refine A.takeP (i := 25) rfl rfl rfl rfl (by kernel_rfl) (by kernel_rfl) (by kernel_rfl) rfl qD ?_
      refine L.guardF (dj := 124) (c := false) rfl rfl rfl rfl rfl (by decide) ?_
      refine A.took ?_
      refine A.takeP (i := 26) rfl rfl rfl rfl (by kernel_rfl) (by kernel_rfl) (by kernel_rfl) rfl qD ?_
      refine L.guardF (dj := 124) (c := false) rfl rfl rfl rfl rfl (by decide) ?_
      refine A.took ?_
      refine A.takeP (i := 27) rfl rfl rfl rfl (by kernel_rfl) (by kernel_rfl) (by kernel_rfl) rfl qD ?_
      refine L.guardT (dj := 121) rfl rfl rfl ?_
      refine L.pickF rfl rfl rfl ?_
      refine A.took ?_
      refine A.takeP (i := 28) rfl rfl rfl rfl (by kernel_rfl) (by kernel_rfl) (by kernel_rfl) rfl qD ?_
      refine L.pickF rfl rfl rfl ?_
      refine A.took ?_
      refine A.done (by kernel_rfl) ?_
      refine T.thenN ?_
      refine T.condF rfl rfl ?_
      refine T.skip ?_
      refine T.thenN ?_
      refine T.seq ?_
      refine T.region ?_
      refine L.loadA rfl ag36 rfl qN ?_
      refine L.move rfl rfl ?_
      refine L.move rfl rfl ?_
      refine L.eqI rfl rfl rfl ?_
      refine L.known (t := 134) (u := .bool true) rfl (congrArg Value.bool (decide_eq_true hS.err)) ?_
      refine L.storeA ag36 rfl rfl qL qO qU qW ?_
      refine L.assign rfl rfl ?_
      refine L.nil ?_
      refine T.thenN ?_
      refine T.ret ?_
      exact T.retAT rfl ag36 rfl qN rfl ⟨⟨R.1, R.2.2.1, B.2.2.2.2, R.2.1, s.sq, s.now⟩, _, _, _, _, _, _, _, _, _, _, _, _, rfl, come_inv hI0 hS, come_five hI0 hr hk2 (fun e1 e2 => htx (hwb.2 ⟨e1, e2⟩)) hS, rfl, rfl⟩ qD qF
    · skip
      rw [hS.bad h0]
      refine T.regionA (clsL [1, 1, 1, 1, 1, 1, 1, 2, 2, 1, 1, 1, 1, 1, 1, 1, 1, 1, 1, 1, 1, 1, 1, 1, 1, 1, 1, 1, 1]) (by kernel_rfl) ?_
      refine A.takeP (i := 0) rfl rfl rfl rfl (by kernel_rfl) (by kernel_rfl) (by kernel_rfl) rfl qD ?_
      refine L.move rfl rfl ?_
      refine A.took ?_
      refine A.takeP (i := 1) rfl rfl rfl rfl (by kernel_rfl) (by kernel_rfl) (by kernel_rfl) rfl qD ?_
      refine L.eqI rfl rfl rfl ?_
      refine A.took ?_
      refine A.takeP (i := 2) rfl rfl rfl rfl (by kernel_rfl) (by kernel_rfl) (by kernel_rfl) rfl qD ?_
      refine L.move rfl rfl ?_
      refine A.took ?_
      refine A.known (t := 103) rfl (show _ = Value.bool false from congrArg Value.bool (decide_eq_false h0)) ?_
      refine A.takeP (i := 3) rfl rfl rfl rfl (by kernel_rfl) (by kernel_rfl) (by kernel_rfl) rfl qD ?_
      refine L.guardF (dj := 103) (c := false) rfl rfl rfl rfl rfl (by decide) ?_
      refine A.took ?_
      refine A.takeP (i := 4) rfl rfl rfl rfl (by kernel_rfl) (by kernel_rfl) (by kernel_rfl) rfl qD ?_
      refine L.guardF (dj := 103) (c := false) rfl rfl rfl rfl rfl (by decide) ?_
      refine A.took ?_
      refine A.takeP (i := 5) rfl rfl rfl rfl (by kernel_rfl) (by kernel_rfl) (by kernel_rfl) rfl qD ?_
      refine L.guardF (dj := 103) (c := false) rfl rfl rfl rfl rfl (by decide) ?_
      refine A.took ?_
      refine A.takeP (i := 6) rfl rfl rfl rfl (by kernel_rfl) (by kernel_rfl) (by kernel_rfl) rfl qD ?_
      refine L.guardF (dj := 103) (c := false) rfl rfl rfl rfl rfl (by decide) ?_
      refine A.took ?_
      refine A.takeP (i := 9) rfl rfl rfl rfl (by kernel_rfl) (by kernel_rfl) (by kernel_rfl) rfl qD ?_
      refine L.guardF (dj := 103) (c := false) rfl rfl rfl rfl rfl (by decide) ?_
      refine A.took ?_
      refine A.takeP (i := 10) rfl rfl rfl rfl (by kernel_rfl) (by kernel_rfl) (by kernel_rfl) rfl qD ?_
      refine L.guardF (dj := 103) (c := false) rfl rfl rfl rfl rfl (by decide) ?_
      refine A.took ?_
      refine A.branch (is := [7]) (by kernel_rfl) (by decide) (Each.cons rfl ?_ <| Each.nil) 
      refine L.guardF (dj := 103) (c := false) rfl rfl rfl rfl rfl (by decide) ?_
      refine A.backT rfl qD ?_
      refine A.branch (is := [8]) (by kernel_rfl) (by decide) (Each.cons rfl ?_ <| Each.nil) 
      refine L.guardF (dj := 103) (c := false) rfl rfl rfl rfl rfl (by decide) ?_
      refine A.backT rfl qD ?_
      refine A.takeP (i := 11) rfl rfl rfl rfl (by kernel_rfl) (by kernel_rfl) (by kernel_rfl) rfl qD ?_
      refine L.guardF (dj := 103) (c := false) rfl rfl rfl rfl rfl (by decide) ?_
      refine A.took ?_
      refine A.takeP (i := 12) rfl rfl rfl rfl (by kernel_rfl) (by kernel_rfl) (by kernel_rfl) rfl qD ?_
      refine L.guardF (dj := 103) (c := false) rfl rfl rfl rfl rfl (by decide) ?_
      refine A.took ?_
      refine A.takeP (i := 13) rfl rfl rfl rfl (by kernel_rfl) (by kernel_rfl) (by kernel_rfl) rfl qD ?_
      refine L.guardU (dj := 113) rfl rfl rfl rfl rfl ?_
      refine A.took ?_
      refine A.takeP (i := 14) rfl rfl rfl rfl (by kernel_rfl) (by kernel_rfl) (by kernel_rfl) rfl qD ?_
      refine L.guardU (dj := 113) rfl rfl rfl rfl rfl ?_
      refine A.took ?_
      refine A.takeP (i := 15) rfl rfl rfl rfl (by kernel_rfl) (by kernel_rfl) (by kernel_rfl) rfl qD ?_
      refine L.guardU (dj := 113) rfl rfl rfl rfl rfl ?_
      refine A.took ?_
      refine A.takeP (i := 16) rfl rfl rfl rfl (by kernel_rfl) (by kernel_rfl) (by kernel_rfl) rfl qD ?_
      refine L.guardU (dj := 113) rfl rfl rfl rfl rfl ?_
      refine A.took ?_
      refine A.takeP (i := 17) rfl rfl rfl rfl (by kernel_rfl) (by kernel_rfl) (by kernel_rfl) rfl qD ?_
      refine L.guardU (dj := 113) rfl rfl rfl rfl rfl ?_
      refine A.took ?_
      refine A.takeP (i := 18) rfl rfl rfl rfl (by kernel_rfl) (by kernel_rfl) (by kernel_rfl) rfl qD ?_
      refine L.guardF (dj := 103) (c := false) rfl rfl rfl rfl rfl (by decide) ?_
      refine A.took ?_
      refine A.takeP (i := 19) rfl rfl rfl rfl (by kernel_rfl) (by kernel_rfl) (by kernel_rfl) rfl qD ?_
      refine L.pickF rfl rfl rfl ?_
      refine A.took ?_
      refine A.takeP (i := 20) rfl rfl rfl rfl (by kernel_rfl) (by kernel_rfl) (by kernel_rfl) rfl qD ?_
      refine L.move rfl rfl ?_
      refine A.took ?_
      refine A.takeP (i := 21) rfl rfl rfl rfl (by kernel_rfl) (by kernel_rfl) (by kernel_rfl) rfl qD ?_
      refine L.guardT (dj := 121) rfl rfl rfl ?_
      refine L.move rfl rfl ?_
      refine A.took ?_
      refine A.takeP (i := 22) rfl rfl rfl rfl (by kernel_rfl) (by kernel_rfl) (by kernel_rfl) rfl qD ?_
      refine L.guardT (dj := 121) rfl rfl rfl ?_
      refine L.neI rfl rfl rfl ?_
      refine A.took ?_
      refine A.takeP (i := 23) rfl rfl rfl rfl (by kernel_rfl) (by kernel_rfl) (by kernel_rfl) rfl qD ?_
      refine L.guardT (dj := 121) rfl rfl rfl ?_
      refine L.move rfl rfl ?_
      refine A.took ?_
      refine A.known (t := 124) rfl (show _ = Value.bool true from congrArg Value.bool (decide_eq_true h0)) ?_
      refine A.takeP (i := 24) rfl rfl rfl rfl (by kernel_rfl) (by kernel_rfl) (by kernel_rfl) rfl qD ?_
      refine L.guardT (dj := 124) rfl rfl rfl ?_
      first | refine L.field0 rfl fo81_2 rfl ?_ | refine L.field rfl fo81_2 rfl ?_
      refine A.took ?_
      refine A.takeP (i := 25) rfl rfl rfl rfl (by kernel_rfl) (by kernel_rfl) (by kernel_rfl) rfl qD ?_
      refine L.guardT (dj := 124) rfl rfl rfl ?_
      refine L.load rfl sc9 rfl qC ?_
      refine A.took ?_
      refine A.takeP (i := 26) rfl rfl rfl rfl (by kernel_rfl) (by kernel_rfl) (by kernel_rfl) rfl qD ?_
      refine L.guardT (dj := 124) rfl rfl rfl ?_
      refine L.neS rfl rfl rfl ?_
      refine A.took ?_
      refine A.takeP (i := 27) rfl rfl rfl rfl (by kernel_rfl) (by kernel_rfl) (by kernel_rfl) rfl qD ?_
      refine L.guardT (dj := 121) rfl rfl rfl ?_
      refine L.pickT rfl rfl rfl ?_
      refine A.took ?_
      refine A.takeP (i := 28) rfl rfl rfl rfl (by kernel_rfl) (by kernel_rfl) (by kernel_rfl) rfl qD ?_
      refine L.pickF rfl rfl rfl ?_
      refine A.took ?_
      refine A.done (by kernel_rfl) ?_
      refine T.thenN ?_
      refine T.condF rfl rfl ?_
      refine T.skip ?_
      refine T.thenN ?_
      refine T.seq ?_
      refine T.region ?_
      refine L.loadA rfl ag36 rfl qN ?_
      refine L.move rfl rfl ?_
      refine L.move rfl rfl ?_
      refine L.eqI rfl rfl rfl ?_
      refine L.known (t := 134) (u := .bool true) rfl (congrArg Value.bool (decide_eq_true hS.err)) ?_
      refine L.storeA ag36 rfl rfl qL qO qU qW ?_
      refine L.assign rfl rfl ?_
      refine L.nil ?_
      refine T.thenN ?_
      refine T.ret ?_
      exact T.retAT rfl ag36 rfl qN rfl ⟨⟨R.1, R.2.2.1, B.2.2.2.2, R.2.1, s.sq, s.now⟩, _, _, _, _, _, _, _, _, _, _, _, _, rfl, come_inv hI0 hS, come_five hI0 hr hk2 (fun e1 e2 => htx (hwb.2 ⟨e1, e2⟩)) hS, rfl, rfl⟩ qD qF
end Cv
