/-
  The walks: the document's order of nearness.
-/
import Derived.Test.YtjacegfanhejdaaS19
import Derived.Test.YtjacegfanhejdaaRH20
import Derived.Test.YtjacegfanhejdaaProg
import Derived.KernelRfl
set_option linter.unusedVariables false
set_option linter.unusedSimpArgs false
set_option linter.unusedSectionVars false
set_option maxRecDepth 10000
namespace Cv
open Go Go.Proofs
theorem idF_eq2 {n : Int} : oidF 4 [kb n] = idF n := by unfold idF; rfl
@[reducible] def e9 : List UInt8 → List Value | a => [S a]
def g9 : List UInt8 → Prop | a => a.length ≤ maxLen
theorem el9z {H : Type} {enc : TypeId × Value → H} {W : World} {base : Nat} {sp : Nat → Bool} {held : Bool} {n : Nat} {cs : List Value} {y : DataW H × List MemPlace} (h : DataW.trod enc Try.prog W base sp held n 9 cs = some y) : ∃ z, cs = e9 z ∧ g9 z := by
  obtain ⟨n, rfl, -, hw⟩ := DataW.trod_string Try.underlying9 h
  exact ⟨n.data.toList, rfl, hw⟩
theorem el9 : El Try.prog 9 1 16 := ⟨_, _, rfl, rfl, by kernel_rfl, by kernel_rfl, by kernel_rfl⟩
set_option maxHeartbeats 400000 in
theorem obytes_spec {l : List UInt8} (hl : l.length = 32) : Spec Try.prog 20 [.agg (l.map Y).toArray] [] [] (fun v D' M' => v = S l ∧ D' = [] ∧ M' = []) := by
  refine Spec.intro (n := 5) Try.func20 rfl rfl (by decide) (Nat.le_of_ble_eq_true rfl) rfl (fun _ => qA) (fun _ => qA) ?_
  intro σ D M
  refine T.seq ?_
  refine T.region ?_
  refine L.box rfl rfl rfl (fun b1 => ?_)
  refine L.assign rfl rfl ?_
  refine L.nil ?_
  refine T.toOwn (len := 32) qP (rows := l.map yr) (sz := 1) (yr_flat l) (by simp [hl]) (by simp) ?_
  refine T.ownRsl qP ?_
  refine T.thenN ?_
  refine T.seq ?_
  refine T.region ?_
  refine L.sliceArr rfl Try.underlying27 sz5 rfl Bd.no Bd.no qI qI ?_
  refine L.known (t := 3) (u := .slice (some ⟨b1, 0, none⟩) 32 32) rfl (by first | rfl | simp [cutA, Addr.add]) ?_
  refine L.bytesStr rfl Try.underlying69 Try.underlying5 Try.underlying9 rfl qM ?_
  refine L.assign rfl rfl ?_
  refine L.nil ?_
  refine T.thenN ?_
  refine T.ret ?_
  exact T.ret1 rfl rfl ⟨rfl, rfl, rfl⟩ qD qF
set_option maxHeartbeats 400000 in
theorem rid_spec {n : Int}  : Spec Try.prog 71 [.int .i64 n] [] [] (fun v D' M' => v = S (idF n) ∧ D' = [] ∧ M' = []) := by
  refine Spec.intro (n := 9) Try.func71 rfl rfl (by decide) (Nat.le_of_ble_eq_true rfl) rfl (fun _ => qA) (fun _ => qA) ?_
  intro σ D M
  refine T.seq ?_
  refine T.region ?_
  refine L.assign rfl rfl ?_
  refine L.nil ?_
  refine T.thenN ?_
  refine T.seq ?_
  refine T.region ?_
  refine L.move rfl rfl ?_
  refine L.remI rfl rfl rfl (by decide) ?_
  refine L.convIY rfl Try.underlying3 Try.underlying5 rfl ?_
  rw [kb_tmod]
  refine L.buildSlice rfl bs69 (by decide) (BP.one rfl rfl rfl <| BP.doneE (out := []) rfl) (fun b6 => ?_)
  refine L.toOwn (len := 1) qP (rows := [kb n].map yr) (sz := 1) (by rfl) rfl (by simp) ?_
  refine L.ownRsl qP ?_
  refine L.bytesStr rfl Try.underlying69 Try.underlying5 Try.underlying9 rfl qM ?_
  refine L.callF rfl (evs.cons rfl <| evs.cons rfl <| evs.nil) qD qS (r2of_spec (by simp)) (by rintro u D1 M1 ⟨rfl, rfl, rfl⟩; exact ⟨rfl, _, qA, qF⟩) ?_
  rw [idF_eq2]
  refine L.assign rfl rfl ?_
  refine L.nil ?_
  refine T.thenN ?_
  refine T.ret ?_
  exact T.ret1 rfl rfl ⟨rfl, rfl, rfl⟩ qD qF
set_option maxHeartbeats 400000 in
theorem rsort_spec {a : Option Addr} {len cap : Nat} {g : List UInt8} {xs : List Int} (hg : g.length = 32) (hb : len ≤ 100000) : Spec Try.prog 53 [S g, .slice a len cap] [rsl 1 a len cap (xs.map e3)] [] (fun v D' M' => ∃ (a1 : Option Addr) (c1 : Nat), v = .slice a1 (srtG g xs).length c1 ∧ D' = [] ∧ M' = [own 1 3 a1 (srtG g xs).length c1 ((srtG g xs).map e3)]) := by
  refine Spec.intro (n := 85) Try.func53 rfl rfl (by decide) (Nat.le_of_ble_eq_true rfl) rfl (fun _ => qA) (fun _ => qA) ?_
  intro σ D M
  refine T.rslLen2 (rows := xs.map e3) qM (fun hl hcp => ?_)
  rw [List.length_map] at hl
  subst hl
  refine T.seq ?_
  refine T.region ?_
  refine L.assign rfl rfl ?_
  refine L.nil ?_
  refine T.thenN ?_
  refine T.seq ?_
  refine T.region ?_
  refine L.buildSlice rfl bs22 (by decide) (BP.doneE (out := []) rfl) (fun b15 => ?_)
  refine L.toOwn (len := 0) qP (rows := ([] : List Int).map e3) (sz := 1) (by rfl) rfl (by simp) ?_
  refine L.assign rfl rfl ?_
  refine L.nil ?_
  refine T.thenN ?_
  refine T.seq ?_
  refine T.region ?_
  refine L.buildSlice rfl bs101 (by decide) (BP.doneE (out := []) rfl) (fun b16 => ?_)
  refine L.toOwn (len := 0) qP (rows := ([] : List Int).map (kr g)) (sz := 1) (by rfl) rfl (by simp) ?_
  refine L.assign rfl rfl ?_
  refine L.nil ?_
  refine T.thenN ?_
  refine T.seq ?_
  refine T.seq ?_
  refine T.region ?_
  refine L.move rfl rfl ?_
  refine L.lenSl rfl Try.underlying22 rfl ?_
  refine L.move rfl rfl ?_
  refine L.nil ?_
  refine T.thenN ?_
  refine T.block ?_
  refine T.eqv qP (show own 1 3 (some ⟨b15, 0, none⟩) 0 0 (([] : List Int).map e3) = own 1 3 (some ⟨b15, 0, none⟩) (sortR (cG g) yes xs 0).length 0 ((sortR (cG g) yes xs 0).map e3) from rfl) ?_
  refine T.eqv qP (show own 1 9 (some ⟨b16, 0, none⟩) 0 0 (([] : List Int).map (kr g)) = own 1 9 (some ⟨b16, 0, none⟩) (sortR (cG g) yes xs 0).length 0 ((sortR (cG g) yes xs 0).map (kr g)) from rfl) ?_
  refine T.loop (fun K' D' M' μ => ∃ (k : Nat) (a1 : Option Addr) (c1 : Nat) (a2 : Option Addr) (c2 : Nat), (k ≤ xs.length) ∧ K' = [(19, .int .i64 k), (5, .slice a1 (sortR (cG g) yes xs k).length c1), (6, .slice a2 (sortR (cG g) yes xs k).length c2)] ∧ D' = [] ∧ M' = [own 1 3 a1 (sortR (cG g) yes xs k).length c1 (((sortR (cG g) yes xs k)).map e3), own 1 9 a2 (sortR (cG g) yes xs k).length c2 (((sortR (cG g) yes xs k)).map (kr g))] ∧ μ = xs.length - k) (.cons (t := 0) rfl <| .cons (t := 17) rfl <| .cons (t := 18) rfl <| SubK.nil _) (⟨0, _, _, _, _, Nat.zero_le _, rfl, rfl, rfl, rfl⟩) (.cons (t := 19) rfl <| .cons (t := 5) rfl <| .cons (t := 6) rfl <| SubK.nil _) qD qS ?_
  rintro K1 D1 M1 m1 ⟨k, a1, c1, a2, c2, hk, rfl, rfl, rfl, rfl⟩
  refine T.norm3 qA qA qA ?_
  have hle := sortR_le (c := cG g) (may := yes) (all := xs) (k := k) (by omega)
  refine T.seq ?_
  refine T.region ?_
  refine L.ltI rfl rfl rfl ?_
  refine L.nil ?_
  refine T.thenN ?_
  refine T.seq ?_
  refine T.cond rfl (fun h20 => ?_) (fun h20 => ?_)
  · try simp only [decide_eq_true_eq, decide_eq_false_iff_not, Bool.not_eq_true', Bool.not_eq_false', Bool.and_eq_true, Bool.or_eq_true] at h20
    refine T.skip ?_
    refine T.thenN ?_
    refine T.seq ?_
    refine T.block ?_
    refine T.seq ?_
    refine T.region ?_
    have hgk : xs[k]? = some (gd xs k) := gd_get (by omega)
    refine L.idx (i := k) rfl Try.underlying22 sz3 rfl rfl qM (by first | rfl | omega | (simp; done)) qG (fun b21 o21 => ?_)
    refine L.load rfl sc3 rfl qC ?_
    refine L.assign rfl rfl ?_
    refine L.nil ?_
    obtain ⟨nn, hnn⟩ : ∃ nn, nn = gd xs k := ⟨_, rfl⟩
    rw [← hnn] at hgk ⊢
    have hxl : (xorL g (idF nn)).length = 32 := by rw [xorL_len]; exact hg
    refine T.thenN ?_
    refine T.seq ?_
    refine T.cutC (fun K' D' M' => K' = [(9, S (keyS g nn))] ∧ D' = [] ∧ M' = []) (M0 := []) (.cons (t := 0) rfl <| .cons (t := 5) rfl <| .cons (t := 6) rfl <| .cons (t := 8) rfl <| .cons (t := 17) rfl <| .cons (t := 18) rfl <| .cons (t := 19) rfl <| SubK.nil _) qS ?_ ?_
    · skip
      refine T.regionA (clsL [1, 1, 2, 2, 1, 1, 2, 2, 1, 1]) (by kernel_rfl) ?_
      refine A.takeP (i := 0) rfl rfl rfl rfl (by kernel_rfl) (by kernel_rfl) (by kernel_rfl) rfl qD ?_
      refine L.move rfl rfl ?_
      refine A.took ?_
      refine A.takeP (i := 1) rfl rfl rfl rfl (by kernel_rfl) (by kernel_rfl) (by kernel_rfl) rfl qD ?_
      refine L.move rfl rfl ?_
      refine A.took ?_
      refine A.takeP (i := 4) rfl rfl rfl rfl (by kernel_rfl) (by kernel_rfl) (by kernel_rfl) rfl qD ?_
      refine L.move rfl rfl ?_
      refine A.took ?_
      refine A.takeP (i := 5) rfl rfl rfl rfl (by kernel_rfl) (by kernel_rfl) (by kernel_rfl) rfl qD ?_
      refine L.convIY rfl Try.underlying3 Try.underlying5 rfl ?_
      rw [show UInt8.ofNat (nn % 256).toNat = kb nn from rfl]
      refine A.took ?_
      refine A.branch (is := [2, 6]) (by kernel_rfl) (by decide) (Each.cons rfl ?_ <| Each.cons rfl ?_ <| Each.nil) 
      · skip
        refine L.callF rfl (evs.cons rfl <| evs.nil) qD qS (rid_spec) (by rintro u D1 M1 ⟨rfl, rfl, rfl⟩; exact ⟨rfl, _, qA, qF⟩) ?_
        refine A.backT rfl qD ?_
        refine A.branch (is := [3, 6]) (by kernel_rfl) (by decide) (Each.cons rfl ?_ <| Each.cons rfl ?_ <| Each.nil) 
        · skip
          refine L.callF rfl (evs.cons rfl <| evs.cons rfl <| evs.nil) qD qS (rxor_spec hg (idF_len _)) (by rintro u D1 M1 ⟨rfl, rfl, rfl⟩; exact ⟨rfl, _, qA, qF⟩) ?_
          refine A.backT rfl qD ?_
          refine A.branch (is := [6]) (by kernel_rfl) (by decide) (Each.cons rfl ?_ <| Each.nil) 
          refine L.buildSlice rfl bs69 (by decide) (BP.one rfl rfl rfl <| BP.doneE (out := []) rfl) (fun b29 => ?_)
          refine L.toOwn (len := 1) qP (rows := [kb nn].map yr) (sz := 1) (by rfl) rfl (by simp) ?_
          refine L.ownRsl qP ?_
          refine A.backT rfl qD ?_
          refine A.branch (is := [7]) (by kernel_rfl) (by decide) (Each.cons rfl ?_ <| Each.nil) 
          refine L.bytesStr rfl Try.underlying69 Try.underlying5 Try.underlying9 rfl qM ?_
          refine A.backT rfl qD ?_
          refine A.takeP (i := 8) rfl rfl rfl rfl (by kernel_rfl) (by kernel_rfl) (by kernel_rfl) rfl qD ?_
          refine L.addS rfl rfl rfl qI ?_
          refine A.took ?_
          refine A.takeP (i := 9) rfl rfl rfl rfl (by kernel_rfl) (by kernel_rfl) (by kernel_rfl) rfl qD ?_
          refine L.assign rfl rfl ?_
          refine A.took ?_
          refine A.done (by kernel_rfl) ?_
          refine T.known (t := 9) (u := S (keyS g nn)) rfl rfl ?_
          refine T.thenN ?_
          exact T.toJoin ⟨rfl, rfl, rfl⟩ (.cons (t := 9) rfl <| SubK.nil _) (.cons (t := 0) rfl <| .cons (t := 5) rfl <| .cons (t := 6) rfl <| .cons (t := 8) rfl <| .cons (t := 17) rfl <| .cons (t := 18) rfl <| .cons (t := 19) rfl <| SubK.nil _) qD qD qF
        · skip
          refine L.buildSlice rfl bs69 (by decide) (BP.one rfl rfl rfl <| BP.doneE (out := []) rfl) (fun b29 => ?_)
          refine L.toOwn (len := 1) qP (rows := [kb nn].map yr) (sz := 1) (by rfl) rfl (by simp) ?_
          refine L.ownRsl qP ?_
          refine A.backT rfl qD ?_
          refine A.branch (is := [3, 7]) (by kernel_rfl) (by decide) (Each.cons rfl ?_ <| Each.cons rfl ?_ <| Each.nil) 
          · skip
            refine L.callF rfl (evs.cons rfl <| evs.cons rfl <| evs.nil) qD qS (rxor_spec hg (idF_len _)) (by rintro u D1 M1 ⟨rfl, rfl, rfl⟩; exact ⟨rfl, _, qA, qF⟩) ?_
            refine A.backT rfl qD ?_
            refine A.branch (is := [7]) (by kernel_rfl) (by decide) (Each.cons rfl ?_ <| Each.nil) 
            refine L.bytesStr rfl Try.underlying69 Try.underlying5 Try.underlying9 rfl qM ?_
            refine A.backT rfl qD ?_
            refine A.takeP (i := 8) rfl rfl rfl rfl (by kernel_rfl) (by kernel_rfl) (by kernel_rfl) rfl qD ?_
            refine L.addS rfl rfl rfl qI ?_
            refine A.took ?_
            refine A.takeP (i := 9) rfl rfl rfl rfl (by kernel_rfl) (by kernel_rfl) (by kernel_rfl) rfl qD ?_
            refine L.assign rfl rfl ?_
            refine A.took ?_
            refine A.done (by kernel_rfl) ?_
            refine T.known (t := 9) (u := S (keyS g nn)) rfl rfl ?_
            refine T.thenN ?_
            exact T.toJoin ⟨rfl, rfl, rfl⟩ (.cons (t := 9) rfl <| SubK.nil _) (.cons (t := 0) rfl <| .cons (t := 5) rfl <| .cons (t := 6) rfl <| .cons (t := 8) rfl <| .cons (t := 17) rfl <| .cons (t := 18) rfl <| .cons (t := 19) rfl <| SubK.nil _) qD qD qF
          · skip
            refine L.bytesStr rfl Try.underlying69 Try.underlying5 Try.underlying9 rfl qM ?_
            refine A.backT rfl qD ?_
            refine A.branch (is := [3]) (by kernel_rfl) (by decide) (Each.cons rfl ?_ <| Each.nil) 
            refine L.callF rfl (evs.cons rfl <| evs.cons rfl <| evs.nil) qD qS (rxor_spec hg (idF_len _)) (by rintro u D1 M1 ⟨rfl, rfl, rfl⟩; exact ⟨rfl, _, qA, qF⟩) ?_
            refine A.backT rfl qD ?_
            refine A.takeP (i := 8) rfl rfl rfl rfl (by kernel_rfl) (by kernel_rfl) (by kernel_rfl) rfl qD ?_
            refine L.addS rfl rfl rfl qI ?_
            refine A.took ?_
            refine A.takeP (i := 9) rfl rfl rfl rfl (by kernel_rfl) (by kernel_rfl) (by kernel_rfl) rfl qD ?_
            refine L.assign rfl rfl ?_
            refine A.took ?_
            refine A.done (by kernel_rfl) ?_
            refine T.known (t := 9) (u := S (keyS g nn)) rfl rfl ?_
            refine T.thenN ?_
            exact T.toJoin ⟨rfl, rfl, rfl⟩ (.cons (t := 9) rfl <| SubK.nil _) (.cons (t := 0) rfl <| .cons (t := 5) rfl <| .cons (t := 6) rfl <| .cons (t := 8) rfl <| .cons (t := 17) rfl <| .cons (t := 18) rfl <| .cons (t := 19) rfl <| SubK.nil _) qD qD qF
      · skip
        refine L.buildSlice rfl bs69 (by decide) (BP.one rfl rfl rfl <| BP.doneE (out := []) rfl) (fun b29 => ?_)
        refine L.toOwn (len := 1) qP (rows := [kb nn].map yr) (sz := 1) (by rfl) rfl (by simp) ?_
        refine L.ownRsl qP ?_
        refine A.backT rfl qD ?_
        refine A.branch (is := [2, 7]) (by kernel_rfl) (by decide) (Each.cons rfl ?_ <| Each.cons rfl ?_ <| Each.nil) 
        · skip
          refine L.callF rfl (evs.cons rfl <| evs.nil) qD qS (rid_spec) (by rintro u D1 M1 ⟨rfl, rfl, rfl⟩; exact ⟨rfl, _, qA, qF⟩) ?_
          refine A.backT rfl qD ?_
          refine A.branch (is := [3, 7]) (by kernel_rfl) (by decide) (Each.cons rfl ?_ <| Each.cons rfl ?_ <| Each.nil) 
          · skip
            refine L.callF rfl (evs.cons rfl <| evs.cons rfl <| evs.nil) qD qS (rxor_spec hg (idF_len _)) (by rintro u D1 M1 ⟨rfl, rfl, rfl⟩; exact ⟨rfl, _, qA, qF⟩) ?_
            refine A.backT rfl qD ?_
            refine A.branch (is := [7]) (by kernel_rfl) (by decide) (Each.cons rfl ?_ <| Each.nil) 
            refine L.bytesStr rfl Try.underlying69 Try.underlying5 Try.underlying9 rfl qM ?_
            refine A.backT rfl qD ?_
            refine A.takeP (i := 8) rfl rfl rfl rfl (by kernel_rfl) (by kernel_rfl) (by kernel_rfl) rfl qD ?_
            refine L.addS rfl rfl rfl qI ?_
            refine A.took ?_
            refine A.takeP (i := 9) rfl rfl rfl rfl (by kernel_rfl) (by kernel_rfl) (by kernel_rfl) rfl qD ?_
            refine L.assign rfl rfl ?_
            refine A.took ?_
            refine A.done (by kernel_rfl) ?_
            refine T.known (t := 9) (u := S (keyS g nn)) rfl rfl ?_
            refine T.thenN ?_
            exact T.toJoin ⟨rfl, rfl, rfl⟩ (.cons (t := 9) rfl <| SubK.nil _) (.cons (t := 0) rfl <| .cons (t := 5) rfl <| .cons (t := 6) rfl <| .cons (t := 8) rfl <| .cons (t := 17) rfl <| .cons (t := 18) rfl <| .cons (t := 19) rfl <| SubK.nil _) qD qD qF
          · skip
            refine L.bytesStr rfl Try.underlying69 Try.underlying5 Try.underlying9 rfl qM ?_
            refine A.backT rfl qD ?_
            refine A.branch (is := [3]) (by kernel_rfl) (by decide) (Each.cons rfl ?_ <| Each.nil) 
            refine L.callF rfl (evs.cons rfl <| evs.cons rfl <| evs.nil) qD qS (rxor_spec hg (idF_len _)) (by rintro u D1 M1 ⟨rfl, rfl, rfl⟩; exact ⟨rfl, _, qA, qF⟩) ?_
            refine A.backT rfl qD ?_
            refine A.takeP (i := 8) rfl rfl rfl rfl (by kernel_rfl) (by kernel_rfl) (by kernel_rfl) rfl qD ?_
            refine L.addS rfl rfl rfl qI ?_
            refine A.took ?_
            refine A.takeP (i := 9) rfl rfl rfl rfl (by kernel_rfl) (by kernel_rfl) (by kernel_rfl) rfl qD ?_
            refine L.assign rfl rfl ?_
            refine A.took ?_
            refine A.done (by kernel_rfl) ?_
            refine T.known (t := 9) (u := S (keyS g nn)) rfl rfl ?_
            refine T.thenN ?_
            exact T.toJoin ⟨rfl, rfl, rfl⟩ (.cons (t := 9) rfl <| SubK.nil _) (.cons (t := 0) rfl <| .cons (t := 5) rfl <| .cons (t := 6) rfl <| .cons (t := 8) rfl <| .cons (t := 17) rfl <| .cons (t := 18) rfl <| .cons (t := 19) rfl <| SubK.nil _) qD qD qF
        · skip
          refine L.bytesStr rfl Try.underlying69 Try.underlying5 Try.underlying9 rfl qM ?_
          refine A.backT rfl qD ?_
          refine A.branch (is := [2]) (by kernel_rfl) (by decide) (Each.cons rfl ?_ <| Each.nil) 
          refine L.callF rfl (evs.cons rfl <| evs.nil) qD qS (rid_spec) (by rintro u D1 M1 ⟨rfl, rfl, rfl⟩; exact ⟨rfl, _, qA, qF⟩) ?_
          refine A.backT rfl qD ?_
          refine A.branch (is := [3]) (by kernel_rfl) (by decide) (Each.cons rfl ?_ <| Each.nil) 
          refine L.callF rfl (evs.cons rfl <| evs.cons rfl <| evs.nil) qD qS (rxor_spec hg (idF_len _)) (by rintro u D1 M1 ⟨rfl, rfl, rfl⟩; exact ⟨rfl, _, qA, qF⟩) ?_
          refine A.backT rfl qD ?_
          refine A.takeP (i := 8) rfl rfl rfl rfl (by kernel_rfl) (by kernel_rfl) (by kernel_rfl) rfl qD ?_
          refine L.addS rfl rfl rfl qI ?_
          refine A.took ?_
          refine A.takeP (i := 9) rfl rfl rfl rfl (by kernel_rfl) (by kernel_rfl) (by kernel_rfl) rfl qD ?_
          refine L.assign rfl rfl ?_
          refine A.took ?_
          refine A.done (by kernel_rfl) ?_
          refine T.known (t := 9) (u := S (keyS g nn)) rfl rfl ?_
          refine T.thenN ?_
          exact T.toJoin ⟨rfl, rfl, rfl⟩ (.cons (t := 9) rfl <| SubK.nil _) (.cons (t := 0) rfl <| .cons (t := 5) rfl <| .cons (t := 6) rfl <| .cons (t := 8) rfl <| .cons (t := 17) rfl <| .cons (t := 18) rfl <| .cons (t := 19) rfl <| SubK.nil _) qD qD qF
    rintro _ _ _ ⟨rfl, rfl, rfl⟩
    refine T.norm3 qA qA qA ?_
    refine T.thenN ?_
    refine T.seq ?_
    refine T.region ?_
    refine L.buildSlice rfl bs22 (by decide) (BP.doneE (out := []) rfl) (fun b32 => ?_)
    refine L.toOwn (len := 0) qP (rows := ([] : List Int).map e3) (sz := 1) (by rfl) rfl (by simp) ?_
    refine L.assign rfl rfl ?_
    refine L.nil ?_
    refine T.thenN ?_
    refine T.seq ?_
    refine T.region ?_
    refine L.buildSlice rfl bs101 (by decide) (BP.doneE (out := []) rfl) (fun b33 => ?_)
    refine L.toOwn (len := 0) qP (rows := ([] : List Int).map (kr g)) (sz := 1) (by rfl) rfl (by simp) ?_
    refine L.assign rfl rfl ?_
    refine L.nil ?_
    refine T.thenN ?_
    refine T.seq ?_
    refine T.region ?_
    refine L.assign rfl rfl ?_
    refine L.nil ?_
    refine T.thenN ?_
    refine T.seq ?_
    refine T.seq ?_
    refine T.region ?_
    refine L.move rfl rfl ?_
    refine L.lenSl rfl Try.underlying22 rfl ?_
    refine L.move rfl rfl ?_
    refine L.nil ?_
    refine T.thenN ?_
    refine T.block ?_
    refine T.eqv qP (show own 1 3 (some ⟨b32, 0, none⟩) 0 0 (([] : List Int).map e3) = own 1 3 (some ⟨b32, 0, none⟩) ([] : List Int).length 0 (([] : List Int).map e3) from rfl) ?_
    refine T.eqv qP (show own 1 9 (some ⟨b33, 0, none⟩) 0 0 (([] : List Int).map (kr g)) = own 1 9 (some ⟨b33, 0, none⟩) ([] : List Int).length 0 (([] : List Int).map (kr g)) from rfl) ?_
    refine T.loop (fun K' D' M' μ => ∃ (j : Nat) (nx : List Int) (dn : Bool) (a3 : Option Addr) (c3 : Nat) (a4 : Option Addr) (c4 : Nat), ((j ≤ (sortR (cG g) yes xs k).length ∧ nx.length ≤ 2 * j) ∧ InsI (cG g) nn (sortR (cG g) yes xs k) nx dn j) ∧ K' = [(36, .int .i64 j), (10, .slice a3 nx.length c3), (11, .slice a4 nx.length c4), (12, .bool dn)] ∧ D' = [] ∧ M' = [own 1 3 a3 nx.length c3 ((nx).map e3), own 1 9 a4 nx.length c4 ((nx).map (kr g))] ∧ μ = (sortR (cG g) yes xs k).length - j) (.cons (t := 0) rfl <| .cons (t := 6) rfl <| .cons (t := 8) rfl <| .cons (t := 9) rfl <| .cons (t := 17) rfl <| .cons (t := 18) rfl <| .cons (t := 19) rfl <| .cons (t := 34) rfl <| .cons (t := 35) rfl <| SubK.nil _) (⟨0, [], false, _, _, _, _, ⟨⟨by omega, by simp⟩, insI_0⟩, rfl, rfl, rfl, rfl⟩) (.cons (t := 36) rfl <| .cons (t := 10) rfl <| .cons (t := 11) rfl <| .cons (t := 12) rfl <| SubK.nil _) qD qS ?_
    rintro K1 D1 M1 m1 ⟨j, nx, dn, a3, c3, a4, c4, ⟨⟨hj, hnl⟩, hI⟩, rfl, rfl, rfl, rfl⟩
    refine T.norm3 qA qA qA ?_
    refine T.seq ?_
    refine T.region ?_
    refine L.ltI rfl rfl rfl ?_
    refine L.nil ?_
    refine T.thenN ?_
    refine T.seq ?_
    refine T.cond rfl (fun h37 => ?_) (fun h37 => ?_)
    · try simp only [decide_eq_true_eq, decide_eq_false_iff_not, Bool.not_eq_true', Bool.not_eq_false', Bool.and_eq_true, Bool.or_eq_true] at h37
      refine T.ownNe (a := a1) qM (by omega) (fun ob oo ha => ?_)
      subst ha
      refine T.ownNe (a := a2) qM (by omega) (fun kb_ ko ha => ?_)
      subst ha
      have hx : (sortR (cG g) yes xs k)[j]? = some (gd (sortR (cG g) yes xs k) j) := gd_get (by omega)
      obtain ⟨x, hxx⟩ : ∃ x, x = gd (sortR (cG g) yes xs k) j := ⟨_, rfl⟩
      rw [← hxx] at hx
      refine T.skip ?_
      refine T.thenN ?_
      refine T.seq ?_
      refine T.block ?_
      refine T.seq ?_
      refine T.region ?_
      refine L.move rfl rfl ?_
      refine L.idxG (i := j) rfl Try.underlying22 sz3 rfl rfl (by first | rfl | omega | (simp; done)) qI ?_
      refine L.load rfl sc3 rfl qC ?_
      refine L.assign rfl rfl ?_
      refine L.assign rfl rfl ?_
      refine L.nil ?_
      refine T.thenN ?_
      refine T.seq ?_
      refine T.seq ?_
      refine T.cutC (fun K' D' M' => ∃ (w : Bool), (w = true ↔ (dn = false ∧ cG g nn x = true)) ∧ K' = [(50, .bool w)] ∧ D' = [] ∧ M' = []) (M0 := []) (.cons (t := 0) rfl <| .cons (t := 6) rfl <| .cons (t := 8) rfl <| .cons (t := 9) rfl <| .cons (t := 10) rfl <| .cons (t := 11) rfl <| .cons (t := 12) rfl <| .cons (t := 13) rfl <| .cons (t := 14) rfl <| .cons (t := 17) rfl <| .cons (t := 18) rfl <| .cons (t := 19) rfl <| .cons (t := 34) rfl <| .cons (t := 35) rfl <| .cons (t := 36) rfl <| SubK.nil _) qS ?_ ?_
      · skip
        refine T.region ?_
        refine L.move rfl rfl ?_
        refine L.notB rfl rfl ?_
        refine L.move rfl rfl ?_
        refine L.part (t := 43) rfl (fun h1 => ?_) (fun h1 => ?_)
        · try simp only [decide_eq_true_eq, decide_eq_false_iff_not, Bool.not_eq_true', Bool.not_eq_false', Bool.and_eq_true, Bool.or_eq_true] at h1
          have hdn : dn = false := by simpa using h1
          refine L.guardT (dj := 43) rfl rfl rfl ?_
          refine L.move rfl rfl ?_
          refine L.guardT (dj := 43) rfl rfl rfl ?_
          refine L.move rfl rfl ?_
          refine L.guardT (dj := 43) rfl rfl rfl ?_
          refine L.move rfl rfl ?_
          refine L.guardT (dj := 43) rfl rfl rfl ?_
          refine L.idxG (i := j) rfl Try.underlying101 sz9 rfl rfl (by first | rfl | omega | (simp; done)) qI ?_
          refine L.guardT (dj := 43) rfl rfl rfl ?_
          refine L.load rfl sc9 rfl qC ?_
          refine L.guardT (dj := 43) rfl rfl rfl ?_
          refine L.ltS rfl rfl rfl ?_
          refine L.pickT rfl rfl rfl ?_
          refine L.nil ?_
          refine T.thenN ?_
          exact T.toJoin ⟨_, (by first | (simp [hdn, cG]; done) | (simp [hdn]; done)), rfl, rfl, rfl⟩ (.cons (t := 50) rfl <| SubK.nil _) (.cons (t := 0) rfl <| .cons (t := 6) rfl <| .cons (t := 8) rfl <| .cons (t := 9) rfl <| .cons (t := 10) rfl <| .cons (t := 11) rfl <| .cons (t := 12) rfl <| .cons (t := 13) rfl <| .cons (t := 14) rfl <| .cons (t := 17) rfl <| .cons (t := 18) rfl <| .cons (t := 19) rfl <| .cons (t := 34) rfl <| .cons (t := 35) rfl <| .cons (t := 36) rfl <| SubK.nil _) qD qD qF
        · try simp only [decide_eq_true_eq, decide_eq_false_iff_not, Bool.not_eq_true', Bool.not_eq_false', Bool.and_eq_true, Bool.or_eq_true] at h1
          have hdn : dn = true := by simpa using h1
          refine L.guardF (dj := 43) (c := false) rfl rfl rfl rfl rfl (by decide) ?_
          refine L.guardF (dj := 43) (c := false) rfl rfl rfl rfl rfl (by decide) ?_
          refine L.guardF (dj := 43) (c := false) rfl rfl rfl rfl rfl (by decide) ?_
          refine L.guardF (dj := 43) (c := false) rfl rfl rfl rfl rfl (by decide) ?_
          refine L.guardF (dj := 43) (c := false) rfl rfl rfl rfl rfl (by decide) ?_
          refine L.guardF (dj := 43) (c := false) rfl rfl rfl rfl rfl (by decide) ?_
          refine L.pickF rfl rfl rfl ?_
          refine L.nil ?_
          refine T.thenN ?_
          exact T.toJoin ⟨_, (by first | (simp [hdn, cG]; done) | (simp [hdn]; done)), rfl, rfl, rfl⟩ (.cons (t := 50) rfl <| SubK.nil _) (.cons (t := 0) rfl <| .cons (t := 6) rfl <| .cons (t := 8) rfl <| .cons (t := 9) rfl <| .cons (t := 10) rfl <| .cons (t := 11) rfl <| .cons (t := 12) rfl <| .cons (t := 13) rfl <| .cons (t := 14) rfl <| .cons (t := 17) rfl <| .cons (t := 18) rfl <| .cons (t := 19) rfl <| .cons (t := 34) rfl <| .cons (t := 35) rfl <| .cons (t := 36) rfl <| SubK.nil _) qD qD qF
      rintro _ _ _ ⟨w, hw, rfl, rfl, rfl⟩
      refine T.norm3 qA qA qA ?_
      refine T.thenN ?_
      refine T.cutC (fun K' D' M' => ∃ (nx2 : List Int) (dn2 : Bool) (a5 : Option Addr) (c5 : Nat) (a6 : Option Addr) (c6 : Nat), (InsI (cG g) nn (sortR (cG g) yes xs k) (nx2 ++ [x]) dn2 (j + 1) ∧ nx2.length ≤ nx.length + 1) ∧ K' = [(10, .slice a5 nx2.length c5), (11, .slice a6 nx2.length c6), (12, .bool dn2)] ∧ D' = [] ∧ M' = [own 1 3 a5 nx2.length c5 ((nx2).map e3), own 1 9 a6 nx2.length c6 ((nx2).map (kr g))]) (M0 := [own 1 3 a3 nx.length c3 ((nx).map e3), own 1 9 a4 nx.length c4 ((nx).map (kr g))]) (.cons (t := 0) rfl <| .cons (t := 6) rfl <| .cons (t := 8) rfl <| .cons (t := 9) rfl <| .cons (t := 13) rfl <| .cons (t := 14) rfl <| .cons (t := 17) rfl <| .cons (t := 18) rfl <| .cons (t := 19) rfl <| .cons (t := 34) rfl <| .cons (t := 35) rfl <| .cons (t := 36) rfl <| SubK.nil _) qS ?_ ?_
      · skip
        refine T.cond rfl (fun h50 => ?_) (fun h50 => ?_)
        · try simp only [decide_eq_true_eq, decide_eq_false_iff_not, Bool.not_eq_true', Bool.not_eq_false', Bool.and_eq_true, Bool.or_eq_true] at h50
          have hyes := hw.1 h50
          refine T.seq ?_
          refine T.region ?_
          refine L.move rfl rfl ?_
          refine L.move rfl rfl ?_
          refine L.buildSlice rfl bs22 (by decide) (BP.one rfl rfl rfl <| BP.doneE (out := []) rfl) (fun b53 => ?_)
          refine L.append1 rfl Try.underlying22 el3 rfl rfl qP qM rfl qO1 qI qI (fun a54 c54 => ?_)
          rw [show (nx).length + 1 = (nx ++ [nn]).length from by simp]
          refine L.assign rfl rfl ?_
          refine L.nil ?_
          refine T.ownEq a54 ((nx ++ [nn]).map e3) qP (by simp) ?_
          refine T.thenN ?_
          refine T.seq ?_
          refine T.region ?_
          refine L.move rfl rfl ?_
          refine L.move rfl rfl ?_
          refine L.buildSlice rfl bs101 (by decide) (BP.one rfl rfl rfl <| BP.doneE (out := []) rfl) (fun b57 => ?_)
          refine L.append1 rfl Try.underlying101 el9 rfl rfl qP qM rfl qO1 qI qI (fun a58 c58 => ?_)
          rw [show (nx).length + 1 = (nx ++ [nn]).length from by simp]
          refine L.assign rfl rfl ?_
          refine L.nil ?_
          refine T.ownEq a58 ((nx ++ [nn]).map (kr g)) qP (by simp) ?_
          refine T.thenN ?_
          refine T.region ?_
          refine L.assign rfl rfl ?_
          refine L.nil ?_
          refine T.thenN ?_
          exact T.toJoin ⟨nx ++ [nn], true, _, _, _, _, ⟨insI_hit hI hyes.1 hx hyes.2, by simp⟩, rfl, rfl, rfl⟩ (.cons (t := 10) rfl <| .cons (t := 11) rfl <| .cons (t := 12) rfl <| SubK.nil _) (.cons (t := 0) rfl <| .cons (t := 6) rfl <| .cons (t := 8) rfl <| .cons (t := 9) rfl <| .cons (t := 13) rfl <| .cons (t := 14) rfl <| .cons (t := 17) rfl <| .cons (t := 18) rfl <| .cons (t := 19) rfl <| .cons (t := 34) rfl <| .cons (t := 35) rfl <| .cons (t := 36) rfl <| SubK.nil _) qD qD qF
        · try simp only [decide_eq_true_eq, decide_eq_false_iff_not, Bool.not_eq_true', Bool.not_eq_false', Bool.and_eq_true, Bool.or_eq_true] at h50
          have hno : dn = true ∨ cG g nn x = false := by
            cases hdn : dn with
            | true => exact .inl rfl
            | false =>
              right
              cases hc : cG g nn x with
              | false => rfl
              | true => have := hw.2 ⟨hdn, hc⟩; rw [h50] at this; cases this
          refine T.skip ?_
          refine T.thenN ?_
          exact T.toJoin ⟨nx, dn, _, _, _, _, ⟨insI_no hI hx hno, by omega⟩, rfl, rfl, rfl⟩ (.cons (t := 10) rfl <| .cons (t := 11) rfl <| .cons (t := 12) rfl <| SubK.nil _) (.cons (t := 0) rfl <| .cons (t := 6) rfl <| .cons (t := 8) rfl <| .cons (t := 9) rfl <| .cons (t := 13) rfl <| .cons (t := 14) rfl <| .cons (t := 17) rfl <| .cons (t := 18) rfl <| .cons (t := 19) rfl <| .cons (t := 34) rfl <| .cons (t := 35) rfl <| .cons (t := 36) rfl <| SubK.nil _) qD qD qF
      rintro _ _ _ ⟨nx2, dn2, a5, c5, a6, c6, ⟨hI2, hl2⟩, rfl, rfl, rfl⟩
      refine T.norm3 qA qA qA ?_
      refine T.thenN ?_
      refine T.seq ?_
      refine T.region ?_
      refine L.move rfl rfl ?_
      refine L.move rfl rfl ?_
      refine L.buildSlice rfl bs22 (by decide) (BP.one rfl rfl rfl <| BP.doneE (out := []) rfl) (fun b61 => ?_)
      refine L.append1 rfl Try.underlying22 el3 rfl rfl qP qM rfl qO1 qI qI (fun a62 c62 => ?_)
      rw [show (nx2).length + 1 = (nx2 ++ [x]).length from by simp]
      refine L.assign rfl rfl ?_
      refine L.nil ?_
      refine T.ownEq a62 ((nx2 ++ [x]).map e3) qP (by simp) ?_
      refine T.thenN ?_
      refine T.region ?_
      refine L.move rfl rfl ?_
      refine L.move rfl rfl ?_
      refine L.move rfl rfl ?_
      refine L.idxG (i := j) rfl Try.underlying101 sz9 rfl rfl (by first | rfl | omega | (simp; done)) qI ?_
      refine L.load rfl sc9 rfl qC ?_
      refine L.buildSlice rfl bs101 (by decide) (BP.one rfl rfl rfl <| BP.doneE (out := []) rfl) (fun b68 => ?_)
      refine L.append1 rfl Try.underlying101 el9 rfl rfl qP qM rfl qO1 qI qI (fun a69 c69 => ?_)
      rw [show (nx2).length + 1 = (nx2 ++ [x]).length from by simp]
      refine L.assign rfl rfl ?_
      refine L.nil ?_
      refine T.ownEq a69 ((nx2 ++ [x]).map (kr g)) qP (by simp) ?_
      refine T.blkN ?_
      refine T.thenN ?_
      refine T.region ?_
      refine L.addN rfl rfl rfl (by omega) ?_
      refine L.move rfl rfl ?_
      refine L.nil ?_
      refine T.thenN ?_
      exact T.back ⟨j + 1, nx2 ++ [x], dn2, _, _, _, _, ⟨⟨by omega, by simp; omega⟩, hI2⟩, rfl, rfl, rfl, rfl⟩ qI (.cons (t := 36) rfl <| .cons (t := 10) rfl <| .cons (t := 11) rfl <| .cons (t := 12) rfl <| SubK.nil _) (.cons (t := 0) rfl <| .cons (t := 6) rfl <| .cons (t := 8) rfl <| .cons (t := 9) rfl <| .cons (t := 17) rfl <| .cons (t := 18) rfl <| .cons (t := 19) rfl <| .cons (t := 34) rfl <| .cons (t := 35) rfl <| SubK.nil _) qD qD qF
    · try simp only [decide_eq_true_eq, decide_eq_false_iff_not, Bool.not_eq_true', Bool.not_eq_false', Bool.and_eq_true, Bool.or_eq_true] at h37
      obtain rfl : j = (sortR (cG g) yes xs k).length := by omega
      refine T.exit ?_
      refine T.thenX ?_
      refine T.thenX ?_
      refine T.blkX ?_
      refine T.thenN ?_
      refine T.seq ?_
      refine T.seq ?_
      refine T.region ?_
      refine L.move rfl rfl ?_
      refine L.notB rfl rfl ?_
      refine L.nil ?_
      refine T.thenN ?_
      refine T.cond rfl (fun h72 => ?_) (fun h72 => ?_)
      · try simp only [decide_eq_true_eq, decide_eq_false_iff_not, Bool.not_eq_true', Bool.not_eq_false', Bool.and_eq_true, Bool.or_eq_true] at h72
        have hde : dn = false := by simpa using h72
        refine T.seq ?_
        refine T.region ?_
        refine L.move rfl rfl ?_
        refine L.move rfl rfl ?_
        refine L.buildSlice rfl bs22 (by decide) (BP.one rfl rfl rfl <| BP.doneE (out := []) rfl) (fun b75 => ?_)
        refine L.append1 rfl Try.underlying22 el3 rfl rfl qP qM rfl qO1 qI qI (fun a76 c76 => ?_)
        rw [show (nx).length + 1 = (nx ++ [nn]).length from by simp]
        refine L.assign rfl rfl ?_
        refine L.nil ?_
        refine T.ownEq a76 ((nx ++ [nn]).map e3) qP (by simp) ?_
        refine T.thenN ?_
        refine T.region ?_
        refine L.move rfl rfl ?_
        refine L.move rfl rfl ?_
        refine L.buildSlice rfl bs101 (by decide) (BP.one rfl rfl rfl <| BP.doneE (out := []) rfl) (fun b79 => ?_)
        refine L.append1 rfl Try.underlying101 el9 rfl rfl qP qM rfl qO1 qI qI (fun a80 c80 => ?_)
        rw [show (nx).length + 1 = (nx ++ [nn]).length from by simp]
        refine L.assign rfl rfl ?_
        refine L.nil ?_
        refine T.ownEq a80 ((nx ++ [nn]).map (kr g)) qP (by simp) ?_
        refine T.thenN ?_
        refine T.seq ?_
        refine T.region ?_
        refine L.move rfl rfl ?_
        refine L.assign rfl rfl ?_
        refine L.nil ?_
        refine T.thenN ?_
        refine T.region ?_
        refine L.move rfl rfl ?_
        refine L.assign rfl rfl ?_
        refine L.nil ?_
        refine T.blkN ?_
        refine T.thenN ?_
        refine T.region ?_
        refine L.addN rfl rfl rfl (by omega) ?_
        refine L.move rfl rfl ?_
        refine L.nil ?_
        refine T.thenN ?_
        have e1 : nx ++ [nn] = (sortR (cG g) yes xs (k + 1)) := by rw [sortR_s (by omega), ← hnn, if_pos (show yes nn = true from rfl), ← insI_endT hI hde]
        rw [e1]
        exact T.back ⟨k + 1, _, _, _, _, (by omega), rfl, rfl, rfl, rfl⟩ qI (.cons (t := 19) rfl <| .cons (t := 5) rfl <| .cons (t := 6) rfl <| SubK.nil _) (.cons (t := 0) rfl <| .cons (t := 17) rfl <| .cons (t := 18) rfl <| SubK.nil _) qD qD qF
      · try simp only [decide_eq_true_eq, decide_eq_false_iff_not, Bool.not_eq_true', Bool.not_eq_false', Bool.and_eq_true, Bool.or_eq_true] at h72
        have hde : dn = true := by simpa using h72
        refine T.skip ?_
        refine T.thenN ?_
        refine T.seq ?_
        refine T.region ?_
        refine L.move rfl rfl ?_
        refine L.assign rfl rfl ?_
        refine L.nil ?_
        refine T.thenN ?_
        refine T.region ?_
        refine L.move rfl rfl ?_
        refine L.assign rfl rfl ?_
        refine L.nil ?_
        refine T.blkN ?_
        refine T.thenN ?_
        refine T.region ?_
        refine L.addN rfl rfl rfl (by omega) ?_
        refine L.move rfl rfl ?_
        refine L.nil ?_
        refine T.thenN ?_
        have e1 : nx = (sortR (cG g) yes xs (k + 1)) := by rw [sortR_s (by omega), ← hnn, if_pos (show yes nn = true from rfl), ← insI_endF hI hde]
        rw [e1]
        exact T.back ⟨k + 1, _, _, _, _, (by omega), rfl, rfl, rfl, rfl⟩ qI (.cons (t := 19) rfl <| .cons (t := 5) rfl <| .cons (t := 6) rfl <| SubK.nil _) (.cons (t := 0) rfl <| .cons (t := 17) rfl <| .cons (t := 18) rfl <| SubK.nil _) qD qD qF
  · try simp only [decide_eq_true_eq, decide_eq_false_iff_not, Bool.not_eq_true', Bool.not_eq_false', Bool.and_eq_true, Bool.or_eq_true] at h20
    obtain rfl : k = xs.length := by omega
    rw [show sortR (cG g) yes xs xs.length = srtG g xs from rfl]
    refine T.exit ?_
    refine T.thenX ?_
    refine T.thenX ?_
    refine T.blkX ?_
    refine T.thenN ?_
    refine T.seq ?_
    refine T.region ?_
    refine L.move rfl rfl ?_
    refine L.assign rfl rfl ?_
    refine L.nil ?_
    refine T.thenN ?_
    refine T.ret ?_
    exact T.ret1 rfl rfl ⟨_, _, rfl, rfl, rfl⟩ qD qF
end Cv
