/-
  The walks: the model of a book.
-/
import Derived.Test.YtcfhpmijippbmaaGreatH2x
import Derived.Test.YtcfhpmijippbmaaGreatSlx
import Derived.Test.YtcfhpmijippbmaaGreatCvLc
import Derived.Test.YtcfhpmijippbmaaGreatProg
import Derived.KernelRfl
set_option linter.unusedVariables false
set_option linter.unusedSimpArgs false
set_option linter.unusedSectionVars false
set_option maxRecDepth 10000
namespace Cv
open Go Go.Proofs
abbrev PF := Int × List UInt8 × List UInt8
abbrev Mind := Int × Int × Int × Option PF
@[reducible] def pcells (p : PF) : List Value := .int .i64 p.1 :: (p.2.1.map Y ++ [S p.2.2])
@[reducible] def pptr (pb : Nat) (p : Option PF) : Value := .pointer (p.map fun _ => ⟨pb, 0, none⟩)
@[reducible] def mcells (pb : Nat) (m : Mind) : List Value := [.int .i64 m.1, .int .i64 m.2.1, .int .i64 m.2.2.1, pptr pb m.2.2.2]
def pA (pb : Nat) : Option PF → Asn
  | none => all []
  | some p => cl pb 65 (pcells p)
def mA (x : Int × Nat × Nat × Mind) : Asn := all [cl x.2.1 104 (mcells x.2.2.1 x.2.2.2), pA x.2.2.1 x.2.2.2.2.2.2]
def mV (x : Nat × Nat × Mind) : Value := .pointer (some ⟨x.1, 0, none⟩)
def zM : Mind := (0, 0, 0, none)
def getM (ml : List (Int × Nat × Nat × Mind)) (n : Int) : Mind := ((look ml n).map (·.2.2)).getD zM
def MOk (m : Mind) : Prop := (-20 ≤ m.1 ∧ m.1 ≤ 20) ∧ (0 ≤ m.2.1 ∧ m.2.1 ≤ 32) ∧ (0 ≤ m.2.2.1 ∧ m.2.2.1 ≤ 1099511627776) ∧ ∀ p, m.2.2.2 = some p → p.2.1.length = 32
theorem zM_ok : MOk zM := ⟨by decide, by decide, by decide, fun p h => by cases h⟩
def updM (F : Int → Mind) (n : Int) (m : Mind) : Int → Mind := fun k => if k = n then m else F k
def Fits (F : Int → Mind) (ml : List (Int × Nat × Nat × Mind)) : Prop := ∀ k, getM ml k = F k ∧ MOk (F k)
def bookA (b : Nat) (F : Int → Mind) : Asn := fun z => ∃ x : {p : Nat × List (Int × Nat × Nat × Mind) // Fits F p.2},
  Holds [cl b 101 [.map (some x.1.1)], mp x.1.1 iK mV x.1.2, each mA x.1.2] z
def restA (b : Nat) (n : Int) (blk : Nat) (F : Int → Mind) : Asn := fun z => ∃ x : {p : Nat × Nat × List (Int × Nat × Nat × Mind) // Fits F p.2.2 ∧ look p.2.2 n = some (blk, p.2.1, F n)},
  Holds [cl b 101 [.map (some x.1.1)], mp x.1.1 iK mV x.1.2.2, each mA (del x.1.2.2 n)] z
section
variable {σ : World} {sn : Nat} {G : Act → World → Prop} {K : Env} {D M N : List Asn}
theorem T.emp (next : T σ sn G K D (all [] :: M)) : T σ sn G K D M := T.drop (fun h (H : Holds M h) => (show Holds (all [] :: M) h from ⟨fun _ => none, h, (fun _ _ e => by cases e), Hp.le.refl h, fun _ => .inl rfl, trivial, H⟩)) next
theorem T.bookOpen {b : Nat} {F : Int → Mind} (hM : Pull (bookA b F) M N) (next : ∀ mb ml, Fits F ml → T σ sn G K D (cl b 101 [.map (some mb)] :: mp mb iK mV ml :: each mA ml :: N)) : T σ sn G K D M :=
  T.openEx (α := {p : Nat × List (Int × Nat × Nat × Mind) // Fits F p.2}) (L := fun x => [cl b 101 [.map (some x.1.1)], mp x.1.1 iK mV x.1.2, each mA x.1.2]) hM (fun z H => H) (fun ⟨(mb, ml), h⟩ => next mb ml h)
theorem T.bookShut {b mb : Nat} {F : Int → Mind} {ml : List (Int × Nat × Nat × Mind)} (h : Fits F ml) (hM : Sel [cl b 101 [.map (some mb)], mp mb iK mV ml, each mA ml] M N) (next : T σ sn G K D (bookA b F :: N)) : T σ sn G K D M :=
  T.shut hM (fun z H => ⟨⟨(mb, ml), h⟩, H⟩) next
theorem fits_look {F : Int → Mind} {ml : List (Int × Nat × Nat × Mind)} {n : Int} {blk pb : Nat} {m : Mind} (h : Fits F ml) (hl : look ml n = some (blk, pb, m)) : m = F n := by
  have := (h n).1
  rw [getM, hl] at this
  exact this
theorem fits_none {F : Int → Mind} {ml : List (Int × Nat × Nat × Mind)} {n : Int} (h : Fits F ml) (hl : look ml n = none) : F n = zM := by
  have := (h n).1
  rw [getM, hl] at this
  exact this.symm
theorem fits_put {F : Int → Mind} {ml : List (Int × Nat × Nat × Mind)} {n : Int} {blk pb : Nat} {m : Mind} (h : Fits F ml) (hm : MOk m) : Fits (updM F n m) (put ml n (blk, pb, m)) := fun k => by
  unfold getM updM
  rw [look_put]
  by_cases e : k = n
  · simp [e, hm]
  · simp only [if_neg e]; exact h k
theorem fits_new {F : Int → Mind} {ml : List (Int × Nat × Nat × Mind)} {n : Int} {blk pb : Nat} (h : Fits F ml) (hl : look ml n = none) : Fits F (put ml n (blk, pb, zM)) := by
  have e : updM F n zM = F := by
    funext k
    unfold updM
    split
    · rename_i e; subst e; exact (fits_none h hl).symm
    · rfl
  have := fits_put (n := n) (blk := blk) (pb := pb) h zM_ok
  rwa [e] at this
theorem T.bookAt {b mb n0 : Nat} {F : Int → Mind} {ml : List (Int × Nat × Nat × Mind)} {n : Int} {blk pb : Nat} {m : Mind} (h : Fits F ml) (hl : look ml n = some (blk, pb, m)) (hM : Sel [cl b 101 [.map (some mb)], mp mb iK mV ml, each mA ml] M N)
    (next : m = F n → T σ sn G K D (restA b n blk F :: cl blk 104 (mcells pb (F n)) :: pA pb (F n).2.2.2 :: N)) : T σ sn G K D M := by
  have hm := fits_look h hl
  subst hm
  refine T.drop hM ?_
  show T σ sn G K D (cl b 101 [.map (some mb)] :: mp mb iK mV ml :: each mA ml :: N)
  refine T.eachOpen (l := ml) (N := cl b 101 [.map (some mb)] :: mp mb iK mV ml :: N) qP hl ?_
  refine T.unfold (A := mA (n, blk, pb, F n)) [cl blk 104 (mcells pb (F n)), pA pb (F n).2.2.2] qP rfl AppL.refl ?_
  show T σ sn G K D (cl blk 104 (mcells pb (F n)) :: pA pb (F n).2.2.2 :: each mA (del ml n) :: cl b 101 [.map (some mb)] :: mp mb iK mV ml :: N)
  refine T.shut (A := restA b n blk F) (L := [cl b 101 [.map (some mb)], mp mb iK mV ml, each mA (del ml n)]) (N := cl blk 104 (mcells pb (F n)) :: pA pb (F n).2.2.2 :: N) (by repeat (first | exact Sel.nil | (apply Sel.cons; focus (repeat (first | with_reducible exact Pull.here | apply Pull.there))))) (fun z H => ⟨⟨(mb, pb, ml), h, hl⟩, H⟩) ?_
  exact next rfl
theorem T.bookClose {b n0 : Nat} {F : Int → Mind} {n : Int} {blk pb : Nat} (m : Mind) (hm : MOk m) (hM : Sel [restA b n blk F, cl blk 104 (mcells pb m), pA pb m.2.2.2] M N)
    (next : T σ sn G K D (bookA b (updM F n m) :: N)) : T σ sn G K D M := by
  refine T.drop hM ?_
  show T σ sn G K D (restA b n blk F :: cl blk 104 (mcells pb m) :: pA pb m.2.2.2 :: N)
  refine T.openEx (α := {p : Nat × Nat × List (Int × Nat × Nat × Mind) // Fits F p.2.2 ∧ look p.2.2 n = some (blk, p.2.1, F n)}) (A := restA b n blk F) (L := fun x => [cl b 101 [.map (some x.1.1)], mp x.1.1 iK mV x.1.2.2, each mA (del x.1.2.2 n)]) (N := cl blk 104 (mcells pb m) :: pA pb m.2.2.2 :: N) qP (fun z H => H) ?_
  rintro ⟨⟨mb, pb0, ml⟩, h, hl⟩
  show T σ sn G K D (cl b 101 [.map (some mb)] :: mp mb iK mV ml :: each mA (del ml n) :: cl blk 104 (mcells pb m) :: pA pb m.2.2.2 :: N)
  refine T.foldAs (mA (n, blk, pb, m)) (L := [cl blk 104 (mcells pb m), pA pb m.2.2.2]) (N := cl b 101 [.map (some mb)] :: mp mb iK mV ml :: each mA (del ml n) :: N) (by repeat (first | exact Sel.nil | (apply Sel.cons; focus (repeat (first | with_reducible exact Pull.here | apply Pull.there))))) rfl ?_
  refine T.eachShut (l := ml) (blk, pb, m) hl (N := cl b 101 [.map (some mb)] :: mp mb iK mV ml :: N) (by repeat (first | exact Sel.nil | (apply Sel.cons; focus (repeat (first | with_reducible exact Pull.here | apply Pull.there))))) ?_
  refine T.eqv (A := mp mb iK mV ml) (B := mp mb iK mV (put ml n (blk, pb, m))) (N := each mA (put ml n (blk, pb, m)) :: cl b 101 [.map (some mb)] :: N) qP (mp_put_same (u := (blk, pb, m)) hl rfl).symm ?_
  exact T.bookShut (N := N) (fits_put h hm) (by repeat (first | exact Sel.nil | (apply Sel.cons; focus (repeat (first | with_reducible exact Pull.here | apply Pull.there))))) next
theorem T.restOk {b blk : Nat} {F : Int → Mind} {n : Int} (hm : restA b n blk F ∈ M) (next : MOk (F n) → T σ sn G K D M) : T σ sn G K D M :=
  T.pure hm (fun z ⟨⟨p, h, _⟩, _⟩ => (h n).2) next
theorem T.bookOk {b : Nat} {F : Int → Mind} (hm : bookA b F ∈ M) (next : (∀ k, MOk (F k)) → T σ sn G K D M) : T σ sn G K D M :=
  T.pure hm (fun z ⟨⟨p, h⟩, _⟩ k => (h k).2) next
end
theorem updM_self {F : Int → Mind} {n : Int} : updM F n (F n) = F := by
  funext k; unfold updM; split
  · rename_i e; subst e; rfl
  · rfl
@[reducible] def goodM (m : Mind) : Mind := (min (m.1 + 1) 20, 0, 0, m.2.2.2)
@[reducible] def silW (m : Mind) : Int := min (max (2 * m.2.1) 2) 32
@[reducible] def silM (m : Mind) (now : Int) : Mind := (max (m.1 - 1) (-20), silW m, max m.2.2.1 (now + silW m), m.2.2.2)
@[reducible] def banM (m : Mind) (p : PF) : Mind := (m.1, m.2.1, m.2.2.1, some (m.2.2.2.getD p))
def banB (F : Int → Mind) (n : Int) (p : PF) : Int → Mind := if oidF p.1 p.2.2 = p.2.1 then F else updM F n (banM (F n) p)
theorem goodM_ok {m : Mind} (h : MOk m) : MOk (goodM m) := ⟨by have := h.1; simp only [goodM]; omega, by simp only [goodM]; omega, by simp only [goodM]; omega, h.2.2.2⟩
theorem silM_ok {m : Mind} {now : Int} (h : MOk m) (h0 : 0 ≤ now) (h1 : now ≤ 549755813888) : MOk (silM m now) := ⟨by have := h.1; simp only [silM]; omega, by simp only [silM, silW]; omega, by have := h.2.2.1; simp only [silM, silW]; omega, h.2.2.2⟩
theorem banM_ok {m : Mind} {p : PF} (h : MOk m) (hp : p.2.1.length = 32) : MOk (banM m p) := ⟨h.1, h.2.1, h.2.2.1, fun q hq => by
  simp only [banM, Option.some.injEq] at hq
  subst hq
  cases hm : m.2.2.2 with
  | none => exact hp
  | some q => exact h.2.2.2 q hm⟩
def zP : PF := (0, List.replicate 32 0, [])
def bannedV (m : Mind) : Value := .tuple #[.agg (pcells (m.2.2.2.getD zP)).toArray, .bool m.2.2.2.isSome]
def mayB (F : Int → Mind) (n now : Int) : Bool := (F n).2.2.2.isNone && decide ((F n).2.2.1 ≤ now)
theorem zv101 : ∀ w, (zeroValue 101).run Tryz.prog w = .ok (Value.agg #[Value.map none]) w := fun w => by kernel_rfl
theorem bu101 : Bu Tryz.prog 101 [Value.map none] (fun (i : Nat) => ([(0, 1)] : List (Nat × Nat))[i]?) := bu_of Tryz.underlying101 zv101 rfl (fun w => by kernel_rfl)
theorem kt3 : KeyT Tryz.prog 3 iK := keyT_int Tryz.underlying3
theorem zv98 : ∀ w, (zeroValue 98).run Tryz.prog w = .ok (Value.pointer none) w := fun w => by kernel_rfl
theorem fo101_0 : Fo Tryz.prog 101 0 0 := fun a w => by kernel_rfl
theorem sc99 : Sc Tryz.prog 99 := fun w => ⟨by kernel_rfl, by kernel_rfl⟩
theorem zv104 : ∀ w, (zeroValue 104).run Tryz.prog w = .ok (Value.agg #[Value.int .i64 0, Value.int .i64 0, Value.int .i64 0, Value.pointer none]) w := fun w => by kernel_rfl
theorem bu104 : Bu Tryz.prog 104 [Value.int .i64 0, Value.int .i64 0, Value.int .i64 0, Value.pointer none] (fun (i : Nat) => ([(0, 1), (1, 1), (2, 1), (3, 1)] : List (Nat × Nat))[i]?) := bu_of Tryz.underlying104 zv104 rfl (fun w => by kernel_rfl)
theorem fo104_0 : Fo Tryz.prog 104 0 0 := fun a w => by kernel_rfl
theorem fo104_1 : Fo Tryz.prog 104 1 1 := fun a w => by kernel_rfl
theorem fo104_2 : Fo Tryz.prog 104 2 2 := fun a w => by kernel_rfl
theorem zv65 : ∀ w, (zeroValue 65).run Tryz.prog w = .ok (Value.agg #[Value.int .i64 0, Value.int .u8 0, Value.int .u8 0, Value.int .u8 0, Value.int .u8 0, Value.int .u8 0, Value.int .u8 0, Value.int .u8 0, Value.int .u8 0, Value.int .u8 0, Value.int .u8 0, Value.int .u8 0, Value.int .u8 0, Value.int .u8 0, Value.int .u8 0, Value.int .u8 0, Value.int .u8 0, Value.int .u8 0, Value.int .u8 0, Value.int .u8 0, Value.int .u8 0, Value.int .u8 0, Value.int .u8 0, Value.int .u8 0, Value.int .u8 0, Value.int .u8 0, Value.int .u8 0, Value.int .u8 0, Value.int .u8 0, Value.int .u8 0, Value.int .u8 0, Value.int .u8 0, Value.int .u8 0, S []]) w := fun w => by kernel_rfl
theorem ze65 : Ze Tryz.prog 65 (Value.int .i64 0 :: Value.int .u8 0 :: Value.int .u8 0 :: Value.int .u8 0 :: Value.int .u8 0 :: Value.int .u8 0 :: Value.int .u8 0 :: Value.int .u8 0 :: Value.int .u8 0 :: Value.int .u8 0 :: Value.int .u8 0 :: Value.int .u8 0 :: Value.int .u8 0 :: Value.int .u8 0 :: Value.int .u8 0 :: Value.int .u8 0 :: Value.int .u8 0 :: Value.int .u8 0 :: Value.int .u8 0 :: Value.int .u8 0 :: Value.int .u8 0 :: Value.int .u8 0 :: Value.int .u8 0 :: Value.int .u8 0 :: Value.int .u8 0 :: Value.int .u8 0 :: Value.int .u8 0 :: Value.int .u8 0 :: Value.int .u8 0 :: Value.int .u8 0 :: Value.int .u8 0 :: Value.int .u8 0 :: Value.int .u8 0 :: S [] :: []) := ⟨_, rfl, zv65⟩
theorem bu65 : Bu Tryz.prog 65 (Value.int .i64 0 :: Value.int .u8 0 :: Value.int .u8 0 :: Value.int .u8 0 :: Value.int .u8 0 :: Value.int .u8 0 :: Value.int .u8 0 :: Value.int .u8 0 :: Value.int .u8 0 :: Value.int .u8 0 :: Value.int .u8 0 :: Value.int .u8 0 :: Value.int .u8 0 :: Value.int .u8 0 :: Value.int .u8 0 :: Value.int .u8 0 :: Value.int .u8 0 :: Value.int .u8 0 :: Value.int .u8 0 :: Value.int .u8 0 :: Value.int .u8 0 :: Value.int .u8 0 :: Value.int .u8 0 :: Value.int .u8 0 :: Value.int .u8 0 :: Value.int .u8 0 :: Value.int .u8 0 :: Value.int .u8 0 :: Value.int .u8 0 :: Value.int .u8 0 :: Value.int .u8 0 :: Value.int .u8 0 :: Value.int .u8 0 :: S [] :: []) (fun (i : Nat) => ([(0, 1), (1, 32), (33, 1)] : List (Nat × Nat))[i]?) := bu_of Tryz.underlying65 zv65 rfl (fun w => by kernel_rfl)
theorem ag65 : Ag Tryz.prog 65 34 := fun w => ⟨by kernel_rfl, by kernel_rfl⟩
theorem fo104_3 : Fo Tryz.prog 104 3 3 := fun a w => by kernel_rfl
theorem sc102 : Sc Tryz.prog 102 := fun w => ⟨by kernel_rfl, by kernel_rfl⟩
theorem fo65_0 : Fo Tryz.prog 65 0 0 := fun a w => by kernel_rfl
theorem fo65_2 : Fo Tryz.prog 65 2 33 := fun a w => by kernel_rfl
theorem fo65_1 : Fo Tryz.prog 65 1 1 := fun a w => by kernel_rfl
set_option maxHeartbeats 400000 in
theorem rnew_spec   : Spec Tryz.prog 25 [] [] [] (fun v D' M' => ∃ (b : Nat), v = .pointer (some ⟨b, 0, none⟩) ∧ D' = [] ∧ M' = [bookA b (fun _ => zM)]) := by
  refine Spec.intro (n := 4) Tryz.func25 rfl rfl (by decide) (Nat.le_of_ble_eq_true rfl) rfl (fun _ => qA) (fun _ => qA) ?_
  intro σ D M
  refine T.seq ?_
  refine T.region ?_
  refine L.assign rfl rfl ?_
  refine L.nil ?_
  refine T.thenN ?_
  refine T.seq ?_
  refine T.region ?_
  refine L.makeMap iK mV rfl (fun mb => ?_)
  refine L.build rfl bu101 (BP.one rfl rfl rfl <| BP.doneE (out := []) rfl) ?_
  refine L.box rfl rfl rfl (fun b3 => ?_)
  refine L.assign rfl rfl ?_
  refine L.nil ?_
  refine T.emp ?_
  refine T.eqv qP (show all [] = each mA [] from rfl) ?_
  refine T.bookShut (ml := []) (F := fun _ => zM) (fun k => ⟨rfl, zM_ok⟩) qS ?_
  refine T.thenN ?_
  refine T.ret ?_
  exact T.ret1 rfl rfl ⟨_, rfl, rfl, rfl⟩ qD qF
set_option maxHeartbeats 400000 in
theorem at_spec {b : Nat} {n : Int} {F : Int → Mind}  : Spec Tryz.prog 68 [.pointer (some ⟨b, 0, none⟩), .int .i64 n] [] [bookA b F] (fun v D' M' => ∃ (blk pb : Nat), v = .pointer (some ⟨blk, 0, none⟩) ∧ D' = [] ∧ M' = [restA b n blk F, cl blk 104 (mcells pb (F n)), pA pb (F n).2.2.2]) := by
  refine Spec.intro (n := 25) Tryz.func68 rfl rfl (by decide) (Nat.le_of_ble_eq_true rfl) rfl (fun _ => qA) (fun _ => qA) ?_
  intro σ D M
  refine T.bookOpen qP (fun mb ml hF => ?_)
  refine T.seq ?_
  refine T.region ?_
  refine L.assign rfl rfl ?_
  refine L.nil ?_
  refine T.thenN ?_
  refine T.seq ?_
  refine T.seq ?_
  refine T.region ?_
  refine L.move rfl rfl ?_
  refine L.nilCheck rfl rfl ?_
  first | refine L.field0 rfl fo101_0 rfl ?_ | refine L.field rfl fo101_0 rfl ?_
  refine L.load rfl sc99 rfl qC ?_
  refine L.move rfl rfl ?_
  rcases hl : look ml n with _ | ⟨blk, pb, m⟩
  · skip
    first | refine L.look1N rfl Tryz.underlying99 kt3 zv98 rfl rfl qM hl ?_ | refine L.look1S rfl Tryz.underlying99 kt3 zv98 rfl rfl qM hl ?_
    refine L.eqlPtr rfl Tryz.underlying98 rfl rfl ?_
    refine L.nil ?_
    refine T.thenN ?_
    refine T.condT rfl rfl ?_
    refine T.region ?_
    refine L.move rfl rfl ?_
    refine L.nilCheck rfl rfl ?_
    first | refine L.field0 rfl fo101_0 rfl ?_ | refine L.field rfl fo101_0 rfl ?_
    refine L.load rfl sc99 rfl qC ?_
    refine L.move rfl rfl ?_
    refine L.build rfl bu104 (BP.doneE (out := [Value.int .i64 0, Value.int .i64 0, Value.int .i64 0, Value.pointer none]) rfl) ?_
    refine L.box rfl rfl rfl (fun b18 => ?_)
    refine L.mapUpdate (v := (b18, 0, zM)) Tryz.underlying99 kt3 rfl rfl rfl rfl qP ?_
    refine L.nil ?_
    refine T.emp ?_
    refine T.eqv qP (show all [] = pA 0 zM.2.2.2 from rfl) ?_
    refine T.eqv qP (show cl b18 104 [.int .i64 0, .int .i64 0, .int .i64 0, .pointer none] = cl b18 104 (mcells 0 zM) from rfl) ?_
    refine T.foldAs (mA (n, b18, 0, zM)) (L := [cl b18 104 (mcells 0 (zM)), pA 0 zM.2.2.2]) (by repeat (first | exact Sel.nil | (apply Sel.cons; focus (repeat (first | with_reducible exact Pull.here | apply Pull.there))))) rfl ?_
    refine T.eachNew (b18, 0, zM) hl qS ?_
    replace hF := fits_new (blk := b18) (pb := 0) hF hl
    have hl2 : look (put ml n (b18, 0, zM)) n = some (b18, 0, zM) := by rw [look_put, if_pos rfl]
    clear hl
    have hl := hl2
    refine T.thenN ?_
    refine T.seq ?_
    refine T.region ?_
    refine L.move rfl rfl ?_
    refine L.nilCheck rfl rfl ?_
    first | refine L.field0 rfl fo101_0 rfl ?_ | refine L.field rfl fo101_0 rfl ?_
    refine L.load rfl sc99 rfl qC ?_
    refine L.move rfl rfl ?_
    refine L.look1S rfl Tryz.underlying99 kt3 zv98 rfl rfl qM hl ?_
    refine L.assign rfl rfl ?_
    refine L.nil ?_
    refine T.bookAt (n0 := 0) hF hl qS (fun hm => ?_)
    refine T.thenN ?_
    refine T.ret ?_
    exact T.ret1 rfl rfl ⟨_, _, rfl, rfl, rfl⟩ qD qF
  · skip
    first | refine L.look1N rfl Tryz.underlying99 kt3 zv98 rfl rfl qM hl ?_ | refine L.look1S rfl Tryz.underlying99 kt3 zv98 rfl rfl qM hl ?_
    refine L.eqlPtr rfl Tryz.underlying98 rfl rfl ?_
    refine L.nil ?_
    refine T.thenN ?_
    refine T.condF rfl rfl ?_
    refine T.skip ?_
    refine T.thenN ?_
    refine T.seq ?_
    refine T.region ?_
    refine L.move rfl rfl ?_
    refine L.nilCheck rfl rfl ?_
    first | refine L.field0 rfl fo101_0 rfl ?_ | refine L.field rfl fo101_0 rfl ?_
    refine L.load rfl sc99 rfl qC ?_
    refine L.move rfl rfl ?_
    refine L.look1S rfl Tryz.underlying99 kt3 zv98 rfl rfl qM hl ?_
    refine L.assign rfl rfl ?_
    refine L.nil ?_
    refine T.bookAt (n0 := 0) hF hl qS (fun hm => ?_)
    refine T.thenN ?_
    refine T.ret ?_
    exact T.ret1 rfl rfl ⟨_, _, rfl, rfl, rfl⟩ qD qF
theorem L.rest {P : Program} {σ : World} {sn : Nat} {Q : Post} {K : Env} {D M : List Asn} {ops : Array Oper} {l : List Oper} {b blk : Nat} {F : Int → Mind} {n : Int} (hm : restA b n blk F ∈ M) (next : MOk (F n) → TL none P σ sn ops Q l K D M) : TL none P σ sn ops Q l K D M := T.restOk hm next
set_option maxHeartbeats 400000 in
theorem good_spec {b : Nat} {n : Int} {F : Int → Mind}  : Spec Tryz.prog 47 [.pointer (some ⟨b, 0, none⟩), .int .i64 n] [] [bookA b F] (fun v D' M' => v = .tuple #[] ∧ D' = [] ∧ M' = [bookA b (updM F n (goodM (F n)))]) := by
  refine Spec.intro (n := 23) Tryz.func47 rfl rfl (by decide) (Nat.le_of_ble_eq_true rfl) rfl (fun _ => qA) (fun _ => qA) ?_
  intro σ D M
  refine T.seq ?_
  refine T.region ?_
  refine L.move rfl rfl ?_
  refine L.move rfl rfl ?_
  refine L.call rfl (evs.cons rfl <| evs.cons rfl <| evs.nil) qD qS (at_spec) ?_
  rintro _ _ _ ⟨blk, pb, rfl, rfl, rfl⟩
  refine L.norm qA qA ?_
  refine L.rest qM (fun hm => ?_)
  have hm1 := hm.1
  have hm2 := hm.2.1
  have hm3 := hm.2.2.1
  refine L.assign rfl rfl ?_
  refine L.nil ?_
  refine T.thenN ?_
  refine T.region ?_
  refine L.move rfl rfl ?_
  refine L.move rfl rfl ?_
  refine L.move rfl rfl ?_
  refine L.move rfl rfl ?_
  refine L.nilCheck rfl rfl ?_
  first | refine L.field0 rfl fo104_0 rfl ?_ | refine L.field rfl fo104_0 rfl ?_
  refine L.load rfl sc3 rfl qC ?_
  refine L.addN rfl rfl rfl (by omega) ?_
  refine L.minI rfl rfl rfl ?_
  refine L.nilCheck rfl rfl ?_
  first | refine L.field0 rfl fo104_0 rfl ?_ | refine L.field rfl fo104_0 rfl ?_
  refine L.store sc3 rfl rfl rfl qU qE ?_
  refine L.nilCheck rfl rfl ?_
  first | refine L.field0 rfl fo104_1 rfl ?_ | refine L.field rfl fo104_1 rfl ?_
  refine L.store sc3 rfl rfl rfl qU qE ?_
  refine L.nilCheck rfl rfl ?_
  first | refine L.field0 rfl fo104_2 rfl ?_ | refine L.field rfl fo104_2 rfl ?_
  refine L.store sc3 rfl rfl rfl qU qE ?_
  refine L.nil ?_
  refine T.bookClose (n0 := 0) (goodM (F n)) (goodM_ok hm) qS ?_
  exact T.retN (by simp) rfl ⟨rfl, rfl, rfl⟩ qD qF
set_option maxHeartbeats 400000 in
theorem silent_spec {b : Nat} {n now : Int} {F : Int → Mind} (h0 : 0 ≤ now) (h9 : now ≤ 549755813888) : Spec Tryz.prog 56 [.pointer (some ⟨b, 0, none⟩), .int .i64 n, .int .i64 now] [] [bookA b F] (fun v D' M' => v = .tuple #[] ∧ D' = [] ∧ M' = [bookA b (updM F n (silM (F n) now))]) := by
  refine Spec.intro (n := 43) Tryz.func56 rfl rfl (by decide) (Nat.le_of_ble_eq_true rfl) rfl (fun _ => qA) (fun _ => qA) ?_
  intro σ D M
  refine T.seq ?_
  refine T.region ?_
  refine L.move rfl rfl ?_
  refine L.move rfl rfl ?_
  refine L.call rfl (evs.cons rfl <| evs.cons rfl <| evs.nil) qD qS (at_spec) ?_
  rintro _ _ _ ⟨blk, pb, rfl, rfl, rfl⟩
  refine L.norm qA qA ?_
  refine L.rest qM (fun hm => ?_)
  have hm1 := hm.1
  have hm2 := hm.2.1
  have hm3 := hm.2.2.1
  refine L.assign rfl rfl ?_
  refine L.nil ?_
  refine T.thenN ?_
  refine T.seq ?_
  refine T.region ?_
  refine L.move rfl rfl ?_
  refine L.move rfl rfl ?_
  refine L.nilCheck rfl rfl ?_
  first | refine L.field0 rfl fo104_0 rfl ?_ | refine L.field rfl fo104_0 rfl ?_
  refine L.load rfl sc3 rfl qC ?_
  refine L.subN rfl rfl rfl (by omega) ?_
  refine L.maxI rfl rfl rfl ?_
  refine L.nilCheck rfl rfl ?_
  first | refine L.field0 rfl fo104_0 rfl ?_ | refine L.field rfl fo104_0 rfl ?_
  refine L.store sc3 rfl rfl rfl qU qE ?_
  refine L.nil ?_
  refine T.thenN ?_
  refine T.seq ?_
  refine T.region ?_
  refine L.move rfl rfl ?_
  refine L.move rfl rfl ?_
  refine L.nilCheck rfl rfl ?_
  first | refine L.field0 rfl fo104_1 rfl ?_ | refine L.field rfl fo104_1 rfl ?_
  refine L.load rfl sc3 rfl qC ?_
  refine L.mulN rfl rfl rfl (by omega) ?_
  refine L.maxI rfl rfl rfl ?_
  refine L.minI rfl rfl rfl ?_
  refine L.nilCheck rfl rfl ?_
  first | refine L.field0 rfl fo104_1 rfl ?_ | refine L.field rfl fo104_1 rfl ?_
  refine L.store sc3 rfl rfl rfl qU qE ?_
  refine L.nil ?_
  refine T.thenN ?_
  refine T.regionA (clsL [1, 1, 0, 1, 0, 1, 1, 0, 1, 0, 1, 1, 0, 1, 2]) (by kernel_rfl) ?_
  refine A.takeP (i := 0) rfl rfl rfl rfl (by kernel_rfl) (by kernel_rfl) (by kernel_rfl) rfl qD ?_
  refine L.move rfl rfl ?_
  refine A.took ?_
  refine A.takeP (i := 1) rfl rfl rfl rfl (by kernel_rfl) (by kernel_rfl) (by kernel_rfl) rfl qD ?_
  refine L.move rfl rfl ?_
  refine A.took ?_
  refine A.takeP (i := 5) rfl rfl rfl rfl (by kernel_rfl) (by kernel_rfl) (by kernel_rfl) rfl qD ?_
  refine L.move rfl rfl ?_
  refine A.took ?_
  refine A.takeP (i := 6) rfl rfl rfl rfl (by kernel_rfl) (by kernel_rfl) (by kernel_rfl) rfl qD ?_
  refine L.move rfl rfl ?_
  refine A.took ?_
  refine A.nilCheck (i := 2) rfl rfl (by kernel_rfl) (by kernel_rfl) (by kernel_rfl) (by kernel_rfl) rfl qD qF rfl ?_
  refine A.takeP (i := 3) rfl rfl rfl rfl (by kernel_rfl) (by kernel_rfl) (by kernel_rfl) rfl qD ?_
  first | refine L.field0 rfl fo104_2 rfl ?_ | refine L.field rfl fo104_2 rfl ?_
  refine A.took ?_
  refine A.take (i := 4) rfl rfl rfl rfl (by kernel_rfl) (by kernel_rfl) (by kernel_rfl) (by kernel_rfl) rfl qD qF ?_
  refine L.load rfl sc3 rfl qC ?_
  refine A.took ?_
  refine A.nilCheck (i := 7) rfl rfl (by kernel_rfl) (by kernel_rfl) (by kernel_rfl) (by kernel_rfl) rfl qD qF rfl ?_
  refine A.takeP (i := 8) rfl rfl rfl rfl (by kernel_rfl) (by kernel_rfl) (by kernel_rfl) rfl qD ?_
  first | refine L.field0 rfl fo104_1 rfl ?_ | refine L.field rfl fo104_1 rfl ?_
  refine A.took ?_
  refine A.take (i := 9) rfl rfl rfl rfl (by kernel_rfl) (by kernel_rfl) (by kernel_rfl) (by kernel_rfl) rfl qD qF ?_
  refine L.load rfl sc3 rfl qC ?_
  refine A.took ?_
  refine A.takeP (i := 10) rfl rfl rfl rfl (by kernel_rfl) (by kernel_rfl) (by kernel_rfl) rfl qD ?_
  refine L.addN rfl rfl rfl (by omega) ?_
  refine A.took ?_
  refine A.takeP (i := 11) rfl rfl rfl rfl (by kernel_rfl) (by kernel_rfl) (by kernel_rfl) rfl qD ?_
  refine L.maxI rfl rfl rfl ?_
  refine A.took ?_
  refine A.nilCheck (i := 12) rfl rfl (by kernel_rfl) (by kernel_rfl) (by kernel_rfl) (by kernel_rfl) rfl qD qF rfl ?_
  refine A.takeP (i := 13) rfl rfl rfl rfl (by kernel_rfl) (by kernel_rfl) (by kernel_rfl) rfl qD ?_
  first | refine L.field0 rfl fo104_2 rfl ?_ | refine L.field rfl fo104_2 rfl ?_
  refine A.took ?_
  refine A.branch (is := [14]) (by kernel_rfl) (by decide) (Each.cons rfl ?_ <| Each.nil) 
  refine L.store sc3 rfl rfl rfl qU qE ?_
  refine A.backT rfl qD ?_
  refine A.done (by kernel_rfl) ?_
  refine T.bookClose (n0 := 0) (silM (F n) now) (silM_ok hm h0 h9) qS ?_
  exact T.retN (by simp) rfl ⟨rfl, rfl, rfl⟩ qD qF
set_option maxHeartbeats 400000 in
theorem until_spec {b : Nat} {n : Int} {F : Int → Mind}  : Spec Tryz.prog 33 [.pointer (some ⟨b, 0, none⟩), .int .i64 n] [] [bookA b F] (fun v D' M' => v = .int .i64 (F n).2.2.1 ∧ D' = [] ∧ M' = [bookA b F]) := by
  refine Spec.intro (n := 18) Tryz.func33 rfl rfl (by decide) (Nat.le_of_ble_eq_true rfl) rfl (fun _ => qA) (fun _ => qA) ?_
  intro σ D M
  refine T.bookOpen qP (fun mb ml hF => ?_)
  refine T.seq ?_
  refine T.region ?_
  refine L.assign rfl rfl ?_
  refine L.nil ?_
  refine T.thenN ?_
  refine T.seq ?_
  refine T.seq ?_
  refine T.region ?_
  refine L.move rfl rfl ?_
  refine L.nilCheck rfl rfl ?_
  first | refine L.field0 rfl fo101_0 rfl ?_ | refine L.field rfl fo101_0 rfl ?_
  refine L.load rfl sc99 rfl qC ?_
  refine L.move rfl rfl ?_
  rcases hl : look ml n with _ | ⟨blk, pb, m⟩
  · have hF0 := fits_none hF hl
    first | refine L.look1N rfl Tryz.underlying99 kt3 zv98 rfl rfl qM hl ?_ | refine L.look1S rfl Tryz.underlying99 kt3 zv98 rfl rfl qM hl ?_
    refine L.assign rfl rfl ?_
    refine L.nil ?_
    refine T.thenN ?_
    refine T.seq ?_
    refine T.region ?_
    refine L.move rfl rfl ?_
    refine L.neqPtr rfl Tryz.underlying98 rfl rfl ?_
    refine L.nil ?_
    refine T.thenN ?_
    refine T.condF rfl rfl ?_
    refine T.skip ?_
    refine T.thenN ?_
    refine T.seq ?_
    refine T.bookShut hF qS ?_
    refine T.region ?_
    refine L.assign rfl rfl ?_
    refine L.nil ?_
    refine T.thenN ?_
    refine T.ret ?_
    exact T.ret1 rfl rfl ⟨by rw [hF0]; rfl, rfl, rfl⟩ qD qF
  · skip
    first | refine L.look1N rfl Tryz.underlying99 kt3 zv98 rfl rfl qM hl ?_ | refine L.look1S rfl Tryz.underlying99 kt3 zv98 rfl rfl qM hl ?_
    refine L.assign rfl rfl ?_
    refine L.nil ?_
    refine T.thenN ?_
    refine T.seq ?_
    refine T.region ?_
    refine L.move rfl rfl ?_
    refine L.neqPtr rfl Tryz.underlying98 rfl rfl ?_
    refine L.nil ?_
    refine T.thenN ?_
    refine T.condT rfl rfl ?_
    refine T.seq ?_
    refine T.bookAt (n0 := 0) hF hl qS (fun hm => ?_)
    refine T.region ?_
    refine L.move rfl rfl ?_
    refine L.nilCheck rfl rfl ?_
    first | refine L.field0 rfl fo104_2 rfl ?_ | refine L.field rfl fo104_2 rfl ?_
    refine L.load rfl sc3 rfl qC ?_
    refine L.assign rfl rfl ?_
    refine L.nil ?_
    refine T.bookClose (n0 := 0) (F n) ((hF n).2) qS ?_
    rw [updM_self]
    refine T.thenN ?_
    refine T.ret ?_
    refine T.thenR ?_
    exact T.ret1 rfl rfl ⟨rfl, rfl, rfl⟩ qD qF
set_option maxHeartbeats 400000 in
theorem score_spec {b : Nat} {n : Int} {F : Int → Mind}  : Spec Tryz.prog 11 [.pointer (some ⟨b, 0, none⟩), .int .i64 n] [] [bookA b F] (fun v D' M' => v = .int .i64 (F n).1 ∧ D' = [] ∧ M' = [bookA b F]) := by
  refine Spec.intro (n := 18) Tryz.func11 rfl rfl (by decide) (Nat.le_of_ble_eq_true rfl) rfl (fun _ => qA) (fun _ => qA) ?_
  intro σ D M
  refine T.bookOpen qP (fun mb ml hF => ?_)
  refine T.seq ?_
  refine T.region ?_
  refine L.assign rfl rfl ?_
  refine L.nil ?_
  refine T.thenN ?_
  refine T.seq ?_
  refine T.seq ?_
  refine T.region ?_
  refine L.move rfl rfl ?_
  refine L.nilCheck rfl rfl ?_
  first | refine L.field0 rfl fo101_0 rfl ?_ | refine L.field rfl fo101_0 rfl ?_
  refine L.load rfl sc99 rfl qC ?_
  refine L.move rfl rfl ?_
  rcases hl : look ml n with _ | ⟨blk, pb, m⟩
  · have hF0 := fits_none hF hl
    first | refine L.look1N rfl Tryz.underlying99 kt3 zv98 rfl rfl qM hl ?_ | refine L.look1S rfl Tryz.underlying99 kt3 zv98 rfl rfl qM hl ?_
    refine L.assign rfl rfl ?_
    refine L.nil ?_
    refine T.thenN ?_
    refine T.seq ?_
    refine T.region ?_
    refine L.move rfl rfl ?_
    refine L.neqPtr rfl Tryz.underlying98 rfl rfl ?_
    refine L.nil ?_
    refine T.thenN ?_
    refine T.condF rfl rfl ?_
    refine T.skip ?_
    refine T.thenN ?_
    refine T.seq ?_
    refine T.bookShut hF qS ?_
    refine T.region ?_
    refine L.assign rfl rfl ?_
    refine L.nil ?_
    refine T.thenN ?_
    refine T.ret ?_
    exact T.ret1 rfl rfl ⟨by rw [hF0]; rfl, rfl, rfl⟩ qD qF
  · skip
    first | refine L.look1N rfl Tryz.underlying99 kt3 zv98 rfl rfl qM hl ?_ | refine L.look1S rfl Tryz.underlying99 kt3 zv98 rfl rfl qM hl ?_
    refine L.assign rfl rfl ?_
    refine L.nil ?_
    refine T.thenN ?_
    refine T.seq ?_
    refine T.region ?_
    refine L.move rfl rfl ?_
    refine L.neqPtr rfl Tryz.underlying98 rfl rfl ?_
    refine L.nil ?_
    refine T.thenN ?_
    refine T.condT rfl rfl ?_
    refine T.seq ?_
    refine T.bookAt (n0 := 0) hF hl qS (fun hm => ?_)
    refine T.region ?_
    refine L.move rfl rfl ?_
    refine L.nilCheck rfl rfl ?_
    first | refine L.field0 rfl fo104_0 rfl ?_ | refine L.field rfl fo104_0 rfl ?_
    refine L.load rfl sc3 rfl qC ?_
    refine L.assign rfl rfl ?_
    refine L.nil ?_
    refine T.bookClose (n0 := 0) (F n) ((hF n).2) qS ?_
    rw [updM_self]
    refine T.thenN ?_
    refine T.ret ?_
    refine T.thenR ?_
    exact T.ret1 rfl rfl ⟨rfl, rfl, rfl⟩ qD qF
set_option maxHeartbeats 400000 in
theorem banned_spec {b : Nat} {n : Int} {F : Int → Mind}  : Spec Tryz.prog 15 [.pointer (some ⟨b, 0, none⟩), .int .i64 n] [] [bookA b F] (fun v D' M' => v = .tuple #[.agg (pcells ((F n).2.2.2.getD zP)).toArray, .bool (F n).2.2.2.isSome] ∧ D' = [] ∧ M' = [bookA b F]) := by
  refine Spec.intro (n := 29) Tryz.func15 rfl rfl (by decide) (Nat.le_of_ble_eq_true rfl) rfl (fun _ => qA) (fun _ => qA) ?_
  intro σ D M
  refine T.bookOpen qP (fun mb ml hF => ?_)
  refine T.seq ?_
  refine T.region ?_
  refine L.alloc rfl ze65 (fun b4 => ?_)
  refine L.assign rfl rfl ?_
  refine L.nil ?_
  refine T.thenN ?_
  refine T.seq ?_
  refine T.seq ?_
  refine T.region ?_
  refine L.move rfl rfl ?_
  refine L.nilCheck rfl rfl ?_
  first | refine L.field0 rfl fo101_0 rfl ?_ | refine L.field rfl fo101_0 rfl ?_
  refine L.load rfl sc99 rfl qC ?_
  refine L.move rfl rfl ?_
  rcases hl : look ml n with _ | ⟨blk, pb, m⟩
  · have hF0 := fits_none hF hl
    first | refine L.look1N rfl Tryz.underlying99 kt3 zv98 rfl rfl qM hl ?_ | refine L.look1S rfl Tryz.underlying99 kt3 zv98 rfl rfl qM hl ?_
    refine L.assign rfl rfl ?_
    refine L.nil ?_
    refine T.thenN ?_
    refine T.seq ?_
    try (refine T.bookAt (n0 := 0) hF hl qS (fun hm => ?_))
    refine T.region ?_
    refine L.move rfl rfl ?_
    refine L.neqPtr rfl Tryz.underlying98 rfl rfl ?_
    refine L.move rfl rfl ?_
    refine L.guardF (dj := 15) (c := false) rfl rfl rfl rfl rfl (by decide) ?_
    refine L.guardF (dj := 15) (c := false) rfl rfl rfl rfl rfl (by decide) ?_
    refine L.guardF (dj := 15) (c := false) rfl rfl rfl rfl rfl (by decide) ?_
    refine L.guardF (dj := 15) (c := false) rfl rfl rfl rfl rfl (by decide) ?_
    refine L.guardF (dj := 15) (c := false) rfl rfl rfl rfl rfl (by decide) ?_
    refine L.pickF rfl rfl rfl ?_
    refine L.nil ?_
    refine T.thenN ?_
    refine T.condF rfl rfl ?_
    refine T.skip ?_
    refine T.thenN ?_
    refine T.seq ?_
    first
    | (have _ := hF0; refine T.bookShut hF qS ?_)
    | (refine T.bookClose (n0 := 0) (F n) (hF n).2 qS ?_; rw [updM_self])
    refine T.region ?_
    refine L.build rfl bu65 (BP.doneE (out := (Value.int .i64 0 :: Value.int .u8 0 :: Value.int .u8 0 :: Value.int .u8 0 :: Value.int .u8 0 :: Value.int .u8 0 :: Value.int .u8 0 :: Value.int .u8 0 :: Value.int .u8 0 :: Value.int .u8 0 :: Value.int .u8 0 :: Value.int .u8 0 :: Value.int .u8 0 :: Value.int .u8 0 :: Value.int .u8 0 :: Value.int .u8 0 :: Value.int .u8 0 :: Value.int .u8 0 :: Value.int .u8 0 :: Value.int .u8 0 :: Value.int .u8 0 :: Value.int .u8 0 :: Value.int .u8 0 :: Value.int .u8 0 :: Value.int .u8 0 :: Value.int .u8 0 :: Value.int .u8 0 :: Value.int .u8 0 :: Value.int .u8 0 :: Value.int .u8 0 :: Value.int .u8 0 :: Value.int .u8 0 :: Value.int .u8 0 :: S [] :: [])) rfl) ?_
    refine L.storeA ag65 rfl rfl qL qO qU qW ?_
    refine L.assign rfl rfl ?_
    refine L.nil ?_
    refine T.thenN ?_
    refine T.ret ?_
    exact T.retAT rfl ag65 rfl qN rfl ⟨by rw [hF0]; rfl, rfl, rfl⟩ qD qF
  · skip
    first | refine L.look1N rfl Tryz.underlying99 kt3 zv98 rfl rfl qM hl ?_ | refine L.look1S rfl Tryz.underlying99 kt3 zv98 rfl rfl qM hl ?_
    refine L.assign rfl rfl ?_
    refine L.nil ?_
    refine T.thenN ?_
    refine T.seq ?_
    try (refine T.bookAt (n0 := 0) hF hl qS (fun hm => ?_))
    refine T.region ?_
    refine L.move rfl rfl ?_
    refine L.neqPtr rfl Tryz.underlying98 rfl rfl ?_
    refine L.move rfl rfl ?_
    refine L.guardT (dj := 15) rfl rfl rfl ?_
    refine L.move rfl rfl ?_
    refine L.guardT (dj := 15) rfl rfl rfl ?_
    refine L.nilCheck rfl rfl ?_
    refine L.guardT (dj := 15) rfl rfl rfl ?_
    first | refine L.field0 rfl fo104_3 rfl ?_ | refine L.field rfl fo104_3 rfl ?_
    refine L.guardT (dj := 15) rfl rfl rfl ?_
    refine L.load rfl sc102 rfl qC ?_
    refine L.guardT (dj := 15) rfl rfl rfl ?_
    refine L.neqPtr rfl Tryz.underlying102 rfl rfl ?_
    refine L.pickT rfl rfl rfl ?_
    refine L.nil ?_
    refine T.thenN ?_
    refine T.cond rfl (fun h21 => ?_) (fun h21 => ?_)
    · try simp only [decide_eq_true_eq, decide_eq_false_iff_not, Bool.not_eq_true', Bool.not_eq_false', Bool.and_eq_true, Bool.or_eq_true] at h21
      obtain ⟨q, hq⟩ : ∃ q, (F n).2.2.2 = some q := by
        cases hp : (F n).2.2.2 with
        | none => simp [hp] at h21
        | some q => exact ⟨q, rfl⟩
      have hq34 : (pcells q).length = 34 := by simp [(hF n).2.2.2.2 q hq]
      refine T.eqv qP (show pA pb (F n).2.2.2 = cl pb 65 (pcells q) from by rw [hq]; rfl) ?_
      refine T.seq ?_
      refine T.region ?_
      refine L.move rfl rfl ?_
      refine L.nilCheck rfl rfl ?_
      first | refine L.field0 rfl fo104_3 rfl ?_ | refine L.field rfl fo104_3 rfl ?_
      refine L.load rfl sc102 rfl qC ?_
      refine L.known (t := 25) rfl (show pptr pb (F n).2.2.2 = .pointer (some ⟨pb, 0, none⟩) from by rw [pptr, hq]; rfl) ?_
      refine L.nilCheck rfl rfl ?_
      refine L.loadA rfl ag65 rfl qN ?_
      refine L.storeA ag65 rfl rfl qL qO qU qW ?_
      refine L.assign rfl rfl ?_
      refine L.nil ?_
      refine T.eqv qP (show cl pb 65 (pcells q) = pA pb (F n).2.2.2 from by rw [hq]; rfl) ?_
      refine T.bookClose (n0 := 0) (F n) ((hF n).2) qS ?_
      rw [updM_self]
      refine T.thenN ?_
      refine T.ret ?_
      refine T.thenR ?_
      exact T.retAT rfl ag65 rfl qN rfl ⟨by rw [hq]; rfl, rfl, rfl⟩ qD qF
    · try simp only [decide_eq_true_eq, decide_eq_false_iff_not, Bool.not_eq_true', Bool.not_eq_false', Bool.and_eq_true, Bool.or_eq_true] at h21
      have hq : (F n).2.2.2 = none := by
        cases hp : (F n).2.2.2 with
        | none => rfl
        | some q => simp [hp] at h21
      refine T.skip ?_
      refine T.thenN ?_
      refine T.seq ?_
      first
      | (have _ := hF0; refine T.bookShut hF qS ?_)
      | (refine T.bookClose (n0 := 0) (F n) (hF n).2 qS ?_; rw [updM_self])
      refine T.region ?_
      refine L.build rfl bu65 (BP.doneE (out := (Value.int .i64 0 :: Value.int .u8 0 :: Value.int .u8 0 :: Value.int .u8 0 :: Value.int .u8 0 :: Value.int .u8 0 :: Value.int .u8 0 :: Value.int .u8 0 :: Value.int .u8 0 :: Value.int .u8 0 :: Value.int .u8 0 :: Value.int .u8 0 :: Value.int .u8 0 :: Value.int .u8 0 :: Value.int .u8 0 :: Value.int .u8 0 :: Value.int .u8 0 :: Value.int .u8 0 :: Value.int .u8 0 :: Value.int .u8 0 :: Value.int .u8 0 :: Value.int .u8 0 :: Value.int .u8 0 :: Value.int .u8 0 :: Value.int .u8 0 :: Value.int .u8 0 :: Value.int .u8 0 :: Value.int .u8 0 :: Value.int .u8 0 :: Value.int .u8 0 :: Value.int .u8 0 :: Value.int .u8 0 :: Value.int .u8 0 :: S [] :: [])) rfl) ?_
      refine L.storeA ag65 rfl rfl qL qO qU qW ?_
      refine L.assign rfl rfl ?_
      refine L.nil ?_
      refine T.thenN ?_
      refine T.ret ?_
      exact T.retAT rfl ag65 rfl qN rfl ⟨by rw [hq]; rfl, rfl, rfl⟩ qD qF
theorem p34 {m : Mind} (h : MOk m) : (pcells (m.2.2.2.getD zP)).length = 34 := by
  cases hp : m.2.2.2 with
  | none => rfl
  | some q => simp [h.2.2.2 q hp]
set_option maxHeartbeats 400000 in
theorem may_spec {b : Nat} {n now : Int} {F : Int → Mind}  : Spec Tryz.prog 13 [.pointer (some ⟨b, 0, none⟩), .int .i64 n, .int .i64 now] [] [bookA b F] (fun v D' M' => v = .bool (mayB F n now) ∧ D' = [] ∧ M' = [bookA b F]) := by
  refine Spec.intro (n := 24) Tryz.func13 rfl rfl (by decide) (Nat.le_of_ble_eq_true rfl) rfl (fun _ => qA) (fun _ => qA) ?_
  intro σ D M
  refine T.bookOk qM (fun hok => ?_)
  have h34 := p34 (hok n)
  refine T.seq ?_
  refine T.region ?_
  refine L.assign rfl rfl ?_
  refine L.nil ?_
  refine T.thenN ?_
  refine T.seq ?_
  refine T.region ?_
  refine L.move rfl rfl ?_
  refine L.move rfl rfl ?_
  refine L.callF rfl (evs.cons rfl <| evs.cons rfl <| evs.nil) qD qS (banned_spec ) (by rintro u D1 M1 ⟨rfl, rfl, rfl⟩; exact ⟨rfl, _, qA, qF⟩) ?_
  refine L.move rfl rfl ?_
  refine L.extract rfl rfl rfl ?_
  refine L.extract rfl rfl rfl ?_
  refine L.alloc rfl ze65 (fun b7 => ?_)
  refine L.storeA ag65 rfl rfl qL qO qU qW ?_
  refine L.assign rfl rfl ?_
  refine L.nil ?_
  refine T.thenN ?_
  refine T.seq ?_
  refine T.region ?_
  refine L.move rfl rfl ?_
  refine L.notB rfl rfl ?_
  refine L.move rfl rfl ?_
  refine L.part (t := 17) rfl (fun h1 => ?_) (fun h1 => ?_)
  · try simp only [decide_eq_true_eq, decide_eq_false_iff_not, Bool.not_eq_true', Bool.not_eq_false', Bool.and_eq_true, Bool.or_eq_true] at h1
    refine L.guardT (dj := 17) rfl rfl rfl ?_
    refine L.move rfl rfl ?_
    refine L.guardT (dj := 17) rfl rfl rfl ?_
    refine L.move rfl rfl ?_
    refine L.guardT (dj := 17) rfl rfl rfl ?_
    refine L.move rfl rfl ?_
    refine L.guardT (dj := 17) rfl rfl rfl ?_
    refine L.callF rfl (evs.cons rfl <| evs.cons rfl <| evs.nil) qD qS (until_spec ) (by rintro u D1 M1 ⟨rfl, rfl, rfl⟩; exact ⟨rfl, _, qA, qF⟩) ?_
    refine L.guardT (dj := 17) rfl rfl rfl ?_
    refine L.geI rfl rfl rfl ?_
    refine L.pickT rfl rfl rfl ?_
    refine L.assign rfl rfl ?_
    refine L.nil ?_
    refine T.thenN ?_
    refine T.ret ?_
    exact T.ret1 rfl rfl ⟨by cases hq : (F n).2.2.2 <;> simp_all [mayB], rfl, rfl⟩ qD qF
  · try simp only [decide_eq_true_eq, decide_eq_false_iff_not, Bool.not_eq_true', Bool.not_eq_false', Bool.and_eq_true, Bool.or_eq_true] at h1
    refine L.guardF (dj := 17) (c := false) rfl rfl rfl rfl rfl (by decide) ?_
    refine L.guardF (dj := 17) (c := false) rfl rfl rfl rfl rfl (by decide) ?_
    refine L.guardF (dj := 17) (c := false) rfl rfl rfl rfl rfl (by decide) ?_
    refine L.guardF (dj := 17) (c := false) rfl rfl rfl rfl rfl (by decide) ?_
    refine L.guardF (dj := 17) (c := false) rfl rfl rfl rfl rfl (by decide) ?_
    refine L.pickF rfl rfl rfl ?_
    refine L.assign rfl rfl ?_
    refine L.nil ?_
    refine T.thenN ?_
    refine T.ret ?_
    exact T.ret1 rfl rfl ⟨by cases hq : (F n).2.2.2 <;> simp_all [mayB], rfl, rfl⟩ qD qF
set_option maxHeartbeats 400000 in
theorem holds_spec {k : Int} {id tx : List UInt8} (hid : id.length = 32) (htx : tx.length ≤ 35184372088832) : Spec Tryz.prog 67 [.agg (pcells (k, id, tx)).toArray] [] [] (fun v D' M' => v = .bool (decide (oidF k tx ≠ id)) ∧ D' = [] ∧ M' = []) := by
  refine Spec.intro (n := 12) Tryz.func67 rfl rfl (by decide) (Nat.le_of_ble_eq_true rfl) rfl (fun _ => qA) (fun _ => qA) ?_
  intro σ D M
  have h34 : (pcells (k, id, tx)).length = 34 := by simp [hid]
  refine T.seq ?_
  refine T.region ?_
  refine L.box rfl rfl rfl (fun b1 => ?_)
  refine L.assign rfl rfl ?_
  refine L.nil ?_
  refine T.thenN ?_
  refine T.seq ?_
  refine T.regionA (clsL [1, 0, 1, 0, 0, 0, 1, 0, 1, 1]) (by kernel_rfl) ?_
  refine A.takeP (i := 0) rfl rfl rfl rfl (by kernel_rfl) (by kernel_rfl) (by kernel_rfl) rfl qD ?_
  first | refine L.field0 rfl fo65_0 rfl ?_ | refine L.field rfl fo65_0 rfl ?_
  refine A.took ?_
  refine A.takeP (i := 2) rfl rfl rfl rfl (by kernel_rfl) (by kernel_rfl) (by kernel_rfl) rfl qD ?_
  first | refine L.field0 rfl fo65_2 rfl ?_ | refine L.field rfl fo65_2 rfl ?_
  refine A.took ?_
  refine A.takeP (i := 6) rfl rfl rfl rfl (by kernel_rfl) (by kernel_rfl) (by kernel_rfl) rfl qD ?_
  first | refine L.field0 rfl fo65_1 rfl ?_ | refine L.field rfl fo65_1 rfl ?_
  refine A.took ?_
  refine A.take (i := 1) rfl rfl rfl rfl (by kernel_rfl) (by kernel_rfl) (by kernel_rfl) (by kernel_rfl) rfl qD qF ?_
  refine L.load rfl sc3 rfl qC ?_
  refine A.took ?_
  refine A.take (i := 3) rfl rfl rfl rfl (by kernel_rfl) (by kernel_rfl) (by kernel_rfl) (by kernel_rfl) rfl qD qF ?_
  refine L.load rfl sc9 rfl qC ?_
  refine A.took ?_
  refine A.take (i := 7) rfl rfl rfl rfl (by kernel_rfl) (by kernel_rfl) (by kernel_rfl) (by kernel_rfl) rfl qD qF ?_
  refine L.loadA rfl ag50 rfl qN ?_
  refine A.took ?_
  refine A.branch (is := [4]) (by kernel_rfl) (by decide) (Each.cons rfl ?_ <| Each.nil) 
  refine L.buildSlice rfl bs156 (by decide) (BP.one rfl rfl rfl <| BP.doneE (out := []) rfl) (fun b7 => ?_)
  refine L.toOwn (len := 1) qP (rows := [tx].map ys) (sz := 1) (by rfl) rfl (by simp) ?_
  refine L.ownRsl qP ?_
  refine A.back rfl qD qF ?_
  refine A.branch (is := [5]) (by kernel_rfl) (by decide) (Each.cons rfl ?_ <| Each.nil) 
  refine L.call rfl (evs.cons rfl <| evs.cons rfl <| evs.nil) qD qS (oidof_spec (ls := [tx]) (by simpa using htx) (by simp)) ?_
  rintro _ _ _ ⟨rfl, rfl, rfl⟩
  refine L.norm qA qA ?_
  rw [show oidF k [tx].flatten = oidF k tx from by simp]
  have h32 := oidF_len k tx
  refine A.back rfl qD qF ?_
  refine A.takeP (i := 8) rfl rfl rfl rfl (by kernel_rfl) (by kernel_rfl) (by kernel_rfl) rfl qD ?_
  refine L.neqArrI (by kernel_rfl) rfl Tryz.underlying50 Tryz.underlying5 sc5 rfl rfl qL qL ?_
  refine A.took ?_
  refine A.takeP (i := 9) rfl rfl rfl rfl (by kernel_rfl) (by kernel_rfl) (by kernel_rfl) rfl qD ?_
  refine L.assign rfl rfl ?_
  refine A.took ?_
  refine A.done (by kernel_rfl) ?_
  refine T.thenN ?_
  refine T.ret ?_
  exact T.ret1 rfl rfl ⟨rfl, rfl, rfl⟩ qD qF
set_option maxHeartbeats 400000 in
theorem ban_spec {b : Nat} {n k : Int} {id tx : List UInt8} {F : Int → Mind} (hid : id.length = 32) (htx : tx.length ≤ 35184372088832) : Spec Tryz.prog 46 [.pointer (some ⟨b, 0, none⟩), .int .i64 n, .agg (pcells (k, id, tx)).toArray] [] [bookA b F] (fun v D' M' => v = .int .i64 (if oidF k tx = id then 10 else 0) ∧ D' = [] ∧ M' = [bookA b (banB F n (k, id, tx))]) := by
  refine Spec.intro (n := 22) Tryz.func46 rfl rfl (by decide) (Nat.le_of_ble_eq_true rfl) rfl (fun _ => qA) (fun _ => qA) ?_
  intro σ D M
  have h34 : (pcells (k, id, tx)).length = 34 := by simp [hid]
  refine T.seq ?_
  refine T.region ?_
  refine L.box rfl rfl rfl (fun b5 => ?_)
  refine L.assign rfl rfl ?_
  refine L.nil ?_
  refine T.thenN ?_
  refine T.seq ?_
  refine T.seq ?_
  refine T.region ?_
  refine L.loadA rfl ag65 rfl qN ?_
  refine L.callF rfl (evs.cons rfl <| evs.nil) qD qS (holds_spec qT qT) (by rintro u D1 M1 ⟨rfl, rfl, rfl⟩; exact ⟨rfl, _, qA, qF⟩) ?_
  refine L.notB rfl rfl ?_
  refine L.nil ?_
  refine T.thenN ?_
  refine T.cond rfl (fun h10 => ?_) (fun h10 => ?_)
  · try simp only [decide_eq_true_eq, decide_eq_false_iff_not, Bool.not_eq_true', Bool.not_eq_false', Bool.and_eq_true, Bool.or_eq_true] at h10
    have ho : oidF k tx = id := by simpa using h10
    refine T.eqv qP (show bookA b F = bookA b (banB F n (k, id, tx)) from by rw [banB, if_pos ho]) ?_
    refine T.seq ?_
    refine T.region ?_
    refine L.assign rfl rfl ?_
    refine L.nil ?_
    refine T.thenN ?_
    refine T.ret ?_
    refine T.thenR ?_
    exact T.ret1 rfl rfl ⟨by rw [if_pos ho], rfl, rfl⟩ qD qF
  · try simp only [decide_eq_true_eq, decide_eq_false_iff_not, Bool.not_eq_true', Bool.not_eq_false', Bool.and_eq_true, Bool.or_eq_true] at h10
    have ho : ¬ oidF k tx = id := by simpa using h10
    refine T.skip ?_
    refine T.thenN ?_
    refine T.seq ?_
    refine T.region ?_
    refine L.move rfl rfl ?_
    refine L.move rfl rfl ?_
    refine L.call rfl (evs.cons rfl <| evs.cons rfl <| evs.nil) qD qS (at_spec) ?_
    rintro _ _ _ ⟨blk, pb, rfl, rfl, rfl⟩
    refine L.norm qA qA ?_
    refine L.rest qM (fun hm => ?_)
    have hm1 := hm.1
    have hm2 := hm.2.1
    have hm3 := hm.2.2.1
    refine L.assign rfl rfl ?_
    refine L.nil ?_
    refine T.thenN ?_
    refine T.seq ?_
    refine T.seq ?_
    refine T.region ?_
    refine L.move rfl rfl ?_
    refine L.nilCheck rfl rfl ?_
    first | refine L.field0 rfl fo104_3 rfl ?_ | refine L.field rfl fo104_3 rfl ?_
    refine L.load rfl sc102 rfl qC ?_
    refine L.eqlPtr rfl Tryz.underlying102 rfl rfl ?_
    refine L.nil ?_
    refine T.thenN ?_
    refine T.cond rfl (fun h18 => ?_) (fun h18 => ?_)
    · try simp only [decide_eq_true_eq, decide_eq_false_iff_not, Bool.not_eq_true', Bool.not_eq_false', Bool.and_eq_true, Bool.or_eq_true] at h18
      have hq : (F n).2.2.2 = none := by
        cases hp : (F n).2.2.2 with
        | none => rfl
        | some q => simp [hp] at h18
      refine T.region ?_
      refine L.move rfl rfl ?_
      refine L.nilCheck rfl rfl ?_
      first | refine L.field0 rfl fo104_3 rfl ?_ | refine L.field rfl fo104_3 rfl ?_
      refine L.store sc102 rfl rfl rfl qU qE ?_
      refine L.nil ?_
      refine T.eqv qP (show cl b5 65 (pcells (k, id, tx)) = pA b5 (banM (F n) (k, id, tx)).2.2.2 from by rw [banM, hq]; rfl) ?_
      refine T.eqv (A := cl blk 104 _) (B := cl blk 104 (mcells b5 (banM (F n) (k, id, tx)))) qP (by rw [mcells, banM, hq]; rfl) ?_
      refine T.bookClose (n0 := 0) (banM (F n) (k, id, tx)) (banM_ok hm hid) qS ?_
      refine T.thenN ?_
      refine T.seq ?_
      refine T.eqv qP (show bookA b (updM F n (banM (F n) (k, id, tx))) = bookA b (banB F n (k, id, tx)) from by rw [banB, if_neg ho]) ?_
      refine T.region ?_
      refine L.assign rfl rfl ?_
      refine L.nil ?_
      refine T.thenN ?_
      refine T.ret ?_
      exact T.ret1 rfl rfl ⟨by rw [if_neg ho], rfl, rfl⟩ qD qF
    · try simp only [decide_eq_true_eq, decide_eq_false_iff_not, Bool.not_eq_true', Bool.not_eq_false', Bool.and_eq_true, Bool.or_eq_true] at h18
      obtain ⟨q, hq⟩ : ∃ q, (F n).2.2.2 = some q := by
        cases hp : (F n).2.2.2 with
        | none => simp [hp] at h18
        | some q => exact ⟨q, rfl⟩
      have hbm : banM (F n) (k, id, tx) = F n := by
        simp only [banM, hq, Option.getD_some]; rw [← hq]
      refine T.bookClose (n0 := 0) (F n) hm qS ?_
      refine T.eqv qP (show bookA b (updM F n (F n)) = bookA b (updM F n (banM (F n) (k, id, tx))) from by rw [hbm]) ?_
      refine T.skip ?_
      refine T.thenN ?_
      refine T.seq ?_
      refine T.eqv qP (show bookA b (updM F n (banM (F n) (k, id, tx))) = bookA b (banB F n (k, id, tx)) from by rw [banB, if_neg ho]) ?_
      refine T.region ?_
      refine L.assign rfl rfl ?_
      refine L.nil ?_
      refine T.thenN ?_
      refine T.ret ?_
      exact T.ret1 rfl rfl ⟨by rw [if_neg ho], rfl, rfl⟩ qD qF
set_option maxHeartbeats 400000 in
theorem cut_spec {l : List UInt8} {n : Nat}  : Spec Tryz.prog 51 [S l, .int .i64 (n : Int)] [] [] (fun v D' M' => v = S (l.take n) ∧ D' = [] ∧ M' = []) := by
  refine Spec.intro (n := 13) Tryz.func51 rfl rfl (by decide) (Nat.le_of_ble_eq_true rfl) rfl (fun _ => qA) (fun _ => qA) ?_
  intro σ D M
  refine T.seq ?_
  refine T.region ?_
  refine L.assign rfl rfl ?_
  refine L.nil ?_
  refine T.thenN ?_
  refine T.seq ?_
  refine T.seq ?_
  refine T.region ?_
  refine L.move rfl rfl ?_
  refine L.lenStr rfl Tryz.underlying9 rfl ?_
  refine L.move rfl rfl ?_
  refine L.gtI rfl rfl rfl ?_
  refine L.nil ?_
  refine T.thenN ?_
  refine T.cond rfl (fun h8 => ?_) (fun h8 => ?_)
  · try simp only [decide_eq_true_eq, decide_eq_false_iff_not, Bool.not_eq_true', Bool.not_eq_false', Bool.and_eq_true, Bool.or_eq_true] at h8
    refine T.seq ?_
    refine T.region ?_
    refine L.move rfl rfl ?_
    refine L.move rfl rfl ?_
    refine L.sliceS (a := 0) (b := n) rfl Tryz.underlying9 rfl rfl ⟨_, (by first | rfl | (congr 2; omega))⟩ qI qI ?_
    refine L.assign rfl rfl ?_
    refine L.nil ?_
    refine T.thenN ?_
    refine T.ret ?_
    refine T.thenR ?_
    exact T.ret1 rfl rfl ⟨rfl, rfl, rfl⟩ qD qF
  · try simp only [decide_eq_true_eq, decide_eq_false_iff_not, Bool.not_eq_true', Bool.not_eq_false', Bool.and_eq_true, Bool.or_eq_true] at h8
    refine T.skip ?_
    refine T.thenN ?_
    refine T.seq ?_
    refine T.region ?_
    refine L.move rfl rfl ?_
    refine L.assign rfl rfl ?_
    refine L.nil ?_
    refine T.thenN ?_
    refine T.ret ?_
    exact T.ret1 rfl rfl ⟨by rw [List.take_of_length_le (by omega)], rfl, rfl⟩ qD qF
set_option maxHeartbeats 400000 in
theorem obytes_spec {l : List UInt8} (hl : l.length = 32) : Spec Tryz.prog 10 [.agg (l.map Y).toArray] [] [] (fun v D' M' => v = S l ∧ D' = [] ∧ M' = []) := by
  refine Spec.intro (n := 5) Tryz.func10 rfl rfl (by decide) (Nat.le_of_ble_eq_true rfl) rfl (fun _ => qA) (fun _ => qA) ?_
  intro σ D M
  refine T.seq ?_
  refine T.region ?_
  refine L.box rfl rfl rfl (fun b1 => ?_)
  refine L.assign rfl rfl ?_
  refine L.nil ?_
  refine T.toOwn (len := 32) qP (rows := l.map yr) (sz := 1) (yr_flat l) (by simp [hl]) (by simp) ?_
  refine T.ownRsl qP ?_
  refine T.thenN ?_
  refine T.seq ?_
  refine T.region ?_
  refine L.sliceArr rfl Tryz.underlying50 sz5 rfl Bd.no Bd.no qI qI ?_
  refine L.known (t := 3) (u := .slice (some ⟨b1, 0, none⟩) 32 32) rfl (by first | rfl | simp [cutA, Addr.add]) ?_
  refine L.bytesStr rfl Tryz.underlying97 Tryz.underlying5 Tryz.underlying9 rfl qM ?_
  refine L.assign rfl rfl ?_
  refine L.nil ?_
  refine T.thenN ?_
  refine T.ret ?_
  exact T.ret1 rfl rfl ⟨rfl, rfl, rfl⟩ qD qF
end Cv
