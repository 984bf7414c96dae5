/-
  The model of a table of addresses.
-/
import Derived.Test.YtlbhafbggelgkaaB19
import Derived.Test.YtlbhafbggelgkaaCvEach
import Derived.Test.YtlbhafbggelgkaaCvMore
import Derived.Test.YtlbhafbggelgkaaProg
import Derived.KernelRfl
set_option maxRecDepth 10000
set_option linter.unusedSimpArgs false
set_option linter.unusedVariables false
namespace Cv
open Go Go.Proofs
/-! ## the table's rows -/
abbrev Row := List Int × Int
def rowF (own n : Int) : Int := sharedF (idF own) (idF n)
def VA (own n : Int) : Prop := 0 ≤ n ∧ n < 64 ∧ n ≠ own
def ROk (own k : Int) (r : Row) : Prop := (∀ m ∈ r.1, VA own m ∧ rowF own m = k) ∧ r.1.Nodup ∧ r.1.length ≤ 4 ∧ (r.2 = -1 ∨ (VA own r.2 ∧ rowF own r.2 = k ∧ r.2 ∉ r.1 ∧ r.1.length = 4))
def zR19 : Row := ([], -1)
theorem zR_ok {own k : Int} : ROk own k zR19 := ⟨fun m h => (by simp [zR19] at h), (by simp [zR19]), (by simp [zR19]), .inl rfl⟩
@[reducible] def rcells (a : Option Addr) (cap : Nat) (r : Row) : List Value := [.slice a r.1.length cap, .int .i64 r.2]
@[reducible] def rO (a : Option Addr) (cap : Nat) (r : Row) : Asn := own 1 3 a r.1.length cap (r.1.map e3)
abbrev RV := Nat × Option Addr × Nat × Row
def rA (x : Int × RV) : Asn := all [cl x.2.1 62 (rcells x.2.2.1 x.2.2.2.1 x.2.2.2.2), rO x.2.2.1 x.2.2.2.1 x.2.2.2.2]
def rV (x : RV) : Value := .pointer (some ⟨x.1, 0, none⟩)
def getR (ml : List (Int × RV)) (k : Int) : Row := ((look ml k).map (·.2.2.2)).getD zR19
def updR (F : Int → Row) (k : Int) (r : Row) : Int → Row := fun j => if j = k then r else F j
def FitR (o : Int) (F : Int → Row) (ml : List (Int × RV)) : Prop := ∀ k, getR ml k = F k ∧ ROk o k (F k)
@[reducible] def hdr (o : Int) (mb : Nat) : List Value := .int .i64 o :: ((idF o).map Y ++ [.map (some mb)])
def tblA (b : Nat) (o : Int) (F : Int → Row) : Asn := fun z => ∃ x : {p : Nat × List (Int × RV) // FitR o F p.2},
  Holds [cl b 57 (hdr o x.1.1), mp x.1.1 iK rV x.1.2, each rA x.1.2] z
def rstA (b : Nat) (o k : Int) (blk : Nat) (F : Int → Row) : Asn := fun z => ∃ x : {p : Nat × Option Addr × Nat × List (Int × RV) // FitR o F p.2.2.2 ∧ look p.2.2.2 k = some (blk, p.2.1, p.2.2.1, F k)},
  Holds [cl b 57 (hdr o x.1.1), mp x.1.1 iK rV x.1.2.2.2, each rA (del x.1.2.2.2 k)] z
section
variable {σ : World} {sn : Nat} {G : Act → World → Prop} {K : Env} {D M N : List Asn} {b mb blk cap n0 : Nat} {o k : Int} {a : Option Addr} {F : Int → Row} {ml : List (Int × RV)} {r : Row}
theorem T.emp (next : T σ sn G K D (all [] :: M)) : T σ sn G K D M := T.drop (fun h (H : Holds M h) => (show Holds (all [] :: M) h from ⟨fun _ => none, h, (fun _ _ e => by cases e), Hp.le.refl h, fun _ => .inl rfl, trivial, H⟩)) next
theorem T.tblOpen (hM : Pull (tblA b o F) M N) (next : ∀ mb ml, FitR o F ml → T σ sn G K D (cl b 57 (hdr o mb) :: mp mb iK rV ml :: each rA ml :: N)) : T σ sn G K D M :=
  T.openEx (α := {p : Nat × List (Int × RV) // FitR o F p.2}) (L := fun x => [cl b 57 (hdr o x.1.1), mp x.1.1 iK rV x.1.2, each rA x.1.2]) hM (fun z H => H) (fun ⟨(mb, ml), h⟩ => next mb ml h)
theorem T.tblShut (h : FitR o F ml) (hM : Sel [cl b 57 (hdr o mb), mp mb iK rV ml, each rA ml] M N) (next : T σ sn G K D (tblA b o F :: N)) : T σ sn G K D M :=
  T.shut hM (fun z H => ⟨⟨(mb, ml), h⟩, H⟩) next
theorem fitR_look (h : FitR o F ml) (hl : look ml k = some (blk, a, cap, r)) : r = F k := by
  have := (h k).1
  rw [getR, hl] at this
  exact this
theorem fitR_none (h : FitR o F ml) (hl : look ml k = none) : F k = zR19 := by
  have := (h k).1
  rw [getR, hl] at this
  exact this.symm
theorem fitR_put (h : FitR o F ml) (hm : ROk o k r) : FitR o (updR F k r) (put ml k (blk, a, cap, r)) := fun j => by
  unfold getR updR
  rw [look_put]
  by_cases e : j = k
  · subst e; simp [hm]
  · simp only [if_neg e]; exact h j
theorem updR_self : updR F k (F k) = F := by
  funext j; unfold updR; split
  · rename_i e; subst e; rfl
  · rfl
theorem fitR_new (h : FitR o F ml) (hl : look ml k = none) : FitR o F (put ml k (blk, a, cap, zR19)) := by
  have e : updR F k zR19 = F := by rw [← fitR_none h hl, updR_self]
  have := fitR_put (k := k) (blk := blk) (a := a) (cap := cap) h (zR_ok (own := o) (k := k))
  rwa [e] at this
theorem T.tblAt (h : FitR o F ml) (hl : look ml k = some (blk, a, cap, r)) (hM : Sel [cl b 57 (hdr o mb), mp mb iK rV ml, each rA ml] M N)
    (next : r = F k → T σ sn G K D (rstA b o k blk F :: cl blk 62 (rcells a cap (F k)) :: rO a cap (F k) :: N)) : T σ sn G K D M := by
  have hm := fitR_look h hl
  subst hm
  refine T.drop hM ?_
  show T σ sn G K D (cl b 57 (hdr o mb) :: mp mb iK rV ml :: each rA ml :: N)
  refine T.eachOpen (l := ml) (N := cl b 57 (hdr o mb) :: mp mb iK rV ml :: N) qP hl ?_
  refine T.unfold (A := rA (k, blk, a, cap, F k)) [cl blk 62 (rcells a cap (F k)), rO a cap (F k)] qP rfl AppL.refl ?_
  show T σ sn G K D (cl blk 62 (rcells a cap (F k)) :: rO a cap (F k) :: each rA (del ml k) :: cl b 57 (hdr o mb) :: mp mb iK rV ml :: N)
  refine T.shut (A := rstA b o k blk F) (L := [cl b 57 (hdr o mb), mp mb iK rV ml, each rA (del ml k)]) (N := cl blk 62 (rcells a cap (F k)) :: rO a cap (F k) :: N) (by repeat (first | exact Sel.nil | (apply Sel.cons; focus (repeat (first | with_reducible exact Pull.here | apply Pull.there))))) (fun z H => ⟨⟨(mb, a, cap, ml), h, hl⟩, H⟩) ?_
  exact next rfl
theorem T.tblClose (r : Row) (hm : ROk o k r) (hM : Sel [rstA b o k blk F, cl blk 62 (rcells a cap r), rO a cap r] M N)
    (next : T σ sn G K D (tblA b o (updR F k r) :: N)) : T σ sn G K D M := by
  refine T.drop hM ?_
  show T σ sn G K D (rstA b o k blk F :: cl blk 62 (rcells a cap r) :: rO a cap r :: N)
  refine T.openEx (α := {p : Nat × Option Addr × Nat × List (Int × RV) // FitR o F p.2.2.2 ∧ look p.2.2.2 k = some (blk, p.2.1, p.2.2.1, F k)}) (A := rstA b o k blk F) (L := fun x => [cl b 57 (hdr o x.1.1), mp x.1.1 iK rV x.1.2.2.2, each rA (del x.1.2.2.2 k)]) (N := cl blk 62 (rcells a cap r) :: rO a cap r :: N) qP (fun z H => H) ?_
  rintro ⟨⟨mb, a0, c0, ml⟩, h, hl⟩
  show T σ sn G K D (cl b 57 (hdr o mb) :: mp mb iK rV ml :: each rA (del ml k) :: cl blk 62 (rcells a cap r) :: rO a cap r :: N)
  refine T.foldAs (rA (k, blk, a, cap, r)) (L := [cl blk 62 (rcells a cap r), rO a cap r]) (N := cl b 57 (hdr o mb) :: mp mb iK rV ml :: each rA (del ml k) :: N) (by repeat (first | exact Sel.nil | (apply Sel.cons; focus (repeat (first | with_reducible exact Pull.here | apply Pull.there))))) rfl ?_
  refine T.eachShut (l := ml) (blk, a, cap, r) hl (N := cl b 57 (hdr o mb) :: mp mb iK rV ml :: N) (by repeat (first | exact Sel.nil | (apply Sel.cons; focus (repeat (first | with_reducible exact Pull.here | apply Pull.there))))) ?_
  refine T.eqv (A := mp mb iK rV ml) (B := mp mb iK rV (put ml k (blk, a, cap, r))) (N := each rA (put ml k (blk, a, cap, r)) :: cl b 57 (hdr o mb) :: N) qP (mp_put_same (u := (blk, a, cap, r)) hl rfl).symm ?_
  exact T.tblShut (N := N) (fitR_put h hm) (by repeat (first | exact Sel.nil | (apply Sel.cons; focus (repeat (first | with_reducible exact Pull.here | apply Pull.there))))) next
theorem T.rstOk (hm : rstA b o k blk F ∈ M) (next : ROk o k (F k) → T σ sn G K D M) : T σ sn G K D M :=
  T.pure hm (fun z ⟨⟨p, h, _⟩, _⟩ => (h k).2) next
theorem T.tblOk (hm : tblA b o F ∈ M) (next : (∀ k, ROk o k (F k)) → T σ sn G K D M) : T σ sn G K D M :=
  T.pure hm (fun z ⟨⟨p, h⟩, _⟩ k => (h k).2) next
end


end Cv
