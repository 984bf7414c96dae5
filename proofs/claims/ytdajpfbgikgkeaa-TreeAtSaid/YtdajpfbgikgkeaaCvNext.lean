/-
  My own library for walks, a text of it (CvNext): separation logic over the kit's Calls; no statement of this seat stands here.
-/
import Derived.Test.YtdajpfbgikgkeaaCvDel
set_option linter.unusedVariables false
set_option linter.unusedSimpArgs false
set_option linter.unusedSectionVars false
namespace Cv
open Go
section
variable {κ ν : Type} [DecidableEq κ]
theorem look_of_mem {l : List (κ × ν)} (hn : (l.map Prod.fst).Nodup) {k : κ} {v : ν} (h : (k, v) ∈ l) : look l k = some v := by
  induction l with
  | nil => cases h
  | cons p l ih =>
    obtain ⟨k', v'⟩ := p
    simp only [List.map_cons, List.nodup_cons] at hn
    rcases List.mem_cons.1 h with e | e
    · cases e; simp [look]
    · have hne : k' ≠ k := by
        rintro rfl
        exact hn.1 (List.mem_map_of_mem (f := Prod.fst) e)
      simp only [look, if_neg hne]
      exact ih hn.2 e
theorem ent_inj {l : List (κ × ν)} {kenc : κ → Value} {k : κ} {v : ν} (hinj : ∀ a b, kenc a = kenc b → a = b) (hn : (l.map Prod.fst).Nodup) (hv : (k, v) ∈ l) : ∀ k' v', (k', v') ∈ l → kenc k' = kenc k → v' = v := fun k' v' h e => by
  obtain rfl := hinj _ _ e
  have h1 := look_of_mem hn h
  rw [look_of_mem hn hv] at h1
  exact (Option.some.inj h1).symm
theorem iK_inj (a b : Int) (h : iK a = iK b) : a = b := by unfold iK at h; injection h
end
section
variable {σ : World} {n : Nat} {G : Act → World → Prop} {K : Env} {D M N : List Asn} {κ ν : Type} {kenc : κ → Value} {venc : ν → Value}
theorem T.mpNodup {b : Nat} {l : List (κ × ν)} (hm : mp b kenc venc l ∈ M) (next : (l.map Prod.fst).Nodup → T σ n G K D M) : T σ n G K D M :=
  T.pure hm (fun z ⟨_, _, _, _, h, _⟩ => h) next
end
section
variable {P : Program} {σ : World} {n : Nat} {Q : Post} {K : Env} {D M : List Asn} {m : Option (List Asn × List Asn)} {ops : Array Oper} {rest : List Oper} {d : Nat} {ty : TypeId} {pos : String} {aft : Array Edge} {κ ν : Type} [DecidableEq κ] {kenc : κ → Value} {venc : ν → Value}
theorem L.lenMap {t kt et : TypeId} {x : Operand} {b : Nat} {l : List (κ × ν)} (hd : Nat.blt d n = true) (hU : P.underlying t = some (.map kt et)) (hx : ev K x = some (.map (some b))) (hm : mp b kenc venc l ∈ M) (next : TL m P σ n ops Q rest ((d, .int .i64 l.length) :: K) D M) :
    TL m P σ n ops Q (⟨some d, .call { callee := .builtin .len, args := #[x], argTypes := #[t] }, ty, pos, aft, none⟩ :: rest) K D M :=
  L.quiet hd (fun a w s ss => by
    obtain ⟨es, clock, h1, h2⟩ := mp_run ss hm
    have ex : a.eval x = _ := s.eval hx
    have hl : es.size = l.length := by have := congrArg List.length h2; simpa using this
    have hr : (Builtin.len_ #[t] ty #[.map (some b)]).run P w = .ok (.int .i64 l.length) w := by
      unfold Builtin.len_
      have hg : (getObj b).run P w = .ok (.map es clock) w := by simp [getObj, Sem.run, h1]
      show Sem.run P (underlying t >>= _) w = _
      rw [Sem.run_bind, run_underlying hU, Result.andThen_ok]
      show Sem.run P (getObj b >>= _) w = _
      rw [Sem.run_bind, hg, Result.andThen_ok]
      show Sem.run P (Pure.pure (goInt es.size)) w = _
      rw [hl]; rfl
    simp only [execOp, resolve, List.map_toArray, List.map_cons, List.map_nil, ex]
    simp [invoke, builtin, hr, go_sem]) next
end
end Cv
