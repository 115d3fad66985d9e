/-
  FnExactChunkerOk answers true at every chunker: both functions come to the same. No condition.
-/
import Derived.Test.YtfckiehbpgbpcaaP0
import Derived.Test.YtfckiehbpgbpcaaPimplChunkerOk
import Derived.Test.YtfckiehbpgbpcaaPlawsFnExactChunkerOk
import Derived.Test.YtfckiehbpgbpcaaPlawsszChunker
import Derived.Test.YtfckiehbpgbpcaaPlawstoChunker
import Derived.Test.YtfckiehbpgbpcaaPspecChunkerOk
import Derived.Test.YtfckiehbpgbpcaaQ0
import Derived.Test.YtfckiehbpgbpcaaQchunker
namespace Go.Proofs.Ytfckiehbpgbpcaa.Pure
set_option linter.unusedVariables false
set_option linter.unusedSimpArgs false
open Go.RowKit Go.Proofs.Ytfckiehbpgbpcaa.P Go.Proofs.Ytfckiehbpgbpcaa.Q Go.Proofs.YtfckiehbpgbpcaaW.PrintWords
theorem FnExactChunkerOk : laws_FnExactChunkerOk.Pure := by
  intro st left dg bd _ _ hd hb
  unfold laws_FnExactChunkerOk.f laws_toChunker.f laws_szChunker.f
  rw [wrap_in (by omega) (by omega)]
  by_cases h1 : (1048576 : Int) - (dg.size : Int) < 0
  · exact ⟨0, by simp [h1]⟩
  · rw [if_neg h1, wrap_in (by omega) (by omega)]
    by_cases h2 : (1048576 : Int) - (dg.size : Int) - (bd.size : Int) < 0
    · exact ⟨0, by simp [h2]⟩
    · rw [if_neg h2]
      have E : Ev (fun k => (spec_ChunkerOk.f k st left dg bd).bind fun t1 => (impl_ChunkerOk.f k st left dg bd).bind fun t2 => if (t2 != t1) = true then some false else some true) true :=
        Ev.bind (spec_ChunkerOk_ev st left dg bd (by omega)) (Ev.bind (impl_ChunkerOk_ev st left dg bd (by omega)) (ev_const (by simp)))
      obtain ⟨k, hk⟩ := E.rounds
      refine ⟨k, ?_⟩
      simp only [Option.bind_some, if_neg h2]
      exact hk
end Go.Proofs.Ytfckiehbpgbpcaa.Pure
