/-
  FnExactStrong answers true at every two tags: both functions come to the same. No condition.
-/
import Derived.Test.YtfckiehbpgbpcaaP0
import Derived.Test.YtfckiehbpgbpcaaPimplStrong
import Derived.Test.YtfckiehbpgbpcaaPlawsFnExactStrong
import Derived.Test.YtfckiehbpgbpcaaPlawstoTag
import Derived.Test.YtfckiehbpgbpcaaPspecStrong
import Derived.Test.YtfckiehbpgbpcaaQ0
import Derived.Test.YtfckiehbpgbpcaaQtag
namespace Go.Proofs.Ytfckiehbpgbpcaa.Pure
set_option linter.unusedVariables false
set_option linter.unusedSimpArgs false
open Go.RowKit Go.Proofs.Ytfckiehbpgbpcaa.P Go.Proofs.Ytfckiehbpgbpcaa.Q Go.Proofs.YtfckiehbpgbpcaaW.PrintWords
theorem FnExactStrong : laws_FnExactStrong.Pure := by
  intro w s w2 s2 hs hs2
  obtain ⟨r, hr, h0, hl⟩ := szTag_is w s 1048576 hs (by omega) (by omega)
  unfold laws_FnExactStrong.f laws_toTag.f
  by_cases hn : r < 0
  · exact ⟨0, by rw [hr]; simp [hn]⟩
  · obtain ⟨r2, hr2, h2, _⟩ := szTag_is w2 s2 r hs2 (by omega) (by omega)
    by_cases hn2 : r2 < 0
    · exact ⟨0, by rw [hr]; simp [hn, hr2, hn2]⟩
    · have z1 := h0 (by omega)
      have z2 := h2 (by omega)
      have E : Ev (fun k => spec_Strong.f k w s w2 s2) (tagOk s && (tagOk s2 && (!w && (!w2 && (s.toList == s2.toList))))) := by
        unfold spec_Strong.f
        refine Ev.bind (spec_TagOk_ev w s (by omega)) ?_
        by_cases t1 : tagOk s = true
        · simp only [t1, if_true]
          refine Ev.bind (spec_TagOk_ev w2 s2 (by omega)) ?_
          by_cases t2 : tagOk s2 = true
          · cases w <;> cases w2 <;> simp [t2] <;> exact Ev.now _
          · simp [t2]; exact Ev.now _
        · simp [t1]; exact Ev.now _
      obtain ⟨k, hk⟩ := E.rounds
      refine ⟨k, ?_⟩
      rw [hr]
      simp only [Option.bind_some, hn, if_false, hr2, hn2, hk]
      unfold impl_Strong.f
      rw [impl_TagOk_is w s (by omega)]
      simp only [Option.bind_some]
      by_cases e : s.toList = s2.toList
      · have := eq_of_toList e
        subst this
        cases tagOk s <;> cases w <;> cases w2 <;> simp
      · have eb : (s.toList == s2.toList) = false := by simpa using e
        cases tagOk s <;> cases tagOk s2 <;> cases w <;> cases w2 <;> simp [eb]
end Go.Proofs.Ytfckiehbpgbpcaa.Pure
