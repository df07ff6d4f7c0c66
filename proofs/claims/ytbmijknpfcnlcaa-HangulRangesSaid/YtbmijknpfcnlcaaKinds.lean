/- Contracts of hangul.Kind and of the reference's Kind: both return the kind of the number. -/
import Derived.Test.YtbmijknpfcnlcaaProg
import Derived.Test.YtbmijknpfcnlcaaPlain
import Derived.WalkKit
import Derived.WalkLawsBesides
import Derived.Lib.Hide
namespace Go.Proofs.Ytbmijknpfcnlcaa
open Go.RowKit

theorem Kind_any (c : Int) (w : World) : Calls Try.prog 10 #[.int .i64 c] w fun e w' => e = .returned (.int .i64 (Hg.kind c)) ∧ w = w' := by
  rcases Hg.cases6 c with ⟨h1, h2, hk⟩ | ⟨h1, h2, hk⟩ | ⟨h1, h2, hk⟩ | ⟨h1, h2, h3, hk⟩ | ⟨h1, h2, h3, hk⟩ | ⟨h1, h2, h3, h4, hk⟩ <;> rw [hk] <;> clear hk
  all_goals
    go_enter Try.func10, Try.ntmps10
    go_wp2
    all_goals (go_ret; exact ⟨rfl, rfl⟩)

theorem refKind_any (c : Int) (w : World) : Calls Try.prog 11 #[.int .i64 c] w fun e w' => e = .returned (.int .i64 (Hg.kind c)) ∧ w = w' := by
  rcases Hg.cases6 c with ⟨h1, h2, hk⟩ | ⟨h1, h2, hk⟩ | ⟨h1, h2, hk⟩ | ⟨h1, h2, h3, hk⟩ | ⟨h1, h2, h3, hk⟩ | ⟨h1, h2, h3, h4, hk⟩ <;> rw [hk] <;> clear hk
  all_goals
    go_enter Try.func11, Try.ntmps11
    go_wp2
    all_goals (go_ret; exact ⟨rfl, rfl⟩)

end Go.Proofs.Ytbmijknpfcnlcaa
