import Derived.Test.YthflkloghbhhgaaProg
import Derived.WalkKit
import Derived.WalkSpells
import Derived.WalkLawsBesides
import Derived.Outline
import Derived.Deep.QuietTactic
import Derived.BigQuiet
import Derived.Test.YthflkloghbhhgaaSh
namespace Go.Proofs.Ythflkloghbhhgaa.Rw
open Go.RowKit Go.Proofs.YthflkloghbhhgaaW.PrintWords Go.Proofs.Ythflkloghbhhgaa.Sh
set_option linter.unusedVariables false
set_option linter.unusedSimpArgs false
variable {p n c : Nat} {A : Option Addr} {fr mo : Int} {w : World}
theorem len_any (hb : w.heap[p]? = some (.cells #[.int .u32 fr, .int .i64 mo, .slice A n c] 65 (0, 0))) :
    Calls Try.prog 11 #[.pointer (some ⟨p, 0, none⟩)] w fun e w' => e = .returned (.int .i64 n) ∧ w = w' := by
  have hc := cc3 hb
  clear hb
  go_enter Try.func11, Try.ntmps11
  go_wp2
  go_ret
  exact ⟨rfl, rfl⟩
theorem from_any (hb : w.heap[p]? = some (.cells #[.int .u32 fr, .int .i64 mo, .slice A n c] 65 (0, 0))) :
    Calls Try.prog 16 #[.pointer (some ⟨p, 0, none⟩)] w fun e w' => e = .returned (.int .u32 fr) ∧ w = w' := by
  have hc := cc3 hb
  clear hb
  go_enter Try.func16, Try.ntmps16
  go_wp2
  go_ret
  exact ⟨rfl, rfl⟩
theorem free_any (hb : w.heap[p]? = some (.cells #[.int .u32 fr, .int .i64 mo, .slice A n c] 65 (0, 0))) :
    Calls Try.prog 25 #[.pointer (some ⟨p, 0, none⟩)] w fun e w' => e = .returned (.int .i64 (wrap64 (mo - n))) ∧ ∃ m, w' = w.drewN m := by
  have hc := cc3 hb
  clear hb
  go_enter Try.func25, Try.ntmps25
  go_wp2
  go_quiet (fail)
  go_wp2
  go_ret
  exact ⟨rfl, _, rfl⟩
end Go.Proofs.Ythflkloghbhhgaa.Rw
