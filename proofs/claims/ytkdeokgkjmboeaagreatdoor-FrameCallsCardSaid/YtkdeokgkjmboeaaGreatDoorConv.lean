/- 'string(b)' of a slice that reads as bytes. -/
import Derived.Test.YtkdeokgkjmboeaaGreatDoorBase
namespace Go.Proofs.YtkdeokgkjmboeaaGreatDoor
open Go.RowKit
/-- 'string(b)' of a slice that reads as bytes. -/
theorem conv_row {w : World} {v : Value} {n : Nat} {l : List UInt8} (h : Row w v n (l.map u8V)) (hn : n = l.length) : (convert 50 9 v).run Tryz.prog w = .ok (.string ⟨l.toArray⟩) w := by
  rcases h with ⟨rfl, rfl, hl⟩ | ⟨b, o, c, rfl, _, hc⟩
  · obtain rfl : l = [] := by simpa using hl
    exact run_convert_bytes_nil w 50 5 Tryz.underlying50 Tryz.underlying5 0 0 9 Tryz.underlying9
  · subst hn
    refine run_convert_bytes_back w 50 9 5 ⟨b, o, none⟩ c l Tryz.underlying50 Tryz.underlying5 Tryz.underlying9 ?_
    intro j hj
    have hplain : (⟨b, o, none⟩ : Addr).add j = ⟨b, o + j, none⟩ := by unfold Addr.add; split <;> simp_all
    rw [hplain, hc j (by simpa using hj)]
    simp [u8V]
end Go.Proofs.YtkdeokgkjmboeaaGreatDoor
