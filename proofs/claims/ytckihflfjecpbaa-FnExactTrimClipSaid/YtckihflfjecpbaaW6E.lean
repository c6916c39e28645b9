import Derived.Test.YtckihflfjecpbaaW6B
import Derived.Test.YtckihflfjecpbaaW6C
import Derived.Test.YtckihflfjecpbaaW6D
namespace Go.Proofs.Ytckihflfjecpbaa
open Go.RowKit
theorem M.putP_len (xs : List Clip) (c : Clip) : (M.putP xs c).length = xs.length + 1 := by
  unfold M.putP M.insP
  simp
  omega
theorem M.chgR_len (xs : List Clip) (k : Nat) (c : Clip) (hk : k < xs.length) (h : xs.length ≤ 12) : (M.chgR xs k c).1.length ≤ 12 := by
  unfold M.chgR
  split
  · show (M.putP (M.dropP xs k) c).length ≤ 12
    rw [M.putP_len, M.dropP_len xs hk]
    omega
  · simp
theorem M.moveR_len (xs : List Clip) (k t : Int) : (M.moveR xs k t).1.length ≤ 12 := by
  unfold M.moveR
  split
  · rename_i h
    obtain ⟨_, h1, h2, h3⟩ := M.askT_zero h
    exact M.chgR_len _ _ _ (by omega) h3
  · simp
theorem M.trimR_len (xs : List Clip) (k l r : Int) : (M.trimR xs k l r).1.length ≤ 12 := by
  unfold M.trimR
  split
  · rename_i h
    obtain ⟨_, h1, h2, h3⟩ := M.askT_zero h
    split
    · exact M.chgR_len _ _ _ (by omega) h3
    · simp
  · simp
end Go.Proofs.Ytckihflfjecpbaa
