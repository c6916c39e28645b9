import Derived.Test.YtckihflfjecpbaaJ2
import Derived.Test.YtckihflfjecpbaaW70
namespace Go.Proofs.Ytckihflfjecpbaa
open Go.RowKit
theorem opens_u8 {P : Program} {T : TypeId} (h : P.underlying T = some (.int .u8)) : Opens P T tU8 := fun _ _ _ _ _ _ _ _ ht => by
  obtain ⟨n, rfl, _, hw⟩ := DataW.trod_int h ht
  have hb : 0 ≤ n ∧ n ≤ 255 := by
    simp only [Lit.wf, Bool.and_eq_true, decide_eq_true_eq, show IntKind.u8.min = 0 from by decide, show IntKind.u8.max = 255 from by decide] at hw
    exact hw
  refine ⟨UInt8.ofNat n.toNat, ?_⟩
  show [Value.int .u8 n] = [.int .u8 ((UInt8.ofNat n.toNat).toNat : Int)]
  have h2 : (UInt8.ofNat n.toNat).toNat = n.toNat := by rw [UInt8.toNat_ofNat']; omega
  rw [h2, Int.toNat_of_nonneg hb.1]
abbrev tU : Ty (List UInt8) := tU8.sl 5
theorem opens_U : Opens Try.prog 46 tU := opens_sl Try.underlying46 (by kernel_rfl) (opens_u8 Try.underlying5)
end Go.Proofs.Ytckihflfjecpbaa
