/- An argument that is a byte. -/
import Derived.Test.YtdcmbcjkdhdohaaArg2
namespace Go.Proofs.Ytdcmbcjkdhdohaa
open Go Go.RowKit
section
open Go.ChangeShapes Go.WideShapes Go.ChangeAt
variable {H : Type} {enc : TypeId × Value → H} {P : Program} {W : World}
theorem u8_arg {r : Reach} {b0 : Nat} {t : TypeId} {v : Value} {d : DataW H} {p : List MemPlace} (ht : P.underlying t = some (.int .u8)) (hval : Value.okWide P W r b0 t v) (h : DataW.Trod enc P W 0 (fun _ => true) true t v d p) : ∃ x : UInt8, v = B8 x := by
  obtain ⟨z, rfl, -, -, hw⟩ := open_int ht hval h
  exact ⟨_, by8_at hw⟩
end
end Go.Proofs.Ytdcmbcjkdhdohaa
