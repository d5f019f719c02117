/- Slices that begin as nil. -/
import Derived.Test.YtpnghdalnghpcaaOwl10
namespace Go.Owl
theorem Own.nilRow {S : List Nat} {w0 w : World} {L : List Ent} (H : Own S w0 w L) (t : TypeId) (sz : Nat) : Own S w0 w (L ++ [.row (.slice none 0 0) t sz 0 []]) :=
  H.new (Fr.refl _ _) (show RowOK w _ t sz 0 [] from ⟨by simp, .inl ⟨rfl, rfl⟩⟩) (fun _ hb => by cases hb)
end Go.Owl
