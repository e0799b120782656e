/-
  Facts of this seat's program that every law here uses; no conditions.
-/
import Derived.Test.YtapmakdflnldnaaRows
import Derived.Test.YtapmakdflnldnaaSimQ
namespace Go.Proofs.Ytapmakdflnldnaa
open Go.Sim Go.ChangeShapes Go.WideShapes Go.ChangeAt Go.RowKit

theorem Try.own : ownKnob Try.prog.godebug = none := by kernel_rfl
theorem Try.laidOut : laidOutB Try.prog = true := by kernel_rfl
theorem mixed : Try.prog.follows .mixedOrders = true := by kernel_rfl

/-- Three floats. -/
theorem three {xs : List AV} (h : AllKd [.flt .f32, .flt .f32, .flt .f32] xs) : ∃ a b c, xs = [.flt .f32 a, .flt .f32 b, .flt .f32 c] := by
  match xs, h with
  | [x, y, z], h =>
    obtain ⟨⟨a, rfl, _⟩, ⟨b, rfl, _⟩, ⟨c, rfl, _⟩, _⟩ := h
    exact ⟨_, _, _, rfl⟩

theorem kds23 : aggKds Try.prog 23 = some [.flt .f32, .flt .f32, .flt .f32] := by kernel_rfl

noncomputable def G0 : Summ := inlGs Try.prog 1000 [62, 52, 53, 46, 47, 16, 19, 15, 17, 18, 20] (fun _ _ _ => none)

theorem sound0 : SoundG Try.prog G0 := by
  refine SoundG.inls mixed SoundG.nil fun f hf => ?_
  simp only [List.mem_cons, List.not_mem_nil, or_false] at hf
  rcases hf with rfl | rfl | rfl | rfl | rfl | rfl | rfl | rfl | rfl | rfl | rfl
  · exact Try.call62
  · exact Try.call52
  · exact Try.call53
  · exact Try.call46
  · exact Try.call47
  · exact Try.call16
  · exact Try.call19
  · exact Try.call15
  · exact Try.call17
  · exact Try.call18
  · exact Try.call20

end Go.Proofs.Ytapmakdflnldnaa
