/- The kinds of the struct types that OctetWides takes: how their cells are told. -/
import Derived.Test.YtmeggejeiggicaaWMore
namespace Go.Proofs.Ytmeggejeiggicaa.K
open Go.RowKit Go.Proofs.YtmeggejeiggicaaW.PrintWords
structure S49 where
  f0 : ByteArray
  f1 : Int
  f2 : Int
def k49 : Kd S49 := Kd.iso (Kd.pair Kd.string (Kd.pair (Kd.int .i64) (Kd.int .i64))) (fun x : S49 => (x.f0, x.f1, x.f2))
theorem k49_open {w : World} {x : S49} {cs : List Value} (h : k49.K w x cs) : cs = [.string x.f0, .int .i64 x.f1, .int .i64 x.f2] := by
  obtain ⟨_, _, rfl, rfl, ⟨_, _, rfl, rfl, rfl⟩⟩ := h
  exact rfl
end Go.Proofs.Ytmeggejeiggicaa.K
