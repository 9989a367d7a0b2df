/- The kinds of the struct types that WiresTruth takes: how their cells are told. -/
import Derived.Test.YtodkackgdchocaaWMore
namespace Go.Proofs.Ytodkackgdchocaa.K
open Go.RowKit Go.Proofs.YtodkackgdchocaaW.PrintWords
structure S27 where
  f0 : Int
  f1 : Int
  f2 : ByteArray
def k27 : Kd S27 := Kd.iso (Kd.pair (Kd.int .i64) (Kd.pair (Kd.int .i64) Kd.string)) (fun x : S27 => (x.f0, x.f1, x.f2))
theorem k27_open {w : World} {x : S27} {cs : List Value} (h : k27.K w x cs) : cs = [.int .i64 x.f0, .int .i64 x.f1, .string x.f2] := by
  obtain ⟨_, _, rfl, rfl, ⟨_, _, rfl, rfl, rfl⟩⟩ := h
  exact rfl
structure S45 where
  f0 : Int
  f1 : S27
  f2 : Int
  f3 : Int
def k45 : Kd S45 := Kd.iso (Kd.pair (Kd.int .i64) (Kd.pair k27 (Kd.pair (Kd.int .i64) (Kd.int .i64)))) (fun x : S45 => (x.f0, x.f1, x.f2, x.f3))
end Go.Proofs.Ytodkackgdchocaa.K
