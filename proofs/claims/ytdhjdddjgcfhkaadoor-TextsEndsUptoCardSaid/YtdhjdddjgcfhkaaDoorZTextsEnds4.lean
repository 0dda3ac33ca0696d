/- TextsEnds: part 5 of 5: the texts B13 PEnds RTextsEnds of this claim, one behind the other. -/
import Derived.Test.YtdhjdddjgcfhkaaDoorZTextsEnds3
import Derived.DataShut
section
namespace Go.Proofs.YtdhjdddjgcfhkaaDoor.B
open Go.RowKit Go.Proofs.YtdhjdddjgcfhkaaDoorW.PrintWords Go.Proofs.YtdhjdddjgcfhkaaDoorW.PrintLast Go.Proofs.YtdhjdddjgcfhkaaDoorW.PrintMore
attribute [local go_sem] max2_int min2_int max_two min_two max_three min_three max_four min_four   -- for this text's walks alone
set_option linter.unusedVariables false
set_option linter.unusedSimpArgs false

def bolterlaw13_TextsEnds.f (k : Nat) (a0 : ByteArray) (a1 : ByteArray) (a2 : ByteArray) (a3 : Int) : Option (Bool) := (texts_Begins.f k a0 a1).bind fun bt400 => ((bolterref13_Begins.f k a0 a1).bind fun bt402 => ((texts_Ends.f k a0 a1).bind fun bt404 => ((bolterref13_Ends.f k a0 a1).bind fun bt406 => ((texts_TrimLeft.f k a0 a1).bind fun bt408 => ((bolterref13_TrimLeft.f k a0 a1).bind fun bt410 => ((texts_TrimRight.f k a0 a1).bind fun bt412 => ((bolterref13_TrimRight.f k a0 a1).bind fun bt414 => ((texts_Repeat.f k a0 a3).bind fun bt416 => ((bolterref13_Repeat.f k a0 a3).bind fun bt418 => ((texts_Replace.f k a0 a1 a2).bind fun bt420 => ((bolterref13_Replace.f k a0 a1 a2).bind fun bt422 => ((texts_Lines.f k a0).bind fun bt424 => ((bolterref13_Lines.f k a0).bind fun bt428 => (if (bt400.1 == bt402.1) = true then ((bolterlaw13_num.f bt400.2).bind fun t432 => (if t432 = bt402.2 then (if (bt404.1 == bt406.1) = true then ((bolterlaw13_num.f bt404.2).bind fun t433 => (if t433 = bt406.2 then (if bt408.1.toList = bt410.1.toList then ((bolterlaw13_num.f bt408.2).bind fun t434 => (if t434 = bt410.2 then (if bt412.1.toList = bt414.1.toList then ((bolterlaw13_num.f bt412.2).bind fun t435 => (if t435 = bt414.2 then (if bt416.1.toList = bt418.1.toList then ((bolterlaw13_num.f bt416.2).bind fun t436 => (if t436 = bt418.2 then (if bt420.1.toList = bt422.1.toList then ((bolterlaw13_num.f bt420.2).bind fun t437 => (if t437 = bt422.2 then ((bolterplain_SameStrings.f k bt424.1 bt428.1).bind fun t438 => (if t438 = true then ((bolterlaw13_num.f bt424.2).bind fun t439 => (if t439 = bt428.2 then ((bolterlaw13_alive.f k).bind fun t440 => (some t440)) else (some false))) else (some false))) else (some false))) else (some false)) else (some false))) else (some false)) else (some false))) else (some false)) else (some false))) else (some false)) else (some false))) else (some false)) else (some false))) else (some false)))))))))))))))
set_option maxHeartbeats 8000000 in
set_option maxRecDepth 100000 in
theorem bolterlaw13_TextsEnds.calls (k : Nat) (a0 : ByteArray) (a1 : ByteArray) (a2 : ByteArray) (a3 : Int) (r : Bool) (w : World) (hG : Aside0 (GlobG w)) (h : bolterlaw13_TextsEnds.f k a0 a1 a2 a3 = some r) (hr : r = true) :
    Calls Tryd.prog 7 #[.string a0, .string a1, .string a2, .int .i64 a3] w fun e w' => e = .returned (.bool r) ∧ Below w.heap.size w w' := by
  have HB := Aside0.mk (Below.refl w.heap.size w)
  have H : ((texts_Begins.f k a0 a1).bind fun bt400 => ((bolterref13_Begins.f k a0 a1).bind fun bt402 => ((texts_Ends.f k a0 a1).bind fun bt404 => ((bolterref13_Ends.f k a0 a1).bind fun bt406 => ((texts_TrimLeft.f k a0 a1).bind fun bt408 => ((bolterref13_TrimLeft.f k a0 a1).bind fun bt410 => ((texts_TrimRight.f k a0 a1).bind fun bt412 => ((bolterref13_TrimRight.f k a0 a1).bind fun bt414 => ((texts_Repeat.f k a0 a3).bind fun bt416 => ((bolterref13_Repeat.f k a0 a3).bind fun bt418 => ((texts_Replace.f k a0 a1 a2).bind fun bt420 => ((bolterref13_Replace.f k a0 a1 a2).bind fun bt422 => ((texts_Lines.f k a0).bind fun bt424 => ((bolterref13_Lines.f k a0).bind fun bt428 => (if (bt400.1 == bt402.1) = true then ((bolterlaw13_num.f bt400.2).bind fun t432 => (if t432 = bt402.2 then (if (bt404.1 == bt406.1) = true then ((bolterlaw13_num.f bt404.2).bind fun t433 => (if t433 = bt406.2 then (if bt408.1.toList = bt410.1.toList then ((bolterlaw13_num.f bt408.2).bind fun t434 => (if t434 = bt410.2 then (if bt412.1.toList = bt414.1.toList then ((bolterlaw13_num.f bt412.2).bind fun t435 => (if t435 = bt414.2 then (if bt416.1.toList = bt418.1.toList then ((bolterlaw13_num.f bt416.2).bind fun t436 => (if t436 = bt418.2 then (if bt420.1.toList = bt422.1.toList then ((bolterlaw13_num.f bt420.2).bind fun t437 => (if t437 = bt422.2 then ((bolterplain_SameStrings.f k bt424.1 bt428.1).bind fun t438 => (if t438 = true then ((bolterlaw13_num.f bt424.2).bind fun t439 => (if t439 = bt428.2 then ((bolterlaw13_alive.f k).bind fun t440 => (some t440)) else (some false))) else (some false))) else (some false))) else (some false)) else (some false))) else (some false)) else (some false))) else (some false)) else (some false))) else (some false)) else (some false))) else (some false)) else (some false))) else (some false)))))))))))))))) = some r := h
  clear h
  replace H := Option.bind_eq_some_iff.mp H
  obtain ⟨⟨t400, t401⟩, A50, H⟩ := H
  replace H : ((bolterref13_Begins.f k a0 a1).bind fun bt402 => ((texts_Ends.f k a0 a1).bind fun bt404 => ((bolterref13_Ends.f k a0 a1).bind fun bt406 => ((texts_TrimLeft.f k a0 a1).bind fun bt408 => ((bolterref13_TrimLeft.f k a0 a1).bind fun bt410 => ((texts_TrimRight.f k a0 a1).bind fun bt412 => ((bolterref13_TrimRight.f k a0 a1).bind fun bt414 => ((texts_Repeat.f k a0 a3).bind fun bt416 => ((bolterref13_Repeat.f k a0 a3).bind fun bt418 => ((texts_Replace.f k a0 a1 a2).bind fun bt420 => ((bolterref13_Replace.f k a0 a1 a2).bind fun bt422 => ((texts_Lines.f k a0).bind fun bt424 => ((bolterref13_Lines.f k a0).bind fun bt428 => (if (t400 == bt402.1) = true then ((bolterlaw13_num.f t401).bind fun t432 => (if t432 = bt402.2 then (if (bt404.1 == bt406.1) = true then ((bolterlaw13_num.f bt404.2).bind fun t433 => (if t433 = bt406.2 then (if bt408.1.toList = bt410.1.toList then ((bolterlaw13_num.f bt408.2).bind fun t434 => (if t434 = bt410.2 then (if bt412.1.toList = bt414.1.toList then ((bolterlaw13_num.f bt412.2).bind fun t435 => (if t435 = bt414.2 then (if bt416.1.toList = bt418.1.toList then ((bolterlaw13_num.f bt416.2).bind fun t436 => (if t436 = bt418.2 then (if bt420.1.toList = bt422.1.toList then ((bolterlaw13_num.f bt420.2).bind fun t437 => (if t437 = bt422.2 then ((bolterplain_SameStrings.f k bt424.1 bt428.1).bind fun t438 => (if t438 = true then ((bolterlaw13_num.f bt424.2).bind fun t439 => (if t439 = bt428.2 then ((bolterlaw13_alive.f k).bind fun t440 => (some t440)) else (some false))) else (some false))) else (some false))) else (some false)) else (some false))) else (some false)) else (some false))) else (some false)) else (some false))) else (some false)) else (some false))) else (some false)) else (some false))) else (some false))))))))))))))) = some r := H
  have A5 := Aside0.mk A50
  clear A50
  replace H := Option.bind_eq_some_iff.mp H
  obtain ⟨⟨t402, t403⟩, A60, H⟩ := H
  replace H : ((texts_Ends.f k a0 a1).bind fun bt404 => ((bolterref13_Ends.f k a0 a1).bind fun bt406 => ((texts_TrimLeft.f k a0 a1).bind fun bt408 => ((bolterref13_TrimLeft.f k a0 a1).bind fun bt410 => ((texts_TrimRight.f k a0 a1).bind fun bt412 => ((bolterref13_TrimRight.f k a0 a1).bind fun bt414 => ((texts_Repeat.f k a0 a3).bind fun bt416 => ((bolterref13_Repeat.f k a0 a3).bind fun bt418 => ((texts_Replace.f k a0 a1 a2).bind fun bt420 => ((bolterref13_Replace.f k a0 a1 a2).bind fun bt422 => ((texts_Lines.f k a0).bind fun bt424 => ((bolterref13_Lines.f k a0).bind fun bt428 => (if (t400 == t402) = true then ((bolterlaw13_num.f t401).bind fun t432 => (if t432 = t403 then (if (bt404.1 == bt406.1) = true then ((bolterlaw13_num.f bt404.2).bind fun t433 => (if t433 = bt406.2 then (if bt408.1.toList = bt410.1.toList then ((bolterlaw13_num.f bt408.2).bind fun t434 => (if t434 = bt410.2 then (if bt412.1.toList = bt414.1.toList then ((bolterlaw13_num.f bt412.2).bind fun t435 => (if t435 = bt414.2 then (if bt416.1.toList = bt418.1.toList then ((bolterlaw13_num.f bt416.2).bind fun t436 => (if t436 = bt418.2 then (if bt420.1.toList = bt422.1.toList then ((bolterlaw13_num.f bt420.2).bind fun t437 => (if t437 = bt422.2 then ((bolterplain_SameStrings.f k bt424.1 bt428.1).bind fun t438 => (if t438 = true then ((bolterlaw13_num.f bt424.2).bind fun t439 => (if t439 = bt428.2 then ((bolterlaw13_alive.f k).bind fun t440 => (some t440)) else (some false))) else (some false))) else (some false))) else (some false)) else (some false))) else (some false)) else (some false))) else (some false)) else (some false))) else (some false)) else (some false))) else (some false)) else (some false))) else (some false)))))))))))))) = some r := H
  have A6 := Aside0.mk A60
  clear A60
  replace H := Option.bind_eq_some_iff.mp H
  obtain ⟨⟨t404, t405⟩, A70, H⟩ := H
  replace H : ((bolterref13_Ends.f k a0 a1).bind fun bt406 => ((texts_TrimLeft.f k a0 a1).bind fun bt408 => ((bolterref13_TrimLeft.f k a0 a1).bind fun bt410 => ((texts_TrimRight.f k a0 a1).bind fun bt412 => ((bolterref13_TrimRight.f k a0 a1).bind fun bt414 => ((texts_Repeat.f k a0 a3).bind fun bt416 => ((bolterref13_Repeat.f k a0 a3).bind fun bt418 => ((texts_Replace.f k a0 a1 a2).bind fun bt420 => ((bolterref13_Replace.f k a0 a1 a2).bind fun bt422 => ((texts_Lines.f k a0).bind fun bt424 => ((bolterref13_Lines.f k a0).bind fun bt428 => (if (t400 == t402) = true then ((bolterlaw13_num.f t401).bind fun t432 => (if t432 = t403 then (if (t404 == bt406.1) = true then ((bolterlaw13_num.f t405).bind fun t433 => (if t433 = bt406.2 then (if bt408.1.toList = bt410.1.toList then ((bolterlaw13_num.f bt408.2).bind fun t434 => (if t434 = bt410.2 then (if bt412.1.toList = bt414.1.toList then ((bolterlaw13_num.f bt412.2).bind fun t435 => (if t435 = bt414.2 then (if bt416.1.toList = bt418.1.toList then ((bolterlaw13_num.f bt416.2).bind fun t436 => (if t436 = bt418.2 then (if bt420.1.toList = bt422.1.toList then ((bolterlaw13_num.f bt420.2).bind fun t437 => (if t437 = bt422.2 then ((bolterplain_SameStrings.f k bt424.1 bt428.1).bind fun t438 => (if t438 = true then ((bolterlaw13_num.f bt424.2).bind fun t439 => (if t439 = bt428.2 then ((bolterlaw13_alive.f k).bind fun t440 => (some t440)) else (some false))) else (some false))) else (some false))) else (some false)) else (some false))) else (some false)) else (some false))) else (some false)) else (some false))) else (some false)) else (some false))) else (some false)) else (some false))) else (some false))))))))))))) = some r := H
  have A7 := Aside0.mk A70
  clear A70
  replace H := Option.bind_eq_some_iff.mp H
  obtain ⟨⟨t406, t407⟩, A80, H⟩ := H
  replace H : ((texts_TrimLeft.f k a0 a1).bind fun bt408 => ((bolterref13_TrimLeft.f k a0 a1).bind fun bt410 => ((texts_TrimRight.f k a0 a1).bind fun bt412 => ((bolterref13_TrimRight.f k a0 a1).bind fun bt414 => ((texts_Repeat.f k a0 a3).bind fun bt416 => ((bolterref13_Repeat.f k a0 a3).bind fun bt418 => ((texts_Replace.f k a0 a1 a2).bind fun bt420 => ((bolterref13_Replace.f k a0 a1 a2).bind fun bt422 => ((texts_Lines.f k a0).bind fun bt424 => ((bolterref13_Lines.f k a0).bind fun bt428 => (if (t400 == t402) = true then ((bolterlaw13_num.f t401).bind fun t432 => (if t432 = t403 then (if (t404 == t406) = true then ((bolterlaw13_num.f t405).bind fun t433 => (if t433 = t407 then (if bt408.1.toList = bt410.1.toList then ((bolterlaw13_num.f bt408.2).bind fun t434 => (if t434 = bt410.2 then (if bt412.1.toList = bt414.1.toList then ((bolterlaw13_num.f bt412.2).bind fun t435 => (if t435 = bt414.2 then (if bt416.1.toList = bt418.1.toList then ((bolterlaw13_num.f bt416.2).bind fun t436 => (if t436 = bt418.2 then (if bt420.1.toList = bt422.1.toList then ((bolterlaw13_num.f bt420.2).bind fun t437 => (if t437 = bt422.2 then ((bolterplain_SameStrings.f k bt424.1 bt428.1).bind fun t438 => (if t438 = true then ((bolterlaw13_num.f bt424.2).bind fun t439 => (if t439 = bt428.2 then ((bolterlaw13_alive.f k).bind fun t440 => (some t440)) else (some false))) else (some false))) else (some false))) else (some false)) else (some false))) else (some false)) else (some false))) else (some false)) else (some false))) else (some false)) else (some false))) else (some false)) else (some false))) else (some false)))))))))))) = some r := H
  have A8 := Aside0.mk A80
  clear A80
  replace H := Option.bind_eq_some_iff.mp H
  obtain ⟨⟨t408, t409⟩, A90, H⟩ := H
  replace H : ((bolterref13_TrimLeft.f k a0 a1).bind fun bt410 => ((texts_TrimRight.f k a0 a1).bind fun bt412 => ((bolterref13_TrimRight.f k a0 a1).bind fun bt414 => ((texts_Repeat.f k a0 a3).bind fun bt416 => ((bolterref13_Repeat.f k a0 a3).bind fun bt418 => ((texts_Replace.f k a0 a1 a2).bind fun bt420 => ((bolterref13_Replace.f k a0 a1 a2).bind fun bt422 => ((texts_Lines.f k a0).bind fun bt424 => ((bolterref13_Lines.f k a0).bind fun bt428 => (if (t400 == t402) = true then ((bolterlaw13_num.f t401).bind fun t432 => (if t432 = t403 then (if (t404 == t406) = true then ((bolterlaw13_num.f t405).bind fun t433 => (if t433 = t407 then (if t408.toList = bt410.1.toList then ((bolterlaw13_num.f t409).bind fun t434 => (if t434 = bt410.2 then (if bt412.1.toList = bt414.1.toList then ((bolterlaw13_num.f bt412.2).bind fun t435 => (if t435 = bt414.2 then (if bt416.1.toList = bt418.1.toList then ((bolterlaw13_num.f bt416.2).bind fun t436 => (if t436 = bt418.2 then (if bt420.1.toList = bt422.1.toList then ((bolterlaw13_num.f bt420.2).bind fun t437 => (if t437 = bt422.2 then ((bolterplain_SameStrings.f k bt424.1 bt428.1).bind fun t438 => (if t438 = true then ((bolterlaw13_num.f bt424.2).bind fun t439 => (if t439 = bt428.2 then ((bolterlaw13_alive.f k).bind fun t440 => (some t440)) else (some false))) else (some false))) else (some false))) else (some false)) else (some false))) else (some false)) else (some false))) else (some false)) else (some false))) else (some false)) else (some false))) else (some false)) else (some false))) else (some false))))))))))) = some r := H
  have A9 := Aside0.mk A90
  clear A90
  replace H := Option.bind_eq_some_iff.mp H
  obtain ⟨⟨t410, t411⟩, A100, H⟩ := H
  replace H : ((texts_TrimRight.f k a0 a1).bind fun bt412 => ((bolterref13_TrimRight.f k a0 a1).bind fun bt414 => ((texts_Repeat.f k a0 a3).bind fun bt416 => ((bolterref13_Repeat.f k a0 a3).bind fun bt418 => ((texts_Replace.f k a0 a1 a2).bind fun bt420 => ((bolterref13_Replace.f k a0 a1 a2).bind fun bt422 => ((texts_Lines.f k a0).bind fun bt424 => ((bolterref13_Lines.f k a0).bind fun bt428 => (if (t400 == t402) = true then ((bolterlaw13_num.f t401).bind fun t432 => (if t432 = t403 then (if (t404 == t406) = true then ((bolterlaw13_num.f t405).bind fun t433 => (if t433 = t407 then (if t408.toList = t410.toList then ((bolterlaw13_num.f t409).bind fun t434 => (if t434 = t411 then (if bt412.1.toList = bt414.1.toList then ((bolterlaw13_num.f bt412.2).bind fun t435 => (if t435 = bt414.2 then (if bt416.1.toList = bt418.1.toList then ((bolterlaw13_num.f bt416.2).bind fun t436 => (if t436 = bt418.2 then (if bt420.1.toList = bt422.1.toList then ((bolterlaw13_num.f bt420.2).bind fun t437 => (if t437 = bt422.2 then ((bolterplain_SameStrings.f k bt424.1 bt428.1).bind fun t438 => (if t438 = true then ((bolterlaw13_num.f bt424.2).bind fun t439 => (if t439 = bt428.2 then ((bolterlaw13_alive.f k).bind fun t440 => (some t440)) else (some false))) else (some false))) else (some false))) else (some false)) else (some false))) else (some false)) else (some false))) else (some false)) else (some false))) else (some false)) else (some false))) else (some false)) else (some false))) else (some false)))))))))) = some r := H
  have A10 := Aside0.mk A100
  clear A100
  replace H := Option.bind_eq_some_iff.mp H
  obtain ⟨⟨t412, t413⟩, A110, H⟩ := H
  replace H : ((bolterref13_TrimRight.f k a0 a1).bind fun bt414 => ((texts_Repeat.f k a0 a3).bind fun bt416 => ((bolterref13_Repeat.f k a0 a3).bind fun bt418 => ((texts_Replace.f k a0 a1 a2).bind fun bt420 => ((bolterref13_Replace.f k a0 a1 a2).bind fun bt422 => ((texts_Lines.f k a0).bind fun bt424 => ((bolterref13_Lines.f k a0).bind fun bt428 => (if (t400 == t402) = true then ((bolterlaw13_num.f t401).bind fun t432 => (if t432 = t403 then (if (t404 == t406) = true then ((bolterlaw13_num.f t405).bind fun t433 => (if t433 = t407 then (if t408.toList = t410.toList then ((bolterlaw13_num.f t409).bind fun t434 => (if t434 = t411 then (if t412.toList = bt414.1.toList then ((bolterlaw13_num.f t413).bind fun t435 => (if t435 = bt414.2 then (if bt416.1.toList = bt418.1.toList then ((bolterlaw13_num.f bt416.2).bind fun t436 => (if t436 = bt418.2 then (if bt420.1.toList = bt422.1.toList then ((bolterlaw13_num.f bt420.2).bind fun t437 => (if t437 = bt422.2 then ((bolterplain_SameStrings.f k bt424.1 bt428.1).bind fun t438 => (if t438 = true then ((bolterlaw13_num.f bt424.2).bind fun t439 => (if t439 = bt428.2 then ((bolterlaw13_alive.f k).bind fun t440 => (some t440)) else (some false))) else (some false))) else (some false))) else (some false)) else (some false))) else (some false)) else (some false))) else (some false)) else (some false))) else (some false)) else (some false))) else (some false)) else (some false))) else (some false))))))))) = some r := H
  have A11 := Aside0.mk A110
  clear A110
  replace H := Option.bind_eq_some_iff.mp H
  obtain ⟨⟨t414, t415⟩, A120, H⟩ := H
  replace H : ((texts_Repeat.f k a0 a3).bind fun bt416 => ((bolterref13_Repeat.f k a0 a3).bind fun bt418 => ((texts_Replace.f k a0 a1 a2).bind fun bt420 => ((bolterref13_Replace.f k a0 a1 a2).bind fun bt422 => ((texts_Lines.f k a0).bind fun bt424 => ((bolterref13_Lines.f k a0).bind fun bt428 => (if (t400 == t402) = true then ((bolterlaw13_num.f t401).bind fun t432 => (if t432 = t403 then (if (t404 == t406) = true then ((bolterlaw13_num.f t405).bind fun t433 => (if t433 = t407 then (if t408.toList = t410.toList then ((bolterlaw13_num.f t409).bind fun t434 => (if t434 = t411 then (if t412.toList = t414.toList then ((bolterlaw13_num.f t413).bind fun t435 => (if t435 = t415 then (if bt416.1.toList = bt418.1.toList then ((bolterlaw13_num.f bt416.2).bind fun t436 => (if t436 = bt418.2 then (if bt420.1.toList = bt422.1.toList then ((bolterlaw13_num.f bt420.2).bind fun t437 => (if t437 = bt422.2 then ((bolterplain_SameStrings.f k bt424.1 bt428.1).bind fun t438 => (if t438 = true then ((bolterlaw13_num.f bt424.2).bind fun t439 => (if t439 = bt428.2 then ((bolterlaw13_alive.f k).bind fun t440 => (some t440)) else (some false))) else (some false))) else (some false))) else (some false)) else (some false))) else (some false)) else (some false))) else (some false)) else (some false))) else (some false)) else (some false))) else (some false)) else (some false))) else (some false)))))))) = some r := H
  have A12 := Aside0.mk A120
  clear A120
  replace H := Option.bind_eq_some_iff.mp H
  obtain ⟨⟨t416, t417⟩, A130, H⟩ := H
  replace H : ((bolterref13_Repeat.f k a0 a3).bind fun bt418 => ((texts_Replace.f k a0 a1 a2).bind fun bt420 => ((bolterref13_Replace.f k a0 a1 a2).bind fun bt422 => ((texts_Lines.f k a0).bind fun bt424 => ((bolterref13_Lines.f k a0).bind fun bt428 => (if (t400 == t402) = true then ((bolterlaw13_num.f t401).bind fun t432 => (if t432 = t403 then (if (t404 == t406) = true then ((bolterlaw13_num.f t405).bind fun t433 => (if t433 = t407 then (if t408.toList = t410.toList then ((bolterlaw13_num.f t409).bind fun t434 => (if t434 = t411 then (if t412.toList = t414.toList then ((bolterlaw13_num.f t413).bind fun t435 => (if t435 = t415 then (if t416.toList = bt418.1.toList then ((bolterlaw13_num.f t417).bind fun t436 => (if t436 = bt418.2 then (if bt420.1.toList = bt422.1.toList then ((bolterlaw13_num.f bt420.2).bind fun t437 => (if t437 = bt422.2 then ((bolterplain_SameStrings.f k bt424.1 bt428.1).bind fun t438 => (if t438 = true then ((bolterlaw13_num.f bt424.2).bind fun t439 => (if t439 = bt428.2 then ((bolterlaw13_alive.f k).bind fun t440 => (some t440)) else (some false))) else (some false))) else (some false))) else (some false)) else (some false))) else (some false)) else (some false))) else (some false)) else (some false))) else (some false)) else (some false))) else (some false)) else (some false))) else (some false))))))) = some r := H
  have A13 := Aside0.mk A130
  clear A130
  replace H := Option.bind_eq_some_iff.mp H
  obtain ⟨⟨t418, t419⟩, A140, H⟩ := H
  replace H : ((texts_Replace.f k a0 a1 a2).bind fun bt420 => ((bolterref13_Replace.f k a0 a1 a2).bind fun bt422 => ((texts_Lines.f k a0).bind fun bt424 => ((bolterref13_Lines.f k a0).bind fun bt428 => (if (t400 == t402) = true then ((bolterlaw13_num.f t401).bind fun t432 => (if t432 = t403 then (if (t404 == t406) = true then ((bolterlaw13_num.f t405).bind fun t433 => (if t433 = t407 then (if t408.toList = t410.toList then ((bolterlaw13_num.f t409).bind fun t434 => (if t434 = t411 then (if t412.toList = t414.toList then ((bolterlaw13_num.f t413).bind fun t435 => (if t435 = t415 then (if t416.toList = t418.toList then ((bolterlaw13_num.f t417).bind fun t436 => (if t436 = t419 then (if bt420.1.toList = bt422.1.toList then ((bolterlaw13_num.f bt420.2).bind fun t437 => (if t437 = bt422.2 then ((bolterplain_SameStrings.f k bt424.1 bt428.1).bind fun t438 => (if t438 = true then ((bolterlaw13_num.f bt424.2).bind fun t439 => (if t439 = bt428.2 then ((bolterlaw13_alive.f k).bind fun t440 => (some t440)) else (some false))) else (some false))) else (some false))) else (some false)) else (some false))) else (some false)) else (some false))) else (some false)) else (some false))) else (some false)) else (some false))) else (some false)) else (some false))) else (some false)))))) = some r := H
  have A14 := Aside0.mk A140
  clear A140
  replace H := Option.bind_eq_some_iff.mp H
  obtain ⟨⟨t420, t421⟩, A150, H⟩ := H
  replace H : ((bolterref13_Replace.f k a0 a1 a2).bind fun bt422 => ((texts_Lines.f k a0).bind fun bt424 => ((bolterref13_Lines.f k a0).bind fun bt428 => (if (t400 == t402) = true then ((bolterlaw13_num.f t401).bind fun t432 => (if t432 = t403 then (if (t404 == t406) = true then ((bolterlaw13_num.f t405).bind fun t433 => (if t433 = t407 then (if t408.toList = t410.toList then ((bolterlaw13_num.f t409).bind fun t434 => (if t434 = t411 then (if t412.toList = t414.toList then ((bolterlaw13_num.f t413).bind fun t435 => (if t435 = t415 then (if t416.toList = t418.toList then ((bolterlaw13_num.f t417).bind fun t436 => (if t436 = t419 then (if t420.toList = bt422.1.toList then ((bolterlaw13_num.f t421).bind fun t437 => (if t437 = bt422.2 then ((bolterplain_SameStrings.f k bt424.1 bt428.1).bind fun t438 => (if t438 = true then ((bolterlaw13_num.f bt424.2).bind fun t439 => (if t439 = bt428.2 then ((bolterlaw13_alive.f k).bind fun t440 => (some t440)) else (some false))) else (some false))) else (some false))) else (some false)) else (some false))) else (some false)) else (some false))) else (some false)) else (some false))) else (some false)) else (some false))) else (some false)) else (some false))) else (some false))))) = some r := H
  have A15 := Aside0.mk A150
  clear A150
  replace H := Option.bind_eq_some_iff.mp H
  obtain ⟨⟨t422, t423⟩, A160, H⟩ := H
  replace H : ((texts_Lines.f k a0).bind fun bt424 => ((bolterref13_Lines.f k a0).bind fun bt428 => (if (t400 == t402) = true then ((bolterlaw13_num.f t401).bind fun t432 => (if t432 = t403 then (if (t404 == t406) = true then ((bolterlaw13_num.f t405).bind fun t433 => (if t433 = t407 then (if t408.toList = t410.toList then ((bolterlaw13_num.f t409).bind fun t434 => (if t434 = t411 then (if t412.toList = t414.toList then ((bolterlaw13_num.f t413).bind fun t435 => (if t435 = t415 then (if t416.toList = t418.toList then ((bolterlaw13_num.f t417).bind fun t436 => (if t436 = t419 then (if t420.toList = t422.toList then ((bolterlaw13_num.f t421).bind fun t437 => (if t437 = t423 then ((bolterplain_SameStrings.f k bt424.1 bt428.1).bind fun t438 => (if t438 = true then ((bolterlaw13_num.f bt424.2).bind fun t439 => (if t439 = bt428.2 then ((bolterlaw13_alive.f k).bind fun t440 => (some t440)) else (some false))) else (some false))) else (some false))) else (some false)) else (some false))) else (some false)) else (some false))) else (some false)) else (some false))) else (some false)) else (some false))) else (some false)) else (some false))) else (some false)))) = some r := H
  have A16 := Aside0.mk A160
  clear A160
  replace H := Option.bind_eq_some_iff.mp H
  obtain ⟨⟨t424, t425⟩, A170, H⟩ := H
  replace H : ((bolterref13_Lines.f k a0).bind fun bt428 => (if (t400 == t402) = true then ((bolterlaw13_num.f t401).bind fun t432 => (if t432 = t403 then (if (t404 == t406) = true then ((bolterlaw13_num.f t405).bind fun t433 => (if t433 = t407 then (if t408.toList = t410.toList then ((bolterlaw13_num.f t409).bind fun t434 => (if t434 = t411 then (if t412.toList = t414.toList then ((bolterlaw13_num.f t413).bind fun t435 => (if t435 = t415 then (if t416.toList = t418.toList then ((bolterlaw13_num.f t417).bind fun t436 => (if t436 = t419 then (if t420.toList = t422.toList then ((bolterlaw13_num.f t421).bind fun t437 => (if t437 = t423 then ((bolterplain_SameStrings.f k t424 bt428.1).bind fun t438 => (if t438 = true then ((bolterlaw13_num.f t425).bind fun t439 => (if t439 = bt428.2 then ((bolterlaw13_alive.f k).bind fun t440 => (some t440)) else (some false))) else (some false))) else (some false))) else (some false)) else (some false))) else (some false)) else (some false))) else (some false)) else (some false))) else (some false)) else (some false))) else (some false)) else (some false))) else (some false))) = some r := H
  have A17 := Aside0.mk A170
  clear A170
  replace H := Option.bind_eq_some_iff.mp H
  obtain ⟨⟨t428, t429⟩, A180, H⟩ := H
  replace H : (if (t400 == t402) = true then ((bolterlaw13_num.f t401).bind fun t432 => (if t432 = t403 then (if (t404 == t406) = true then ((bolterlaw13_num.f t405).bind fun t433 => (if t433 = t407 then (if t408.toList = t410.toList then ((bolterlaw13_num.f t409).bind fun t434 => (if t434 = t411 then (if t412.toList = t414.toList then ((bolterlaw13_num.f t413).bind fun t435 => (if t435 = t415 then (if t416.toList = t418.toList then ((bolterlaw13_num.f t417).bind fun t436 => (if t436 = t419 then (if t420.toList = t422.toList then ((bolterlaw13_num.f t421).bind fun t437 => (if t437 = t423 then ((bolterplain_SameStrings.f k t424 t428).bind fun t438 => (if t438 = true then ((bolterlaw13_num.f t425).bind fun t439 => (if t439 = t429 then ((bolterlaw13_alive.f k).bind fun t440 => (some t440)) else (some false))) else (some false))) else (some false))) else (some false)) else (some false))) else (some false)) else (some false))) else (some false)) else (some false))) else (some false)) else (some false))) else (some false)) else (some false))) else (some false)) = some r := H
  have A18 := Aside0.mk A180
  clear A180
  by_cases c19 : (t400 == t402) = true
  · rw [if_pos c19] at H
    have c19b0 : (t400 == t402) = true := c19
    (try (have c19b1 : decide (t400 = t402) = true := by simpa using c19))
    (try (have c19b2 : (t400 == t402) = true := by simpa using c19))
    clear c19
    replace H := Option.bind_eq_some_iff.mp H
    obtain ⟨t432, A200, H⟩ := H
    replace H : (if t432 = t403 then (if (t404 == t406) = true then ((bolterlaw13_num.f t405).bind fun t433 => (if t433 = t407 then (if t408.toList = t410.toList then ((bolterlaw13_num.f t409).bind fun t434 => (if t434 = t411 then (if t412.toList = t414.toList then ((bolterlaw13_num.f t413).bind fun t435 => (if t435 = t415 then (if t416.toList = t418.toList then ((bolterlaw13_num.f t417).bind fun t436 => (if t436 = t419 then (if t420.toList = t422.toList then ((bolterlaw13_num.f t421).bind fun t437 => (if t437 = t423 then ((bolterplain_SameStrings.f k t424 t428).bind fun t438 => (if t438 = true then ((bolterlaw13_num.f t425).bind fun t439 => (if t439 = t429 then ((bolterlaw13_alive.f k).bind fun t440 => (some t440)) else (some false))) else (some false))) else (some false))) else (some false)) else (some false))) else (some false)) else (some false))) else (some false)) else (some false))) else (some false)) else (some false))) else (some false)) else (some false)) = some r := H
    have A20 := Aside0.mk A200
    clear A200
    by_cases c21 : t432 = t403
    · rw [if_pos c21] at H
      have c21b0 : (t432 == t403) = true := beq_iff_eq.mpr c21
      have c21b1 : (t432 != t403) = false := bne_eq_false_iff_eq.mpr c21
      clear c21
      by_cases c22 : (t404 == t406) = true
      · rw [if_pos c22] at H
        have c22b0 : (t404 == t406) = true := c22
        (try (have c22b1 : decide (t404 = t406) = true := by simpa using c22))
        (try (have c22b2 : (t404 == t406) = true := by simpa using c22))
        clear c22
        replace H := Option.bind_eq_some_iff.mp H
        obtain ⟨t433, A230, H⟩ := H
        replace H : (if t433 = t407 then (if t408.toList = t410.toList then ((bolterlaw13_num.f t409).bind fun t434 => (if t434 = t411 then (if t412.toList = t414.toList then ((bolterlaw13_num.f t413).bind fun t435 => (if t435 = t415 then (if t416.toList = t418.toList then ((bolterlaw13_num.f t417).bind fun t436 => (if t436 = t419 then (if t420.toList = t422.toList then ((bolterlaw13_num.f t421).bind fun t437 => (if t437 = t423 then ((bolterplain_SameStrings.f k t424 t428).bind fun t438 => (if t438 = true then ((bolterlaw13_num.f t425).bind fun t439 => (if t439 = t429 then ((bolterlaw13_alive.f k).bind fun t440 => (some t440)) else (some false))) else (some false))) else (some false))) else (some false)) else (some false))) else (some false)) else (some false))) else (some false)) else (some false))) else (some false)) else (some false)) = some r := H
        have A23 := Aside0.mk A230
        clear A230
        by_cases c24 : t433 = t407
        · rw [if_pos c24] at H
          have c24b0 : (t433 == t407) = true := beq_iff_eq.mpr c24
          have c24b1 : (t433 != t407) = false := bne_eq_false_iff_eq.mpr c24
          clear c24
          by_cases c25 : t408.toList = t410.toList
          · rw [if_pos c25] at H
            have c25b0 : (t408.toList == t410.toList) = true := beq_iff_eq.mpr c25
            have c25b1 : (t408.toList != t410.toList) = false := bne_eq_false_iff_eq.mpr c25
            clear c25
            replace H := Option.bind_eq_some_iff.mp H
            obtain ⟨t434, A260, H⟩ := H
            replace H : (if t434 = t411 then (if t412.toList = t414.toList then ((bolterlaw13_num.f t413).bind fun t435 => (if t435 = t415 then (if t416.toList = t418.toList then ((bolterlaw13_num.f t417).bind fun t436 => (if t436 = t419 then (if t420.toList = t422.toList then ((bolterlaw13_num.f t421).bind fun t437 => (if t437 = t423 then ((bolterplain_SameStrings.f k t424 t428).bind fun t438 => (if t438 = true then ((bolterlaw13_num.f t425).bind fun t439 => (if t439 = t429 then ((bolterlaw13_alive.f k).bind fun t440 => (some t440)) else (some false))) else (some false))) else (some false))) else (some false)) else (some false))) else (some false)) else (some false))) else (some false)) else (some false)) = some r := H
            have A26 := Aside0.mk A260
            clear A260
            by_cases c27 : t434 = t411
            · rw [if_pos c27] at H
              have c27b0 : (t434 == t411) = true := beq_iff_eq.mpr c27
              have c27b1 : (t434 != t411) = false := bne_eq_false_iff_eq.mpr c27
              clear c27
              by_cases c28 : t412.toList = t414.toList
              · rw [if_pos c28] at H
                have c28b0 : (t412.toList == t414.toList) = true := beq_iff_eq.mpr c28
                have c28b1 : (t412.toList != t414.toList) = false := bne_eq_false_iff_eq.mpr c28
                clear c28
                replace H := Option.bind_eq_some_iff.mp H
                obtain ⟨t435, A290, H⟩ := H
                replace H : (if t435 = t415 then (if t416.toList = t418.toList then ((bolterlaw13_num.f t417).bind fun t436 => (if t436 = t419 then (if t420.toList = t422.toList then ((bolterlaw13_num.f t421).bind fun t437 => (if t437 = t423 then ((bolterplain_SameStrings.f k t424 t428).bind fun t438 => (if t438 = true then ((bolterlaw13_num.f t425).bind fun t439 => (if t439 = t429 then ((bolterlaw13_alive.f k).bind fun t440 => (some t440)) else (some false))) else (some false))) else (some false))) else (some false)) else (some false))) else (some false)) else (some false)) = some r := H
                have A29 := Aside0.mk A290
                clear A290
                by_cases c30 : t435 = t415
                · rw [if_pos c30] at H
                  have c30b0 : (t435 == t415) = true := beq_iff_eq.mpr c30
                  have c30b1 : (t435 != t415) = false := bne_eq_false_iff_eq.mpr c30
                  clear c30
                  by_cases c31 : t416.toList = t418.toList
                  · rw [if_pos c31] at H
                    have c31b0 : (t416.toList == t418.toList) = true := beq_iff_eq.mpr c31
                    have c31b1 : (t416.toList != t418.toList) = false := bne_eq_false_iff_eq.mpr c31
                    clear c31
                    replace H := Option.bind_eq_some_iff.mp H
                    obtain ⟨t436, A320, H⟩ := H
                    replace H : (if t436 = t419 then (if t420.toList = t422.toList then ((bolterlaw13_num.f t421).bind fun t437 => (if t437 = t423 then ((bolterplain_SameStrings.f k t424 t428).bind fun t438 => (if t438 = true then ((bolterlaw13_num.f t425).bind fun t439 => (if t439 = t429 then ((bolterlaw13_alive.f k).bind fun t440 => (some t440)) else (some false))) else (some false))) else (some false))) else (some false)) else (some false)) = some r := H
                    have A32 := Aside0.mk A320
                    clear A320
                    by_cases c33 : t436 = t419
                    · rw [if_pos c33] at H
                      have c33b0 : (t436 == t419) = true := beq_iff_eq.mpr c33
                      have c33b1 : (t436 != t419) = false := bne_eq_false_iff_eq.mpr c33
                      clear c33
                      by_cases c34 : t420.toList = t422.toList
                      · rw [if_pos c34] at H
                        have c34b0 : (t420.toList == t422.toList) = true := beq_iff_eq.mpr c34
                        have c34b1 : (t420.toList != t422.toList) = false := bne_eq_false_iff_eq.mpr c34
                        clear c34
                        replace H := Option.bind_eq_some_iff.mp H
                        obtain ⟨t437, A350, H⟩ := H
                        replace H : (if t437 = t423 then ((bolterplain_SameStrings.f k t424 t428).bind fun t438 => (if t438 = true then ((bolterlaw13_num.f t425).bind fun t439 => (if t439 = t429 then ((bolterlaw13_alive.f k).bind fun t440 => (some t440)) else (some false))) else (some false))) else (some false)) = some r := H
                        have A35 := Aside0.mk A350
                        clear A350
                        by_cases c36 : t437 = t423
                        · rw [if_pos c36] at H
                          have c36b0 : (t437 == t423) = true := beq_iff_eq.mpr c36
                          have c36b1 : (t437 != t423) = false := bne_eq_false_iff_eq.mpr c36
                          clear c36
                          replace H := Option.bind_eq_some_iff.mp H
                          obtain ⟨t438, A370, H⟩ := H
                          replace H : (if t438 = true then ((bolterlaw13_num.f t425).bind fun t439 => (if t439 = t429 then ((bolterlaw13_alive.f k).bind fun t440 => (some t440)) else (some false))) else (some false)) = some r := H
                          have A37 := Aside0.mk A370
                          clear A370
                          by_cases c38 : t438 = true
                          · subst c38
                            have H1 : ((bolterlaw13_num.f t425).bind fun t439 => (if t439 = t429 then ((bolterlaw13_alive.f k).bind fun t440 => (some t440)) else (some false))) = some r := by rw [if_pos rfl] at H; exact H
                            clear H
                            have H := H1
                            clear H1
                            replace H := Option.bind_eq_some_iff.mp H
                            obtain ⟨t439, A390, H⟩ := H
                            replace H : (if t439 = t429 then ((bolterlaw13_alive.f k).bind fun t440 => (some t440)) else (some false)) = some r := H
                            have A39 := Aside0.mk A390
                            clear A390
                            by_cases c40 : t439 = t429
                            · rw [if_pos c40] at H
                              have c40b0 : (t439 == t429) = true := beq_iff_eq.mpr c40
                              have c40b1 : (t439 != t429) = false := bne_eq_false_iff_eq.mpr c40
                              clear c40
                              replace H := Option.bind_eq_some_iff.mp H
                              obtain ⟨t440, A410, H⟩ := H
                              replace H : (some t440) = some r := H
                              have A41 := Aside0.mk A410
                              clear A410
                              obtain rfl := Option.some.inj H
                              go_enter Tryd.func7, Tryd.ntmps7
                              go_wp2_with (first | ((with_reducible refine gate_callee (f := 16) rfl ?_); refine goesL_ (some 40) rfl rfl Tryd.func16 (by kernel_rfl) rfl #[.string a0, .string a1] rfl (by (try simp only [List.map_toArray, List.map_cons, List.map_nil]); first | done | rfl | (simp only [List.length_drop, List.length_take]; rfl)) ?_; (with_reducible refine (texts_Begins.calls k a0 a1 t400 t401 _ ?side1 A5.out).mono ?_); (case side1 => exact Aside0.mk (GlobG.below (by repeat (first | (with_reducible first | exact HB.out | apply below_alloc | apply pw_below_drewN | apply below_drew1) | exact HB.out)) hG.out)); rintro e w42 ⟨rfl, hb⟩; refine ⟨_, rfl, ?_⟩; have n0_ := Aside0.mk (below_step (by repeat (first | (with_reducible first | exact HB.out | apply below_alloc | apply pw_below_drewN | apply below_drew1) | exact HB.out)) hb); clear HB; have HB := n0_; clear n0_; (try clear hb); (try clear hb2); (try clear hk); (try clear hi)) | ((with_reducible refine gate_callee (f := 23) rfl ?_); refine goesL_ (some 46) rfl rfl Tryd.func23 (by kernel_rfl) rfl #[.string a0, .string a1] rfl (by (try simp only [List.map_toArray, List.map_cons, List.map_nil]); first | done | rfl | (simp only [List.length_drop, List.length_take]; rfl)) ?_; (with_reducible refine (bolterref13_Begins.calls k a0 a1 t402 t403 _ A6.out).mono ?_); rintro e w43 ⟨rfl, hb⟩; refine ⟨_, rfl, ?_⟩; have n0_ := Aside0.mk (below_step (by repeat (first | (with_reducible first | exact HB.out | apply below_alloc | apply pw_below_drewN | apply below_drew1) | exact HB.out)) hb); clear HB; have HB := n0_; clear n0_; (try clear hb); (try clear hb2); (try clear hk); (try clear hi)) | ((with_reducible refine gate_callee (f := 17) rfl ?_); refine goesL_ (some 52) rfl rfl Tryd.func17 (by kernel_rfl) rfl #[.string a0, .string a1] rfl (by (try simp only [List.map_toArray, List.map_cons, List.map_nil]); first | done | rfl | (simp only [List.length_drop, List.length_take]; rfl)) ?_; (with_reducible refine (texts_Ends.calls k a0 a1 t404 t405 _ ?side1 A7.out).mono ?_); (case side1 => exact Aside0.mk (GlobG.below (by repeat (first | (with_reducible first | exact HB.out | apply below_alloc | apply pw_below_drewN | apply below_drew1) | exact HB.out)) hG.out)); rintro e w44 ⟨rfl, hb⟩; refine ⟨_, rfl, ?_⟩; have n0_ := Aside0.mk (below_step (by repeat (first | (with_reducible first | exact HB.out | apply below_alloc | apply pw_below_drewN | apply below_drew1) | exact HB.out)) hb); clear HB; have HB := n0_; clear n0_; (try clear hb); (try clear hb2); (try clear hk); (try clear hi)) | ((with_reducible refine gate_callee (f := 24) rfl ?_); refine goesL_ (some 58) rfl rfl Tryd.func24 (by kernel_rfl) rfl #[.string a0, .string a1] rfl (by (try simp only [List.map_toArray, List.map_cons, List.map_nil]); first | done | rfl | (simp only [List.length_drop, List.length_take]; rfl)) ?_; (with_reducible refine (bolterref13_Ends.calls k a0 a1 t406 t407 _ A8.out).mono ?_); rintro e w45 ⟨rfl, hb⟩; refine ⟨_, rfl, ?_⟩; have n0_ := Aside0.mk (below_step (by repeat (first | (with_reducible first | exact HB.out | apply below_alloc | apply pw_below_drewN | apply below_drew1) | exact HB.out)) hb); clear HB; have HB := n0_; clear n0_; (try clear hb); (try clear hb2); (try clear hk); (try clear hi)) | ((with_reducible refine gate_callee (f := 18) rfl ?_); refine goesL_ (some 64) rfl rfl Tryd.func18 (by kernel_rfl) rfl #[.string a0, .string a1] rfl (by (try simp only [List.map_toArray, List.map_cons, List.map_nil]); first | done | rfl | (simp only [List.length_drop, List.length_take]; rfl)) ?_; (with_reducible refine (texts_TrimLeft.calls k a0 a1 t408 t409 _ ?side1 A9.out).mono ?_); (case side1 => exact Aside0.mk (GlobG.below (by repeat (first | (with_reducible first | exact HB.out | apply below_alloc | apply pw_below_drewN | apply below_drew1) | exact HB.out)) hG.out)); rintro e w46 ⟨rfl, hb⟩; refine ⟨_, rfl, ?_⟩; have n0_ := Aside0.mk (below_step (by repeat (first | (with_reducible first | exact HB.out | apply below_alloc | apply pw_below_drewN | apply below_drew1) | exact HB.out)) hb); clear HB; have HB := n0_; clear n0_; (try clear hb); (try clear hb2); (try clear hk); (try clear hi)) | ((with_reducible refine gate_callee (f := 25) rfl ?_); refine goesL_ (some 70) rfl rfl Tryd.func25 (by kernel_rfl) rfl #[.string a0, .string a1] rfl (by (try simp only [List.map_toArray, List.map_cons, List.map_nil]); first | done | rfl | (simp only [List.length_drop, List.length_take]; rfl)) ?_; (with_reducible refine (bolterref13_TrimLeft.calls k a0 a1 t410 t411 _ A10.out).mono ?_); rintro e w47 ⟨rfl, hb⟩; refine ⟨_, rfl, ?_⟩; have n0_ := Aside0.mk (below_step (by repeat (first | (with_reducible first | exact HB.out | apply below_alloc | apply pw_below_drewN | apply below_drew1) | exact HB.out)) hb); clear HB; have HB := n0_; clear n0_; (try clear hb); (try clear hb2); (try clear hk); (try clear hi)) | ((with_reducible refine gate_callee (f := 19) rfl ?_); refine goesL_ (some 76) rfl rfl Tryd.func19 (by kernel_rfl) rfl #[.string a0, .string a1] rfl (by (try simp only [List.map_toArray, List.map_cons, List.map_nil]); first | done | rfl | (simp only [List.length_drop, List.length_take]; rfl)) ?_; (with_reducible refine (texts_TrimRight.calls k a0 a1 t412 t413 _ ?side1 A11.out).mono ?_); (case side1 => exact Aside0.mk (GlobG.below (by repeat (first | (with_reducible first | exact HB.out | apply below_alloc | apply pw_below_drewN | apply below_drew1) | exact HB.out)) hG.out)); rintro e w48 ⟨rfl, hb⟩; refine ⟨_, rfl, ?_⟩; have n0_ := Aside0.mk (below_step (by repeat (first | (with_reducible first | exact HB.out | apply below_alloc | apply pw_below_drewN | apply below_drew1) | exact HB.out)) hb); clear HB; have HB := n0_; clear n0_; (try clear hb); (try clear hb2); (try clear hk); (try clear hi)) | ((with_reducible refine gate_callee (f := 26) rfl ?_); refine goesL_ (some 82) rfl rfl Tryd.func26 (by kernel_rfl) rfl #[.string a0, .string a1] rfl (by (try simp only [List.map_toArray, List.map_cons, List.map_nil]); first | done | rfl | (simp only [List.length_drop, List.length_take]; rfl)) ?_; (with_reducible refine (bolterref13_TrimRight.calls k a0 a1 t414 t415 _ A12.out).mono ?_); rintro e w49 ⟨rfl, hb⟩; refine ⟨_, rfl, ?_⟩; have n0_ := Aside0.mk (below_step (by repeat (first | (with_reducible first | exact HB.out | apply below_alloc | apply pw_below_drewN | apply below_drew1) | exact HB.out)) hb); clear HB; have HB := n0_; clear n0_; (try clear hb); (try clear hb2); (try clear hk); (try clear hi)) | ((with_reducible refine gate_callee (f := 21) rfl ?_); refine goesL_ (some 88) rfl rfl Tryd.func21 (by kernel_rfl) rfl #[.string a0, .int .i64 a3] rfl (by (try simp only [List.map_toArray, List.map_cons, List.map_nil]); first | done | rfl | (simp only [List.length_drop, List.length_take]; rfl)) ?_; (with_reducible refine (texts_Repeat.calls k a0 a3 t416 t417 _ ?side1 A13.out).mono ?_); (case side1 => exact Aside0.mk (GlobG.below (by repeat (first | (with_reducible first | exact HB.out | apply below_alloc | apply pw_below_drewN | apply below_drew1) | exact HB.out)) hG.out)); rintro e w50 ⟨rfl, hb⟩; refine ⟨_, rfl, ?_⟩; have n0_ := Aside0.mk (below_step (by repeat (first | (with_reducible first | exact HB.out | apply below_alloc | apply pw_below_drewN | apply below_drew1) | exact HB.out)) hb); clear HB; have HB := n0_; clear n0_; (try clear hb); (try clear hb2); (try clear hk); (try clear hi)) | ((with_reducible refine gate_callee (f := 27) rfl ?_); refine goesL_ (some 94) rfl rfl Tryd.func27 (by kernel_rfl) rfl #[.string a0, .int .i64 a3] rfl (by (try simp only [List.map_toArray, List.map_cons, List.map_nil]); first | done | rfl | (simp only [List.length_drop, List.length_take]; rfl)) ?_; (with_reducible refine (bolterref13_Repeat.calls k a0 a3 t418 t419 _ A14.out).mono ?_); rintro e w51 ⟨rfl, hb⟩; refine ⟨_, rfl, ?_⟩; have n0_ := Aside0.mk (below_step (by repeat (first | (with_reducible first | exact HB.out | apply below_alloc | apply pw_below_drewN | apply below_drew1) | exact HB.out)) hb); clear HB; have HB := n0_; clear n0_; (try clear hb); (try clear hb2); (try clear hk); (try clear hi)) | ((with_reducible refine gate_callee (f := 22) rfl ?_); refine goesL_ (some 101) rfl rfl Tryd.func22 (by kernel_rfl) rfl #[.string a0, .string a1, .string a2] rfl (by (try simp only [List.map_toArray, List.map_cons, List.map_nil]); first | done | rfl | (simp only [List.length_drop, List.length_take]; rfl)) ?_; (with_reducible refine (texts_Replace.calls k a0 a1 a2 t420 t421 _ ?side1 A15.out).mono ?_); (case side1 => exact Aside0.mk (GlobG.below (by repeat (first | (with_reducible first | exact HB.out | apply below_alloc | apply pw_below_drewN | apply below_drew1) | exact HB.out)) hG.out)); rintro e w52 ⟨rfl, hb⟩; refine ⟨_, rfl, ?_⟩; have n0_ := Aside0.mk (below_step (by repeat (first | (with_reducible first | exact HB.out | apply below_alloc | apply pw_below_drewN | apply below_drew1) | exact HB.out)) hb); clear HB; have HB := n0_; clear n0_; (try clear hb); (try clear hb2); (try clear hk); (try clear hi)) | ((with_reducible refine gate_callee (f := 28) rfl ?_); refine goesL_ (some 108) rfl rfl Tryd.func28 (by kernel_rfl) rfl #[.string a0, .string a1, .string a2] rfl (by (try simp only [List.map_toArray, List.map_cons, List.map_nil]); first | done | rfl | (simp only [List.length_drop, List.length_take]; rfl)) ?_; (with_reducible refine (bolterref13_Replace.calls k a0 a1 a2 t422 t423 _ A16.out).mono ?_); rintro e w53 ⟨rfl, hb⟩; refine ⟨_, rfl, ?_⟩; have n0_ := Aside0.mk (below_step (by repeat (first | (with_reducible first | exact HB.out | apply below_alloc | apply pw_below_drewN | apply below_drew1) | exact HB.out)) hb); clear HB; have HB := n0_; clear n0_; (try clear hb); (try clear hb2); (try clear hk); (try clear hi)) | ((with_reducible refine gate_callee (f := 29) rfl ?_); refine goesL_ (some 113) rfl rfl Tryd.func29 (by kernel_rfl) rfl #[.string a0] rfl (by (try simp only [List.map_toArray, List.map_cons, List.map_nil]); first | done | rfl | (simp only [List.length_drop, List.length_take]; rfl)) ?_; (with_reducible refine (texts_Lines.calls k a0 t424 t425 _ ?side1 A17.out).mono ?_); (case side1 => exact Aside0.mk (GlobG.below (by repeat (first | (with_reducible first | exact HB.out | apply below_alloc | apply pw_below_drewN | apply below_drew1) | exact HB.out)) hG.out)); rintro e w54 ⟨v426, rfl, ho0, hb⟩; refine ⟨_, rfl, ?_⟩; have n0_ := Aside0.mk (Kd.R_lower ho0 (below_size (by repeat (first | (with_reducible first | exact HB.out | apply below_alloc | apply pw_below_drewN | apply below_drew1) | exact HB.out)))); have n1_ := Aside0.mk (below_step (by repeat (first | (with_reducible first | exact HB.out | apply below_alloc | apply pw_below_drewN | apply below_drew1) | exact HB.out)) hb); clear HB; have HO427 := n0_; have HB := n1_; clear n0_ n1_; (try clear hb); (try clear hb2); (try clear hk); (try clear hi); (try clear ho0)) | ((with_reducible refine gate_callee (f := 30) rfl ?_); refine goesL_ (some 118) rfl rfl Tryd.func30 (by kernel_rfl) rfl #[.string a0] rfl (by (try simp only [List.map_toArray, List.map_cons, List.map_nil]); first | done | rfl | (simp only [List.length_drop, List.length_take]; rfl)) ?_; (with_reducible refine (bolterref13_Lines.calls k a0 t428 t429 _ A18.out).mono ?_); rintro e w55 ⟨v430, rfl, ho0, hb⟩; refine ⟨_, rfl, ?_⟩; have n0_ := Aside0.mk (Kd.R_elder' (by (with_reducible repeat (first | apply Kd.R_alloc | apply Kd.R_drewN | apply Kd.R_drew)); exact HO427.out) (Kd.R_base ho0) hb); have n1_ := Aside0.mk (Kd.R_lower (Kd.R_new' ho0 (Kd.R_lt (by (with_reducible repeat (first | apply Kd.R_alloc | apply Kd.R_drewN | apply Kd.R_drew)); exact HO427.out))) (below_size (by repeat (first | (with_reducible first | exact HB.out | apply below_alloc | apply pw_below_drewN | apply below_drew1) | exact HB.out)))); have n2_ := Aside0.mk (below_step (by repeat (first | (with_reducible first | exact HB.out | apply below_alloc | apply pw_below_drewN | apply below_drew1) | exact HB.out)) hb); clear HO427; clear HB; have HO427 := n0_; have HO431 := n1_; have HB := n2_; clear n0_ n1_ n2_; (try clear hb); (try clear hb2); (try clear hk); (try clear hi); (try clear ho0)) | (go_at_call 13; (with_reducible refine (bolterlaw13_num.calls t401 t432 _ A20.out).mono ?_); rintro e w' ⟨rfl, ⟨nd, rfl⟩⟩) | (go_at_call 13; (with_reducible refine (bolterlaw13_num.calls t405 t433 _ A23.out).mono ?_); rintro e w' ⟨rfl, ⟨nd, rfl⟩⟩) | (go_at_call 13; (with_reducible refine (bolterlaw13_num.calls t409 t434 _ A26.out).mono ?_); rintro e w' ⟨rfl, ⟨nd, rfl⟩⟩) | (go_at_call 13; (with_reducible refine (bolterlaw13_num.calls t413 t435 _ A29.out).mono ?_); rintro e w' ⟨rfl, ⟨nd, rfl⟩⟩) | (go_at_call 13; (with_reducible refine (bolterlaw13_num.calls t417 t436 _ A32.out).mono ?_); rintro e w' ⟨rfl, ⟨nd, rfl⟩⟩) | (go_at_call 13; (with_reducible refine (bolterlaw13_num.calls t421 t437 _ A35.out).mono ?_); rintro e w' ⟨rfl, ⟨nd, rfl⟩⟩; obtain ⟨Ao56, co56, eo56⟩ := Kd.R_slice HO427.out; subst eo56; obtain ⟨Ao57, co57, eo57⟩ := Kd.R_slice HO431.out; subst eo57) | (go_at_call 31; (with_reducible refine (bolterplain_SameStrings.calls k _ _ t424 _ _ t428 true _ ?side1 ?side2 ?side3 ?side4 A37.out).mono ?_); (case side1 => repeat (first | exact (Kd.R_reads' HO427.out).2.2 | (with_reducible refine Kd.C_alloc ?_ _) | (with_reducible refine Kd.C_drewN ?_ _) | (with_reducible refine Kd.C_drew ?_))); (case side2 => exact (Kd.R_reads' HO427.out).2.1); (case side3 => repeat (first | exact (Kd.R_reads' HO431.out).2.2 | (with_reducible refine Kd.C_alloc ?_ _) | (with_reducible refine Kd.C_drewN ?_ _) | (with_reducible refine Kd.C_drew ?_))); (case side4 => exact (Kd.R_reads' HO431.out).2.1); rintro e w' ⟨rfl, ⟨nd, rfl⟩⟩) | (go_at_call 13; (with_reducible refine (bolterlaw13_num.calls t425 t439 _ A39.out).mono ?_); rintro e w' ⟨rfl, ⟨nd, rfl⟩⟩) | (go_at_call 10; (with_reducible refine (bolterlaw13_alive.calls k  t440 _ ?side1 A41.out).mono ?_); (case side1 => exact Aside0.mk (GlobG.below (by repeat (first | (with_reducible first | exact HB.out | apply below_alloc | apply pw_below_drewN | apply below_drew1) | exact HB.out)) hG.out)); rintro e w58 ⟨rfl, hb⟩; have n0_ := Aside0.mk (Kd.R_below (by (with_reducible repeat (first | apply Kd.R_alloc | apply Kd.R_drewN | apply Kd.R_drew)); exact HO427.out) hb); have n1_ := Aside0.mk (Kd.R_below (by (with_reducible repeat (first | apply Kd.R_alloc | apply Kd.R_drewN | apply Kd.R_drew)); exact HO431.out) hb); have n2_ := Aside0.mk (below_step (by repeat (first | (with_reducible first | exact HB.out | apply below_alloc | apply pw_below_drewN | apply below_drew1) | exact HB.out)) hb); clear HO427; clear HO431; clear HB; have HO427 := n0_; have HO431 := n1_; have HB := n2_; clear n0_ n1_ n2_; (try clear hb); (try clear hb2); (try clear hk); (try clear hi)))
                              go_ret
                              exact ⟨by first | rfl | (simp [errW_none, errW_some] <;> rfl) | (simp [*, errW_none, errW_some] <;> rfl), by repeat (first | (with_reducible first | exact HB.out | apply below_alloc | apply pw_below_drewN | apply below_drew1) | exact HB.out)⟩
                            · rw [if_neg c40] at H
                              have c40b0 : (t439 == t429) = false := beq_eq_false_iff_ne.mpr c40
                              have c40b1 : (t439 != t429) = true := bne_iff_ne.mpr c40
                              exact absurd ((Option.some.inj H).trans hr) Bool.false_ne_true
                          · replace c38 := Bool.eq_false_iff.mpr c38
                            subst c38
                            have H1 : (some false) = some r := by rw [if_neg (show ¬ (false = true) by decide)] at H; exact H
                            clear H
                            have H := H1
                            clear H1
                            exact absurd ((Option.some.inj H).trans hr) Bool.false_ne_true
                        · rw [if_neg c36] at H
                          have c36b0 : (t437 == t423) = false := beq_eq_false_iff_ne.mpr c36
                          have c36b1 : (t437 != t423) = true := bne_iff_ne.mpr c36
                          exact absurd ((Option.some.inj H).trans hr) Bool.false_ne_true
                      · rw [if_neg c34] at H
                        have c34b0 : (t420.toList == t422.toList) = false := beq_eq_false_iff_ne.mpr c34
                        have c34b1 : (t420.toList != t422.toList) = true := bne_iff_ne.mpr c34
                        exact absurd ((Option.some.inj H).trans hr) Bool.false_ne_true
                    · rw [if_neg c33] at H
                      have c33b0 : (t436 == t419) = false := beq_eq_false_iff_ne.mpr c33
                      have c33b1 : (t436 != t419) = true := bne_iff_ne.mpr c33
                      exact absurd ((Option.some.inj H).trans hr) Bool.false_ne_true
                  · rw [if_neg c31] at H
                    have c31b0 : (t416.toList == t418.toList) = false := beq_eq_false_iff_ne.mpr c31
                    have c31b1 : (t416.toList != t418.toList) = true := bne_iff_ne.mpr c31
                    exact absurd ((Option.some.inj H).trans hr) Bool.false_ne_true
                · rw [if_neg c30] at H
                  have c30b0 : (t435 == t415) = false := beq_eq_false_iff_ne.mpr c30
                  have c30b1 : (t435 != t415) = true := bne_iff_ne.mpr c30
                  exact absurd ((Option.some.inj H).trans hr) Bool.false_ne_true
              · rw [if_neg c28] at H
                have c28b0 : (t412.toList == t414.toList) = false := beq_eq_false_iff_ne.mpr c28
                have c28b1 : (t412.toList != t414.toList) = true := bne_iff_ne.mpr c28
                exact absurd ((Option.some.inj H).trans hr) Bool.false_ne_true
            · rw [if_neg c27] at H
              have c27b0 : (t434 == t411) = false := beq_eq_false_iff_ne.mpr c27
              have c27b1 : (t434 != t411) = true := bne_iff_ne.mpr c27
              exact absurd ((Option.some.inj H).trans hr) Bool.false_ne_true
          · rw [if_neg c25] at H
            have c25b0 : (t408.toList == t410.toList) = false := beq_eq_false_iff_ne.mpr c25
            have c25b1 : (t408.toList != t410.toList) = true := bne_iff_ne.mpr c25
            exact absurd ((Option.some.inj H).trans hr) Bool.false_ne_true
        · rw [if_neg c24] at H
          have c24b0 : (t433 == t407) = false := beq_eq_false_iff_ne.mpr c24
          have c24b1 : (t433 != t407) = true := bne_iff_ne.mpr c24
          exact absurd ((Option.some.inj H).trans hr) Bool.false_ne_true
      · rw [if_neg c22] at H
        have c22b0 : (t404 == t406) = false := by simpa using c22
        (try (have c22b1 : decide (t404 = t406) = false := by simpa using c22))
        (try (have c22b2 : (t404 == t406) = false := by simpa using c22))
        (try (have c22b3 : ¬ (t404 = t406) := by simpa using c22))
        clear c22
        exact absurd ((Option.some.inj H).trans hr) Bool.false_ne_true
    · rw [if_neg c21] at H
      have c21b0 : (t432 == t403) = false := beq_eq_false_iff_ne.mpr c21
      have c21b1 : (t432 != t403) = true := bne_iff_ne.mpr c21
      exact absurd ((Option.some.inj H).trans hr) Bool.false_ne_true
  · rw [if_neg c19] at H
    have c19b0 : (t400 == t402) = false := by simpa using c19
    (try (have c19b1 : decide (t400 = t402) = false := by simpa using c19))
    (try (have c19b2 : (t400 == t402) = false := by simpa using c19))
    (try (have c19b3 : ¬ (t400 = t402) := by simpa using c19))
    clear c19
    exact absurd ((Option.some.inj H).trans hr) Bool.false_ne_true
end Go.Proofs.YtdhjdddjgcfhkaaDoor.B

end

section
/- TextsEnds and TextsTells, plain. -/
set_option linter.unusedVariables false
set_option linter.unusedSimpArgs false
namespace Go.Proofs.YtdhjdddjgcfhkaaDoor.P
open Go.Lib Go.RowKit Go.Proofs.YtdhjdddjgcfhkaaDoor.B Go.Proofs.YtdhjdddjgcfhkaaDoorW.PrintWords

theorem wholesV_len (ps : List (List UInt8)) : (wholesV ps).1.length ≤ ps.length := by
  unfold wholesV; split
  · simp
  · simp
theorem linesV_len (s : ByteArray) : (linesV s.data.toList s).1.length ≤ s.size + 1 := by
  unfold linesV
  split
  · refine Nat.le_trans (wholesV_len _) ?_
    have := cutV_len s.data.toList
    rw [← size_eq] at this
    unfold dropE
    split
    · rw [List.length_take]; omega
    · exact this
  · simp
theorem textsEndsU (s t by_ : ByteArray) (n : Int) (hs : s.size < 1048576) (ht : t.size < 1048576) (hb : by_.size < 1048576) (hn : (Lit.int .i64 n).wf = true) : ∃ k, bolterlaw13_TextsEnds.f k s t by_ n = some true := by
  have hn' : n ≤ 9223372036854775807 := by
    have := ((Go.Lit.wf_int_iff .i64 n).1 hn).2
    exact Int.le_trans this (by decide)
  refine Tells.ex ?_
  unfold bolterlaw13_TextsEnds.f
  refine (begins_tells s t (by omega) (by omega)).bind ?_
  refine (begins13_tells s t hs ht).bind ?_
  refine (ends_tells s t (by omega) (by omega)).bind ?_
  refine (ends13_tells s t hs ht).bind ?_
  refine (trimLeft_tells s t (by omega) (by omega)).bind ?_
  refine (trimLeft13_tells s t hs ht).bind ?_
  refine (trimRight_tells s t (by omega) (by omega)).bind ?_
  refine (trimRight13_tells s t hs ht).bind ?_
  refine (repeat_tells s n hs hn').bind ?_
  refine (repeat13_tells s n hs hn').bind ?_
  refine (replace_tells s t by_ hs ht hb).bind ?_
  refine (replace13_tells s t by_ hs ht hb).bind ?_
  refine (lines_tells s hs).bind ?_
  refine (lines13_tells s hs).bind ?_
  simp only [bolterlaw13_num.f, Option.bind_some, beq_self_eq_true, if_true]
  refine (same_tells _ (by have := linesV_len s; omega)).bind ?_
  simp only [if_true]
  exact alive_tells.bind (Tells.pure _)
end Go.Proofs.YtdhjdddjgcfhkaaDoor.P

end

section
/- TextsEnds: its row and its cards, the second form (printed by wip/tools/rowgen.py). -/
set_option linter.unusedVariables false
set_option linter.unusedSimpArgs false
namespace Go.Proofs.YtdhjdddjgcfhkaaDoor.R.textsEnds
open Go.ChangeShapes Go.WideShapes Go.ChangeAt Go.RowKit
open Go.ChangeMaps (open_string shut_string)
theorem reads (os : Os) {H : Type} (enc : TypeId × Value → H) : ∃ places, DataW.whole enc Tryd.prog ((laidWorld os).forCall (fun _ _ => 0) ⟨#[], #[Value.string ByteArray.empty, Value.string ByteArray.empty, Value.string ByteArray.empty, Value.int .i64 0], []⟩).memory Tryd.f7.params.toList Rows.textsEndsSpec.vars false (#[Value.string ByteArray.empty, Value.string ByteArray.empty, Value.string ByteArray.empty, Value.int .i64 0] : Array Value).toList 8 = some ([.lit (.string []), .lit (.string []), .lit (.string []), .lit (.int .i64 0)], [], places) :=
  ⟨[], by kernel_rfl⟩
set_option maxRecDepth 100000 in
theorem contract (H : Type) (enc : TypeId × Value → H) (W : World) (base : Nat) (args : Array Value) (ds gs : List (DataW H)) (before : List MemPlace)
    (hval : ∀ (j : Nat) t v, Tryd.f7.params[j]? = some t → args[j]? = some v → Value.okWide Tryd.prog W .any base t v)
    (hW : DataW.Whole enc Tryd.prog Tryd.f7.params.toList Rows.textsEndsSpec.vars false W args.toList ds gs before) (hk : Rows.uptoSmall H (ds ++ gs) = true) (hL : laidMetH Tryd.prog laidL W) (hsh : W.ShapedOpen Tryd.prog) :
    Calls Tryd.prog 7 args W fun e W' => ∃ v, e = .returned v ∧ Rows.textsEndsSpec.post enc Tryd.prog Tryd.f7 false true false false W args v W' := by
  have hG := glob hL hsh
  have hW' := hW
  obtain ⟨p, q, hA0, hV, rfl, hfz, hnd⟩ := hW
  have hA : DataW.TrodAll enc Tryd.prog W 0 (fun _ => true) true Tryd.f7.params.toList args.toList ds p := hA0
  rw [Tryd.params7] at hA hval
  obtain ⟨v0, vs0, d0, ds0, p0, q0, hargs, rfl, rfl, h0, r0⟩ := trodAll_cons hA
  obtain ⟨v1, vs1, d1, ds1, p1, q1, rfl, rfl, rfl, h1, r1⟩ := trodAll_cons r0
  obtain ⟨v2, vs2, d2, ds2, p2, q2, rfl, rfl, rfl, h2, r2⟩ := trodAll_cons r1
  obtain ⟨v3, vs3, d3, ds3, p3, q3, rfl, rfl, rfl, h3, r3⟩ := trodAll_cons r2
  obtain ⟨rfl, rfl, rfl⟩ := trodAll_nil r3
  obtain rfl : args = #[v0, v1, v2, v3] := by cases args; simp_all
  obtain ⟨rfl, rfl⟩ := trodVars_none hV
  obtain ⟨a0, rfl, rfl, rfl, y0⟩ := open_string Tryd.underlying9 (hval 0 9 v0 rfl rfl) h0
  obtain ⟨a1, rfl, rfl, rfl, y1⟩ := open_string Tryd.underlying9 (hval 1 9 v1 rfl rfl) h1
  obtain ⟨a2, rfl, rfl, rfl, y2⟩ := open_string Tryd.underlying9 (hval 2 9 v2 rfl rfl) h2
  obtain ⟨a3, rfl, rfl, rfl, y3⟩ := open_int Tryd.underlying3 (hval 3 3 v3 rfl rfl) h3
  have z0 : a0.size < 1048576 := str_small hk a0 (by simp)
  have z1 : a1.size < 1048576 := str_small hk a1 (by simp)
  have z2 : a2.size < 1048576 := str_small hk a2 (by simp)
  simp only [List.append_nil] at hW'
  clear hA0 hA hk hL
  obtain ⟨k, hp⟩ := P.textsEndsU a0 a1 a2 a3 z0 z1 z2 y3
  refine (B.bolterlaw13_TextsEnds.calls k a0 a1 a2 a3 true W ⟨hG⟩ hp rfl).mono fun e W' ⟨he, bel⟩ => ?_
  subst he
  exact ⟨_, rfl, _, _, _, [], _, [], hW', trodAll_mk1 (shut_bool Tryd.underlying4 _), (trodAll_cons_mk (shut_string Tryd.underlying9 y0) (trodAll_cons_mk (shut_string Tryd.underlying9 y1) (trodAll_cons_mk (shut_string Tryd.underlying9 y2) (trodAll_cons_mk (shut_int Tryd.underlying3 y3) trodAll_mk0)))), rfl, bel.frame _, fun h => by cases h⟩
set_option maxRecDepth 100000 in
theorem lifted (os : Os) (started : os.Started) (H : Type) (enc : TypeId × Value → H) (F : Stop.Interp) :
    ReturnsInHanded {} Tryd.checked os 7 .any ((Rows.OpenSpec.upto Rows.textsEndsSpec).preRow enc Tryd.prog Tryd.f7 Rows.textsEndsUptoRow.domain false Rows.textsEndsUptoRow.laid) (((Rows.OpenSpec.upto Rows.textsEndsSpec).at F).post enc Tryd.prog Tryd.f7 false true false false) := by
  obtain ⟨places, hx⟩ := reads os enc
  refine returnsInHanded_of_row (C := Tryd.checked) (s := Rows.OpenSpec.upto Rows.textsEndsSpec) own started (by kernel_rfl) Tryd.func7
    (witness_row_at (enc := enc) (C := Tryd.checked) false (laidWorld os) #[Value.string ByteArray.empty, Value.string ByteArray.empty, Value.string ByteArray.empty, Value.int .i64 0] rfl (by kernel_rfl) (by kernel_rfl) (by kernel_rfl)
      (OpenSpec.preRow_of_cond 8 hx (by kernel_rfl) (fun k hk => by cases hk; kernel_rfl) (by kernel_rfl) (laid_met os _))) ?_
  intro W base args ds gs before hval hW _ hk _ hL hsh _
  exact contract H enc W base args ds gs before hval hW (hk _ rfl) hL hsh
theorem said : Rows.TextsEndsUptoSaid :=
  OpenClaim.holds_of_cond 7 Tryd.f7 rfl rfl rfl rfl rfl rfl rfl ⟨rfl, rfl, rfl, rfl, rfl⟩ rfl rfl rfl rfl rfl (by kernel_rfl) Tryd.func7 (by kernel_rfl)
    (of_decide_eq_true (by kernel_rfl)) (by unfold Func.isWrapper; first | (rw [if_pos (by decide +kernel)]; kernel_rfl) | (rw [if_neg (by decide +kernel)]; exact ⟨rfl, rfl⟩))
    (fun os started H enc _ F => by rw [OpenClaim.pre_eq_preRow]; exact lifted os started H enc F)
theorem plain (f : FuncId) (fn : Func) (hf : Tryd.pinned.checked.prog.funcNamed "bolter/bolterlaw13.TextsEnds" = some f) (hfn : Tryd.pinned.checked.prog.funcs[f]? = some fn) :
    false = Tryd.pinned.checked.prog.looks [] ∧ ∀ (j : Nat) t, fn.params[j]? = some t → Tryd.pinned.checked.prog.wantsStandIn t = false := by
  obtain rfl : f = 7 := Option.some.inj ((show Tryd.prog.funcNamed "bolter/bolterlaw13.TextsEnds" = some 7 by kernel_rfl).symm.trans hf) |>.symm
  obtain rfl : fn = Tryd.f7 := (Option.some.inj (Tryd.func7.symm.trans hfn)).symm
  refine ⟨by kernel_rfl, fun j t ht => ?_⟩
  rw [Tryd.params7] at ht
  have hm : t ∈ (#[9, 9, 9, 3] : Array TypeId) := Array.mem_of_getElem? ht
  have hall : ∀ t ∈ [9, 9, 9, 3], Tryd.prog.wantsStandIn t = false := by
    intro t h
    simp only [List.mem_cons, List.mem_nil_iff, or_false] at h
    rcases h with rfl | rfl | rfl | rfl <;> kernel_rfl
  exact hall t (by simpa using hm)
theorem card : Rows.TextsEndsUptoCardSaid :=
  Claim7.holds_tied_plain_at .later [] _ _ _ _ said (fun _ h => by cases h) (by kernel_rfl) (fun _ h => by cases h) textsEndsUpto_row_tie rfl ⟨rfl, rfl⟩ (by kernel_rfl) rfl plain (by kernel_rfl)
#print axioms card
end Go.Proofs.YtdhjdddjgcfhkaaDoor.R.textsEnds

end
