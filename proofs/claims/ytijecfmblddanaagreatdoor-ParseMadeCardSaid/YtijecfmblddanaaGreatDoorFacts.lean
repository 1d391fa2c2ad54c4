/- What a row asks of the whole program, proved once: the program's make, read off its first line, not reckoned whole (reckoned whole it takes the kernel a minute and 12 GB at 24 roots). -/
import Derived.Test.YtijecfmblddanaaGreatDoorG1
namespace Go.Proofs.YtijecfmblddanaaGreatDoor
open Go.ChangeShapes Go.WideShapes Go.ChangeAt Go.RowKit
def ioCs : List Char := [104, 97, 114, 110, 101, 115, 115, 32, 54, 48, 49, 57, 99, 98, 97, 102, 57, 49, 55, 56, 50, 102, 56, 49, 98, 99, 102, 99, 102, 51, 102, 57, 102, 51, 102, 54, 51, 50, 102, 101, 57, 97, 57, 54, 56, 54, 57, 49, 97, 54, 49, 97, 99, 54, 51, 51, 99, 52, 102, 55, 57, 51, 57, 97, 102, 49, 49, 53, 102, 55, 97, 102, 32, 99, 117, 116, 32, 97, 116, 32, 112, 97, 114, 116, 101, 114, 114, 101, 47, 112, 97, 114, 116, 101, 114, 114, 101, 108, 97, 119, 48, 57, 46, 80, 97, 114, 115, 101, 77, 97, 100, 101].map Char.ofNat
set_option maxRecDepth 100000 in
theorem io_chars : Tryz.prog.initOrder.toList = ioCs := by
  have h : Tryz.prog.initOrder = String.ofList ioCs := by kernel_rfl
  rw [h]
  exact String.toList_ofList
theorem make_cut (P : Program) (l : List Char) (h : P.initOrder.toList = l) (hc : (behindMainWord (wordsSigns l)).head? = some "cut".toList) : P.make = some Make.cut := by
  unfold Program.make
  rw [h]
  match hb : behindMainWord (wordsSigns l), hc with
  | c :: rest, hc =>
    simp at hc
    subst hc
    rfl
theorem strip_cut (rest : List (List Char)) : stripLifts liftWords ([Char.ofNat 99, Char.ofNat 117, Char.ofNat 116] :: rest) = ([], [Char.ofNat 99, Char.ofNat 117, Char.ofNat 116] :: rest) := by
  simp [liftWords, stripLifts]
theorem enter_cut (P : Program) (l : List Char) (h : P.initOrder.toList = l) (hc : (behindMainWord (wordsSigns l)).head? = some "cut".toList) (h1 : P.laysLater = false) (h2 : P.bearsReflect = false) (h3 : P.doorFits [] = true) : P.mayEnter = true := by
  unfold Program.mayEnter
  rw [h]
  match hb : behindMainWord (wordsSigns l), hc with
  | c :: rest, hc =>
    simp only [List.head?_cons, Option.some.injEq] at hc
    subst hc
    simp [strip_cut, h1, h2, h3]
theorem lifts_cut (P : Program) (l : List Char) (h : P.initOrder.toList = l) (hc : (behindMainWord (wordsSigns l)).head? = some "cut".toList) : P.liftsFinal = false := by
  unfold Program.liftsFinal Program.headLifts
  rw [h]
  match hb : behindMainWord (wordsSigns l), hc with
  | c :: rest, hc =>
    simp only [List.head?_cons, Option.some.injEq] at hc
    subst hc
    simp [strip_cut]
theorem io_head : (behindMainWord (wordsSigns ioCs)).head? = some "cut".toList := by kernel_rfl
theorem io_make : Tryz.prog.make = some Make.cut := make_cut _ _ io_chars io_head
theorem io_lifts : Tryz.prog.liftsFinal = false := lifts_cut _ _ io_chars io_head
theorem io_enter : Tryz.prog.mayEnter = true := enter_cut _ _ io_chars io_head (by kernel_rfl) (by kernel_rfl) (by kernel_rfl)
theorem pin_enter : Tryz.pinned.checked.prog.mayEnter = true := io_enter
theorem pin_lifts : Tryz.pinned.checked.prog.liftsFinal = false := io_lifts
theorem pin_make : Tryz.pinned.checked.prog.make = some Make.cut := io_make
end Go.Proofs.YtijecfmblddanaaGreatDoor
