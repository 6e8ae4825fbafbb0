/- Written by a program of this session (wip/mkascii.py): the walk of PropsAscii: every byte. -/
import Derived.Test.YtmhebfohlebaaaaDoorAs0
import Derived.Test.YtmhebfohlebaaaaDoorAs1
import Derived.Test.YtmhebfohlebaaaaDoorAs2
import Derived.Test.YtmhebfohlebaaaaDoorAs3
import Derived.Test.YtmhebfohlebaaaaDoorAs4
import Derived.Test.YtmhebfohlebaaaaDoorAs5
import Derived.Test.YtmhebfohlebaaaaDoorAs6
import Derived.Test.YtmhebfohlebaaaaDoorAs7
namespace Go.Proofs.YtmhebfohlebaaaaDoor.Q
open Go.Proofs.YtmhebfohlebaaaaDoorH Go.Proofs.YtmhebfohlebaaaaDoorSh Go.RowKit Go.Proofs.YtmhebfohlebaaaaDoor.P Go.Proofs.YtmhebfohlebaaaaDoorW.PrintWords Go.Proofs.YtmhebfohlebaaaaDoorW.PrintLast Go.Proofs.YtmhebfohlebaaaaDoorW.PrintMore
set_option linter.unusedVariables false
set_option linter.unusedSimpArgs false
def selvedgelaw01_PropsAscii.Pure : Prop := True
theorem selvedgelaw01_PropsAscii.walk (_P : selvedgelaw01_PropsAscii.Pure) (a0 : Int) (w : World) (w0 : (Lit.int .u8 a0).wf = true) (hG : LaidW w) :
    Calls Tryd.prog 7 #[.int .u8 a0] w fun e w' => e = .returned (.bool true) ∧ Below w.heap.size w w' := by
  have ha : 0 ≤ a0 ∧ a0 ≤ 255 := by simp [Lit.wf, IntKind.min, IntKind.max, IntKind.signed, IntKind.bits] at w0; exact w0
  have hr : 0 ≤ (wrap32 (Int.tmod a0 128)) ∧ (wrap32 (Int.tmod a0 128)) ≤ 127 := by
    have e : Int.tmod a0 128 = a0 % 128 := Int.tmod_eq_emod_of_nonneg ha.1
    rw [e]; unfold wrap32; omega
  by_cases c0 : (wrap32 (Int.tmod a0 128)) ≤ 8
  · exact asc0 a0 w (by omega) c0 hG
  by_cases c1 : (wrap32 (Int.tmod a0 128)) ≤ 9
  · exact asc1 a0 w (by omega) c1 hG
  by_cases c2 : (wrap32 (Int.tmod a0 128)) ≤ 10
  · exact asc2 a0 w (by omega) c2 hG
  by_cases c3 : (wrap32 (Int.tmod a0 128)) ≤ 11
  · exact asc3 a0 w (by omega) c3 hG
  by_cases c4 : (wrap32 (Int.tmod a0 128)) ≤ 12
  · exact asc4 a0 w (by omega) c4 hG
  by_cases c5 : (wrap32 (Int.tmod a0 128)) ≤ 13
  · exact asc5 a0 w (by omega) c5 hG
  by_cases c6 : (wrap32 (Int.tmod a0 128)) ≤ 27
  · exact asc6 a0 w (by omega) c6 hG
  by_cases c7 : (wrap32 (Int.tmod a0 128)) ≤ 30
  · exact asc7 a0 w (by omega) c7 hG
  by_cases c8 : (wrap32 (Int.tmod a0 128)) ≤ 31
  · exact asc8 a0 w (by omega) c8 hG
  by_cases c9 : (wrap32 (Int.tmod a0 128)) ≤ 32
  · exact asc9 a0 w (by omega) c9 hG
  by_cases c10 : (wrap32 (Int.tmod a0 128)) ≤ 34
  · exact asc10 a0 w (by omega) c10 hG
  by_cases c11 : (wrap32 (Int.tmod a0 128)) ≤ 37
  · exact asc11 a0 w (by omega) c11 hG
  by_cases c12 : (wrap32 (Int.tmod a0 128)) ≤ 39
  · exact asc12 a0 w (by omega) c12 hG
  by_cases c13 : (wrap32 (Int.tmod a0 128)) ≤ 40
  · exact asc13 a0 w (by omega) c13 hG
  by_cases c14 : (wrap32 (Int.tmod a0 128)) ≤ 41
  · exact asc14 a0 w (by omega) c14 hG
  by_cases c15 : (wrap32 (Int.tmod a0 128)) ≤ 42
  · exact asc15 a0 w (by omega) c15 hG
  by_cases c16 : (wrap32 (Int.tmod a0 128)) ≤ 43
  · exact asc16 a0 w (by omega) c16 hG
  by_cases c17 : (wrap32 (Int.tmod a0 128)) ≤ 44
  · exact asc17 a0 w (by omega) c17 hG
  by_cases c18 : (wrap32 (Int.tmod a0 128)) ≤ 45
  · exact asc18 a0 w (by omega) c18 hG
  by_cases c19 : (wrap32 (Int.tmod a0 128)) ≤ 47
  · exact asc19 a0 w (by omega) c19 hG
  by_cases c20 : (wrap32 (Int.tmod a0 128)) ≤ 57
  · exact asc20 a0 w (by omega) c20 hG
  by_cases c21 : (wrap32 (Int.tmod a0 128)) ≤ 58
  · exact asc21 a0 w (by omega) c21 hG
  by_cases c22 : (wrap32 (Int.tmod a0 128)) ≤ 59
  · exact asc22 a0 w (by omega) c22 hG
  by_cases c23 : (wrap32 (Int.tmod a0 128)) ≤ 60
  · exact asc23 a0 w (by omega) c23 hG
  by_cases c24 : (wrap32 (Int.tmod a0 128)) ≤ 61
  · exact asc24 a0 w (by omega) c24 hG
  by_cases c25 : (wrap32 (Int.tmod a0 128)) ≤ 62
  · exact asc25 a0 w (by omega) c25 hG
  by_cases c26 : (wrap32 (Int.tmod a0 128)) ≤ 64
  · exact asc26 a0 w (by omega) c26 hG
  by_cases c27 : (wrap32 (Int.tmod a0 128)) ≤ 90
  · exact asc27 a0 w (by omega) c27 hG
  by_cases c28 : (wrap32 (Int.tmod a0 128)) ≤ 91
  · exact asc28 a0 w (by omega) c28 hG
  by_cases c29 : (wrap32 (Int.tmod a0 128)) ≤ 92
  · exact asc29 a0 w (by omega) c29 hG
  by_cases c30 : (wrap32 (Int.tmod a0 128)) ≤ 93
  · exact asc30 a0 w (by omega) c30 hG
  by_cases c31 : (wrap32 (Int.tmod a0 128)) ≤ 96
  · exact asc31 a0 w (by omega) c31 hG
  by_cases c32 : (wrap32 (Int.tmod a0 128)) ≤ 122
  · exact asc32 a0 w (by omega) c32 hG
  by_cases c33 : (wrap32 (Int.tmod a0 128)) ≤ 123
  · exact asc33 a0 w (by omega) c33 hG
  by_cases c34 : (wrap32 (Int.tmod a0 128)) ≤ 124
  · exact asc34 a0 w (by omega) c34 hG
  by_cases c35 : (wrap32 (Int.tmod a0 128)) ≤ 125
  · exact asc35 a0 w (by omega) c35 hG
  by_cases c36 : (wrap32 (Int.tmod a0 128)) ≤ 126
  · exact asc36 a0 w (by omega) c36 hG
  exact asc37 a0 w (by omega) (by omega) hG
end Go.Proofs.YtmhebfohlebaaaaDoor.Q
