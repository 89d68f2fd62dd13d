/- rec's tables in the printed form, for the printed Check. -/
import Derived.Test.YtaahfokdgfopcaaZRa
namespace Go.Proofs.Ytaahfokdgfopcaa.Rf
open Go.RowKit Go.Proofs.YtaahfokdgfopcaaW.PrintWords Go.Proofs.YtaahfokdgfopcaaW.PrintLast Go.Proofs.YtaahfokdgfopcaaW.PrintMore
set_option linter.unusedVariables false
def rec_tables.f (k : Nat) (a0_0 : Int) (a0_1 : Int) (a0_2 : Int) (a0_3 : Int) (a0_4 : Int) (a0_5 : Int) (a0_6 : Int) (a0_7 : ByteArray) (a0_8 : ByteArray) (a0_9 : ByteArray) (l0_10 : List (SGTxn)) (l0_11 : List (SGDirty)) : Option (Bool) := some (tabOk l0_10 l0_11)
theorem rec_tables.mono : ∀ a0 a1 a2 a3 a4 a5 a6 a7 a8 a9 a10 a11 k, LeO (rec_tables.f k a0 a1 a2 a3 a4 a5 a6 a7 a8 a9 a10 a11) (rec_tables.f (k + 1) a0 a1 a2 a3 a4 a5 a6 a7 a8 a9 a10 a11) :=
  fun _ _ _ _ _ _ _ _ _ _ _ _ _ => LeO.refl _
theorem rec_tables.calls (k : Nat) (a0_0 : Int) (a0_1 : Int) (a0_2 : Int) (a0_3 : Int) (a0_4 : Int) (a0_5 : Int) (a0_6 : Int) (a0_7 : ByteArray) (a0_8 : ByteArray) (a0_9 : ByteArray) (A0_10 : Option Addr) (c0_10 : Nat) (l0_10 : List (SGTxn)) (A0_11 : Option Addr) (c0_11 : Nat) (l0_11 : List (SGDirty)) (r : Bool) (w : World) (hr0_10 : Kd.C kGTxn w A0_10 l0_10.length l0_10) (hc0_10 : l0_10.length ≤ c0_10) (hr0_11 : Kd.C kGDirty w A0_11 l0_11.length l0_11) (hc0_11 : l0_11.length ≤ c0_11) (h : rec_tables.f k a0_0 a0_1 a0_2 a0_3 a0_4 a0_5 a0_6 a0_7 a0_8 a0_9 l0_10 l0_11 = some r) :
    Calls Try.prog 49 #[.agg #[.int .i64 a0_0, .int .u64 a0_1, .int .i64 a0_2, .int .u64 a0_3, .int .u64 a0_4, .int .i64 a0_5, .int .i64 a0_6, .string a0_7, .string a0_8, .string a0_9, .slice A0_10 l0_10.length c0_10, .slice A0_11 l0_11.length c0_11]] w fun e w' => e = .returned (.bool r) ∧ Below w.heap.size w w' := by
  have hr : tabOk l0_10 l0_11 = r := Option.some.inj h
  subst hr
  exact tables_calls w a0_0 a0_1 a0_2 a0_3 a0_4 a0_5 a0_6 a0_7 a0_8 a0_9 A0_10 c0_10 l0_10 A0_11 c0_11 l0_11 hr0_10 hc0_10 hr0_11 hc0_11
end Go.Proofs.Ytaahfokdgfopcaa.Rf
