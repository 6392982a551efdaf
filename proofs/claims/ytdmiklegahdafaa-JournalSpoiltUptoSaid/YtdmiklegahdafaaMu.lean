/- The numbers under which this print holds the library's locks. -/
import Derived.Test.YtdmiklegahdafaaProg
import Derived.Conc.RwLib
import Derived.Conc.MuData
import Derived.KernelRfl
namespace Go.Proofs.Ytdmiklegahdafaa
abbrev muLink : Go.Conc.Locks.MuLink := { lock := 42, unlock := 43, ilock := 60, iunlock := 61, lockSlow := 70, unlockSlow := 73, disable := 66, enable := 68, acquire := 69, relMerge := 71, cas32 := 67, add32 := 72, tMutex := 83, tIMutex := 81, tPMutex := 106, tPIMutex := 113, tPI32 := 115, tUP := 117, tNoCopy := 79, tU32 := 25 }
theorem muLib : Go.Conc.Locks.MuLib Try.prog muLink :=
  ⟨Try.func42, Try.func43, Try.func60, Try.func61, Try.func66, Try.func68, Try.func69, Try.func71, Try.func67, Try.func72, Try.underlying81, Try.runUnderlying81, Try.sizeOf81, Try.isAgg81, Try.zeroValue81, Try.underlying83, Try.runUnderlying83, Try.sizeOf83, Try.isAgg83, Try.zeroValue83, Try.underlying106, Try.runUnderlying106, Try.sizeOf106, Try.isAgg106, Try.zeroValue106, Try.underlying113, Try.runUnderlying113, Try.sizeOf113, Try.isAgg113, Try.zeroValue113, Try.underlying115, Try.runUnderlying115, Try.sizeOf115, Try.isAgg115, Try.zeroValue115, Try.underlying117, Try.runUnderlying117, Try.sizeOf117, Try.isAgg117, Try.zeroValue117, Try.underlying79, Try.runUnderlying79, Try.sizeOf79, Try.isAgg79, Try.zeroValue79, Try.underlying21, Try.runUnderlying21, Try.sizeOf21, Try.isAgg21, Try.zeroValue21, (by kernel_rfl)⟩
end Go.Proofs.Ytdmiklegahdafaa
