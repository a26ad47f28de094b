import Derived.Test.YtonfhfcpnoehjaaDoorPureG
import Derived.Test.YtonfhfcpnoehjaaDoorL7
set_option linter.unusedVariables false
set_option linter.unusedSimpArgs false
namespace Go.Proofs.YtonfhfcpnoehjaaDoor.Pure
open Go.RowKit Go.Proofs.YtonfhfcpnoehjaaDoorW.PrintWords Go.Proofs.YtonfhfcpnoehjaaDoorW.PrintLast Go.Proofs.YtonfhfcpnoehjaaDoor.Giv Go.Proofs.YtonfhfcpnoehjaaDoor.L Go.Proofs.YtonfhfcpnoehjaaDoor.Plain
noncomputable def syncB (d p : ByteArray) (n : Int) : ByteArray × ByteArray × Int × Bool := if validLog d p n = true then ((d ++ p), (⟨#[]⟩ : ByteArray), n, true) else ((⟨#[]⟩ : ByteArray), (⟨#[]⟩ : ByteArray), 0, false)
theorem spec_sync_ev (d p : ByteArray) (n : Int) (hs : d.size + p.size ≤ 1048576) : Ev (fun k => spec_SyncLog.f k d p n) (syncB d p n) := by
  unfold spec_SyncLog.f
  refine Ev.bind (spec_valid_ev d p n hs) ?_
  unfold syncB
  split
  · exact Ev.yes (by omega) (Ev.const rfl)
  · exact Ev.const rfl
theorem impl_sync_ev (d p : ByteArray) (n : Int) (hs : d.size + p.size ≤ 1048576) : Ev (fun k => impl_SyncLog.f k d p n) (syncB d p n) := by
  unfold impl_SyncLog.f
  refine Ev.bind (impl_isValid_ev d p n hs) ?_
  unfold syncB
  split
  · exact Ev.yes (by omega) (Ev.const rfl)
  · exact Ev.const rfl
/-- FnExactSyncLog. -/
theorem FnExactSyncLog (d p : ByteArray) (n : Int) (hd : Big d) (hp : Big p) (_hn : (Lit.int .i64 n).wf = true) : ∃ k, laws_FnExactSyncLog.f k d p n = some true := by
  refine Ev.rounds ?_
  unfold laws_FnExactSyncLog.f
  obtain ⟨z, hz, h⟩ := szl d p n hd hp
  refine Ev.bind0 hz (Ev.ite (fun _ => Ev.const rfl) fun hz0 => ?_)
  have hs := h hz0
  exact Ev.bind0 rfl (Ev.bind (spec_sync_ev d p n hs) (Ev.bind0 rfl (Ev.bind (impl_sync_ev d p n hs) (Ev.bind0 (eqLog_self _ _ _) (Ev.yes rfl (Ev.no (by simp) (Ev.const rfl)))))))
#print axioms FnExactSyncLog
end Go.Proofs.YtonfhfcpnoehjaaDoor.Pure
