/- The law ChunkReads over plain functions: any bytes are read as a replica's file as the reference reads them, or refused. For every text. -/
import Derived.Test.YtljllecpmllefaaCkE
import Derived.Test.YtljllecpmllefaaPx28
namespace Go.Proofs.Ytljllecpmllefaa.Pure
open Go.RowKit Go.Proofs.Ytljllecpmllefaa.Sp Go.Proofs.YtljllecpmllefaaW.PrintWords Go.Proofs.YtljllecpmllefaaW.PrintLast Go.Proofs.YtljllecpmllefaaW.PrintMore Go.Proofs.Ytljllecpmllefaa.P
set_option linter.unusedVariables false

theorem ChunkReads : tabulariumlaw18_ChunkReads.Pure := by
  intro b w0
  refine ⟨50000, ?_⟩
  unfold tabulariumlaw18_ChunkReads.f
  rw [examples_at 50000 (by omega), Option.bind_some, read_at, Option.bind_some, refread_at b w0 50000 (by omega), Option.bind_some]
  unfold toR
  have he := readv_err b
  generalize readv b = x at he ⊢
  simp only [beq_self_eq_true, Bool.and_self]
  rw [if_pos trivial, if_pos trivial, if_pos trivial, if_pos trivial]
  rcases he with e | e
  · rw [e, if_pos (by decide), if_pos rfl]
  · rw [e, if_neg (by decide)]
    rfl
end Go.Proofs.Ytljllecpmllefaa.Pure
