/- The law ChunkParts over plain functions: any head, packet, end and whole file is written, and any bytes are cut, as the document's answer says, or refused. For every two numbers, every text, every flag and every two ints. -/
import Derived.Test.YtljllecpmllefaaCkB
import Derived.Test.YtljllecpmllefaaCkC
import Derived.Test.YtljllecpmllefaaPx20
import Derived.Test.YtljllecpmllefaaPx21
namespace Go.Proofs.Ytljllecpmllefaa.Pure
open Go.RowKit Go.Proofs.Ytljllecpmllefaa.Sp Go.Proofs.YtljllecpmllefaaW.PrintWords Go.Proofs.YtljllecpmllefaaW.PrintLast Go.Proofs.YtljllecpmllefaaW.PrintMore Go.Proofs.Ytljllecpmllefaa.P
set_option linter.unusedVariables false

theorem refcut_at (s : ByteArray) (hs : s.size ≤ 140737488351232) (a n : Nat) (ha : a ≤ s.size) (hn : (n : Int) ≤ 9223372036854775807) : tabulariumref18_Cut.f s (a : Int) (n : Int) = some (s.extract a (a + n), true) := by
  unfold tabulariumref18_Cut.f
  have w1 : wrap64 ((s.size : Int) - (a : Int)) = ((s.size - a : Nat) : Int) := by unfold wrap64; omega
  have hm : mn (n : Int) (wrap64 ((s.size : Int) - (a : Int))) = ((min n (s.size - a) : Nat) : Int) := by rw [w1]; unfold mn; split <;> omega
  have w2 : wrap64 ((a : Int) + ((min n (s.size - a) : Nat) : Int)) = ((a + min n (s.size - a) : Nat) : Int) := by unfold wrap64; omega
  rw [if_neg (by omega), if_neg (by omega), if_neg (by omega), if_pos (by omega), hm, w2, if_pos (by omega), if_pos (by omega), Int.toNat_natCast, Int.toNat_natCast]
  congr 2
  by_cases c : n ≤ s.size - a
  · rw [Nat.min_eq_left c]
  · rw [Nat.min_eq_right (by omega), show a + (s.size - a) = s.size by omega, ext_all s a (a + n) (by omega)]
theorem cuts_alike (s : ByteArray) (hs : s.size ≤ 140737488351232) (a n : Int) (hn : n ≤ 9223372036854775807) : (∃ t, chunk_Cut.f s a n = some (t, 0) ∧ tabulariumref18_Cut.f s a n = some (t, true)) ∨ (chunk_Cut.f s a n = some (⟨#[]⟩, 1) ∧ tabulariumref18_Cut.f s a n = some (⟨#[]⟩, false)) := by
  by_cases c1 : a < 0
  · exact .inr ⟨by unfold chunk_Cut.f; rw [if_pos c1], by unfold tabulariumref18_Cut.f; rw [if_pos c1]⟩
  · by_cases c2 : n < 0
    · exact .inr ⟨by unfold chunk_Cut.f; rw [if_neg c1, if_pos c2], by unfold tabulariumref18_Cut.f; rw [if_neg c1, if_pos c2]⟩
    · by_cases c3 : a > (s.size : Int)
      · exact .inr ⟨by unfold chunk_Cut.f; rw [if_neg c1, if_neg c2, if_pos c3], by unfold tabulariumref18_Cut.f; rw [if_neg c1, if_neg c2, if_pos c3]⟩
      · obtain ⟨a', rfl⟩ := Int.eq_ofNat_of_zero_le (show 0 ≤ a by omega)
        obtain ⟨n', rfl⟩ := Int.eq_ofNat_of_zero_le (show 0 ≤ n by omega)
        exact .inl ⟨_, cut_at s hs a' n' (by omega), refcut_at s hs a' n' (by omega) hn⟩
theorem ChunkParts : tabulariumlaw18_ChunkParts.Pure := by
  intro id gen data f a n wi wg hs wa wn
  refine ⟨7000, ?_⟩
  have rn := int_range wn
  unfold tabulariumlaw18_ChunkParts.f
  rw [examples_at 7000 (by omega), Option.bind_some, head_at id gen 7000 (by omega), Option.bind_some, refhead_at id gen 7000 (by omega), Option.bind_some, packet_at data 7000 (by omega), Option.bind_some, refpacket_at data 7000 (by omega), Option.bind_some, whole_at id gen data f 7000 (by omega), Option.bind_some, refwhole_at id gen data f 7000 (by omega), Option.bind_some]
  rcases cuts_alike data hs a n rn.2 with ⟨t, e1, e2⟩ | ⟨e1, e2⟩
  · rw [e1, Option.bind_some, e2, Option.bind_some, if_pos rfl, if_pos rfl, if_pos rfl, if_pos rfl, if_pos rfl, if_pos rfl, if_pos rfl, if_pos rfl, if_pos rfl, if_pos rfl, end_at 7000 (by omega), Option.bind_some, refend_at 7000 (by omega), Option.bind_some, beq_self_eq_true]
  · rw [e1, Option.bind_some, e2, Option.bind_some, if_pos rfl, if_pos rfl, if_pos rfl, if_pos rfl, if_pos rfl, if_pos rfl, if_pos rfl, if_pos rfl, if_neg (by decide), if_pos rfl, end_at 7000 (by omega), Option.bind_some, refend_at 7000 (by omega), Option.bind_some, beq_self_eq_true]
end Go.Proofs.Ytljllecpmllefaa.Pure
