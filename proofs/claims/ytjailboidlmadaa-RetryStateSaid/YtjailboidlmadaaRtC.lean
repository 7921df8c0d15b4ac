/- slices.IndexFunc at a row of keys, over whatever predicate its closure answers. -/
import Derived.Test.YtjailboidlmadaaRtB
namespace Go.Proofs.Ytjailboidlmadaa.P
open Go.RowKit Go.Maps Go.WideMaps Go.Proofs.YtjailboidlmadaaW.PrintWords Go.Proofs.YtjailboidlmadaaW.PrintLast Go.Proofs.YtjailboidlmadaaW.PrintMore
attribute [local go_sem] max2_int min2_int max_two min_two max_three min_three max_four min_four
set_option linter.unusedVariables false
set_option linter.unusedSimpArgs false

/-- the closure gg with what it holds (cb) answers p, at every world that differs from W in S and in new blocks alone -/
def Says (gg : Nat) (cb : Array Value) (p : Int × Int → Bool) (S : Nat → Prop) (W : World) : Prop :=
  ∀ W' k, Gr S W W' → Calls Try.prog gg (#[kv k] ++ cb) W' fun e w' => e = .returned (.bool (p k)) ∧ Below W'.heap.size W' w'

theorem Says.at_ {gg : Nat} {cb : Array Value} {p : Int × Int → Bool} {S : Nat → Prop} {W W1 : World} (h : Says gg cb p S W) (hg : Gr S W W1) : Says gg cb p S W1 :=
  fun W' k h' => h W' k (hg.then_ h' (fun _ h => .inl h))

theorem next_int {k n : Nat} (h : k < n) (hn : n ≤ 1099511627776) : Value.int .i64 (wrap64 ((k : Int) + 1)) = .int .i64 ((k + 1 : Nat) : Int) := by
  rw [show wrap64 ((k : Int) + 1) = (k : Int) + 1 by unfold wrap64; omega]
  rfl
/-- the first place where p holds, or -1 -/
def idxOf (p : Int × Int → Bool) (ks : List (Int × Int)) : Int := match ks.findIdx? p with | some i => i | none => -1
theorem idxOf_miss {p : Int × Int → Bool} {ks : List (Int × Int)} (h : ∀ (j : Nat) (k : Int × Int), ks[j]? = some k → p k = false) : idxOf p ks = -1 := by
  unfold idxOf
  have : ks.findIdx? p = none := by
    rw [List.findIdx?_eq_none_iff]
    intro x hx
    obtain ⟨i, hi, rfl⟩ := List.mem_iff_getElem.1 hx
    exact h i _ (List.getElem?_eq_getElem hi)
  rw [this]
theorem idxOf_hit {p : Int × Int → Bool} {ks : List (Int × Int)} {i : Nat} {k : Int × Int} (h : ∀ (j : Nat) (k : Int × Int), j < i → ks[j]? = some k → p k = false) (hi : ks[i]? = some k) (hp : p k = true) : idxOf p ks = i := by
  unfold idxOf
  have hlt : i < ks.length := (List.getElem?_eq_some_iff.1 hi).1
  have : ks.findIdx? p = some i := by
    rw [List.findIdx?_eq_some_iff_getElem]
    refine ⟨hlt, ?_, fun j hj => ?_⟩
    · have := (List.getElem?_eq_some_iff.1 hi).2
      rw [this]; exact hp
    · have := h j _ hj (List.getElem?_eq_getElem (by omega))
      rw [this]; decide
  rw [this]

set_option maxHeartbeats 4000000 in
theorem idxf_calls {S : Nat → Prop} {W : World} {g off cap gg : Nat} {ks : List (Int × Int)} {cells : Array Value} {cb : Array Value} {p : Int × Int → Bool} (h : KB W g off cap ks cells) (hS : ¬ S g) (hl : ks.length ≤ 1099511627776)
    (eg : ∀ args w, (callFunc gg args).run Try.prog w = .ok (.enter gg args) w) (hp : Says gg cb p S W) :
    Calls Try.prog 31 #[.slice (some ⟨g, off, none⟩) ks.length cap, .func (.func gg) #[] cb] W fun e w' => e = .returned (.int .i64 (idxOf p ks)) ∧ Below W.heap.size W w' := by
  have hu64 := Try.underlying64
  have HK := Aside0.mk h
  have HP := Aside0.mk hp
  have HL := Aside0.mk hl
  clear h hp hl
  go_enter Try.func31, Try.ntmps31
  go_wp2
  go_loopg [8] (ks.length + 1) (fun gq i w' => ∃ k : Nat, k ≤ ks.length ∧ i = .int .i64 k ∧ Aside0 (gq + k = ks.length + 1) ∧ Aside0 (∀ j q, j < k → ks[j]? = some q → p q = false) ∧ Aside0 (Below W.heap.size W w'))
  case atStart => exact ⟨0, Nat.zero_le _, rfl, ⟨rfl⟩, ⟨fun j q hj => absurd hj (Nat.not_lt_zero _)⟩, ⟨Below.refl _ _⟩⟩
  case round =>
    obtain ⟨k, hk, rfl, HG, HN, HB⟩ := hrel
    by_cases hlt : k < ks.length
    · obtain ⟨q, hq⟩ : ∃ q, ks[k]? = some q := ⟨_, List.getElem?_eq_getElem hlt⟩
      have hb := HK.out.step (HB.out.block g HK.out.lt)
      obtain ⟨x1, x2⟩ := hb.key hq
      have hcall := HP.out wr q (Gr.of_below HB.out)
      have HQ := Aside0.mk hq
      clear hq hb
      have hltz : (k : Int) < (ks.length : Int) := by omega
      have hk0 : (0 : Int) ≤ (k : Int) := by omega
      obtain ⟨q1, q2⟩ := q
      unfold kv at hcall
      dsimp only at x1 x2 hcall
      cases hv : p (q1, q2) with
      | true =>
        rw [hv] at hcall
        go_wp2_with (go_at_fn gg; refine hcall.mono ?_; rintro e w' ⟨rfl, hb'⟩)
        go_ret
        refine ⟨?_, below_step HB.out hb'⟩
        rw [idxOf_hit (HN.out) HQ.out hv]
        rfl
      | false =>
        rw [hv] at hcall
        go_wp2_with (go_at_fn gg; refine hcall.mono ?_; rintro e w' ⟨rfl, hb'⟩)
        go_roundg (gk - 1)
        case measure => have := HG.out; omega
        case rel =>
          refine ⟨k + 1, by omega, next_int hlt HL.out, ⟨by have := HG.out; omega⟩, ⟨fun j q hj hq => ?_⟩, ⟨below_step HB.out hb'⟩⟩
          by_cases e : j = k
          · subst e
            rw [HQ.out] at hq
            rw [← Option.some.inj hq]; exact hv
          · exact HN.out j q (by omega) hq
    · have hltz : ¬ (k : Int) < (ks.length : Int) := by omega
      obtain rfl : k = ks.length := by omega
      go_wp2
      go_ret
      refine ⟨?_, HB.out⟩
      rw [idxOf_miss (fun j q hq => HN.out j q (List.getElem?_eq_some_iff.1 hq).1 hq)]
      rfl
end Go.Proofs.Ytjailboidlmadaa.P
