/- What package sum and its reference compute, said by the plain facts on CRC-32: a text's sum, its chunks' sums, the first that is another one. -/
import Derived.Test.YtlggjcpaihpipaaCrc
import Derived.Test.YtlggjcpaihpipaaBits
import Derived.Test.YtlggjcpaihpipaaPx1
import Derived.Test.YtlggjcpaihpipaaPx6
namespace Go.Proofs.Ytlggjcpaihpipaa.Sp
open Go.RowKit Go.Proofs.YtlggjcpaihpipaaW.PrintWords Go.Proofs.YtlggjcpaihpipaaW.PrintLast Go.Proofs.YtlggjcpaihpipaaW.PrintMore Go.Proofs.Ytlggjcpaihpipaa.P Go.Proofs.Ytlggjcpaihpipaa.Crc
set_option linter.unusedVariables false

/-- a text's bytes as natural numbers -/
def nb (s : ByteArray) : List Nat := s.data.toList.map UInt8.toNat
theorem nb_lt (s : ByteArray) : ∀ c ∈ nb s, c < 256 := by
  intro c hc
  obtain ⟨x, _, rfl⟩ := List.mem_map.1 hc
  exact x.toNat_lt
theorem nb_size (s : ByteArray) : (nb s).length = s.size := by unfold nb; rw [List.length_map, data_length]
theorem bytesOf_nb (s : ByteArray) : bytesOf s = (nb s).map (fun n : Nat => (n : Int)) := by unfold bytesOf nb; rw [List.map_map]; rfl
theorem nb_bytesOf (s : ByteArray) : nb s = (bytesOf s).map Int.toNat := by
  rw [bytesOf_nb, List.map_map]
  conv => lhs; rw [← List.map_id (nb s)]
  exact List.map_congr_left fun x _ => by simp
theorem nb_extract (s : ByteArray) (a b : Nat) : nb (s.extract a b) = ((nb s).drop a).take (b - a) := by
  unfold nb; rw [Lib.extract_data, List.map_take, List.map_drop]
theorem nb_append (a b : ByteArray) : nb (a ++ b) = nb a ++ nb b := by unfold nb; rw [ByteArray.data_append, Array.toList_append, List.map_append]
theorem nb_ext {a b : ByteArray} (h : nb a = nb b) : a = b := bytes_ext (by rw [bytesOf_nb, bytesOf_nb, h])
theorem bt_nb (s : ByteArray) (i : Nat) : bt s (i : Int) = (((nb s).getD i 0 : Nat) : Int) := by
  rw [bt_rd, bytesOf_nb, List.getD_eq_getElem?_getD, List.getD_eq_getElem?_getD, List.getElem?_map]
  cases (nb s)[i]? <;> rfl
theorem nb_nil : nb (⟨#[]⟩ : ByteArray) = [] := rfl

/-! ### the sum -/
theorem and_poly_neg (b : Nat) (h : b < 2) : (3988292384 &&& (if b = 1 then 4294967295 else 0)) = if b = 1 then 3988292384 else 0 := by
  have : b = 0 ∨ b = 1 := by omega
  rcases this with rfl | rfl <;> decide

theorem crc1_nat (v : Nat) (h : v < 2 ^ 32) : crc1 (v : Int) = ((s1 v : Nat) : Int) := by
  unfold crc1 s1
  have e1 : Go.bits .and .u32 (v : Int) 1 = ((v % 2 : Nat) : Int) := by
    have := u32_and_nat v 1 (by omega) (by omega)
    rw [Nat.and_one_is_mod] at this
    exact this
  rw [e1]
  by_cases c : v % 2 = 1
  · rw [if_pos c, c]
    have e2 : -((1 : Nat) : Int) % 4294967296 = ((4294967295 : Nat) : Int) := by decide
    have e3 : (3988292384 : Int) = ((3988292384 : Nat) : Int) := rfl
    have e4 : (v : Int) / 2 = ((v / 2 : Nat) : Int) := by omega
    rw [e2, e3, u32_and_nat _ _ (by omega) (by omega), e4, u32_xor_nat _ _ (by omega) (by decide)]
    rfl
  · have c0 : v % 2 = 0 := by omega
    rw [if_neg c, c0]
    have e2 : -((0 : Nat) : Int) % 4294967296 = ((0 : Nat) : Int) := by decide
    have e3 : (3988292384 : Int) = ((3988292384 : Nat) : Int) := rfl
    have e4 : (v : Int) / 2 = ((v / 2 : Nat) : Int) := by omega
    rw [e2, e3, u32_and_nat _ _ (by omega) (by omega), e4, u32_xor_nat _ _ (by omega) (by decide)]
    rw [Nat.and_zero, Nat.xor_zero]

theorem crcN_nat (n v : Nat) (h : v < 2 ^ 32) : crcN n (v : Int) = ((sN n v : Nat) : Int) := by
  induction n with
  | zero => rfl
  | succ n ih => rw [crcN, ih, crc1_nat _ (sN_lt n h)]; rfl

theorem crcByte_nat (v c : Nat) (h : v < 2 ^ 32) (hc : c < 256) : crcByte (v : Int) (c : Int) = ((Crc.step v c : Nat) : Int) := by
  unfold crcByte Crc.step
  have e : (c : Int) % 4294967296 = (c : Int) := by omega
  rw [e, u32_xor_nat v c (by omega) (by omega), crcN_nat 8 _ (Nat.xor_lt_two_pow h (by omega))]

theorem crc_fold : ∀ (l : List Nat) (v : Nat), v < 2 ^ 32 → (∀ c ∈ l, c < 256) → (l.map (fun n : Nat => (n : Int))).foldl crcByte (v : Int) = ((Crc.run v l : Nat) : Int) := by
  intro l
  induction l with
  | nil => intro v _ _; rfl
  | cons c l ih =>
    intro v h hl
    have hc := hl c List.mem_cons_self
    rw [List.map_cons, List.foldl_cons, crcByte_nat v c h hc, ih _ (step_lt h hc) (fun d hd => hl d (List.mem_cons_of_mem _ hd))]
    rfl

/-- the sum of a text -/
def csum (s : ByteArray) : Nat := crc (nb s)
theorem csum_lt (s : ByteArray) : csum s < 4294967296 := crc_lt _ (nb_lt s)

theorem sum_at (s : ByteArray) (h : s.size ≤ 140737488355328) : sum_Sum.f s = some ((csum s : Nat) : Int) := by
  unfold sum_Sum.f csum crc
  rw [if_pos h, bytesOf_nb]
  have := crc_fold (nb s) 4294967295 (by decide) (nb_lt s)
  rw [show ((4294967295 : Nat) : Int) = 4294967295 from rfl] at this
  rw [this]
  have h2 := u32_xor_nat 4294967295 (Crc.run 4294967295 (nb s)) (by decide) (run_lt _ (by decide) (nb_lt s))
  rw [show ((4294967295 : Nat) : Int) = 4294967295 from rfl] at h2
  rw [h2, Nat.xor_comm]

theorem ref_bit (v : Nat) (h : v < 2 ^ 32) (k : Nat) (s : ByteArray) (i j : Int) :
    (if (Int.tmod (v : Int) 2) = 1 then (tabulariumref02_Sum.l1 k s (Go.bits .xor .u32 ((Int.tdiv (v : Int) 2) % 4294967296) 3988292384) i j) else (tabulariumref02_Sum.l1 k s ((Int.tdiv (v : Int) 2) % 4294967296) i j)) = tabulariumref02_Sum.l1 k s ((s1 v : Nat) : Int) i j := by
  have e1 : Int.tmod (v : Int) 2 = ((v % 2 : Nat) : Int) := by rw [Int.tmod_eq_emod_of_nonneg (by omega)]; omega
  have e2 : Int.tdiv (v : Int) 2 % 4294967296 = ((v / 2 : Nat) : Int) := by rw [Int.tdiv_eq_ediv_of_nonneg (by omega)]; omega
  rw [e1, e2]
  unfold s1
  by_cases c : v % 2 = 1
  · rw [if_pos (by omega), if_pos c]
    have := u32_xor_nat (v / 2) 3988292384 (by omega) (by decide)
    rw [show ((3988292384 : Nat) : Int) = 3988292384 from rfl] at this
    rw [this]
    rfl
  · rw [if_neg (by omega), if_neg c]

theorem ref_bits (s : ByteArray) (i : Int) : ∀ (d m k v : Nat), 8 - m = d → m ≤ 8 → v < 2 ^ 32 →
    tabulariumref02_Sum.l1 (k + d + 1) s (v : Int) i (m : Int) = tabulariumref02_Sum.l0 k s ((sN d v : Nat) : Int) (wrap64 (i + 1)) := by
  intro d
  induction d with
  | zero =>
    intro m k v hd hm hv
    simp only [tabulariumref02_Sum.l1]
    rw [if_neg (by omega)]
    rfl
  | succ d ih =>
    intro m k v hd hm hv
    have e : wrap64 ((m : Int) + 1) = ((m + 1 : Nat) : Int) := by unfold wrap64; omega
    obtain ⟨q, hq⟩ : ∃ q, q = k + d + 1 := ⟨_, rfl⟩
    rw [show k + (d + 1) + 1 = q + 1 by omega]
    simp only [tabulariumref02_Sum.l1]
    rw [if_pos (by omega), ref_bit v hv, e, hq, ih (m + 1) k (s1 v) (by omega) (by omega) (s1_lt hv)]
    rw [show sN d (s1 v) = sN (d + 1) v from (sN_add d 1 v).symm]

theorem ref_sum_loop (s : ByteArray) (hs : s.size ≤ 140737488355328) : ∀ (d i k v : Nat), s.size - i = d → i ≤ s.size → v < 2 ^ 32 → 10 * d < k →
    tabulariumref02_Sum.l0 k s (v : Int) (i : Int) = some (((Crc.run v ((nb s).drop i) ^^^ 4294967295 : Nat) : Int)) := by
  intro d
  induction d with
  | zero =>
    intro i k v hd hi hv hk
    obtain ⟨k, rfl⟩ : ∃ m, k = m + 1 := ⟨k - 1, by omega⟩
    simp only [tabulariumref02_Sum.l0]
    rw [if_neg (by omega), List.drop_eq_nil_of_le (by rw [nb_size]; omega)]
    have := u32_xor_nat 4294967295 v (by decide) hv
    rw [show ((4294967295 : Nat) : Int) = 4294967295 from rfl] at this
    rw [this, Nat.xor_comm]
    rfl
  | succ d ih =>
    intro i k v hd hi hv hk
    obtain ⟨k, rfl⟩ : ∃ m, k = m + 8 + 1 + 1 := ⟨k - 10, by omega⟩
    have hlt : i < (nb s).length := by rw [nb_size]; omega
    have hc : (nb s).getD i 0 < 256 := by
      rw [List.getD_eq_getElem?_getD, List.getElem?_eq_getElem hlt]
      exact nb_lt s _ (List.getElem_mem hlt)
    have hdrop : (nb s).drop i = (nb s).getD i 0 :: (nb s).drop (i + 1) := by
      rw [List.drop_eq_getElem_cons hlt, List.getD_eq_getElem?_getD, List.getElem?_eq_getElem hlt]; rfl
    have e : wrap64 ((i : Int) + 1) = ((i + 1 : Nat) : Int) := by clear ih hdrop; unfold wrap64; omega
    have e2 : bt s (i : Int) % 4294967296 = (((nb s).getD i 0 : Nat) : Int) := by rw [bt_nb]; omega
    simp only [tabulariumref02_Sum.l0]
    rw [if_pos (by omega), if_pos (by omega), e2, u32_xor_nat _ _ (by omega) (by omega)]
    have := ref_bits s (i : Int) 8 0 k (v ^^^ (nb s).getD i 0) rfl (by omega) (Nat.xor_lt_two_pow hv (by omega))
    refine Eq.trans this ?_
    rw [e, ih (i + 1) k _ (by omega) (by omega) (sN_lt 8 (Nat.xor_lt_two_pow hv (by omega))) (by omega), hdrop]
    rfl

theorem ref_sum_at (s : ByteArray) (hs : s.size ≤ 140737488355328) (k : Nat) (hk : 10 * s.size < k) : tabulariumref02_Sum.f k s = some ((csum s : Nat) : Int) := by
  unfold tabulariumref02_Sum.f csum crc
  exact ref_sum_loop s hs s.size 0 k 4294967295 (by omega) (by omega) (by decide) hk

end Go.Proofs.Ytlggjcpaihpipaa.Sp
