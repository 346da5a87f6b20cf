/- Texts of numbers in a base. -/
import Derived.Lib.ItoaNum
import Derived.Test.YthhpdnlfhofanaaGreatDoorEvA
import Derived.Test.YthhpdnlfhofanaaGreatDoorRows
namespace Go.Proofs.YthhpdnlfhofanaaGreatDoor
def dgt (d : Nat) : UInt8 := UInt8.ofNat (bif Nat.blt d 10 then 48 + d else 87 + d)
/-- The digits of a number in a base; at most so many. -/
def digs (b : Nat) : Nat → Nat → List UInt8
  | 0, _ => []
  | k + 1, u => bif Nat.blt u b then [dgt u] else digs b k (u / b) ++ [dgt (u % b)]
def textN (b : Nat) : Int → List UInt8
  | .ofNat u => digs b 64 u
  | .negSucc u => 45 :: digs b 64 (u + 1)
theorem digs_lt {b k u : Nat} (h : u < b) : digs b (k + 1) u = [dgt u] := by
  have : Nat.blt u b = true := (by rw [Nat.blt_eq]; first | exact h | omega)
  simp [digs, this]
theorem digs_ge {b k u : Nat} (h : b ≤ u) : digs b (k + 1) u = digs b k (u / b) ++ [dgt (u % b)] := by
  have : Nat.blt u b = false := by rw [← Bool.not_eq_true, Nat.blt_eq]; omega
  simp [digs, this]
/-- More fuel than is needed changes nothing. -/
theorem digs_fuel {b : Nat} (hb : 2 ≤ b) : ∀ (k j u : Nat), u < b ^ k → u < b ^ j → 1 ≤ k → 1 ≤ j → digs b k u = digs b j u
  | 0, _, _, _, _, h, _ => absurd h (by omega)
  | _, 0, _, _, _, _, h => absurd h (by omega)
  | k + 1, j + 1, u, h1, h2, _, _ => by
    rcases Nat.lt_or_ge u b with h | h
    · rw [digs_lt h, digs_lt h]
    · rw [digs_ge h, digs_ge h]
      have step : ∀ q, u < b ^ (q + 1) → u / b < b ^ q ∧ 1 ≤ q := by
        intro q hq
        refine ⟨by rw [Nat.div_lt_iff_lt_mul (by omega), ← Nat.pow_succ]; exact hq, ?_⟩
        rcases Nat.eq_zero_or_pos q with rfl | h0
        · simp at hq; omega
        · exact h0
      rw [digs_fuel hb k j (u / b) (step k h1).1 (step j h2).1 (step k h1).2 (step j h2).2]
theorem decDigits_digs : ∀ (k u : Nat), u < 10 ^ k → 1 ≤ k → digs 10 k u = Lib.decDigits u
  | 0, _, _, h => absurd h (by omega)
  | k + 1, u, h, _ => by
    rw [Lib.decDigits]
    split
    · rename_i hu
      rw [digs_lt hu]
      have : Nat.blt u 10 = true := (by rw [Nat.blt_eq]; first | exact hu | omega)
      simp [dgt, this]
    · rename_i hu
      rw [digs_ge (by omega)]
      have h1 : u / 10 < 10 ^ k := by rw [Nat.div_lt_iff_lt_mul (by omega), ← Nat.pow_succ]; exact h
      have h2 : 1 ≤ k := by
        rcases Nat.eq_zero_or_pos k with rfl | h0
        · simp at h; omega
        · exact h0
      rw [decDigits_digs k (u / 10) h1 h2]
      have : Nat.blt (u % 10) 10 = true := (by rw [Nat.blt_eq]; first | exact (Nat.mod_lt _ (by omega)) | omega)
      simp [dgt, this]
theorem itoa_textN {n : Int} (h : n.natAbs < 18446744073709551616) : Lib.itoa n = textN 10 n := by
  have hp : (18446744073709551616 : Nat) < 10 ^ 64 := by decide
  cases n with
  | ofNat u =>
    simp only [Lib.itoa, textN]
    rw [if_neg (by simp)]
    exact (decDigits_digs 64 u (by simp at h; omega) (by omega)).symm
  | negSucc u =>
    simp only [Lib.itoa, textN]
    rw [if_pos (Int.negSucc_lt_zero u)]
    rw [decDigits_digs 64 (u + 1) (by simp at h; omega) (by omega)]
    rfl
theorem digs_ne_nil {b : Nat} : ∀ {k u : Nat}, 1 ≤ k → digs b k u ≠ []
  | 0, _, h => absurd h (by omega)
  | k + 1, u, _ => by
    rcases Nat.lt_or_ge u b with h | h
    · rw [digs_lt h]; simp
    · rw [digs_ge h]; simp
end Go.Proofs.YthhpdnlfhofanaaGreatDoor
namespace Go.Proofs.YthhpdnlfhofanaaGreatDoor
open Go.RowKit
def keepOf : List (Nat × Nat × List Nat) → Nat → Nat → Option (List Nat)
  | [], _, _ => none
  | (f, i, l) :: t, g, j => bif Nat.beq f g && Nat.beq i j then some l else keepOf t g j
def tab64L : List Int := [0, 1, 56, 2, 57, 49, 28, 3, 61, 58, 42, 50, 38, 29, 17, 4, 62, 47, 59, 36, 45, 43, 51, 22, 53, 39, 33, 30, 24, 18, 12, 5, 63, 55, 48, 27, 60, 41, 37, 16, 46, 35, 44, 21, 52, 32, 23, 11, 54, 26, 40, 15, 34, 20, 31, 10, 25, 14, 19, 9, 13, 8, 7, 6]
def pow10L : List Int := [1, 10, 100, 1000, 10000, 100000, 1000000, 10000000, 100000000, 1000000000, 10000000000, 100000000000, 1000000000000, 10000000000000, 100000000000000, 1000000000000000, 10000000000000000, 100000000000000000, 1000000000000000000, 10000000000000000000]
def glT : Nat → Option (List V) := fun g => bif Nat.beq g 5 then some (tab64L.map fun n => .int .u8 n) else bif Nat.beq g 0 then some (pow10L.map fun n => .int .u64 n) else none
end Go.Proofs.YthhpdnlfhofanaaGreatDoor
