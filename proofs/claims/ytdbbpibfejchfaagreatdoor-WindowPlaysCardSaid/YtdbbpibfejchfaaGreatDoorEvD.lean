/- Texts of numbers in a base. -/
import Derived.Lib.ItoaNum
import Derived.Test.YtdbbpibfejchfaaGreatDoorEvA
import Derived.Test.YtdbbpibfejchfaaGreatDoorRows
import Derived.Test.YtdbbpibfejchfaaGreatDoorEvC
namespace Go.Proofs.YtdbbpibfejchfaaGreatDoor
def dgt (d : Nat) : UInt8 := UInt8.ofNat (bif Nat.blt d 10 then 48 + d else 87 + d)
/-- The digits of a number in a base; at most so many. -/
def digs (b : Nat) : Nat → Nat → List UInt8
  | 0, _ => []
  | k + 1, u => bif Nat.blt u b then [dgt u] else digs b k (u / b) ++ [dgt (u % b)]
def textN (b : Nat) : Int → List UInt8
  | .ofNat u => digs b 64 u
  | .negSucc u => 45 :: digs b 64 (u + 1)
theorem digs_lt {b k u : Nat} (h : u < b) : digs b (k + 1) u = [dgt u] := by
  have : Nat.blt u b = true := (by rw [Nat.blt_eq]; first | exact h | omega)
  simp [digs, this]
theorem digs_ge {b k u : Nat} (h : b ≤ u) : digs b (k + 1) u = digs b k (u / b) ++ [dgt (u % b)] := by
  have : Nat.blt u b = false := by rw [← Bool.not_eq_true, Nat.blt_eq]; omega
  simp [digs, this]
/-- More fuel than is needed changes nothing. -/
theorem digs_fuel {b : Nat} (hb : 2 ≤ b) : ∀ (k j u : Nat), u < b ^ k → u < b ^ j → 1 ≤ k → 1 ≤ j → digs b k u = digs b j u
  | 0, _, _, _, _, h, _ => absurd h (by omega)
  | _, 0, _, _, _, _, h => absurd h (by omega)
  | k + 1, j + 1, u, h1, h2, _, _ => by
    rcases Nat.lt_or_ge u b with h | h
    · rw [digs_lt h, digs_lt h]
    · rw [digs_ge h, digs_ge h]
      have step : ∀ q, u < b ^ (q + 1) → u / b < b ^ q ∧ 1 ≤ q := by
        intro q hq
        refine ⟨by rw [Nat.div_lt_iff_lt_mul (by omega), ← Nat.pow_succ]; exact hq, ?_⟩
        rcases Nat.eq_zero_or_pos q with rfl | h0
        · simp at hq; omega
        · exact h0
      rw [digs_fuel hb k j (u / b) (step k h1).1 (step j h2).1 (step k h1).2 (step j h2).2]
theorem decDigits_digs : ∀ (k u : Nat), u < 10 ^ k → 1 ≤ k → digs 10 k u = Lib.decDigits u
  | 0, _, _, h => absurd h (by omega)
  | k + 1, u, h, _ => by
    rw [Lib.decDigits]
    split
    · rename_i hu
      rw [digs_lt hu]
      have : Nat.blt u 10 = true := (by rw [Nat.blt_eq]; first | exact hu | omega)
      simp [dgt, this]
    · rename_i hu
      rw [digs_ge (by omega)]
      have h1 : u / 10 < 10 ^ k := by rw [Nat.div_lt_iff_lt_mul (by omega), ← Nat.pow_succ]; exact h
      have h2 : 1 ≤ k := by
        rcases Nat.eq_zero_or_pos k with rfl | h0
        · simp at h; omega
        · exact h0
      rw [decDigits_digs k (u / 10) h1 h2]
      have : Nat.blt (u % 10) 10 = true := (by rw [Nat.blt_eq]; first | exact (Nat.mod_lt _ (by omega)) | omega)
      simp [dgt, this]
theorem itoa_textN {n : Int} (h : n.natAbs < 18446744073709551616) : Lib.itoa n = textN 10 n := by
  have hp : (18446744073709551616 : Nat) < 10 ^ 64 := by decide
  cases n with
  | ofNat u =>
    simp only [Lib.itoa, textN]
    rw [if_neg (by simp)]
    exact (decDigits_digs 64 u (by simp at h; omega) (by omega)).symm
  | negSucc u =>
    simp only [Lib.itoa, textN]
    rw [if_pos (Int.negSucc_lt_zero u)]
    rw [decDigits_digs 64 (u + 1) (by simp at h; omega) (by omega)]
    rfl
theorem digs_ne_nil {b : Nat} : ∀ {k u : Nat}, 1 ≤ k → digs b k u ≠ []
  | 0, _, h => absurd h (by omega)
  | k + 1, u, _ => by
    rcases Nat.lt_or_ge u b with h | h
    · rw [digs_lt h]; simp
    · rw [digs_ge h]; simp
end Go.Proofs.YtdbbpibfejchfaaGreatDoor
namespace Go.Proofs.YtdbbpibfejchfaaGreatDoor
open Go.RowKit
def keepOf : List (Nat × Nat × List Nat) → Nat → Nat → Option (List Nat)
  | [], _, _ => none
  | (f, i, l) :: t, g, j => bif Nat.beq f g && Nat.beq i j then some l else keepOf t g j
def tab64L : List Int := [0, 1, 56, 2, 57, 49, 28, 3, 61, 58, 42, 50, 38, 29, 17, 4, 62, 47, 59, 36, 45, 43, 51, 22, 53, 39, 33, 30, 24, 18, 12, 5, 63, 55, 48, 27, 60, 41, 37, 16, 46, 35, 44, 21, 52, 32, 23, 11, 54, 26, 40, 15, 34, 20, 31, 10, 25, 14, 19, 9, 13, 8, 7, 6]
def pow10L : List Int := [1, 10, 100, 1000, 10000, 100000, 1000000, 10000000, 100000000, 1000000000, 10000000000, 100000000000, 1000000000000, 10000000000000, 100000000000000, 1000000000000000, 10000000000000000, 100000000000000000, 1000000000000000000, 10000000000000000000]
def glT : Nat → Option (List V) := fun g => bif Nat.beq g 3 then some (tab64L.map fun n => .int .u8 n) else bif Nat.beq g 0 then some (pow10L.map fun n => .int .u64 n) else none
end Go.Proofs.YtdbbpibfejchfaaGreatDoor
namespace Go.Proofs.YtdbbpibfejchfaaGreatDoor
open Go.RowKit
def cfgF : Cfg where
  glob := glT
  rows := fun t => bif Nat.beq t 155 then some 1 else none
  prim := fun _ => none
  ref := fun _ => false
  self := fun _ => false
  bstr := fun _ => false
  clone := fun _ => false
  res := fun _ => 0
  keep := keepOf [(110, 11, [1, 3, 4, 10, 12, 13, 14, 15, 16, 0])]
theorem tz8 {n : Nat} (h : 2 ≤ n) : evalF Tryz.prog cfgF n 119 [.int .u64 8] [] = some (.int .i64 3, []) := by
  obtain ⟨k, rfl⟩ : ∃ k, n = k + 2 := ⟨n - 2, by omega⟩
  kernel_rfl
theorem tz16 {n : Nat} (h : 2 ≤ n) : evalF Tryz.prog cfgF n 119 [.int .u64 16] [] = some (.int .i64 4, []) := by
  obtain ⟨k, rfl⟩ : ∃ k, n = k + 2 := ⟨n - 2, by omega⟩
  kernel_rfl
theorem p28 {n : Nat} (h : 1 ≤ n) : evalF Tryz.prog cfgF n 118 [.int .i64 8] [] = some (.bool true, []) := by
  obtain ⟨k, rfl⟩ : ∃ k, n = k + 1 := ⟨n - 1, by omega⟩
  kernel_rfl
theorem p216 {n : Nat} (h : 1 ≤ n) : evalF Tryz.prog cfgF n 118 [.int .i64 16] [] = some (.bool true, []) := by
  obtain ⟨k, rfl⟩ : ∃ k, n = k + 1 := ⟨n - 1, by omega⟩
  kernel_rfl
end Go.Proofs.YtdbbpibfejchfaaGreatDoor
namespace Go.Proofs.YtdbbpibfejchfaaGreatDoor
open Go.RowKit
set_option maxRecDepth 100000
set_option linter.unusedVariables false
set_option linter.unusedSimpArgs false
structure fbC where
  neg : Bool
  app : Bool
  sh : Int
  b : Int
  mm : Int
structure fbX where
  u : Int
  i : Int
  es : List (List V)
def fbSt (c : fbC) (x : fbX) : St := ⟨[(1, .int .u64 x.u), (3, .bool c.neg), (4, .bool c.app), (10, .nils), (12, .ptr 0 0 0), (13, .int .i64 x.i), (14, .int .u64 c.sh), (15, .int .u64 c.b), (16, .int .u64 c.mm), (0, .lst [])], [(0, ⟨true, false, true, x.es, 0⟩)]⟩
def fbUn (s : St) : Option (fbC × fbX) :=
  match s with
  | ⟨[(q0, .int .u64 u), (q1, .bool neg), (q2, .bool app), (q3, .nils), (q4, .ptr q5 q6 q7), (q8, .int .i64 i), (q9, .int .u64 sh), (q10, .int .u64 b), (q11, .int .u64 mm), (q12, .lst [])], [(q13, ⟨true, false, true, es, 0⟩)]⟩ => bif Nat.beq q0 1 && Nat.beq q1 3 && Nat.beq q2 4 && Nat.beq q3 10 && Nat.beq q4 12 && Nat.beq q5 0 && Nat.beq q6 0 && Nat.beq q7 0 && Nat.beq q8 13 && Nat.beq q9 14 && Nat.beq q10 15 && Nat.beq q11 16 && Nat.beq q12 0 && Nat.beq q13 0 then some (⟨neg, app, sh, b, mm⟩, ⟨u, i, es⟩) else none
  | _ => none
def fbL (inv : fbC → fbX → fbX → Nat → Prop) : LoopS where
  C := fbC
  X := fbX
  st := fbSt
  un := fbUn
  ok := by
    intro s c x h
    unfold fbUn at h
    split at h
    · simp only [Bool.cond_eq_ite] at h
      split at h
      · rename_i hg
        simp only [Bool.and_eq_true, Nat.beq_eq] at hg
        obtain ⟨⟨⟨⟨⟨⟨⟨⟨⟨⟨⟨⟨⟨rfl, rfl⟩, rfl⟩, rfl⟩, rfl⟩, rfl⟩, rfl⟩, rfl⟩, rfl⟩, rfl⟩, rfl⟩, rfl⟩, rfl⟩, rfl⟩ := hg
        cases h
        rfl
      · cases h
    · cases h
  inv := inv

def fbI (B u0 : Nat) (x : fbX) (m : Nat) : Prop := ∃ (w f : Nat) (t : List UInt8), x.u = (w : Int) ∧ x.i = (m : Int) ∧ x.es.length = 65 ∧ (∀ c ∈ x.es, c.length = 1) ∧ x.es.drop m = rowsB t ∧ m ≤ 65 ∧ (m = 65 ∨ 1 ≤ w) ∧ w * 2 ^ (65 - m) < 18446744073709551616 ∧
  w < 18446744073709551616 ∧ w < B ^ f ∧ 1 ≤ f ∧ digs B f w ++ t = digs B 64 u0
def dig36 : List UInt8 := [48, 49, 50, 51, 52, 53, 54, 55, 56, 57, 97, 98, 99, 100, 101, 102, 103, 104, 105, 106, 107, 108, 109, 110, 111, 112, 113, 114, 115, 116, 117, 118, 119, 120, 121, 122]
theorem dig36_fin : ∀ d : Fin 16, atS dig36 (d.val : Int) = ((dgt d.val).toNat : Int) := by decide +kernel
theorem dig36_at {d : Nat} (h : d < 16) : atS [48, 49, 50, 51, 52, 53, 54, 55, 56, 57, 97, 98, 99, 100, 101, 102, 103, 104, 105, 106, 107, 108, 109, 110, 111, 112, 113, 114, 115, 116, 117, 118, 119, 120, 121, 122] (d : Int) = ((dgt d).toNat : Int) := dig36_fin ⟨d, h⟩
theorem fb_two {w m : Nat} (h1 : m = 65 ∨ 1 ≤ w) (h2 : w * 2 ^ (65 - m) < 18446744073709551616) : 2 ≤ m := by
  rcases h1 with h1 | h1
  · omega
  · rcases Nat.lt_or_ge m 2 with h | h
    · have e : (2 : Nat) ^ 64 ≤ 2 ^ (65 - m) := Nat.pow_le_pow_right (by omega) (by omega)
      have : 1 * 2 ^ 64 ≤ w * 2 ^ (65 - m) := Nat.mul_le_mul h1 e
      omega
    · exact h
theorem fb_half {w m b : Nat} (hb : 2 ≤ b) (hm : m + 1 ≤ 65) (h2 : w * 2 ^ (65 - (m + 1)) < 18446744073709551616) : w / b * 2 ^ (65 - m) < 18446744073709551616 := by
  have e : 65 - m = (65 - (m + 1)) + 1 := by omega
  rw [e, Nat.pow_succ]
  have h1 : w / b * 2 ≤ w := by
    have := Nat.div_mul_le_self w b
    have := Nat.mul_le_mul_left (w / b) hb
    omega
  have h3 := Nat.mul_le_mul_right (2 ^ (65 - (m + 1))) h1
  have h4 : w / b * (2 ^ (65 - (m + 1)) * 2) = w / b * 2 * 2 ^ (65 - (m + 1)) := by
    rw [Nat.mul_comm (2 ^ (65 - (m + 1))) 2, Nat.mul_assoc]
  omega
theorem take_rows {es : List (List V)} {j : Nat} (h : es.length = 65) : List.take (65 - j) (List.drop (0 + j) es) = es.drop j := by
  rw [Nat.zero_add]
  exact List.take_of_length_le (by simp; omega)
theorem fb8t_vc (u : Int) (I : fbC → fbX → fbX → Nat → Prop) (K : V → List Bk → Prop) : vcF Tryz.prog cfgF (ctOf [(118, fun vs bs K => vs = [.int .i64 8] ∧ bs = [] ∧ K (.bool true) []), (119, fun vs bs K => vs = [.int .u64 8] ∧ bs = [] ∧ K (.int .i64 3) [])]) (lpOf [(11, fbL I)]) 110 [.lst [], .int .u64 u, .int .i64 8, .bool true, .bool false] [] K = (
  (([V.int IntKind.i64 8] : List V) = [V.int IntKind.i64 8]) ∧ (
  (([] : List Bk) = []) ∧ (
  (([V.int IntKind.u64 8] : List V) = [V.int IntKind.u64 8]) ∧ (
  (([] : List Bk) = []) ∧ (
  (∃ m3 : Nat, (m3 < 18446744073709551616) ∧ (
  I (fbC.mk true false 3 8 7) (fbX.mk (negI IntKind.u64 u) 65 (List.replicate 65 [V.int IntKind.u8 0])) (fbX.mk (negI IntKind.u64 u) 65 (List.replicate 65 [V.int IntKind.u8 0])) m3)) ∧ (
  ∀ x3 : (fbL I).X, ∀ m4 : Nat, (I (fbC.mk true false 3 8 7) (fbX.mk (negI IntKind.u64 u) 65 (List.replicate 65 [V.int IntKind.u8 0])) x3 m4) → (
  br (leI 8 x3.1) (
    need (andB true (ltI (andI IntKind.u64 x3.1 7) 36)) (
    need (andB (leI 0 (subI IntKind.i64 x3.2 1)) (ltI (subI IntKind.i64 x3.2 1) 65)) (
    need (okRow x3.3 (0 + (subI IntKind.i64 x3.2 1).toNat) 1) (
    ∃ xs5 : List (List V), ((putAt x3.3 (0 + (subI IntKind.i64 x3.2 1).toNat) 0 [V.int IntKind.u8 (atS [48, 49, 50, 51, 52, 53, 54, 55, 56, 57, 97, 98, 99, 100, 101, 102, 103, 104, 105, 106, 107, 108, 109, 110, 111, 112, 113, 114, 115, 116, 117, 118, 119, 120, 121, 122] (andI IntKind.u64 x3.1 7))] : Option (List (List V))) = some xs5) ∧ (
    ((fbC.mk true false 3 8 7 : (fbL I).C) = fbC.mk true false 3 8 7) ∧ (
    ∃ m'6 : Nat, (m'6 < m4) ∧ (
    I (fbC.mk true false 3 8 7) (fbX.mk (negI IntKind.u64 u) 65 (List.replicate 65 [V.int IntKind.u8 0])) (fbX.mk (shrI IntKind.u64 x3.1 3) (subI IntKind.i64 x3.2 1) xs5) m'6))))))) (
    need (andB (leI 0 x3.1) (ltI x3.1 36)) (
    need (andB (leI 0 (subI IntKind.i64 x3.2 1)) (ltI (subI IntKind.i64 x3.2 1) 65)) (
    need (okRow x3.3 (0 + (subI IntKind.i64 x3.2 1).toNat) 1) (
    ∃ xs5 : List (List V), ((putAt x3.3 (0 + (subI IntKind.i64 x3.2 1).toNat) 0 [V.int IntKind.u8 (atS [48, 49, 50, 51, 52, 53, 54, 55, 56, 57, 97, 98, 99, 100, 101, 102, 103, 104, 105, 106, 107, 108, 109, 110, 111, 112, 113, 114, 115, 116, 117, 118, 119, 120, 121, 122] x3.1)] : Option (List (List V))) = some xs5) ∧ (
    need (andB (leI 0 (subI IntKind.i64 (subI IntKind.i64 x3.2 1) 1)) (ltI (subI IntKind.i64 (subI IntKind.i64 x3.2 1) 1) 65)) (
    need (okRow xs5 (0 + (subI IntKind.i64 (subI IntKind.i64 x3.2 1) 1).toNat) 1) (
    ∃ xs6 : List (List V), ((putAt xs5 (0 + (subI IntKind.i64 (subI IntKind.i64 x3.2 1) 1).toNat) 0 [V.int IntKind.u8 45] : Option (List (List V))) = some xs6) ∧ (
    need (headOkP 1 xs6) (
    need (leN 65 xs6.length) (
    need (andB (leI 0 (subI IntKind.i64 (subI IntKind.i64 x3.2 1) 1)) (leI (subI IntKind.i64 (subI IntKind.i64 x3.2 1) 1) 65)) (
    need (okBytes (List.take (65 - (subI IntKind.i64 (subI IntKind.i64 x3.2 1) 1).toNat) (List.drop (0 + (subI IntKind.i64 (subI IntKind.i64 x3.2 1) 1).toNat) xs6))) (
    K (V.tup [V.nils, V.str (bytesOf (List.take (65 - (subI IntKind.i64 (subI IntKind.i64 x3.2 1) 1).toNat) (List.drop (0 + (subI IntKind.i64 (subI IntKind.i64 x3.2 1) 1).toNat) xs6)))]) []))))))))))))))))))) := by kernel_rfl

theorem fb8t_run {n : Nat} (hn : 3 ≤ n) (u0 : Nat) (hu0 : u0 < 18446744073709551616) (a : Int) (ha : (bif true then negI .u64 a else a) = u0) (K : V → List Bk → Prop)
    (hK : K (.tup [.nils, .str ((bif true then [45] else []) ++ digs 8 64 u0)]) []) :
    ∃ r out, evalF Tryz.prog cfgF n 110 [.lst [], .int .u64 a, .int .i64 8, .bool true, .bool false] [] = some (r, out) ∧ K r out := by
  refine run_of (lp := lpOf [(11, fbL fun _ _ x m => fbI 8 u0 x m)]) (by omega) (fun k hk => ctOf_ok (l := [(118, fun vs bs K => vs = [.int .i64 8] ∧ bs = [] ∧ K (.bool true) []), (119, fun vs bs K => vs = [.int .u64 8] ∧ bs = [] ∧ K (.int .i64 3) [])]) (ctOf_cons ?_ (ctOf_cons ?_ (ctOf_nil _)))) ?_
  · rintro vs bs K' ⟨rfl, rfl, hK'⟩
    exact ⟨_, _, p28 (by omega), hK'⟩
  · rintro vs bs K' ⟨rfl, rfl, hK'⟩
    exact ⟨_, _, tz8 (by omega), hK'⟩
  rw [fb8t_vc]
  simp only [cond_true, cond_false] at ha
  rw [ha]
  have hp : (18446744073709551616 : Nat) < 8 ^ 64 := by decide
  refine ⟨rfl, rfl, rfl, rfl, ⟨65, by decide, u0, 64, [], rfl, rfl, by simp, fun c hc => by rw [List.eq_of_mem_replicate hc]; rfl, rfl, by omega, .inl rfl, by simpa using hu0, hu0, by omega, by omega, by simp⟩, ?_⟩
  rintro ⟨xu, xi, es⟩ m ⟨w, f, t, rfl, rfl, hlen, h1, hdrop, hm, hmw, hpow, hw, hf, hf1, hd⟩
  simp only at hlen h1 hdrop
  have h2 := fb_two hmw hpow
  obtain ⟨m, rfl⟩ : ∃ k, m = k + 1 := ⟨m - 1, by omega⟩
  have hsub : subI .i64 ((m + 1 : Nat) : Int) 1 = (m : Int) := by rw [subI_i64 (by omega) (by omega)]; omega
  have hsub2 : subI .i64 (m : Int) 1 = ((m - 1 : Nat) : Int) := by rw [subI_i64 (by omega) (by omega)]; omega
  have hand : andI .u64 (w : Int) 7 = ((w % 8 : Nat) : Int) := andI_mask (s := 3) hw (by omega)
  have hshr : shrI .u64 (w : Int) 3 = ((w / 8 : Nat) : Int) := shrI_nat .u64 w 3 (by decide)
  have hj : m < es.length := by omega
  simp only [hsub, hsub2, hand, hshr, br_iff, need_iff, Int.toNat_natCast, Nat.zero_add]
  have hmod : w % 8 < 8 := Nat.mod_lt _ (by omega)
  have hset : ∀ d : Nat, (es.set m [V.int .u8 ((dgt d).toNat : Int)]).drop m = rowsB (dgt d :: t) := fun d => by rw [drop_set hj, hdrop]; rfl
  refine ⟨fun hge => ?_, fun hlt => ?_⟩
  · have hge : 8 ≤ w := by simp [leI] at hge; omega
    obtain ⟨g, rfl⟩ : ∃ g, f = g + 1 := ⟨f - 1, by omega⟩
    have hg1 : 1 ≤ g := by
      rcases Nat.eq_zero_or_pos g with rfl | h0
      · simp at hf; omega
      · exact h0
    refine ⟨by simp [andB, ltI]; omega, by simp [andB, ltI, leI]; omega, okRow1 h1 hj, _, putAt1 _ h1 hj, trivial, m, by omega, w / 8, g, dgt (w % 8) :: t, rfl, rfl, by simpa using hlen, set_one h1, ?_, by omega, .inr (Nat.div_pos hge (by omega)), fb_half (by omega) hm hpow, by omega, ?_, hg1, ?_⟩
    · rw [dig36_at (by omega)]; exact hset _
    · rw [Nat.div_lt_iff_lt_mul (by omega), ← Nat.pow_succ]; exact hf
    · rw [digs_ge hge] at hd
      rw [← hd]; simp
  · have hlt : w < 8 := by simp [leI] at hlt; omega
    obtain ⟨g, rfl⟩ : ∃ g, f = g + 1 := ⟨f - 1, by omega⟩
    rw [digs_lt hlt] at hd
    refine ⟨by simp [andB, ltI, leI]; omega, by simp [andB, ltI, leI]; omega, okRow1 h1 hj, _, putAt1 _ h1 hj, ?_⟩
    rw [dig36_at (by omega)]
    have h1' := set_one (v := V.int .u8 ((dgt w).toNat : Int)) (j := m) h1
    have hl' : (es.set m [V.int .u8 ((dgt w).toNat : Int)]).length = 65 := by simpa using hlen
    have hs' := hset w
    generalize es.set m [V.int .u8 ((dgt w).toNat : Int)] = es1 at h1' hl' hs' ⊢
    have hj1 : m - 1 < es1.length := by omega
    refine ⟨by simp [andB, ltI, leI]; omega, okRow1 h1' hj1, _, putAt1 _ h1' hj1, headOkP1 (set_one h1'), by simp [leN, hl'], by simp [andB, leI]; omega, ?_⟩
    have e : List.take (65 - (m - 1)) (List.drop (m - 1) (es1.set (m - 1) [V.int .u8 45])) = rowsB (45 :: dgt w :: t) := by
      have := take_rows (es := es1.set (m - 1) [V.int .u8 45]) (j := m - 1) (by simpa using hl')
      rw [Nat.zero_add] at this
      rw [this, drop_set hj1, show m - 1 + 1 = m by omega, hs']
      rfl
    rw [e, okBytes_rowsB, bytesOf_rowsB]
    refine ⟨rfl, ?_⟩
    have : (45 :: dgt w :: t : List UInt8) = (bif true then [45] else []) ++ digs 8 64 u0 := by rw [← hd]; rfl
    rw [this]
    exact hK
theorem fb8f_vc (u : Int) (I : fbC → fbX → fbX → Nat → Prop) (K : V → List Bk → Prop) : vcF Tryz.prog cfgF (ctOf [(118, fun vs bs K => vs = [.int .i64 8] ∧ bs = [] ∧ K (.bool true) []), (119, fun vs bs K => vs = [.int .u64 8] ∧ bs = [] ∧ K (.int .i64 3) [])]) (lpOf [(11, fbL I)]) 110 [.lst [], .int .u64 u, .int .i64 8, .bool false, .bool false] [] K = (
  (([V.int IntKind.i64 8] : List V) = [V.int IntKind.i64 8]) ∧ (
  (([] : List Bk) = []) ∧ (
  (([V.int IntKind.u64 8] : List V) = [V.int IntKind.u64 8]) ∧ (
  (([] : List Bk) = []) ∧ (
  (∃ m3 : Nat, (m3 < 18446744073709551616) ∧ (
  I (fbC.mk false false 3 8 7) (fbX.mk u 65 (List.replicate 65 [V.int IntKind.u8 0])) (fbX.mk u 65 (List.replicate 65 [V.int IntKind.u8 0])) m3)) ∧ (
  ∀ x3 : (fbL I).X, ∀ m4 : Nat, (I (fbC.mk false false 3 8 7) (fbX.mk u 65 (List.replicate 65 [V.int IntKind.u8 0])) x3 m4) → (
  br (leI 8 x3.1) (
    need (andB true (ltI (andI IntKind.u64 x3.1 7) 36)) (
    need (andB (leI 0 (subI IntKind.i64 x3.2 1)) (ltI (subI IntKind.i64 x3.2 1) 65)) (
    need (okRow x3.3 (0 + (subI IntKind.i64 x3.2 1).toNat) 1) (
    ∃ xs5 : List (List V), ((putAt x3.3 (0 + (subI IntKind.i64 x3.2 1).toNat) 0 [V.int IntKind.u8 (atS [48, 49, 50, 51, 52, 53, 54, 55, 56, 57, 97, 98, 99, 100, 101, 102, 103, 104, 105, 106, 107, 108, 109, 110, 111, 112, 113, 114, 115, 116, 117, 118, 119, 120, 121, 122] (andI IntKind.u64 x3.1 7))] : Option (List (List V))) = some xs5) ∧ (
    ((fbC.mk false false 3 8 7 : (fbL I).C) = fbC.mk false false 3 8 7) ∧ (
    ∃ m'6 : Nat, (m'6 < m4) ∧ (
    I (fbC.mk false false 3 8 7) (fbX.mk u 65 (List.replicate 65 [V.int IntKind.u8 0])) (fbX.mk (shrI IntKind.u64 x3.1 3) (subI IntKind.i64 x3.2 1) xs5) m'6))))))) (
    need (andB (leI 0 x3.1) (ltI x3.1 36)) (
    need (andB (leI 0 (subI IntKind.i64 x3.2 1)) (ltI (subI IntKind.i64 x3.2 1) 65)) (
    need (okRow x3.3 (0 + (subI IntKind.i64 x3.2 1).toNat) 1) (
    ∃ xs5 : List (List V), ((putAt x3.3 (0 + (subI IntKind.i64 x3.2 1).toNat) 0 [V.int IntKind.u8 (atS [48, 49, 50, 51, 52, 53, 54, 55, 56, 57, 97, 98, 99, 100, 101, 102, 103, 104, 105, 106, 107, 108, 109, 110, 111, 112, 113, 114, 115, 116, 117, 118, 119, 120, 121, 122] x3.1)] : Option (List (List V))) = some xs5) ∧ (
    need (headOkP 1 xs5) (
    need (leN 65 xs5.length) (
    need (andB (leI 0 (subI IntKind.i64 x3.2 1)) (leI (subI IntKind.i64 x3.2 1) 65)) (
    need (okBytes (List.take (65 - (subI IntKind.i64 x3.2 1).toNat) (List.drop (0 + (subI IntKind.i64 x3.2 1).toNat) xs5))) (
    K (V.tup [V.nils, V.str (bytesOf (List.take (65 - (subI IntKind.i64 x3.2 1).toNat) (List.drop (0 + (subI IntKind.i64 x3.2 1).toNat) xs5)))]) [])))))))))))))))) := by kernel_rfl

theorem fb8f_run {n : Nat} (hn : 3 ≤ n) (u0 : Nat) (hu0 : u0 < 18446744073709551616) (a : Int) (ha : (bif false then negI .u64 a else a) = u0) (K : V → List Bk → Prop)
    (hK : K (.tup [.nils, .str ((bif false then [45] else []) ++ digs 8 64 u0)]) []) :
    ∃ r out, evalF Tryz.prog cfgF n 110 [.lst [], .int .u64 a, .int .i64 8, .bool false, .bool false] [] = some (r, out) ∧ K r out := by
  refine run_of (lp := lpOf [(11, fbL fun _ _ x m => fbI 8 u0 x m)]) (by omega) (fun k hk => ctOf_ok (l := [(118, fun vs bs K => vs = [.int .i64 8] ∧ bs = [] ∧ K (.bool true) []), (119, fun vs bs K => vs = [.int .u64 8] ∧ bs = [] ∧ K (.int .i64 3) [])]) (ctOf_cons ?_ (ctOf_cons ?_ (ctOf_nil _)))) ?_
  · rintro vs bs K' ⟨rfl, rfl, hK'⟩
    exact ⟨_, _, p28 (by omega), hK'⟩
  · rintro vs bs K' ⟨rfl, rfl, hK'⟩
    exact ⟨_, _, tz8 (by omega), hK'⟩
  rw [fb8f_vc]
  simp only [cond_true, cond_false] at ha
  rw [ha]
  have hp : (18446744073709551616 : Nat) < 8 ^ 64 := by decide
  refine ⟨rfl, rfl, rfl, rfl, ⟨65, by decide, u0, 64, [], rfl, rfl, by simp, fun c hc => by rw [List.eq_of_mem_replicate hc]; rfl, rfl, by omega, .inl rfl, by simpa using hu0, hu0, by omega, by omega, by simp⟩, ?_⟩
  rintro ⟨xu, xi, es⟩ m ⟨w, f, t, rfl, rfl, hlen, h1, hdrop, hm, hmw, hpow, hw, hf, hf1, hd⟩
  simp only at hlen h1 hdrop
  have h2 := fb_two hmw hpow
  obtain ⟨m, rfl⟩ : ∃ k, m = k + 1 := ⟨m - 1, by omega⟩
  have hsub : subI .i64 ((m + 1 : Nat) : Int) 1 = (m : Int) := by rw [subI_i64 (by omega) (by omega)]; omega
  have hsub2 : subI .i64 (m : Int) 1 = ((m - 1 : Nat) : Int) := by rw [subI_i64 (by omega) (by omega)]; omega
  have hand : andI .u64 (w : Int) 7 = ((w % 8 : Nat) : Int) := andI_mask (s := 3) hw (by omega)
  have hshr : shrI .u64 (w : Int) 3 = ((w / 8 : Nat) : Int) := shrI_nat .u64 w 3 (by decide)
  have hj : m < es.length := by omega
  simp only [hsub, hsub2, hand, hshr, br_iff, need_iff, Int.toNat_natCast, Nat.zero_add]
  have hmod : w % 8 < 8 := Nat.mod_lt _ (by omega)
  have hset : ∀ d : Nat, (es.set m [V.int .u8 ((dgt d).toNat : Int)]).drop m = rowsB (dgt d :: t) := fun d => by rw [drop_set hj, hdrop]; rfl
  refine ⟨fun hge => ?_, fun hlt => ?_⟩
  · have hge : 8 ≤ w := by simp [leI] at hge; omega
    obtain ⟨g, rfl⟩ : ∃ g, f = g + 1 := ⟨f - 1, by omega⟩
    have hg1 : 1 ≤ g := by
      rcases Nat.eq_zero_or_pos g with rfl | h0
      · simp at hf; omega
      · exact h0
    refine ⟨by simp [andB, ltI]; omega, by simp [andB, ltI, leI]; omega, okRow1 h1 hj, _, putAt1 _ h1 hj, trivial, m, by omega, w / 8, g, dgt (w % 8) :: t, rfl, rfl, by simpa using hlen, set_one h1, ?_, by omega, .inr (Nat.div_pos hge (by omega)), fb_half (by omega) hm hpow, by omega, ?_, hg1, ?_⟩
    · rw [dig36_at (by omega)]; exact hset _
    · rw [Nat.div_lt_iff_lt_mul (by omega), ← Nat.pow_succ]; exact hf
    · rw [digs_ge hge] at hd
      rw [← hd]; simp
  · have hlt : w < 8 := by simp [leI] at hlt; omega
    obtain ⟨g, rfl⟩ : ∃ g, f = g + 1 := ⟨f - 1, by omega⟩
    rw [digs_lt hlt] at hd
    refine ⟨by simp [andB, ltI, leI]; omega, by simp [andB, ltI, leI]; omega, okRow1 h1 hj, _, putAt1 _ h1 hj, ?_⟩
    rw [dig36_at (by omega)]
    have e := take_rows (es := es.set m [V.int .u8 ((dgt w).toNat : Int)]) (j := m) (by simpa using hlen)
    rw [Nat.zero_add] at e
    refine ⟨headOkP1 (set_one h1), by simp [leN, hlen], by simp [andB, leI]; omega, ?_⟩
    rw [e, hset, okBytes_rowsB, bytesOf_rowsB]
    refine ⟨rfl, ?_⟩
    have : (dgt w :: t : List UInt8) = (bif false then [45] else []) ++ digs 8 64 u0 := by rw [← hd]; rfl
    rw [this]
    exact hK
theorem fb16t_vc (u : Int) (I : fbC → fbX → fbX → Nat → Prop) (K : V → List Bk → Prop) : vcF Tryz.prog cfgF (ctOf [(118, fun vs bs K => vs = [.int .i64 16] ∧ bs = [] ∧ K (.bool true) []), (119, fun vs bs K => vs = [.int .u64 16] ∧ bs = [] ∧ K (.int .i64 4) [])]) (lpOf [(11, fbL I)]) 110 [.lst [], .int .u64 u, .int .i64 16, .bool true, .bool false] [] K = (
  (([V.int IntKind.i64 16] : List V) = [V.int IntKind.i64 16]) ∧ (
  (([] : List Bk) = []) ∧ (
  (([V.int IntKind.u64 16] : List V) = [V.int IntKind.u64 16]) ∧ (
  (([] : List Bk) = []) ∧ (
  (∃ m3 : Nat, (m3 < 18446744073709551616) ∧ (
  I (fbC.mk true false 4 16 15) (fbX.mk (negI IntKind.u64 u) 65 (List.replicate 65 [V.int IntKind.u8 0])) (fbX.mk (negI IntKind.u64 u) 65 (List.replicate 65 [V.int IntKind.u8 0])) m3)) ∧ (
  ∀ x3 : (fbL I).X, ∀ m4 : Nat, (I (fbC.mk true false 4 16 15) (fbX.mk (negI IntKind.u64 u) 65 (List.replicate 65 [V.int IntKind.u8 0])) x3 m4) → (
  br (leI 16 x3.1) (
    need (andB true (ltI (andI IntKind.u64 x3.1 15) 36)) (
    need (andB (leI 0 (subI IntKind.i64 x3.2 1)) (ltI (subI IntKind.i64 x3.2 1) 65)) (
    need (okRow x3.3 (0 + (subI IntKind.i64 x3.2 1).toNat) 1) (
    ∃ xs5 : List (List V), ((putAt x3.3 (0 + (subI IntKind.i64 x3.2 1).toNat) 0 [V.int IntKind.u8 (atS [48, 49, 50, 51, 52, 53, 54, 55, 56, 57, 97, 98, 99, 100, 101, 102, 103, 104, 105, 106, 107, 108, 109, 110, 111, 112, 113, 114, 115, 116, 117, 118, 119, 120, 121, 122] (andI IntKind.u64 x3.1 15))] : Option (List (List V))) = some xs5) ∧ (
    ((fbC.mk true false 4 16 15 : (fbL I).C) = fbC.mk true false 4 16 15) ∧ (
    ∃ m'6 : Nat, (m'6 < m4) ∧ (
    I (fbC.mk true false 4 16 15) (fbX.mk (negI IntKind.u64 u) 65 (List.replicate 65 [V.int IntKind.u8 0])) (fbX.mk (shrI IntKind.u64 x3.1 4) (subI IntKind.i64 x3.2 1) xs5) m'6))))))) (
    need (andB (leI 0 x3.1) (ltI x3.1 36)) (
    need (andB (leI 0 (subI IntKind.i64 x3.2 1)) (ltI (subI IntKind.i64 x3.2 1) 65)) (
    need (okRow x3.3 (0 + (subI IntKind.i64 x3.2 1).toNat) 1) (
    ∃ xs5 : List (List V), ((putAt x3.3 (0 + (subI IntKind.i64 x3.2 1).toNat) 0 [V.int IntKind.u8 (atS [48, 49, 50, 51, 52, 53, 54, 55, 56, 57, 97, 98, 99, 100, 101, 102, 103, 104, 105, 106, 107, 108, 109, 110, 111, 112, 113, 114, 115, 116, 117, 118, 119, 120, 121, 122] x3.1)] : Option (List (List V))) = some xs5) ∧ (
    need (andB (leI 0 (subI IntKind.i64 (subI IntKind.i64 x3.2 1) 1)) (ltI (subI IntKind.i64 (subI IntKind.i64 x3.2 1) 1) 65)) (
    need (okRow xs5 (0 + (subI IntKind.i64 (subI IntKind.i64 x3.2 1) 1).toNat) 1) (
    ∃ xs6 : List (List V), ((putAt xs5 (0 + (subI IntKind.i64 (subI IntKind.i64 x3.2 1) 1).toNat) 0 [V.int IntKind.u8 45] : Option (List (List V))) = some xs6) ∧ (
    need (headOkP 1 xs6) (
    need (leN 65 xs6.length) (
    need (andB (leI 0 (subI IntKind.i64 (subI IntKind.i64 x3.2 1) 1)) (leI (subI IntKind.i64 (subI IntKind.i64 x3.2 1) 1) 65)) (
    need (okBytes (List.take (65 - (subI IntKind.i64 (subI IntKind.i64 x3.2 1) 1).toNat) (List.drop (0 + (subI IntKind.i64 (subI IntKind.i64 x3.2 1) 1).toNat) xs6))) (
    K (V.tup [V.nils, V.str (bytesOf (List.take (65 - (subI IntKind.i64 (subI IntKind.i64 x3.2 1) 1).toNat) (List.drop (0 + (subI IntKind.i64 (subI IntKind.i64 x3.2 1) 1).toNat) xs6)))]) []))))))))))))))))))) := by kernel_rfl

theorem fb16t_run {n : Nat} (hn : 3 ≤ n) (u0 : Nat) (hu0 : u0 < 18446744073709551616) (a : Int) (ha : (bif true then negI .u64 a else a) = u0) (K : V → List Bk → Prop)
    (hK : K (.tup [.nils, .str ((bif true then [45] else []) ++ digs 16 64 u0)]) []) :
    ∃ r out, evalF Tryz.prog cfgF n 110 [.lst [], .int .u64 a, .int .i64 16, .bool true, .bool false] [] = some (r, out) ∧ K r out := by
  refine run_of (lp := lpOf [(11, fbL fun _ _ x m => fbI 16 u0 x m)]) (by omega) (fun k hk => ctOf_ok (l := [(118, fun vs bs K => vs = [.int .i64 16] ∧ bs = [] ∧ K (.bool true) []), (119, fun vs bs K => vs = [.int .u64 16] ∧ bs = [] ∧ K (.int .i64 4) [])]) (ctOf_cons ?_ (ctOf_cons ?_ (ctOf_nil _)))) ?_
  · rintro vs bs K' ⟨rfl, rfl, hK'⟩
    exact ⟨_, _, p216 (by omega), hK'⟩
  · rintro vs bs K' ⟨rfl, rfl, hK'⟩
    exact ⟨_, _, tz16 (by omega), hK'⟩
  rw [fb16t_vc]
  simp only [cond_true, cond_false] at ha
  rw [ha]
  have hp : (18446744073709551616 : Nat) < 16 ^ 64 := by decide
  refine ⟨rfl, rfl, rfl, rfl, ⟨65, by decide, u0, 64, [], rfl, rfl, by simp, fun c hc => by rw [List.eq_of_mem_replicate hc]; rfl, rfl, by omega, .inl rfl, by simpa using hu0, hu0, by omega, by omega, by simp⟩, ?_⟩
  rintro ⟨xu, xi, es⟩ m ⟨w, f, t, rfl, rfl, hlen, h1, hdrop, hm, hmw, hpow, hw, hf, hf1, hd⟩
  simp only at hlen h1 hdrop
  have h2 := fb_two hmw hpow
  obtain ⟨m, rfl⟩ : ∃ k, m = k + 1 := ⟨m - 1, by omega⟩
  have hsub : subI .i64 ((m + 1 : Nat) : Int) 1 = (m : Int) := by rw [subI_i64 (by omega) (by omega)]; omega
  have hsub2 : subI .i64 (m : Int) 1 = ((m - 1 : Nat) : Int) := by rw [subI_i64 (by omega) (by omega)]; omega
  have hand : andI .u64 (w : Int) 15 = ((w % 16 : Nat) : Int) := andI_mask (s := 4) hw (by omega)
  have hshr : shrI .u64 (w : Int) 4 = ((w / 16 : Nat) : Int) := shrI_nat .u64 w 4 (by decide)
  have hj : m < es.length := by omega
  simp only [hsub, hsub2, hand, hshr, br_iff, need_iff, Int.toNat_natCast, Nat.zero_add]
  have hmod : w % 16 < 16 := Nat.mod_lt _ (by omega)
  have hset : ∀ d : Nat, (es.set m [V.int .u8 ((dgt d).toNat : Int)]).drop m = rowsB (dgt d :: t) := fun d => by rw [drop_set hj, hdrop]; rfl
  refine ⟨fun hge => ?_, fun hlt => ?_⟩
  · have hge : 16 ≤ w := by simp [leI] at hge; omega
    obtain ⟨g, rfl⟩ : ∃ g, f = g + 1 := ⟨f - 1, by omega⟩
    have hg1 : 1 ≤ g := by
      rcases Nat.eq_zero_or_pos g with rfl | h0
      · simp at hf; omega
      · exact h0
    refine ⟨by simp [andB, ltI]; omega, by simp [andB, ltI, leI]; omega, okRow1 h1 hj, _, putAt1 _ h1 hj, trivial, m, by omega, w / 16, g, dgt (w % 16) :: t, rfl, rfl, by simpa using hlen, set_one h1, ?_, by omega, .inr (Nat.div_pos hge (by omega)), fb_half (by omega) hm hpow, by omega, ?_, hg1, ?_⟩
    · rw [dig36_at (by omega)]; exact hset _
    · rw [Nat.div_lt_iff_lt_mul (by omega), ← Nat.pow_succ]; exact hf
    · rw [digs_ge hge] at hd
      rw [← hd]; simp
  · have hlt : w < 16 := by simp [leI] at hlt; omega
    obtain ⟨g, rfl⟩ : ∃ g, f = g + 1 := ⟨f - 1, by omega⟩
    rw [digs_lt hlt] at hd
    refine ⟨by simp [andB, ltI, leI]; omega, by simp [andB, ltI, leI]; omega, okRow1 h1 hj, _, putAt1 _ h1 hj, ?_⟩
    rw [dig36_at (by omega)]
    have h1' := set_one (v := V.int .u8 ((dgt w).toNat : Int)) (j := m) h1
    have hl' : (es.set m [V.int .u8 ((dgt w).toNat : Int)]).length = 65 := by simpa using hlen
    have hs' := hset w
    generalize es.set m [V.int .u8 ((dgt w).toNat : Int)] = es1 at h1' hl' hs' ⊢
    have hj1 : m - 1 < es1.length := by omega
    refine ⟨by simp [andB, ltI, leI]; omega, okRow1 h1' hj1, _, putAt1 _ h1' hj1, headOkP1 (set_one h1'), by simp [leN, hl'], by simp [andB, leI]; omega, ?_⟩
    have e : List.take (65 - (m - 1)) (List.drop (m - 1) (es1.set (m - 1) [V.int .u8 45])) = rowsB (45 :: dgt w :: t) := by
      have := take_rows (es := es1.set (m - 1) [V.int .u8 45]) (j := m - 1) (by simpa using hl')
      rw [Nat.zero_add] at this
      rw [this, drop_set hj1, show m - 1 + 1 = m by omega, hs']
      rfl
    rw [e, okBytes_rowsB, bytesOf_rowsB]
    refine ⟨rfl, ?_⟩
    have : (45 :: dgt w :: t : List UInt8) = (bif true then [45] else []) ++ digs 16 64 u0 := by rw [← hd]; rfl
    rw [this]
    exact hK
theorem fb16f_vc (u : Int) (I : fbC → fbX → fbX → Nat → Prop) (K : V → List Bk → Prop) : vcF Tryz.prog cfgF (ctOf [(118, fun vs bs K => vs = [.int .i64 16] ∧ bs = [] ∧ K (.bool true) []), (119, fun vs bs K => vs = [.int .u64 16] ∧ bs = [] ∧ K (.int .i64 4) [])]) (lpOf [(11, fbL I)]) 110 [.lst [], .int .u64 u, .int .i64 16, .bool false, .bool false] [] K = (
  (([V.int IntKind.i64 16] : List V) = [V.int IntKind.i64 16]) ∧ (
  (([] : List Bk) = []) ∧ (
  (([V.int IntKind.u64 16] : List V) = [V.int IntKind.u64 16]) ∧ (
  (([] : List Bk) = []) ∧ (
  (∃ m3 : Nat, (m3 < 18446744073709551616) ∧ (
  I (fbC.mk false false 4 16 15) (fbX.mk u 65 (List.replicate 65 [V.int IntKind.u8 0])) (fbX.mk u 65 (List.replicate 65 [V.int IntKind.u8 0])) m3)) ∧ (
  ∀ x3 : (fbL I).X, ∀ m4 : Nat, (I (fbC.mk false false 4 16 15) (fbX.mk u 65 (List.replicate 65 [V.int IntKind.u8 0])) x3 m4) → (
  br (leI 16 x3.1) (
    need (andB true (ltI (andI IntKind.u64 x3.1 15) 36)) (
    need (andB (leI 0 (subI IntKind.i64 x3.2 1)) (ltI (subI IntKind.i64 x3.2 1) 65)) (
    need (okRow x3.3 (0 + (subI IntKind.i64 x3.2 1).toNat) 1) (
    ∃ xs5 : List (List V), ((putAt x3.3 (0 + (subI IntKind.i64 x3.2 1).toNat) 0 [V.int IntKind.u8 (atS [48, 49, 50, 51, 52, 53, 54, 55, 56, 57, 97, 98, 99, 100, 101, 102, 103, 104, 105, 106, 107, 108, 109, 110, 111, 112, 113, 114, 115, 116, 117, 118, 119, 120, 121, 122] (andI IntKind.u64 x3.1 15))] : Option (List (List V))) = some xs5) ∧ (
    ((fbC.mk false false 4 16 15 : (fbL I).C) = fbC.mk false false 4 16 15) ∧ (
    ∃ m'6 : Nat, (m'6 < m4) ∧ (
    I (fbC.mk false false 4 16 15) (fbX.mk u 65 (List.replicate 65 [V.int IntKind.u8 0])) (fbX.mk (shrI IntKind.u64 x3.1 4) (subI IntKind.i64 x3.2 1) xs5) m'6))))))) (
    need (andB (leI 0 x3.1) (ltI x3.1 36)) (
    need (andB (leI 0 (subI IntKind.i64 x3.2 1)) (ltI (subI IntKind.i64 x3.2 1) 65)) (
    need (okRow x3.3 (0 + (subI IntKind.i64 x3.2 1).toNat) 1) (
    ∃ xs5 : List (List V), ((putAt x3.3 (0 + (subI IntKind.i64 x3.2 1).toNat) 0 [V.int IntKind.u8 (atS [48, 49, 50, 51, 52, 53, 54, 55, 56, 57, 97, 98, 99, 100, 101, 102, 103, 104, 105, 106, 107, 108, 109, 110, 111, 112, 113, 114, 115, 116, 117, 118, 119, 120, 121, 122] x3.1)] : Option (List (List V))) = some xs5) ∧ (
    need (headOkP 1 xs5) (
    need (leN 65 xs5.length) (
    need (andB (leI 0 (subI IntKind.i64 x3.2 1)) (leI (subI IntKind.i64 x3.2 1) 65)) (
    need (okBytes (List.take (65 - (subI IntKind.i64 x3.2 1).toNat) (List.drop (0 + (subI IntKind.i64 x3.2 1).toNat) xs5))) (
    K (V.tup [V.nils, V.str (bytesOf (List.take (65 - (subI IntKind.i64 x3.2 1).toNat) (List.drop (0 + (subI IntKind.i64 x3.2 1).toNat) xs5)))]) [])))))))))))))))) := by kernel_rfl

theorem fb16f_run {n : Nat} (hn : 3 ≤ n) (u0 : Nat) (hu0 : u0 < 18446744073709551616) (a : Int) (ha : (bif false then negI .u64 a else a) = u0) (K : V → List Bk → Prop)
    (hK : K (.tup [.nils, .str ((bif false then [45] else []) ++ digs 16 64 u0)]) []) :
    ∃ r out, evalF Tryz.prog cfgF n 110 [.lst [], .int .u64 a, .int .i64 16, .bool false, .bool false] [] = some (r, out) ∧ K r out := by
  refine run_of (lp := lpOf [(11, fbL fun _ _ x m => fbI 16 u0 x m)]) (by omega) (fun k hk => ctOf_ok (l := [(118, fun vs bs K => vs = [.int .i64 16] ∧ bs = [] ∧ K (.bool true) []), (119, fun vs bs K => vs = [.int .u64 16] ∧ bs = [] ∧ K (.int .i64 4) [])]) (ctOf_cons ?_ (ctOf_cons ?_ (ctOf_nil _)))) ?_
  · rintro vs bs K' ⟨rfl, rfl, hK'⟩
    exact ⟨_, _, p216 (by omega), hK'⟩
  · rintro vs bs K' ⟨rfl, rfl, hK'⟩
    exact ⟨_, _, tz16 (by omega), hK'⟩
  rw [fb16f_vc]
  simp only [cond_true, cond_false] at ha
  rw [ha]
  have hp : (18446744073709551616 : Nat) < 16 ^ 64 := by decide
  refine ⟨rfl, rfl, rfl, rfl, ⟨65, by decide, u0, 64, [], rfl, rfl, by simp, fun c hc => by rw [List.eq_of_mem_replicate hc]; rfl, rfl, by omega, .inl rfl, by simpa using hu0, hu0, by omega, by omega, by simp⟩, ?_⟩
  rintro ⟨xu, xi, es⟩ m ⟨w, f, t, rfl, rfl, hlen, h1, hdrop, hm, hmw, hpow, hw, hf, hf1, hd⟩
  simp only at hlen h1 hdrop
  have h2 := fb_two hmw hpow
  obtain ⟨m, rfl⟩ : ∃ k, m = k + 1 := ⟨m - 1, by omega⟩
  have hsub : subI .i64 ((m + 1 : Nat) : Int) 1 = (m : Int) := by rw [subI_i64 (by omega) (by omega)]; omega
  have hsub2 : subI .i64 (m : Int) 1 = ((m - 1 : Nat) : Int) := by rw [subI_i64 (by omega) (by omega)]; omega
  have hand : andI .u64 (w : Int) 15 = ((w % 16 : Nat) : Int) := andI_mask (s := 4) hw (by omega)
  have hshr : shrI .u64 (w : Int) 4 = ((w / 16 : Nat) : Int) := shrI_nat .u64 w 4 (by decide)
  have hj : m < es.length := by omega
  simp only [hsub, hsub2, hand, hshr, br_iff, need_iff, Int.toNat_natCast, Nat.zero_add]
  have hmod : w % 16 < 16 := Nat.mod_lt _ (by omega)
  have hset : ∀ d : Nat, (es.set m [V.int .u8 ((dgt d).toNat : Int)]).drop m = rowsB (dgt d :: t) := fun d => by rw [drop_set hj, hdrop]; rfl
  refine ⟨fun hge => ?_, fun hlt => ?_⟩
  · have hge : 16 ≤ w := by simp [leI] at hge; omega
    obtain ⟨g, rfl⟩ : ∃ g, f = g + 1 := ⟨f - 1, by omega⟩
    have hg1 : 1 ≤ g := by
      rcases Nat.eq_zero_or_pos g with rfl | h0
      · simp at hf; omega
      · exact h0
    refine ⟨by simp [andB, ltI]; omega, by simp [andB, ltI, leI]; omega, okRow1 h1 hj, _, putAt1 _ h1 hj, trivial, m, by omega, w / 16, g, dgt (w % 16) :: t, rfl, rfl, by simpa using hlen, set_one h1, ?_, by omega, .inr (Nat.div_pos hge (by omega)), fb_half (by omega) hm hpow, by omega, ?_, hg1, ?_⟩
    · rw [dig36_at (by omega)]; exact hset _
    · rw [Nat.div_lt_iff_lt_mul (by omega), ← Nat.pow_succ]; exact hf
    · rw [digs_ge hge] at hd
      rw [← hd]; simp
  · have hlt : w < 16 := by simp [leI] at hlt; omega
    obtain ⟨g, rfl⟩ : ∃ g, f = g + 1 := ⟨f - 1, by omega⟩
    rw [digs_lt hlt] at hd
    refine ⟨by simp [andB, ltI, leI]; omega, by simp [andB, ltI, leI]; omega, okRow1 h1 hj, _, putAt1 _ h1 hj, ?_⟩
    rw [dig36_at (by omega)]
    have e := take_rows (es := es.set m [V.int .u8 ((dgt w).toNat : Int)]) (j := m) (by simpa using hlen)
    rw [Nat.zero_add] at e
    refine ⟨headOkP1 (set_one h1), by simp [leN, hlen], by simp [andB, leI]; omega, ?_⟩
    rw [e, hset, okBytes_rowsB, bytesOf_rowsB]
    refine ⟨rfl, ?_⟩
    have : (dgt w :: t : List UInt8) = (bif false then [45] else []) ++ digs 16 64 u0 := by rw [← hd]; rfl
    rw [this]
    exact hK
end Go.Proofs.YtdbbpibfejchfaaGreatDoor
namespace Go.Proofs.YtdbbpibfejchfaaGreatDoor
open Go.RowKit
set_option maxRecDepth 100000
set_option linter.unusedVariables false
set_option linter.unusedSimpArgs false
def fbText (neg : Bool) (a b : Int) : List UInt8 := (bif neg then [45] else []) ++ digs b.toNat 64 (bif neg then negI .u64 a else a).toNat
def fbCon : Con := fun vs bs K => match vs, bs with
  | [.lst [], .int .u64 a, .int .i64 b, .bool neg, .bool false], [] => need (orB (eqI b 8) (eqI b 16)) (need (andB (leI 0 a) (ltI a 18446744073709551616)) (K (.tup [.nils, .str (fbText neg a b)]) []))
  | _, _ => False

theorem fb_con {n : Nat} (hn : 3 ≤ n) : ConOk (evalF Tryz.prog cfgF n) 110 fbCon := by
  intro vs bs K h
  unfold fbCon at h
  split at h
  · rename_i a b neg
    obtain ⟨hb, h⟩ := need_iff.1 h
    obtain ⟨ha, hK⟩ := need_iff.1 h
    simp only [andB, leI, ltI, Bool.and_eq_true, decide_eq_true_eq] at ha
    have hneg : 0 ≤ negI .u64 a ∧ negI .u64 a < 18446744073709551616 := by
      simp [negI, IntKind.wrap, IntKind.bits, IntKind.signed]
      omega
    have hn' : ∀ q : Bool, (bif q then negI .u64 a else a) = (((bif q then negI .u64 a else a).toNat : Nat) : Int) ∧ (bif q then negI .u64 a else a).toNat < 18446744073709551616 := by
      intro q
      cases q
      · simp only [cond_false]; omega
      · simp only [cond_true]; omega
    have hb : b = 8 ∨ b = 16 := by simpa [orB, eqI] using hb
    have hx : ∀ (q : Bool) (u0 B : Nat), (bif q then negI .u64 a else a).toNat = u0 → fbText q a (B : Int) = (bif q then [45] else []) ++ digs B 64 u0 := fun q u0 B e => by subst e; rfl
    rcases hb with rfl | rfl
    · cases neg with
      | true =>
        obtain ⟨h1, h2⟩ := hn' true
        generalize hu : (bif true then negI .u64 a else a).toNat = u0 at h1 h2
        rw [show (8 : Int) = ((8 : Nat) : Int) from rfl, hx true u0 8 hu] at hK
        exact fb8t_run hn u0 h2 a h1 K hK
      | false =>
        obtain ⟨h1, h2⟩ := hn' false
        generalize hu : (bif false then negI .u64 a else a).toNat = u0 at h1 h2
        rw [show (8 : Int) = ((8 : Nat) : Int) from rfl, hx false u0 8 hu] at hK
        exact fb8f_run hn u0 h2 a h1 K hK
    · cases neg with
      | true =>
        obtain ⟨h1, h2⟩ := hn' true
        generalize hu : (bif true then negI .u64 a else a).toNat = u0 at h1 h2
        rw [show (16 : Int) = ((16 : Nat) : Int) from rfl, hx true u0 16 hu] at hK
        exact fb16t_run hn u0 h2 a h1 K hK
      | false =>
        obtain ⟨h1, h2⟩ := hn' false
        generalize hu : (bif false then negI .u64 a else a).toNat = u0 at h1 h2
        rw [show (16 : Int) = ((16 : Nat) : Int) from rfl, hx false u0 16 hu] at hK
        exact fb16f_run hn u0 h2 a h1 K hK
  · exact h.elim
theorem fi8_vc (a : Int) (K : V → List Bk → Prop) : vcF Tryz.prog cfgF (ctOf [(110, fbCon)]) (lpOf []) 100 [.int .i64 a, .int .i64 8] [] K = (
  need (andB (leI 0 (wrapI IntKind.u64 a)) (ltI (wrapI IntKind.u64 a) 18446744073709551616)) (
  K (V.str (fbText (ltI a 0) (wrapI IntKind.u64 a) 8)) [])) := by kernel_rfl

theorem fi16_vc (a : Int) (K : V → List Bk → Prop) : vcF Tryz.prog cfgF (ctOf [(110, fbCon)]) (lpOf []) 100 [.int .i64 a, .int .i64 16] [] K = (
  need (andB (leI 0 (wrapI IntKind.u64 a)) (ltI (wrapI IntKind.u64 a) 18446744073709551616)) (
  K (V.str (fbText (ltI a 0) (wrapI IntKind.u64 a) 16)) [])) := by kernel_rfl

theorem fw_vc (a b : Int) (t : List UInt8) (K : V → List Bk → Prop) : vcF Tryz.prog cfgF (ctOf [(100, fun vs bs K => vs = [.int .i64 a, .int .i64 b] ∧ bs = [] ∧ K (.str t) [])]) (lpOf []) 90 [.int .i64 a, .int .i64 b] [] K = (
  (([V.int IntKind.i64 a, V.int IntKind.i64 b] : List V) = [V.int IntKind.i64 a, V.int IntKind.i64 b]) ∧ (
  (([] : List Bk) = []) ∧ (
  K (V.str t) []))) := by kernel_rfl

theorem fbText_textN {a : Int} (h1 : -9223372036854775808 ≤ a) (h2 : a ≤ 9223372036854775807) (B : Nat) : fbText (ltI a 0) (wrapI .u64 a) (B : Int) = textN B a := by
  cases a with
  | ofNat u =>
    have e1 : ltI (Int.ofNat u) 0 = false := by simp [ltI]
    have e2 : wrapI .u64 (Int.ofNat u) = (u : Int) := wrapU64 (by simp) (by have := h2; simp only [Int.ofNat_eq_natCast] at this ⊢; omega)
    rw [e1, e2]
    rfl
  | negSucc u =>
    have e1 : ltI (Int.negSucc u) 0 = true := by simp only [ltI, decide_eq_true_eq]; omega
    have e2 : negI .u64 (wrapI .u64 (Int.negSucc u)) = ((u + 1 : Nat) : Int) := by
      simp [negI, wrapI, IntKind.wrap, IntKind.bits, IntKind.signed]
      omega
    rw [e1]
    unfold fbText
    simp only [cond_true, e2]
    rfl
theorem fi_run {n : Nat} (hn : 5 ≤ n) {a : Int} (h1 : -9223372036854775808 ≤ a) (h2 : a ≤ 9223372036854775807) {B : Nat} (hB : B = 8 ∨ B = 16) : evalF Tryz.prog cfgF n 90 [.int .i64 a, .int .i64 B] [] = some (.str (textN B a), []) := by
  have inner : ∀ {n : Nat}, 4 ≤ n → ∃ r out, evalF Tryz.prog cfgF n 100 [.int .i64 a, .int .i64 B] [] = some (r, out) ∧ r = .str (textN B a) ∧ out = [] := by
    intro n hn
    have hw : 0 ≤ wrapI .u64 a ∧ wrapI .u64 a < 18446744073709551616 := by
      simp [wrapI, IntKind.wrap, IntKind.bits, IntKind.signed]
      omega
    rcases hB with rfl | rfl
    · refine run_of (lp := lpOf []) (by omega) (fun k hk => ctOf_ok (ctOf_cons (fb_con (n := k) (by omega)) (ctOf_nil _))) ?_
      rw [show (((8 : Nat) : Int)) = 8 from rfl, fi8_vc]
      refine need_iff.2 ⟨by simp [andB, leI, ltI, hw], ?_⟩
      rw [show (8 : Int) = ((8 : Nat) : Int) from rfl, fbText_textN h1 h2]
      exact ⟨rfl, rfl⟩
    · refine run_of (lp := lpOf []) (by omega) (fun k hk => ctOf_ok (ctOf_cons (fb_con (n := k) (by omega)) (ctOf_nil _))) ?_
      rw [show (((16 : Nat) : Int)) = 16 from rfl, fi16_vc]
      refine need_iff.2 ⟨by simp [andB, leI, ltI, hw], ?_⟩
      rw [show (16 : Int) = ((16 : Nat) : Int) from rfl, fbText_textN h1 h2]
      exact ⟨rfl, rfl⟩
  obtain ⟨r, out, e, rfl, rfl⟩ := run_of (P := Tryz.prog) (cfg := cfgF) (ct := ctOf [(100, fun vs bs K => vs = [.int .i64 a, .int .i64 B] ∧ bs = [] ∧ K (.str (textN B a)) [])]) (f := 90) (vs := [.int .i64 a, .int .i64 B]) (bs := []) (lp := lpOf []) (K := fun r out => r = .str (textN B a) ∧ out = []) (n := n) (by omega)
    (fun k hk => ctOf_ok (ctOf_cons (by
      rintro vs bs K ⟨rfl, rfl, hK⟩
      obtain ⟨r, out, e, rfl, rfl⟩ := inner (n := k) (by omega)
      exact ⟨_, _, e, hK⟩) (ctOf_nil _))) (by
      rw [fw_vc]
      exact ⟨rfl, rfl, rfl, rfl⟩)
  exact e
end Go.Proofs.YtdbbpibfejchfaaGreatDoor
