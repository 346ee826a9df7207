/-
  Bits of whole numbers as the program uses them: joined where one is a multiple of a power of two that the other lies below; masked.
-/
import Derived.Laws.BitsAllLaws
namespace Go.Proofs.Ytndmmkadceobjaa

theorem nat_and_mask (x i : Nat) : x &&& (2 ^ i - 1) = x % 2 ^ i := Nat.and_two_pow_sub_one_eq_mod x i
theorem toNat_mod {a : Int} (h : 0 ≤ a) (n : Nat) (hd : a % (n : Int) = 0) : a.toNat % n = 0 := by
  obtain ⟨a, rfl⟩ := Int.eq_ofNat_of_zero_le h
  have : ((a % n : Nat) : Int) = 0 := by rw [Int.natCast_emod]; exact hd
  simpa using Int.ofNat_eq_zero.1 this

theorem or_u8 (i : Nat) {a b : Int} (h1 : 0 ≤ a) (h2 : a < 256) (hd : a % ((2 ^ i : Nat) : Int) = 0) (h3 : 0 ≤ b) (h4 : b < ((2 ^ i : Nat) : Int)) (h5 : b < 256) : bits .or .u8 a b = a + b := by
  rw [u8_or a b h1 h2 h3 h5, nat_join i _ _ (toNat_mod h1 _ hd) (by omega)]; omega
theorem or_u16 (i : Nat) {a b : Int} (h1 : 0 ≤ a) (h2 : a < 65536) (hd : a % ((2 ^ i : Nat) : Int) = 0) (h3 : 0 ≤ b) (h4 : b < ((2 ^ i : Nat) : Int)) (h5 : b < 65536) : bits .or .u16 a b = a + b := by
  rw [u16_or a b h1 h2 h3 h5, nat_join i _ _ (toNat_mod h1 _ hd) (by omega)]; omega
theorem or_u32 (i : Nat) {a b : Int} (h1 : 0 ≤ a) (h2 : a < 4294967296) (hd : a % ((2 ^ i : Nat) : Int) = 0) (h3 : 0 ≤ b) (h4 : b < ((2 ^ i : Nat) : Int)) (h5 : b < 4294967296) : bits .or .u32 a b = a + b := by
  rw [u32_or a b h1 h2 h3 h5, nat_join i _ _ (toNat_mod h1 _ hd) (by omega)]; omega
theorem and_u8 (i : Nat) {a : Int} (m : Int) (hm : m = ((2 ^ i - 1 : Nat) : Int)) (hi : m < 256) (h1 : 0 ≤ a) (h2 : a < 256) : bits .and .u8 a m = a % ((2 ^ i : Nat) : Int) := by
  subst hm
  rw [u8_and a _ h1 h2 (by omega) hi, Int.toNat_natCast, nat_and_mask]
  rw [Int.natCast_emod, Int.toNat_of_nonneg h1]
theorem and_u16 (i : Nat) {a : Int} (m : Int) (hm : m = ((2 ^ i - 1 : Nat) : Int)) (hi : m < 65536) (h1 : 0 ≤ a) (h2 : a < 65536) : bits .and .u16 a m = a % ((2 ^ i : Nat) : Int) := by
  subst hm
  rw [u16_and a _ h1 h2 (by omega) hi, Int.toNat_natCast, nat_and_mask]
  rw [Int.natCast_emod, Int.toNat_of_nonneg h1]
theorem and_u32 (i : Nat) {a : Int} (m : Int) (hm : m = ((2 ^ i - 1 : Nat) : Int)) (hi : m < 4294967296) (h1 : 0 ≤ a) (h2 : a < 4294967296) : bits .and .u32 a m = a % ((2 ^ i : Nat) : Int) := by
  subst hm
  rw [u32_and a _ h1 h2 (by omega) hi, Int.toNat_natCast, nat_and_mask]
  rw [Int.natCast_emod, Int.toNat_of_nonneg h1]
theorem nat_not (w x : Nat) (h : x < 2 ^ w) : (2 ^ w - 1) ^^^ x = 2 ^ w - 1 - x := by
  have h1 : (2 ^ w - 1) ^^^ x = (BitVec.allOnes w ^^^ BitVec.ofNat w x).toNat := by
    rw [BitVec.toNat_xor, BitVec.toNat_allOnes, BitVec.toNat_ofNat, Nat.mod_eq_of_lt h]
  rw [h1, BitVec.allOnes_xor, BitVec.toNat_not, BitVec.toNat_ofNat, Nat.mod_eq_of_lt h]
theorem not_u16 (x : Int) (h1 : 0 ≤ x) (h2 : x < 65536) : bits .xor .u16 IntKind.u16.max x = 65535 - x := by
  rw [show IntKind.u16.max = 65535 from rfl, u16_xor 65535 x (by omega) (by omega) h1 h2]
  have := nat_not 16 x.toNat (by omega)
  simp only [show (65535 : Int).toNat = 2 ^ 16 - 1 from rfl, this]
  omega
theorem not_u8 (x : Int) (h1 : 0 ≤ x) (h2 : x < 256) : bits .xor .u8 IntKind.u8.max x = 255 - x := by
  rw [show IntKind.u8.max = 255 from rfl, u8_xor 255 x (by omega) (by omega) h1 h2]
  have := nat_not 8 x.toNat (by omega)
  simp only [show (255 : Int).toNat = 2 ^ 8 - 1 from rfl, this]
  omega
end Go.Proofs.Ytndmmkadceobjaa
