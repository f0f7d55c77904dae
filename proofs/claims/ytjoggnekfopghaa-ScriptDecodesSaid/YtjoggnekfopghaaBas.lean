/- Small laws that the walks lean on. -/
import Derived.Test.YtjoggnekfopghaaKb
namespace Gp
open Go

theorem byte_i64 (c : UInt8) : IntKind.i64.wrap (c.toNat : Int) = (c.toNat : Int) := IntWalk.i64_in _ (by have := c.toNat_lt; omega)
theorem lower_snoc (l : Bs) (k : Nat) (h : k < l.length) : lower (l.take (k + 1)) = lower (l.take k) ++ [lowB l[k]] := by
  unfold lower; rw [List.take_succ_eq_append_getElem h, List.map_append]; rfl
theorem u8_in (n : Int) (h0 : 0 ≤ n) (h1 : n ≤ 255) : ∃ c : UInt8, IntKind.u8.wrap n = (c.toNat : Int) ∧ c = UInt8.ofNat n.toNat := by
  refine ⟨UInt8.ofNat n.toNat, ?_, rfl⟩
  rw [IntWalk.u8_in _ ⟨h0, h1⟩]
  simp; omega
theorem lowB_hi {c : UInt8} (h : 65 ≤ (c.toNat : Int) ∧ (c.toNat : Int) ≤ 90) : lowB c = UInt8.ofNat ((c.toNat : Int) + 32).toNat := by
  have h1 : (65 : UInt8) ≤ c := by rw [UInt8.le_iff_toNat_le]; simp; omega
  have h2 : c ≤ (90 : UInt8) := by rw [UInt8.le_iff_toNat_le]; simp; omega
  unfold lowB
  rw [if_pos ⟨h1, h2⟩]
  apply UInt8.toNat_inj.1
  rw [UInt8.toNat_add, UInt8.toNat_ofNat']
  have e : ((c.toNat : Int) + 32).toNat = c.toNat + 32 := by omega
  rw [e]
  rfl
theorem lowB_no {c : UInt8} (h : ¬ (65 ≤ (c.toNat : Int) ∧ (c.toNat : Int) ≤ 90)) : lowB c = UInt8.ofNat (c.toNat : Int).toNat := by
  unfold lowB
  rw [if_neg (by rintro ⟨h1, h2⟩; rw [UInt8.le_iff_toNat_le] at h1 h2; simp at h1 h2; omega)]
  simp
theorem S_eq {a b : Bs} (h : a = b) : S a = S b := by rw [h]
theorem lower_len (l : Bs) : (lower l).length = l.length := by simp [lower]
end Gp
