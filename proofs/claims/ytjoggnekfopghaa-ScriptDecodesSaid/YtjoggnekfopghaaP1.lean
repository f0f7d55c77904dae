/- Small functions of the reference: within, char, Lower, Port, OriginRight. Printed by skel.py out of plan/P1.py. -/
import Derived.Test.YtjoggnekfopghaaTab
import Derived.Test.YtjoggnekfopghaaBas
namespace Gp
open Go Go.Proofs Go.RowKit

theorem r_within (n lo hi : Int) (w : World) : Does Try.prog 17 [I n, I lo, I hi] w fun v w' => v = .bool (decide (lo ≤ n ∧ n ≤ hi)) ∧ w' = w := by
  refine enter Try.func17 rfl (N := 15) rfl rfl fun a HF => ?_
  refine wp_seq ?_
  -- region 0
  refine wp_region_lit ?_
  refine pl HF (p_as rfl) rfl (ltN rfl) rfl ?_; clear HF a; intro a HF
  refine pe ?_
  refine tn ?_
  refine wp_seq ?_
  -- region 1
  refine wp_region_lit ?_
  refine pl HF (p_mv rfl) rfl (ltN rfl) rfl ?_; clear HF a; intro a HF
  refine pl HF (p_mv rfl) rfl (ltN rfl) rfl ?_; clear HF a; intro a HF
  refine pl HF (p_leq rfl rfl) rfl (ltN rfl) rfl ?_; clear HF a; intro a HF
  refine pl HF (p_mv rfl) rfl (ltN rfl) rfl ?_; clear HF a; intro a HF
  refine bsplit HF ?_ ?_ <;> clear HF
  · intro hg10 HF
    refine pw HF (p_mv rfl) rfl (ltN rfl) rfl rfl rfl rfl ?_; clear HF a; intro a HF
    refine pw HF (p_mv rfl) rfl (ltN rfl) rfl rfl rfl rfl ?_; clear HF a; intro a HF
    refine pw HF (p_leq rfl rfl) rfl (ltN rfl) rfl rfl rfl rfl ?_; clear HF a; intro a HF
    refine pl HF (p_pickT rfl rfl) rfl (ltN rfl) rfl ?_; clear HF a; intro a HF
    refine pl HF (p_as rfl) rfl (ltN rfl) rfl ?_; clear HF a; intro a HF
    refine pe ?_
    refine tn ?_
    refine wp_ret ?_
    refine ret1 HF rfl (rv_t rfl) ?_
    first | (have := of_decide_eq_true hg10; simp [this]) | (have := of_decide_eq_false hg10; simp [this])
  · intro hg10 HF
    refine pn HF rfl (ltN rfl) rfl rfl rfl rfl rfl ?_; clear HF a; intro a HF
    refine pn HF rfl (ltN rfl) rfl rfl rfl rfl rfl ?_; clear HF a; intro a HF
    refine pn HF rfl (ltN rfl) rfl rfl rfl rfl rfl ?_; clear HF a; intro a HF
    refine pl HF (p_pickF rfl rfl) rfl (ltN rfl) rfl ?_; clear HF a; intro a HF
    refine pl HF (p_as rfl) rfl (ltN rfl) rfl ?_; clear HF a; intro a HF
    refine pe ?_
    refine tn ?_
    refine wp_ret ?_
    refine ret1 HF rfl (rv_t rfl) ?_
    first | (have := of_decide_eq_true hg10; simp [this]) | (have := of_decide_eq_false hg10; simp [this])

theorem r_char {w0 : World} {F : Nat → Prop} {G : Gh} {H : List Asrt} (n : Int) (h0 : 0 ≤ n) (h1 : n ≤ 255) (w : World) (HS : St w0 F G w H) : Does Try.prog 24 [I n] w fun v w' => v = S [UInt8.ofNat n.toNat] ∧ St w0 F G w' H := by
  obtain ⟨c, hc, hcn⟩ := u8_in n h0 h1
  refine enter Try.func24 rfl (N := 7) rfl rfl fun a HF => ?_
  refine wp_seq ?_
  -- region 0
  refine wp_region_lit ?_
  refine pl HF (p_as rfl) rfl (ltN rfl) rfl ?_; clear HF a; intro a HF
  refine pe ?_
  refine tn ?_
  refine wp_seq ?_
  -- region 1
  refine wp_region_lit ?_
  refine pl HF (p_mv rfl) rfl (ltN rfl) rfl ?_; clear HF a; intro a HF
  refine pl HF (p_conv (by rw [Try.underlying3]; rfl) Try.underlying5 rfl hc) rfl (ltN rfl) rfl ?_; clear HF a; intro a HF
  refine g_bsl (cs := [_]) HF HS sl42 zc5 rfl rfl rfl rfl rfl (ltN rfl) ?_; clear HF HS a; intro a w b5 HF HS
  refine pl HF (p_bstrB [c] HS Try.underlying42 Try.underlying5 Try.underlying9 rfl rfl .here ⟨[], rfl⟩) rfl (ltN rfl) rfl ?_; clear HF a; intro a HF
  refine pl HF (p_as rfl) rfl (ltN rfl) rfl ?_; clear HF a; intro a HF
  refine pe ?_
  refine tn ?_
  refine wp_ret ?_
  refine ret1 HF rfl (rv_t rfl) ?_
  exact ⟨by rw [hcn], HS.drop⟩

theorem r_Lower {w0 : World} {F : Nat → Prop} {G : Gh} {H : List Asrt} (l : Bs) (hl : l.length ≤ 1000000) (w : World) (HS : St w0 F G w H) : Does Try.prog 14 [S l] w fun v w' => v = S (lower l) ∧ St w0 F G w' H := by
  refine enter Try.func14 rfl (N := 25) rfl rfl fun a HF => ?_
  refine wp_seq ?_
  -- region 0
  refine wp_region_lit ?_
  refine pl HF (p_as rfl) rfl (ltN rfl) rfl ?_; clear HF a; intro a HF
  refine pe ?_
  refine tn ?_
  refine wp_seq ?_
  -- region 1
  refine wp_region_lit ?_
  refine pl HF (p_as rfl) rfl (ltN rfl) rfl ?_; clear HF a; intro a HF
  refine pe ?_
  refine tn ?_
  refine wp_seq ?_
  refine wp_seq ?_
  -- region 2
  refine wp_region_lit ?_
  refine pl HF (p_mv rfl) rfl (ltN rfl) rfl ?_; clear HF a; intro a HF
  refine pl HF (p_lens Try.underlying9 rfl) rfl (ltN rfl) rfl ?_; clear HF a; intro a HF
  refine pl HF (p_mv rfl) rfl (ltN rfl) rfl ?_; clear HF a; intro a HF
  refine pe ?_
  refine tn ?_
  refine wp_block ?_
  refine wp_loop_ghost (fun n a w => ∃ k : Nat, k ≤ l.length ∧ n = l.length - k ∧ St w0 F G w H ∧ Fr 25 a [(0, S l), (3, S (lower (l.take k))), (7, I l.length), (8, I k)]) l.length ?_ ?_
  · exact ⟨0, Nat.zero_le _, rfl, HS, HF.cut [0, 3, 7, 8] rfl⟩
  · rintro n a w ⟨k, hk, rfl, HS, HF⟩
    have hbk := lower_len (l.take k)
    have hlk := List.length_take_le k l
    refine wp_seq ?_
    -- region 3
    refine wp_region_lit ?_
    refine pl HF (p_lss rfl rfl) rfl (ltN rfl) rfl ?_; clear HF a; intro a HF
    refine pe ?_
    refine tn ?_
    refine wp_seq ?_
    refine c_if HF rfl (fun hc9 => ?_) (fun hc9 => ?_)
    · have hlt : k < l.length := by have := of_decide_eq_true hc9; omega
      have hb := (l[k]).toNat_lt
      refine wp_skip ?_
      refine tn ?_
      refine wp_seq ?_
      refine wp_block ?_
      refine wp_seq ?_
      -- region 4
      refine wp_region_lit ?_
      refine pl HF (p_mv rfl) rfl (ltN rfl) rfl ?_; clear HF a; intro a HF
      refine pl HF (p_as rfl) rfl (ltN rfl) rfl ?_; clear HF a; intro a HF
      refine pe ?_
      refine tn ?_
      refine wp_seq ?_
      -- region 5
      refine wp_region_lit ?_
      refine pl HF (p_mv rfl) rfl (ltN rfl) rfl ?_; clear HF a; intro a HF
      refine pl HF (p_mv rfl) rfl (ltN rfl) rfl ?_; clear HF a; intro a HF
      refine pl HF (p_idx Try.underlying9 rfl rfl rfl (List.getElem?_eq_getElem hlt)) rfl (ltN rfl) rfl ?_; clear HF a; intro a HF
      refine pl HF (p_conv (by rw [Try.underlying5]; rfl) Try.underlying3 rfl (byte_i64 _)) rfl (ltN rfl) rfl ?_; clear HF a; intro a HF
      refine pl HF (p_as rfl) rfl (ltN rfl) rfl ?_; clear HF a; intro a HF
      refine pe ?_
      refine tn ?_
      refine wp_seq ?_
      refine wp_seq ?_
      -- region 6
      refine wp_region_lit ?_
      refine pl HF (p_mv rfl) rfl (ltN rfl) rfl ?_; clear HF a; intro a HF
      refine g_call HF rfl rfl ent17 (ltN rfl) (r_within _ _ _ _) ?_; clear HF a; rintro _ w ⟨rfl, rfl⟩ a HF
      refine pe ?_
      refine tn ?_
      refine c_if HF rfl (fun hc16 => ?_) (fun hc16 => ?_)
      · have hc := of_decide_eq_true hc16
        -- region 7
        refine wp_region_lit ?_
        refine pl HF (p_mv rfl) rfl (ltN rfl) rfl ?_; clear HF a; intro a HF
        refine pl HF (p_add rfl rfl (IntWalk.i64_in _ (by omega))) rfl (ltN rfl) rfl ?_; clear HF a; intro a HF
        refine pl HF (p_as rfl) rfl (ltN rfl) rfl ?_; clear HF a; intro a HF
        refine pe ?_
        refine tn ?_
        -- region 8
        refine wp_region_lit ?_
        refine pl HF (p_mv rfl) rfl (ltN rfl) rfl ?_; clear HF a; intro a HF
        refine pl HF (p_mv rfl) rfl (ltN rfl) rfl ?_; clear HF a; intro a HF
        refine g_call HF rfl rfl ent24 (ltN rfl) (r_char _ (by omega) (by omega) _ HS) ?_; clear HF a; rintro _ w ⟨rfl, HS⟩ a HF
        refine pl HF (p_cat (by simp; omega) rfl rfl) rfl (ltN rfl) rfl ?_; clear HF a; intro a HF
        refine pl HF (p_as rfl) rfl (ltN rfl) rfl ?_; clear HF a; intro a HF
        refine pe ?_
        refine bn ?_
        refine tn ?_
        -- region 9
        refine wp_region_lit ?_
        refine pl HF (p_add rfl rfl (IntWalk.i64_in _ (by omega))) rfl (ltN rfl) rfl ?_; clear HF a; intro a HF
        refine pl HF (p_mv rfl) rfl (ltN rfl) rfl ?_; clear HF a; intro a HF
        refine pe ?_
        refine tn ?_
        refine ⟨l.length - (k + 1), by omega, k + 1, by omega, rfl, HS, ?_⟩
        rw [lower_snoc l k hlt]
        first | rw [lowB_hi hc] | rw [lowB_no hc]
        exact HF.cut [0, 3, 7, 8] rfl
      · have hc := of_decide_eq_false hc16
        refine wp_skip ?_
        refine tn ?_
        -- region 8
        refine wp_region_lit ?_
        refine pl HF (p_mv rfl) rfl (ltN rfl) rfl ?_; clear HF a; intro a HF
        refine pl HF (p_mv rfl) rfl (ltN rfl) rfl ?_; clear HF a; intro a HF
        refine g_call HF rfl rfl ent24 (ltN rfl) (r_char _ (by omega) (by omega) _ HS) ?_; clear HF a; rintro _ w ⟨rfl, HS⟩ a HF
        refine pl HF (p_cat (by simp; omega) rfl rfl) rfl (ltN rfl) rfl ?_; clear HF a; intro a HF
        refine pl HF (p_as rfl) rfl (ltN rfl) rfl ?_; clear HF a; intro a HF
        refine pe ?_
        refine bn ?_
        refine tn ?_
        -- region 9
        refine wp_region_lit ?_
        refine pl HF (p_add rfl rfl (IntWalk.i64_in _ (by omega))) rfl (ltN rfl) rfl ?_; clear HF a; intro a HF
        refine pl HF (p_mv rfl) rfl (ltN rfl) rfl ?_; clear HF a; intro a HF
        refine pe ?_
        refine tn ?_
        refine ⟨l.length - (k + 1), by omega, k + 1, by omega, rfl, HS, ?_⟩
        rw [lower_snoc l k hlt]
        first | rw [lowB_hi hc] | rw [lowB_no hc]
        exact HF.cut [0, 3, 7, 8] rfl
    · obtain rfl : k = l.length := by have := of_decide_eq_false hc9; omega
      refine wp_exit ?_
      refine tx ?_
      refine tx ?_
      refine bh ?_
      refine tn ?_
      refine wp_seq ?_
      -- region 10
      refine wp_region_lit ?_
      refine pl HF (p_mv rfl) rfl (ltN rfl) rfl ?_; clear HF a; intro a HF
      refine pl HF (p_as rfl) rfl (ltN rfl) rfl ?_; clear HF a; intro a HF
      refine pe ?_
      refine tn ?_
      refine wp_ret ?_
      refine ret1 HF rfl (rv_t rfl) ?_
      exact ⟨by rw [List.take_length], HS⟩

end Gp
