/- The reference's Decode: its three closures. Printed by skel.py out of plan/P7.py. -/
import Derived.Test.YtjoggnekfopghaaP6
import Derived.Test.YtjoggnekfopghaaRf
namespace Gp
open Go Go.Proofs Go.RowKit

def dUrls : List Bs := [[104, 116, 116, 112, 115, 58, 47, 47, 97, 46, 116, 101, 115, 116], [104, 116, 116, 112, 115, 58, 47, 47, 98, 46, 116, 101, 115, 116], [104, 116, 116, 112, 115, 58, 47, 47, 99, 46, 116, 101, 115, 116], [104, 116, 116, 112, 58, 47, 47, 97, 46, 116, 101, 115, 116]]
theorem r_OP {w0 : World} {F : Nat → Prop} {G : Gh} {H : List Asrt} (hG0 : HasMax G) (j : Nat) (hj : j < 4) (w : World) (HS : St w0 F G w H) : Does Try.prog 10 [S (dUrls.getD j [])] w fun v w' => v = .tuple #[.agg (oC (dOrigin j)).toArray, I 0] ∧ St w0 F G w' H := by
  have h : j = 0 ∨ j = 1 ∨ j = 2 ∨ j = 3 := by omega
  rcases h with rfl | rfl | rfl | rfl
  · exact r_OriginParse_t hG0 _ aTest 5 (by decide) (by decide) (by decide) (by decide) (by decide) (by decide) (by decide) (by decide) w HS
  · exact r_OriginParse_t hG0 _ bTest 5 (by decide) (by decide) (by decide) (by decide) (by decide) (by decide) (by decide) (by decide) w HS
  · exact r_OriginParse_t hG0 _ cTest 5 (by decide) (by decide) (by decide) (by decide) (by decide) (by decide) (by decide) (by decide) w HS
  · exact r_OriginParse_f hG0 _ aTest 4 (by decide) (by decide) (by decide) (by decide) (by decide) (by decide) (by decide) (by decide) w HS

theorem r_next {w0 : World} {F : Nat → Prop} {G : Gh} {H : List Asrt} (bb : Nat) (s : Bs) (n : Nat) (h0 : 0 < n) (h1 : n ≤ 1000) (w : World) (HS : St w0 F G w (bcur 42 bb s :: H)) : Does Try.prog 7 [I n, Pt bb 0] w fun v w' => v = I (pk n s : Nat) ∧ St w0 F G w' (bcur 42 bb (s.drop 1) :: H) := by
  obtain ⟨bv, hbv, HS⟩ := HS.bc_
  have hbv2 := hbv
  obtain ⟨A, cc, rfl, hcc, hcl, hrc⟩ := hbv2
  refine enter Try.func7 rfl (N := 17) rfl rfl fun a HF => ?_
  refine wp_seq ?_
  -- region 0
  refine wp_region_lit ?_
  refine pl HF (p_as rfl) rfl (ltN rfl) rfl ?_; clear HF a; intro a HF
  refine pe ?_
  refine tn ?_
  refine wp_seq ?_
  refine wp_seq ?_
  -- region 1
  refine wp_region_lit ?_
  refine pl HF (p_lb HS ak42 rfl (by repeat first | exact .here | apply Pick.there) rfl) rfl (ltN rfl) rfl ?_; clear HF a; intro a HF
  refine pl HF (p_lensl Try.underlying42 rfl) rfl (ltN rfl) rfl ?_; clear HF a; intro a HF
  refine pl HF (p_ieq rfl rfl) rfl (ltN rfl) rfl ?_; clear HF a; intro a HF
  refine pe ?_
  refine tn ?_
  refine c_if HF rfl (fun hc7 => ?_) (fun hc7 => ?_)
  · obtain rfl : s = [] := by simpa using hc7
    refine wp_seq ?_
    -- region 2
    refine wp_region_lit ?_
    refine pl HF (p_as rfl) rfl (ltN rfl) rfl ?_; clear HF a; intro a HF
    refine pe ?_
    refine tn ?_
    refine wp_ret ?_
    refine tr ?_
    refine ret1 HF rfl (rv_t rfl) ?_
    first
      | exact ⟨rfl, HS.bc (by simpa using hbv)⟩
      | exact ⟨by simp [pk], HS.bc (by simpa using hbv.tail (i := 1) (by simp))⟩
  · obtain ⟨c, r, rfl⟩ : ∃ c r, s = c :: r := by cases s with | nil => simp at hc7 | cons c r => exact ⟨c, r, rfl⟩
    have hb := c.toNat_lt
    obtain ⟨b, o, cs, t, z, rfl, hgb, hcs⟩ := hrc (by simp)
    have hcell := HS.gcell hgb (hcs 0 (U c) rfl)
    refine wp_skip ?_
    refine tn ?_
    refine wp_seq ?_
    -- region 3
    refine wp_region_lit ?_
    refine pl HF (p_lb HS ak42 rfl (by repeat first | exact .here | apply Pick.there) rfl) rfl (ltN rfl) rfl ?_; clear HF a; intro a HF
    refine pl HF (p_ixa (j := 0) sl42 rfl rfl rfl (by simp)) rfl (ltN rfl) rfl ?_; clear HF a; intro a HF
    refine pl HF (p_ld ak5 rfl hcell) rfl (ltN rfl) rfl ?_; clear HF a; intro a HF
    refine pl HF (p_conv (by rw [Try.underlying5]; rfl) Try.underlying3 rfl (byte_i64 _)) rfl (ltN rfl) rfl ?_; clear HF a; intro a HF
    refine pl HF (p_mv rfl) rfl (ltN rfl) rfl ?_; clear HF a; intro a HF
    refine pl HF (p_rem rfl rfl (by omega) (IntWalk.rem_in _ _ (by omega))) rfl (ltN rfl) rfl ?_; clear HF a; intro a HF
    refine pl HF (p_as rfl) rfl (ltN rfl) rfl ?_; clear HF a; intro a HF
    refine pe ?_
    refine tn ?_
    refine wp_seq ?_
    -- region 4
    refine wp_region_lit ?_
    refine pl HF (p_lb HS ak42 rfl (by repeat first | exact .here | apply Pick.there) rfl) rfl (ltN rfl) rfl ?_; clear HF a; intro a HF
    refine pl HF (p_slf (i := 1) sl42 rfl rfl rfl (by simp)) rfl (ltN rfl) rfl ?_; clear HF a; intro a HF
    refine g_st (cs' := [_]) HF HS sz42 rfl rfl rfl rfl rfl (by repeat first | exact .here | apply Upd.there) rfl rfl ?_; clear HS; intro w HS
    refine pe ?_
    refine tn ?_
    refine wp_seq ?_
    -- region 5
    refine wp_region_lit ?_
    refine pl HF (p_mv rfl) rfl (ltN rfl) rfl ?_; clear HF a; intro a HF
    refine pl HF (p_as rfl) rfl (ltN rfl) rfl ?_; clear HF a; intro a HF
    refine pe ?_
    refine tn ?_
    refine wp_ret ?_
    refine ret1 HF rfl (rv_t rfl) ?_
    first
      | exact ⟨rfl, HS.bc (by simpa using hbv)⟩
      | exact ⟨by simp [pk], HS.bc (by simpa using hbv.tail (i := 1) (by simp))⟩

theorem r_text {w0 : World} {F : Nat → Prop} {G : Gh} {H : List Asrt} (bb nb lb : Nat) (s : Bs) (l : List Bs) (h0 : 0 < l.length) (h1 : l.length ≤ 1000) (w : World) (HS : St w0 F G w (bcur 42 bb s :: blk nb [(.func (.func 7) #[] #[Pt bb 0])] 43 :: blk lb (l.map S) 9 :: H)) : Does Try.prog 8 [.slice (some ⟨lb, 0, none⟩) l.length l.length, Pt nb 0] w fun v w' => v = S (l.getD (pk l.length s) []) ∧ St w0 F G w' (bcur 42 bb (s.drop 1) :: blk nb [(.func (.func 7) #[] #[Pt bb 0])] 43 :: H) := by
  have hp := pk_lt h0 s
  refine enter Try.func8 rfl (N := 11) rfl rfl fun a HF => ?_
  refine wp_seq ?_
  -- region 0
  refine wp_region_lit ?_
  refine pl HF (p_as rfl) rfl (ltN rfl) rfl ?_; clear HF a; intro a HF
  refine pe ?_
  refine tn ?_
  refine wp_seq ?_
  -- region 1
  refine wp_region_lit ?_
  refine pl HF (p_mv rfl) rfl (ltN rfl) rfl ?_; clear HF a; intro a HF
  refine pl HF (p_lb HS ak43 rfl (by repeat first | exact .here | apply Pick.there) rfl) rfl (ltN rfl) rfl ?_; clear HF a; intro a HF
  refine pl HF (p_mv rfl) rfl (ltN rfl) rfl ?_; clear HF a; intro a HF
  refine pl HF (p_lensl Try.underlying44 rfl) rfl (ltN rfl) rfl ?_; clear HF a; intro a HF
  refine g_call HF rfl rfl ent7 (ltN rfl) (r_next bb s _ h0 h1 _ HS) ?_; clear HF a; rintro _ w ⟨rfl, HS⟩ a HF
  refine pl HF (p_ixa sl44 rfl rfl rfl hp) rfl (ltN rfl) rfl ?_; clear HF a; intro a HF
  refine pl HF (p_lb HS ak9 rfl (by repeat first | exact .here | apply Pick.there) (v := S (l.getD (pk l.length s) [])) (by simp [hp])) rfl (ltN rfl) rfl ?_; clear HF a; intro a HF
  refine pl HF (p_as rfl) rfl (ltN rfl) rfl ?_; clear HF a; intro a HF
  refine pe ?_
  refine tn ?_
  refine wp_ret ?_
  refine ret1 HF rfl (rv_t rfl) ?_
  exact ⟨rfl, HS.wk (by repeat first | exact .refl | apply Wk.cons | apply Wk.skip)⟩

theorem r_origin {w0 : World} {F : Nat → Prop} {G : Gh} {H : List Asrt} (hG0 : HasMax G) (bb nb tb : Nat) (s : Bs) (w : World) (HS : St w0 F G w (bcur 42 bb s :: blk nb [(.func (.func 7) #[] #[Pt bb 0])] 43 :: blk tb [(.func (.func 8) #[] #[Pt nb 0])] 45 :: H)) : Does Try.prog 9 [Pt tb 0] w fun v w' => v = .agg (oC (dOrigin (pk 4 s))).toArray ∧ St w0 F G w' (bcur 42 bb (s.drop 1) :: blk nb [(.func (.func 7) #[] #[Pt bb 0])] 43 :: blk tb [(.func (.func 8) #[] #[Pt nb 0])] 45 :: H) := by
  have hp := pk_lt (n := 4) (by decide) s
  refine enter Try.func9 rfl (N := 12) rfl rfl fun a HF => ?_
  refine wp_seq ?_
  -- region 0
  refine wp_region_lit ?_
  refine g_alloc HF HS zc27 (ltN rfl) ?_; clear HF HS a; intro a w b1 HF HS
  refine pe ?_
  refine tn ?_
  refine wp_seq ?_
  -- region 1
  refine wp_region_lit ?_
  refine pl HF (p_lb HS ak45 rfl (by repeat first | exact .here | apply Pick.there) rfl) rfl (ltN rfl) rfl ?_; clear HF a; intro a HF
  refine g_bsl (cs := (dUrls).map S) HF HS sl44 zc9 rfl rfl rfl rfl (by kernel_rfl) (ltN rfl) ?_; clear HF HS a; intro a w b6 HF HS
  refine g_call HF rfl rfl ent8 (ltN rfl) (r_text bb nb b6 s dUrls (by decide) (by decide) _ (((HS.pick (A := blk b6 _ _) (by repeat first | exact .here | apply Pick.there)).pick (A := blk nb _ _) (by repeat first | exact .here | apply Pick.there)).pick (A := bcur _ bb _) (by repeat first | exact .here | apply Pick.there))) ?_; clear HF a; rintro _ w ⟨rfl, HS⟩ a HF
  refine g_call HF rfl rfl ent10 (ltN rfl) (r_OP hG0 _ hp _ HS) ?_; clear HF a; rintro _ w ⟨rfl, HS⟩ a HF
  refine pl HF (p_mv rfl) rfl (ltN rfl) rfl ?_; clear HF a; intro a HF
  refine pl HF (p_ext rfl rfl) rfl (ltN rfl) rfl ?_; clear HF a; intro a HF
  refine pl HF (p_ext rfl rfl) rfl (ltN rfl) rfl ?_; clear HF a; intro a HF
  refine g_alloc HF HS zc27 (ltN rfl) ?_; clear HF HS a; intro a w b2 HF HS
  refine g_st (cs' := [_, _, _]) HF HS sz27 rfl rfl rfl rfl rfl (by repeat first | exact .here | apply Upd.there) rfl rfl ?_; clear HS; intro w HS
  refine pl HF (p_as rfl) rfl (ltN rfl) rfl ?_; clear HF a; intro a HF
  refine pe ?_
  refine tn ?_
  refine wp_seq ?_
  -- region 2
  refine wp_region_lit ?_
  refine pl HF (p_lbA (vs := [_, _, _]) HS ak27 sz27 rfl (by repeat first | exact .here | apply Pick.there) rfl rfl) rfl (ltN rfl) rfl ?_; clear HF a; intro a HF
  refine g_st (cs' := [_, _, _]) HF HS sz27 rfl rfl rfl rfl rfl (by repeat first | exact .here | apply Upd.there) rfl rfl ?_; clear HS; intro w HS
  refine pe ?_
  refine tn ?_
  refine wp_ret ?_
  refine ret1 HF rfl (rv_of (p_lbA (vs := [_, _, _]) HS ak27 sz27 rfl (by repeat first | exact .here | apply Pick.there) rfl rfl) ⟨_, _, rfl⟩) ?_
  exact ⟨rfl, HS.wk (by repeat first | exact .refl | apply Wk.cons | apply Wk.skip)⟩

end Gp
