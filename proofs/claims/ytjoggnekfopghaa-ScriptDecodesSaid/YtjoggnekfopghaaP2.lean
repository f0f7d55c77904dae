/- The program's decoder of scripts. Printed by skel.py out of plan/P2.py. -/
import Derived.Test.YtjoggnekfopghaaTab
import Derived.Test.YtjoggnekfopghaaBas
import Derived.Test.YtjoggnekfopghaaRd
namespace Gp
open Go Go.Proofs Go.RowKit

theorem S_drop (s : Bs) (i : Nat) : (s.drop i).tail = s.drop (i + 1) := by simp

theorem c_pick {w0 : World} {F : Nat → Prop} {G : Gh} {H : List Asrt} (rb : Nat) (s : Bs) (n : Nat) (h0 : 0 < n) (h1 : n ≤ 1000) (w : World) (HS : St w0 F G w (blk rb [S s] 55 :: H)) : Does Try.prog 19 [Pt rb 0, I n] w fun v w' => v = I (pk n s : Nat) ∧ St w0 F G w' (blk rb [S (s.drop 1)] 55 :: H) := by
  refine enter Try.func19 rfl (N := 28) rfl rfl fun a HF => ?_
  refine wp_seq ?_
  -- region 0
  refine wp_region_lit ?_
  refine pl HF (p_as rfl) rfl (ltN rfl) rfl ?_; clear HF a; intro a HF
  refine pe ?_
  refine tn ?_
  refine wp_seq ?_
  refine wp_seq ?_
  -- region 1
  refine wp_region_lit ?_
  refine pl HF (p_mv rfl) rfl (ltN rfl) rfl ?_; clear HF a; intro a HF
  refine pl HF (p_nil rfl) rfl (ltN rfl) rfl ?_; clear HF a; intro a HF
  refine pl HF (p_fld fo55_0 rfl) rfl (ltN rfl) rfl ?_; clear HF a; intro a HF
  refine pl HF (p_lb HS ak9 rfl (by repeat first | exact .here | apply Pick.there) rfl) rfl (ltN rfl) rfl ?_; clear HF a; intro a HF
  refine pl HF (p_seq rfl rfl) rfl (ltN rfl) rfl ?_; clear HF a; intro a HF
  refine pe ?_
  refine tn ?_
  refine c_if HF rfl (fun hc10 => ?_) (fun hc10 => ?_)
  · obtain rfl : s = [] := by simpa using hc10
    refine wp_seq ?_
    -- region 2
    refine wp_region_lit ?_
    refine pl HF (p_as rfl) rfl (ltN rfl) rfl ?_; clear HF a; intro a HF
    refine pe ?_
    refine tn ?_
    refine wp_ret ?_
    refine tr ?_
    refine ret1 HF rfl (rv_t rfl) ?_
    exact ⟨by simp [pk], HS⟩
  · obtain ⟨c, r, rfl⟩ : ∃ c r, s = c :: r := by cases s with | nil => simp at hc10 | cons c r => exact ⟨c, r, rfl⟩
    have hb := c.toNat_lt
    refine wp_skip ?_
    refine tn ?_
    refine wp_seq ?_
    -- region 3
    refine wp_region_lit ?_
    refine pl HF (p_mv rfl) rfl (ltN rfl) rfl ?_; clear HF a; intro a HF
    refine pl HF (p_nil rfl) rfl (ltN rfl) rfl ?_; clear HF a; intro a HF
    refine pl HF (p_fld fo55_0 rfl) rfl (ltN rfl) rfl ?_; clear HF a; intro a HF
    refine pl HF (p_lb HS ak9 rfl (by repeat first | exact .here | apply Pick.there) rfl) rfl (ltN rfl) rfl ?_; clear HF a; intro a HF
    refine pl HF (p_idx Try.underlying9 rfl rfl (i := 0) rfl rfl) rfl (ltN rfl) rfl ?_; clear HF a; intro a HF
    refine pl HF (p_conv (by rw [Try.underlying5]; rfl) Try.underlying3 rfl (byte_i64 _)) rfl (ltN rfl) rfl ?_; clear HF a; intro a HF
    refine pl HF (p_as rfl) rfl (ltN rfl) rfl ?_; clear HF a; intro a HF
    refine pe ?_
    refine tn ?_
    refine wp_seq ?_
    -- region 4
    refine wp_region_lit ?_
    refine pl HF (p_mv rfl) rfl (ltN rfl) rfl ?_; clear HF a; intro a HF
    refine pl HF (p_mv rfl) rfl (ltN rfl) rfl ?_; clear HF a; intro a HF
    refine pl HF (p_nil rfl) rfl (ltN rfl) rfl ?_; clear HF a; intro a HF
    refine pl HF (p_fld fo55_0 rfl) rfl (ltN rfl) rfl ?_; clear HF a; intro a HF
    refine pl HF (p_lb HS ak9 rfl (by repeat first | exact .here | apply Pick.there) rfl) rfl (ltN rfl) rfl ?_; clear HF a; intro a HF
    refine pl HF (p_sfrom Try.underlying9 rfl rfl (i := 1) rfl (by simp)) rfl (ltN rfl) rfl ?_; clear HF a; intro a HF
    refine pl HF (p_nil rfl) rfl (ltN rfl) rfl ?_; clear HF a; intro a HF
    refine pl HF (p_fld fo55_0 rfl) rfl (ltN rfl) rfl ?_; clear HF a; intro a HF
    refine g_st (cs' := [_]) HF HS sz9 rfl rfl rfl rfl rfl (by repeat first | exact .here | apply Upd.there) rfl rfl ?_; clear HS; intro w HS
    refine pe ?_
    refine tn ?_
    refine wp_seq ?_
    -- region 5
    refine wp_region_lit ?_
    refine pl HF (p_mv rfl) rfl (ltN rfl) rfl ?_; clear HF a; intro a HF
    refine pl HF (p_mv rfl) rfl (ltN rfl) rfl ?_; clear HF a; intro a HF
    refine pl HF (p_rem rfl rfl (by omega) (IntWalk.rem_in _ _ (by omega))) rfl (ltN rfl) rfl ?_; clear HF a; intro a HF
    refine pl HF (p_as rfl) rfl (ltN rfl) rfl ?_; clear HF a; intro a HF
    refine pe ?_
    refine tn ?_
    refine wp_ret ?_
    refine ret1 HF rfl (rv_t rfl) ?_
    exact ⟨by simp [pk], HS⟩

theorem c_text {w0 : World} {F : Nat → Prop} {G : Gh} {H : List Asrt} (rb lb : Nat) (s : Bs) (l : List Bs) (h0 : 0 < l.length) (h1 : l.length ≤ 1000) (w : World) (HS : St w0 F G w (blk rb [S s] 55 :: blk lb (l.map S) 9 :: H)) : Does Try.prog 21 [Pt rb 0, .slice (some ⟨lb, 0, none⟩) l.length l.length] w fun v w' => v = S (l.getD (pk l.length s) []) ∧ St w0 F G w' (blk rb [S (s.drop 1)] 55 :: H) := by
  have hp := pk_lt h0 s
  refine enter Try.func21 rfl (N := 12) rfl rfl fun a HF => ?_
  refine wp_seq ?_
  -- region 0
  refine wp_region_lit ?_
  refine pl HF (p_as rfl) rfl (ltN rfl) rfl ?_; clear HF a; intro a HF
  refine pe ?_
  refine tn ?_
  refine wp_seq ?_
  -- region 1
  refine wp_region_lit ?_
  refine pl HF (p_mv rfl) rfl (ltN rfl) rfl ?_; clear HF a; intro a HF
  refine pl HF (p_mv rfl) rfl (ltN rfl) rfl ?_; clear HF a; intro a HF
  refine pl HF (p_mv rfl) rfl (ltN rfl) rfl ?_; clear HF a; intro a HF
  refine pl HF (p_lensl Try.underlying44 rfl) rfl (ltN rfl) rfl ?_; clear HF a; intro a HF
  refine g_call HF rfl rfl ent19 (ltN rfl) (c_pick _ _ _ h0 h1 _ HS) ?_; clear HF a; rintro _ w ⟨rfl, HS⟩ a HF
  refine pl HF (p_ixa sl44 rfl rfl rfl hp) rfl (ltN rfl) rfl ?_; clear HF a; intro a HF
  refine pl HF (p_lb HS ak9 rfl (by repeat first | exact .here | apply Pick.there) (v := S (l.getD (pk l.length s) [])) (by simp [hp])) rfl (ltN rfl) rfl ?_; clear HF a; intro a HF
  refine pl HF (p_as rfl) rfl (ltN rfl) rfl ?_; clear HF a; intro a HF
  refine pe ?_
  refine tn ?_
  refine wp_ret ?_
  refine ret1 HF rfl (rv_t rfl) ?_
  exact ⟨rfl, (HS.pick (by repeat first | exact .here | apply Pick.there) : St _ _ _ _ (blk lb _ _ :: _)).drop⟩

theorem c_origin {w0 : World} {F : Nat → Prop} {G : Gh} {H : List Asrt} (rb : Nat) (s : Bs) (w : World) (HS : St w0 F G w (blk rb [S s] 55 :: H)) : Does Try.prog 20 [Pt rb 0] w fun v w' => v = .agg (oC (dOrigin (pk 4 s))).toArray ∧ St w0 F G w' (blk rb [S (s.drop 1)] 55 :: H) := by
  have hp := pk_lt (n := 4) (by decide) s
  refine enter Try.func20 rfl (N := 18) rfl rfl fun a HF => ?_
  refine wp_seq ?_
  -- region 0
  refine wp_region_lit ?_
  refine g_alloc HF HS zc27 (ltN rfl) ?_; clear HF HS a; intro a w b2 HF HS
  refine pe ?_
  refine tn ?_
  refine wp_seq ?_
  -- region 1
  refine wp_region_lit ?_
  refine pl HF (p_mv rfl) rfl (ltN rfl) rfl ?_; clear HF a; intro a HF
  refine g_call HF rfl rfl ent19 (ltN rfl) (c_pick _ _ 4 (by decide) (by decide) _ (HS.pick (by repeat first | exact .here | apply Pick.there))) ?_; clear HF a; rintro _ w ⟨rfl, HS⟩ a HF
  refine pl HF (p_as rfl) rfl (ltN rfl) rfl ?_; clear HF a; intro a HF
  refine pe ?_
  refine tn ?_
  refine wp_seq ?_
  -- region 2
  have hv : ([S aTest, S bTest, S cTest, S aTest] : List Value)[pk 4 s]? = some (S (dHosts.getD (pk 4 s) [])) := by
    have : pk 4 s = 0 ∨ pk 4 s = 1 ∨ pk 4 s = 2 ∨ pk 4 s = 3 := by omega
    rcases this with h | h | h | h <;> rw [h] <;> rfl
  refine wp_region_lit ?_
  refine pl HF (p_mv rfl) rfl (ltN rfl) rfl ?_; clear HF a; intro a HF
  refine pl HF (p_lss rfl rfl) rfl (ltN rfl) rfl ?_; clear HF a; intro a HF
  refine pl HF (p_bd (cs := [_, _, _, _]) pc68 zc68 rfl rfl) rfl (ltN rfl) rfl ?_; clear HF a; intro a HF
  refine pl HF (p_mv rfl) rfl (ltN rfl) rfl ?_; clear HF a; intro a HF
  refine pl HF (p_ixv Try.underlying68 ak9 sz9 rfl rfl rfl hp hv) rfl (ltN rfl) rfl ?_; clear HF a; intro a HF
  refine pl HF (p_bd (cs := [_, _, _]) pc27 zc27 rfl rfl) rfl (ltN rfl) rfl ?_; clear HF a; intro a HF
  refine g_alloc HF HS zc27 (ltN rfl) ?_; clear HF HS a; intro a w b4 HF HS
  refine g_st (cs' := [_, _, _]) HF HS sz27 rfl rfl rfl rfl rfl (by repeat first | exact .here | apply Upd.there) rfl rfl ?_; clear HS; intro w HS
  refine pe ?_
  refine tn ?_
  refine wp_seq ?_
  refine wp_seq ?_
  -- region 3
  refine wp_region_lit ?_
  refine pl HF (p_fld fo27_0 rfl) rfl (ltN rfl) rfl ?_; clear HF a; intro a HF
  refine pl HF (p_lb HS ak4 rfl (by repeat first | exact .here | apply Pick.there) rfl) rfl (ltN rfl) rfl ?_; clear HF a; intro a HF
  refine pl HF (p_not rfl) rfl (ltN rfl) rfl ?_; clear HF a; intro a HF
  refine pe ?_
  refine tn ?_
  refine c_if HF rfl (fun hc15 => ?_) (fun hc15 => ?_)
  · have h3 : ¬ pk 4 s < 3 := by simp at hc15; omega
    -- region 4
    refine wp_region_lit ?_
    refine pl HF (p_fld fo27_2 rfl) rfl (ltN rfl) rfl ?_; clear HF a; intro a HF
    refine g_st (cs' := [_, _, _]) HF HS sz3 rfl rfl rfl rfl rfl (by repeat first | exact .here | apply Upd.there) rfl rfl ?_; clear HS; intro w HS
    refine pe ?_
    refine tn ?_
    refine wp_seq ?_
    -- region 5
    refine wp_region_lit ?_
    refine pl HF (p_lbA (vs := [_, _, _]) HS ak27 sz27 rfl (by repeat first | exact .here | apply Pick.there) rfl rfl) rfl (ltN rfl) rfl ?_; clear HF a; intro a HF
    refine g_st (cs' := [_, _, _]) HF HS sz27 rfl rfl rfl rfl rfl (by repeat first | exact .here | apply Upd.there) rfl rfl ?_; clear HS; intro w HS
    refine pe ?_
    refine tn ?_
    refine wp_ret ?_
    refine ret1 HF rfl (rv_of (p_lbA (vs := [_, _, _]) HS ak27 sz27 rfl (by repeat first | exact .here | apply Pick.there) rfl rfl) ⟨_, _, rfl⟩) ?_
    refine ⟨?_, HS.wk (by repeat first | exact .refl | apply Wk.cons | apply Wk.skip)⟩
    first
      | (have hd : decide ((pk 4 s : Int) < 3) = false := by simp; omega
         change Value.agg [Value.bool (decide ((pk 4 s : Int) < 3)), S (dHosts.getD (pk 4 s) []), I 80].toArray = _
         rw [hd]; simp [dOrigin, h3])
      | (have hd : decide ((pk 4 s : Int) < 3) = true := by simp; omega
         change Value.agg [Value.bool (decide ((pk 4 s : Int) < 3)), S (dHosts.getD (pk 4 s) []), I 443].toArray = _
         rw [hd]; simp [dOrigin, h3])
  · have h3 : pk 4 s < 3 := by simp at hc15; omega
    refine wp_skip ?_
    refine tn ?_
    refine wp_seq ?_
    -- region 5
    refine wp_region_lit ?_
    refine pl HF (p_lbA (vs := [_, _, _]) HS ak27 sz27 rfl (by repeat first | exact .here | apply Pick.there) rfl rfl) rfl (ltN rfl) rfl ?_; clear HF a; intro a HF
    refine g_st (cs' := [_, _, _]) HF HS sz27 rfl rfl rfl rfl rfl (by repeat first | exact .here | apply Upd.there) rfl rfl ?_; clear HS; intro w HS
    refine pe ?_
    refine tn ?_
    refine wp_ret ?_
    refine ret1 HF rfl (rv_of (p_lbA (vs := [_, _, _]) HS ak27 sz27 rfl (by repeat first | exact .here | apply Pick.there) rfl rfl) ⟨_, _, rfl⟩) ?_
    refine ⟨?_, HS.wk (by repeat first | exact .refl | apply Wk.cons | apply Wk.skip)⟩
    first
      | (have hd : decide ((pk 4 s : Int) < 3) = false := by simp; omega
         change Value.agg [Value.bool (decide ((pk 4 s : Int) < 3)), S (dHosts.getD (pk 4 s) []), I 80].toArray = _
         rw [hd]; simp [dOrigin, h3])
      | (have hd : decide ((pk 4 s : Int) < 3) = true := by simp; omega
         change Value.agg [Value.bool (decide ((pk 4 s : Int) < 3)), S (dHosts.getD (pk 4 s) []), I 443].toArray = _
         rw [hd]; simp [dOrigin, h3])

set_option maxRecDepth 100000 in
set_option maxHeartbeats 4000000 in
theorem c_op {w0 : World} {F : Nat → Prop} {G : Gh} {H : List Asrt} (rb : Nat) (s : Bs) (w : World) (HS : St w0 F G w (blk rb [S s] 55 :: H)) : Does Try.prog 11 [Pt rb 0] w fun v w' => ∃ hv G', v = .agg (opC (dOp s) hv).toArray ∧ G.le G' ∧ RP G' hv (dOp s).req.heads ∧ St w0 F G' w' (blk rb [S (s.drop 16)] 55 :: H) := by
  refine enter Try.func11 rfl (N := 90) rfl rfl fun a HF => ?_
  refine wp_seq ?_
  -- region 0
  refine wp_region_lit ?_
  refine g_alloc HF HS zc36 (ltN rfl) ?_; clear HF HS a; intro a w b2 HF HS
  refine pe ?_
  refine tn ?_
  refine wp_seq ?_
  -- region 1
  refine wp_region_lit ?_
  refine g_alloc HF HS zc36 (ltN rfl) ?_; clear HF HS a; intro a w b3 HF HS
  refine pe ?_
  refine tn ?_
  refine wp_seq ?_
  -- region 2
  have hp10 := pk_lt (n := 10) (by decide) s
  have hp6 := pk_lt (n := 4) (by decide) (s.drop 6)
  have hd6 : List.drop 1 (List.drop 1 (List.drop 1 (List.drop 1 (List.drop 1 (List.drop 1 s))))) = s.drop 6 := by simp
  refine wp_region_lit ?_
  refine pl HF (p_mv rfl) rfl (ltN rfl) rfl ?_; clear HF a; intro a HF
  refine g_call HF rfl rfl ent19 (ltN rfl) (c_pick _ _ 10 (by decide) (by decide) _ (HS.pick (by repeat first | exact .here | apply Pick.there))) ?_; clear HF a; rintro _ w ⟨rfl, HS⟩ a HF
  refine pl HF (p_add rfl rfl (IntWalk.i64_in _ (by omega))) rfl (ltN rfl) rfl ?_; clear HF a; intro a HF
  refine pl HF (p_fld fo36_0 rfl) rfl (ltN rfl) rfl ?_; clear HF a; intro a HF
  refine g_st (cs' := [_, _, _, _, _, _, _, _, _, _, _, _, _, _, _, _, _, _, _, _, _, _]) HF HS sz3 rfl rfl rfl rfl rfl (by repeat first | exact .here | apply Upd.there) rfl rfl ?_; clear HS; intro w HS
  refine pe ?_
  refine tn ?_
  refine wp_seq ?_
  -- region 3
  refine wp_region_lit ?_
  refine pl HF (p_fld fo36_1 rfl) rfl (ltN rfl) rfl ?_; clear HF a; intro a HF
  refine pl HF (p_as rfl) rfl (ltN rfl) rfl ?_; clear HF a; intro a HF
  refine pe ?_
  refine tn ?_
  refine wp_seq ?_
  -- region 4
  refine wp_region_lit ?_
  refine pl HF (p_mv rfl) rfl (ltN rfl) rfl ?_; clear HF a; intro a HF
  refine pl HF (p_mv rfl) rfl (ltN rfl) rfl ?_; clear HF a; intro a HF
  refine g_call HF rfl rfl ent19 (ltN rfl) (c_pick _ _ 2 (by decide) (by decide) _ (HS.pick (by repeat first | exact .here | apply Pick.there))) ?_; clear HF a; rintro _ w ⟨rfl, HS⟩ a HF
  refine pl HF (p_nil rfl) rfl (ltN rfl) rfl ?_; clear HF a; intro a HF
  refine pl HF (p_fld fo32_0 rfl) rfl (ltN rfl) rfl ?_; clear HF a; intro a HF
  refine g_st (cs' := [_, _, _, _, _, _, _, _, _, _, _, _, _, _, _, _, _, _, _, _, _, _]) HF HS sz3 rfl rfl rfl rfl rfl (by repeat first | exact .here | apply Upd.there) rfl rfl ?_; clear HS; intro w HS
  refine pe ?_
  refine tn ?_
  refine wp_seq ?_
  -- region 5
  refine wp_region_lit ?_
  refine pl HF (p_mv rfl) rfl (ltN rfl) rfl ?_; clear HF a; intro a HF
  refine pl HF (p_mv rfl) rfl (ltN rfl) rfl ?_; clear HF a; intro a HF
  refine g_call HF rfl rfl ent20 (ltN rfl) (c_origin _ _ _ (HS.pick (by repeat first | exact .here | apply Pick.there))) ?_; clear HF a; rintro _ w ⟨rfl, HS⟩ a HF
  refine pl HF (p_nil rfl) rfl (ltN rfl) rfl ?_; clear HF a; intro a HF
  refine pl HF (p_fld fo32_1 rfl) rfl (ltN rfl) rfl ?_; clear HF a; intro a HF
  refine g_st (cs' := [_, _, _, _, _, _, _, _, _, _, _, _, _, _, _, _, _, _, _, _, _, _]) HF HS sz27 rfl rfl rfl rfl rfl (by repeat first | exact .here | apply Upd.there) rfl rfl ?_; clear HS; intro w HS
  refine pe ?_
  refine tn ?_
  refine wp_seq ?_
  -- region 6
  refine wp_region_lit ?_
  refine pl HF (p_mv rfl) rfl (ltN rfl) rfl ?_; clear HF a; intro a HF
  refine pl HF (p_mv rfl) rfl (ltN rfl) rfl ?_; clear HF a; intro a HF
  refine g_call HF rfl rfl ent20 (ltN rfl) (c_origin _ _ _ (HS.pick (by repeat first | exact .here | apply Pick.there))) ?_; clear HF a; rintro _ w ⟨rfl, HS⟩ a HF
  refine pl HF (p_nil rfl) rfl (ltN rfl) rfl ?_; clear HF a; intro a HF
  refine pl HF (p_fld fo32_2 rfl) rfl (ltN rfl) rfl ?_; clear HF a; intro a HF
  refine pl HF (p_fld fo29_0 rfl) rfl (ltN rfl) rfl ?_; clear HF a; intro a HF
  refine g_st (cs' := [_, _, _, _, _, _, _, _, _, _, _, _, _, _, _, _, _, _, _, _, _, _]) HF HS sz27 rfl rfl rfl rfl rfl (by repeat first | exact .here | apply Upd.there) rfl rfl ?_; clear HS; intro w HS
  refine pe ?_
  refine tn ?_
  refine wp_seq ?_
  -- region 7
  refine wp_region_lit ?_
  refine pl HF (p_mv rfl) rfl (ltN rfl) rfl ?_; clear HF a; intro a HF
  refine pl HF (p_mv rfl) rfl (ltN rfl) rfl ?_; clear HF a; intro a HF
  refine g_bsl (cs := (dPaths).map S) HF HS sl44 zc9 rfl rfl rfl rfl (by kernel_rfl) (ltN rfl) ?_; clear HF HS a; intro a w b29 HF HS
  refine g_call HF rfl rfl ent21 (ltN rfl) (c_text _ _ _ dPaths (by decide) (by decide) _ (((HS.pick (by repeat first | exact (.here : Pick _ (blk b29 _ _) _) | apply Pick.there)).pick (A := blk rb _ _) (by repeat first | exact .here | apply Pick.there)))) ?_; clear HF a; rintro _ w ⟨rfl, HS⟩ a HF
  refine pl HF (p_nil rfl) rfl (ltN rfl) rfl ?_; clear HF a; intro a HF
  refine pl HF (p_fld fo32_2 rfl) rfl (ltN rfl) rfl ?_; clear HF a; intro a HF
  refine pl HF (p_fld fo29_1 rfl) rfl (ltN rfl) rfl ?_; clear HF a; intro a HF
  refine g_st (cs' := [_, _, _, _, _, _, _, _, _, _, _, _, _, _, _, _, _, _, _, _, _, _]) HF HS sz9 rfl rfl rfl rfl rfl (by repeat first | exact .here | apply Upd.there) rfl rfl ?_; clear HS; intro w HS
  refine pe ?_
  refine tn ?_
  refine wp_seq ?_
  -- region 8
  refine wp_region_lit ?_
  refine pl HF (p_mv rfl) rfl (ltN rfl) rfl ?_; clear HF a; intro a HF
  refine pl HF (p_mv rfl) rfl (ltN rfl) rfl ?_; clear HF a; intro a HF
  refine g_bsl (cs := (dMethods).map S) HF HS sl44 zc9 rfl rfl rfl rfl (by kernel_rfl) (ltN rfl) ?_; clear HF HS a; intro a w b36 HF HS
  refine g_call HF rfl rfl ent21 (ltN rfl) (c_text _ _ _ dMethods (by decide) (by decide) _ (((HS.pick (by repeat first | exact (.here : Pick _ (blk b36 _ _) _) | apply Pick.there)).pick (A := blk rb _ _) (by repeat first | exact .here | apply Pick.there)))) ?_; clear HF a; rintro _ w ⟨rfl, HS⟩ a HF
  refine pl HF (p_nil rfl) rfl (ltN rfl) rfl ?_; clear HF a; intro a HF
  refine pl HF (p_fld fo32_3 rfl) rfl (ltN rfl) rfl ?_; clear HF a; intro a HF
  refine g_st (cs' := [_, _, _, _, _, _, _, _, _, _, _, _, _, _, _, _, _, _, _, _, _, _]) HF HS sz9 rfl rfl rfl rfl rfl (by repeat first | exact .here | apply Upd.there) rfl rfl ?_; clear HS; intro w HS
  refine pe ?_
  refine tn ?_
  refine wp_seq ?_
  refine wp_seq ?_
  -- region 9
  refine wp_region_lit ?_
  refine pl HF (p_mv rfl) rfl (ltN rfl) rfl ?_; clear HF a; intro a HF
  refine g_call HF rfl rfl ent19 (ltN rfl) (c_pick _ _ 4 (by decide) (by decide) _ (HS.pick (by repeat first | exact .here | apply Pick.there))) ?_; clear HF a; rintro _ w ⟨rfl, HS⟩ a HF
  refine pl HF (p_as rfl) rfl (ltN rfl) rfl ?_; clear HF a; intro a HF
  rw [hd6] at HF
  refine pe ?_
  refine tn ?_
  refine wp_seq ?_
  -- region 10
  refine wp_region_lit ?_
  refine pl HF (p_mv rfl) rfl (ltN rfl) rfl ?_; clear HF a; intro a HF
  refine pl HF (p_gtr rfl rfl) rfl (ltN rfl) rfl ?_; clear HF a; intro a HF
  refine pe ?_
  refine tn ?_
  refine c_if HF rfl (fun hc43 => ?_) (fun hc43 => ?_)
  · have hk : 0 < pk 4 (s.drop 6) := by simp at hc43; omega
    -- region 11
    have hv : ([S (dHeads.getD 0 []), S (dHeads.getD 1 []), S (dHeads.getD 2 [])] : List Value)[pk 4 (s.drop 6) - 1]? = some (S (dHeads.getD (pk 4 (s.drop 6) - 1) [])) := by
      have : pk 4 (s.drop 6) = 1 ∨ pk 4 (s.drop 6) = 2 ∨ pk 4 (s.drop 6) = 3 := by omega
      rcases this with h | h | h <;> rw [h] <;> rfl
    refine wp_region_lit ?_
    refine pl HF (p_mv rfl) rfl (ltN rfl) rfl ?_; clear HF a; intro a HF
    refine pl HF (p_bd (cs := [_, _, _]) pc64 zc64 rfl rfl) rfl (ltN rfl) rfl ?_; clear HF a; intro a HF
    refine pl HF (p_mv rfl) rfl (ltN rfl) rfl ?_; clear HF a; intro a HF
    refine pl HF (p_sub rfl rfl (IntWalk.i64_in _ (by omega))) rfl (ltN rfl) rfl ?_; clear HF a; intro a HF
    refine pl HF (p_ixv Try.underlying64 ak9 sz9 rfl rfl (i := pk 4 (s.drop 6) - 1) (by omega) (by omega) hv) rfl (ltN rfl) rfl ?_; clear HF a; intro a HF
    refine pl HF (p_bd (cs := [_, _]) pc52 zc52 rfl rfl) rfl (ltN rfl) rfl ?_; clear HF a; intro a HF
    refine g_bsl (cs := [_, _]) HF HS sl30 zc52 rfl rfl rfl rfl rfl (ltN rfl) ?_; clear HF HS a; intro a w b50 HF HS
    refine pl HF (p_nil rfl) rfl (ltN rfl) rfl ?_; clear HF a; intro a HF
    refine pl HF (p_fld fo32_4 rfl) rfl (ltN rfl) rfl ?_; clear HF a; intro a HF
    refine g_st (cs' := [_, _, _, _, _, _, _, _, _, _, _, _, _, _, _, _, _, _, _, _, _, _]) HF HS sz30 rfl rfl rfl rfl rfl (by repeat first | exact .here | apply Upd.there) rfl rfl ?_; clear HS; intro w HS
    refine pe ?_
    obtain ⟨G1, hG1, hb50, HS⟩ := (HS.pick (A := blk b50 _ _) (by repeat first | exact .here | apply Pick.there)).freeze
    refine tn ?_
    refine wp_seq ?_
    -- region 12
    refine wp_region_lit ?_
    refine pl HF (p_mv rfl) rfl (ltN rfl) rfl ?_; clear HF a; intro a HF
    refine pl HF (p_mv rfl) rfl (ltN rfl) rfl ?_; clear HF a; intro a HF
    refine g_call HF rfl rfl ent19 (ltN rfl) (c_pick _ _ 2 (by decide) (by decide) _ (HS.pick (by repeat first | exact .here | apply Pick.there))) ?_; clear HF a; rintro _ w ⟨rfl, HS⟩ a HF
    refine pl HF (p_ieq rfl rfl) rfl (ltN rfl) rfl ?_; clear HF a; intro a HF
    refine pl HF (p_nil rfl) rfl (ltN rfl) rfl ?_; clear HF a; intro a HF
    refine pl HF (p_fld fo32_5 rfl) rfl (ltN rfl) rfl ?_; clear HF a; intro a HF
    refine g_st (cs' := [_, _, _, _, _, _, _, _, _, _, _, _, _, _, _, _, _, _, _, _, _, _]) HF HS sz4 rfl rfl rfl rfl rfl (by repeat first | exact .here | apply Upd.there) rfl rfl ?_; clear HS; intro w HS
    refine pe ?_
    refine tn ?_
    refine wp_seq ?_
    -- region 13
    refine wp_region_lit ?_
    refine pl HF (p_mv rfl) rfl (ltN rfl) rfl ?_; clear HF a; intro a HF
    refine g_call HF rfl rfl ent19 (ltN rfl) (c_pick _ _ 4 (by decide) (by decide) _ (HS.pick (by repeat first | exact .here | apply Pick.there))) ?_; clear HF a; rintro _ w ⟨rfl, HS⟩ a HF
    refine pl HF (p_ieq rfl rfl) rfl (ltN rfl) rfl ?_; clear HF a; intro a HF
    refine pl HF (p_fld fo36_2 rfl) rfl (ltN rfl) rfl ?_; clear HF a; intro a HF
    refine g_st (cs' := [_, _, _, _, _, _, _, _, _, _, _, _, _, _, _, _, _, _, _, _, _, _]) HF HS sz4 rfl rfl rfl rfl rfl (by repeat first | exact .here | apply Upd.there) rfl rfl ?_; clear HS; intro w HS
    refine pe ?_
    refine tn ?_
    refine wp_seq ?_
    -- region 14
    refine wp_region_lit ?_
    refine pl HF (p_mv rfl) rfl (ltN rfl) rfl ?_; clear HF a; intro a HF
    refine g_bsl (cs := (dTexts).map S) HF HS sl44 zc9 rfl rfl rfl rfl (by kernel_rfl) (ltN rfl) ?_; clear HF HS a; intro a w b64 HF HS
    refine g_call HF rfl rfl ent21 (ltN rfl) (c_text _ _ _ dTexts (by decide) (by decide) _ (((HS.pick (by repeat first | exact (.here : Pick _ (blk b64 _ _) _) | apply Pick.there)).pick (A := blk rb _ _) (by repeat first | exact .here | apply Pick.there)))) ?_; clear HF a; rintro _ w ⟨rfl, HS⟩ a HF
    refine pl HF (p_fld fo36_3 rfl) rfl (ltN rfl) rfl ?_; clear HF a; intro a HF
    refine g_st (cs' := [_, _, _, _, _, _, _, _, _, _, _, _, _, _, _, _, _, _, _, _, _, _]) HF HS sz9 rfl rfl rfl rfl rfl (by repeat first | exact .here | apply Upd.there) rfl rfl ?_; clear HS; intro w HS
    refine pe ?_
    refine tn ?_
    refine wp_seq ?_
    -- region 15
    refine wp_region_lit ?_
    refine pl HF (p_mv rfl) rfl (ltN rfl) rfl ?_; clear HF a; intro a HF
    refine g_bsl (cs := (dUsers).map S) HF HS sl44 zc9 rfl rfl rfl rfl (by kernel_rfl) (ltN rfl) ?_; clear HF HS a; intro a w b68 HF HS
    refine g_call HF rfl rfl ent21 (ltN rfl) (c_text _ _ _ dUsers (by decide) (by decide) _ (((HS.pick (by repeat first | exact (.here : Pick _ (blk b68 _ _) _) | apply Pick.there)).pick (A := blk rb _ _) (by repeat first | exact .here | apply Pick.there)))) ?_; clear HF a; rintro _ w ⟨rfl, HS⟩ a HF
    refine pl HF (p_mv rfl) rfl (ltN rfl) rfl ?_; clear HF a; intro a HF
    refine g_bsl (cs := (dPasses).map S) HF HS sl44 zc9 rfl rfl rfl rfl (by kernel_rfl) (ltN rfl) ?_; clear HF HS a; intro a w b71 HF HS
    refine g_call HF rfl rfl ent21 (ltN rfl) (c_text _ _ _ dPasses (by decide) (by decide) _ (((HS.pick (by repeat first | exact (.here : Pick _ (blk b71 _ _) _) | apply Pick.there)).pick (A := blk rb _ _) (by repeat first | exact .here | apply Pick.there)))) ?_; clear HF a; rintro _ w ⟨rfl, HS⟩ a HF
    refine pl HF (p_bd (cs := [_, _]) pc34 zc34 rfl rfl) rfl (ltN rfl) rfl ?_; clear HF a; intro a HF
    refine pl HF (p_fld fo36_4 rfl) rfl (ltN rfl) rfl ?_; clear HF a; intro a HF
    refine g_st (cs' := [_, _, _, _, _, _, _, _, _, _, _, _, _, _, _, _, _, _, _, _, _, _]) HF HS sz34 rfl rfl rfl rfl rfl (by repeat first | exact .here | apply Upd.there) rfl rfl ?_; clear HS; intro w HS
    refine pe ?_
    refine tn ?_
    refine wp_seq ?_
    -- region 16
    refine wp_region_lit ?_
    refine pl HF (p_mv rfl) rfl (ltN rfl) rfl ?_; clear HF a; intro a HF
    refine g_bsl (cs := (dNonces).map S) HF HS sl44 zc9 rfl rfl rfl rfl (by kernel_rfl) (ltN rfl) ?_; clear HF HS a; intro a w b76 HF HS
    refine g_call HF rfl rfl ent21 (ltN rfl) (c_text _ _ _ dNonces (by decide) (by decide) _ (((HS.pick (by repeat first | exact (.here : Pick _ (blk b76 _ _) _) | apply Pick.there)).pick (A := blk rb _ _) (by repeat first | exact .here | apply Pick.there)))) ?_; clear HF a; rintro _ w ⟨rfl, HS⟩ a HF
    refine pl HF (p_fld fo36_5 rfl) rfl (ltN rfl) rfl ?_; clear HF a; intro a HF
    refine g_st (cs' := [_, _, _, _, _, _, _, _, _, _, _, _, _, _, _, _, _, _, _, _, _, _]) HF HS sz9 rfl rfl rfl rfl rfl (by repeat first | exact .here | apply Upd.there) rfl rfl ?_; clear HS; intro w HS
    refine pe ?_
    refine tn ?_
    refine wp_seq ?_
    -- region 17
    refine wp_region_lit ?_
    refine pl HF (p_mv rfl) rfl (ltN rfl) rfl ?_; clear HF a; intro a HF
    refine g_call HF rfl rfl ent19 (ltN rfl) (c_pick _ _ 4 (by decide) (by decide) _ (HS.pick (by repeat first | exact .here | apply Pick.there))) ?_; clear HF a; rintro _ w ⟨rfl, HS⟩ a HF
    refine pl HF (p_fld fo36_6 rfl) rfl (ltN rfl) rfl ?_; clear HF a; intro a HF
    refine g_st (cs' := [_, _, _, _, _, _, _, _, _, _, _, _, _, _, _, _, _, _, _, _, _, _]) HF HS sz3 rfl rfl rfl rfl rfl (by repeat first | exact .here | apply Upd.there) rfl rfl ?_; clear HS; intro w HS
    refine pe ?_
    refine tn ?_
    refine wp_seq ?_
    -- region 18
    refine wp_region_lit ?_
    refine pl HF (p_mv rfl) rfl (ltN rfl) rfl ?_; clear HF a; intro a HF
    refine g_call HF rfl rfl ent19 (ltN rfl) (c_pick _ _ 4 (by decide) (by decide) _ (HS.pick (by repeat first | exact .here | apply Pick.there))) ?_; clear HF a; rintro _ w ⟨rfl, HS⟩ a HF
    refine pl HF (p_ieq rfl rfl) rfl (ltN rfl) rfl ?_; clear HF a; intro a HF
    refine pl HF (p_fld fo36_7 rfl) rfl (ltN rfl) rfl ?_; clear HF a; intro a HF
    refine g_st (cs' := [_, _, _, _, _, _, _, _, _, _, _, _, _, _, _, _, _, _, _, _, _, _]) HF HS sz4 rfl rfl rfl rfl rfl (by repeat first | exact .here | apply Upd.there) rfl rfl ?_; clear HS; intro w HS
    refine pe ?_
    refine tn ?_
    refine wp_seq ?_
    -- region 19
    refine wp_region_lit ?_
    refine pl HF (p_mv rfl) rfl (ltN rfl) rfl ?_; clear HF a; intro a HF
    refine g_call HF rfl rfl ent19 (ltN rfl) (c_pick _ _ 10 (by decide) (by decide) _ (HS.pick (by repeat first | exact .here | apply Pick.there))) ?_; clear HF a; rintro _ w ⟨rfl, HS⟩ a HF
    refine pl HF (p_fld fo36_8 rfl) rfl (ltN rfl) rfl ?_; clear HF a; intro a HF
    refine g_st (cs' := [_, _, _, _, _, _, _, _, _, _, _, _, _, _, _, _, _, _, _, _, _, _]) HF HS sz3 rfl rfl rfl rfl rfl (by repeat first | exact .here | apply Upd.there) rfl rfl ?_; clear HS; intro w HS
    refine pe ?_
    refine tn ?_
    refine wp_seq ?_
    -- region 20
    refine wp_region_lit ?_
    refine pl HF (p_lbA (vs := [_, _, _, _, _, _, _, _, _, _, _, _, _, _, _, _, _, _, _, _, _, _]) HS ak36 sz36 rfl (by repeat first | exact .here | apply Pick.there) rfl rfl) rfl (ltN rfl) rfl ?_; clear HF a; intro a HF
    refine g_st (cs' := [_, _, _, _, _, _, _, _, _, _, _, _, _, _, _, _, _, _, _, _, _, _]) HF HS sz36 rfl rfl rfl rfl rfl (by repeat first | exact .here | apply Upd.there) rfl rfl ?_; clear HS; intro w HS
    refine pe ?_
    refine tn ?_
    refine wp_ret ?_
    refine ret1 HF rfl (rv_of (p_lbA (vs := [_, _, _, _, _, _, _, _, _, _, _, _, _, _, _, _, _, _, _, _, _, _]) HS ak36 sz36 rfl (by repeat first | exact .here | apply Pick.there) rfl rfl) ⟨_, _, rfl⟩) ?_
    simp only [List.drop_drop, Nat.reduceAdd] at HS ⊢
    first
      | (refine ⟨.slice (some ⟨b50, 0, none⟩) 1 1, G1, rfl, hG1, ?_, HS.wk (by repeat first | exact .refl | apply Wk.cons | apply Wk.skip)⟩
         show RP G1 _ (dHeadsOf (pk 4 (s.drop 6)))
         unfold dHeadsOf
         rw [if_neg (by omega)]
         exact RP.one hb50 rfl)
      | (refine ⟨.slice none 0 0, G, rfl, Gh.le.refl G, ?_, HS.wk (by repeat first | exact .refl | apply Wk.cons | apply Wk.skip)⟩
         show RP G _ (dHeadsOf (pk 4 (s.drop 6)))
         rw [hk]
         exact RP.nil G)
  · have hk : pk 4 (s.drop 6) = 0 := by simp at hc43; omega
    refine wp_skip ?_
    refine tn ?_
    refine wp_seq ?_
    -- region 12
    refine wp_region_lit ?_
    refine pl HF (p_mv rfl) rfl (ltN rfl) rfl ?_; clear HF a; intro a HF
    refine pl HF (p_mv rfl) rfl (ltN rfl) rfl ?_; clear HF a; intro a HF
    refine g_call HF rfl rfl ent19 (ltN rfl) (c_pick _ _ 2 (by decide) (by decide) _ (HS.pick (by repeat first | exact .here | apply Pick.there))) ?_; clear HF a; rintro _ w ⟨rfl, HS⟩ a HF
    refine pl HF (p_ieq rfl rfl) rfl (ltN rfl) rfl ?_; clear HF a; intro a HF
    refine pl HF (p_nil rfl) rfl (ltN rfl) rfl ?_; clear HF a; intro a HF
    refine pl HF (p_fld fo32_5 rfl) rfl (ltN rfl) rfl ?_; clear HF a; intro a HF
    refine g_st (cs' := [_, _, _, _, _, _, _, _, _, _, _, _, _, _, _, _, _, _, _, _, _, _]) HF HS sz4 rfl rfl rfl rfl rfl (by repeat first | exact .here | apply Upd.there) rfl rfl ?_; clear HS; intro w HS
    refine pe ?_
    refine tn ?_
    refine wp_seq ?_
    -- region 13
    refine wp_region_lit ?_
    refine pl HF (p_mv rfl) rfl (ltN rfl) rfl ?_; clear HF a; intro a HF
    refine g_call HF rfl rfl ent19 (ltN rfl) (c_pick _ _ 4 (by decide) (by decide) _ (HS.pick (by repeat first | exact .here | apply Pick.there))) ?_; clear HF a; rintro _ w ⟨rfl, HS⟩ a HF
    refine pl HF (p_ieq rfl rfl) rfl (ltN rfl) rfl ?_; clear HF a; intro a HF
    refine pl HF (p_fld fo36_2 rfl) rfl (ltN rfl) rfl ?_; clear HF a; intro a HF
    refine g_st (cs' := [_, _, _, _, _, _, _, _, _, _, _, _, _, _, _, _, _, _, _, _, _, _]) HF HS sz4 rfl rfl rfl rfl rfl (by repeat first | exact .here | apply Upd.there) rfl rfl ?_; clear HS; intro w HS
    refine pe ?_
    refine tn ?_
    refine wp_seq ?_
    -- region 14
    refine wp_region_lit ?_
    refine pl HF (p_mv rfl) rfl (ltN rfl) rfl ?_; clear HF a; intro a HF
    refine g_bsl (cs := (dTexts).map S) HF HS sl44 zc9 rfl rfl rfl rfl (by kernel_rfl) (ltN rfl) ?_; clear HF HS a; intro a w b64 HF HS
    refine g_call HF rfl rfl ent21 (ltN rfl) (c_text _ _ _ dTexts (by decide) (by decide) _ (((HS.pick (by repeat first | exact (.here : Pick _ (blk b64 _ _) _) | apply Pick.there)).pick (A := blk rb _ _) (by repeat first | exact .here | apply Pick.there)))) ?_; clear HF a; rintro _ w ⟨rfl, HS⟩ a HF
    refine pl HF (p_fld fo36_3 rfl) rfl (ltN rfl) rfl ?_; clear HF a; intro a HF
    refine g_st (cs' := [_, _, _, _, _, _, _, _, _, _, _, _, _, _, _, _, _, _, _, _, _, _]) HF HS sz9 rfl rfl rfl rfl rfl (by repeat first | exact .here | apply Upd.there) rfl rfl ?_; clear HS; intro w HS
    refine pe ?_
    refine tn ?_
    refine wp_seq ?_
    -- region 15
    refine wp_region_lit ?_
    refine pl HF (p_mv rfl) rfl (ltN rfl) rfl ?_; clear HF a; intro a HF
    refine g_bsl (cs := (dUsers).map S) HF HS sl44 zc9 rfl rfl rfl rfl (by kernel_rfl) (ltN rfl) ?_; clear HF HS a; intro a w b68 HF HS
    refine g_call HF rfl rfl ent21 (ltN rfl) (c_text _ _ _ dUsers (by decide) (by decide) _ (((HS.pick (by repeat first | exact (.here : Pick _ (blk b68 _ _) _) | apply Pick.there)).pick (A := blk rb _ _) (by repeat first | exact .here | apply Pick.there)))) ?_; clear HF a; rintro _ w ⟨rfl, HS⟩ a HF
    refine pl HF (p_mv rfl) rfl (ltN rfl) rfl ?_; clear HF a; intro a HF
    refine g_bsl (cs := (dPasses).map S) HF HS sl44 zc9 rfl rfl rfl rfl (by kernel_rfl) (ltN rfl) ?_; clear HF HS a; intro a w b71 HF HS
    refine g_call HF rfl rfl ent21 (ltN rfl) (c_text _ _ _ dPasses (by decide) (by decide) _ (((HS.pick (by repeat first | exact (.here : Pick _ (blk b71 _ _) _) | apply Pick.there)).pick (A := blk rb _ _) (by repeat first | exact .here | apply Pick.there)))) ?_; clear HF a; rintro _ w ⟨rfl, HS⟩ a HF
    refine pl HF (p_bd (cs := [_, _]) pc34 zc34 rfl rfl) rfl (ltN rfl) rfl ?_; clear HF a; intro a HF
    refine pl HF (p_fld fo36_4 rfl) rfl (ltN rfl) rfl ?_; clear HF a; intro a HF
    refine g_st (cs' := [_, _, _, _, _, _, _, _, _, _, _, _, _, _, _, _, _, _, _, _, _, _]) HF HS sz34 rfl rfl rfl rfl rfl (by repeat first | exact .here | apply Upd.there) rfl rfl ?_; clear HS; intro w HS
    refine pe ?_
    refine tn ?_
    refine wp_seq ?_
    -- region 16
    refine wp_region_lit ?_
    refine pl HF (p_mv rfl) rfl (ltN rfl) rfl ?_; clear HF a; intro a HF
    refine g_bsl (cs := (dNonces).map S) HF HS sl44 zc9 rfl rfl rfl rfl (by kernel_rfl) (ltN rfl) ?_; clear HF HS a; intro a w b76 HF HS
    refine g_call HF rfl rfl ent21 (ltN rfl) (c_text _ _ _ dNonces (by decide) (by decide) _ (((HS.pick (by repeat first | exact (.here : Pick _ (blk b76 _ _) _) | apply Pick.there)).pick (A := blk rb _ _) (by repeat first | exact .here | apply Pick.there)))) ?_; clear HF a; rintro _ w ⟨rfl, HS⟩ a HF
    refine pl HF (p_fld fo36_5 rfl) rfl (ltN rfl) rfl ?_; clear HF a; intro a HF
    refine g_st (cs' := [_, _, _, _, _, _, _, _, _, _, _, _, _, _, _, _, _, _, _, _, _, _]) HF HS sz9 rfl rfl rfl rfl rfl (by repeat first | exact .here | apply Upd.there) rfl rfl ?_; clear HS; intro w HS
    refine pe ?_
    refine tn ?_
    refine wp_seq ?_
    -- region 17
    refine wp_region_lit ?_
    refine pl HF (p_mv rfl) rfl (ltN rfl) rfl ?_; clear HF a; intro a HF
    refine g_call HF rfl rfl ent19 (ltN rfl) (c_pick _ _ 4 (by decide) (by decide) _ (HS.pick (by repeat first | exact .here | apply Pick.there))) ?_; clear HF a; rintro _ w ⟨rfl, HS⟩ a HF
    refine pl HF (p_fld fo36_6 rfl) rfl (ltN rfl) rfl ?_; clear HF a; intro a HF
    refine g_st (cs' := [_, _, _, _, _, _, _, _, _, _, _, _, _, _, _, _, _, _, _, _, _, _]) HF HS sz3 rfl rfl rfl rfl rfl (by repeat first | exact .here | apply Upd.there) rfl rfl ?_; clear HS; intro w HS
    refine pe ?_
    refine tn ?_
    refine wp_seq ?_
    -- region 18
    refine wp_region_lit ?_
    refine pl HF (p_mv rfl) rfl (ltN rfl) rfl ?_; clear HF a; intro a HF
    refine g_call HF rfl rfl ent19 (ltN rfl) (c_pick _ _ 4 (by decide) (by decide) _ (HS.pick (by repeat first | exact .here | apply Pick.there))) ?_; clear HF a; rintro _ w ⟨rfl, HS⟩ a HF
    refine pl HF (p_ieq rfl rfl) rfl (ltN rfl) rfl ?_; clear HF a; intro a HF
    refine pl HF (p_fld fo36_7 rfl) rfl (ltN rfl) rfl ?_; clear HF a; intro a HF
    refine g_st (cs' := [_, _, _, _, _, _, _, _, _, _, _, _, _, _, _, _, _, _, _, _, _, _]) HF HS sz4 rfl rfl rfl rfl rfl (by repeat first | exact .here | apply Upd.there) rfl rfl ?_; clear HS; intro w HS
    refine pe ?_
    refine tn ?_
    refine wp_seq ?_
    -- region 19
    refine wp_region_lit ?_
    refine pl HF (p_mv rfl) rfl (ltN rfl) rfl ?_; clear HF a; intro a HF
    refine g_call HF rfl rfl ent19 (ltN rfl) (c_pick _ _ 10 (by decide) (by decide) _ (HS.pick (by repeat first | exact .here | apply Pick.there))) ?_; clear HF a; rintro _ w ⟨rfl, HS⟩ a HF
    refine pl HF (p_fld fo36_8 rfl) rfl (ltN rfl) rfl ?_; clear HF a; intro a HF
    refine g_st (cs' := [_, _, _, _, _, _, _, _, _, _, _, _, _, _, _, _, _, _, _, _, _, _]) HF HS sz3 rfl rfl rfl rfl rfl (by repeat first | exact .here | apply Upd.there) rfl rfl ?_; clear HS; intro w HS
    refine pe ?_
    refine tn ?_
    refine wp_seq ?_
    -- region 20
    refine wp_region_lit ?_
    refine pl HF (p_lbA (vs := [_, _, _, _, _, _, _, _, _, _, _, _, _, _, _, _, _, _, _, _, _, _]) HS ak36 sz36 rfl (by repeat first | exact .here | apply Pick.there) rfl rfl) rfl (ltN rfl) rfl ?_; clear HF a; intro a HF
    refine g_st (cs' := [_, _, _, _, _, _, _, _, _, _, _, _, _, _, _, _, _, _, _, _, _, _]) HF HS sz36 rfl rfl rfl rfl rfl (by repeat first | exact .here | apply Upd.there) rfl rfl ?_; clear HS; intro w HS
    refine pe ?_
    refine tn ?_
    refine wp_ret ?_
    refine ret1 HF rfl (rv_of (p_lbA (vs := [_, _, _, _, _, _, _, _, _, _, _, _, _, _, _, _, _, _, _, _, _, _]) HS ak36 sz36 rfl (by repeat first | exact .here | apply Pick.there) rfl rfl) ⟨_, _, rfl⟩) ?_
    simp only [List.drop_drop, Nat.reduceAdd] at HS ⊢
    first
      | (refine ⟨.slice (some ⟨b50, 0, none⟩) 1 1, G1, rfl, hG1, ?_, HS.wk (by repeat first | exact .refl | apply Wk.cons | apply Wk.skip)⟩
         show RP G1 _ (dHeadsOf (pk 4 (s.drop 6)))
         unfold dHeadsOf
         rw [if_neg (by omega)]
         exact RP.one hb50 rfl)
      | (refine ⟨.slice none 0 0, G, rfl, Gh.le.refl G, ?_, HS.wk (by repeat first | exact .refl | apply Wk.cons | apply Wk.skip)⟩
         show RP G _ (dHeadsOf (pk 4 (s.drop 6)))
         rw [hk]
         exact RP.nil G)

end Gp
