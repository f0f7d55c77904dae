/- The reference's Decode. Printed by skel.py out of plan/P8.py. -/
import Derived.Test.YtjoggnekfopghaaP7
import Derived.Test.YtjoggnekfopghaaP4
namespace Gp
open Go Go.Proofs Go.RowKit

def dHd : List Bs := [] :: dHeads
theorem dHd_eq {k : Nat} (h : 0 < k) : dHd.getD k [] = dHeads.getD (k - 1) [] := by
  obtain ⟨j, rfl⟩ : ∃ j, k = j + 1 := ⟨k - 1, by omega⟩
  simp [dHd]
theorem dHd_ne {k : Nat} (hk : k < 4) (h : (!(dHd.getD k [] == [])) = true) : 0 < k := by
  rcases Nat.eq_zero_or_pos k with rfl | h0
  · simp [dHd] at h
  · exact h0
theorem dHd_e {k : Nat} (hk : k < 4) (h : (!(dHd.getD k [] == [])) = false) : k = 0 := by
  have : k = 0 ∨ k = 1 ∨ k = 2 ∨ k = 3 := by omega
  rcases this with rfl | rfl | rfl | rfl
  · rfl
  · exact absurd h (by decide)
  · exact absurd h (by decide)
  · exact absurd h (by decide)
theorem pk256 (c : UInt8) (r : Bs) : (pk 256 (c :: r) : Int) = (c.toNat : Int) := by
  have := c.toNat_lt
  simp only [pk]
  omega

set_option maxRecDepth 100000 in
set_option maxHeartbeats 4000000 in
theorem r_Decode {w0 : World} {F : Nat → Prop} {G : Gh} {H : List Asrt} (hG0 : HasMax G) (s : Bs) (w : World) (HS : St w0 F G w H) : Does Try.prog 4 [S s] w fun v w' => ∃ G' rows, G.le G' ∧ RM G' rows (decode s) ∧ RS G' 24 v (decode s).length rows.flatten ∧ St w0 F G' w' H := by
  refine enter Try.func4 rfl (N := 159) rfl rfl fun a HF => ?_
  refine wp_seq ?_
  -- region 0
  refine wp_region_lit ?_
  refine pl HF (p_as rfl) rfl (ltN rfl) rfl ?_; clear HF a; intro a HF
  refine pe ?_
  refine tn ?_
  refine wp_seq ?_
  -- region 1
  refine wp_region_lit ?_
  refine pl HF (p_mv rfl) rfl (ltN rfl) rfl ?_; clear HF a; intro a HF
  refine g_sb HF HS Try.underlying9 Try.underlying42 Try.underlying5 rfl (ltN rfl) ?_; clear HF HS a; intro a w G0 v14 HF hG0le hRB HS
  obtain ⟨A0, c0, rfl, _⟩ := id hRB
  refine g_alloc HF HS zc42 (ltN rfl) ?_; clear HF HS a; intro a w b3 HF HS
  refine g_st (cs' := [_]) HF HS sz42 rfl rfl rfl rfl rfl (by repeat first | exact .here | apply Upd.there) rfl rfl ?_; clear HS; intro w HS
  refine pe ?_
  replace HS := (HS.pick (A := blk b3 _ _) (by repeat first | exact .here | apply Pick.there)).bc hRB
  refine tn ?_
  refine wp_seq ?_
  -- region 2
  refine wp_region_lit ?_
  refine pl HF (p_fn rfl rfl) rfl (ltN rfl) rfl ?_; clear HF a; intro a HF
  refine g_alloc HF HS zc43 (ltN rfl) ?_; clear HF HS a; intro a w b4 HF HS
  refine g_st (cs' := [_]) HF HS sz43 rfl rfl rfl rfl rfl (by repeat first | exact .here | apply Upd.there) rfl rfl ?_; clear HS; intro w HS
  refine pe ?_
  refine tn ?_
  refine wp_seq ?_
  -- region 3
  refine wp_region_lit ?_
  refine pl HF (p_fn rfl rfl) rfl (ltN rfl) rfl ?_; clear HF a; intro a HF
  refine g_alloc HF HS zc45 (ltN rfl) ?_; clear HF HS a; intro a w b5 HF HS
  refine g_st (cs' := [_]) HF HS sz45 rfl rfl rfl rfl rfl (by repeat first | exact .here | apply Upd.there) rfl rfl ?_; clear HS; intro w HS
  refine pe ?_
  refine tn ?_
  refine wp_seq ?_
  -- region 4
  refine wp_region_lit ?_
  refine pl HF (p_fn rfl rfl) rfl (ltN rfl) rfl ?_; clear HF a; intro a HF
  refine pl HF (p_as rfl) rfl (ltN rfl) rfl ?_; clear HF a; intro a HF
  refine pe ?_
  refine tn ?_
  refine wp_seq ?_
  -- region 5
  refine wp_region_lit ?_
  refine pl HF (p_as rfl) rfl (ltN rfl) rfl ?_; clear HF a; intro a HF
  refine pe ?_
  refine tn ?_
  refine wp_seq ?_
  refine wp_block ?_
  refine wp_loop_ghost (fun n a w => ∃ (s1 : Bs) (ms : List Move) (rows : List (List Value)) (v : Value) (G1 : Gh), n = s1.length ∧ G.le G1 ∧ ms ++ decGo (400 - ms.length) s1 = decode s ∧ ms.length ≤ 400 ∧ RM G1 rows ms ∧ Fr 159 a [(3, Pt b3 0), (4, Pt b4 0), (5, Pt b5 0), (6, (.func (.func 9) #[] #[Pt b5 0])), (7, v)] ∧ St w0 F G1 w (own 38 24 v ms.length rows.flatten :: bcur 42 b3 s1 :: blk b4 [(.func (.func 7) #[] #[Pt b3 0])] 43 :: blk b5 [(.func (.func 8) #[] #[Pt b4 0])] 45 :: H)) s.length ?_ ?_
  · exact ⟨s, [], [], .slice none 0 0, G0, rfl, hG0le, rfl, by simp, trivial, HF.cut [3, 4, 5, 6, 7] rfl, (((((HS.pick (A := blk b5 _ _) (by repeat first | exact .here | apply Pick.there)).pick (A := blk b4 _ _) (by repeat first | exact .here | apply Pick.there)).pick (A := bcur _ b3 _) (by repeat first | exact .here | apply Pick.there))).wk (by repeat first | exact .refl | apply Wk.cons | apply Wk.skip)).nil_own _ _⟩
  · rintro n a w ⟨s1, ms, rows, v, G1, rfl, hG1, hms, hlen, hRM, HF, HS⟩
    refine wp_seq ?_
    refine wp_seq ?_
    -- region 6
    obtain ⟨bv, hbv, HS⟩ := (HS.pick (A := bcur _ b3 _) (by repeat first | exact .here | apply Pick.there)).bc_
    obtain ⟨A, cc, rfl, _⟩ := id hbv
    obtain ⟨Am, cm, rfl, _⟩ := (HS.pick (A := own _ _ _ _ _) (by repeat first | exact .here | apply Pick.there)).own_shape
    refine wp_region_lit ?_
    refine pl HF (p_lb HS ak42 rfl (by repeat first | exact .here | apply Pick.there) rfl) rfl (ltN rfl) rfl ?_; clear HF a; intro a HF
    refine pl HF (p_lensl Try.underlying42 rfl) rfl (ltN rfl) rfl ?_; clear HF a; intro a HF
    refine pl HF (p_gtr rfl rfl) rfl (ltN rfl) rfl ?_; clear HF a; intro a HF
    refine pl HF (p_mv rfl) rfl (ltN rfl) rfl ?_; clear HF a; intro a HF
    refine bsplit HF ?_ ?_ <;> clear HF
    · intro hg21 HF
      obtain ⟨c, r, rfl⟩ : ∃ c r, s1 = c :: r := by cases s1 with | nil => simp at hg21 | cons c r => exact ⟨c, r, rfl⟩
      have hb := c.toNat_lt
      refine pw HF (p_mv rfl) rfl (ltN rfl) rfl rfl rfl rfl ?_; clear HF a; intro a HF
      refine pw HF (p_lensl Try.underlying22 rfl) rfl (ltN rfl) rfl rfl rfl rfl ?_; clear HF a; intro a HF
      refine pw HF (p_lss rfl rfl) rfl (ltN rfl) rfl rfl rfl rfl ?_; clear HF a; intro a HF
      refine pl HF (p_pickT rfl rfl) rfl (ltN rfl) rfl ?_; clear HF a; intro a HF
      refine pe ?_
      replace HS := HS.bc hbv
      refine tn ?_
      refine c_if HF rfl (fun hc25 => ?_) (fun hc25 => ?_)
      · have hlt : ms.length < 400 := by have := of_decide_eq_true hc25; omega
        rw [decGo_cons _ hlt] at hms
        refine wp_skip ?_
        refine tn ?_
        refine wp_block ?_
        refine wp_seq ?_
        -- region 7
        refine wp_region_lit ?_
        refine pl HF (p_lb HS ak43 rfl (by repeat first | exact .here | apply Pick.there) rfl) rfl (ltN rfl) rfl ?_; clear HF a; intro a HF
        refine g_call HF rfl rfl ent7 (ltN rfl) (r_next b3 _ 256 (by decide) (by decide) _ (HS.pick (A := bcur _ b3 _) (by repeat first | exact .here | apply Pick.there))) ?_; clear HF a; rintro _ w ⟨rfl, HS⟩ a HF
        rw [pk256] at HF
        replace HS : St w0 F G1 w (bcur 42 b3 r :: _) := HS
        refine pl HF (p_as rfl) rfl (ltN rfl) rfl ?_; clear HF a; intro a HF
        refine pe ?_
        refine tn ?_
        refine wp_seq ?_
        -- region 8
        refine wp_region_lit ?_
        refine pl HF (p_mv rfl) rfl (ltN rfl) rfl ?_; clear HF a; intro a HF
        refine pl HF (p_rem rfl rfl (by omega) (IntWalk.rem_in _ _ (by omega))) rfl (ltN rfl) rfl ?_; clear HF a; intro a HF
        refine pl HF (p_bd (cs := [_, _, _, _, _, _, _, _, _, _, _, _, _, _, _, _, _, _, _, _, _, _, _, _]) pc38 zc38 rfl rfl) rfl (ltN rfl) rfl ?_; clear HF a; intro a HF
        refine g_alloc HF HS zc38 (ltN rfl) ?_; clear HF HS a; intro a w b9 HF HS
        refine g_st (cs' := [_, _, _, _, _, _, _, _, _, _, _, _, _, _, _, _, _, _, _, _, _, _, _, _]) HF HS sz38 rfl rfl rfl rfl rfl (by repeat first | exact .here | apply Upd.there) rfl rfl ?_; clear HS; intro w HS
        refine pe ?_
        refine tn ?_
        refine wp_join (M := fun a w => ∃ m s2 hv G2, dMove c r = (m, s2) ∧ s2.length ≤ r.length ∧ G1.le G2 ∧ RP G2 hv m.op.req.heads ∧ Fr 159 a [(3, Pt b3 0), (4, Pt b4 0), (5, Pt b5 0), (6, (.func (.func 9) #[] #[Pt b5 0])), (7, .slice Am ms.length cm), (9, Pt b9 0)] ∧ St w0 F G2 w (blk b9 (mvC m hv) 38 :: own 38 24 (.slice Am ms.length cm) ms.length rows.flatten :: bcur 42 b3 s2 :: blk b4 [(.func (.func 7) #[] #[Pt b3 0])] 43 :: blk b5 [(.func (.func 8) #[] #[Pt b4 0])] 45 :: H)) ?_ ?_
        · refine wp_seq ?_
          -- region 9
          refine wp_region_lit ?_
          refine pl HF (p_mv rfl) rfl (ltN rfl) rfl ?_; clear HF a; intro a HF
          refine pl HF (p_quo rfl rfl (by omega) (IntWalk.i64_quo _ _ (by omega))) rfl (ltN rfl) rfl ?_; clear HF a; intro a HF
          refine pl HF (p_rem rfl rfl (by omega) (IntWalk.rem_in _ _ (by omega))) rfl (ltN rfl) rfl ?_; clear HF a; intro a HF
          refine pl HF (p_as rfl) rfl (ltN rfl) rfl ?_; clear HF a; intro a HF
          refine pe ?_
          refine tn ?_
          refine wp_block ?_
          refine wp_join (M := fun a w => ∃ t, t = decide ((c.toNat : Int) / 6 % 4 = 2 ∧ 128 ≤ (c.toNat : Int)) ∧ Fr 159 a [(3, Pt b3 0), (4, Pt b4 0), (5, Pt b5 0), (6, (.func (.func 9) #[] #[Pt b5 0])), (7, .slice Am ms.length cm), (8, I c.toNat), (9, Pt b9 0), (10, I ((c.toNat : Int) / 6 % 4)), (34, T_ t)] ∧ St w0 F G1 w (blk b9 (mvC ⟨0, (c.toNat : Int) % 6, .zero⟩ (.slice none 0 0)) 38 :: own 38 24 (.slice Am ms.length cm) ms.length rows.flatten :: bcur 42 b3 r :: blk b4 [(.func (.func 7) #[] #[Pt b3 0])] 43 :: blk b5 [(.func (.func 8) #[] #[Pt b4 0])] 45 :: H)) ?_ ?_
          · -- region 10
            refine wp_region_lit ?_
            refine pl HF (p_mv rfl) rfl (ltN rfl) rfl ?_; clear HF a; intro a HF
            refine pl HF (p_ieq rfl rfl) rfl (ltN rfl) rfl ?_; clear HF a; intro a HF
            refine pl HF (p_mv rfl) rfl (ltN rfl) rfl ?_; clear HF a; intro a HF
            refine bsplit HF ?_ ?_ <;> clear HF
            · intro hg37 HF
              refine pw HF (p_mv rfl) rfl (ltN rfl) rfl rfl rfl rfl ?_; clear HF a; intro a HF
              refine pw HF (p_geq rfl rfl) rfl (ltN rfl) rfl rfl rfl rfl ?_; clear HF a; intro a HF
              refine pl HF (p_pickT rfl rfl) rfl (ltN rfl) rfl ?_; clear HF a; intro a HF
              refine pl HF (p_as rfl) rfl (ltN rfl) rfl ?_; clear HF a; intro a HF
              refine pe ?_
              refine tn ?_
              exact ⟨_, by simp_all, HF.cut [3, 4, 5, 6, 7, 8, 9, 10, 34] rfl, ((((((HS.pick (A := blk b5 _ _) (by repeat first | exact .here | apply Pick.there)).pick (A := blk b4 _ _) (by repeat first | exact .here | apply Pick.there)).pick (A := bcur _ b3 _) (by repeat first | exact .here | apply Pick.there)).pick (A := own _ _ _ _ _) (by repeat first | exact .here | apply Pick.there)).pick (A := blk b9 _ _) (by repeat first | exact .here | apply Pick.there))).wk (by repeat first | exact .refl | apply Wk.cons | apply Wk.skip)⟩
            · intro hg37 HF
              refine pn HF rfl (ltN rfl) rfl rfl rfl rfl rfl ?_; clear HF a; intro a HF
              refine pn HF rfl (ltN rfl) rfl rfl rfl rfl rfl ?_; clear HF a; intro a HF
              refine pl HF (p_pickF rfl rfl) rfl (ltN rfl) rfl ?_; clear HF a; intro a HF
              refine pl HF (p_as rfl) rfl (ltN rfl) rfl ?_; clear HF a; intro a HF
              refine pe ?_
              refine tn ?_
              exact ⟨_, by simp_all, HF.cut [3, 4, 5, 6, 7, 8, 9, 10, 34] rfl, ((((((HS.pick (A := blk b5 _ _) (by repeat first | exact .here | apply Pick.there)).pick (A := blk b4 _ _) (by repeat first | exact .here | apply Pick.there)).pick (A := bcur _ b3 _) (by repeat first | exact .here | apply Pick.there)).pick (A := own _ _ _ _ _) (by repeat first | exact .here | apply Pick.there)).pick (A := blk b9 _ _) (by repeat first | exact .here | apply Pick.there))).wk (by repeat first | exact .refl | apply Wk.cons | apply Wk.skip)⟩
          · rintro a w ⟨t, ht, HF, HS⟩
            refine c_if HF rfl (fun hc34 => ?_) (fun hc34 => ?_)
            · have hk2 : (c.toNat : Int) / 6 % 4 = 2 ∧ 128 ≤ (c.toNat : Int) := of_decide_eq_true (ht ▸ hc34)
              -- region 11
              refine wp_region_lit ?_
              refine pl HF (p_fld fo38_0 rfl) rfl (ltN rfl) rfl ?_; clear HF a; intro a HF
              refine g_st (cs' := [_, _, _, _, _, _, _, _, _, _, _, _, _, _, _, _, _, _, _, _, _, _, _, _]) HF HS sz3 rfl rfl rfl rfl rfl (by repeat first | exact .here | apply Upd.there) rfl rfl ?_; clear HS; intro w HS
              refine pe ?_
              refine bn ?_
              refine tn ?_
              try simp only [List.drop_drop, Nat.reduceAdd] at HS
              first
                | exact ⟨⟨2, (c.toNat : Int) % 6, .zero⟩, r, _, G1, dM2 r hk2.1 (by omega), Nat.le_refl _, Gh.le.refl _, RP.nil _, HF.cut [3, 4, 5, 6, 7, 9] rfl, ((((((HS.pick (A := blk b5 _ _) (by repeat first | exact .here | apply Pick.there)).pick (A := blk b4 _ _) (by repeat first | exact .here | apply Pick.there)).pick (A := bcur _ b3 _) (by repeat first | exact .here | apply Pick.there)).pick (A := own _ _ _ _ _) (by repeat first | exact .here | apply Pick.there)).pick (A := blk b9 _ _) (by repeat first | exact .here | apply Pick.there))).wk (by repeat first | exact .refl | apply Wk.cons | apply Wk.skip)⟩
                | exact ⟨⟨1, (c.toNat : Int) % 6, dOp r⟩, r.drop 16, _, G2, dM1 r hk, by simp, hG2, by show RP G2 _ (dHeadsOf (pk 4 (r.drop 6))); unfold dHeadsOf; rw [if_neg (by omega), ← dHd_eq hh]; exact RP.one hb95 rfl, HF.cut [3, 4, 5, 6, 7, 9] rfl, ((((((HS.pick (A := blk b5 _ _) (by repeat first | exact .here | apply Pick.there)).pick (A := blk b4 _ _) (by repeat first | exact .here | apply Pick.there)).pick (A := bcur _ b3 _) (by repeat first | exact .here | apply Pick.there)).pick (A := own _ _ _ _ _) (by repeat first | exact .here | apply Pick.there)).pick (A := blk b9 _ _) (by repeat first | exact .here | apply Pick.there))).wk (by repeat first | exact .refl | apply Wk.cons | apply Wk.skip)⟩
                | exact ⟨⟨1, (c.toNat : Int) % 6, dOp r⟩, r.drop 16, _, G1, dM1 r hk, by simp, Gh.le.refl _, by show RP G1 _ (dHeadsOf (pk 4 (r.drop 6))); rw [hh]; exact RP.nil _, HF.cut [3, 4, 5, 6, 7, 9] rfl, ((((((HS.pick (A := blk b5 _ _) (by repeat first | exact .here | apply Pick.there)).pick (A := blk b4 _ _) (by repeat first | exact .here | apply Pick.there)).pick (A := bcur _ b3 _) (by repeat first | exact .here | apply Pick.there)).pick (A := own _ _ _ _ _) (by repeat first | exact .here | apply Pick.there)).pick (A := blk b9 _ _) (by repeat first | exact .here | apply Pick.there))).wk (by repeat first | exact .refl | apply Wk.cons | apply Wk.skip)⟩
                | exact ⟨⟨0, (c.toNat : Int) % 6, .zero⟩, r, _, G1, dM0 r hk1 (fun h => by omega), Nat.le_refl _, Gh.le.refl _, RP.nil _, HF.cut [3, 4, 5, 6, 7, 9] rfl, ((((((HS.pick (A := blk b5 _ _) (by repeat first | exact .here | apply Pick.there)).pick (A := blk b4 _ _) (by repeat first | exact .here | apply Pick.there)).pick (A := bcur _ b3 _) (by repeat first | exact .here | apply Pick.there)).pick (A := own _ _ _ _ _) (by repeat first | exact .here | apply Pick.there)).pick (A := blk b9 _ _) (by repeat first | exact .here | apply Pick.there))).wk (by repeat first | exact .refl | apply Wk.cons | apply Wk.skip)⟩
            · have hk2 : ¬ ((c.toNat : Int) / 6 % 4 = 2 ∧ 128 ≤ (c.toNat : Int)) := of_decide_eq_false (ht ▸ hc34)
              refine wp_seq ?_
              -- region 12
              refine wp_region_lit ?_
              refine pl HF (p_mv rfl) rfl (ltN rfl) rfl ?_; clear HF a; intro a HF
              refine pl HF (p_ieq rfl rfl) rfl (ltN rfl) rfl ?_; clear HF a; intro a HF
              refine pl HF (p_as rfl) rfl (ltN rfl) rfl ?_; clear HF a; intro a HF
              refine pe ?_
              refine tn ?_
              refine c_if HF rfl (fun hc42 => ?_) (fun hc42 => ?_)
              · have hk : (c.toNat : Int) / 6 % 4 = 1 := by simpa using hc42
                refine wp_seq ?_
                -- region 13
                refine wp_region_lit ?_
                refine pl HF (p_fld fo38_0 rfl) rfl (ltN rfl) rfl ?_; clear HF a; intro a HF
                refine g_st (cs' := [_, _, _, _, _, _, _, _, _, _, _, _, _, _, _, _, _, _, _, _, _, _, _, _]) HF HS sz3 rfl rfl rfl rfl rfl (by repeat first | exact .here | apply Upd.there) rfl rfl ?_; clear HS; intro w HS
                refine pe ?_
                refine tn ?_
                refine wp_seq ?_
                -- region 14
                have hp10 := pk_lt (n := 10) (by decide) r
                have hp6 := pk_lt (n := 4) (by decide) (r.drop 6)
                have hd6 : List.drop 1 (List.drop 1 (List.drop 1 (List.drop 1 (List.drop 1 (List.drop 1 r))))) = r.drop 6 := by simp
                refine wp_region_lit ?_
                refine pl HF (p_fld fo38_2 rfl) rfl (ltN rfl) rfl ?_; clear HF a; intro a HF
                refine pl HF (p_as rfl) rfl (ltN rfl) rfl ?_; clear HF a; intro a HF
                refine pe ?_
                refine tn ?_
                refine wp_seq ?_
                -- region 15
                refine wp_region_lit ?_
                refine pl HF (p_mv rfl) rfl (ltN rfl) rfl ?_; clear HF a; intro a HF
                refine pl HF (p_lb HS ak43 rfl (by repeat first | exact .here | apply Pick.there) rfl) rfl (ltN rfl) rfl ?_; clear HF a; intro a HF
                refine g_call HF rfl rfl ent7 (ltN rfl) (r_next b3 _ 10 (by decide) (by decide) _ (HS.pick (A := bcur _ b3 _) (by repeat first | exact .here | apply Pick.there))) ?_; clear HF a; rintro _ w ⟨rfl, HS⟩ a HF
                refine pl HF (p_add rfl rfl (IntWalk.i64_in _ (by omega))) rfl (ltN rfl) rfl ?_; clear HF a; intro a HF
                rw [Int.add_comm _ 1] at HF
                refine pl HF (p_nil rfl) rfl (ltN rfl) rfl ?_; clear HF a; intro a HF
                refine pl HF (p_fld fo36_0 rfl) rfl (ltN rfl) rfl ?_; clear HF a; intro a HF
                refine g_st (cs' := [_, _, _, _, _, _, _, _, _, _, _, _, _, _, _, _, _, _, _, _, _, _, _, _]) HF HS sz3 rfl rfl rfl rfl rfl (by repeat first | exact .here | apply Upd.there) rfl rfl ?_; clear HS; intro w HS
                refine pe ?_
                refine tn ?_
                refine wp_seq ?_
                -- region 16
                refine wp_region_lit ?_
                refine pl HF (p_mv rfl) rfl (ltN rfl) rfl ?_; clear HF a; intro a HF
                refine pl HF (p_lb HS ak43 rfl (by repeat first | exact .here | apply Pick.there) rfl) rfl (ltN rfl) rfl ?_; clear HF a; intro a HF
                refine g_call HF rfl rfl ent7 (ltN rfl) (r_next b3 _ 2 (by decide) (by decide) _ (HS.pick (A := bcur _ b3 _) (by repeat first | exact .here | apply Pick.there))) ?_; clear HF a; rintro _ w ⟨rfl, HS⟩ a HF
                refine pl HF (p_nil rfl) rfl (ltN rfl) rfl ?_; clear HF a; intro a HF
                refine pl HF (p_fld fo36_1 rfl) rfl (ltN rfl) rfl ?_; clear HF a; intro a HF
                refine pl HF (p_fld fo32_0 rfl) rfl (ltN rfl) rfl ?_; clear HF a; intro a HF
                refine g_st (cs' := [_, _, _, _, _, _, _, _, _, _, _, _, _, _, _, _, _, _, _, _, _, _, _, _]) HF HS sz3 rfl rfl rfl rfl rfl (by repeat first | exact .here | apply Upd.there) rfl rfl ?_; clear HS; intro w HS
                refine pe ?_
                refine tn ?_
                refine wp_seq ?_
                -- region 17
                refine wp_region_lit ?_
                refine pl HF (p_mv rfl) rfl (ltN rfl) rfl ?_; clear HF a; intro a HF
                refine pl HF (p_mv rfl) rfl (ltN rfl) rfl ?_; clear HF a; intro a HF
                refine g_call HF rfl rfl ent9 (ltN rfl) (r_origin (hG0.mono hG1) b3 b4 b5 _ _ (((HS.pick (A := blk b5 _ _) (by repeat first | exact .here | apply Pick.there)).pick (A := blk b4 _ _) (by repeat first | exact .here | apply Pick.there)).pick (A := bcur _ b3 _) (by repeat first | exact .here | apply Pick.there))) ?_; clear HF a; rintro _ w ⟨rfl, HS⟩ a HF
                refine pl HF (p_nil rfl) rfl (ltN rfl) rfl ?_; clear HF a; intro a HF
                refine pl HF (p_fld fo36_1 rfl) rfl (ltN rfl) rfl ?_; clear HF a; intro a HF
                refine pl HF (p_fld fo32_1 rfl) rfl (ltN rfl) rfl ?_; clear HF a; intro a HF
                refine g_st (cs' := [_, _, _, _, _, _, _, _, _, _, _, _, _, _, _, _, _, _, _, _, _, _, _, _]) HF HS sz27 rfl rfl rfl rfl rfl (by repeat first | exact .here | apply Upd.there) rfl rfl ?_; clear HS; intro w HS
                refine pe ?_
                refine tn ?_
                refine wp_seq ?_
                -- region 18
                refine wp_region_lit ?_
                refine pl HF (p_mv rfl) rfl (ltN rfl) rfl ?_; clear HF a; intro a HF
                refine pl HF (p_mv rfl) rfl (ltN rfl) rfl ?_; clear HF a; intro a HF
                refine g_call HF rfl rfl ent9 (ltN rfl) (r_origin (hG0.mono hG1) b3 b4 b5 _ _ (((HS.pick (A := blk b5 _ _) (by repeat first | exact .here | apply Pick.there)).pick (A := blk b4 _ _) (by repeat first | exact .here | apply Pick.there)).pick (A := bcur _ b3 _) (by repeat first | exact .here | apply Pick.there))) ?_; clear HF a; rintro _ w ⟨rfl, HS⟩ a HF
                refine pl HF (p_nil rfl) rfl (ltN rfl) rfl ?_; clear HF a; intro a HF
                refine pl HF (p_fld fo36_1 rfl) rfl (ltN rfl) rfl ?_; clear HF a; intro a HF
                refine pl HF (p_fld fo32_2 rfl) rfl (ltN rfl) rfl ?_; clear HF a; intro a HF
                refine pl HF (p_fld fo29_0 rfl) rfl (ltN rfl) rfl ?_; clear HF a; intro a HF
                refine g_st (cs' := [_, _, _, _, _, _, _, _, _, _, _, _, _, _, _, _, _, _, _, _, _, _, _, _]) HF HS sz27 rfl rfl rfl rfl rfl (by repeat first | exact .here | apply Upd.there) rfl rfl ?_; clear HS; intro w HS
                refine pe ?_
                refine tn ?_
                refine wp_seq ?_
                -- region 19
                refine wp_region_lit ?_
                refine pl HF (p_mv rfl) rfl (ltN rfl) rfl ?_; clear HF a; intro a HF
                refine pl HF (p_lb HS ak45 rfl (by repeat first | exact .here | apply Pick.there) rfl) rfl (ltN rfl) rfl ?_; clear HF a; intro a HF
                refine g_bsl (cs := (dPaths).map S) HF HS sl44 zc9 rfl rfl rfl rfl (by kernel_rfl) (ltN rfl) ?_; clear HF HS a; intro a w b74 HF HS
                refine g_call HF rfl rfl ent8 (ltN rfl) (r_text b3 b4 b74 _ dPaths (by decide) (by decide) _ (((HS.pick (A := blk b74 _ _) (by repeat first | exact .here | apply Pick.there)).pick (A := blk b4 _ _) (by repeat first | exact .here | apply Pick.there)).pick (A := bcur _ b3 _) (by repeat first | exact .here | apply Pick.there))) ?_; clear HF a; rintro _ w ⟨rfl, HS⟩ a HF
                refine pl HF (p_nil rfl) rfl (ltN rfl) rfl ?_; clear HF a; intro a HF
                refine pl HF (p_fld fo36_1 rfl) rfl (ltN rfl) rfl ?_; clear HF a; intro a HF
                refine pl HF (p_fld fo32_2 rfl) rfl (ltN rfl) rfl ?_; clear HF a; intro a HF
                refine pl HF (p_fld fo29_1 rfl) rfl (ltN rfl) rfl ?_; clear HF a; intro a HF
                refine g_st (cs' := [_, _, _, _, _, _, _, _, _, _, _, _, _, _, _, _, _, _, _, _, _, _, _, _]) HF HS sz9 rfl rfl rfl rfl rfl (by repeat first | exact .here | apply Upd.there) rfl rfl ?_; clear HS; intro w HS
                refine pe ?_
                refine tn ?_
                refine wp_seq ?_
                -- region 20
                refine wp_region_lit ?_
                refine pl HF (p_mv rfl) rfl (ltN rfl) rfl ?_; clear HF a; intro a HF
                refine pl HF (p_lb HS ak45 rfl (by repeat first | exact .here | apply Pick.there) rfl) rfl (ltN rfl) rfl ?_; clear HF a; intro a HF
                refine g_bsl (cs := (dMethods).map S) HF HS sl44 zc9 rfl rfl rfl rfl (by kernel_rfl) (ltN rfl) ?_; clear HF HS a; intro a w b82 HF HS
                refine g_call HF rfl rfl ent8 (ltN rfl) (r_text b3 b4 b82 _ dMethods (by decide) (by decide) _ (((HS.pick (A := blk b82 _ _) (by repeat first | exact .here | apply Pick.there)).pick (A := blk b4 _ _) (by repeat first | exact .here | apply Pick.there)).pick (A := bcur _ b3 _) (by repeat first | exact .here | apply Pick.there))) ?_; clear HF a; rintro _ w ⟨rfl, HS⟩ a HF
                refine pl HF (p_nil rfl) rfl (ltN rfl) rfl ?_; clear HF a; intro a HF
                refine pl HF (p_fld fo36_1 rfl) rfl (ltN rfl) rfl ?_; clear HF a; intro a HF
                refine pl HF (p_fld fo32_3 rfl) rfl (ltN rfl) rfl ?_; clear HF a; intro a HF
                refine g_st (cs' := [_, _, _, _, _, _, _, _, _, _, _, _, _, _, _, _, _, _, _, _, _, _, _, _]) HF HS sz9 rfl rfl rfl rfl rfl (by repeat first | exact .here | apply Upd.there) rfl rfl ?_; clear HS; intro w HS
                refine pe ?_
                refine tn ?_
                refine wp_seq ?_
                refine wp_seq ?_
                -- region 21
                refine wp_region_lit ?_
                refine pl HF (p_lb HS ak45 rfl (by repeat first | exact .here | apply Pick.there) rfl) rfl (ltN rfl) rfl ?_; clear HF a; intro a HF
                refine g_bsl (cs := (dHd).map S) HF HS sl44 zc9 rfl rfl rfl rfl (by kernel_rfl) (ltN rfl) ?_; clear HF HS a; intro a w b88 HF HS
                refine g_call HF rfl rfl ent8 (ltN rfl) (r_text b3 b4 b88 _ dHd (by decide) (by decide) _ (((HS.pick (A := blk b88 _ _) (by repeat first | exact .here | apply Pick.there)).pick (A := blk b4 _ _) (by repeat first | exact .here | apply Pick.there)).pick (A := bcur _ b3 _) (by repeat first | exact .here | apply Pick.there))) ?_; clear HF a; rintro _ w ⟨rfl, HS⟩ a HF
                rw [hd6] at HF
                refine pl HF (p_as rfl) rfl (ltN rfl) rfl ?_; clear HF a; intro a HF
                refine pe ?_
                refine tn ?_
                refine wp_seq ?_
                -- region 22
                refine wp_region_lit ?_
                refine pl HF (p_mv rfl) rfl (ltN rfl) rfl ?_; clear HF a; intro a HF
                refine pl HF (p_sne rfl rfl) rfl (ltN rfl) rfl ?_; clear HF a; intro a HF
                refine pe ?_
                refine tn ?_
                refine c_if HF rfl (fun hc91 => ?_) (fun hc91 => ?_)
                · have hh := dHd_ne hp6 hc91
                  -- region 23
                  refine wp_region_lit ?_
                  refine pl HF (p_mv rfl) rfl (ltN rfl) rfl ?_; clear HF a; intro a HF
                  refine pl HF (p_mv rfl) rfl (ltN rfl) rfl ?_; clear HF a; intro a HF
                  refine pl HF (p_bd (cs := [_, _]) pc52 zc52 rfl rfl) rfl (ltN rfl) rfl ?_; clear HF a; intro a HF
                  refine g_bsl (cs := [_, _]) HF HS sl30 zc52 rfl rfl rfl rfl rfl (ltN rfl) ?_; clear HF HS a; intro a w b95 HF HS
                  refine pl HF (p_nil rfl) rfl (ltN rfl) rfl ?_; clear HF a; intro a HF
                  refine pl HF (p_fld fo36_1 rfl) rfl (ltN rfl) rfl ?_; clear HF a; intro a HF
                  refine pl HF (p_fld fo32_4 rfl) rfl (ltN rfl) rfl ?_; clear HF a; intro a HF
                  refine g_st (cs' := [_, _, _, _, _, _, _, _, _, _, _, _, _, _, _, _, _, _, _, _, _, _, _, _]) HF HS sz30 rfl rfl rfl rfl rfl (by repeat first | exact .here | apply Upd.there) rfl rfl ?_; clear HS; intro w HS
                  refine pe ?_
                  obtain ⟨G2, hG2, hb95, HS⟩ := (HS.pick (A := blk b95 _ _) (by repeat first | exact .here | apply Pick.there)).freeze
                  refine tn ?_
                  refine wp_seq ?_
                  -- region 24
                  refine wp_region_lit ?_
                  refine pl HF (p_mv rfl) rfl (ltN rfl) rfl ?_; clear HF a; intro a HF
                  refine pl HF (p_lb HS ak43 rfl (by repeat first | exact .here | apply Pick.there) rfl) rfl (ltN rfl) rfl ?_; clear HF a; intro a HF
                  refine g_call HF rfl rfl ent7 (ltN rfl) (r_next b3 _ 2 (by decide) (by decide) _ (HS.pick (A := bcur _ b3 _) (by repeat first | exact .here | apply Pick.there))) ?_; clear HF a; rintro _ w ⟨rfl, HS⟩ a HF
                  refine pl HF (p_ieq rfl rfl) rfl (ltN rfl) rfl ?_; clear HF a; intro a HF
                  refine pl HF (p_nil rfl) rfl (ltN rfl) rfl ?_; clear HF a; intro a HF
                  refine pl HF (p_fld fo36_1 rfl) rfl (ltN rfl) rfl ?_; clear HF a; intro a HF
                  refine pl HF (p_fld fo32_5 rfl) rfl (ltN rfl) rfl ?_; clear HF a; intro a HF
                  refine g_st (cs' := [_, _, _, _, _, _, _, _, _, _, _, _, _, _, _, _, _, _, _, _, _, _, _, _]) HF HS sz4 rfl rfl rfl rfl rfl (by repeat first | exact .here | apply Upd.there) rfl rfl ?_; clear HS; intro w HS
                  refine pe ?_
                  refine tn ?_
                  refine wp_seq ?_
                  -- region 25
                  refine wp_region_lit ?_
                  refine pl HF (p_mv rfl) rfl (ltN rfl) rfl ?_; clear HF a; intro a HF
                  refine pl HF (p_lb HS ak43 rfl (by repeat first | exact .here | apply Pick.there) rfl) rfl (ltN rfl) rfl ?_; clear HF a; intro a HF
                  refine g_call HF rfl rfl ent7 (ltN rfl) (r_next b3 _ 4 (by decide) (by decide) _ (HS.pick (A := bcur _ b3 _) (by repeat first | exact .here | apply Pick.there))) ?_; clear HF a; rintro _ w ⟨rfl, HS⟩ a HF
                  refine pl HF (p_ieq rfl rfl) rfl (ltN rfl) rfl ?_; clear HF a; intro a HF
                  refine pl HF (p_nil rfl) rfl (ltN rfl) rfl ?_; clear HF a; intro a HF
                  refine pl HF (p_fld fo36_2 rfl) rfl (ltN rfl) rfl ?_; clear HF a; intro a HF
                  refine g_st (cs' := [_, _, _, _, _, _, _, _, _, _, _, _, _, _, _, _, _, _, _, _, _, _, _, _]) HF HS sz4 rfl rfl rfl rfl rfl (by repeat first | exact .here | apply Upd.there) rfl rfl ?_; clear HS; intro w HS
                  refine pe ?_
                  refine tn ?_
                  refine wp_seq ?_
                  -- region 26
                  refine wp_region_lit ?_
                  refine pl HF (p_mv rfl) rfl (ltN rfl) rfl ?_; clear HF a; intro a HF
                  refine pl HF (p_lb HS ak45 rfl (by repeat first | exact .here | apply Pick.there) rfl) rfl (ltN rfl) rfl ?_; clear HF a; intro a HF
                  refine g_bsl (cs := (dTexts).map S) HF HS sl44 zc9 rfl rfl rfl rfl (by kernel_rfl) (ltN rfl) ?_; clear HF HS a; intro a w b114 HF HS
                  refine g_call HF rfl rfl ent8 (ltN rfl) (r_text b3 b4 b114 _ dTexts (by decide) (by decide) _ (((HS.pick (A := blk b114 _ _) (by repeat first | exact .here | apply Pick.there)).pick (A := blk b4 _ _) (by repeat first | exact .here | apply Pick.there)).pick (A := bcur _ b3 _) (by repeat first | exact .here | apply Pick.there))) ?_; clear HF a; rintro _ w ⟨rfl, HS⟩ a HF
                  refine pl HF (p_nil rfl) rfl (ltN rfl) rfl ?_; clear HF a; intro a HF
                  refine pl HF (p_fld fo36_3 rfl) rfl (ltN rfl) rfl ?_; clear HF a; intro a HF
                  refine g_st (cs' := [_, _, _, _, _, _, _, _, _, _, _, _, _, _, _, _, _, _, _, _, _, _, _, _]) HF HS sz9 rfl rfl rfl rfl rfl (by repeat first | exact .here | apply Upd.there) rfl rfl ?_; clear HS; intro w HS
                  refine pe ?_
                  refine tn ?_
                  refine wp_seq ?_
                  -- region 27
                  refine wp_region_lit ?_
                  refine pl HF (p_mv rfl) rfl (ltN rfl) rfl ?_; clear HF a; intro a HF
                  refine pl HF (p_lb HS ak45 rfl (by repeat first | exact .here | apply Pick.there) rfl) rfl (ltN rfl) rfl ?_; clear HF a; intro a HF
                  refine g_bsl (cs := (dUsers).map S) HF HS sl44 zc9 rfl rfl rfl rfl (by kernel_rfl) (ltN rfl) ?_; clear HF HS a; intro a w b120 HF HS
                  refine g_call HF rfl rfl ent8 (ltN rfl) (r_text b3 b4 b120 _ dUsers (by decide) (by decide) _ (((HS.pick (A := blk b120 _ _) (by repeat first | exact .here | apply Pick.there)).pick (A := blk b4 _ _) (by repeat first | exact .here | apply Pick.there)).pick (A := bcur _ b3 _) (by repeat first | exact .here | apply Pick.there))) ?_; clear HF a; rintro _ w ⟨rfl, HS⟩ a HF
                  refine pl HF (p_nil rfl) rfl (ltN rfl) rfl ?_; clear HF a; intro a HF
                  refine pl HF (p_fld fo36_4 rfl) rfl (ltN rfl) rfl ?_; clear HF a; intro a HF
                  refine pl HF (p_fld fo34_0 rfl) rfl (ltN rfl) rfl ?_; clear HF a; intro a HF
                  refine g_st (cs' := [_, _, _, _, _, _, _, _, _, _, _, _, _, _, _, _, _, _, _, _, _, _, _, _]) HF HS sz9 rfl rfl rfl rfl rfl (by repeat first | exact .here | apply Upd.there) rfl rfl ?_; clear HS; intro w HS
                  refine pe ?_
                  refine tn ?_
                  refine wp_seq ?_
                  -- region 28
                  refine wp_region_lit ?_
                  refine pl HF (p_mv rfl) rfl (ltN rfl) rfl ?_; clear HF a; intro a HF
                  refine pl HF (p_lb HS ak45 rfl (by repeat first | exact .here | apply Pick.there) rfl) rfl (ltN rfl) rfl ?_; clear HF a; intro a HF
                  refine g_bsl (cs := (dPasses).map S) HF HS sl44 zc9 rfl rfl rfl rfl (by kernel_rfl) (ltN rfl) ?_; clear HF HS a; intro a w b127 HF HS
                  refine g_call HF rfl rfl ent8 (ltN rfl) (r_text b3 b4 b127 _ dPasses (by decide) (by decide) _ (((HS.pick (A := blk b127 _ _) (by repeat first | exact .here | apply Pick.there)).pick (A := blk b4 _ _) (by repeat first | exact .here | apply Pick.there)).pick (A := bcur _ b3 _) (by repeat first | exact .here | apply Pick.there))) ?_; clear HF a; rintro _ w ⟨rfl, HS⟩ a HF
                  refine pl HF (p_nil rfl) rfl (ltN rfl) rfl ?_; clear HF a; intro a HF
                  refine pl HF (p_fld fo36_4 rfl) rfl (ltN rfl) rfl ?_; clear HF a; intro a HF
                  refine pl HF (p_fld fo34_1 rfl) rfl (ltN rfl) rfl ?_; clear HF a; intro a HF
                  refine g_st (cs' := [_, _, _, _, _, _, _, _, _, _, _, _, _, _, _, _, _, _, _, _, _, _, _, _]) HF HS sz9 rfl rfl rfl rfl rfl (by repeat first | exact .here | apply Upd.there) rfl rfl ?_; clear HS; intro w HS
                  refine pe ?_
                  refine tn ?_
                  refine wp_seq ?_
                  -- region 29
                  refine wp_region_lit ?_
                  refine pl HF (p_mv rfl) rfl (ltN rfl) rfl ?_; clear HF a; intro a HF
                  refine pl HF (p_lb HS ak45 rfl (by repeat first | exact .here | apply Pick.there) rfl) rfl (ltN rfl) rfl ?_; clear HF a; intro a HF
                  refine g_bsl (cs := (dNonces).map S) HF HS sl44 zc9 rfl rfl rfl rfl (by kernel_rfl) (ltN rfl) ?_; clear HF HS a; intro a w b134 HF HS
                  refine g_call HF rfl rfl ent8 (ltN rfl) (r_text b3 b4 b134 _ dNonces (by decide) (by decide) _ (((HS.pick (A := blk b134 _ _) (by repeat first | exact .here | apply Pick.there)).pick (A := blk b4 _ _) (by repeat first | exact .here | apply Pick.there)).pick (A := bcur _ b3 _) (by repeat first | exact .here | apply Pick.there))) ?_; clear HF a; rintro _ w ⟨rfl, HS⟩ a HF
                  refine pl HF (p_nil rfl) rfl (ltN rfl) rfl ?_; clear HF a; intro a HF
                  refine pl HF (p_fld fo36_5 rfl) rfl (ltN rfl) rfl ?_; clear HF a; intro a HF
                  refine g_st (cs' := [_, _, _, _, _, _, _, _, _, _, _, _, _, _, _, _, _, _, _, _, _, _, _, _]) HF HS sz9 rfl rfl rfl rfl rfl (by repeat first | exact .here | apply Upd.there) rfl rfl ?_; clear HS; intro w HS
                  refine pe ?_
                  refine tn ?_
                  refine wp_seq ?_
                  -- region 30
                  refine wp_region_lit ?_
                  refine pl HF (p_mv rfl) rfl (ltN rfl) rfl ?_; clear HF a; intro a HF
                  refine pl HF (p_lb HS ak43 rfl (by repeat first | exact .here | apply Pick.there) rfl) rfl (ltN rfl) rfl ?_; clear HF a; intro a HF
                  refine g_call HF rfl rfl ent7 (ltN rfl) (r_next b3 _ 4 (by decide) (by decide) _ (HS.pick (A := bcur _ b3 _) (by repeat first | exact .here | apply Pick.there))) ?_; clear HF a; rintro _ w ⟨rfl, HS⟩ a HF
                  refine pl HF (p_nil rfl) rfl (ltN rfl) rfl ?_; clear HF a; intro a HF
                  refine pl HF (p_fld fo36_6 rfl) rfl (ltN rfl) rfl ?_; clear HF a; intro a HF
                  refine g_st (cs' := [_, _, _, _, _, _, _, _, _, _, _, _, _, _, _, _, _, _, _, _, _, _, _, _]) HF HS sz3 rfl rfl rfl rfl rfl (by repeat first | exact .here | apply Upd.there) rfl rfl ?_; clear HS; intro w HS
                  refine pe ?_
                  refine tn ?_
                  refine wp_seq ?_
                  -- region 31
                  refine wp_region_lit ?_
                  refine pl HF (p_mv rfl) rfl (ltN rfl) rfl ?_; clear HF a; intro a HF
                  refine pl HF (p_lb HS ak43 rfl (by repeat first | exact .here | apply Pick.there) rfl) rfl (ltN rfl) rfl ?_; clear HF a; intro a HF
                  refine g_call HF rfl rfl ent7 (ltN rfl) (r_next b3 _ 4 (by decide) (by decide) _ (HS.pick (A := bcur _ b3 _) (by repeat first | exact .here | apply Pick.there))) ?_; clear HF a; rintro _ w ⟨rfl, HS⟩ a HF
                  refine pl HF (p_ieq rfl rfl) rfl (ltN rfl) rfl ?_; clear HF a; intro a HF
                  refine pl HF (p_nil rfl) rfl (ltN rfl) rfl ?_; clear HF a; intro a HF
                  refine pl HF (p_fld fo36_7 rfl) rfl (ltN rfl) rfl ?_; clear HF a; intro a HF
                  refine g_st (cs' := [_, _, _, _, _, _, _, _, _, _, _, _, _, _, _, _, _, _, _, _, _, _, _, _]) HF HS sz4 rfl rfl rfl rfl rfl (by repeat first | exact .here | apply Upd.there) rfl rfl ?_; clear HS; intro w HS
                  refine pe ?_
                  refine tn ?_
                  -- region 32
                  refine wp_region_lit ?_
                  refine pl HF (p_mv rfl) rfl (ltN rfl) rfl ?_; clear HF a; intro a HF
                  refine pl HF (p_lb HS ak43 rfl (by repeat first | exact .here | apply Pick.there) rfl) rfl (ltN rfl) rfl ?_; clear HF a; intro a HF
                  refine g_call HF rfl rfl ent7 (ltN rfl) (r_next b3 _ 10 (by decide) (by decide) _ (HS.pick (A := bcur _ b3 _) (by repeat first | exact .here | apply Pick.there))) ?_; clear HF a; rintro _ w ⟨rfl, HS⟩ a HF
                  refine pl HF (p_nil rfl) rfl (ltN rfl) rfl ?_; clear HF a; intro a HF
                  refine pl HF (p_fld fo36_8 rfl) rfl (ltN rfl) rfl ?_; clear HF a; intro a HF
                  refine g_st (cs' := [_, _, _, _, _, _, _, _, _, _, _, _, _, _, _, _, _, _, _, _, _, _, _, _]) HF HS sz3 rfl rfl rfl rfl rfl (by repeat first | exact .here | apply Upd.there) rfl rfl ?_; clear HS; intro w HS
                  refine pe ?_
                  refine bn ?_
                  refine tn ?_
                  try simp only [List.drop_drop, Nat.reduceAdd] at HS
                  first
                    | exact ⟨⟨2, (c.toNat : Int) % 6, .zero⟩, r, _, G1, dM2 r hk2.1 (by omega), Nat.le_refl _, Gh.le.refl _, RP.nil _, HF.cut [3, 4, 5, 6, 7, 9] rfl, ((((((HS.pick (A := blk b5 _ _) (by repeat first | exact .here | apply Pick.there)).pick (A := blk b4 _ _) (by repeat first | exact .here | apply Pick.there)).pick (A := bcur _ b3 _) (by repeat first | exact .here | apply Pick.there)).pick (A := own _ _ _ _ _) (by repeat first | exact .here | apply Pick.there)).pick (A := blk b9 _ _) (by repeat first | exact .here | apply Pick.there))).wk (by repeat first | exact .refl | apply Wk.cons | apply Wk.skip)⟩
                    | exact ⟨⟨1, (c.toNat : Int) % 6, dOp r⟩, r.drop 16, _, G2, dM1 r hk, by simp, hG2, by show RP G2 _ (dHeadsOf (pk 4 (r.drop 6))); unfold dHeadsOf; rw [if_neg (by omega), ← dHd_eq hh]; exact RP.one hb95 rfl, HF.cut [3, 4, 5, 6, 7, 9] rfl, ((((((HS.pick (A := blk b5 _ _) (by repeat first | exact .here | apply Pick.there)).pick (A := blk b4 _ _) (by repeat first | exact .here | apply Pick.there)).pick (A := bcur _ b3 _) (by repeat first | exact .here | apply Pick.there)).pick (A := own _ _ _ _ _) (by repeat first | exact .here | apply Pick.there)).pick (A := blk b9 _ _) (by repeat first | exact .here | apply Pick.there))).wk (by repeat first | exact .refl | apply Wk.cons | apply Wk.skip)⟩
                    | exact ⟨⟨1, (c.toNat : Int) % 6, dOp r⟩, r.drop 16, _, G1, dM1 r hk, by simp, Gh.le.refl _, by show RP G1 _ (dHeadsOf (pk 4 (r.drop 6))); rw [hh]; exact RP.nil _, HF.cut [3, 4, 5, 6, 7, 9] rfl, ((((((HS.pick (A := blk b5 _ _) (by repeat first | exact .here | apply Pick.there)).pick (A := blk b4 _ _) (by repeat first | exact .here | apply Pick.there)).pick (A := bcur _ b3 _) (by repeat first | exact .here | apply Pick.there)).pick (A := own _ _ _ _ _) (by repeat first | exact .here | apply Pick.there)).pick (A := blk b9 _ _) (by repeat first | exact .here | apply Pick.there))).wk (by repeat first | exact .refl | apply Wk.cons | apply Wk.skip)⟩
                    | exact ⟨⟨0, (c.toNat : Int) % 6, .zero⟩, r, _, G1, dM0 r hk1 (fun h => by omega), Nat.le_refl _, Gh.le.refl _, RP.nil _, HF.cut [3, 4, 5, 6, 7, 9] rfl, ((((((HS.pick (A := blk b5 _ _) (by repeat first | exact .here | apply Pick.there)).pick (A := blk b4 _ _) (by repeat first | exact .here | apply Pick.there)).pick (A := bcur _ b3 _) (by repeat first | exact .here | apply Pick.there)).pick (A := own _ _ _ _ _) (by repeat first | exact .here | apply Pick.there)).pick (A := blk b9 _ _) (by repeat first | exact .here | apply Pick.there))).wk (by repeat first | exact .refl | apply Wk.cons | apply Wk.skip)⟩
                · have hh := dHd_e hp6 hc91
                  refine wp_skip ?_
                  refine tn ?_
                  refine wp_seq ?_
                  -- region 24
                  refine wp_region_lit ?_
                  refine pl HF (p_mv rfl) rfl (ltN rfl) rfl ?_; clear HF a; intro a HF
                  refine pl HF (p_lb HS ak43 rfl (by repeat first | exact .here | apply Pick.there) rfl) rfl (ltN rfl) rfl ?_; clear HF a; intro a HF
                  refine g_call HF rfl rfl ent7 (ltN rfl) (r_next b3 _ 2 (by decide) (by decide) _ (HS.pick (A := bcur _ b3 _) (by repeat first | exact .here | apply Pick.there))) ?_; clear HF a; rintro _ w ⟨rfl, HS⟩ a HF
                  refine pl HF (p_ieq rfl rfl) rfl (ltN rfl) rfl ?_; clear HF a; intro a HF
                  refine pl HF (p_nil rfl) rfl (ltN rfl) rfl ?_; clear HF a; intro a HF
                  refine pl HF (p_fld fo36_1 rfl) rfl (ltN rfl) rfl ?_; clear HF a; intro a HF
                  refine pl HF (p_fld fo32_5 rfl) rfl (ltN rfl) rfl ?_; clear HF a; intro a HF
                  refine g_st (cs' := [_, _, _, _, _, _, _, _, _, _, _, _, _, _, _, _, _, _, _, _, _, _, _, _]) HF HS sz4 rfl rfl rfl rfl rfl (by repeat first | exact .here | apply Upd.there) rfl rfl ?_; clear HS; intro w HS
                  refine pe ?_
                  refine tn ?_
                  refine wp_seq ?_
                  -- region 25
                  refine wp_region_lit ?_
                  refine pl HF (p_mv rfl) rfl (ltN rfl) rfl ?_; clear HF a; intro a HF
                  refine pl HF (p_lb HS ak43 rfl (by repeat first | exact .here | apply Pick.there) rfl) rfl (ltN rfl) rfl ?_; clear HF a; intro a HF
                  refine g_call HF rfl rfl ent7 (ltN rfl) (r_next b3 _ 4 (by decide) (by decide) _ (HS.pick (A := bcur _ b3 _) (by repeat first | exact .here | apply Pick.there))) ?_; clear HF a; rintro _ w ⟨rfl, HS⟩ a HF
                  refine pl HF (p_ieq rfl rfl) rfl (ltN rfl) rfl ?_; clear HF a; intro a HF
                  refine pl HF (p_nil rfl) rfl (ltN rfl) rfl ?_; clear HF a; intro a HF
                  refine pl HF (p_fld fo36_2 rfl) rfl (ltN rfl) rfl ?_; clear HF a; intro a HF
                  refine g_st (cs' := [_, _, _, _, _, _, _, _, _, _, _, _, _, _, _, _, _, _, _, _, _, _, _, _]) HF HS sz4 rfl rfl rfl rfl rfl (by repeat first | exact .here | apply Upd.there) rfl rfl ?_; clear HS; intro w HS
                  refine pe ?_
                  refine tn ?_
                  refine wp_seq ?_
                  -- region 26
                  refine wp_region_lit ?_
                  refine pl HF (p_mv rfl) rfl (ltN rfl) rfl ?_; clear HF a; intro a HF
                  refine pl HF (p_lb HS ak45 rfl (by repeat first | exact .here | apply Pick.there) rfl) rfl (ltN rfl) rfl ?_; clear HF a; intro a HF
                  refine g_bsl (cs := (dTexts).map S) HF HS sl44 zc9 rfl rfl rfl rfl (by kernel_rfl) (ltN rfl) ?_; clear HF HS a; intro a w b114 HF HS
                  refine g_call HF rfl rfl ent8 (ltN rfl) (r_text b3 b4 b114 _ dTexts (by decide) (by decide) _ (((HS.pick (A := blk b114 _ _) (by repeat first | exact .here | apply Pick.there)).pick (A := blk b4 _ _) (by repeat first | exact .here | apply Pick.there)).pick (A := bcur _ b3 _) (by repeat first | exact .here | apply Pick.there))) ?_; clear HF a; rintro _ w ⟨rfl, HS⟩ a HF
                  refine pl HF (p_nil rfl) rfl (ltN rfl) rfl ?_; clear HF a; intro a HF
                  refine pl HF (p_fld fo36_3 rfl) rfl (ltN rfl) rfl ?_; clear HF a; intro a HF
                  refine g_st (cs' := [_, _, _, _, _, _, _, _, _, _, _, _, _, _, _, _, _, _, _, _, _, _, _, _]) HF HS sz9 rfl rfl rfl rfl rfl (by repeat first | exact .here | apply Upd.there) rfl rfl ?_; clear HS; intro w HS
                  refine pe ?_
                  refine tn ?_
                  refine wp_seq ?_
                  -- region 27
                  refine wp_region_lit ?_
                  refine pl HF (p_mv rfl) rfl (ltN rfl) rfl ?_; clear HF a; intro a HF
                  refine pl HF (p_lb HS ak45 rfl (by repeat first | exact .here | apply Pick.there) rfl) rfl (ltN rfl) rfl ?_; clear HF a; intro a HF
                  refine g_bsl (cs := (dUsers).map S) HF HS sl44 zc9 rfl rfl rfl rfl (by kernel_rfl) (ltN rfl) ?_; clear HF HS a; intro a w b120 HF HS
                  refine g_call HF rfl rfl ent8 (ltN rfl) (r_text b3 b4 b120 _ dUsers (by decide) (by decide) _ (((HS.pick (A := blk b120 _ _) (by repeat first | exact .here | apply Pick.there)).pick (A := blk b4 _ _) (by repeat first | exact .here | apply Pick.there)).pick (A := bcur _ b3 _) (by repeat first | exact .here | apply Pick.there))) ?_; clear HF a; rintro _ w ⟨rfl, HS⟩ a HF
                  refine pl HF (p_nil rfl) rfl (ltN rfl) rfl ?_; clear HF a; intro a HF
                  refine pl HF (p_fld fo36_4 rfl) rfl (ltN rfl) rfl ?_; clear HF a; intro a HF
                  refine pl HF (p_fld fo34_0 rfl) rfl (ltN rfl) rfl ?_; clear HF a; intro a HF
                  refine g_st (cs' := [_, _, _, _, _, _, _, _, _, _, _, _, _, _, _, _, _, _, _, _, _, _, _, _]) HF HS sz9 rfl rfl rfl rfl rfl (by repeat first | exact .here | apply Upd.there) rfl rfl ?_; clear HS; intro w HS
                  refine pe ?_
                  refine tn ?_
                  refine wp_seq ?_
                  -- region 28
                  refine wp_region_lit ?_
                  refine pl HF (p_mv rfl) rfl (ltN rfl) rfl ?_; clear HF a; intro a HF
                  refine pl HF (p_lb HS ak45 rfl (by repeat first | exact .here | apply Pick.there) rfl) rfl (ltN rfl) rfl ?_; clear HF a; intro a HF
                  refine g_bsl (cs := (dPasses).map S) HF HS sl44 zc9 rfl rfl rfl rfl (by kernel_rfl) (ltN rfl) ?_; clear HF HS a; intro a w b127 HF HS
                  refine g_call HF rfl rfl ent8 (ltN rfl) (r_text b3 b4 b127 _ dPasses (by decide) (by decide) _ (((HS.pick (A := blk b127 _ _) (by repeat first | exact .here | apply Pick.there)).pick (A := blk b4 _ _) (by repeat first | exact .here | apply Pick.there)).pick (A := bcur _ b3 _) (by repeat first | exact .here | apply Pick.there))) ?_; clear HF a; rintro _ w ⟨rfl, HS⟩ a HF
                  refine pl HF (p_nil rfl) rfl (ltN rfl) rfl ?_; clear HF a; intro a HF
                  refine pl HF (p_fld fo36_4 rfl) rfl (ltN rfl) rfl ?_; clear HF a; intro a HF
                  refine pl HF (p_fld fo34_1 rfl) rfl (ltN rfl) rfl ?_; clear HF a; intro a HF
                  refine g_st (cs' := [_, _, _, _, _, _, _, _, _, _, _, _, _, _, _, _, _, _, _, _, _, _, _, _]) HF HS sz9 rfl rfl rfl rfl rfl (by repeat first | exact .here | apply Upd.there) rfl rfl ?_; clear HS; intro w HS
                  refine pe ?_
                  refine tn ?_
                  refine wp_seq ?_
                  -- region 29
                  refine wp_region_lit ?_
                  refine pl HF (p_mv rfl) rfl (ltN rfl) rfl ?_; clear HF a; intro a HF
                  refine pl HF (p_lb HS ak45 rfl (by repeat first | exact .here | apply Pick.there) rfl) rfl (ltN rfl) rfl ?_; clear HF a; intro a HF
                  refine g_bsl (cs := (dNonces).map S) HF HS sl44 zc9 rfl rfl rfl rfl (by kernel_rfl) (ltN rfl) ?_; clear HF HS a; intro a w b134 HF HS
                  refine g_call HF rfl rfl ent8 (ltN rfl) (r_text b3 b4 b134 _ dNonces (by decide) (by decide) _ (((HS.pick (A := blk b134 _ _) (by repeat first | exact .here | apply Pick.there)).pick (A := blk b4 _ _) (by repeat first | exact .here | apply Pick.there)).pick (A := bcur _ b3 _) (by repeat first | exact .here | apply Pick.there))) ?_; clear HF a; rintro _ w ⟨rfl, HS⟩ a HF
                  refine pl HF (p_nil rfl) rfl (ltN rfl) rfl ?_; clear HF a; intro a HF
                  refine pl HF (p_fld fo36_5 rfl) rfl (ltN rfl) rfl ?_; clear HF a; intro a HF
                  refine g_st (cs' := [_, _, _, _, _, _, _, _, _, _, _, _, _, _, _, _, _, _, _, _, _, _, _, _]) HF HS sz9 rfl rfl rfl rfl rfl (by repeat first | exact .here | apply Upd.there) rfl rfl ?_; clear HS; intro w HS
                  refine pe ?_
                  refine tn ?_
                  refine wp_seq ?_
                  -- region 30
                  refine wp_region_lit ?_
                  refine pl HF (p_mv rfl) rfl (ltN rfl) rfl ?_; clear HF a; intro a HF
                  refine pl HF (p_lb HS ak43 rfl (by repeat first | exact .here | apply Pick.there) rfl) rfl (ltN rfl) rfl ?_; clear HF a; intro a HF
                  refine g_call HF rfl rfl ent7 (ltN rfl) (r_next b3 _ 4 (by decide) (by decide) _ (HS.pick (A := bcur _ b3 _) (by repeat first | exact .here | apply Pick.there))) ?_; clear HF a; rintro _ w ⟨rfl, HS⟩ a HF
                  refine pl HF (p_nil rfl) rfl (ltN rfl) rfl ?_; clear HF a; intro a HF
                  refine pl HF (p_fld fo36_6 rfl) rfl (ltN rfl) rfl ?_; clear HF a; intro a HF
                  refine g_st (cs' := [_, _, _, _, _, _, _, _, _, _, _, _, _, _, _, _, _, _, _, _, _, _, _, _]) HF HS sz3 rfl rfl rfl rfl rfl (by repeat first | exact .here | apply Upd.there) rfl rfl ?_; clear HS; intro w HS
                  refine pe ?_
                  refine tn ?_
                  refine wp_seq ?_
                  -- region 31
                  refine wp_region_lit ?_
                  refine pl HF (p_mv rfl) rfl (ltN rfl) rfl ?_; clear HF a; intro a HF
                  refine pl HF (p_lb HS ak43 rfl (by repeat first | exact .here | apply Pick.there) rfl) rfl (ltN rfl) rfl ?_; clear HF a; intro a HF
                  refine g_call HF rfl rfl ent7 (ltN rfl) (r_next b3 _ 4 (by decide) (by decide) _ (HS.pick (A := bcur _ b3 _) (by repeat first | exact .here | apply Pick.there))) ?_; clear HF a; rintro _ w ⟨rfl, HS⟩ a HF
                  refine pl HF (p_ieq rfl rfl) rfl (ltN rfl) rfl ?_; clear HF a; intro a HF
                  refine pl HF (p_nil rfl) rfl (ltN rfl) rfl ?_; clear HF a; intro a HF
                  refine pl HF (p_fld fo36_7 rfl) rfl (ltN rfl) rfl ?_; clear HF a; intro a HF
                  refine g_st (cs' := [_, _, _, _, _, _, _, _, _, _, _, _, _, _, _, _, _, _, _, _, _, _, _, _]) HF HS sz4 rfl rfl rfl rfl rfl (by repeat first | exact .here | apply Upd.there) rfl rfl ?_; clear HS; intro w HS
                  refine pe ?_
                  refine tn ?_
                  -- region 32
                  refine wp_region_lit ?_
                  refine pl HF (p_mv rfl) rfl (ltN rfl) rfl ?_; clear HF a; intro a HF
                  refine pl HF (p_lb HS ak43 rfl (by repeat first | exact .here | apply Pick.there) rfl) rfl (ltN rfl) rfl ?_; clear HF a; intro a HF
                  refine g_call HF rfl rfl ent7 (ltN rfl) (r_next b3 _ 10 (by decide) (by decide) _ (HS.pick (A := bcur _ b3 _) (by repeat first | exact .here | apply Pick.there))) ?_; clear HF a; rintro _ w ⟨rfl, HS⟩ a HF
                  refine pl HF (p_nil rfl) rfl (ltN rfl) rfl ?_; clear HF a; intro a HF
                  refine pl HF (p_fld fo36_8 rfl) rfl (ltN rfl) rfl ?_; clear HF a; intro a HF
                  refine g_st (cs' := [_, _, _, _, _, _, _, _, _, _, _, _, _, _, _, _, _, _, _, _, _, _, _, _]) HF HS sz3 rfl rfl rfl rfl rfl (by repeat first | exact .here | apply Upd.there) rfl rfl ?_; clear HS; intro w HS
                  refine pe ?_
                  refine bn ?_
                  refine tn ?_
                  try simp only [List.drop_drop, Nat.reduceAdd] at HS
                  first
                    | exact ⟨⟨2, (c.toNat : Int) % 6, .zero⟩, r, _, G1, dM2 r hk2.1 (by omega), Nat.le_refl _, Gh.le.refl _, RP.nil _, HF.cut [3, 4, 5, 6, 7, 9] rfl, ((((((HS.pick (A := blk b5 _ _) (by repeat first | exact .here | apply Pick.there)).pick (A := blk b4 _ _) (by repeat first | exact .here | apply Pick.there)).pick (A := bcur _ b3 _) (by repeat first | exact .here | apply Pick.there)).pick (A := own _ _ _ _ _) (by repeat first | exact .here | apply Pick.there)).pick (A := blk b9 _ _) (by repeat first | exact .here | apply Pick.there))).wk (by repeat first | exact .refl | apply Wk.cons | apply Wk.skip)⟩
                    | exact ⟨⟨1, (c.toNat : Int) % 6, dOp r⟩, r.drop 16, _, G2, dM1 r hk, by simp, hG2, by show RP G2 _ (dHeadsOf (pk 4 (r.drop 6))); unfold dHeadsOf; rw [if_neg (by omega), ← dHd_eq hh]; exact RP.one hb95 rfl, HF.cut [3, 4, 5, 6, 7, 9] rfl, ((((((HS.pick (A := blk b5 _ _) (by repeat first | exact .here | apply Pick.there)).pick (A := blk b4 _ _) (by repeat first | exact .here | apply Pick.there)).pick (A := bcur _ b3 _) (by repeat first | exact .here | apply Pick.there)).pick (A := own _ _ _ _ _) (by repeat first | exact .here | apply Pick.there)).pick (A := blk b9 _ _) (by repeat first | exact .here | apply Pick.there))).wk (by repeat first | exact .refl | apply Wk.cons | apply Wk.skip)⟩
                    | exact ⟨⟨1, (c.toNat : Int) % 6, dOp r⟩, r.drop 16, _, G1, dM1 r hk, by simp, Gh.le.refl _, by show RP G1 _ (dHeadsOf (pk 4 (r.drop 6))); rw [hh]; exact RP.nil _, HF.cut [3, 4, 5, 6, 7, 9] rfl, ((((((HS.pick (A := blk b5 _ _) (by repeat first | exact .here | apply Pick.there)).pick (A := blk b4 _ _) (by repeat first | exact .here | apply Pick.there)).pick (A := bcur _ b3 _) (by repeat first | exact .here | apply Pick.there)).pick (A := own _ _ _ _ _) (by repeat first | exact .here | apply Pick.there)).pick (A := blk b9 _ _) (by repeat first | exact .here | apply Pick.there))).wk (by repeat first | exact .refl | apply Wk.cons | apply Wk.skip)⟩
                    | exact ⟨⟨0, (c.toNat : Int) % 6, .zero⟩, r, _, G1, dM0 r hk1 (fun h => by omega), Nat.le_refl _, Gh.le.refl _, RP.nil _, HF.cut [3, 4, 5, 6, 7, 9] rfl, ((((((HS.pick (A := blk b5 _ _) (by repeat first | exact .here | apply Pick.there)).pick (A := blk b4 _ _) (by repeat first | exact .here | apply Pick.there)).pick (A := bcur _ b3 _) (by repeat first | exact .here | apply Pick.there)).pick (A := own _ _ _ _ _) (by repeat first | exact .here | apply Pick.there)).pick (A := blk b9 _ _) (by repeat first | exact .here | apply Pick.there))).wk (by repeat first | exact .refl | apply Wk.cons | apply Wk.skip)⟩
              · have hk1 : ¬ (c.toNat : Int) / 6 % 4 = 1 := by simpa using hc42
                refine wp_skip ?_
                refine bn ?_
                refine tn ?_
                try simp only [List.drop_drop, Nat.reduceAdd] at HS
                first
                  | exact ⟨⟨2, (c.toNat : Int) % 6, .zero⟩, r, _, G1, dM2 r hk2.1 (by omega), Nat.le_refl _, Gh.le.refl _, RP.nil _, HF.cut [3, 4, 5, 6, 7, 9] rfl, ((((((HS.pick (A := blk b5 _ _) (by repeat first | exact .here | apply Pick.there)).pick (A := blk b4 _ _) (by repeat first | exact .here | apply Pick.there)).pick (A := bcur _ b3 _) (by repeat first | exact .here | apply Pick.there)).pick (A := own _ _ _ _ _) (by repeat first | exact .here | apply Pick.there)).pick (A := blk b9 _ _) (by repeat first | exact .here | apply Pick.there))).wk (by repeat first | exact .refl | apply Wk.cons | apply Wk.skip)⟩
                  | exact ⟨⟨1, (c.toNat : Int) % 6, dOp r⟩, r.drop 16, _, G2, dM1 r hk, by simp, hG2, by show RP G2 _ (dHeadsOf (pk 4 (r.drop 6))); unfold dHeadsOf; rw [if_neg (by omega), ← dHd_eq hh]; exact RP.one hb95 rfl, HF.cut [3, 4, 5, 6, 7, 9] rfl, ((((((HS.pick (A := blk b5 _ _) (by repeat first | exact .here | apply Pick.there)).pick (A := blk b4 _ _) (by repeat first | exact .here | apply Pick.there)).pick (A := bcur _ b3 _) (by repeat first | exact .here | apply Pick.there)).pick (A := own _ _ _ _ _) (by repeat first | exact .here | apply Pick.there)).pick (A := blk b9 _ _) (by repeat first | exact .here | apply Pick.there))).wk (by repeat first | exact .refl | apply Wk.cons | apply Wk.skip)⟩
                  | exact ⟨⟨1, (c.toNat : Int) % 6, dOp r⟩, r.drop 16, _, G1, dM1 r hk, by simp, Gh.le.refl _, by show RP G1 _ (dHeadsOf (pk 4 (r.drop 6))); rw [hh]; exact RP.nil _, HF.cut [3, 4, 5, 6, 7, 9] rfl, ((((((HS.pick (A := blk b5 _ _) (by repeat first | exact .here | apply Pick.there)).pick (A := blk b4 _ _) (by repeat first | exact .here | apply Pick.there)).pick (A := bcur _ b3 _) (by repeat first | exact .here | apply Pick.there)).pick (A := own _ _ _ _ _) (by repeat first | exact .here | apply Pick.there)).pick (A := blk b9 _ _) (by repeat first | exact .here | apply Pick.there))).wk (by repeat first | exact .refl | apply Wk.cons | apply Wk.skip)⟩
                  | exact ⟨⟨0, (c.toNat : Int) % 6, .zero⟩, r, _, G1, dM0 r hk1 (fun h => by omega), Nat.le_refl _, Gh.le.refl _, RP.nil _, HF.cut [3, 4, 5, 6, 7, 9] rfl, ((((((HS.pick (A := blk b5 _ _) (by repeat first | exact .here | apply Pick.there)).pick (A := blk b4 _ _) (by repeat first | exact .here | apply Pick.there)).pick (A := bcur _ b3 _) (by repeat first | exact .here | apply Pick.there)).pick (A := own _ _ _ _ _) (by repeat first | exact .here | apply Pick.there)).pick (A := blk b9 _ _) (by repeat first | exact .here | apply Pick.there))).wk (by repeat first | exact .refl | apply Wk.cons | apply Wk.skip)⟩
        · rintro a w ⟨m, s2, hv, G2, hdm, hsl, hG2, hRP, HF, HS⟩
          rw [hdm] at hms
          obtain ⟨A3, c3, rfl, _⟩ := id hRP
          -- region 33
          refine wp_region_lit ?_
          refine pl HF (p_mv rfl) rfl (ltN rfl) rfl ?_; clear HF a; intro a HF
          refine pl HF (p_lbA (vs := [_, _, _, _, _, _, _, _, _, _, _, _, _, _, _, _, _, _, _, _, _, _, _, _]) HS ak38 sz38 rfl (by repeat first | exact .here | apply Pick.there) rfl rfl) rfl (ltN rfl) rfl ?_; clear HF a; intro a HF
          refine g_bsl (cs := [_, _, _, _, _, _, _, _, _, _, _, _, _, _, _, _, _, _, _, _, _, _, _, _]) HF HS sl22 zc38 rfl rfl rfl rfl rfl (ltN rfl) ?_; clear HF HS a; intro a w b156 HF HS
          refine g_app HF HS sl22 zc38 rfl by38 rfl rfl (by repeat first | exact .here | apply Pick.there) rfl (by repeat first | exact .here | apply Pick.there) rfl rfl (by omega) (by omega) (ltN rfl) ?_; clear HF HS a; intro a w v157 HF HS
          refine pl HF (p_as rfl) rfl (ltN rfl) rfl ?_; clear HF a; intro a HF
          refine pe ?_
          refine bn ?_
          refine tn ?_
          exact ⟨s2.length, by simp; omega, s2, ms ++ [m], rows ++ [mvC m _], v157, G2, rfl, hG1.trans hG2, by simpa using hms, by simp; omega, RM.snoc rfl hRP (hRM.mono hG2), HF.cut [3, 4, 5, 6, 7] rfl, by rw [flatten_snoc, List.length_append]; exact HS.wk (by repeat first | exact .refl | apply Wk.cons | apply Wk.skip)⟩
      · have hge : 400 ≤ ms.length := by have := of_decide_eq_false hc25; omega
        rw [decGo_end _ hge, List.append_nil] at hms
        refine wp_exit ?_
        refine tx ?_
        refine tx ?_
        refine bh ?_
        refine tn ?_
        refine wp_seq ?_
        -- region 34
        refine wp_region_lit ?_
        refine pl HF (p_mv rfl) rfl (ltN rfl) rfl ?_; clear HF a; intro a HF
        refine pl HF (p_as rfl) rfl (ltN rfl) rfl ?_; clear HF a; intro a HF
        refine pe ?_
        refine tn ?_
        refine wp_ret ?_
        refine ret1 HF rfl (rv_t rfl) ?_
        obtain ⟨G3, hG3, hRS, HS⟩ := (HS.pick (A := own _ _ _ _ _) (by repeat first | exact .here | apply Pick.there)).freezeOwn
        have hRS2 := hRS
        have hRM2 := hRM.mono hG3
        exact ⟨G3, rows, hG1.trans hG3, hms ▸ hRM2, by rw [← hms]; exact hRS2, HS.wk (by repeat first | exact .refl | apply Wk.cons | apply Wk.skip)⟩
    · intro hg21 HF
      obtain rfl : s1 = [] := by simpa using hg21
      rw [decGo_nil, List.append_nil] at hms
      refine pn HF rfl (ltN rfl) rfl rfl rfl rfl rfl ?_; clear HF a; intro a HF
      refine pn HF rfl (ltN rfl) rfl rfl rfl rfl rfl ?_; clear HF a; intro a HF
      refine pn HF rfl (ltN rfl) rfl rfl rfl rfl rfl ?_; clear HF a; intro a HF
      refine pl HF (p_pickF rfl rfl) rfl (ltN rfl) rfl ?_; clear HF a; intro a HF
      refine pe ?_
      refine tn ?_
      refine c_f HF rfl ?_
      refine wp_exit ?_
      refine tx ?_
      refine tx ?_
      refine bh ?_
      refine tn ?_
      refine wp_seq ?_
      -- region 34
      refine wp_region_lit ?_
      refine pl HF (p_mv rfl) rfl (ltN rfl) rfl ?_; clear HF a; intro a HF
      refine pl HF (p_as rfl) rfl (ltN rfl) rfl ?_; clear HF a; intro a HF
      refine pe ?_
      refine tn ?_
      refine wp_ret ?_
      refine ret1 HF rfl (rv_t rfl) ?_
      obtain ⟨G3, hG3, hRS, HS⟩ := (HS.pick (A := own _ _ _ _ _) (by repeat first | exact .here | apply Pick.there)).freezeOwn
      have hRS2 := hRS
      have hRM2 := hRM.mono hG3
      exact ⟨G3, rows, hG1.trans hG3, hms ▸ hRM2, by rw [← hms]; exact hRS2, HS.wk (by repeat first | exact .refl | apply Wk.cons | apply Wk.skip)⟩

end Gp
