/- The program's Decode. Printed by skel.py out of plan/P4.py. -/
import Derived.Test.YtjoggnekfopghaaP2
namespace Gp
open Go Go.Proofs Go.RowKit

theorem decGo_cons (n : Nat) (h : n < 400) (c : UInt8) (r : Bs) : decGo (400 - n) (c :: r) = (dMove c r).1 :: decGo (400 - (n + 1)) (dMove c r).2 := by
  rw [show 400 - n = (400 - (n + 1)) + 1 by omega]
  rfl
theorem decGo_end (n : Nat) (h : 400 ≤ n) (s : Bs) : decGo (400 - n) s = [] := by rw [show 400 - n = 0 by omega]; rfl
theorem decGo_nil (n : Nat) : decGo n [] = [] := by cases n <;> rfl
theorem dM_int (c : UInt8) : (c.toNat : Int) / 6 % 4 = ((c.toNat / 6 % 4 : Nat) : Int) ∧ (c.toNat : Int) % 6 = ((c.toNat % 6 : Nat) : Int) := ⟨by omega, by omega⟩
theorem dM1 {c : UInt8} (r : Bs) (h : (c.toNat : Int) / 6 % 4 = 1) : dMove c r = (⟨1, (c.toNat : Int) % 6, dOp r⟩, r.drop 16) := by
  rw [(dM_int c).1] at h
  rw [(dM_int c).2]
  have : c.toNat / 6 % 4 = 1 := by omega
  unfold dMove; simp only [this, if_true]
theorem dM2 {c : UInt8} (r : Bs) (h : (c.toNat : Int) / 6 % 4 = 2) (h' : ¬ (c.toNat : Int) < 128) : dMove c r = (⟨2, (c.toNat : Int) % 6, .zero⟩, r) := by
  rw [(dM_int c).1] at h
  rw [(dM_int c).2]
  have h1 : c.toNat / 6 % 4 = 2 := by omega
  have h2 : 128 ≤ c.toNat := by omega
  unfold dMove; simp [h1, h2]
theorem dM0 {c : UInt8} (r : Bs) (h : ¬ (c.toNat : Int) / 6 % 4 = 1) (h' : (c.toNat : Int) / 6 % 4 = 2 → (c.toNat : Int) < 128) : dMove c r = (⟨0, (c.toNat : Int) % 6, .zero⟩, r) := by
  rw [(dM_int c).1] at h h'
  rw [(dM_int c).2]
  have h1 : ¬ c.toNat / 6 % 4 = 1 := by omega
  have h2 : ¬ (c.toNat / 6 % 4 = 2 ∧ 128 ≤ c.toNat) := by rintro ⟨a, b⟩; have := h' (by omega); omega
  unfold dMove; simp only [h1, if_false, h2]
theorem flatten_snoc (rs : List (List Value)) (r : List Value) : (rs ++ [r]).flatten = rs.flatten ++ r := by simp

set_option maxRecDepth 100000 in
set_option maxHeartbeats 4000000 in
theorem c_Decode {w0 : World} {F : Nat → Prop} {G : Gh} {H : List Asrt} (s : Bs) (w : World) (HS : St w0 F G w H) : Does Try.prog 5 [S s] w fun v w' => ∃ G' rows, G.le G' ∧ RM G' rows (decode s) ∧ RS G' 24 v (decode s).length rows.flatten ∧ St w0 F G' w' H := by
  refine enter Try.func5 rfl (N := 57) rfl rfl fun a HF => ?_
  refine wp_seq ?_
  -- region 0
  refine wp_region_lit ?_
  refine pl HF (p_as rfl) rfl (ltN rfl) rfl ?_; clear HF a; intro a HF
  refine pe ?_
  refine tn ?_
  refine wp_seq ?_
  -- region 1
  refine wp_region_lit ?_
  refine pl HF (p_as rfl) rfl (ltN rfl) rfl ?_; clear HF a; intro a HF
  refine pe ?_
  refine tn ?_
  refine wp_seq ?_
  -- region 2
  refine wp_region_lit ?_
  refine pl HF (p_mv rfl) rfl (ltN rfl) rfl ?_; clear HF a; intro a HF
  refine pl HF (p_bd (cs := [_]) pc55 zc55 rfl rfl) rfl (ltN rfl) rfl ?_; clear HF a; intro a HF
  refine g_box HF HS rfl rfl (ltN rfl) ?_; clear HF HS a; intro a w b9 HF HS
  refine pl HF (p_as rfl) rfl (ltN rfl) rfl ?_; clear HF a; intro a HF
  refine pe ?_
  refine tn ?_
  refine wp_seq ?_
  refine wp_block ?_
  refine wp_loop_ghost (fun n a w => ∃ (s1 : Bs) (ms : List Move) (rows : List (List Value)) (v : Value) (G1 : Gh), n = s1.length ∧ G.le G1 ∧ ms ++ decGo (400 - ms.length) s1 = decode s ∧ ms.length ≤ 400 ∧ RM G1 rows ms ∧ Fr 57 a [(3, v), (4, Pt b9 0)] ∧ St w0 F G1 w (own 39 24 v ms.length rows.flatten :: blk b9 [S s1] 55 :: H)) s.length ?_ ?_
  · exact ⟨s, [], [], .slice none 0 0, G, rfl, Gh.le.refl G, rfl, by simp, trivial, HF.cut [3, 4] rfl, HS.nil_own _ _⟩
  · rintro n a w ⟨s1, ms, rows, v, G1, rfl, hG1, hms, hlen, hRM, HF, HS⟩
    refine wp_seq ?_
    refine wp_seq ?_
    -- region 3
    refine wp_region_lit ?_
    refine pl HF (p_mv rfl) rfl (ltN rfl) rfl ?_; clear HF a; intro a HF
    refine pl HF (p_nil rfl) rfl (ltN rfl) rfl ?_; clear HF a; intro a HF
    refine pl HF (p_fld fo55_0 rfl) rfl (ltN rfl) rfl ?_; clear HF a; intro a HF
    refine pl HF (p_lb HS ak9 rfl (by repeat first | exact .here | apply Pick.there) rfl) rfl (ltN rfl) rfl ?_; clear HF a; intro a HF
    refine pl HF (p_sne rfl rfl) rfl (ltN rfl) rfl ?_; clear HF a; intro a HF
    refine pl HF (p_mv rfl) rfl (ltN rfl) rfl ?_; clear HF a; intro a HF
    refine bsplit HF ?_ ?_ <;> clear HF
    · intro hg15 HF
      obtain ⟨c, r, rfl⟩ : ∃ c r, s1 = c :: r := by cases s1 with | nil => simp at hg15 | cons c r => exact ⟨c, r, rfl⟩
      have hb := c.toNat_lt
      obtain ⟨A, cc, rfl, _⟩ := HS.own_shape
      refine pw HF (p_mv rfl) rfl (ltN rfl) rfl rfl rfl rfl ?_; clear HF a; intro a HF
      refine pw HF (p_lensl Try.underlying24 rfl) rfl (ltN rfl) rfl rfl rfl rfl ?_; clear HF a; intro a HF
      refine pw HF (p_lss rfl rfl) rfl (ltN rfl) rfl rfl rfl rfl ?_; clear HF a; intro a HF
      refine pl HF (p_pickT rfl rfl) rfl (ltN rfl) rfl ?_; clear HF a; intro a HF
      refine pe ?_
      refine tn ?_
      refine c_if HF rfl (fun hc19 => ?_) (fun hc19 => ?_)
      · have hlt : ms.length < 400 := by have := of_decide_eq_true hc19; omega
        rw [decGo_cons _ hlt] at hms
        refine wp_skip ?_
        refine tn ?_
        refine wp_block ?_
        refine wp_seq ?_
        -- region 4
        refine wp_region_lit ?_
        refine pl HF (p_mv rfl) rfl (ltN rfl) rfl ?_; clear HF a; intro a HF
        refine pl HF (p_nil rfl) rfl (ltN rfl) rfl ?_; clear HF a; intro a HF
        refine pl HF (p_fld fo55_0 rfl) rfl (ltN rfl) rfl ?_; clear HF a; intro a HF
        refine pl HF (p_lb HS ak9 rfl (by repeat first | exact .here | apply Pick.there) rfl) rfl (ltN rfl) rfl ?_; clear HF a; intro a HF
        refine pl HF (p_idx Try.underlying9 rfl rfl (i := 0) rfl rfl) rfl (ltN rfl) rfl ?_; clear HF a; intro a HF
        refine pl HF (p_conv (by rw [Try.underlying5]; rfl) Try.underlying3 rfl (byte_i64 _)) rfl (ltN rfl) rfl ?_; clear HF a; intro a HF
        refine pl HF (p_as rfl) rfl (ltN rfl) rfl ?_; clear HF a; intro a HF
        refine pe ?_
        refine tn ?_
        refine wp_seq ?_
        -- region 5
        refine wp_region_lit ?_
        refine pl HF (p_mv rfl) rfl (ltN rfl) rfl ?_; clear HF a; intro a HF
        refine pl HF (p_mv rfl) rfl (ltN rfl) rfl ?_; clear HF a; intro a HF
        refine pl HF (p_nil rfl) rfl (ltN rfl) rfl ?_; clear HF a; intro a HF
        refine pl HF (p_fld fo55_0 rfl) rfl (ltN rfl) rfl ?_; clear HF a; intro a HF
        refine pl HF (p_lb HS ak9 rfl (by repeat first | exact .here | apply Pick.there) rfl) rfl (ltN rfl) rfl ?_; clear HF a; intro a HF
        refine pl HF (p_sfrom Try.underlying9 rfl rfl (i := 1) rfl (by simp)) rfl (ltN rfl) rfl ?_; clear HF a; intro a HF
        refine pl HF (p_nil rfl) rfl (ltN rfl) rfl ?_; clear HF a; intro a HF
        refine pl HF (p_fld fo55_0 rfl) rfl (ltN rfl) rfl ?_; clear HF a; intro a HF
        refine g_st (cs' := [_]) HF HS sz9 rfl rfl rfl rfl rfl (by repeat first | exact .here | apply Upd.there) rfl rfl ?_; clear HS; intro w HS
        refine pe ?_
        refine tn ?_
        refine wp_seq ?_
        -- region 6
        refine wp_region_lit ?_
        refine pl HF (p_mv rfl) rfl (ltN rfl) rfl ?_; clear HF a; intro a HF
        refine pl HF (p_rem rfl rfl (by omega) (IntWalk.rem_in _ _ (by omega))) rfl (ltN rfl) rfl ?_; clear HF a; intro a HF
        refine pl HF (p_bd (cs := [_, _, _, _, _, _, _, _, _, _, _, _, _, _, _, _, _, _, _, _, _, _, _, _]) pc39 zc39 rfl rfl) rfl (ltN rfl) rfl ?_; clear HF a; intro a HF
        refine g_alloc HF HS zc39 (ltN rfl) ?_; clear HF HS a; intro a w b6 HF HS
        refine g_st (cs' := [_, _, _, _, _, _, _, _, _, _, _, _, _, _, _, _, _, _, _, _, _, _, _, _]) HF HS sz39 rfl rfl rfl rfl rfl (by repeat first | exact .here | apply Upd.there) rfl rfl ?_; clear HS; intro w HS
        refine pe ?_
        refine tn ?_
        refine wp_seq ?_
        refine wp_seq ?_
        -- region 7
        refine wp_region_lit ?_
        refine pl HF (p_mv rfl) rfl (ltN rfl) rfl ?_; clear HF a; intro a HF
        refine pl HF (p_quo rfl rfl (by omega) (IntWalk.i64_quo _ _ (by omega))) rfl (ltN rfl) rfl ?_; clear HF a; intro a HF
        refine pl HF (p_rem rfl rfl (by omega) (IntWalk.rem_in _ _ (by omega))) rfl (ltN rfl) rfl ?_; clear HF a; intro a HF
        refine pe ?_
        refine tn ?_
        refine wp_block ?_
        refine wp_seq ?_
        -- region 8
        refine wp_region_lit ?_
        refine pl HF (p_ieq rfl rfl) rfl (ltN rfl) rfl ?_; clear HF a; intro a HF
        refine pl HF (p_as rfl) rfl (ltN rfl) rfl ?_; clear HF a; intro a HF
        refine pe ?_
        refine tn ?_
        refine c_if HF rfl (fun hc40 => ?_) (fun hc40 => ?_)
        · have hk : (c.toNat : Int) / 6 % 4 = 1 := by simpa using hc40
          rw [dM1 r hk] at hms
          refine wp_seq ?_
          -- region 9
          refine wp_region_lit ?_
          refine pl HF (p_fld fo39_0 rfl) rfl (ltN rfl) rfl ?_; clear HF a; intro a HF
          refine g_st (cs' := [_, _, _, _, _, _, _, _, _, _, _, _, _, _, _, _, _, _, _, _, _, _, _, _]) HF HS sz3 rfl rfl rfl rfl rfl (by repeat first | exact .here | apply Upd.there) rfl rfl ?_; clear HS; intro w HS
          refine pe ?_
          refine tn ?_
          -- region 10
          refine wp_region_lit ?_
          refine pl HF (p_mv rfl) rfl (ltN rfl) rfl ?_; clear HF a; intro a HF
          refine g_call HF rfl rfl ent11 (ltN rfl) (c_op _ _ _ (HS.pick (by repeat first | exact .here | apply Pick.there))) ?_; clear HF a; rintro _ w ⟨_, G2, rfl, hG2, hRP, HS⟩ a HF
          obtain ⟨A3, c3, rfl, _⟩ := id hRP
          refine pl HF (p_fld fo39_2 rfl) rfl (ltN rfl) rfl ?_; clear HF a; intro a HF
          refine g_st (cs' := [_, _, _, _, _, _, _, _, _, _, _, _, _, _, _, _, _, _, _, _, _, _, _, _]) HF HS sz36 rfl rfl rfl rfl rfl (by repeat first | exact .here | apply Upd.there) rfl rfl ?_; clear HS; intro w HS
          refine pe ?_
          refine bn ?_
          refine tn ?_
          -- region 15
          refine wp_region_lit ?_
          refine pl HF (p_mv rfl) rfl (ltN rfl) rfl ?_; clear HF a; intro a HF
          refine pl HF (p_lbA (vs := [_, _, _, _, _, _, _, _, _, _, _, _, _, _, _, _, _, _, _, _, _, _, _, _]) HS ak39 sz39 rfl (by repeat first | exact .here | apply Pick.there) rfl rfl) rfl (ltN rfl) rfl ?_; clear HF a; intro a HF
          refine g_bsl (cs := [_, _, _, _, _, _, _, _, _, _, _, _, _, _, _, _, _, _, _, _, _, _, _, _]) HF HS sl24 zc39 rfl rfl rfl rfl rfl (ltN rfl) ?_; clear HF HS a; intro a w b54 HF HS
          refine g_app HF HS sl24 zc39 rfl by39 rfl rfl (by repeat first | exact .here | apply Pick.there) rfl (by repeat first | exact .here | apply Pick.there) rfl rfl (by omega) (by omega) (ltN rfl) ?_; clear HF HS a; intro a w v55 HF HS
          refine pl HF (p_as rfl) rfl (ltN rfl) rfl ?_; clear HF a; intro a HF
          refine pe ?_
          refine bn ?_
          refine tn ?_
          first
            | exact ⟨(r.drop 16).length, by simp; omega, r.drop 16, ms ++ [⟨1, (c.toNat : Int) % 6, dOp r⟩], rows ++ [mvC ⟨1, (c.toNat : Int) % 6, dOp r⟩ (.slice A3 _ c3)], v55, G2, rfl, hG1.trans hG2, by simpa using hms, by simp; omega, RM.snoc rfl hRP (hRM.mono hG2), HF.cut [3, 4] rfl, by rw [flatten_snoc, List.length_append]; exact HS.wk (by repeat first | exact .refl | apply Wk.cons | apply Wk.skip)⟩
            | exact ⟨r.length, by simp, r, ms ++ [⟨2, (c.toNat : Int) % 6, .zero⟩], rows ++ [mvC ⟨2, (c.toNat : Int) % 6, .zero⟩ (.slice none 0 0)], v55, G1, rfl, hG1, by simpa using hms, by simp; omega, RM.snoc rfl (RP.nil _) hRM, HF.cut [3, 4] rfl, by rw [flatten_snoc, List.length_append]; exact HS.wk (by repeat first | exact .refl | apply Wk.cons | apply Wk.skip)⟩
            | exact ⟨r.length, by simp, r, ms ++ [⟨0, (c.toNat : Int) % 6, .zero⟩], rows ++ [mvC ⟨0, (c.toNat : Int) % 6, .zero⟩ (.slice none 0 0)], v55, G1, rfl, hG1, by simpa using hms, by simp; omega, RM.snoc rfl (RP.nil _) hRM, HF.cut [3, 4] rfl, by rw [flatten_snoc, List.length_append]; exact HS.wk (by repeat first | exact .refl | apply Wk.cons | apply Wk.skip)⟩
        · have hk1 : ¬ (c.toNat : Int) / 6 % 4 = 1 := by simpa using hc40
          refine wp_seq ?_
          -- region 11
          refine wp_region_lit ?_
          refine pl HF (p_ieq rfl rfl) rfl (ltN rfl) rfl ?_; clear HF a; intro a HF
          refine pl HF (p_as rfl) rfl (ltN rfl) rfl ?_; clear HF a; intro a HF
          refine pe ?_
          refine tn ?_
          refine c_if HF rfl (fun hc46 => ?_) (fun hc46 => ?_)
          · have hk2 : (c.toNat : Int) / 6 % 4 = 2 := by simpa using hc46
            refine wp_seq ?_
            -- region 12
            refine wp_region_lit ?_
            refine pl HF (p_fld fo39_0 rfl) rfl (ltN rfl) rfl ?_; clear HF a; intro a HF
            refine g_st (cs' := [_, _, _, _, _, _, _, _, _, _, _, _, _, _, _, _, _, _, _, _, _, _, _, _]) HF HS sz3 rfl rfl rfl rfl rfl (by repeat first | exact .here | apply Upd.there) rfl rfl ?_; clear HS; intro w HS
            refine pe ?_
            refine tn ?_
            refine wp_seq ?_
            -- region 13
            refine wp_region_lit ?_
            refine pl HF (p_mv rfl) rfl (ltN rfl) rfl ?_; clear HF a; intro a HF
            refine pl HF (p_lss rfl rfl) rfl (ltN rfl) rfl ?_; clear HF a; intro a HF
            refine pe ?_
            refine tn ?_
            refine c_if HF rfl (fun hc50 => ?_) (fun hc50 => ?_)
            · have h128 := of_decide_eq_true hc50
              rw [dM0 r hk1 (fun _ => h128)] at hms
              -- region 14
              refine wp_region_lit ?_
              refine pl HF (p_fld fo39_0 rfl) rfl (ltN rfl) rfl ?_; clear HF a; intro a HF
              refine g_st (cs' := [_, _, _, _, _, _, _, _, _, _, _, _, _, _, _, _, _, _, _, _, _, _, _, _]) HF HS sz3 rfl rfl rfl rfl rfl (by repeat first | exact .here | apply Upd.there) rfl rfl ?_; clear HS; intro w HS
              refine pe ?_
              refine bn ?_
              refine tn ?_
              -- region 15
              refine wp_region_lit ?_
              refine pl HF (p_mv rfl) rfl (ltN rfl) rfl ?_; clear HF a; intro a HF
              refine pl HF (p_lbA (vs := [_, _, _, _, _, _, _, _, _, _, _, _, _, _, _, _, _, _, _, _, _, _, _, _]) HS ak39 sz39 rfl (by repeat first | exact .here | apply Pick.there) rfl rfl) rfl (ltN rfl) rfl ?_; clear HF a; intro a HF
              refine g_bsl (cs := [_, _, _, _, _, _, _, _, _, _, _, _, _, _, _, _, _, _, _, _, _, _, _, _]) HF HS sl24 zc39 rfl rfl rfl rfl rfl (ltN rfl) ?_; clear HF HS a; intro a w b54 HF HS
              refine g_app HF HS sl24 zc39 rfl by39 rfl rfl (by repeat first | exact .here | apply Pick.there) rfl (by repeat first | exact .here | apply Pick.there) rfl rfl (by omega) (by omega) (ltN rfl) ?_; clear HF HS a; intro a w v55 HF HS
              refine pl HF (p_as rfl) rfl (ltN rfl) rfl ?_; clear HF a; intro a HF
              refine pe ?_
              refine bn ?_
              refine tn ?_
              first
                | exact ⟨(r.drop 16).length, by simp; omega, r.drop 16, ms ++ [⟨1, (c.toNat : Int) % 6, dOp r⟩], rows ++ [mvC ⟨1, (c.toNat : Int) % 6, dOp r⟩ (.slice A3 _ c3)], v55, G2, rfl, hG1.trans hG2, by simpa using hms, by simp; omega, RM.snoc rfl hRP (hRM.mono hG2), HF.cut [3, 4] rfl, by rw [flatten_snoc, List.length_append]; exact HS.wk (by repeat first | exact .refl | apply Wk.cons | apply Wk.skip)⟩
                | exact ⟨r.length, by simp, r, ms ++ [⟨2, (c.toNat : Int) % 6, .zero⟩], rows ++ [mvC ⟨2, (c.toNat : Int) % 6, .zero⟩ (.slice none 0 0)], v55, G1, rfl, hG1, by simpa using hms, by simp; omega, RM.snoc rfl (RP.nil _) hRM, HF.cut [3, 4] rfl, by rw [flatten_snoc, List.length_append]; exact HS.wk (by repeat first | exact .refl | apply Wk.cons | apply Wk.skip)⟩
                | exact ⟨r.length, by simp, r, ms ++ [⟨0, (c.toNat : Int) % 6, .zero⟩], rows ++ [mvC ⟨0, (c.toNat : Int) % 6, .zero⟩ (.slice none 0 0)], v55, G1, rfl, hG1, by simpa using hms, by simp; omega, RM.snoc rfl (RP.nil _) hRM, HF.cut [3, 4] rfl, by rw [flatten_snoc, List.length_append]; exact HS.wk (by repeat first | exact .refl | apply Wk.cons | apply Wk.skip)⟩
            · have h128 := of_decide_eq_false hc50
              rw [dM2 r hk2 h128] at hms
              refine wp_skip ?_
              refine bn ?_
              refine tn ?_
              -- region 15
              refine wp_region_lit ?_
              refine pl HF (p_mv rfl) rfl (ltN rfl) rfl ?_; clear HF a; intro a HF
              refine pl HF (p_lbA (vs := [_, _, _, _, _, _, _, _, _, _, _, _, _, _, _, _, _, _, _, _, _, _, _, _]) HS ak39 sz39 rfl (by repeat first | exact .here | apply Pick.there) rfl rfl) rfl (ltN rfl) rfl ?_; clear HF a; intro a HF
              refine g_bsl (cs := [_, _, _, _, _, _, _, _, _, _, _, _, _, _, _, _, _, _, _, _, _, _, _, _]) HF HS sl24 zc39 rfl rfl rfl rfl rfl (ltN rfl) ?_; clear HF HS a; intro a w b54 HF HS
              refine g_app HF HS sl24 zc39 rfl by39 rfl rfl (by repeat first | exact .here | apply Pick.there) rfl (by repeat first | exact .here | apply Pick.there) rfl rfl (by omega) (by omega) (ltN rfl) ?_; clear HF HS a; intro a w v55 HF HS
              refine pl HF (p_as rfl) rfl (ltN rfl) rfl ?_; clear HF a; intro a HF
              refine pe ?_
              refine bn ?_
              refine tn ?_
              first
                | exact ⟨(r.drop 16).length, by simp; omega, r.drop 16, ms ++ [⟨1, (c.toNat : Int) % 6, dOp r⟩], rows ++ [mvC ⟨1, (c.toNat : Int) % 6, dOp r⟩ (.slice A3 _ c3)], v55, G2, rfl, hG1.trans hG2, by simpa using hms, by simp; omega, RM.snoc rfl hRP (hRM.mono hG2), HF.cut [3, 4] rfl, by rw [flatten_snoc, List.length_append]; exact HS.wk (by repeat first | exact .refl | apply Wk.cons | apply Wk.skip)⟩
                | exact ⟨r.length, by simp, r, ms ++ [⟨2, (c.toNat : Int) % 6, .zero⟩], rows ++ [mvC ⟨2, (c.toNat : Int) % 6, .zero⟩ (.slice none 0 0)], v55, G1, rfl, hG1, by simpa using hms, by simp; omega, RM.snoc rfl (RP.nil _) hRM, HF.cut [3, 4] rfl, by rw [flatten_snoc, List.length_append]; exact HS.wk (by repeat first | exact .refl | apply Wk.cons | apply Wk.skip)⟩
                | exact ⟨r.length, by simp, r, ms ++ [⟨0, (c.toNat : Int) % 6, .zero⟩], rows ++ [mvC ⟨0, (c.toNat : Int) % 6, .zero⟩ (.slice none 0 0)], v55, G1, rfl, hG1, by simpa using hms, by simp; omega, RM.snoc rfl (RP.nil _) hRM, HF.cut [3, 4] rfl, by rw [flatten_snoc, List.length_append]; exact HS.wk (by repeat first | exact .refl | apply Wk.cons | apply Wk.skip)⟩
          · have hk2 : ¬ (c.toNat : Int) / 6 % 4 = 2 := by simpa using hc46
            rw [dM0 r hk1 (fun h => absurd h hk2)] at hms
            refine wp_skip ?_
            refine bn ?_
            refine tn ?_
            -- region 15
            refine wp_region_lit ?_
            refine pl HF (p_mv rfl) rfl (ltN rfl) rfl ?_; clear HF a; intro a HF
            refine pl HF (p_lbA (vs := [_, _, _, _, _, _, _, _, _, _, _, _, _, _, _, _, _, _, _, _, _, _, _, _]) HS ak39 sz39 rfl (by repeat first | exact .here | apply Pick.there) rfl rfl) rfl (ltN rfl) rfl ?_; clear HF a; intro a HF
            refine g_bsl (cs := [_, _, _, _, _, _, _, _, _, _, _, _, _, _, _, _, _, _, _, _, _, _, _, _]) HF HS sl24 zc39 rfl rfl rfl rfl rfl (ltN rfl) ?_; clear HF HS a; intro a w b54 HF HS
            refine g_app HF HS sl24 zc39 rfl by39 rfl rfl (by repeat first | exact .here | apply Pick.there) rfl (by repeat first | exact .here | apply Pick.there) rfl rfl (by omega) (by omega) (ltN rfl) ?_; clear HF HS a; intro a w v55 HF HS
            refine pl HF (p_as rfl) rfl (ltN rfl) rfl ?_; clear HF a; intro a HF
            refine pe ?_
            refine bn ?_
            refine tn ?_
            first
              | exact ⟨(r.drop 16).length, by simp; omega, r.drop 16, ms ++ [⟨1, (c.toNat : Int) % 6, dOp r⟩], rows ++ [mvC ⟨1, (c.toNat : Int) % 6, dOp r⟩ (.slice A3 _ c3)], v55, G2, rfl, hG1.trans hG2, by simpa using hms, by simp; omega, RM.snoc rfl hRP (hRM.mono hG2), HF.cut [3, 4] rfl, by rw [flatten_snoc, List.length_append]; exact HS.wk (by repeat first | exact .refl | apply Wk.cons | apply Wk.skip)⟩
              | exact ⟨r.length, by simp, r, ms ++ [⟨2, (c.toNat : Int) % 6, .zero⟩], rows ++ [mvC ⟨2, (c.toNat : Int) % 6, .zero⟩ (.slice none 0 0)], v55, G1, rfl, hG1, by simpa using hms, by simp; omega, RM.snoc rfl (RP.nil _) hRM, HF.cut [3, 4] rfl, by rw [flatten_snoc, List.length_append]; exact HS.wk (by repeat first | exact .refl | apply Wk.cons | apply Wk.skip)⟩
              | exact ⟨r.length, by simp, r, ms ++ [⟨0, (c.toNat : Int) % 6, .zero⟩], rows ++ [mvC ⟨0, (c.toNat : Int) % 6, .zero⟩ (.slice none 0 0)], v55, G1, rfl, hG1, by simpa using hms, by simp; omega, RM.snoc rfl (RP.nil _) hRM, HF.cut [3, 4] rfl, by rw [flatten_snoc, List.length_append]; exact HS.wk (by repeat first | exact .refl | apply Wk.cons | apply Wk.skip)⟩
      · have hge : 400 ≤ ms.length := by have := of_decide_eq_false hc19; omega
        rw [decGo_end _ hge, List.append_nil] at hms
        refine wp_exit ?_
        refine tx ?_
        refine tx ?_
        refine bh ?_
        refine tn ?_
        refine wp_seq ?_
        -- region 16
        refine wp_region_lit ?_
        refine pl HF (p_mv rfl) rfl (ltN rfl) rfl ?_; clear HF a; intro a HF
        refine pl HF (p_as rfl) rfl (ltN rfl) rfl ?_; clear HF a; intro a HF
        refine pe ?_
        refine tn ?_
        refine wp_ret ?_
        refine ret1 HF rfl (rv_t rfl) ?_
        obtain ⟨G3, hG3, hRS, HS⟩ := (HS.pick (A := own _ _ _ _ _) (by repeat first | exact .here | apply Pick.there)).freezeOwn
        have hRS2 := hRS
        have hRM2 := hRM.mono hG3
        exact ⟨G3, rows, hG1.trans hG3, hms ▸ hRM2, by rw [← hms]; exact hRS2, HS.wk (by repeat first | exact .refl | apply Wk.cons | apply Wk.skip)⟩
    · intro hg15 HF
      obtain rfl : s1 = [] := by simpa using hg15
      rw [decGo_nil, List.append_nil] at hms
      refine pn HF rfl (ltN rfl) rfl rfl rfl rfl rfl ?_; clear HF a; intro a HF
      refine pn HF rfl (ltN rfl) rfl rfl rfl rfl rfl ?_; clear HF a; intro a HF
      refine pn HF rfl (ltN rfl) rfl rfl rfl rfl rfl ?_; clear HF a; intro a HF
      refine pl HF (p_pickF rfl rfl) rfl (ltN rfl) rfl ?_; clear HF a; intro a HF
      refine pe ?_
      refine tn ?_
      refine c_f HF rfl ?_
      refine wp_exit ?_
      refine tx ?_
      refine tx ?_
      refine bh ?_
      refine tn ?_
      refine wp_seq ?_
      -- region 16
      refine wp_region_lit ?_
      refine pl HF (p_mv rfl) rfl (ltN rfl) rfl ?_; clear HF a; intro a HF
      refine pl HF (p_as rfl) rfl (ltN rfl) rfl ?_; clear HF a; intro a HF
      refine pe ?_
      refine tn ?_
      refine wp_ret ?_
      refine ret1 HF rfl (rv_t rfl) ?_
      obtain ⟨G3, hG3, hRS, HS⟩ := (HS.pick (A := own _ _ _ _ _) (by repeat first | exact .here | apply Pick.there)).freezeOwn
      have hRS2 := hRS
      have hRM2 := hRM.mono hG3
      exact ⟨G3, rows, hG1.trans hG3, hms ▸ hRM2, by rw [← hms]; exact hRS2, HS.wk (by repeat first | exact .refl | apply Wk.cons | apply Wk.skip)⟩

end Gp
