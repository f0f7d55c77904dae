/- The reference's OriginParse, at texts of the shape that Decode hands it. Printed by skel.py out of plan/P6.py. -/
import Derived.Test.YtjoggnekfopghaaP5
import Derived.Test.YtjoggnekfopghaaShelf
namespace Gp
open Go Go.Proofs Go.RowKit

def HasMax (G : Gh) : Prop := ∃ m cs t z, G 0 = some (.cells cs t z) ∧ cs[0]? = some (.int .i64 m)
theorem HasMax.mono {G G' : Gh} (hG : G.le G') : HasMax G → HasMax G' := fun ⟨m, cs, t, z, h, h0⟩ => ⟨m, cs, t, z, hG _ _ h, h0⟩
theorem HasMax.of {w : World} {m : Int} (h : w.cell? ⟨0, 0, none⟩ = some (.int .i64 m)) : HasMax (fun k => w.heap[k]?) := by
  unfold World.cell? at h
  split at h
  · rename_i cs t z hb
    exact ⟨m, cs, t, z, hb, by simpa using h⟩
  · cases h
theorem l_Index {w0 : World} {F : Nat → Prop} {G : Gh} {H : List Asrt} (hG0 : HasMax G) (s t : Bs) (hs : s.length < 4294967281) (w : World) (HS : St w0 F G w H) : Does Try.prog 13 [S s, S t] w fun v w' => v = I (Lib.index s t) ∧ St w0 F G w' H := by
  obtain ⟨m, _, _, _, hm, hm0⟩ := hG0
  refine Calls.mono (Try.strings_Index ⟨s.toArray⟩ ⟨t.toArray⟩ m w hs (HS.gcell hm hm0)) ?_
  rintro e w' ⟨rfl, rfl⟩
  exact ⟨_, rfl, rfl, HS⟩
theorem l_IndexByte {w0 : World} {F : Nat → Prop} {G : Gh} {H : List Asrt} (s : Bs) (c : UInt8) (w : World) (HS : St w0 F G w H) : Does Try.prog 16 [S s, U c] w fun v w' => v = I (Lib.indexByte s c) ∧ St w0 F G w' H := by
  refine Calls.mono (Try.strings_IndexByte ⟨s.toArray⟩ c.toNat w) ?_
  rintro e w' ⟨rfl, rfl⟩
  exact ⟨_, rfl, by simp, HS⟩

set_option maxHeartbeats 1000000 in
theorem r_OriginParse_f {w0 : World} {F : Nat → Prop} {G : Gh} {H : List Asrt} (hG0 : HasMax G) (s h : Bs) (i : Nat) (hlen : s.length ≤ 1000) (hi : i + 3 ≤ s.length) (e1 : Lib.index s [58, 47, 47] = (i : Int)) (e2 : lower (s.take i) = [104, 116, 116, 112]) (e3 : s.drop (i + 3) = h) (e4 : Lib.indexByte h 58 = -1) (e5 : lower h = h) (e6 : originR ⟨false, h, portOf false⟩ = true) (w : World) (HS : St w0 F G w H) : Does Try.prog 10 [S s] w fun v w' => v = .tuple #[.agg (oC ⟨false, h, portOf false⟩).toArray, I 0] ∧ St w0 F G w' H := by
  have hhl : h.length ≤ 1000 := by rw [← e3]; simp; omega
  refine enter Try.func10 rfl (N := 82) rfl rfl fun a HF => ?_
  refine wp_seq ?_
  -- region 0
  refine wp_region_lit ?_
  refine g_alloc HF HS zc27 (ltN rfl) ?_; clear HF HS a; intro a w b2 HF HS
  refine pl HF (p_as rfl) rfl (ltN rfl) rfl ?_; clear HF a; intro a HF
  refine pe ?_
  refine tn ?_
  refine wp_seq ?_
  -- region 1
  refine wp_region_lit ?_
  refine pl HF (p_bd (cs := [_, _, _]) pc27 zc27 rfl rfl) rfl (ltN rfl) rfl ?_; clear HF a; intro a HF
  refine g_alloc HF HS zc27 (ltN rfl) ?_; clear HF HS a; intro a w b4 HF HS
  refine g_st (cs' := [_, _, _]) HF HS sz27 rfl rfl rfl rfl rfl (by repeat first | exact .here | apply Upd.there) rfl rfl ?_; clear HS; intro w HS
  refine pe ?_
  refine tn ?_
  refine wp_seq ?_
  -- region 2
  refine wp_region_lit ?_
  refine pl HF (p_mv rfl) rfl (ltN rfl) rfl ?_; clear HF a; intro a HF
  refine g_call HF rfl rfl ent13 (ltN rfl) (l_Index hG0 _ _ (by omega) _ HS) ?_; clear HF a; rintro _ w ⟨rfl, HS⟩ a HF
  rw [e1] at HF
  refine pl HF (p_as rfl) rfl (ltN rfl) rfl ?_; clear HF a; intro a HF
  refine pe ?_
  refine tn ?_
  refine wp_seq ?_
  refine wp_seq ?_
  -- region 3
  refine wp_region_lit ?_
  refine pl HF (p_mv rfl) rfl (ltN rfl) rfl ?_; clear HF a; intro a HF
  refine pl HF (p_lss rfl rfl) rfl (ltN rfl) rfl ?_; clear HF a; intro a HF
  refine pe ?_
  refine tn ?_
  refine c_if HF rfl (fun hc14 => ?_) (fun hc14 => ?_)
  · exfalso; have := of_decide_eq_true hc14; omega
  · refine wp_skip ?_
    refine tn ?_
    refine wp_seq ?_
    refine wp_seq ?_
    -- region 5
    refine wp_region_lit ?_
    refine pl HF (p_mv rfl) rfl (ltN rfl) rfl ?_; clear HF a; intro a HF
    refine pl HF (p_mv rfl) rfl (ltN rfl) rfl ?_; clear HF a; intro a HF
    refine pl HF (p_sto Try.underlying9 rfl rfl rfl (by omega)) rfl (ltN rfl) rfl ?_; clear HF a; intro a HF
    refine g_call HF rfl rfl ent14 (ltN rfl) (r_Lower _ (by first | omega | (simp; omega)) _ HS) ?_; clear HF a; rintro _ w ⟨rfl, HS⟩ a HF
    rw [e2] at HF
    refine pe ?_
    refine tn ?_
    refine wp_block ?_
    refine wp_seq ?_
    -- region 7
    refine wp_region_lit ?_
    refine pl HF (p_seq rfl rfl) rfl (ltN rfl) rfl ?_; clear HF a; intro a HF
    refine pl HF (p_as rfl) rfl (ltN rfl) rfl ?_; clear HF a; intro a HF
    refine pe ?_
    refine tn ?_
    refine c_if HF rfl (fun hc21 => ?_) (fun hc21 => ?_)
    · refine wp_skip ?_
      refine bn ?_
      refine tn ?_
      refine wp_seq ?_
      -- region 10
      refine wp_region_lit ?_
      refine pl HF (p_mv rfl) rfl (ltN rfl) rfl ?_; clear HF a; intro a HF
      refine pl HF (p_mv rfl) rfl (ltN rfl) rfl ?_; clear HF a; intro a HF
      refine pl HF (p_add rfl rfl (IntWalk.i64_in _ (by omega))) rfl (ltN rfl) rfl ?_; clear HF a; intro a HF
      refine pl HF (p_sfrom Try.underlying9 rfl rfl rfl (by omega)) rfl (ltN rfl) rfl ?_; clear HF a; intro a HF
      rw [e3] at HF
      refine pl HF (p_as rfl) rfl (ltN rfl) rfl ?_; clear HF a; intro a HF
      refine pe ?_
      refine tn ?_
      refine wp_seq ?_
      -- region 11
      refine wp_region_lit ?_
      refine pl HF (p_fld fo27_0 rfl) rfl (ltN rfl) rfl ?_; clear HF a; intro a HF
      refine pl HF (p_lb HS ak4 rfl (by repeat first | exact .here | apply Pick.there) rfl) rfl (ltN rfl) rfl ?_; clear HF a; intro a HF
      refine g_call HF rfl rfl ent15 (ltN rfl) (r_Port _ _ HS) ?_; clear HF a; rintro _ w ⟨rfl, HS⟩ a HF
      refine pl HF (p_fld fo27_2 rfl) rfl (ltN rfl) rfl ?_; clear HF a; intro a HF
      refine g_st (cs' := [_, _, _]) HF HS sz3 rfl rfl rfl rfl rfl (by repeat first | exact .here | apply Upd.there) rfl rfl ?_; clear HS; intro w HS
      refine pe ?_
      refine tn ?_
      refine wp_seq ?_
      refine wp_seq ?_
      -- region 12
      refine wp_region_lit ?_
      refine pl HF (p_mv rfl) rfl (ltN rfl) rfl ?_; clear HF a; intro a HF
      refine g_call HF rfl rfl ent16 (ltN rfl) (l_IndexByte _ 58 _ HS) ?_; clear HF a; rintro _ w ⟨rfl, HS⟩ a HF
      rw [e4] at HF
      refine pl HF (p_as rfl) rfl (ltN rfl) rfl ?_; clear HF a; intro a HF
      refine pe ?_
      refine tn ?_
      refine wp_seq ?_
      -- region 13
      refine wp_region_lit ?_
      refine pl HF (p_mv rfl) rfl (ltN rfl) rfl ?_; clear HF a; intro a HF
      refine pl HF (p_geq rfl rfl) rfl (ltN rfl) rfl ?_; clear HF a; intro a HF
      refine pe ?_
      refine tn ?_
      refine c_if HF rfl (fun hc37 => ?_) (fun hc37 => ?_)
      · exfalso; revert hc37; decide
      · refine wp_skip ?_
        refine tn ?_
        refine wp_seq ?_
        -- region 26
        refine wp_region_lit ?_
        refine pl HF (p_mv rfl) rfl (ltN rfl) rfl ?_; clear HF a; intro a HF
        refine g_call HF rfl rfl ent14 (ltN rfl) (r_Lower _ (by first | omega | (simp; omega)) _ HS) ?_; clear HF a; rintro _ w ⟨rfl, HS⟩ a HF
        rw [e5] at HF
        refine pl HF (p_fld fo27_1 rfl) rfl (ltN rfl) rfl ?_; clear HF a; intro a HF
        refine g_st (cs' := [_, _, _]) HF HS sz9 rfl rfl rfl rfl rfl (by repeat first | exact .here | apply Upd.there) rfl rfl ?_; clear HS; intro w HS
        refine pe ?_
        refine tn ?_
        refine wp_seq ?_
        refine wp_seq ?_
        -- region 27
        refine wp_region_lit ?_
        refine pl HF (p_lbA (vs := [_, _, _]) HS ak27 sz27 rfl (by repeat first | exact .here | apply Pick.there) rfl rfl) rfl (ltN rfl) rfl ?_; clear HF a; intro a HF
        refine g_call HF rfl rfl ent18 (ltN rfl) (r_OriginRight ⟨false, h, portOf false⟩ _ HS) ?_; clear HF a; rintro _ w ⟨rfl, HS⟩ a HF
        rw [e6] at HF
        refine pl HF (p_not rfl) rfl (ltN rfl) rfl ?_; clear HF a; intro a HF
        refine pe ?_
        refine tn ?_
        refine c_if HF rfl (fun hc79 => ?_) (fun hc79 => ?_)
        · exfalso; revert hc79; decide
        · refine wp_skip ?_
          refine tn ?_
          refine wp_seq ?_
          -- region 29
          refine wp_region_lit ?_
          refine pl HF (p_lbA (vs := [_, _, _]) HS ak27 sz27 rfl (by repeat first | exact .here | apply Pick.there) rfl rfl) rfl (ltN rfl) rfl ?_; clear HF a; intro a HF
          refine g_st (cs' := [_, _, _]) HF HS sz27 rfl rfl rfl rfl rfl (by repeat first | exact .here | apply Upd.there) rfl rfl ?_; clear HS; intro w HS
          refine pl HF (p_as rfl) rfl (ltN rfl) rfl ?_; clear HF a; intro a HF
          refine pe ?_
          refine tn ?_
          refine wp_ret ?_
          refine ret2 HF rfl (rv_of (p_lbA (vs := [_, _, _]) HS ak27 sz27 rfl (by repeat first | exact .here | apply Pick.there) rfl rfl) ⟨_, _, rfl⟩) (rv_t rfl) ?_
          exact ⟨rfl, HS.wk (by repeat first | exact .refl | apply Wk.cons | apply Wk.skip)⟩
    · exfalso; revert hc21; decide

set_option maxHeartbeats 1000000 in
theorem r_OriginParse_t {w0 : World} {F : Nat → Prop} {G : Gh} {H : List Asrt} (hG0 : HasMax G) (s h : Bs) (i : Nat) (hlen : s.length ≤ 1000) (hi : i + 3 ≤ s.length) (e1 : Lib.index s [58, 47, 47] = (i : Int)) (e2 : lower (s.take i) = [104, 116, 116, 112, 115]) (e3 : s.drop (i + 3) = h) (e4 : Lib.indexByte h 58 = -1) (e5 : lower h = h) (e6 : originR ⟨true, h, portOf true⟩ = true) (w : World) (HS : St w0 F G w H) : Does Try.prog 10 [S s] w fun v w' => v = .tuple #[.agg (oC ⟨true, h, portOf true⟩).toArray, I 0] ∧ St w0 F G w' H := by
  have hhl : h.length ≤ 1000 := by rw [← e3]; simp; omega
  refine enter Try.func10 rfl (N := 82) rfl rfl fun a HF => ?_
  refine wp_seq ?_
  -- region 0
  refine wp_region_lit ?_
  refine g_alloc HF HS zc27 (ltN rfl) ?_; clear HF HS a; intro a w b2 HF HS
  refine pl HF (p_as rfl) rfl (ltN rfl) rfl ?_; clear HF a; intro a HF
  refine pe ?_
  refine tn ?_
  refine wp_seq ?_
  -- region 1
  refine wp_region_lit ?_
  refine pl HF (p_bd (cs := [_, _, _]) pc27 zc27 rfl rfl) rfl (ltN rfl) rfl ?_; clear HF a; intro a HF
  refine g_alloc HF HS zc27 (ltN rfl) ?_; clear HF HS a; intro a w b4 HF HS
  refine g_st (cs' := [_, _, _]) HF HS sz27 rfl rfl rfl rfl rfl (by repeat first | exact .here | apply Upd.there) rfl rfl ?_; clear HS; intro w HS
  refine pe ?_
  refine tn ?_
  refine wp_seq ?_
  -- region 2
  refine wp_region_lit ?_
  refine pl HF (p_mv rfl) rfl (ltN rfl) rfl ?_; clear HF a; intro a HF
  refine g_call HF rfl rfl ent13 (ltN rfl) (l_Index hG0 _ _ (by omega) _ HS) ?_; clear HF a; rintro _ w ⟨rfl, HS⟩ a HF
  rw [e1] at HF
  refine pl HF (p_as rfl) rfl (ltN rfl) rfl ?_; clear HF a; intro a HF
  refine pe ?_
  refine tn ?_
  refine wp_seq ?_
  refine wp_seq ?_
  -- region 3
  refine wp_region_lit ?_
  refine pl HF (p_mv rfl) rfl (ltN rfl) rfl ?_; clear HF a; intro a HF
  refine pl HF (p_lss rfl rfl) rfl (ltN rfl) rfl ?_; clear HF a; intro a HF
  refine pe ?_
  refine tn ?_
  refine c_if HF rfl (fun hc14 => ?_) (fun hc14 => ?_)
  · exfalso; have := of_decide_eq_true hc14; omega
  · refine wp_skip ?_
    refine tn ?_
    refine wp_seq ?_
    refine wp_seq ?_
    -- region 5
    refine wp_region_lit ?_
    refine pl HF (p_mv rfl) rfl (ltN rfl) rfl ?_; clear HF a; intro a HF
    refine pl HF (p_mv rfl) rfl (ltN rfl) rfl ?_; clear HF a; intro a HF
    refine pl HF (p_sto Try.underlying9 rfl rfl rfl (by omega)) rfl (ltN rfl) rfl ?_; clear HF a; intro a HF
    refine g_call HF rfl rfl ent14 (ltN rfl) (r_Lower _ (by first | omega | (simp; omega)) _ HS) ?_; clear HF a; rintro _ w ⟨rfl, HS⟩ a HF
    rw [e2] at HF
    refine pe ?_
    refine tn ?_
    refine wp_block ?_
    refine wp_seq ?_
    -- region 7
    refine wp_region_lit ?_
    refine pl HF (p_seq rfl rfl) rfl (ltN rfl) rfl ?_; clear HF a; intro a HF
    refine pl HF (p_as rfl) rfl (ltN rfl) rfl ?_; clear HF a; intro a HF
    refine pe ?_
    refine tn ?_
    refine c_if HF rfl (fun hc21 => ?_) (fun hc21 => ?_)
    · exfalso; revert hc21; decide
    · refine wp_seq ?_
      -- region 8
      refine wp_region_lit ?_
      refine pl HF (p_seq rfl rfl) rfl (ltN rfl) rfl ?_; clear HF a; intro a HF
      refine pl HF (p_as rfl) rfl (ltN rfl) rfl ?_; clear HF a; intro a HF
      refine pe ?_
      refine tn ?_
      refine c_if HF rfl (fun hc23 => ?_) (fun hc23 => ?_)
      · -- region 9
        refine wp_region_lit ?_
        refine pl HF (p_fld fo27_0 rfl) rfl (ltN rfl) rfl ?_; clear HF a; intro a HF
        refine g_st (cs' := [_, _, _]) HF HS sz4 rfl rfl rfl rfl rfl (by repeat first | exact .here | apply Upd.there) rfl rfl ?_; clear HS; intro w HS
        refine pe ?_
        refine bn ?_
        refine tn ?_
        refine wp_seq ?_
        -- region 10
        refine wp_region_lit ?_
        refine pl HF (p_mv rfl) rfl (ltN rfl) rfl ?_; clear HF a; intro a HF
        refine pl HF (p_mv rfl) rfl (ltN rfl) rfl ?_; clear HF a; intro a HF
        refine pl HF (p_add rfl rfl (IntWalk.i64_in _ (by omega))) rfl (ltN rfl) rfl ?_; clear HF a; intro a HF
        refine pl HF (p_sfrom Try.underlying9 rfl rfl rfl (by omega)) rfl (ltN rfl) rfl ?_; clear HF a; intro a HF
        rw [e3] at HF
        refine pl HF (p_as rfl) rfl (ltN rfl) rfl ?_; clear HF a; intro a HF
        refine pe ?_
        refine tn ?_
        refine wp_seq ?_
        -- region 11
        refine wp_region_lit ?_
        refine pl HF (p_fld fo27_0 rfl) rfl (ltN rfl) rfl ?_; clear HF a; intro a HF
        refine pl HF (p_lb HS ak4 rfl (by repeat first | exact .here | apply Pick.there) rfl) rfl (ltN rfl) rfl ?_; clear HF a; intro a HF
        refine g_call HF rfl rfl ent15 (ltN rfl) (r_Port _ _ HS) ?_; clear HF a; rintro _ w ⟨rfl, HS⟩ a HF
        refine pl HF (p_fld fo27_2 rfl) rfl (ltN rfl) rfl ?_; clear HF a; intro a HF
        refine g_st (cs' := [_, _, _]) HF HS sz3 rfl rfl rfl rfl rfl (by repeat first | exact .here | apply Upd.there) rfl rfl ?_; clear HS; intro w HS
        refine pe ?_
        refine tn ?_
        refine wp_seq ?_
        refine wp_seq ?_
        -- region 12
        refine wp_region_lit ?_
        refine pl HF (p_mv rfl) rfl (ltN rfl) rfl ?_; clear HF a; intro a HF
        refine g_call HF rfl rfl ent16 (ltN rfl) (l_IndexByte _ 58 _ HS) ?_; clear HF a; rintro _ w ⟨rfl, HS⟩ a HF
        rw [e4] at HF
        refine pl HF (p_as rfl) rfl (ltN rfl) rfl ?_; clear HF a; intro a HF
        refine pe ?_
        refine tn ?_
        refine wp_seq ?_
        -- region 13
        refine wp_region_lit ?_
        refine pl HF (p_mv rfl) rfl (ltN rfl) rfl ?_; clear HF a; intro a HF
        refine pl HF (p_geq rfl rfl) rfl (ltN rfl) rfl ?_; clear HF a; intro a HF
        refine pe ?_
        refine tn ?_
        refine c_if HF rfl (fun hc37 => ?_) (fun hc37 => ?_)
        · exfalso; revert hc37; decide
        · refine wp_skip ?_
          refine tn ?_
          refine wp_seq ?_
          -- region 26
          refine wp_region_lit ?_
          refine pl HF (p_mv rfl) rfl (ltN rfl) rfl ?_; clear HF a; intro a HF
          refine g_call HF rfl rfl ent14 (ltN rfl) (r_Lower _ (by first | omega | (simp; omega)) _ HS) ?_; clear HF a; rintro _ w ⟨rfl, HS⟩ a HF
          rw [e5] at HF
          refine pl HF (p_fld fo27_1 rfl) rfl (ltN rfl) rfl ?_; clear HF a; intro a HF
          refine g_st (cs' := [_, _, _]) HF HS sz9 rfl rfl rfl rfl rfl (by repeat first | exact .here | apply Upd.there) rfl rfl ?_; clear HS; intro w HS
          refine pe ?_
          refine tn ?_
          refine wp_seq ?_
          refine wp_seq ?_
          -- region 27
          refine wp_region_lit ?_
          refine pl HF (p_lbA (vs := [_, _, _]) HS ak27 sz27 rfl (by repeat first | exact .here | apply Pick.there) rfl rfl) rfl (ltN rfl) rfl ?_; clear HF a; intro a HF
          refine g_call HF rfl rfl ent18 (ltN rfl) (r_OriginRight ⟨true, h, portOf true⟩ _ HS) ?_; clear HF a; rintro _ w ⟨rfl, HS⟩ a HF
          rw [e6] at HF
          refine pl HF (p_not rfl) rfl (ltN rfl) rfl ?_; clear HF a; intro a HF
          refine pe ?_
          refine tn ?_
          refine c_if HF rfl (fun hc79 => ?_) (fun hc79 => ?_)
          · exfalso; revert hc79; decide
          · refine wp_skip ?_
            refine tn ?_
            refine wp_seq ?_
            -- region 29
            refine wp_region_lit ?_
            refine pl HF (p_lbA (vs := [_, _, _]) HS ak27 sz27 rfl (by repeat first | exact .here | apply Pick.there) rfl rfl) rfl (ltN rfl) rfl ?_; clear HF a; intro a HF
            refine g_st (cs' := [_, _, _]) HF HS sz27 rfl rfl rfl rfl rfl (by repeat first | exact .here | apply Upd.there) rfl rfl ?_; clear HS; intro w HS
            refine pl HF (p_as rfl) rfl (ltN rfl) rfl ?_; clear HF a; intro a HF
            refine pe ?_
            refine tn ?_
            refine wp_ret ?_
            refine ret2 HF rfl (rv_of (p_lbA (vs := [_, _, _]) HS ak27 sz27 rfl (by repeat first | exact .here | apply Pick.there) rfl rfl) ⟨_, _, rfl⟩) (rv_t rfl) ?_
            exact ⟨rfl, HS.wk (by repeat first | exact .refl | apply Wk.cons | apply Wk.skip)⟩
      · exfalso; revert hc23; decide

end Gp
