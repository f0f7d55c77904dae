/- The law ScriptDecodes: it returns true. Printed by skel.py out of plan/P9.py. -/
import Derived.Test.YtjoggnekfopghaaP3
import Derived.Test.YtjoggnekfopghaaP8
namespace Gp
open Go Go.Proofs Go.RowKit

theorem RM.get {G : Gh} (rs : List (List Value)) : ∀ (ms : List Move) (k : Nat) (m : Move), RM G rs ms → ms[k]? = some m → ∃ hv, (∀ (j : Nat) (v : Value), (mvC m hv)[j]? = some v → rs.flatten[k * 24 + j]? = some v) ∧ RP G hv m.op.req.heads := by
  induction rs with
  | nil =>
    intro ms k m h hm
    cases ms with
    | nil => simp at hm
    | cons _ _ => exact h.elim
  | cons r rs ih =>
    intro ms k m h hm
    cases ms with
    | nil => exact h.elim
    | cons m' ms =>
      obtain ⟨⟨hv, h1, h2⟩, h3⟩ := h
      have hl : r.length = 24 := by rw [h1]; exact mvC_len m' hv
      cases k with
      | zero =>
        simp only [List.getElem?_cons_zero, Option.some.injEq] at hm
        subst hm
        refine ⟨hv, fun j v hj => ?_, h2⟩
        rw [← h1] at hj
        have hlt : j < r.length := (List.getElem?_eq_some_iff.1 hj).1
        rw [List.flatten_cons, List.getElem?_append_left (by omega), Nat.zero_mul, Nat.zero_add]; exact hj
      | succ k =>
        obtain ⟨hv2, h4, h5⟩ := ih ms k m h3 (by simpa using hm)
        refine ⟨hv2, fun j v hj => ?_, h5⟩
        have := h4 j v hj
        rw [List.flatten_cons, List.getElem?_append_right (by omega), hl, show (k + 1) * 24 + j - 24 = k * 24 + j by omega]; exact this
theorem dMove_heads (c : UInt8) (s : Bs) : (dMove c s).1.op.req.heads.length ≤ 1 := by
  unfold dMove
  simp only
  split
  · show (dHeadsOf _).length ≤ 1
    unfold dHeadsOf; split <;> simp
  · split <;> exact Nat.zero_le _
theorem decGo_heads : ∀ (n : Nat) (s : Bs) (m : Move), m ∈ decGo n s → m.op.req.heads.length ≤ 1
  | 0, _, _, h => by simp [decGo] at h
  | _ + 1, [], _, h => by simp [decGo] at h
  | n + 1, c :: s, m, h => by
    simp only [decGo, List.mem_cons] at h
    rcases h with rfl | h
    · exact dMove_heads c s
    · exact decGo_heads n _ m h
theorem decGo_len : ∀ (n : Nat) (s : Bs), (decGo n s).length ≤ n
  | 0, _ => by simp [decGo]
  | _ + 1, [] => by simp [decGo]
  | n + 1, c :: s => by simp only [decGo, List.length_cons]; exact Nat.succ_le_succ (decGo_len n _)

set_option maxRecDepth 100000 in
set_option maxHeartbeats 4000000 in
theorem l_ScriptDecodes {w0 : World} {F : Nat → Prop} {G : Gh} {H : List Asrt} (hG0 : HasMax G) (s : Bs) (w : World) (HS : St w0 F G w H) : Does Try.prog 3 [S s] w fun v w' => v = .bool true ∧ ∃ G', G.le G' ∧ St w0 F G' w' H := by
  refine enter Try.func3 rfl (N := 62) rfl rfl fun a HF => ?_
  refine wp_seq ?_
  -- region 0
  refine wp_region_lit ?_
  refine pl HF (p_as rfl) rfl (ltN rfl) rfl ?_; clear HF a; intro a HF
  refine pe ?_
  refine tn ?_
  refine wp_seq ?_
  refine wp_seq ?_
  -- region 1
  refine wp_region_lit ?_
  refine pl HF (p_mv rfl) rfl (ltN rfl) rfl ?_; clear HF a; intro a HF
  refine pl HF (p_lens Try.underlying9 rfl) rfl (ltN rfl) rfl ?_; clear HF a; intro a HF
  refine pl HF (p_gtr rfl rfl) rfl (ltN rfl) rfl ?_; clear HF a; intro a HF
  refine pe ?_
  refine tn ?_
  refine c_if HF rfl (fun hc8 => ?_) (fun hc8 => ?_)
  · refine wp_seq ?_
    -- region 2
    refine wp_region_lit ?_
    refine pl HF (p_as rfl) rfl (ltN rfl) rfl ?_; clear HF a; intro a HF
    refine pe ?_
    refine tn ?_
    refine wp_ret ?_
    refine tr ?_
    refine ret1 HF rfl (rv_t rfl) ?_
    first
      | exact ⟨rfl, G, Gh.le.refl G, HS⟩
      | exact ⟨rfl, G2, hG12, HS⟩
  · refine wp_skip ?_
    refine tn ?_
    refine wp_seq ?_
    -- region 3
    refine wp_region_lit ?_
    refine pl HF (p_mv rfl) rfl (ltN rfl) rfl ?_; clear HF a; intro a HF
    refine g_call HF rfl rfl ent4 (ltN rfl) (r_Decode hG0 s _ HS) ?_; clear HF a; rintro _ w ⟨G1, rows1, hG1, hRM1, hRS1, HS⟩ a HF
    refine pl HF (p_mv rfl) rfl (ltN rfl) rfl ?_; clear HF a; intro a HF
    refine g_call HF rfl rfl ent5 (ltN rfl) (c_Decode s _ HS) ?_; clear HF a; rintro _ w ⟨G2, rows2, hG2, hRM2, hRS2, HS⟩ a HF
    replace hRM1 := hRM1.mono hG2
    replace hRS1 := hRS1.mono hG2
    have hG12 := hG1.trans hG2
    have hdl := decGo_len 400 s
    have hdh := decGo_heads 400 s
    change (decode s).length ≤ 400 at hdl
    change ∀ m, m ∈ decode s → _ at hdh
    generalize decode s = ms at *
    obtain ⟨A1, c1, rfl, hc1, hl1, hr1⟩ := hRS1
    obtain ⟨A2, c2, rfl, hc2, hl2, hr2⟩ := hRS2
    refine pl HF (p_as rfl) rfl (ltN rfl) rfl ?_; clear HF a; intro a HF
    refine pl HF (p_as rfl) rfl (ltN rfl) rfl ?_; clear HF a; intro a HF
    refine pe ?_
    refine tn ?_
    refine wp_seq ?_
    refine wp_seq ?_
    -- region 4
    refine wp_region_lit ?_
    refine pl HF (p_mv rfl) rfl (ltN rfl) rfl ?_; clear HF a; intro a HF
    refine pl HF (p_lensl Try.underlying22 rfl) rfl (ltN rfl) rfl ?_; clear HF a; intro a HF
    refine pl HF (p_mv rfl) rfl (ltN rfl) rfl ?_; clear HF a; intro a HF
    refine pl HF (p_lensl Try.underlying24 rfl) rfl (ltN rfl) rfl ?_; clear HF a; intro a HF
    refine pl HF (p_ine rfl rfl) rfl (ltN rfl) rfl ?_; clear HF a; intro a HF
    refine pe ?_
    refine tn ?_
    refine c_if HF rfl (fun hc17 => ?_) (fun hc17 => ?_)
    · exfalso; simp at hc17
    · refine wp_skip ?_
      refine tn ?_
      refine wp_seq ?_
      refine wp_seq ?_
      -- region 6
      refine wp_region_lit ?_
      refine pl HF (p_as rfl) rfl (ltN rfl) rfl ?_; clear HF a; intro a HF
      refine pe ?_
      refine tn ?_
      refine wp_block ?_
      refine wp_loop_ghost (fun n a w => ∃ k : Nat, k ≤ ms.length ∧ n = ms.length - k ∧ St w0 F G2 w H ∧ Fr 62 a [(3, .slice A1 ms.length c1), (4, .slice A2 ms.length c2), (5, I k)]) ms.length ?_ ?_
      · exact ⟨0, Nat.zero_le _, rfl, HS, HF.cut [3, 4, 5] rfl⟩
      · rintro n a w ⟨k, hk, rfl, HS, HF⟩
        refine wp_seq ?_
        refine wp_seq ?_
        -- region 7
        refine wp_region_lit ?_
        refine pl HF (p_mv rfl) rfl (ltN rfl) rfl ?_; clear HF a; intro a HF
        refine pl HF (p_mv rfl) rfl (ltN rfl) rfl ?_; clear HF a; intro a HF
        refine pl HF (p_lensl Try.underlying22 rfl) rfl (ltN rfl) rfl ?_; clear HF a; intro a HF
        refine pl HF (p_lss rfl rfl) rfl (ltN rfl) rfl ?_; clear HF a; intro a HF
        refine pe ?_
        refine tn ?_
        refine c_if HF rfl (fun hc21 => ?_) (fun hc21 => ?_)
        · have hlt : k < ms.length := by have := of_decide_eq_true hc21; omega
          obtain ⟨m, hm⟩ : ∃ m, ms[k]? = some m := ⟨_, List.getElem?_eq_getElem hlt⟩
          obtain ⟨v1, hq1, hp1⟩ := RM.get rows1 ms k m hRM1 hm
          obtain ⟨v2, hq2, hp2⟩ := RM.get rows2 ms k m hRM2 hm
          have hhl : m.op.req.heads.length ≤ 1000000 := Nat.le_trans (hdh m (List.mem_of_getElem? hm)) (by decide)
          obtain ⟨b1, o1, cs1, t1, z1, rfl, hg1, hx1⟩ := hr1 (by intro e; rw [e] at hl1; simp at hl1; omega)
          obtain ⟨b2, o2, cs2, t2, z2, rfl, hg2, hx2⟩ := hr2 (by intro e; rw [e] at hl2; simp at hl2; omega)
          refine wp_skip ?_
          refine tn ?_
          refine wp_seq ?_
          refine wp_block ?_
          refine wp_seq ?_
          -- region 9 DRAWS
          refine rq HS mixed (by kernel_rfl) ?_
          refine ql HF (fun w HS => p_mv rfl) rfl (ltN rfl) rfl ?_; clear HF a; intro a HF
          refine ql HF (fun w HS => p_mv rfl) rfl (ltN rfl) rfl ?_; clear HF a; intro a HF
          refine ql HF (fun w HS => p_ixa sl22 rfl rfl rfl hlt) rfl (ltN rfl) rfl ?_; clear HF a; intro a HF
          refine ql HF (fun w HS => p_fld fo38_0 rfl) rfl (ltN rfl) rfl ?_; clear HF a; intro a HF
          refine ql HF (fun w HS => p_ld ak3 rfl (HS.gcell hg1 (by have := hx1 _ _ (hq1 0 _ rfl); exact this))) rfl (ltN rfl) rfl ?_; clear HF a; intro a HF
          refine ql HF (fun w HS => p_mv rfl) rfl (ltN rfl) rfl ?_; clear HF a; intro a HF
          refine ql HF (fun w HS => p_mv rfl) rfl (ltN rfl) rfl ?_; clear HF a; intro a HF
          refine ql HF (fun w HS => p_ixa sl24 rfl rfl rfl hlt) rfl (ltN rfl) rfl ?_; clear HF a; intro a HF
          refine ql HF (fun w HS => p_fld fo39_0 rfl) rfl (ltN rfl) rfl ?_; clear HF a; intro a HF
          refine ql HF (fun w HS => p_ld ak3 rfl (HS.gcell hg2 (by have := hx2 _ _ (hq2 0 _ rfl); exact this))) rfl (ltN rfl) rfl ?_; clear HF a; intro a HF
          refine ql HF (fun w HS => p_ine rfl rfl) rfl (ltN rfl) rfl ?_; clear HF a; intro a HF
          refine ql HF (fun w HS => p_mv rfl) rfl (ltN rfl) rfl ?_; clear HF a; intro a HF
          refine bsplit HF ?_ ?_ <;> clear HF
          · intro hg35 HF
            exfalso; simp at hg35
          · intro hg35 HF
            refine qw HF (fun w HS => p_mv rfl) rfl (ltN rfl) rfl rfl rfl rfl ?_; clear HF a; intro a HF
            refine qw HF (fun w HS => p_mv rfl) rfl (ltN rfl) rfl rfl rfl rfl ?_; clear HF a; intro a HF
            refine qw HF (fun w HS => p_ixa sl22 rfl rfl rfl hlt) rfl (ltN rfl) rfl rfl rfl rfl ?_; clear HF a; intro a HF
            refine qw HF (fun w HS => p_fld fo38_1 rfl) rfl (ltN rfl) rfl rfl rfl rfl ?_; clear HF a; intro a HF
            refine qw HF (fun w HS => p_ld ak3 rfl (HS.gcell hg1 (by have := hx1 _ _ (hq1 1 _ rfl); exact this))) rfl (ltN rfl) rfl rfl rfl rfl ?_; clear HF a; intro a HF
            refine qw HF (fun w HS => p_mv rfl) rfl (ltN rfl) rfl rfl rfl rfl ?_; clear HF a; intro a HF
            refine qw HF (fun w HS => p_mv rfl) rfl (ltN rfl) rfl rfl rfl rfl ?_; clear HF a; intro a HF
            refine qw HF (fun w HS => p_ixa sl24 rfl rfl rfl hlt) rfl (ltN rfl) rfl rfl rfl rfl ?_; clear HF a; intro a HF
            refine qw HF (fun w HS => p_fld fo39_1 rfl) rfl (ltN rfl) rfl rfl rfl rfl ?_; clear HF a; intro a HF
            refine qw HF (fun w HS => p_ld ak3 rfl (HS.gcell hg2 (by have := hx2 _ _ (hq2 1 _ rfl); exact this))) rfl (ltN rfl) rfl rfl rfl rfl ?_; clear HF a; intro a HF
            refine qw HF (fun w HS => p_ine rfl rfl) rfl (ltN rfl) rfl rfl rfl rfl ?_; clear HF a; intro a HF
            refine ql HF (fun w HS => p_pickF rfl rfl) rfl (ltN rfl) rfl ?_; clear HF a; intro a HF
            refine ql HF (fun w HS => p_mv rfl) rfl (ltN rfl) rfl ?_; clear HF a; intro a HF
            refine bsplit HF ?_ ?_ <;> clear HF
            · intro hg48 HF
              exfalso; simp at hg48
            · intro hg48 HF
              refine qw HF (fun w HS => p_mv rfl) rfl (ltN rfl) rfl rfl rfl rfl ?_; clear HF a; intro a HF
              refine qw HF (fun w HS => p_mv rfl) rfl (ltN rfl) rfl rfl rfl rfl ?_; clear HF a; intro a HF
              refine qw HF (fun w HS => p_ixa sl22 rfl rfl rfl hlt) rfl (ltN rfl) rfl rfl rfl rfl ?_; clear HF a; intro a HF
              refine qw HF (fun w HS => p_fld fo38_2 rfl) rfl (ltN rfl) rfl rfl rfl rfl ?_; clear HF a; intro a HF
              refine qw HF (fun w HS => p_ldA ak36 sz36 (vs := opC m.op v1) rfl rfl (fun j v hv => HS.gcell hg1 (by rw [show o1 + k * 24 + 2 + j = o1 + (k * 24 + (j + 2)) by omega]; exact hx1 _ _ (hq1 (j + 2) v hv)))) rfl (ltN rfl) rfl rfl rfl rfl ?_; clear HF a; intro a HF
              refine qw HF (fun w HS => p_mv rfl) rfl (ltN rfl) rfl rfl rfl rfl ?_; clear HF a; intro a HF
              refine qw HF (fun w HS => p_mv rfl) rfl (ltN rfl) rfl rfl rfl rfl ?_; clear HF a; intro a HF
              refine qw HF (fun w HS => p_ixa sl24 rfl rfl rfl hlt) rfl (ltN rfl) rfl rfl rfl rfl ?_; clear HF a; intro a HF
              refine qw HF (fun w HS => p_fld fo39_2 rfl) rfl (ltN rfl) rfl rfl rfl rfl ?_; clear HF a; intro a HF
              refine qw HF (fun w HS => p_ldA ak36 sz36 (vs := opC m.op v2) rfl rfl (fun j v hv => HS.gcell hg2 (by rw [show o2 + k * 24 + 2 + j = o2 + (k * 24 + (j + 2)) by omega]; exact hx2 _ _ (hq2 (j + 2) v hv)))) rfl (ltN rfl) rfl rfl rfl rfl ?_; clear HF a; intro a HF
              refine q_callw HF rfl rfl rfl rfl rfl ent6 (ltN rfl) (fun w HS => (l_sameOp m.op _ _ hhl hp1 hp2 _ HS)) ?_; clear HF a; intro a HF
              refine qw HF (fun w HS => p_not rfl) rfl (ltN rfl) rfl rfl rfl rfl ?_; clear HF a; intro a HF
              refine ql HF (fun w HS => p_pickF rfl rfl) rfl (ltN rfl) rfl ?_; clear HF a; intro a HF
              refine qe ?_; intro w HS
              refine tn ?_
              refine c_if HF rfl (fun hc61 => ?_) (fun hc61 => ?_)
              · exfalso; simp at hc61
              · refine wp_skip ?_
                refine bn ?_
                refine tn ?_
                -- region 8
                refine wp_region_lit ?_
                refine pl HF (p_mv rfl) rfl (ltN rfl) rfl ?_; clear HF a; intro a HF
                refine pl HF (p_add rfl rfl (IntWalk.i64_in _ (by omega))) rfl (ltN rfl) rfl ?_; clear HF a; intro a HF
                refine pl HF (p_as rfl) rfl (ltN rfl) rfl ?_; clear HF a; intro a HF
                refine pe ?_
                refine tn ?_
                exact ⟨ms.length - (k + 1), by omega, k + 1, by omega, rfl, HS, HF.cut [3, 4, 5] rfl⟩
        · refine wp_exit ?_
          refine tx ?_
          refine tx ?_
          refine bh ?_
          refine tn ?_
          refine wp_seq ?_
          -- region 11
          refine wp_region_lit ?_
          refine pl HF (p_as rfl) rfl (ltN rfl) rfl ?_; clear HF a; intro a HF
          refine pe ?_
          refine tn ?_
          refine wp_ret ?_
          refine ret1 HF rfl (rv_t rfl) ?_
          first
            | exact ⟨rfl, G, Gh.le.refl G, HS⟩
            | exact ⟨rfl, G2, hG12, HS⟩

end Gp
