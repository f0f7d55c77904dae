/- The reference's OriginRight, Port. Printed by skel.py out of plan/P5.py. -/
import Derived.Test.YtjoggnekfopghaaP1
import Derived.Test.YtjoggnekfopghaaRd
import Derived.Test.YtjoggnekfopghaaM
namespace Gp
open Go Go.Proofs Go.RowKit

/-- A byte that cannot stand in a host behind 'was'. -/
def okI (c : Int) : Bool := decide (97 ≤ c ∧ c ≤ 122) || decide (48 ≤ c ∧ c ≤ 57)
def badI (was c : Int) : Bool := (c == 46 && (was == 46 || was == 45)) || (c == 45 && was == 46) || (c != 46 && c != 45 && !okI c)
def hostGo (was : UInt8) : Bs → Bool
  | [] => true
  | c :: r => !badI was.toNat c.toNat && hostGo c r
def hostR (h : Bs) : Bool := decide (h.length ≤ 60) && hostGo 46 (h ++ [46])
def originR (o : Origin) : Bool := hostR o.host && decide (1 ≤ o.port ∧ o.port ≤ 65535)
theorem drop_at {l : Bs} {k : Nat} {c : UInt8} (h : l[k]? = some c) : l.drop k = c :: l.drop (k + 1) := by
  obtain ⟨hk, rfl⟩ := List.getElem?_eq_some_iff.1 h
  exact List.drop_eq_getElem_cons hk
theorem c46 : Value.int .u8 46 = U 46 := rfl

theorem r_Port {w0 : World} {F : Nat → Prop} {G : Gh} {H : List Asrt} (p : Bool) (w : World) (HS : St w0 F G w H) : Does Try.prog 15 [T_ p] w fun v w' => v = I (portOf p) ∧ St w0 F G w' H := by
  refine enter Try.func15 rfl (N := 7) rfl rfl fun a HF => ?_
  refine wp_seq ?_
  -- region 0
  refine wp_region_lit ?_
  refine pl HF (p_as rfl) rfl (ltN rfl) rfl ?_; clear HF a; intro a HF
  refine pe ?_
  refine tn ?_
  refine wp_seq ?_
  -- region 1
  refine wp_region_lit ?_
  refine g_mkmap HF HS (ltN rfl) ?_; clear HF HS a; intro a w b3 HF HS
  refine g_ins HF HS Try.underlying67 Try.underlying4 rfl rfl rfl (by trivial) (by repeat first | exact .here | apply Upd.there) rfl ?_; clear HS; intro w HS
  refine g_ins HF HS Try.underlying67 Try.underlying4 rfl rfl rfl (by trivial) (by repeat first | exact .here | apply Upd.there) rfl ?_; clear HS; intro w HS
  refine pl HF (p_mv rfl) rfl (ltN rfl) rfl ?_; clear HF a; intro a HF
  refine pl HF (p_mv rfl) rfl (ltN rfl) rfl ?_; clear HF a; intro a HF
  refine pl HF (p_lkp (v := I (portOf p)) (i := cond p 0 1) HS Try.underlying67 Try.underlying4 rfl rfl (by trivial) (by repeat first | exact .here | apply Pick.there) (by cases p <;> rfl)) rfl (ltN rfl) rfl ?_; clear HF a; intro a HF
  refine pl HF (p_as rfl) rfl (ltN rfl) rfl ?_; clear HF a; intro a HF
  refine pe ?_
  refine tn ?_
  refine wp_ret ?_
  refine ret1 HF rfl (rv_t rfl) ?_
  exact ⟨rfl, HS.drop⟩

set_option maxHeartbeats 1000000 in
theorem r_OriginRight {w0 : World} {F : Nat → Prop} {G : Gh} {H : List Asrt} (o : Origin) (w : World) (HS : St w0 F G w H) : Does Try.prog 18 [.agg (oC o).toArray] w fun v w' => v = T_ (originR o) ∧ St w0 F G w' H := by
  obtain ⟨sec, l, port⟩ := o
  refine enter Try.func18 rfl (N := 69) rfl rfl fun a HF => ?_
  refine wp_seq ?_
  -- region 0
  refine wp_region_lit ?_
  refine g_box HF HS rfl rfl (ltN rfl) ?_; clear HF HS a; intro a w b1 HF HS
  refine pl HF (p_as rfl) rfl (ltN rfl) rfl ?_; clear HF a; intro a HF
  refine pe ?_
  refine tn ?_
  refine wp_seq ?_
  refine wp_seq ?_
  -- region 1
  refine wp_region_lit ?_
  refine pl HF (p_fld fo27_1 rfl) rfl (ltN rfl) rfl ?_; clear HF a; intro a HF
  refine pl HF (p_lb HS ak9 rfl (by repeat first | exact .here | apply Pick.there) rfl) rfl (ltN rfl) rfl ?_; clear HF a; intro a HF
  refine pl HF (p_lens Try.underlying9 rfl) rfl (ltN rfl) rfl ?_; clear HF a; intro a HF
  refine pl HF (p_gtr rfl rfl) rfl (ltN rfl) rfl ?_; clear HF a; intro a HF
  refine pl HF (p_mv rfl) rfl (ltN rfl) rfl ?_; clear HF a; intro a HF
  refine bsplit HF ?_ ?_ <;> clear HF
  · intro hg11 HF
    have hlen : (60 : Int) < (l.length : Int) := of_decide_eq_true hg11
    refine pn HF rfl (ltN rfl) rfl rfl rfl rfl rfl ?_; clear HF a; intro a HF
    refine pn HF rfl (ltN rfl) rfl rfl rfl rfl rfl ?_; clear HF a; intro a HF
    refine pn HF rfl (ltN rfl) rfl rfl rfl rfl rfl ?_; clear HF a; intro a HF
    refine pn HF rfl (ltN rfl) rfl rfl rfl rfl rfl ?_; clear HF a; intro a HF
    refine pl HF (p_pickT rfl rfl) rfl (ltN rfl) rfl ?_; clear HF a; intro a HF
    refine pe ?_
    refine tn ?_
    refine c_t HF rfl ?_
    refine wp_seq ?_
    -- region 2
    refine wp_region_lit ?_
    refine pl HF (p_as rfl) rfl (ltN rfl) rfl ?_; clear HF a; intro a HF
    refine pe ?_
    refine tn ?_
    refine wp_ret ?_
    refine tr ?_
    refine ret1 HF rfl (rv_t rfl) ?_
    refine ⟨congrArg Value.bool ?_, HS.wk (by repeat first | exact .refl | apply Wk.cons | apply Wk.skip)⟩
    simp only [originR, hostR]
    first
      | (have h1 : ¬ l.length ≤ 60 := by omega
         rw [decide_eq_false h1]; rfl)
      | (have h1 : decide (1 ≤ port ∧ port ≤ 65535) = false := by rw [Bool.not_eq_true'] at hc16; exact hc16
         rw [h1, Bool.and_false])
      | (have h2 : hostGo 46 (l ++ [46]) = false := by rw [← hgo, hostGo, ← hu, hc41]; rfl
         rw [h2, Bool.and_false]; rfl)
      | (have h2 : hostGo 46 (l ++ [46]) = true := by rw [← hgo, List.drop_length]; rfl
         have h1 : decide (1 ≤ port ∧ port ≤ 65535) = true := by simpa using hc16
         rw [h2, h1, decide_eq_true hb1]; rfl)
  · intro hg11 HF
    have hlen : ¬ (60 : Int) < (l.length : Int) := of_decide_eq_false hg11
    refine pw HF (p_fld fo27_2 rfl) rfl (ltN rfl) rfl rfl rfl rfl ?_; clear HF a; intro a HF
    refine pw HF (p_lb HS ak3 rfl (by repeat first | exact .here | apply Pick.there) rfl) rfl (ltN rfl) rfl rfl rfl rfl ?_; clear HF a; intro a HF
    refine g_callw HF rfl rfl rfl rfl rfl ent17 (ltN rfl) (r_within _ _ _ _) ?_; clear HF a; rintro _ w ⟨rfl, rfl⟩ a HF
    refine pw HF (p_not rfl) rfl (ltN rfl) rfl rfl rfl rfl ?_; clear HF a; intro a HF
    refine pl HF (p_pickF rfl rfl) rfl (ltN rfl) rfl ?_; clear HF a; intro a HF
    refine pe ?_
    refine tn ?_
    refine c_if HF rfl (fun hc16 => ?_) (fun hc16 => ?_)
    · have hc16 := hc16
      refine wp_seq ?_
      -- region 2
      refine wp_region_lit ?_
      refine pl HF (p_as rfl) rfl (ltN rfl) rfl ?_; clear HF a; intro a HF
      refine pe ?_
      refine tn ?_
      refine wp_ret ?_
      refine tr ?_
      refine ret1 HF rfl (rv_t rfl) ?_
      refine ⟨congrArg Value.bool ?_, HS.wk (by repeat first | exact .refl | apply Wk.cons | apply Wk.skip)⟩
      simp only [originR, hostR]
      first
        | (have h1 : ¬ l.length ≤ 60 := by omega
           rw [decide_eq_false h1]; rfl)
        | (have h1 : decide (1 ≤ port ∧ port ≤ 65535) = false := by rw [Bool.not_eq_true'] at hc16; exact hc16
           rw [h1, Bool.and_false])
        | (have h2 : hostGo 46 (l ++ [46]) = false := by rw [← hgo, hostGo, ← hu, hc41]; rfl
           rw [h2, Bool.and_false]; rfl)
        | (have h2 : hostGo 46 (l ++ [46]) = true := by rw [← hgo, List.drop_length]; rfl
           have h1 : decide (1 ≤ port ∧ port ≤ 65535) = true := by simpa using hc16
           rw [h2, h1, decide_eq_true hb1]; rfl)
    · have hc16 := hc16
      refine wp_skip ?_
      refine tn ?_
      refine wp_seq ?_
      -- region 3
      refine wp_region_lit ?_
      refine pl HF (p_as rfl) rfl (ltN rfl) rfl ?_; clear HF a; intro a HF
      refine pe ?_
      refine tn ?_
      refine wp_seq ?_
      refine wp_seq ?_
      -- region 4
      refine wp_region_lit ?_
      refine pl HF (p_as rfl) rfl (ltN rfl) rfl ?_; clear HF a; intro a HF
      refine pe ?_
      refine tn ?_
      refine wp_block ?_
      have hb1 : l.length ≤ 60 := by omega
      refine wp_loop_ghost (fun n a w => ∃ (k : Nat) (was : UInt8), k ≤ (l ++ [46]).length ∧ n = (l ++ [46]).length - k ∧ hostGo was ((l ++ [46]).drop k) = hostGo 46 (l ++ [46]) ∧ Fr 69 a [(1, Pt b1 0), (3, U was), (4, I k)] ∧ St w0 F G w (blk b1 [T_ sec, S l, I port] 27 :: H)) (l ++ [46]).length ?_ ?_
      · exact ⟨0, 46, Nat.zero_le _, rfl, rfl, HF.cut [1, 3, 4] rfl, HS⟩
      · rintro n a w ⟨k, was, hk, rfl, hgo, HF, HS⟩
        have hlk : (l ++ [46]).length = l.length + 1 := by simp
        refine wp_seq ?_
        refine wp_seq ?_
        -- region 5
        refine wp_region_lit ?_
        refine pl HF (p_mv rfl) rfl (ltN rfl) rfl ?_; clear HF a; intro a HF
        refine pl HF (p_fld fo27_1 rfl) rfl (ltN rfl) rfl ?_; clear HF a; intro a HF
        refine pl HF (p_lb HS ak9 rfl (by repeat first | exact .here | apply Pick.there) rfl) rfl (ltN rfl) rfl ?_; clear HF a; intro a HF
        refine pl HF (p_lens Try.underlying9 rfl) rfl (ltN rfl) rfl ?_; clear HF a; intro a HF
        refine pl HF (p_leq rfl rfl) rfl (ltN rfl) rfl ?_; clear HF a; intro a HF
        refine pe ?_
        refine tn ?_
        refine c_if HF rfl (fun hc21 => ?_) (fun hc21 => ?_)
        · have hlt : k < (l ++ [46]).length := by have := of_decide_eq_true hc21; omega
          refine wp_skip ?_
          refine tn ?_
          refine wp_seq ?_
          refine wp_block ?_
          refine wp_seq ?_
          -- region 7
          refine wp_region_lit ?_
          refine pl HF (p_as rfl) rfl (ltN rfl) rfl ?_; clear HF a; intro a HF
          refine pe ?_
          refine tn ?_
          refine wp_join (M := fun a w => ∃ c : UInt8, (l ++ [46])[k]? = some c ∧ Fr 69 a [(1, Pt b1 0), (3, U was), (4, I k), (5, U c)] ∧ St w0 F G w (blk b1 [T_ sec, S l, I port] 27 :: H)) ?_ ?_
          · refine wp_seq ?_
            -- region 8
            refine wp_region_lit ?_
            refine pl HF (p_mv rfl) rfl (ltN rfl) rfl ?_; clear HF a; intro a HF
            refine pl HF (p_fld fo27_1 rfl) rfl (ltN rfl) rfl ?_; clear HF a; intro a HF
            refine pl HF (p_lb HS ak9 rfl (by repeat first | exact .here | apply Pick.there) rfl) rfl (ltN rfl) rfl ?_; clear HF a; intro a HF
            refine pl HF (p_lens Try.underlying9 rfl) rfl (ltN rfl) rfl ?_; clear HF a; intro a HF
            refine pl HF (p_lss rfl rfl) rfl (ltN rfl) rfl ?_; clear HF a; intro a HF
            refine pe ?_
            refine tn ?_
            refine c_if HF rfl (fun hc28 => ?_) (fun hc28 => ?_)
            · have hlt2 : k < l.length := by have := of_decide_eq_true hc28; omega
              -- region 9
              refine wp_region_lit ?_
              refine pl HF (p_fld fo27_1 rfl) rfl (ltN rfl) rfl ?_; clear HF a; intro a HF
              refine pl HF (p_lb HS ak9 rfl (by repeat first | exact .here | apply Pick.there) rfl) rfl (ltN rfl) rfl ?_; clear HF a; intro a HF
              refine pl HF (p_mv rfl) rfl (ltN rfl) rfl ?_; clear HF a; intro a HF
              refine pl HF (p_idx Try.underlying9 rfl rfl rfl (List.getElem?_eq_getElem hlt2)) rfl (ltN rfl) rfl ?_; clear HF a; intro a HF
              refine pl HF (p_as rfl) rfl (ltN rfl) rfl ?_; clear HF a; intro a HF
              refine pe ?_
              refine tn ?_
              first | exact ⟨l[k], by simp [List.getElem?_append, hlt2], HF.cut [1, 3, 4, 5] rfl, HS⟩ | exact ⟨46, by simp, HF.cut [1, 3, 4, 5] rfl, HS⟩
            · have hge : k = l.length := by have := of_decide_eq_false hc28; omega
              subst hge
              refine wp_skip ?_
              refine tn ?_
              first | exact ⟨l[k], by simp [List.getElem?_append, hlt2], HF.cut [1, 3, 4, 5] rfl, HS⟩ | exact ⟨46, by simp, HF.cut [1, 3, 4, 5] rfl, HS⟩
          · rintro a w ⟨c, hc, HF, HS⟩
            have hb := c.toNat_lt
            rw [drop_at hc] at hgo
            clear hc21
            refine wp_join (M := fun a w => ∃ t, t = okI c.toNat ∧ Fr 69 a [(1, Pt b1 0), (3, U was), (4, I k), (5, U c), (6, T_ t)] ∧ St w0 F G w (blk b1 [T_ sec, S l, I port] 27 :: H)) ?_ ?_
            · -- region 10
              refine wp_region_lit ?_
              refine pl HF (p_mv rfl) rfl (ltN rfl) rfl ?_; clear HF a; intro a HF
              refine pl HF (p_conv (by rw [Try.underlying5]; rfl) Try.underlying3 rfl (byte_i64 _)) rfl (ltN rfl) rfl ?_; clear HF a; intro a HF
              refine g_call HF rfl rfl ent17 (ltN rfl) (r_within _ _ _ _) ?_; clear HF a; rintro _ w ⟨rfl, rfl⟩ a HF
              refine pl HF (p_mv rfl) rfl (ltN rfl) rfl ?_; clear HF a; intro a HF
              refine bsplit HF ?_ ?_ <;> clear HF
              · intro hg36 HF
                refine pn HF rfl (ltN rfl) rfl rfl rfl rfl rfl ?_; clear HF a; intro a HF
                refine pn HF rfl (ltN rfl) rfl rfl rfl rfl rfl ?_; clear HF a; intro a HF
                refine pn HF rfl (ltN rfl) rfl rfl rfl rfl rfl ?_; clear HF a; intro a HF
                refine pl HF (p_pickT rfl rfl) rfl (ltN rfl) rfl ?_; clear HF a; intro a HF
                refine pl HF (p_as rfl) rfl (ltN rfl) rfl ?_; clear HF a; intro a HF
                refine pe ?_
                refine tn ?_
                exact ⟨_, by simp only [okI, hg36, Bool.true_or, Bool.false_or], HF.cut [1, 3, 4, 5, 6] rfl, HS⟩
              · intro hg36 HF
                refine pw HF (p_mv rfl) rfl (ltN rfl) rfl rfl rfl rfl ?_; clear HF a; intro a HF
                refine pw HF (p_conv (by rw [Try.underlying5]; rfl) Try.underlying3 rfl (byte_i64 _)) rfl (ltN rfl) rfl rfl rfl rfl ?_; clear HF a; intro a HF
                refine g_callw HF rfl rfl rfl rfl rfl ent17 (ltN rfl) (r_within _ _ _ _) ?_; clear HF a; rintro _ w ⟨rfl, rfl⟩ a HF
                refine pl HF (p_pickF rfl rfl) rfl (ltN rfl) rfl ?_; clear HF a; intro a HF
                refine pl HF (p_as rfl) rfl (ltN rfl) rfl ?_; clear HF a; intro a HF
                refine pe ?_
                refine tn ?_
                exact ⟨_, by simp only [okI, hg36, Bool.true_or, Bool.false_or], HF.cut [1, 3, 4, 5, 6] rfl, HS⟩
            · rintro a w ⟨t, ht, HF, HS⟩
              refine wp_seq ?_
              refine wp_block ?_
              refine wp_join (M := fun a w => ∃ u, u = badI was.toNat c.toNat ∧ Fr 69 a [(1, Pt b1 0), (3, U was), (4, I k), (5, U c), (41, T_ u)] ∧ St w0 F G w (blk b1 [T_ sec, S l, I port] 27 :: H)) ?_ ?_
              · refine wp_seq ?_
                -- region 11
                refine wp_region_lit ?_
                refine pl HF (p_mv rfl) rfl (ltN rfl) rfl ?_; clear HF a; intro a HF
                refine pl HF (p_ieq rfl rfl) rfl (ltN rfl) rfl ?_; clear HF a; intro a HF
                refine pl HF (p_mv rfl) rfl (ltN rfl) rfl ?_; clear HF a; intro a HF
                refine bsplit HF ?_ ?_ <;> clear HF
                · intro hg44 HF
                  refine pw HF (p_mv rfl) rfl (ltN rfl) rfl rfl rfl rfl ?_; clear HF a; intro a HF
                  refine pw HF (p_ieq rfl rfl) rfl (ltN rfl) rfl rfl rfl rfl ?_; clear HF a; intro a HF
                  refine pw HF (p_mv rfl) rfl (ltN rfl) rfl rfl rfl rfl ?_; clear HF a; intro a HF
                  refine bsplit HF ?_ ?_ <;> clear HF
                  · intro hg47 HF
                    refine pn HF rfl (ltN rfl) rfl rfl rfl rfl rfl ?_; clear HF a; intro a HF
                    refine pn HF rfl (ltN rfl) rfl rfl rfl rfl rfl ?_; clear HF a; intro a HF
                    refine pw HF (p_pickT rfl rfl) rfl (ltN rfl) rfl rfl rfl rfl ?_; clear HF a; intro a HF
                    refine pl HF (p_pickT rfl rfl) rfl (ltN rfl) rfl ?_; clear HF a; intro a HF
                    refine pl HF (p_as rfl) rfl (ltN rfl) rfl ?_; clear HF a; intro a HF
                    refine pe ?_
                    refine tn ?_
                    refine c_t HF rfl ?_
                    refine wp_skip ?_
                    refine tn ?_
                    refine ⟨_, ?_, HF.cut [1, 3, 4, 5, 41] rfl, HS⟩; simp only [badI, bne, *, Bool.true_and, Bool.false_and, Bool.and_true, Bool.and_false, Bool.true_or, Bool.or_true, Bool.false_or, Bool.or_false, Bool.not_true, Bool.not_false] <;> simp_all
                  · intro hg47 HF
                    refine pw HF (p_mv rfl) rfl (ltN rfl) rfl rfl rfl rfl ?_; clear HF a; intro a HF
                    refine pw HF (p_ieq rfl rfl) rfl (ltN rfl) rfl rfl rfl rfl ?_; clear HF a; intro a HF
                    refine pw HF (p_pickF rfl rfl) rfl (ltN rfl) rfl rfl rfl rfl ?_; clear HF a; intro a HF
                    refine pl HF (p_pickT rfl rfl) rfl (ltN rfl) rfl ?_; clear HF a; intro a HF
                    refine pl HF (p_as rfl) rfl (ltN rfl) rfl ?_; clear HF a; intro a HF
                    refine pe ?_
                    refine tn ?_
                    refine c_if HF rfl (fun hc41 => ?_) (fun hc41 => ?_)
                    · refine wp_skip ?_
                      refine tn ?_
                      refine ⟨_, ?_, HF.cut [1, 3, 4, 5, 41] rfl, HS⟩; simp only [badI, bne, *, Bool.true_and, Bool.false_and, Bool.and_true, Bool.and_false, Bool.true_or, Bool.or_true, Bool.false_or, Bool.or_false, Bool.not_true, Bool.not_false] <;> simp_all
                    · refine wp_seq ?_
                      -- region 12
                      refine wp_region_lit ?_
                      refine pl HF (p_mv rfl) rfl (ltN rfl) rfl ?_; clear HF a; intro a HF
                      refine pl HF (p_ieq rfl rfl) rfl (ltN rfl) rfl ?_; clear HF a; intro a HF
                      refine pl HF (p_mv rfl) rfl (ltN rfl) rfl ?_; clear HF a; intro a HF
                      refine bsplit HF ?_ ?_ <;> clear HF
                      · intro hg54 HF
                        refine pw HF (p_mv rfl) rfl (ltN rfl) rfl rfl rfl rfl ?_; clear HF a; intro a HF
                        refine pw HF (p_ieq rfl rfl) rfl (ltN rfl) rfl rfl rfl rfl ?_; clear HF a; intro a HF
                        refine pl HF (p_pickT rfl rfl) rfl (ltN rfl) rfl ?_; clear HF a; intro a HF
                        refine pl HF (p_as rfl) rfl (ltN rfl) rfl ?_; clear HF a; intro a HF
                        refine pe ?_
                        refine tn ?_
                        refine c_if HF rfl (fun hc41 => ?_) (fun hc41 => ?_)
                        · refine wp_skip ?_
                          refine tn ?_
                          refine ⟨_, ?_, HF.cut [1, 3, 4, 5, 41] rfl, HS⟩; simp only [badI, bne, *, Bool.true_and, Bool.false_and, Bool.and_true, Bool.and_false, Bool.true_or, Bool.or_true, Bool.false_or, Bool.or_false, Bool.not_true, Bool.not_false] <;> simp_all
                        · -- region 13
                          refine wp_region_lit ?_
                          refine pl HF (p_mv rfl) rfl (ltN rfl) rfl ?_; clear HF a; intro a HF
                          refine pl HF (p_ine rfl rfl) rfl (ltN rfl) rfl ?_; clear HF a; intro a HF
                          refine pl HF (p_mv rfl) rfl (ltN rfl) rfl ?_; clear HF a; intro a HF
                          refine bsplit HF ?_ ?_ <;> clear HF
                          · intro hg60 HF
                            refine pw HF (p_mv rfl) rfl (ltN rfl) rfl rfl rfl rfl ?_; clear HF a; intro a HF
                            refine pw HF (p_ine rfl rfl) rfl (ltN rfl) rfl rfl rfl rfl ?_; clear HF a; intro a HF
                            refine pl HF (p_pickT rfl rfl) rfl (ltN rfl) rfl ?_; clear HF a; intro a HF
                            refine pl HF (p_mv rfl) rfl (ltN rfl) rfl ?_; clear HF a; intro a HF
                            refine bsplit HF ?_ ?_ <;> clear HF
                            · intro hg64 HF
                              refine pw HF (p_mv rfl) rfl (ltN rfl) rfl rfl rfl rfl ?_; clear HF a; intro a HF
                              refine pw HF (p_not rfl) rfl (ltN rfl) rfl rfl rfl rfl ?_; clear HF a; intro a HF
                              refine pl HF (p_pickT rfl rfl) rfl (ltN rfl) rfl ?_; clear HF a; intro a HF
                              refine pl HF (p_as rfl) rfl (ltN rfl) rfl ?_; clear HF a; intro a HF
                              refine pe ?_
                              refine tn ?_
                              refine ⟨_, ?_, HF.cut [1, 3, 4, 5, 41] rfl, HS⟩; simp only [badI, bne, *, Bool.true_and, Bool.false_and, Bool.and_true, Bool.and_false, Bool.true_or, Bool.or_true, Bool.false_or, Bool.or_false, Bool.not_true, Bool.not_false] <;> simp_all
                            · intro hg64 HF
                              refine pn HF rfl (ltN rfl) rfl rfl rfl rfl rfl ?_; clear HF a; intro a HF
                              refine pn HF rfl (ltN rfl) rfl rfl rfl rfl rfl ?_; clear HF a; intro a HF
                              refine pl HF (p_pickF rfl rfl) rfl (ltN rfl) rfl ?_; clear HF a; intro a HF
                              refine pl HF (p_as rfl) rfl (ltN rfl) rfl ?_; clear HF a; intro a HF
                              refine pe ?_
                              refine tn ?_
                              refine ⟨_, ?_, HF.cut [1, 3, 4, 5, 41] rfl, HS⟩; simp only [badI, bne, *, Bool.true_and, Bool.false_and, Bool.and_true, Bool.and_false, Bool.true_or, Bool.or_true, Bool.false_or, Bool.or_false, Bool.not_true, Bool.not_false] <;> simp_all
                          · intro hg60 HF
                            refine pn HF rfl (ltN rfl) rfl rfl rfl rfl rfl ?_; clear HF a; intro a HF
                            refine pn HF rfl (ltN rfl) rfl rfl rfl rfl rfl ?_; clear HF a; intro a HF
                            refine pl HF (p_pickF rfl rfl) rfl (ltN rfl) rfl ?_; clear HF a; intro a HF
                            refine pl HF (p_mv rfl) rfl (ltN rfl) rfl ?_; clear HF a; intro a HF
                            refine pn HF rfl (ltN rfl) rfl rfl rfl rfl rfl ?_; clear HF a; intro a HF
                            refine pn HF rfl (ltN rfl) rfl rfl rfl rfl rfl ?_; clear HF a; intro a HF
                            refine pl HF (p_pickF rfl rfl) rfl (ltN rfl) rfl ?_; clear HF a; intro a HF
                            refine pl HF (p_as rfl) rfl (ltN rfl) rfl ?_; clear HF a; intro a HF
                            refine pe ?_
                            refine tn ?_
                            refine ⟨_, ?_, HF.cut [1, 3, 4, 5, 41] rfl, HS⟩; simp only [badI, bne, *, Bool.true_and, Bool.false_and, Bool.and_true, Bool.and_false, Bool.true_or, Bool.or_true, Bool.false_or, Bool.or_false, Bool.not_true, Bool.not_false] <;> simp_all
                      · intro hg54 HF
                        refine pn HF rfl (ltN rfl) rfl rfl rfl rfl rfl ?_; clear HF a; intro a HF
                        refine pn HF rfl (ltN rfl) rfl rfl rfl rfl rfl ?_; clear HF a; intro a HF
                        refine pl HF (p_pickF rfl rfl) rfl (ltN rfl) rfl ?_; clear HF a; intro a HF
                        refine pl HF (p_as rfl) rfl (ltN rfl) rfl ?_; clear HF a; intro a HF
                        refine pe ?_
                        refine tn ?_
                        refine c_f HF rfl ?_
                        -- region 13
                        refine wp_region_lit ?_
                        refine pl HF (p_mv rfl) rfl (ltN rfl) rfl ?_; clear HF a; intro a HF
                        refine pl HF (p_ine rfl rfl) rfl (ltN rfl) rfl ?_; clear HF a; intro a HF
                        refine pl HF (p_mv rfl) rfl (ltN rfl) rfl ?_; clear HF a; intro a HF
                        refine bsplit HF ?_ ?_ <;> clear HF
                        · intro hg60 HF
                          refine pw HF (p_mv rfl) rfl (ltN rfl) rfl rfl rfl rfl ?_; clear HF a; intro a HF
                          refine pw HF (p_ine rfl rfl) rfl (ltN rfl) rfl rfl rfl rfl ?_; clear HF a; intro a HF
                          refine pl HF (p_pickT rfl rfl) rfl (ltN rfl) rfl ?_; clear HF a; intro a HF
                          refine pl HF (p_mv rfl) rfl (ltN rfl) rfl ?_; clear HF a; intro a HF
                          refine bsplit HF ?_ ?_ <;> clear HF
                          · intro hg64 HF
                            refine pw HF (p_mv rfl) rfl (ltN rfl) rfl rfl rfl rfl ?_; clear HF a; intro a HF
                            refine pw HF (p_not rfl) rfl (ltN rfl) rfl rfl rfl rfl ?_; clear HF a; intro a HF
                            refine pl HF (p_pickT rfl rfl) rfl (ltN rfl) rfl ?_; clear HF a; intro a HF
                            refine pl HF (p_as rfl) rfl (ltN rfl) rfl ?_; clear HF a; intro a HF
                            refine pe ?_
                            refine tn ?_
                            refine ⟨_, ?_, HF.cut [1, 3, 4, 5, 41] rfl, HS⟩; simp only [badI, bne, *, Bool.true_and, Bool.false_and, Bool.and_true, Bool.and_false, Bool.true_or, Bool.or_true, Bool.false_or, Bool.or_false, Bool.not_true, Bool.not_false] <;> simp_all
                          · intro hg64 HF
                            refine pn HF rfl (ltN rfl) rfl rfl rfl rfl rfl ?_; clear HF a; intro a HF
                            refine pn HF rfl (ltN rfl) rfl rfl rfl rfl rfl ?_; clear HF a; intro a HF
                            refine pl HF (p_pickF rfl rfl) rfl (ltN rfl) rfl ?_; clear HF a; intro a HF
                            refine pl HF (p_as rfl) rfl (ltN rfl) rfl ?_; clear HF a; intro a HF
                            refine pe ?_
                            refine tn ?_
                            refine ⟨_, ?_, HF.cut [1, 3, 4, 5, 41] rfl, HS⟩; simp only [badI, bne, *, Bool.true_and, Bool.false_and, Bool.and_true, Bool.and_false, Bool.true_or, Bool.or_true, Bool.false_or, Bool.or_false, Bool.not_true, Bool.not_false] <;> simp_all
                        · intro hg60 HF
                          refine pn HF rfl (ltN rfl) rfl rfl rfl rfl rfl ?_; clear HF a; intro a HF
                          refine pn HF rfl (ltN rfl) rfl rfl rfl rfl rfl ?_; clear HF a; intro a HF
                          refine pl HF (p_pickF rfl rfl) rfl (ltN rfl) rfl ?_; clear HF a; intro a HF
                          refine pl HF (p_mv rfl) rfl (ltN rfl) rfl ?_; clear HF a; intro a HF
                          refine pn HF rfl (ltN rfl) rfl rfl rfl rfl rfl ?_; clear HF a; intro a HF
                          refine pn HF rfl (ltN rfl) rfl rfl rfl rfl rfl ?_; clear HF a; intro a HF
                          refine pl HF (p_pickF rfl rfl) rfl (ltN rfl) rfl ?_; clear HF a; intro a HF
                          refine pl HF (p_as rfl) rfl (ltN rfl) rfl ?_; clear HF a; intro a HF
                          refine pe ?_
                          refine tn ?_
                          refine ⟨_, ?_, HF.cut [1, 3, 4, 5, 41] rfl, HS⟩; simp only [badI, bne, *, Bool.true_and, Bool.false_and, Bool.and_true, Bool.and_false, Bool.true_or, Bool.or_true, Bool.false_or, Bool.or_false, Bool.not_true, Bool.not_false] <;> simp_all
                · intro hg44 HF
                  refine pn HF rfl (ltN rfl) rfl rfl rfl rfl rfl ?_; clear HF a; intro a HF
                  refine pn HF rfl (ltN rfl) rfl rfl rfl rfl rfl ?_; clear HF a; intro a HF
                  refine pn HF rfl (ltN rfl) rfl rfl rfl rfl rfl ?_; clear HF a; intro a HF
                  refine pn HF rfl (ltN rfl) rfl rfl rfl rfl rfl ?_; clear HF a; intro a HF
                  refine pn HF rfl (ltN rfl) rfl rfl rfl rfl rfl ?_; clear HF a; intro a HF
                  refine pn HF rfl (ltN rfl) rfl rfl rfl rfl rfl ?_; clear HF a; intro a HF
                  refine pl HF (p_pickF rfl rfl) rfl (ltN rfl) rfl ?_; clear HF a; intro a HF
                  refine pl HF (p_as rfl) rfl (ltN rfl) rfl ?_; clear HF a; intro a HF
                  refine pe ?_
                  refine tn ?_
                  refine c_f HF rfl ?_
                  refine wp_seq ?_
                  -- region 12
                  refine wp_region_lit ?_
                  refine pl HF (p_mv rfl) rfl (ltN rfl) rfl ?_; clear HF a; intro a HF
                  refine pl HF (p_ieq rfl rfl) rfl (ltN rfl) rfl ?_; clear HF a; intro a HF
                  refine pl HF (p_mv rfl) rfl (ltN rfl) rfl ?_; clear HF a; intro a HF
                  refine bsplit HF ?_ ?_ <;> clear HF
                  · intro hg54 HF
                    refine pw HF (p_mv rfl) rfl (ltN rfl) rfl rfl rfl rfl ?_; clear HF a; intro a HF
                    refine pw HF (p_ieq rfl rfl) rfl (ltN rfl) rfl rfl rfl rfl ?_; clear HF a; intro a HF
                    refine pl HF (p_pickT rfl rfl) rfl (ltN rfl) rfl ?_; clear HF a; intro a HF
                    refine pl HF (p_as rfl) rfl (ltN rfl) rfl ?_; clear HF a; intro a HF
                    refine pe ?_
                    refine tn ?_
                    refine c_if HF rfl (fun hc41 => ?_) (fun hc41 => ?_)
                    · refine wp_skip ?_
                      refine tn ?_
                      refine ⟨_, ?_, HF.cut [1, 3, 4, 5, 41] rfl, HS⟩; simp only [badI, bne, *, Bool.true_and, Bool.false_and, Bool.and_true, Bool.and_false, Bool.true_or, Bool.or_true, Bool.false_or, Bool.or_false, Bool.not_true, Bool.not_false] <;> simp_all
                    · -- region 13
                      refine wp_region_lit ?_
                      refine pl HF (p_mv rfl) rfl (ltN rfl) rfl ?_; clear HF a; intro a HF
                      refine pl HF (p_ine rfl rfl) rfl (ltN rfl) rfl ?_; clear HF a; intro a HF
                      refine pl HF (p_mv rfl) rfl (ltN rfl) rfl ?_; clear HF a; intro a HF
                      refine bsplit HF ?_ ?_ <;> clear HF
                      · intro hg60 HF
                        refine pw HF (p_mv rfl) rfl (ltN rfl) rfl rfl rfl rfl ?_; clear HF a; intro a HF
                        refine pw HF (p_ine rfl rfl) rfl (ltN rfl) rfl rfl rfl rfl ?_; clear HF a; intro a HF
                        refine pl HF (p_pickT rfl rfl) rfl (ltN rfl) rfl ?_; clear HF a; intro a HF
                        refine pl HF (p_mv rfl) rfl (ltN rfl) rfl ?_; clear HF a; intro a HF
                        refine bsplit HF ?_ ?_ <;> clear HF
                        · intro hg64 HF
                          refine pw HF (p_mv rfl) rfl (ltN rfl) rfl rfl rfl rfl ?_; clear HF a; intro a HF
                          refine pw HF (p_not rfl) rfl (ltN rfl) rfl rfl rfl rfl ?_; clear HF a; intro a HF
                          refine pl HF (p_pickT rfl rfl) rfl (ltN rfl) rfl ?_; clear HF a; intro a HF
                          refine pl HF (p_as rfl) rfl (ltN rfl) rfl ?_; clear HF a; intro a HF
                          refine pe ?_
                          refine tn ?_
                          refine ⟨_, ?_, HF.cut [1, 3, 4, 5, 41] rfl, HS⟩; simp only [badI, bne, *, Bool.true_and, Bool.false_and, Bool.and_true, Bool.and_false, Bool.true_or, Bool.or_true, Bool.false_or, Bool.or_false, Bool.not_true, Bool.not_false] <;> simp_all
                        · intro hg64 HF
                          refine pn HF rfl (ltN rfl) rfl rfl rfl rfl rfl ?_; clear HF a; intro a HF
                          refine pn HF rfl (ltN rfl) rfl rfl rfl rfl rfl ?_; clear HF a; intro a HF
                          refine pl HF (p_pickF rfl rfl) rfl (ltN rfl) rfl ?_; clear HF a; intro a HF
                          refine pl HF (p_as rfl) rfl (ltN rfl) rfl ?_; clear HF a; intro a HF
                          refine pe ?_
                          refine tn ?_
                          refine ⟨_, ?_, HF.cut [1, 3, 4, 5, 41] rfl, HS⟩; simp only [badI, bne, *, Bool.true_and, Bool.false_and, Bool.and_true, Bool.and_false, Bool.true_or, Bool.or_true, Bool.false_or, Bool.or_false, Bool.not_true, Bool.not_false] <;> simp_all
                      · intro hg60 HF
                        refine pn HF rfl (ltN rfl) rfl rfl rfl rfl rfl ?_; clear HF a; intro a HF
                        refine pn HF rfl (ltN rfl) rfl rfl rfl rfl rfl ?_; clear HF a; intro a HF
                        refine pl HF (p_pickF rfl rfl) rfl (ltN rfl) rfl ?_; clear HF a; intro a HF
                        refine pl HF (p_mv rfl) rfl (ltN rfl) rfl ?_; clear HF a; intro a HF
                        refine pn HF rfl (ltN rfl) rfl rfl rfl rfl rfl ?_; clear HF a; intro a HF
                        refine pn HF rfl (ltN rfl) rfl rfl rfl rfl rfl ?_; clear HF a; intro a HF
                        refine pl HF (p_pickF rfl rfl) rfl (ltN rfl) rfl ?_; clear HF a; intro a HF
                        refine pl HF (p_as rfl) rfl (ltN rfl) rfl ?_; clear HF a; intro a HF
                        refine pe ?_
                        refine tn ?_
                        refine ⟨_, ?_, HF.cut [1, 3, 4, 5, 41] rfl, HS⟩; simp only [badI, bne, *, Bool.true_and, Bool.false_and, Bool.and_true, Bool.and_false, Bool.true_or, Bool.or_true, Bool.false_or, Bool.or_false, Bool.not_true, Bool.not_false] <;> simp_all
                  · intro hg54 HF
                    refine pn HF rfl (ltN rfl) rfl rfl rfl rfl rfl ?_; clear HF a; intro a HF
                    refine pn HF rfl (ltN rfl) rfl rfl rfl rfl rfl ?_; clear HF a; intro a HF
                    refine pl HF (p_pickF rfl rfl) rfl (ltN rfl) rfl ?_; clear HF a; intro a HF
                    refine pl HF (p_as rfl) rfl (ltN rfl) rfl ?_; clear HF a; intro a HF
                    refine pe ?_
                    refine tn ?_
                    refine c_f HF rfl ?_
                    -- region 13
                    refine wp_region_lit ?_
                    refine pl HF (p_mv rfl) rfl (ltN rfl) rfl ?_; clear HF a; intro a HF
                    refine pl HF (p_ine rfl rfl) rfl (ltN rfl) rfl ?_; clear HF a; intro a HF
                    refine pl HF (p_mv rfl) rfl (ltN rfl) rfl ?_; clear HF a; intro a HF
                    refine bsplit HF ?_ ?_ <;> clear HF
                    · intro hg60 HF
                      refine pw HF (p_mv rfl) rfl (ltN rfl) rfl rfl rfl rfl ?_; clear HF a; intro a HF
                      refine pw HF (p_ine rfl rfl) rfl (ltN rfl) rfl rfl rfl rfl ?_; clear HF a; intro a HF
                      refine pl HF (p_pickT rfl rfl) rfl (ltN rfl) rfl ?_; clear HF a; intro a HF
                      refine pl HF (p_mv rfl) rfl (ltN rfl) rfl ?_; clear HF a; intro a HF
                      refine bsplit HF ?_ ?_ <;> clear HF
                      · intro hg64 HF
                        refine pw HF (p_mv rfl) rfl (ltN rfl) rfl rfl rfl rfl ?_; clear HF a; intro a HF
                        refine pw HF (p_not rfl) rfl (ltN rfl) rfl rfl rfl rfl ?_; clear HF a; intro a HF
                        refine pl HF (p_pickT rfl rfl) rfl (ltN rfl) rfl ?_; clear HF a; intro a HF
                        refine pl HF (p_as rfl) rfl (ltN rfl) rfl ?_; clear HF a; intro a HF
                        refine pe ?_
                        refine tn ?_
                        refine ⟨_, ?_, HF.cut [1, 3, 4, 5, 41] rfl, HS⟩; simp only [badI, bne, *, Bool.true_and, Bool.false_and, Bool.and_true, Bool.and_false, Bool.true_or, Bool.or_true, Bool.false_or, Bool.or_false, Bool.not_true, Bool.not_false] <;> simp_all
                      · intro hg64 HF
                        refine pn HF rfl (ltN rfl) rfl rfl rfl rfl rfl ?_; clear HF a; intro a HF
                        refine pn HF rfl (ltN rfl) rfl rfl rfl rfl rfl ?_; clear HF a; intro a HF
                        refine pl HF (p_pickF rfl rfl) rfl (ltN rfl) rfl ?_; clear HF a; intro a HF
                        refine pl HF (p_as rfl) rfl (ltN rfl) rfl ?_; clear HF a; intro a HF
                        refine pe ?_
                        refine tn ?_
                        refine ⟨_, ?_, HF.cut [1, 3, 4, 5, 41] rfl, HS⟩; simp only [badI, bne, *, Bool.true_and, Bool.false_and, Bool.and_true, Bool.and_false, Bool.true_or, Bool.or_true, Bool.false_or, Bool.or_false, Bool.not_true, Bool.not_false] <;> simp_all
                    · intro hg60 HF
                      refine pn HF rfl (ltN rfl) rfl rfl rfl rfl rfl ?_; clear HF a; intro a HF
                      refine pn HF rfl (ltN rfl) rfl rfl rfl rfl rfl ?_; clear HF a; intro a HF
                      refine pl HF (p_pickF rfl rfl) rfl (ltN rfl) rfl ?_; clear HF a; intro a HF
                      refine pl HF (p_mv rfl) rfl (ltN rfl) rfl ?_; clear HF a; intro a HF
                      refine pn HF rfl (ltN rfl) rfl rfl rfl rfl rfl ?_; clear HF a; intro a HF
                      refine pn HF rfl (ltN rfl) rfl rfl rfl rfl rfl ?_; clear HF a; intro a HF
                      refine pl HF (p_pickF rfl rfl) rfl (ltN rfl) rfl ?_; clear HF a; intro a HF
                      refine pl HF (p_as rfl) rfl (ltN rfl) rfl ?_; clear HF a; intro a HF
                      refine pe ?_
                      refine tn ?_
                      refine ⟨_, ?_, HF.cut [1, 3, 4, 5, 41] rfl, HS⟩; simp only [badI, bne, *, Bool.true_and, Bool.false_and, Bool.and_true, Bool.and_false, Bool.true_or, Bool.or_true, Bool.false_or, Bool.or_false, Bool.not_true, Bool.not_false] <;> simp_all
              · rintro a w ⟨u, hu, HF, HS⟩
                refine c_if HF rfl (fun hc41 => ?_) (fun hc41 => ?_)
                · refine wp_seq ?_
                  -- region 14
                  refine wp_region_lit ?_
                  refine pl HF (p_as rfl) rfl (ltN rfl) rfl ?_; clear HF a; intro a HF
                  refine pe ?_
                  refine tn ?_
                  refine wp_ret ?_
                  refine br ?_
                  refine tr ?_
                  refine br ?_
                  refine tr ?_
                  refine tr ?_
                  refine br ?_
                  refine tr ?_
                  refine ret1 HF rfl (rv_t rfl) ?_
                  refine ⟨congrArg Value.bool ?_, HS.wk (by repeat first | exact .refl | apply Wk.cons | apply Wk.skip)⟩
                  simp only [originR, hostR]
                  first
                    | (have h1 : ¬ l.length ≤ 60 := by omega
                       rw [decide_eq_false h1]; rfl)
                    | (have h1 : decide (1 ≤ port ∧ port ≤ 65535) = false := by rw [Bool.not_eq_true'] at hc16; exact hc16
                       rw [h1, Bool.and_false])
                    | (have h2 : hostGo 46 (l ++ [46]) = false := by rw [← hgo, hostGo, ← hu, hc41]; rfl
                       rw [h2, Bool.and_false]; rfl)
                    | (have h2 : hostGo 46 (l ++ [46]) = true := by rw [← hgo, List.drop_length]; rfl
                       have h1 : decide (1 ≤ port ∧ port ≤ 65535) = true := by simpa using hc16
                       rw [h2, h1, decide_eq_true hb1]; rfl)
                · refine wp_skip ?_
                  refine bn ?_
                  refine tn ?_
                  -- region 15
                  refine wp_region_lit ?_
                  refine pl HF (p_mv rfl) rfl (ltN rfl) rfl ?_; clear HF a; intro a HF
                  refine pl HF (p_as rfl) rfl (ltN rfl) rfl ?_; clear HF a; intro a HF
                  refine pe ?_
                  refine bn ?_
                  refine tn ?_
                  -- region 6
                  refine wp_region_lit ?_
                  refine pl HF (p_mv rfl) rfl (ltN rfl) rfl ?_; clear HF a; intro a HF
                  refine pl HF (p_add rfl rfl (IntWalk.i64_in _ (by omega))) rfl (ltN rfl) rfl ?_; clear HF a; intro a HF
                  refine pl HF (p_as rfl) rfl (ltN rfl) rfl ?_; clear HF a; intro a HF
                  refine pe ?_
                  refine tn ?_
                  refine ⟨(l ++ [46]).length - (k + 1), by omega, k + 1, c, by omega, rfl, ?_, HF.cut [1, 3, 4] rfl, HS⟩
                  rw [← hgo, hostGo]; simp_all
        · obtain rfl : k = (l ++ [46]).length := by have := of_decide_eq_false hc21; omega
          refine wp_exit ?_
          refine tx ?_
          refine tx ?_
          refine bh ?_
          refine tn ?_
          refine wp_seq ?_
          -- region 16
          refine wp_region_lit ?_
          refine pl HF (p_as rfl) rfl (ltN rfl) rfl ?_; clear HF a; intro a HF
          refine pe ?_
          refine tn ?_
          refine wp_ret ?_
          refine ret1 HF rfl (rv_t rfl) ?_
          refine ⟨congrArg Value.bool ?_, HS.wk (by repeat first | exact .refl | apply Wk.cons | apply Wk.skip)⟩
          simp only [originR, hostR]
          first
            | (have h1 : ¬ l.length ≤ 60 := by omega
               rw [decide_eq_false h1]; rfl)
            | (have h1 : decide (1 ≤ port ∧ port ≤ 65535) = false := by rw [Bool.not_eq_true'] at hc16; exact hc16
               rw [h1, Bool.and_false])
            | (have h2 : hostGo 46 (l ++ [46]) = false := by rw [← hgo, hostGo, ← hu, hc41]; rfl
               rw [h2, Bool.and_false]; rfl)
            | (have h2 : hostGo 46 (l ++ [46]) = true := by rw [← hgo, List.drop_length]; rfl
               have h1 : decide (1 ≤ port ∧ port ≤ 65535) = true := by simpa using hc16
               rw [h2, h1, decide_eq_true hb1]; rfl)

end Gp
