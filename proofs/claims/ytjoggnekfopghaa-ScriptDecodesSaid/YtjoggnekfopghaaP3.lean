/- The law's comparisons, where both sides are the same. Printed by skel.py out of plan/P3.py. -/
import Derived.Test.YtjoggnekfopghaaTab
import Derived.Test.YtjoggnekfopghaaBas
import Derived.Test.YtjoggnekfopghaaRd
import Derived.Test.YtjoggnekfopghaaDag
namespace Gp
open Go Go.Proofs Go.RowKit

theorem flatMap_get {l : List Param} {i : Nat} {p : Param} (h : l[i]? = some p) : ∀ (j : Nat) (v : Value), (paC p)[j]? = some v → (l.flatMap paC)[i * 2 + j]? = some v := by
  intro j v hv
  induction l generalizing i with
  | nil => simp at h
  | cons q r ih =>
    cases i with
    | zero =>
      simp only [List.getElem?_cons_zero, Option.some.injEq] at h
      subst h
      have hj : j < 2 := by
        have := (List.getElem?_eq_some_iff.1 hv).1
        simpa using this
      simp only [List.flatMap_cons, Nat.zero_mul, Nat.zero_add]
      rw [List.getElem?_append_left (by simpa using hj)]; exact hv
    | succ i =>
      have := ih (by simpa using h)
      simp only [List.flatMap_cons]
      rw [List.getElem?_append_right (by simp; omega)]
      rw [show (i + 1) * 2 + j - (paC q).length = i * 2 + j by simp; omega]; exact this
abbrev RA (o : GOp) (hv : Value) : List Value :=
  [I o.req.part, .bool o.req.src.secure, S o.req.src.host, I o.req.src.port, .bool o.req.url.o.secure, S o.req.url.o.host, I o.req.url.o.port, S o.req.url.path, S o.req.url.query, S o.req.method, hv, .bool o.req.with_, S o.req.body]
def RZ : List Value := [I 0, .bool false, S [], I 0, .bool false, S [], I 0, S [], S [], S [], .slice none 0 0, .bool false, S []]
theorem ceq_refl_s (l : Bs) : ceq .s (S l) (S l) = some true := by simp [ceq]

theorem l_sameParams {w0 : World} {F : Nat → Prop} {G : Gh} {H : List Asrt} (u v : Value) (l : List Param) (hl : l.length ≤ 1000000) (hu : RP G u l) (hv : RP G v l) (w : World) (HS : St w0 F G w H) : Does Try.prog 22 [u, v] w fun r w' => r = .bool true ∧ St w0 F G w' H := by
  obtain ⟨A, c, rfl, hlc, hln, hA⟩ := hu
  obtain ⟨B, d, rfl, hld, hln2, hB⟩ := hv
  refine enter Try.func22 rfl (N := 26) rfl rfl fun a HF => ?_
  refine wp_seq ?_
  -- region 0
  refine wp_region_lit ?_
  refine pl HF (p_as rfl) rfl (ltN rfl) rfl ?_; clear HF a; intro a HF
  refine pe ?_
  refine tn ?_
  refine wp_seq ?_
  refine wp_seq ?_
  -- region 1
  refine wp_region_lit ?_
  refine pl HF (p_mv rfl) rfl (ltN rfl) rfl ?_; clear HF a; intro a HF
  refine pl HF (p_lensl Try.underlying30 rfl) rfl (ltN rfl) rfl ?_; clear HF a; intro a HF
  refine pl HF (p_mv rfl) rfl (ltN rfl) rfl ?_; clear HF a; intro a HF
  refine pl HF (p_lensl Try.underlying30 rfl) rfl (ltN rfl) rfl ?_; clear HF a; intro a HF
  refine pl HF (p_ine rfl rfl) rfl (ltN rfl) rfl ?_; clear HF a; intro a HF
  refine pe ?_
  refine tn ?_
  refine c_if HF rfl (fun hc10 => ?_) (fun hc10 => ?_)
  · exfalso; simp at hc10
  · refine wp_skip ?_
    refine tn ?_
    refine wp_seq ?_
    refine wp_seq ?_
    -- region 3
    refine wp_region_lit ?_
    refine pl HF (p_as rfl) rfl (ltN rfl) rfl ?_; clear HF a; intro a HF
    refine pe ?_
    refine tn ?_
    refine wp_block ?_
    refine wp_loop_ghost (fun n a w => ∃ k : Nat, k ≤ l.length ∧ n = l.length - k ∧ St w0 F G w H ∧ Fr 26 a [(0, .slice A l.length c), (1, .slice B l.length d), (5, I k)]) l.length ?_ ?_
    · exact ⟨0, Nat.zero_le _, rfl, HS, HF.cut [0, 1, 5] rfl⟩
    · rintro n a w ⟨k, hk, rfl, HS, HF⟩
      refine wp_seq ?_
      refine wp_seq ?_
      -- region 4
      refine wp_region_lit ?_
      refine pl HF (p_mv rfl) rfl (ltN rfl) rfl ?_; clear HF a; intro a HF
      refine pl HF (p_mv rfl) rfl (ltN rfl) rfl ?_; clear HF a; intro a HF
      refine pl HF (p_lensl Try.underlying30 rfl) rfl (ltN rfl) rfl ?_; clear HF a; intro a HF
      refine pl HF (p_lss rfl rfl) rfl (ltN rfl) rfl ?_; clear HF a; intro a HF
      refine pe ?_
      refine tn ?_
      refine c_if HF rfl (fun hc14 => ?_) (fun hc14 => ?_)
      · have hlt : k < l.length := by have := of_decide_eq_true hc14; omega
        obtain ⟨p, hp⟩ : ∃ p, l[k]? = some p := ⟨_, List.getElem?_eq_getElem hlt⟩
        obtain ⟨b1, o1, cs1, t1, z1, rfl, hG1, hc1⟩ := hA (by intro e; rw [e] at hln; simp at hln; omega)
        obtain ⟨b2, o2, cs2, t2, z2, rfl, hG2, hc2⟩ := hB (by intro e; rw [e] at hln2; simp at hln2; omega)
        refine wp_skip ?_
        refine tn ?_
        refine wp_seq ?_
        refine wp_block ?_
        refine wp_seq ?_
        -- region 6 DRAWS
        refine rq HS mixed (by kernel_rfl) ?_
        refine ql HF (fun w HS => p_mv rfl) rfl (ltN rfl) rfl ?_; clear HF a; intro a HF
        refine ql HF (fun w HS => p_mv rfl) rfl (ltN rfl) rfl ?_; clear HF a; intro a HF
        refine ql HF (fun w HS => p_ixa sl30 rfl rfl rfl hlt) rfl (ltN rfl) rfl ?_; clear HF a; intro a HF
        refine ql HF (fun w HS => p_ldA ak52 sz52 (vs := paC p) rfl rfl (fun j v hv => HS.gcell hG1 (by rw [Nat.add_assoc]; exact hc1 _ _ (flatMap_get hp j v hv)))) rfl (ltN rfl) rfl ?_; clear HF a; intro a HF
        refine ql HF (fun w HS => p_mv rfl) rfl (ltN rfl) rfl ?_; clear HF a; intro a HF
        refine ql HF (fun w HS => p_mv rfl) rfl (ltN rfl) rfl ?_; clear HF a; intro a HF
        refine ql HF (fun w HS => p_ixa sl30 rfl rfl rfl hlt) rfl (ltN rfl) rfl ?_; clear HF a; intro a HF
        refine ql HF (fun w HS => p_ldA ak52 sz52 (vs := paC p) rfl rfl (fun j v hv => HS.gcell hG2 (by rw [Nat.add_assoc]; exact hc2 _ _ (flatMap_get hp j v hv)))) rfl (ltN rfl) rfl ?_; clear HF a; intro a HF
        refine ql HF (fun w HS => p_neA rfl rfl eg52 (eq_agg ck52 ak52 (b := true) (by simp [ceqs, ceq]))) rfl (ltN rfl) rfl ?_; clear HF a; intro a HF
        refine qe ?_; intro w HS
        refine tn ?_
        refine c_if HF rfl (fun hc25 => ?_) (fun hc25 => ?_)
        · exfalso; simp at hc25
        · refine wp_skip ?_
          refine bn ?_
          refine tn ?_
          -- region 5
          refine wp_region_lit ?_
          refine pl HF (p_mv rfl) rfl (ltN rfl) rfl ?_; clear HF a; intro a HF
          refine pl HF (p_add rfl rfl (IntWalk.i64_in _ (by omega))) rfl (ltN rfl) rfl ?_; clear HF a; intro a HF
          refine pl HF (p_as rfl) rfl (ltN rfl) rfl ?_; clear HF a; intro a HF
          refine pe ?_
          refine tn ?_
          exact ⟨l.length - (k + 1), by omega, k + 1, by omega, rfl, HS, HF.cut [0, 1, 5] rfl⟩
      · refine wp_exit ?_
        refine tx ?_
        refine tx ?_
        refine bh ?_
        refine tn ?_
        refine wp_seq ?_
        -- region 8
        refine wp_region_lit ?_
        refine pl HF (p_as rfl) rfl (ltN rfl) rfl ?_; clear HF a; intro a HF
        refine pe ?_
        refine tn ?_
        refine wp_ret ?_
        refine ret1 HF rfl (rv_t rfl) ?_
        exact ⟨rfl, HS⟩

theorem l_sameHeads {w0 : World} {F : Nat → Prop} {G : Gh} {H : List Asrt} (o : GOp) (u v : Value) (hlen : o.req.heads.length ≤ 1000000) (hu : RP G u o.req.heads) (hv : RP G v o.req.heads) (w : World) (HS : St w0 F G w H) : Does Try.prog 12 [.agg (opC o u).toArray, .agg (opC o v).toArray] w fun r w' => r = .bool true ∧ St w0 F G w' H := by
  refine enter Try.func12 rfl (N := 12) rfl rfl fun a HF => ?_
  refine wp_seq ?_
  -- region 0
  refine wp_region_lit ?_
  refine g_box HF HS rfl rfl (ltN rfl) ?_; clear HF HS a; intro a w b2 HF HS
  refine g_box HF HS rfl rfl (ltN rfl) ?_; clear HF HS a; intro a w b3 HF HS
  refine pl HF (p_as rfl) rfl (ltN rfl) rfl ?_; clear HF a; intro a HF
  refine pe ?_
  refine tn ?_
  refine wp_seq ?_
  -- region 1
  refine wp_region_lit ?_
  refine pl HF (p_fld fo36_1 rfl) rfl (ltN rfl) rfl ?_; clear HF a; intro a HF
  refine pl HF (p_fld fo32_4 rfl) rfl (ltN rfl) rfl ?_; clear HF a; intro a HF
  refine pl HF (p_lb HS ak30 rfl (by repeat first | exact .here | apply Pick.there) rfl) rfl (ltN rfl) rfl ?_; clear HF a; intro a HF
  refine pl HF (p_fld fo36_1 rfl) rfl (ltN rfl) rfl ?_; clear HF a; intro a HF
  refine pl HF (p_fld fo32_4 rfl) rfl (ltN rfl) rfl ?_; clear HF a; intro a HF
  refine pl HF (p_lb HS ak30 rfl (by repeat first | exact .here | apply Pick.there) rfl) rfl (ltN rfl) rfl ?_; clear HF a; intro a HF
  refine g_call HF rfl rfl ent22 (ltN rfl) (l_sameParams _ _ _ hlen hu hv _ HS) ?_; clear HF a; rintro _ w ⟨rfl, HS⟩ a HF
  refine pl HF (p_as rfl) rfl (ltN rfl) rfl ?_; clear HF a; intro a HF
  refine pe ?_
  refine tn ?_
  refine wp_ret ?_
  refine ret1 HF rfl (rv_t rfl) ?_
  exact ⟨rfl, HS.wk (by repeat first | exact .refl | apply Wk.cons | apply Wk.skip)⟩

set_option maxRecDepth 100000 in
set_option maxHeartbeats 4000000 in
theorem l_sameOp {w0 : World} {F : Nat → Prop} {G : Gh} {H : List Asrt} (o : GOp) (u v : Value) (hlen : o.req.heads.length ≤ 1000000) (hu : RP G u o.req.heads) (hv : RP G v o.req.heads) (w : World) (HS : St w0 F G w H) : Does Try.prog 6 [.agg (opC o u).toArray, .agg (opC o v).toArray] w fun r w' => r = .bool true ∧ St w0 F G w' H := by
  obtain ⟨A1, c1, hu1, _⟩ := id hu
  obtain ⟨A2, c2, hv1, _⟩ := id hv
  refine enter Try.func6 rfl (N := 112) rfl rfl fun a HF => ?_
  refine wp_seq ?_
  -- region 0
  refine wp_region_lit ?_
  refine g_box HF HS rfl rfl (ltN rfl) ?_; clear HF HS a; intro a w b2 HF HS
  refine g_box HF HS rfl rfl (ltN rfl) ?_; clear HF HS a; intro a w b3 HF HS
  refine pl HF (p_as rfl) rfl (ltN rfl) rfl ?_; clear HF a; intro a HF
  refine pe ?_
  refine tn ?_
  refine wp_seq ?_
  -- region 1 DRAWS
  replace HF : Fr 112 a [(2, Pt b2 0), (3, Pt b3 0)] := HF.cut [2, 3] rfl
  refine dag (N := 112) (L0 := [(2, Pt b2 0), (3, Pt b3 0)]) (H := blk b3 (opC o v) 36 :: blk b2 (opC o u) 36 :: H)
    [⟨[], [], fun (_ : Gh) σ => σ 0 = Pt b2 1, fun σ => [], none⟩,
     ⟨[0], [], fun (_ : Gh) σ => σ 1 = .agg (RA o u).toArray, fun σ => [], none⟩,
     ⟨[], [], fun (_ : Gh) σ => σ 2 = Pt b3 1, fun σ => [], none⟩,
     ⟨[2], [], fun (_ : Gh) σ => σ 3 = .agg (RA o v).toArray, fun σ => [], none⟩,
     ⟨[], [], fun (_ : Gh) σ => ∃ b, σ 4 = Pt b 0, fun σ => [blk (pb (σ 4)) RZ 32], some 6⟩,
     ⟨[], [], fun (_ : Gh) σ => ∃ b, σ 5 = Pt b 0, fun σ => [blk (pb (σ 5)) RZ 32], some 7⟩,
     ⟨[4, 1, 0], [4], fun (_ : Gh) σ => True, fun σ => [blk (pb (σ 4)) (RA o u) 32], none⟩,
     ⟨[5, 3, 2], [5], fun (_ : Gh) σ => True, fun σ => [blk (pb (σ 5)) (RA o v) 32], none⟩,
     ⟨[], [], fun (_ : Gh) σ => True, fun σ => [], none⟩] mixed (by kernel_rfl) (by kernel_rfl) ?_ (fun _ => undef) HF trivial HS false ?_ ?_
  · intro i hi
    simp only [List.length_cons, List.length_nil, Nat.reduceAdd] at hi
    have hi : i = 0 ∨ i = 1 ∨ i = 2 ∨ i = 3 ∨ i = 4 ∨ i = 5 ∨ i = 6 ∨ i = 7 ∨ i = 8 := by omega
    rcases hi with rfl | rfl | rfl | rfl | rfl | rfl | rfl | rfl | rfl
    · refine ⟨fun σ τ h => ?_, fun G G' σ hG h => ?_⟩
      · have e0 := h 0 (.inl rfl)
        simp only [dn, List.getD_cons_zero, List.getD_cons_succ]
        rw [e0]
        first | exact ⟨rfl, fun _ h => h⟩ | exact ⟨trivial, fun _ h => h⟩
      · exact h
    · refine ⟨fun σ τ h => ?_, fun G G' σ hG h => ?_⟩
      · have e1 := h 1 (.inl rfl)
        simp only [dn, List.getD_cons_zero, List.getD_cons_succ]
        rw [e1]
        first | exact ⟨rfl, fun _ h => h⟩ | exact ⟨trivial, fun _ h => h⟩
      · exact h
    · refine ⟨fun σ τ h => ?_, fun G G' σ hG h => ?_⟩
      · have e2 := h 2 (.inl rfl)
        simp only [dn, List.getD_cons_zero, List.getD_cons_succ]
        rw [e2]
        first | exact ⟨rfl, fun _ h => h⟩ | exact ⟨trivial, fun _ h => h⟩
      · exact h
    · refine ⟨fun σ τ h => ?_, fun G G' σ hG h => ?_⟩
      · have e3 := h 3 (.inl rfl)
        simp only [dn, List.getD_cons_zero, List.getD_cons_succ]
        rw [e3]
        first | exact ⟨rfl, fun _ h => h⟩ | exact ⟨trivial, fun _ h => h⟩
      · exact h
    · refine ⟨fun σ τ h => ?_, fun G G' σ hG h => ?_⟩
      · have e4 := h 4 (.inl rfl)
        simp only [dn, List.getD_cons_zero, List.getD_cons_succ]
        rw [e4]
        first | exact ⟨rfl, fun _ h => h⟩ | exact ⟨trivial, fun _ h => h⟩
      · exact h
    · refine ⟨fun σ τ h => ?_, fun G G' σ hG h => ?_⟩
      · have e5 := h 5 (.inl rfl)
        simp only [dn, List.getD_cons_zero, List.getD_cons_succ]
        rw [e5]
        first | exact ⟨rfl, fun _ h => h⟩ | exact ⟨trivial, fun _ h => h⟩
      · exact h
    · refine ⟨fun σ τ h => ?_, fun G G' σ hG h => ?_⟩
      · have e4 := h 4 (.inr (by simp [dn]))
        simp only [dn, List.getD_cons_zero, List.getD_cons_succ]
        rw [e4]
        first | exact ⟨rfl, fun _ h => h⟩ | exact ⟨trivial, fun _ h => h⟩
      · exact h
    · refine ⟨fun σ τ h => ?_, fun G G' σ hG h => ?_⟩
      · have e5 := h 5 (.inr (by simp [dn]))
        simp only [dn, List.getD_cons_zero, List.getD_cons_succ]
        rw [e5]
        first | exact ⟨rfl, fun _ h => h⟩ | exact ⟨trivial, fun _ h => h⟩
      · exact h
    · refine ⟨fun σ τ h => ?_, fun G G' σ hG h => ?_⟩
      · exact ⟨rfl, fun _ h => h⟩
      · exact h
  · refine ⟨?_, ?_, ?_, ?_, ?_, ?_, ?_, ?_, trivial⟩
    · refine Tri.pu rfl (fun _ => rfl) fun w σ G X hG hφ HS => ?_
      exact ⟨_, p_fld fo36_1 rfl, up_same _ _ _⟩
    · refine Tri.pu rfl (fun _ => rfl) fun w σ G X hG hφ HS => ?_
      have h0 := hφ 0 (by simp [dn])
      simp only [dn, List.getD_cons_zero, List.getD_cons_succ] at h0
      exact ⟨_, p_lbA (vs := RA o u) HS ak32 sz32 (by rw [← h0]; rfl) (by repeat first | exact .here | apply Pick.there) rfl rfl, up_same _ _ _⟩
    · refine Tri.pu rfl (fun _ => rfl) fun w σ G X hG hφ HS => ?_
      exact ⟨_, p_fld fo36_1 rfl, up_same _ _ _⟩
    · refine Tri.pu rfl (fun _ => rfl) fun w σ G X hG hφ HS => ?_
      have h2 := hφ 2 (by simp [dn])
      simp only [dn, List.getD_cons_zero, List.getD_cons_succ] at h2
      exact ⟨_, p_lbA (vs := RA o v) HS ak32 sz32 (by rw [← h2]; rfl) (by repeat first | exact .here | apply Pick.there) rfl rfl, up_same _ _ _⟩
    · refine Tri.ef fun w σ G X hG hφ HS => (e_alloc HS zc32).mono ?_
      rintro _ w ⟨b, rfl, HS⟩
      exact ⟨G, GL.refl _ G, ⟨b, up_same _ _ _⟩, HS⟩
    · refine Tri.ef fun w σ G X hG hφ HS => (e_alloc HS zc32).mono ?_
      rintro _ w ⟨b, rfl, HS⟩
      exact ⟨G, GL.refl _ G, ⟨b, up_same _ _ _⟩, HS⟩
    · refine Tri.ef fun w σ G X hG hφ HS => ?_
      have h4 := hφ 4 (by simp [dn])
      simp only [dn, List.getD_cons_zero, List.getD_cons_succ] at h4
      have h1 := hφ 1 (by simp [dn])
      simp only [dn, List.getD_cons_zero, List.getD_cons_succ] at h1
      obtain ⟨b, h4⟩ := h4
      replace HS : St w0 F G w (blk (pb (σ 4)) RZ 32 :: (blk b3 (opC o v) 36 :: blk b2 (opC o u) 36 :: H) ++ X) := HS
      rw [h4] at HS
      refine (e_st (b := b) (q := 0) (cs := RZ) (v := .agg (RA o u).toArray) (vs := RA o u) (cs' := RA o u) HS sz32 rfl (by rw [← show Pt b 0 = Pt b 0 from rfl, ← h4]; rfl) (by rw [← h1]; rfl) rfl (by simp [hu1, hv1, Value.oneCell']) .here rfl rfl).mono ?_
      rintro _ w HS
      refine ⟨G, GL.refl _ G, trivial, ?_⟩
      show St w0 F G w (blk (pb (σ 4)) (RA o u) 32 :: ((blk b3 (opC o v) 36 :: blk b2 (opC o u) 36 :: H) ++ X))
      rw [h4]
      exact HS
    · refine Tri.ef fun w σ G X hG hφ HS => ?_
      have h5 := hφ 5 (by simp [dn])
      simp only [dn, List.getD_cons_zero, List.getD_cons_succ] at h5
      have h3 := hφ 3 (by simp [dn])
      simp only [dn, List.getD_cons_zero, List.getD_cons_succ] at h3
      obtain ⟨b, h5⟩ := h5
      replace HS : St w0 F G w (blk (pb (σ 5)) RZ 32 :: (blk b3 (opC o v) 36 :: blk b2 (opC o u) 36 :: H) ++ X) := HS
      rw [h5] at HS
      refine (e_st (b := b) (q := 0) (cs := RZ) (v := .agg (RA o v).toArray) (vs := RA o v) (cs' := RA o v) HS sz32 rfl (by rw [← show Pt b 0 = Pt b 0 from rfl, ← h5]; rfl) (by rw [← h3]; rfl) rfl (by simp [hu1, hv1, Value.oneCell']) .here rfl rfl).mono ?_
      rintro _ w HS
      refine ⟨G, GL.refl _ G, trivial, ?_⟩
      show St w0 F G w (blk (pb (σ 5)) (RA o v) 32 :: ((blk b3 (opC o v) 36 :: blk b2 (opC o u) 36 :: H) ++ X))
      rw [h5]
      exact HS
  clear HF HS
  intro a w σ G1 hG1 HF hφ HS
  obtain ⟨b5, h4⟩ := hφ 4 (by decide)
  obtain ⟨b6, h5⟩ := hφ 5 (by decide)
  have eG := hG1.2 rfl
  rw [eG] at HS
  replace HS : St w0 F G w (blk (pb (σ 4)) (RA o u) 32 :: blk (pb (σ 5)) (RA o v) 32 :: blk b3 (opC o v) 36 :: blk b2 (opC o u) 36 :: H) := HS
  replace HF : Fr 112 a [(5, σ 4), (6, σ 5), (2, Pt b2 0), (3, Pt b3 0)] := HF.cut [5, 6, 2, 3] rfl
  rw [h4, h5] at HS HF
  change St w0 F G w (blk b5 _ _ :: blk b6 _ _ :: _) at HS
  
  refine tn ?_
  refine wp_seq ?_
  -- region 2
  refine wp_region_lit ?_
  refine pl HF (p_fld fo36_0 rfl) rfl (ltN rfl) rfl ?_; clear HF a; intro a HF
  refine pl HF (p_lb HS ak3 rfl (by repeat first | exact .here | apply Pick.there) rfl) rfl (ltN rfl) rfl ?_; clear HF a; intro a HF
  refine pl HF (p_fld fo36_0 rfl) rfl (ltN rfl) rfl ?_; clear HF a; intro a HF
  refine pl HF (p_lb HS ak3 rfl (by repeat first | exact .here | apply Pick.there) rfl) rfl (ltN rfl) rfl ?_; clear HF a; intro a HF
  refine pl HF (p_ieq rfl rfl) rfl (ltN rfl) rfl ?_; clear HF a; intro a HF
  refine pl HF (p_mv rfl) rfl (ltN rfl) rfl ?_; clear HF a; intro a HF
  refine bsplit HF ?_ ?_ <;> clear HF
  · intro hg16 HF
    refine pw HF (p_fld fo36_2 rfl) rfl (ltN rfl) rfl rfl rfl rfl ?_; clear HF a; intro a HF
    refine pw HF (p_lb HS ak4 rfl (by repeat first | exact .here | apply Pick.there) rfl) rfl (ltN rfl) rfl rfl rfl rfl ?_; clear HF a; intro a HF
    refine pw HF (p_fld fo36_2 rfl) rfl (ltN rfl) rfl rfl rfl rfl ?_; clear HF a; intro a HF
    refine pw HF (p_lb HS ak4 rfl (by repeat first | exact .here | apply Pick.there) rfl) rfl (ltN rfl) rfl rfl rfl rfl ?_; clear HF a; intro a HF
    refine pw HF (p_beq Try.underlying4 rfl rfl) rfl (ltN rfl) rfl rfl rfl rfl ?_; clear HF a; intro a HF
    refine pl HF (p_pickT rfl rfl) rfl (ltN rfl) rfl ?_; clear HF a; intro a HF
    refine pl HF (p_mv rfl) rfl (ltN rfl) rfl ?_; clear HF a; intro a HF
    refine bsplit HF ?_ ?_ <;> clear HF
    · intro hg23 HF
      refine pw HF (p_fld fo36_3 rfl) rfl (ltN rfl) rfl rfl rfl rfl ?_; clear HF a; intro a HF
      refine pw HF (p_lb HS ak9 rfl (by repeat first | exact .here | apply Pick.there) rfl) rfl (ltN rfl) rfl rfl rfl rfl ?_; clear HF a; intro a HF
      refine pw HF (p_fld fo36_3 rfl) rfl (ltN rfl) rfl rfl rfl rfl ?_; clear HF a; intro a HF
      refine pw HF (p_lb HS ak9 rfl (by repeat first | exact .here | apply Pick.there) rfl) rfl (ltN rfl) rfl rfl rfl rfl ?_; clear HF a; intro a HF
      refine pw HF (p_seq rfl rfl) rfl (ltN rfl) rfl rfl rfl rfl ?_; clear HF a; intro a HF
      refine pl HF (p_pickT rfl rfl) rfl (ltN rfl) rfl ?_; clear HF a; intro a HF
      refine pl HF (p_mv rfl) rfl (ltN rfl) rfl ?_; clear HF a; intro a HF
      refine bsplit HF ?_ ?_ <;> clear HF
      · intro hg30 HF
        refine pw HF (p_fld fo36_4 rfl) rfl (ltN rfl) rfl rfl rfl rfl ?_; clear HF a; intro a HF
        refine pw HF (p_lbA (vs := [_, _]) HS ak34 sz34 rfl (by repeat first | exact .here | apply Pick.there) rfl rfl) rfl (ltN rfl) rfl rfl rfl rfl ?_; clear HF a; intro a HF
        refine pw HF (p_fld fo36_4 rfl) rfl (ltN rfl) rfl rfl rfl rfl ?_; clear HF a; intro a HF
        refine pw HF (p_lbA (vs := [_, _]) HS ak34 sz34 rfl (by repeat first | exact .here | apply Pick.there) rfl rfl) rfl (ltN rfl) rfl rfl rfl rfl ?_; clear HF a; intro a HF
        refine pw HF (p_eqA rfl rfl eg34 (eq_agg (b := true) ck34 ak34 (by simp [ceqs, ceq]))) rfl (ltN rfl) rfl rfl rfl rfl ?_; clear HF a; intro a HF
        refine pl HF (p_pickT rfl rfl) rfl (ltN rfl) rfl ?_; clear HF a; intro a HF
        refine pl HF (p_mv rfl) rfl (ltN rfl) rfl ?_; clear HF a; intro a HF
        refine bsplit HF ?_ ?_ <;> clear HF
        · intro hg37 HF
          refine pw HF (p_fld fo36_5 rfl) rfl (ltN rfl) rfl rfl rfl rfl ?_; clear HF a; intro a HF
          refine pw HF (p_lb HS ak9 rfl (by repeat first | exact .here | apply Pick.there) rfl) rfl (ltN rfl) rfl rfl rfl rfl ?_; clear HF a; intro a HF
          refine pw HF (p_fld fo36_5 rfl) rfl (ltN rfl) rfl rfl rfl rfl ?_; clear HF a; intro a HF
          refine pw HF (p_lb HS ak9 rfl (by repeat first | exact .here | apply Pick.there) rfl) rfl (ltN rfl) rfl rfl rfl rfl ?_; clear HF a; intro a HF
          refine pw HF (p_seq rfl rfl) rfl (ltN rfl) rfl rfl rfl rfl ?_; clear HF a; intro a HF
          refine pl HF (p_pickT rfl rfl) rfl (ltN rfl) rfl ?_; clear HF a; intro a HF
          refine pl HF (p_mv rfl) rfl (ltN rfl) rfl ?_; clear HF a; intro a HF
          refine bsplit HF ?_ ?_ <;> clear HF
          · intro hg44 HF
            refine pw HF (p_fld fo36_6 rfl) rfl (ltN rfl) rfl rfl rfl rfl ?_; clear HF a; intro a HF
            refine pw HF (p_lb HS ak3 rfl (by repeat first | exact .here | apply Pick.there) rfl) rfl (ltN rfl) rfl rfl rfl rfl ?_; clear HF a; intro a HF
            refine pw HF (p_fld fo36_6 rfl) rfl (ltN rfl) rfl rfl rfl rfl ?_; clear HF a; intro a HF
            refine pw HF (p_lb HS ak3 rfl (by repeat first | exact .here | apply Pick.there) rfl) rfl (ltN rfl) rfl rfl rfl rfl ?_; clear HF a; intro a HF
            refine pw HF (p_ieq rfl rfl) rfl (ltN rfl) rfl rfl rfl rfl ?_; clear HF a; intro a HF
            refine pl HF (p_pickT rfl rfl) rfl (ltN rfl) rfl ?_; clear HF a; intro a HF
            refine pl HF (p_mv rfl) rfl (ltN rfl) rfl ?_; clear HF a; intro a HF
            refine bsplit HF ?_ ?_ <;> clear HF
            · intro hg51 HF
              refine pw HF (p_fld fo36_7 rfl) rfl (ltN rfl) rfl rfl rfl rfl ?_; clear HF a; intro a HF
              refine pw HF (p_lb HS ak4 rfl (by repeat first | exact .here | apply Pick.there) rfl) rfl (ltN rfl) rfl rfl rfl rfl ?_; clear HF a; intro a HF
              refine pw HF (p_fld fo36_7 rfl) rfl (ltN rfl) rfl rfl rfl rfl ?_; clear HF a; intro a HF
              refine pw HF (p_lb HS ak4 rfl (by repeat first | exact .here | apply Pick.there) rfl) rfl (ltN rfl) rfl rfl rfl rfl ?_; clear HF a; intro a HF
              refine pw HF (p_beq Try.underlying4 rfl rfl) rfl (ltN rfl) rfl rfl rfl rfl ?_; clear HF a; intro a HF
              refine pl HF (p_pickT rfl rfl) rfl (ltN rfl) rfl ?_; clear HF a; intro a HF
              refine pl HF (p_mv rfl) rfl (ltN rfl) rfl ?_; clear HF a; intro a HF
              refine bsplit HF ?_ ?_ <;> clear HF
              · intro hg58 HF
                refine pw HF (p_fld fo36_8 rfl) rfl (ltN rfl) rfl rfl rfl rfl ?_; clear HF a; intro a HF
                refine pw HF (p_lb HS ak3 rfl (by repeat first | exact .here | apply Pick.there) rfl) rfl (ltN rfl) rfl rfl rfl rfl ?_; clear HF a; intro a HF
                refine pw HF (p_fld fo36_8 rfl) rfl (ltN rfl) rfl rfl rfl rfl ?_; clear HF a; intro a HF
                refine pw HF (p_lb HS ak3 rfl (by repeat first | exact .here | apply Pick.there) rfl) rfl (ltN rfl) rfl rfl rfl rfl ?_; clear HF a; intro a HF
                refine pw HF (p_ieq rfl rfl) rfl (ltN rfl) rfl rfl rfl rfl ?_; clear HF a; intro a HF
                refine pl HF (p_pickT rfl rfl) rfl (ltN rfl) rfl ?_; clear HF a; intro a HF
                refine pl HF (p_mv rfl) rfl (ltN rfl) rfl ?_; clear HF a; intro a HF
                refine bsplit HF ?_ ?_ <;> clear HF
                · intro hg65 HF
                  refine pw HF (p_fld fo32_0 rfl) rfl (ltN rfl) rfl rfl rfl rfl ?_; clear HF a; intro a HF
                  refine pw HF (p_lb HS ak3 rfl (by repeat first | exact .here | apply Pick.there) rfl) rfl (ltN rfl) rfl rfl rfl rfl ?_; clear HF a; intro a HF
                  refine pw HF (p_fld fo32_0 rfl) rfl (ltN rfl) rfl rfl rfl rfl ?_; clear HF a; intro a HF
                  refine pw HF (p_lb HS ak3 rfl (by repeat first | exact .here | apply Pick.there) rfl) rfl (ltN rfl) rfl rfl rfl rfl ?_; clear HF a; intro a HF
                  refine pw HF (p_ieq rfl rfl) rfl (ltN rfl) rfl rfl rfl rfl ?_; clear HF a; intro a HF
                  refine pl HF (p_pickT rfl rfl) rfl (ltN rfl) rfl ?_; clear HF a; intro a HF
                  refine pl HF (p_mv rfl) rfl (ltN rfl) rfl ?_; clear HF a; intro a HF
                  refine bsplit HF ?_ ?_ <;> clear HF
                  · intro hg72 HF
                    refine pw HF (p_fld fo32_1 rfl) rfl (ltN rfl) rfl rfl rfl rfl ?_; clear HF a; intro a HF
                    refine pw HF (p_lbA (vs := [_, _, _]) HS ak27 sz27 rfl (by repeat first | exact .here | apply Pick.there) rfl rfl) rfl (ltN rfl) rfl rfl rfl rfl ?_; clear HF a; intro a HF
                    refine pw HF (p_fld fo32_1 rfl) rfl (ltN rfl) rfl rfl rfl rfl ?_; clear HF a; intro a HF
                    refine pw HF (p_lbA (vs := [_, _, _]) HS ak27 sz27 rfl (by repeat first | exact .here | apply Pick.there) rfl rfl) rfl (ltN rfl) rfl rfl rfl rfl ?_; clear HF a; intro a HF
                    refine pw HF (p_eqA rfl rfl eg27 (eq_agg (b := true) ck27 ak27 (by simp [ceqs, ceq]))) rfl (ltN rfl) rfl rfl rfl rfl ?_; clear HF a; intro a HF
                    refine pl HF (p_pickT rfl rfl) rfl (ltN rfl) rfl ?_; clear HF a; intro a HF
                    refine pl HF (p_mv rfl) rfl (ltN rfl) rfl ?_; clear HF a; intro a HF
                    refine bsplit HF ?_ ?_ <;> clear HF
                    · intro hg79 HF
                      refine pw HF (p_fld fo32_2 rfl) rfl (ltN rfl) rfl rfl rfl rfl ?_; clear HF a; intro a HF
                      refine pw HF (p_lbA (vs := [_, _, _, _, _]) HS ak29 sz29 rfl (by repeat first | exact .here | apply Pick.there) rfl rfl) rfl (ltN rfl) rfl rfl rfl rfl ?_; clear HF a; intro a HF
                      refine pw HF (p_fld fo32_2 rfl) rfl (ltN rfl) rfl rfl rfl rfl ?_; clear HF a; intro a HF
                      refine pw HF (p_lbA (vs := [_, _, _, _, _]) HS ak29 sz29 rfl (by repeat first | exact .here | apply Pick.there) rfl rfl) rfl (ltN rfl) rfl rfl rfl rfl ?_; clear HF a; intro a HF
                      refine pw HF (p_eqA rfl rfl eg29 (eq_agg (b := true) ck29 ak29 (by simp [ceqs, ceq]))) rfl (ltN rfl) rfl rfl rfl rfl ?_; clear HF a; intro a HF
                      refine pl HF (p_pickT rfl rfl) rfl (ltN rfl) rfl ?_; clear HF a; intro a HF
                      refine pl HF (p_mv rfl) rfl (ltN rfl) rfl ?_; clear HF a; intro a HF
                      refine bsplit HF ?_ ?_ <;> clear HF
                      · intro hg86 HF
                        refine pw HF (p_fld fo32_3 rfl) rfl (ltN rfl) rfl rfl rfl rfl ?_; clear HF a; intro a HF
                        refine pw HF (p_lb HS ak9 rfl (by repeat first | exact .here | apply Pick.there) rfl) rfl (ltN rfl) rfl rfl rfl rfl ?_; clear HF a; intro a HF
                        refine pw HF (p_fld fo32_3 rfl) rfl (ltN rfl) rfl rfl rfl rfl ?_; clear HF a; intro a HF
                        refine pw HF (p_lb HS ak9 rfl (by repeat first | exact .here | apply Pick.there) rfl) rfl (ltN rfl) rfl rfl rfl rfl ?_; clear HF a; intro a HF
                        refine pw HF (p_seq rfl rfl) rfl (ltN rfl) rfl rfl rfl rfl ?_; clear HF a; intro a HF
                        refine pl HF (p_pickT rfl rfl) rfl (ltN rfl) rfl ?_; clear HF a; intro a HF
                        refine pl HF (p_mv rfl) rfl (ltN rfl) rfl ?_; clear HF a; intro a HF
                        refine bsplit HF ?_ ?_ <;> clear HF
                        · intro hg93 HF
                          refine pw HF (p_fld fo32_5 rfl) rfl (ltN rfl) rfl rfl rfl rfl ?_; clear HF a; intro a HF
                          refine pw HF (p_lb HS ak4 rfl (by repeat first | exact .here | apply Pick.there) rfl) rfl (ltN rfl) rfl rfl rfl rfl ?_; clear HF a; intro a HF
                          refine pw HF (p_fld fo32_5 rfl) rfl (ltN rfl) rfl rfl rfl rfl ?_; clear HF a; intro a HF
                          refine pw HF (p_lb HS ak4 rfl (by repeat first | exact .here | apply Pick.there) rfl) rfl (ltN rfl) rfl rfl rfl rfl ?_; clear HF a; intro a HF
                          refine pw HF (p_beq Try.underlying4 rfl rfl) rfl (ltN rfl) rfl rfl rfl rfl ?_; clear HF a; intro a HF
                          refine pl HF (p_pickT rfl rfl) rfl (ltN rfl) rfl ?_; clear HF a; intro a HF
                          refine pl HF (p_mv rfl) rfl (ltN rfl) rfl ?_; clear HF a; intro a HF
                          refine bsplit HF ?_ ?_ <;> clear HF
                          · intro hg100 HF
                            refine pw HF (p_fld fo32_6 rfl) rfl (ltN rfl) rfl rfl rfl rfl ?_; clear HF a; intro a HF
                            refine pw HF (p_lb HS ak9 rfl (by repeat first | exact .here | apply Pick.there) rfl) rfl (ltN rfl) rfl rfl rfl rfl ?_; clear HF a; intro a HF
                            refine pw HF (p_fld fo32_6 rfl) rfl (ltN rfl) rfl rfl rfl rfl ?_; clear HF a; intro a HF
                            refine pw HF (p_lb HS ak9 rfl (by repeat first | exact .here | apply Pick.there) rfl) rfl (ltN rfl) rfl rfl rfl rfl ?_; clear HF a; intro a HF
                            refine pw HF (p_seq rfl rfl) rfl (ltN rfl) rfl rfl rfl rfl ?_; clear HF a; intro a HF
                            refine pl HF (p_pickT rfl rfl) rfl (ltN rfl) rfl ?_; clear HF a; intro a HF
                            refine pl HF (p_mv rfl) rfl (ltN rfl) rfl ?_; clear HF a; intro a HF
                            refine bsplit HF ?_ ?_ <;> clear HF
                            · intro hg107 HF
                              refine pw HF (p_lbA (vs := [_, _, _, _, _, _, _, _, _, _, _, _, _, _, _, _, _, _, _, _, _, _]) HS ak36 sz36 rfl (by repeat first | exact .here | apply Pick.there) rfl rfl) rfl (ltN rfl) rfl rfl rfl rfl ?_; clear HF a; intro a HF
                              refine pw HF (p_lbA (vs := [_, _, _, _, _, _, _, _, _, _, _, _, _, _, _, _, _, _, _, _, _, _]) HS ak36 sz36 rfl (by repeat first | exact .here | apply Pick.there) rfl rfl) rfl (ltN rfl) rfl rfl rfl rfl ?_; clear HF a; intro a HF
                              refine g_callw HF rfl rfl rfl rfl rfl ent12 (ltN rfl) (l_sameHeads _ _ _ hlen hu hv _ HS) ?_; clear HF a; rintro _ w ⟨rfl, HS⟩ a HF
                              refine pl HF (p_pickT rfl rfl) rfl (ltN rfl) rfl ?_; clear HF a; intro a HF
                              refine pl HF (p_as rfl) rfl (ltN rfl) rfl ?_; clear HF a; intro a HF
                              refine pe ?_
                              refine tn ?_
                              refine wp_ret ?_
                              refine ret1 HF rfl (rv_t rfl) ?_
                              exact ⟨rfl, HS.wk (by repeat first | exact .refl | apply Wk.cons | apply Wk.skip)⟩
                            · intro hg107 HF
                              exfalso; simp at hg107
                          · intro hg100 HF
                            exfalso; simp at hg100
                        · intro hg93 HF
                          exfalso; simp at hg93
                      · intro hg86 HF
                        exfalso; simp at hg86
                    · intro hg79 HF
                      exfalso; simp at hg79
                  · intro hg72 HF
                    exfalso; simp at hg72
                · intro hg65 HF
                  exfalso; simp at hg65
              · intro hg58 HF
                exfalso; simp at hg58
            · intro hg51 HF
              exfalso; simp at hg51
          · intro hg44 HF
            exfalso; simp at hg44
        · intro hg37 HF
          exfalso; simp at hg37
      · intro hg30 HF
        exfalso; simp at hg30
    · intro hg23 HF
      exfalso; simp at hg23
  · intro hg16 HF
    exfalso; simp at hg16

end Gp
