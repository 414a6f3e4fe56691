import Derived.Test.YtkjajililnbimaaWalkB

set_option linter.unusedSimpArgs false
set_option linter.unusedVariables false
namespace Go.Proofs.Ytkjajililnbimaa
open Go Go.Proofs Go.WX
theorem fnOk16 : FnOk Try.prog 16 := ⟨_, Try.func16, by kernel_rfl, rfl⟩
theorem fnOk17 : FnOk Try.prog 17 := ⟨_, Try.func17, by kernel_rfl, rfl⟩
theorem closed_calls (M : List Nat) (w : World) (hL : LtM M w) (v : Value) (l : List (List Val)) (u : Value) (from_ : List Val) (hv : rSliceRd (rSlice rVal) w M v l) (hu : rSliceRd rVal w M u from_) : Calls Try.prog 4 #[v, u] w
    (fun e w' => e = .returned (.bool true) ∧ Grow w w') := by
  refine calls_start (args := [v, u]) Try.func4 rfl Try.ntmps4 (Nat.le_of_ble_eq_true rfl) ?_
  have hG : Grow w w := Keep.refl _ _
  have hl := hv.len_le
  have hlu := hu.len_le
  refine wc_seq ?_
  refine wc_region ?_
  refine wl_ok (r_assign (v := (.bool false)) rfl) ?_
  refine wl_nil ?_
  refine then_normal ?_
  refine wc_seq ?_
  refine wc_region ?_
  refine wl_ok (r_move (v := v) rfl) ?_
  refine wl_ok (r_move (v := u) rfl) ?_
  refine wl_call (args := [v, u]) fnOk15 rfl rfl (reach_calls M _ hL v l u from_ hv hu) ?_
  rintro _ w234 ⟨v236, rfl, ov236, fv236, k235⟩
  refine ⟨_, rfl, ?_⟩
  have z237 : ∀ x ∈ ob v236, w.heap.size ≤ x := fun x hx => Nat.le_trans hG.size (fv236 x hx)
  replace hv := hv.go (k235.weaken (fun _ h => absurd h List.not_mem_nil)) (fun _ h _ => h)
  replace hu := hu.go (k235.weaken (fun _ h => absurd h List.not_mem_nil)) (fun _ h _ => h)
  replace hG := hG.grow k235
  replace hL := hL.grow k235
  refine wl_ok (r_move (v := (.tuple #[v236, (.int .i64 ((reach l from_).2))])) rfl) ?_
  refine wl_ok (r_extract (vs := [v236, (.int .i64 ((reach l from_).2))]) (v := v236) rfl rfl) ?_
  refine wl_ok (r_extract (vs := [v236, (.int .i64 ((reach l from_).2))]) (v := (.int .i64 ((reach l from_).2))) rfl rfl) ?_
  refine wl_ok (r_assign (v := v236) rfl) ?_
  refine wl_ok (r_assign (v := (.int .i64 ((reach l from_).2))) rfl) ?_
  refine wl_nil ?_
  refine then_normal ?_
  refine wc_seq ?_
  refine wc_seq ?_
  refine wc_region ?_
  refine wl_call (args := []) fnOk16 rfl rfl (met_calls [] _ (fun x hx => absurd hx List.not_mem_nil) ) ?_
  rintro _ w238 ⟨rfl, k239⟩
  refine ⟨_, rfl, ?_⟩
  replace hv := hv.go (k239.weaken (fun _ h => absurd h List.not_mem_nil)) (fun _ h _ => h)
  replace hu := hu.go (k239.weaken (fun _ h => absurd h List.not_mem_nil)) (fun _ h _ => h)
  replace ov236 := ov236.go (k239.weaken (fun _ h => absurd h List.not_mem_nil)) (fun _ h _ => h)
  replace hG := hG.grow k239
  replace hL := hL.grow k239
  refine wl_ok (r_not (b := true) rfl) ?_
  refine wl_ok (r_move (v := (.bool false)) rfl) ?_
  refine wl_on rfl rfl ?_
  refine wl_ok (r_move (v := (.int .i64 ((reach l from_).2))) rfl) ?_
  refine wl_on rfl rfl ?_
  refine wl_ok (r_neq (p := (reach l from_).2) (q := 0) rfl rfl) ?_
  refine wl_ok (r_pick (b := false) (v := (.bool (decide (((reach l from_).2 : Int) ≠ 0)))) rfl rfl) ?_
  refine wl_nil ?_
  refine then_normal ?_
  refine wc_ifd (p := ((reach l from_).2 : Int) ≠ 0) rfl (fun h240 => ?_) (fun h240 => ?_)
  · skip
    have qh240 : Value.bool (decide (((reach l from_).2 : Int) ≠ 0)) = Value.bool true := by rw [decide_eq_true h240]
    refine wc_seq ?_
    refine wc_region ?_
    refine wl_call (args := []) fnOk16 rfl rfl (met_calls [] _ (fun x hx => absurd hx List.not_mem_nil) ) ?_
    rintro _ w241 ⟨rfl, k242⟩
    refine ⟨_, rfl, ?_⟩
    replace hv := hv.go (k242.weaken (fun _ h => absurd h List.not_mem_nil)) (fun _ h _ => h)
    replace hu := hu.go (k242.weaken (fun _ h => absurd h List.not_mem_nil)) (fun _ h _ => h)
    replace ov236 := ov236.go (k242.weaken (fun _ h => absurd h List.not_mem_nil)) (fun _ h _ => h)
    replace hG := hG.grow k242
    replace hL := hL.grow k242
    refine wl_ok (r_assign (v := (.bool true)) rfl) ?_
    refine wl_nil ?_
    refine then_normal ?_
    refine wc_ret ?_
    refine then_ret ?_
    refine fin1 (v := (.bool true)) Try.results4 rfl ?_
    exact ⟨congrArg Ending.returned rfl, hG⟩
  · skip
    have qh240 : Value.bool (decide (((reach l from_).2 : Int) ≠ 0)) = Value.bool false := by rw [decide_eq_false h240]
    replace h240 := Decidable.not_not.1 h240
    refine wc_skip ?_
    refine then_normal ?_
    refine wc_seq ?_
    refine wc_region ?_
    refine wl_makeMap ?_
    intro w243 b244 eb244 kb244 Bb244
    have lb244 : w.heap.size ≤ b244 := by have := hG.size; omega
    replace hv := hv.go (kb244.weaken (fun _ h => absurd h List.not_mem_nil)) (mem_new eb244)
    replace hu := hu.go (kb244.weaken (fun _ h => absurd h List.not_mem_nil)) (mem_new eb244)
    replace ov236 := ov236.go (kb244.weaken (fun _ h => absurd h List.not_mem_nil)) (mem_new eb244)
    replace hG := hG.grow kb244
    replace hL := hL.grow kb244
    replace hL := hL.cons Bb244.lt
    refine wl_ok (r_assign (v := (.map (some b244))) rfl) ?_
    refine wl_nil ?_
    refine then_normal ?_
    refine wc_seq ?_
    refine wc_seq ?_
    refine wc_region ?_
    refine wl_ok (r_move (v := v236) rfl) ?_
    refine wl_ok (r_len_rd (v := v236) SliceOf24 rfl ov236.rd) ?_
    refine wl_ok (r_move (v := (.int .i64 (0))) rfl) ?_
    refine wl_nil ?_
    refine then_normal ?_
    refine wc_block ?_
    have hC := reach_closed h240
    obtain ⟨hc1, hc2, hc3, hc4⟩ := reach_ok h240
    have hl24 := checkAll_len hc1
    have hO := hC.good.le
    have s245 := ov236.rd
    refine wc_loop (inl [4, 9, 32, 33, 34, 35, 36, 37, 38, 39, 40, 41, 42, 43, 44, 45, 46, 47, 48, 49, 50, 51]) (σ := Nat) (fun k => [(32, (.int .i64 ((k : Nat))))]) (fun k wr => Grow w wr ∧ LtM (b244 :: M) wr ∧ rSliceRd (rSlice rVal) wr (b244 :: M) v l ∧ rSliceRd rVal wr (b244 :: M) u from_ ∧ rSliceRd rInt wr (b244 :: M) v236 (reach l from_).1 ∧ MapIs wr b244 (setE (((reach l from_).1).take k)) ∧ k ≤ ((reach l from_).1).length) (fun k => ((reach l from_).1).length - k) (0) ⟨rfl, trivial⟩ ?_ ?_
    · exact ⟨hG, hL, hv, hu, s245, Bb244, Nat.zero_le _⟩
    · rintro k w246 j247 ⟨G248, L249, s250, s251, s252, B253, lk⟩
      refine wc_seq ?_
      refine wc_region ?_
      refine wl_ok (r_lss (p := (k : Nat)) (q := ((reach l from_).1.length : Nat)) rfl rfl) ?_
      refine wl_nil ?_
      refine then_normal ?_
      refine wc_seq ?_
      refine wc_ifd (p := ((k : Nat) : Int) < ((reach l from_).1.length : Nat)) rfl (fun h254 => ?_) (fun h254 => ?_)
      · skip
        have qh254 : Value.bool (decide (((k : Nat) : Int) < ((reach l from_).1.length : Nat))) = Value.bool true := by rw [decide_eq_true h254]
        refine wc_skip ?_
        refine then_normal ?_
        refine wc_seq ?_
        refine wc_block ?_
        refine wc_seq ?_
        refine wc_region ?_
        refine wl_indexN (k := k) (v := v236) SliceOf24 rfl rfl s252 rfl (by omega) ?_
        intro p255 cs256 xp255 gp255 hp255 rp255
        obtain ⟨rfl, ip255⟩ := rp255
        have hbxp255 := hC.good.get gp255
        refine wl_ok (r_loadP1 (p := p255) (v := (.int .i64 (xp255))) One3 rfl hp255) ?_
        refine wl_ok (r_assign (v := (.int .i64 (xp255))) rfl) ?_
        refine wl_nil ?_
        refine then_normal ?_
        refine wc_seq ?_
        refine wc_seq ?_
        refine wc_region ?_
        refine wl_ok (r_move (v := (.map (some b244))) rfl) ?_
        refine wl_ok (r_move (v := (.int .i64 (xp255))) rfl) ?_
        refine wl_lookupS (b := b244) (k := xp255) (l := (((reach l from_).1).take k)) MapOf31 rfl rfl B253 ?_
        refine wl_ok (r_move (v := (.bool (decide ((xp255 : Int) ∈ (((reach l from_).1).take k))))) rfl) ?_
        have a257 : ¬ ((xp255 : Int) ∈ (((reach l from_).1).take k)) := (not_mem_take hC.good.1 gp255)
        have qa257 : Value.bool (decide ((xp255 : Int) ∈ (((reach l from_).1).take k))) = Value.bool false := by rw [decide_eq_false a257]
        refine wl_on rfl qa257 ?_
        refine wl_ok (r_move (v := (.int .i64 (xp255))) rfl) ?_
        refine wl_on rfl qa257 ?_
        refine wl_ok (r_lss (p := xp255) (q := 0) rfl rfl) ?_
        refine wl_ok (r_pick (b := false) (v := (.bool (decide ((xp255 : Int) < 0)))) qa257 rfl) ?_
        refine wl_ok (r_move (v := (.bool (decide ((xp255 : Int) < 0)))) rfl) ?_
        have a258 : ¬ ((xp255 : Int) < 0) := (Int.not_lt.2 (hC.good.get gp255).1)
        have qa258 : Value.bool (decide ((xp255 : Int) < 0)) = Value.bool false := by rw [decide_eq_false a258]
        refine wl_on rfl qa258 ?_
        refine wl_ok (r_move (v := (.int .i64 (xp255))) rfl) ?_
        refine wl_on rfl qa258 ?_
        refine wl_ok (r_move (v := v) rfl) ?_
        refine wl_on rfl qa258 ?_
        refine wl_ok (r_len_rd (v := v) SliceOf27 rfl s250) ?_
        refine wl_on rfl qa258 ?_
        refine wl_ok (r_geq (p := xp255) (q := (l.length : Nat)) rfl rfl) ?_
        refine wl_ok (r_pick (b := false) (v := (.bool (decide (((l.length : Nat) : Int) ≤ xp255)))) qa258 rfl) ?_
        refine wl_nil ?_
        refine then_normal ?_
        have a259 : ¬ (((l.length : Nat) : Int) ≤ xp255) := (Int.not_le.2 (hC.good.get gp255).2)
        have qa259 : Value.bool (decide (((l.length : Nat) : Int) ≤ xp255)) = Value.bool false := by rw [decide_eq_false a259]
        refine wc_iff qa259 ?_
        refine wc_skip ?_
        refine then_normal ?_
        refine wc_region ?_
        refine wl_ok (r_move (v := (.map (some b244))) rfl) ?_
        refine wl_ok (r_move (v := (.int .i64 (xp255))) rfl) ?_
        refine wl_mapUpdateS (b := b244) (k := xp255) (l := (((reach l from_).1).take k)) MapOf31 rfl rfl rfl B253 ?_
        intro w260 k261 B262
        rw [ins_new (of_decide_eq_false (Value.bool.inj qa257))] at B262
        replace s250 := s250.go (Keep.one k261 (by simp)) (fun _ h _ => h)
        replace s251 := s251.go (Keep.one k261 (by simp)) (fun _ h _ => h)
        replace s252 := s252.go (Keep.one k261 (by simp)) (fun _ h _ => h)
        replace G248 := G248.stepF k261 (by simp; omega)
        replace L249 := L249.grow k261
        refine wl_nil ?_
        refine inBlock_normal ?_
        refine then_normal ?_
        refine wc_region ?_
        refine wl_ok (r_add (p := (k : Nat)) (q := 1) rfl rfl (by omega)) ?_
        refine wl_ok (r_move (v := (.int .i64 (((k : Nat) + 1)))) rfl) ?_
        refine wl_nil ?_
        refine then_loop ?_
        exact ⟨k + 1, _, rfl, (by repeat (first | (with_reducible exact Agr.hav _ _ _) | (with_reducible refine Agr.on ?_) | ((with_reducible refine Agr.hin ?_ ?_); rfl) | (with_reducible refine Agr.un ?_) | ((with_reducible refine Agr.os ?_ ?_); rfl) | ((with_reducible refine Agr.uc ?_ ?_); rfl))), ⟨rfl, trivial⟩, ⟨G248, L249, s250, s251, s252, (by rw [take_snoc gp255]; exact B262), by omega⟩, (by omega)⟩
      · skip
        have qh254 : Value.bool (decide (((k : Nat) : Int) < ((reach l from_).1.length : Nat))) = Value.bool false := by rw [decide_eq_false h254]
        refine wc_exit ?_
        refine then_exit ?_
        refine then_exit ?_
        refine inBlock_eq ?_
        refine then_normal ?_
        refine wc_seq ?_
        refine wc_region ?_
        refine wl_ok (r_move (v := u) rfl) ?_
        refine wl_call (args := [u]) fnOk17 rfl rfl (cloneVals_calls (b244 :: M) _ L249 u from_ s251 (by omega)) ?_
        rintro _ w263 ⟨v265, rfl, ov265, fv265, k264⟩
        refine ⟨_, rfl, ?_⟩
        have z266 : ∀ x ∈ ob v265, w.heap.size ≤ x := fun x hx => Nat.le_trans G248.size (fv265 x hx)
        replace B253 := B253.grow k264
        replace s250 := s250.go (k264.weaken (fun _ h => absurd h List.not_mem_nil)) (mem_newO fv265)
        replace s251 := s251.go (k264.weaken (fun _ h => absurd h List.not_mem_nil)) (mem_newO fv265)
        replace s252 := s252.go (k264.weaken (fun _ h => absurd h List.not_mem_nil)) (mem_newO fv265)
        replace G248 := G248.grow k264
        replace L249 := L249.grow k264
        replace L249 := L249.own ov265
        refine wl_ok (r_assign (v := v265) rfl) ?_
        refine wl_nil ?_
        refine then_normal ?_
        refine wc_seq ?_
        refine wc_seq ?_
        refine wc_region ?_
        refine wl_ok (r_move (v := v236) rfl) ?_
        refine wl_ok (r_len_rd (v := v236) SliceOf24 rfl s252) ?_
        refine wl_ok (r_move (v := (.int .i64 (0))) rfl) ?_
        refine wl_nil ?_
        refine then_normal ?_
        refine wc_block ?_
        refine wc_loop (inl [10, 12, 56, 57, 58, 59, 60, 61, 62, 63, 64, 65, 66]) (σ := Nat × List Val × Value) (fun (j, al, q) => [(56, (.int .i64 ((j : Nat)))), (10, q)]) (fun (j, al, q) wr => Grow w wr ∧ LtM (ob q ++ (b244 :: M)) wr ∧ rSliceRd (rSlice rVal) wr (ob q ++ (b244 :: M)) v l ∧ rSliceRd rVal wr (ob q ++ (b244 :: M)) u from_ ∧ rSliceRd rInt wr (ob q ++ (b244 :: M)) v236 (reach l from_).1 ∧ MapIs wr b244 (setE (((reach l from_).1).take k)) ∧ OwnSl rVal 34 wr (b244 :: M) q al ∧ (∀ x ∈ ob q, w.heap.size ≤ x) ∧ j ≤ ((reach l from_).1).length ∧ al ++ rowsOf l (((reach l from_).1).drop j) = from_ ++ rowsOf l ((reach l from_).1) ∧ al.length ≤ 400 + 4 * j) (fun (j, al, q) => ((reach l from_).1).length - j) ((0, from_, v265)) ⟨rfl, rfl, trivial⟩ ?_ ?_
        · exact ⟨G248, L249, s250, s251, s252, B253, ov265, z266, Nat.zero_le _, rfl, by omega⟩
        · rintro ⟨j, al, q⟩ w267 j268 ⟨G269, L270, s271, s272, s273, B274, o275, z276, lj, tj, nj⟩
          refine wc_seq ?_
          refine wc_region ?_
          refine wl_ok (r_lss (p := (j : Nat)) (q := ((reach l from_).1.length : Nat)) rfl rfl) ?_
          refine wl_nil ?_
          refine then_normal ?_
          refine wc_seq ?_
          refine wc_ifd (p := ((j : Nat) : Int) < ((reach l from_).1.length : Nat)) rfl (fun h277 => ?_) (fun h277 => ?_)
          · skip
            have qh277 : Value.bool (decide (((j : Nat) : Int) < ((reach l from_).1.length : Nat))) = Value.bool true := by rw [decide_eq_true h277]
            refine wc_skip ?_
            refine then_normal ?_
            refine wc_seq ?_
            refine wc_block ?_
            refine wc_seq ?_
            refine wc_region ?_
            refine wl_indexN (k := j) (v := v236) SliceOf24 rfl rfl s273 rfl (by omega) ?_
            intro p278 cs279 xp278 gp278 hp278 rp278
            obtain ⟨rfl, ip278⟩ := rp278
            have hbxp278 := hC.good.get gp278
            refine wl_ok (r_loadP1 (p := p278) (v := (.int .i64 (xp278))) One3 rfl hp278) ?_
            refine wl_ok (r_assign (v := (.int .i64 (xp278))) rfl) ?_
            refine wl_nil ?_
            refine then_normal ?_
            refine wc_region ?_
            refine wl_ok (r_move (v := q) rfl) ?_
            refine wl_ok (r_move (v := v) rfl) ?_
            refine wl_ok (r_move (v := (.int .i64 (xp278))) rfl) ?_
            refine wl_index (k := xp278) (v := v) SliceOf27 rfl rfl s271 rfl (by omega) (by omega) ?_
            intro p280 cs281 xp280 gp280 hp280 rp280
            obtain ⟨vp280, rfl, sp280⟩ := rp280
            have zp280 := sp280.len_le
            have hr := checkAll_row hc1 gp280
            refine wl_ok (r_loadP1 (p := p280) (v := vp280) One28 rfl hp280) ?_
            refine wl_append (R := rVal) (v := q) (u := vp280) (l := al) (m := xp280) (M := (b244 :: M)) ElemOf28 rfl rfl o275 rfl sp280 (fun x hx => L270 x (List.mem_append_right _ hx)) (by first | omega | (simp; omega)) (by first | omega | (simp; omega)) ?_
            intro v282 w283 ov282 k284 uv282
            have z285 : ∀ x ∈ ob v282, w.heap.size ≤ x := fresh_app z276 G269.size uv282
            replace B274 := B274.keep k284 (fun hb => o275.apart _ hb (by simp))
            replace s271 := s271.go (k284.weaken (fun x hx _ => by simp [hx])) (mem_mid [] uv282)
            replace s272 := s272.go (k284.weaken (fun x hx _ => by simp [hx])) (mem_mid [] uv282)
            replace s273 := s273.go (k284.weaken (fun x hx _ => by simp [hx])) (mem_mid [] uv282)
            replace sp280 := sp280.go (k284.weaken (fun x hx _ => by simp [hx])) (mem_mid [] uv282)
            replace G269 := G269.stepF k284 z276
            replace L270 := L270.grow k284
            replace L270 := L270.swap [] ov282.lt
            refine wl_ok (r_assign (v := v282) rfl) ?_
            refine wl_nil ?_
            refine inBlock_normal ?_
            refine then_normal ?_
            refine wc_region ?_
            refine wl_ok (r_add (p := (j : Nat)) (q := 1) rfl rfl (by omega)) ?_
            refine wl_ok (r_move (v := (.int .i64 (((j : Nat) + 1)))) rfl) ?_
            refine wl_nil ?_
            refine then_loop ?_
            exact ⟨(j + 1, (al ++ xp280), v282), _, rfl, (by repeat (first | (with_reducible exact Agr.hav _ _ _) | (with_reducible refine Agr.on ?_) | ((with_reducible refine Agr.hin ?_ ?_); rfl) | (with_reducible refine Agr.un ?_) | ((with_reducible refine Agr.os ?_ ?_); rfl) | ((with_reducible refine Agr.uc ?_ ?_); rfl))), ⟨rfl, rfl, trivial⟩, ⟨G269, L270, s271, s272, s273, B274, ov282, z285, by omega, (by rw [← tj, drop_some gp278]; simp only [rowsOf, rowOf_at gp280, List.append_assoc]), by simp only [List.length_append]; omega⟩, (by dsimp only; omega)⟩
          · skip
            have qh277 : Value.bool (decide (((j : Nat) : Int) < ((reach l from_).1.length : Nat))) = Value.bool false := by rw [decide_eq_false h277]
            refine wc_exit ?_
            refine then_exit ?_
            refine then_exit ?_
            refine inBlock_eq ?_
            refine then_normal ?_
            refine wc_seq ?_
            refine wc_region ?_
            refine wl_makeMap ?_
            intro w286 b287 eb287 kb287 Bb287
            have lb287 : w.heap.size ≤ b287 := by have := G269.size; omega
            have nb287xb244 : b244 < b287 := by have := B274.lt; omega
            replace B274 := B274.grow kb287
            replace s271 := s271.go (kb287.weaken (fun _ h => absurd h List.not_mem_nil)) (mem_new eb287)
            replace s272 := s272.go (kb287.weaken (fun _ h => absurd h List.not_mem_nil)) (mem_new eb287)
            replace s273 := s273.go (kb287.weaken (fun _ h => absurd h List.not_mem_nil)) (mem_new eb287)
            replace o275 := o275.go (kb287.weaken (fun _ h => absurd h List.not_mem_nil)) (mem_new eb287)
            replace G269 := G269.grow kb287
            replace L270 := L270.grow kb287
            replace L270 := L270.cons Bb287.lt
            refine wl_ok (r_assign (v := (.map (some b287))) rfl) ?_
            refine wl_nil ?_
            refine then_normal ?_
            refine wc_seq ?_
            refine wc_seq ?_
            refine wc_region ?_
            refine wl_ok (r_move (v := q) rfl) ?_
            refine wl_ok (r_len_rd (v := q) SliceOf28 rfl o275.rd) ?_
            refine wl_ok (r_move (v := (.int .i64 (0))) rfl) ?_
            refine wl_nil ?_
            refine then_normal ?_
            refine wc_block ?_
            have hal : al = from_ ++ rowsOf l ((reach l from_).1) := by rw [← tj, drop_done h277]; simp only [rowsOf, List.append_nil]
            refine wc_loop (inl [4, 15, 70, 71, 72, 73, 74, 75, 76, 77, 78, 79, 80, 81, 82, 83, 84, 85]) (σ := Nat) (fun i => [(70, (.int .i64 ((i : Nat))))]) (fun i wr => Grow w wr ∧ LtM (b287 :: (ob q ++ (b244 :: M))) wr ∧ rSliceRd (rSlice rVal) wr (b287 :: (ob q ++ (b244 :: M))) v l ∧ rSliceRd rVal wr (b287 :: (ob q ++ (b244 :: M))) u from_ ∧ rSliceRd rInt wr (b287 :: (ob q ++ (b244 :: M))) v236 (reach l from_).1 ∧ MapIs wr b244 (setE (((reach l from_).1).take k)) ∧ MapIs wr b287 (setE (meetAll [] (al.take i))) ∧ OwnSl rVal 34 wr (b287 :: (b244 :: M)) q al ∧ (∀ x ∈ ob q, w.heap.size ≤ x) ∧ i ≤ al.length) (fun i => al.length - i) (0) ⟨rfl, trivial⟩ ?_ ?_
            · exact ⟨G269, L270, s271, s272, s273, B274, Bb287, o275, z276, Nat.zero_le _⟩
            · rintro i w288 j289 ⟨G290, L291, s292, s293, s294, B295, B296, o297, z298, li⟩
              refine wc_seq ?_
              refine wc_region ?_
              refine wl_ok (r_lss (p := (i : Nat)) (q := (al.length : Nat)) rfl rfl) ?_
              refine wl_nil ?_
              refine then_normal ?_
              refine wc_seq ?_
              refine wc_ifd (p := ((i : Nat) : Int) < (al.length : Nat)) rfl (fun h299 => ?_) (fun h299 => ?_)
              · skip
                have qh299 : Value.bool (decide (((i : Nat) : Int) < (al.length : Nat))) = Value.bool true := by rw [decide_eq_true h299]
                refine wc_skip ?_
                refine then_normal ?_
                refine wc_seq ?_
                refine wc_block ?_
                refine wc_seq ?_
                refine wc_region ?_
                refine wl_indexN (k := i) (v := q) SliceOf28 rfl rfl o297.rd rfl (by omega) ?_
                intro p300 cs301 xp300 gp300 hp300 rp300
                obtain ⟨rfl, ip300xkind, ip300xn⟩ := rVal_open rp300
                refine wl_ok (r_loadPN (p := p300) (cs := [(.int .i64 (xp300.kind)), (.int .i64 (xp300.n))]) Many34 rfl hp300 rfl) ?_
                refine wl_allocN Many34 ?_
                intro w302 b303 eb303 kb303 Bb303
                have lb303 : w.heap.size ≤ b303 := by have := G290.size; omega
                have nb303xb244 : b244 < b303 := by have := B295.lt; omega
                have nb303xb287 : b287 < b303 := by have := B296.lt; omega
                replace B295 := B295.grow kb303
                replace B296 := B296.grow kb303
                replace s292 := s292.go (kb303.weaken (fun _ h => absurd h List.not_mem_nil)) (mem_new eb303)
                replace s293 := s293.go (kb303.weaken (fun _ h => absurd h List.not_mem_nil)) (mem_new eb303)
                replace s294 := s294.go (kb303.weaken (fun _ h => absurd h List.not_mem_nil)) (mem_new eb303)
                replace o297 := o297.go (kb303.weaken (fun _ h => absurd h List.not_mem_nil)) (mem_new eb303)
                replace G290 := G290.grow kb303
                replace L291 := L291.grow kb303
                replace L291 := L291.cons Bb303.lt
                refine wl_storeN (b := b303) (o := 0) (vs := [(.int .i64 (xp300.kind)), (.int .i64 (xp300.n))]) Many34 rfl Bb303 rfl rfl (by simp) (by simp [Value.oneCell']) ?_
                intro w304 k305 B306
                replace B306 : Blk w304 b303 [(.int .i64 (xp300.kind)), (.int .i64 (xp300.n))] := B306
                replace B295 := B295.keep k305 (by simp; omega)
                replace B296 := B296.keep k305 (by simp; omega)
                replace s292 := s292.go (Keep.one k305 (by simp)) (fun _ h _ => h)
                replace s293 := s293.go (Keep.one k305 (by simp)) (fun _ h _ => h)
                replace s294 := s294.go (Keep.one k305 (by simp)) (fun _ h _ => h)
                replace o297 := o297.go (Keep.one k305 (by simp)) (fun _ h _ => h)
                replace G290 := G290.stepF k305 (by simp; omega)
                replace L291 := L291.grow k305
                refine wl_nil ?_
                refine then_normal ?_
                refine wc_seq ?_
                refine wc_region ?_
                refine wl_ok (r_fieldAddr (b := b303) (o := 0) Fld34x0 rfl) ?_
                refine wl_ok (r_loadB1 (b := b303) (o := 0) (v := (.int .i64 (xp300.kind))) One3 rfl B306 rfl) ?_
                refine wl_ok (r_eql (p := xp300.kind) (q := 2) rfl rfl) ?_
                refine wl_nil ?_
                refine then_normal ?_
                refine wc_ifd (p := (xp300.kind : Int) = 2) rfl (fun h307 => ?_) (fun h307 => ?_)
                · skip
                  have qh307 : Value.bool (decide ((xp300.kind : Int) = 2)) = Value.bool true := by rw [decide_eq_true h307]
                  refine wc_seq ?_
                  refine wc_region ?_
                  refine wl_ok (r_move (v := (.map (some b287))) rfl) ?_
                  refine wl_ok (r_fieldAddr (b := b303) (o := 0) Fld34x1 rfl) ?_
                  refine wl_ok (r_loadB1 (b := b303) (o := 1) (v := (.int .i64 (xp300.n))) One3 rfl B306 rfl) ?_
                  refine wl_mapUpdateS (b := b287) (k := xp300.n) (l := (meetAll [] (al.take i))) MapOf31 rfl rfl rfl B296 ?_
                  intro w308 k309 B310
                  replace B306 := B306.keep k309 (by simp; omega)
                  replace B295 := B295.keep k309 (by simp; omega)
                  replace s292 := s292.go (Keep.one k309 (by simp)) (fun _ h _ => h)
                  replace s293 := s293.go (Keep.one k309 (by simp)) (fun _ h _ => h)
                  replace s294 := s294.go (Keep.one k309 (by simp)) (fun _ h _ => h)
                  replace o297 := o297.go (Keep.one k309 (by simp)) (fun _ h _ => h)
                  replace G290 := G290.stepF k309 (by simp; omega)
                  replace L291 := L291.grow k309
                  refine wl_nil ?_
                  refine then_normal ?_
                  refine wc_seq ?_
                  refine wc_region ?_
                  refine wl_ok (r_move (v := (.map (some b244))) rfl) ?_
                  refine wl_ok (r_fieldAddr (b := b303) (o := 0) Fld34x1 rfl) ?_
                  refine wl_ok (r_loadB1 (b := b303) (o := 1) (v := (.int .i64 (xp300.n))) One3 rfl B306 rfl) ?_
                  refine wl_lookupS (b := b244) (k := xp300.n) (l := (((reach l from_).1).take k)) MapOf31 rfl rfl B295 ?_
                  have a311 : (xp300.n : Int) ∈ (((reach l from_).1).take k) := (by rw [List.take_of_length_le (by omega)]; exact closed_all hC _ (hal ▸ List.mem_of_getElem? gp300) h307)
                  have qa311 : Value.bool (decide ((xp300.n : Int) ∈ (((reach l from_).1).take k))) = Value.bool true := by rw [decide_eq_true a311]
                  refine wl_ok (r_not (b := true) qa311) ?_
                  refine wl_nil ?_
                  refine then_normal ?_
                  refine wc_iff rfl ?_
                  refine wc_skip ?_
                  refine inBlock_normal ?_
                  refine then_normal ?_
                  refine wc_region ?_
                  refine wl_ok (r_add (p := (i : Nat)) (q := 1) rfl rfl (by omega)) ?_
                  refine wl_ok (r_move (v := (.int .i64 (((i : Nat) + 1)))) rfl) ?_
                  refine wl_nil ?_
                  refine then_loop ?_
                  exact ⟨i + 1, _, rfl, (by repeat (first | (with_reducible exact Agr.hav _ _ _) | (with_reducible refine Agr.on ?_) | ((with_reducible refine Agr.hin ?_ ?_); rfl) | (with_reducible refine Agr.un ?_) | ((with_reducible refine Agr.os ?_ ?_); rfl) | ((with_reducible refine Agr.uc ?_ ?_); rfl))), ⟨rfl, trivial⟩, ⟨G290, (fun x hx => L291 x (List.mem_cons_of_mem _ hx)), (s292.go (Keep.refl _ _) (fun x hx _ => (List.mem_cons_of_mem _ hx))), (s293.go (Keep.refl _ _) (fun x hx _ => (List.mem_cons_of_mem _ hx))), (s294.go (Keep.refl _ _) (fun x hx _ => (List.mem_cons_of_mem _ hx))), B295, (by rw [take_snoc gp300, meetAll_snoc, meet_ins h307]; exact B310), (o297.go (Keep.refl _ _) (fun x hx _ => (List.mem_cons_of_mem _ hx))), z298, by omega⟩, (by omega)⟩
                · skip
                  have qh307 : Value.bool (decide ((xp300.kind : Int) = 2)) = Value.bool false := by rw [decide_eq_false h307]
                  refine wc_skip ?_
                  refine inBlock_normal ?_
                  refine then_normal ?_
                  refine wc_region ?_
                  refine wl_ok (r_add (p := (i : Nat)) (q := 1) rfl rfl (by omega)) ?_
                  refine wl_ok (r_move (v := (.int .i64 (((i : Nat) + 1)))) rfl) ?_
                  refine wl_nil ?_
                  refine then_loop ?_
                  exact ⟨i + 1, _, rfl, (by repeat (first | (with_reducible exact Agr.hav _ _ _) | (with_reducible refine Agr.on ?_) | ((with_reducible refine Agr.hin ?_ ?_); rfl) | (with_reducible refine Agr.un ?_) | ((with_reducible refine Agr.os ?_ ?_); rfl) | ((with_reducible refine Agr.uc ?_ ?_); rfl))), ⟨rfl, trivial⟩, ⟨G290, (fun x hx => L291 x (List.mem_cons_of_mem _ hx)), (s292.go (Keep.refl _ _) (fun x hx _ => (List.mem_cons_of_mem _ hx))), (s293.go (Keep.refl _ _) (fun x hx _ => (List.mem_cons_of_mem _ hx))), (s294.go (Keep.refl _ _) (fun x hx _ => (List.mem_cons_of_mem _ hx))), B295, (by rw [take_snoc gp300, meetAll_snoc, meet_not h307]; exact B296), (o297.go (Keep.refl _ _) (fun x hx _ => (List.mem_cons_of_mem _ hx))), z298, by omega⟩, (by omega)⟩
              · skip
                have qh299 : Value.bool (decide (((i : Nat) : Int) < (al.length : Nat))) = Value.bool false := by rw [decide_eq_false h299]
                refine wc_exit ?_
                refine then_exit ?_
                refine then_exit ?_
                refine inBlock_eq ?_
                refine then_normal ?_
                refine wc_seq ?_
                refine wc_region ?_
                refine wl_ok (r_move (v := (.map (some b287))) rfl) ?_
                refine wl_ok (r_len_mapS MapOf31 rfl B296) ?_
                refine wl_ok (r_move (v := v236) rfl) ?_
                refine wl_ok (r_len_rd (v := v236) SliceOf24 rfl s294) ?_
                refine wl_ok (r_eql (p := ((meetAll [] (al.take i)).length : Nat)) (q := ((reach l from_).1.length : Nat)) rfl rfl) ?_
                refine wl_ok (r_assign (v := (.bool (decide ((((meetAll [] (al.take i)).length : Nat) : Int) = ((reach l from_).1.length : Nat))))) rfl) ?_
                refine wl_nil ?_
                refine then_normal ?_
                refine wc_ret ?_
                refine fin1 (v := (.bool (decide ((((meetAll [] (al.take i)).length : Nat) : Int) = ((reach l from_).1.length : Nat))))) Try.results4 rfl ?_
                have a312 : (((meetAll [] (al.take i)).length : Nat) : Int) = ((reach l from_).1.length : Nat) := (by rw [List.take_of_length_le (by omega), hal]; exact congrArg Nat.cast (closed_len hC))
                have qa312 : Value.bool (decide ((((meetAll [] (al.take i)).length : Nat) : Int) = ((reach l from_).1.length : Nat))) = Value.bool true := by rw [decide_eq_true a312]
                exact ⟨congrArg Ending.returned qa312, G290⟩

end Go.Proofs.Ytkjajililnbimaa
